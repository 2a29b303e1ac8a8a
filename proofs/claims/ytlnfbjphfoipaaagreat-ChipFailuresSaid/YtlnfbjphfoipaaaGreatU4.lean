import Derived.Test.YtlnfbjphfoipaaaGreatU0
import Derived.Test.YtlnfbjphfoipaaaGreatU1
import Derived.Test.YtlnfbjphfoipaaaGreatProg
import Derived.Test.YtlnfbjphfoipaaaGreatU3
set_option linter.all false
namespace Go.Proofs.YtlnfbjphfoipaaaGreat
open Go.KL
def wAC (x:wAN):List Value:=[.int .i64 x.Lo,.int .i64 x.Hi]
def wAE (x:wAd):List Value:=[.int .i64 x.Offset.Lo,.int .i64 x.Offset.Hi,.int .i64 x.Error]
def wAB (x:wAJ):List Value:=[.int .i64 x.Skier,.int .i64 x.Mat,.int .i64 x.Clock,.int .i64 x.Time]
def wAT (x:wAL):List Value:=[.int .i64 x.Skier,.int .i64 x.Mat]
def wOQ (U:PHeap) (x:Int) (vs:List Value):Prop:=vs=[.int .i64 x]
def wOR (U:PHeap) (L_:List Res) (v:Value) (y:Bool):Prop:=v=.bool y/\L_=[]
def wOS (U:PHeap) (x:wAN) (vs:List Value):Prop:=vs=[.agg #[.int .i64 x.Lo,.int .i64 x.Hi]]
def wOT (U:PHeap) (L_:List Res) (v:Value) (y:Bool):Prop:=v=.bool y/\L_=[]
def wOU (U:PHeap) (x:wAd) (vs:List Value):Prop:=vs=[.agg #[.int .i64 x.Offset.Lo,.int .i64 x.Offset.Hi,.int .i64 x.Error]]
def wOV (U:PHeap) (L_:List Res) (v:Value) (y:Bool):Prop:=v=.bool y/\L_=[]
def wKg (U:PHeap) (x:wAJ) (vs:List Value):Prop:=vs=[.agg #[.int .i64 x.Skier,.int .i64 x.Mat,.int .i64 x.Clock,.int .i64 x.Time]]
def wKh (U:PHeap) (L_:List Res) (v:Value) (y:Bool):Prop:=v=.bool y/\L_=[]
def wCD (x:wAI):List Value:=[.int .i64 x.skier,.int .i64 x.mat]
def wCA (x:wAH):List Value:=[.int .i64 x.Kind,.int .i64 x.Skier,.int .i64 x.Index,.bool x.Up]
def wMD (U:PHeap) (x:wAH) (vs:List Value):Prop:=vs=[.agg #[.int .i64 x.Kind,.int .i64 x.Skier,.int .i64 x.Index,.bool x.Up]]
def wOW (U:PHeap) (L_:List Res) (v:Value) (y:Bool):Prop:=v=.bool y/\L_=[]
def wBW (x:wAI):Value:=.agg #[.int .i64 x.skier,.int .i64 x.mat]
def wBe (x:Int):Value:=.int .i64 x
def wAO (x:wAg):List Value:=[.int .i64 x.step.Kind,.int .i64 x.step.Skier,.int .i64 x.step.Index,.bool x.step.Up,.int .i64 x.from_,.int .i64 x.to_,.int .i64 x.count]
def wNI (U:PHeap) (x:wAL) (vs:List Value):Prop:=vs=[.agg #[.int .i64 x.Skier,.int .i64 x.Mat]]
def wNJ (U:PHeap) (L_:List Res) (v:Value) (y:Bool):Prop:=v=.bool y/\L_=[]
def wMj:Rl (List Int) where
 sz:=1
 r:=fun U x vs=>∃ (pA:Option Addr) (pc:Nat),vs=[.slice pA x.length pc]/\Sl U 1 pA pc x.length (List.flatMap KL.encI x)
 mono:=by rintro U U' x vs ⟨pA,pc,rfl,h0⟩ hl;exact ⟨pA,pc,rfl,h0.le hl⟩
 len:=by rintro U x vs ⟨_,_,rfl,_⟩;rfl
 one:=by rintro U x vs ⟨_,_,rfl,h0⟩;rfl
def wKi (U:PHeap) (x:(Int × wAJ)) (vs:List Value):Prop:=vs=[.int .i64 x.1,.agg #[.int .i64 x.2.Skier,.int .i64 x.2.Mat,.int .i64 x.2.Clock,.int .i64 x.2.Time]]
def wKj (U:PHeap) (L_:List Res) (v:Value) (y:Bool):Prop:=v=.bool y/\L_=[]
def wAM (x:wBA):List Value:=[.int .i64 x.Offset.Lo,.int .i64 x.Offset.Hi,.int .i64 x.Error]
def wAF (x:wAn):List Value:=[.int .i64 x.Skier,.int .i64 x.Mat,.int .i64 x.Clock,.int .i64 x.Time]
def wAX (x:wAR):List Value:=[.int .i64 x.Skier,.int .i64 x.Mat]
theorem Tryz.mixed:Tryz.prog.follows .mixedOrders=true:=by kernel_rfl
theorem wKH:wDg Tryz.prog 27 [(0,1),(1,1),(2,1),(3,1)]:=⟨_,Tryz.runUnderlying27,fun w=>by simp [Tryz.sizeOf22,Tryz.sizeOf23,Tryz.sizeOf24,Tryz.sizeOf25]⟩
theorem wFX:wDg Tryz.prog 29 [(0,1),(1,1)]:=⟨_,Tryz.runUnderlying29,fun w=>by simp [Tryz.sizeOf3]⟩
theorem wGK:wDg Tryz.prog 36 [(0,1),(1,1),(2,1),(3,1)]:=⟨_,Tryz.runUnderlying36,fun w=>by simp [Tryz.sizeOf22,Tryz.sizeOf23,Tryz.sizeOf33,Tryz.sizeOf34]⟩
theorem wCn:wDg Tryz.prog 39 [(0,1),(1,1)]:=⟨_,Tryz.runUnderlying39,fun w=>by simp [Tryz.sizeOf3]⟩
theorem wME:wDg Tryz.prog 44 [(0,1),(1,1)]:=⟨_,Tryz.runUnderlying44,fun w=>by simp [Tryz.sizeOf3]⟩
theorem wED:wDg Tryz.prog 93 [(0,1),(1,1),(2,1),(3,1)]:=⟨_,Tryz.runUnderlying93,fun w=>by simp [Tryz.sizeOf91,Tryz.sizeOf3,Tryz.sizeOf4]⟩
theorem wLP:wDg Tryz.prog 112 [(0,2),(2,1)]:=⟨_,Tryz.runUnderlying112,fun w=>by simp [Tryz.sizeOf39,Tryz.sizeOf3]⟩
theorem wHO:wDg Tryz.prog 115 [(0,1),(1,1),(2,1),(3,1)]:=⟨_,Tryz.runUnderlying115,fun w=>by simp [Tryz.sizeOf3]⟩
theorem wBg:wDg Tryz.prog 123 [(0,1),(1,1)]:=⟨_,Tryz.runUnderlying123,fun w=>by simp [Tryz.sizeOf3]⟩
theorem wIx:wDg Tryz.prog 133 [(0,1),(1,1)]:=⟨_,Tryz.runUnderlying133,fun w=>by simp [Tryz.sizeOf22]⟩
theorem wGL:wDg Tryz.prog 139 [(0,4),(4,1),(5,1)]:=⟨_,Tryz.runUnderlying139,fun w=>by simp [Tryz.sizeOf27,Tryz.sizeOf136,Tryz.sizeOf137]⟩
theorem wLQ:wDg Tryz.prog 184 [(0,4),(4,1),(5,1),(6,1)]:=⟨_,Tryz.runUnderlying184,fun w=>by simp [Tryz.sizeOf93,Tryz.sizeOf3]⟩
theorem wLR:wDg Tryz.prog 188 [(0,1)]:=⟨_,Tryz.runUnderlying188,fun w=>by simp [Tryz.sizeOf49]⟩
theorem wGM:wDg Tryz.prog 200 [(0,1),(1,1),(2,1)]:=⟨_,Tryz.runUnderlying200,fun w=>by simp [Tryz.sizeOf196,Tryz.sizeOf197,Tryz.sizeOf198]⟩
theorem wHd:Tryz.prog.info? 3=some Tryz.t3:=by kernel_rfl
theorem wMk:Tryz.prog.info? 22=some Tryz.t22:=by kernel_rfl
theorem wOX:Tryz.prog.info? 29=some Tryz.t29:=by kernel_rfl
theorem wMl:Tryz.prog.info? 39=some Tryz.t39:=by kernel_rfl
theorem wOY:Tryz.prog.info? 44=some Tryz.t44:=by kernel_rfl
theorem wNK:Tryz.prog.info? 112=some Tryz.t112:=by kernel_rfl
theorem wJl:Tryz.prog.info? 115=some Tryz.t115:=by kernel_rfl
theorem wNL:Tryz.prog.info? 116=some Tryz.t116:=by kernel_rfl
theorem wJm:Tryz.prog.info? 117=some Tryz.t117:=by kernel_rfl
theorem wJn:Tryz.prog.info? 184=some Tryz.t184:=by kernel_rfl
theorem eqS29 (d:Nat) (x y:wAL) (w:World):(Op.equalIn (d + 2) 29 (.agg (wAT x).toArray) (.agg (wAT y).toArray)).run Tryz.prog w=.ok (decide (x=y)) w:=by
 obtain ⟨x0,x1⟩:=x
 obtain ⟨y0,y1⟩:=y
 rw [run_equalIn_agg w (d + 1) 29 _ _ (wEU Tryz.runUnderlying29) (by kernel_rfl),wDh Tryz.runUnderlying29]
 by_cases h0:x0=y0 <;> by_cases h1:x1=y1 <;> simp [Op.eqFields,part,wAT,Result.andThen,Tryz.isAgg3,h0,run_equalIn_int _ (d + 0) 3 .i64 .i64 _ _ (wBy Tryz.runUnderlying3),h1]
theorem wOZ:Tryz.prog.eqGuardType Tryz.prog.depth 29=false:=by kernel_rfl
theorem wOa:EqT Tryz.prog 29 wAT:=fun x y w=>by
 unfold Op.equal Op.maxDepth;exact eqS29 9998 x y w
theorem wOb (d:Nat) (x y:wAN) (w:World):(Op.equalIn (d + 2) 39 (.agg (wAC x).toArray) (.agg (wAC y).toArray)).run Tryz.prog w=.ok (decide (x=y)) w:=by
 obtain ⟨x0,x1⟩:=x
 obtain ⟨y0,y1⟩:=y
 rw [run_equalIn_agg w (d + 1) 39 _ _ (wEU Tryz.runUnderlying39) (by kernel_rfl),wDh Tryz.runUnderlying39]
 by_cases h0:x0=y0 <;> by_cases h1:x1=y1 <;> simp [Op.eqFields,part,wAC,Result.andThen,Tryz.isAgg3,h0,run_equalIn_int _ (d + 0) 3 .i64 .i64 _ _ (wBy Tryz.runUnderlying3),h1]
theorem wMF:Tryz.prog.eqGuardType Tryz.prog.depth 39=false:=by kernel_rfl
theorem wMG:EqT Tryz.prog 39 wAC:=fun x y w=>by
 unfold Op.equal Op.maxDepth;exact wOb 9998 x y w
theorem eqS44 (d:Nat) (x y:wAR) (w:World):(Op.equalIn (d + 2) 44 (.agg (wAX x).toArray) (.agg (wAX y).toArray)).run Tryz.prog w=.ok (decide (x=y)) w:=by
 obtain ⟨x0,x1⟩:=x
 obtain ⟨y0,y1⟩:=y
 rw [run_equalIn_agg w (d + 1) 44 _ _ (wEU Tryz.runUnderlying44) (by kernel_rfl),wDh Tryz.runUnderlying44]
 by_cases h0:x0=y0 <;> by_cases h1:x1=y1 <;> simp [Op.eqFields,part,wAX,Result.andThen,Tryz.isAgg3,h0,run_equalIn_int _ (d + 0) 3 .i64 .i64 _ _ (wBy Tryz.runUnderlying3),h1]
theorem eqG44:Tryz.prog.eqGuardType Tryz.prog.depth 44=false:=by kernel_rfl
theorem eqT44:EqT Tryz.prog 44 wAX:=fun x y w=>by
 unfold Op.equal Op.maxDepth;exact eqS44 9998 x y w
theorem wOc (d:Nat) (x y:wAd) (w:World):(Op.equalIn (d + 3) 112 (.agg (wAE x).toArray) (.agg (wAE y).toArray)).run Tryz.prog w=.ok (decide (x=y)) w:=by
 obtain ⟨x0,x1⟩:=x
 obtain ⟨y0,y1⟩:=y
 have e0:=fun w=>wOb (d + 0) x0 y0 w
 rw [run_equalIn_agg w (d + 2) 112 _ _ (wEU Tryz.runUnderlying112) (by kernel_rfl),wDh Tryz.runUnderlying112]
 by_cases h0:x0=y0 <;> by_cases h1:x1=y1 <;> simp only [h0,wAC,decide_true,decide_false] at e0 <;> simp [Op.eqFields,part,wAE,Result.andThen,Tryz.isAgg39,h0,e0,Tryz.sizeOf39,wAC,Tryz.isAgg3,h1,run_equalIn_int _ (d + 1) 3 .i64 .i64 _ _ (wBy Tryz.runUnderlying3)]
theorem wOd:Tryz.prog.eqGuardType Tryz.prog.depth 112=false:=by kernel_rfl
theorem wOe:EqT Tryz.prog 112 wAE:=fun x y w=>by
 unfold Op.equal Op.maxDepth;exact wOc 9997 x y w
theorem wOf (d:Nat) (x y:wAJ) (w:World):(Op.equalIn (d + 2) 115 (.agg (wAB x).toArray) (.agg (wAB y).toArray)).run Tryz.prog w=.ok (decide (x=y)) w:=by
 obtain ⟨x0,x1,x2,x3⟩:=x
 obtain ⟨y0,y1,y2,y3⟩:=y
 rw [run_equalIn_agg w (d + 1) 115 _ _ (wEU Tryz.runUnderlying115) (by kernel_rfl),wDh Tryz.runUnderlying115]
 by_cases h0:x0=y0 <;> by_cases h1:x1=y1 <;> by_cases h2:x2=y2 <;> by_cases h3:x3=y3 <;> simp [Op.eqFields,part,wAB,Result.andThen,Tryz.isAgg3,h0,run_equalIn_int _ (d + 0) 3 .i64 .i64 _ _ (wBy Tryz.runUnderlying3),h1,h2,h3]
theorem wOg:Tryz.prog.eqGuardType Tryz.prog.depth 115=false:=by kernel_rfl
theorem wOh:EqT Tryz.prog 115 wAB:=fun x y w=>by
 unfold Op.equal Op.maxDepth;exact wOf 9998 x y w
theorem wOi (d:Nat) (x y:wAI) (w:World):(Op.equalIn (d + 2) 123 (.agg (wCD x).toArray) (.agg (wCD y).toArray)).run Tryz.prog w=.ok (decide (x=y)) w:=by
 obtain ⟨x0,x1⟩:=x
 obtain ⟨y0,y1⟩:=y
 rw [run_equalIn_agg w (d + 1) 123 _ _ (wEU Tryz.runUnderlying123) (by kernel_rfl),wDh Tryz.runUnderlying123]
 by_cases h0:x0=y0 <;> by_cases h1:x1=y1 <;> simp [Op.eqFields,part,wCD,Result.andThen,Tryz.isAgg3,h0,run_equalIn_int _ (d + 0) 3 .i64 .i64 _ _ (wBy Tryz.runUnderlying3),h1]
theorem wLS:Tryz.prog.eqGuardType Tryz.prog.depth 123=false:=by kernel_rfl
theorem wLT:EqT Tryz.prog 123 wCD:=fun x y w=>by
 unfold Op.equal Op.maxDepth;exact wOi 9998 x y w
theorem wDZ:KeyR Tryz.prog 123 wBW:=Two.keyR (k:=.i64) ⟨wBy Tryz.runUnderlying123,rfl,rfl,by decide,rfl,rfl,by decide,wBy Tryz.runUnderlying3,Tryz.isAgg3,by kernel_rfl⟩ wBW (·.skier) (·.mat) (fun _=>rfl) (fun x y h1 h2=>by cases x;cases y;cases h1;cases h2;rfl)
end Go.Proofs.YtlnfbjphfoipaaaGreat
