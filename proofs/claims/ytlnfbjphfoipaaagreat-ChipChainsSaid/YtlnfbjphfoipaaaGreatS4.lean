import Derived.Test.YtlnfbjphfoipaaaGreatS0
import Derived.Test.YtlnfbjphfoipaaaGreatS1
import Derived.Test.YtlnfbjphfoipaaaGreatProg
import Derived.Test.YtlnfbjphfoipaaaGreatS3
set_option linter.all false
namespace Go.Proofs.YtlnfbjphfoipaaaGreat
open Go.KL
def wAD (x:wAO):List Value:=[.int .i64 x.Lo,.int .i64 x.Hi]
def wAF (x:wAi):List Value:=[.int .i64 x.Offset.Lo,.int .i64 x.Offset.Hi,.int .i64 x.Error]
def wAB (x:wAK):List Value:=[.int .i64 x.Skier,.int .i64 x.Mat,.int .i64 x.Clock,.int .i64 x.Time]
def wAY (x:wAM):List Value:=[.int .i64 x.Skier,.int .i64 x.Mat]
def wKf (φ:PHeap) (x:Int) (vs:List Value):Prop:=vs=[.int .i64 x]
def wKg (φ:PHeap) (L_:List Res) (v:Value) (y:Bool):Prop:=v=.bool y/\L_=[]
def wOg (φ:PHeap) (x:wAO) (vs:List Value):Prop:=vs=[.agg #[.int .i64 x.Lo,.int .i64 x.Hi]]
def wOh (φ:PHeap) (L_:List Res) (v:Value) (y:Bool):Prop:=v=.bool y/\L_=[]
def wOi (φ:PHeap) (x:wAi) (vs:List Value):Prop:=vs=[.agg #[.int .i64 x.Offset.Lo,.int .i64 x.Offset.Hi,.int .i64 x.Error]]
def wOj (φ:PHeap) (L_:List Res) (v:Value) (y:Bool):Prop:=v=.bool y/\L_=[]
def wKh (φ:PHeap) (x:wAK) (vs:List Value):Prop:=vs=[.agg #[.int .i64 x.Skier,.int .i64 x.Mat,.int .i64 x.Clock,.int .i64 x.Time]]
def wKi (φ:PHeap) (L_:List Res) (v:Value) (y:Bool):Prop:=v=.bool y/\L_=[]
def wCP (x:wAH):List Value:=[.int .i64 x.skier,.int .i64 x.mat]
def wAJ (x:wAC):List Value:=[.int .i64 x.Kind,.int .i64 x.Skier,.int .i64 x.Index,.bool x.Up]
def wMU (φ:PHeap) (x:wAC) (vs:List Value):Prop:=vs=[.agg #[.int .i64 x.Kind,.int .i64 x.Skier,.int .i64 x.Index,.bool x.Up]]
def wOk (φ:PHeap) (L_:List Res) (v:Value) (y:Bool):Prop:=v=.bool y/\L_=[]
def wBU (x:wAH):Value:=.agg #[.int .i64 x.skier,.int .i64 x.mat]
def wBc (x:Int):Value:=.int .i64 x
def wAP (x:wAX):List Value:=[.int .i64 x.step.Kind,.int .i64 x.step.Skier,.int .i64 x.step.Index,.bool x.step.Up,.int .i64 x.from_,.int .i64 x.to_,.int .i64 x.count]
def wNY (φ:PHeap) (x:wAM) (vs:List Value):Prop:=vs=[.agg #[.int .i64 x.Skier,.int .i64 x.Mat]]
def wNZ (φ:PHeap) (L_:List Res) (v:Value) (y:Bool):Prop:=v=.bool y/\L_=[]
def wMw:Rl (List Int) where
 sz:=1
 r:=fun φ x vs=>∃ (pA:Option Addr) (pc:Nat),vs=[.slice pA x.length pc]/\Sl φ 1 pA pc x.length (List.flatMap KL.encI x)
 mono:=by rintro φ φ' x vs ⟨pA,pc,rfl,h0⟩ hl;exact ⟨pA,pc,rfl,h0.le hl⟩
 len:=by rintro φ x vs ⟨_,_,rfl,_⟩;rfl
 one:=by rintro φ x vs ⟨_,_,rfl,h0⟩;rfl
def wMV (φ:PHeap) (x:(Int × wAK)) (vs:List Value):Prop:=vs=[.int .i64 x.1,.agg #[.int .i64 x.2.Skier,.int .i64 x.2.Mat,.int .i64 x.2.Clock,.int .i64 x.2.Time]]
def wMW (φ:PHeap) (L_:List Res) (v:Value) (y:Bool):Prop:=v=.bool y/\L_=[]
def wAN (x:wBH):List Value:=[.int .i64 x.Offset.Lo,.int .i64 x.Offset.Hi,.int .i64 x.Error]
def wAL (x:wAy):List Value:=[.int .i64 x.Skier,.int .i64 x.Mat,.int .i64 x.Clock,.int .i64 x.Time]
def wAT (x:wAd):List Value:=[.int .i64 x.Kind,.int .i64 x.Skier,.int .i64 x.Index,.bool x.Up]
theorem Tryz.mixed:Tryz.prog.follows .mixedOrders=true:=by kernel_rfl
theorem wKJ:wEB Tryz.prog 27 [(0,1),(1,1),(2,1),(3,1)]:=⟨_,Tryz.runUnderlying27,fun w=>by simp [Tryz.sizeOf22,Tryz.sizeOf23,Tryz.sizeOf24,Tryz.sizeOf25]⟩
theorem wFt:wEB Tryz.prog 29 [(0,1),(1,1)]:=⟨_,Tryz.runUnderlying29,fun w=>by simp [Tryz.sizeOf3]⟩
theorem wIb:wEB Tryz.prog 36 [(0,1),(1,1),(2,1),(3,1)]:=⟨_,Tryz.runUnderlying36,fun w=>by simp [Tryz.sizeOf22,Tryz.sizeOf23,Tryz.sizeOf33,Tryz.sizeOf34]⟩
theorem wCu:wEB Tryz.prog 39 [(0,1),(1,1)]:=⟨_,Tryz.runUnderlying39,fun w=>by simp [Tryz.sizeOf3]⟩
theorem wEV:wEB Tryz.prog 93 [(0,1),(1,1),(2,1),(3,1)]:=⟨_,Tryz.runUnderlying93,fun w=>by simp [Tryz.sizeOf91,Tryz.sizeOf3,Tryz.sizeOf4]⟩
theorem wLX:wEB Tryz.prog 112 [(0,2),(2,1)]:=⟨_,Tryz.runUnderlying112,fun w=>by simp [Tryz.sizeOf39,Tryz.sizeOf3]⟩
theorem wHY:wEB Tryz.prog 115 [(0,1),(1,1),(2,1),(3,1)]:=⟨_,Tryz.runUnderlying115,fun w=>by simp [Tryz.sizeOf3]⟩
theorem wBv:wEB Tryz.prog 123 [(0,1),(1,1)]:=⟨_,Tryz.runUnderlying123,fun w=>by simp [Tryz.sizeOf3]⟩
theorem wJH:wEB Tryz.prog 133 [(0,1),(1,1)]:=⟨_,Tryz.runUnderlying133,fun w=>by simp [Tryz.sizeOf22]⟩
theorem wGe:wEB Tryz.prog 139 [(0,4),(4,1),(5,1)]:=⟨_,Tryz.runUnderlying139,fun w=>by simp [Tryz.sizeOf27,Tryz.sizeOf136,Tryz.sizeOf137]⟩
theorem wLY:wEB Tryz.prog 179 [(0,1),(1,1),(2,1),(3,1)]:=⟨_,Tryz.runUnderlying179,fun w=>by simp [Tryz.sizeOf3,Tryz.sizeOf4]⟩
theorem wLZ:wEB Tryz.prog 184 [(0,4),(4,1),(5,1),(6,1)]:=⟨_,Tryz.runUnderlying184,fun w=>by simp [Tryz.sizeOf93,Tryz.sizeOf3]⟩
theorem wLa:wEB Tryz.prog 188 [(0,1)]:=⟨_,Tryz.runUnderlying188,fun w=>by simp [Tryz.sizeOf49]⟩
theorem wGf:wEB Tryz.prog 200 [(0,1),(1,1),(2,1)]:=⟨_,Tryz.runUnderlying200,fun w=>by simp [Tryz.sizeOf196,Tryz.sizeOf197,Tryz.sizeOf198]⟩
theorem wKj:Tryz.prog.info? 3=some Tryz.t3:=by kernel_rfl
theorem wMx:Tryz.prog.info? 22=some Tryz.t22:=by kernel_rfl
theorem wOl:Tryz.prog.info? 29=some Tryz.t29:=by kernel_rfl
theorem wMy:Tryz.prog.info? 39=some Tryz.t39:=by kernel_rfl
theorem wMz:Tryz.prog.info? 93=some Tryz.t93:=by kernel_rfl
theorem wNa:Tryz.prog.info? 112=some Tryz.t112:=by kernel_rfl
theorem wJo:Tryz.prog.info? 115=some Tryz.t115:=by kernel_rfl
theorem wNb:Tryz.prog.info? 116=some Tryz.t116:=by kernel_rfl
theorem wNc:Tryz.prog.info? 117=some Tryz.t117:=by kernel_rfl
theorem wNd:Tryz.prog.info? 179=some Tryz.t179:=by kernel_rfl
theorem wJp:Tryz.prog.info? 184=some Tryz.t184:=by kernel_rfl
theorem eqS29 (d:Nat) (x y:wAM) (w:World):(Op.equalIn (d + 2) 29 (.agg (wAY x).toArray) (.agg (wAY y).toArray)).run Tryz.prog w=.ok (decide (x=y)) w:=by
 obtain ⟨x0,x1⟩:=x
 obtain ⟨y0,y1⟩:=y
 rw [run_equalIn_agg w (d + 1) 29 _ _ (wEn Tryz.runUnderlying29) (by kernel_rfl),wEC Tryz.runUnderlying29]
 by_cases h0:x0=y0 <;> by_cases h1:x1=y1 <;> simp [Op.eqFields,part,wAY,Result.andThen,Tryz.isAgg3,h0,run_equalIn_int _ (d + 0) 3 .i64 .i64 _ _ (wBj Tryz.runUnderlying3),h1]
theorem wOm:Tryz.prog.eqGuardType Tryz.prog.depth 29=false:=by kernel_rfl
theorem wOn:EqT Tryz.prog 29 wAY:=fun x y w=>by
 unfold Op.equal Op.maxDepth;exact eqS29 9998 x y w
theorem wOo (d:Nat) (x y:wAO) (w:World):(Op.equalIn (d + 2) 39 (.agg (wAD x).toArray) (.agg (wAD y).toArray)).run Tryz.prog w=.ok (decide (x=y)) w:=by
 obtain ⟨x0,x1⟩:=x
 obtain ⟨y0,y1⟩:=y
 rw [run_equalIn_agg w (d + 1) 39 _ _ (wEn Tryz.runUnderlying39) (by kernel_rfl),wEC Tryz.runUnderlying39]
 by_cases h0:x0=y0 <;> by_cases h1:x1=y1 <;> simp [Op.eqFields,part,wAD,Result.andThen,Tryz.isAgg3,h0,run_equalIn_int _ (d + 0) 3 .i64 .i64 _ _ (wBj Tryz.runUnderlying3),h1]
theorem wMX:Tryz.prog.eqGuardType Tryz.prog.depth 39=false:=by kernel_rfl
theorem wMY:EqT Tryz.prog 39 wAD:=fun x y w=>by
 unfold Op.equal Op.maxDepth;exact wOo 9998 x y w
theorem eqS93 (d:Nat) (x y:wAC) (w:World):(Op.equalIn (d + 2) 93 (.agg (wAJ x).toArray) (.agg (wAJ y).toArray)).run Tryz.prog w=.ok (decide (x=y)) w:=by
 obtain ⟨x0,x1,x2,x3⟩:=x
 obtain ⟨y0,y1,y2,y3⟩:=y
 rw [run_equalIn_agg w (d + 1) 93 _ _ (wEn Tryz.runUnderlying93) (by kernel_rfl),wEC Tryz.runUnderlying93]
 by_cases h0:x0=y0 <;> by_cases h1:x1=y1 <;> by_cases h2:x2=y2 <;> by_cases h3:x3=y3 <;> simp [Op.eqFields,part,wAJ,Result.andThen,Tryz.isAgg91,h0,run_equalIn_int _ (d + 0) 91 .i64 .i64 _ _ (wBj Tryz.runUnderlying91),Tryz.isAgg3,h1,run_equalIn_int _ (d + 0) 3 .i64 .i64 _ _ (wBj Tryz.runUnderlying3),h2,Tryz.isAgg4,h3,run_equalIn_bool _ (d + 0) 4 _ _ (wBj Tryz.runUnderlying4)]
theorem eqG93:Tryz.prog.eqGuardType Tryz.prog.depth 93=false:=by kernel_rfl
theorem eqT93:EqT Tryz.prog 93 wAJ:=fun x y w=>by
 unfold Op.equal Op.maxDepth;exact eqS93 9998 x y w
theorem wOp (d:Nat) (x y:wAi) (w:World):(Op.equalIn (d + 3) 112 (.agg (wAF x).toArray) (.agg (wAF y).toArray)).run Tryz.prog w=.ok (decide (x=y)) w:=by
 obtain ⟨x0,x1⟩:=x
 obtain ⟨y0,y1⟩:=y
 have e0:=fun w=>wOo (d + 0) x0 y0 w
 rw [run_equalIn_agg w (d + 2) 112 _ _ (wEn Tryz.runUnderlying112) (by kernel_rfl),wEC Tryz.runUnderlying112]
 by_cases h0:x0=y0 <;> by_cases h1:x1=y1 <;> simp only [h0,wAD,decide_true,decide_false] at e0 <;> simp [Op.eqFields,part,wAF,Result.andThen,Tryz.isAgg39,h0,e0,Tryz.sizeOf39,wAD,Tryz.isAgg3,h1,run_equalIn_int _ (d + 1) 3 .i64 .i64 _ _ (wBj Tryz.runUnderlying3)]
theorem wOq:Tryz.prog.eqGuardType Tryz.prog.depth 112=false:=by kernel_rfl
theorem wOr:EqT Tryz.prog 112 wAF:=fun x y w=>by
 unfold Op.equal Op.maxDepth;exact wOp 9997 x y w
theorem wOs (d:Nat) (x y:wAK) (w:World):(Op.equalIn (d + 2) 115 (.agg (wAB x).toArray) (.agg (wAB y).toArray)).run Tryz.prog w=.ok (decide (x=y)) w:=by
 obtain ⟨x0,x1,x2,x3⟩:=x
 obtain ⟨y0,y1,y2,y3⟩:=y
 rw [run_equalIn_agg w (d + 1) 115 _ _ (wEn Tryz.runUnderlying115) (by kernel_rfl),wEC Tryz.runUnderlying115]
 by_cases h0:x0=y0 <;> by_cases h1:x1=y1 <;> by_cases h2:x2=y2 <;> by_cases h3:x3=y3 <;> simp [Op.eqFields,part,wAB,Result.andThen,Tryz.isAgg3,h0,run_equalIn_int _ (d + 0) 3 .i64 .i64 _ _ (wBj Tryz.runUnderlying3),h1,h2,h3]
theorem wOt:Tryz.prog.eqGuardType Tryz.prog.depth 115=false:=by kernel_rfl
theorem wOu:EqT Tryz.prog 115 wAB:=fun x y w=>by
 unfold Op.equal Op.maxDepth;exact wOs 9998 x y w
theorem wOv (d:Nat) (x y:wAH) (w:World):(Op.equalIn (d + 2) 123 (.agg (wCP x).toArray) (.agg (wCP y).toArray)).run Tryz.prog w=.ok (decide (x=y)) w:=by
 obtain ⟨x0,x1⟩:=x
 obtain ⟨y0,y1⟩:=y
 rw [run_equalIn_agg w (d + 1) 123 _ _ (wEn Tryz.runUnderlying123) (by kernel_rfl),wEC Tryz.runUnderlying123]
 by_cases h0:x0=y0 <;> by_cases h1:x1=y1 <;> simp [Op.eqFields,part,wCP,Result.andThen,Tryz.isAgg3,h0,run_equalIn_int _ (d + 0) 3 .i64 .i64 _ _ (wBj Tryz.runUnderlying3),h1]
theorem wLb:Tryz.prog.eqGuardType Tryz.prog.depth 123=false:=by kernel_rfl
theorem wLc:EqT Tryz.prog 123 wCP:=fun x y w=>by
 unfold Op.equal Op.maxDepth;exact wOv 9998 x y w
theorem wDF:KeyR Tryz.prog 123 wBU:=Two.keyR (k:=.i64) ⟨wBj Tryz.runUnderlying123,rfl,rfl,by decide,rfl,rfl,by decide,wBj Tryz.runUnderlying3,Tryz.isAgg3,by kernel_rfl⟩ wBU (·.skier) (·.mat) (fun _=>rfl) (fun x y h1 h2=>by cases x;cases y;cases h1;cases h2;rfl)
end Go.Proofs.YtlnfbjphfoipaaaGreat
