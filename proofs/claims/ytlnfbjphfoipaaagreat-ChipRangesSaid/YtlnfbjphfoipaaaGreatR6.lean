import Derived.Test.YtlnfbjphfoipaaaGreatR1
import Derived.Test.YtlnfbjphfoipaaaGreatProg
import Derived.Test.YtlnfbjphfoipaaaGreatR5
import Derived.Test.YtlnfbjphfoipaaaGreatR4
set_option linter.all false
namespace Go.Proofs.YtlnfbjphfoipaaaGreat
open Go.KL
def wAB (x:wAL):List Value:=[.int .i64 x.Lo,.int .i64 x.Hi]
def wAD (x:wAb):List Value:=[.int .i64 x.Offset.Lo,.int .i64 x.Offset.Hi,.int .i64 x.Error]
def wAC (x:wAT):List Value:=[.int .i64 x.Skier,.int .i64 x.Mat,.int .i64 x.Clock,.int .i64 x.Time]
def wAF (x:wAw):List Value:=[.int .i64 x.Offset.Lo,.int .i64 x.Offset.Hi,.int .i64 x.Error]
def wAE (x:wAm):List Value:=[.int .i64 x.Skier,.int .i64 x.Mat,.int .i64 x.Clock,.int .i64 x.Time]
def wTh (U:PHeap) (x:Int) (vs:List Value):Prop:=vs=[.int .i64 x]
def wTi (U:PHeap) (L_:List Res) (v:Value) (y:Bool):Prop:=v=.bool y/\L_=[]
def wTj (U:PHeap) (x:wAL) (vs:List Value):Prop:=vs=[.agg #[.int .i64 x.Lo,.int .i64 x.Hi]]
def wTk (U:PHeap) (L_:List Res) (v:Value) (y:Bool):Prop:=v=.bool y/\L_=[]
def wTl (U:PHeap) (x:wAb) (vs:List Value):Prop:=vs=[.agg #[.int .i64 x.Offset.Lo,.int .i64 x.Offset.Hi,.int .i64 x.Error]]
def wTm (U:PHeap) (L_:List Res) (v:Value) (y:Bool):Prop:=v=.bool y/\L_=[]
def wSA (U:PHeap) (x:wAT) (vs:List Value):Prop:=vs=[.agg #[.int .i64 x.Skier,.int .i64 x.Mat,.int .i64 x.Clock,.int .i64 x.Time]]
def wSB (U:PHeap) (L_:List Res) (v:Value) (y:Bool):Prop:=v=.bool y/\L_=[]
def wBx (x:wAM):List Value:=[.int .i64 x.Skier,.int .i64 x.Mat]
def wIM (x:wAG):List Value:=[.int .i64 x.skier,.int .i64 x.mat]
def wTn (U:PHeap) (x:wAK) (vs:List Value):Prop:=vs=[.agg #[.int .i64 x.Kind,.int .i64 x.Skier,.int .i64 x.Index,.bool x.Up]]
def wBP (x:wAG):Value:=.agg #[.int .i64 x.skier,.int .i64 x.mat]
def wBV (x:Int):Value:=.int .i64 x
def wAY (x:wAd):List Value:=[.int .i64 x.step.Kind,.int .i64 x.step.Skier,.int .i64 x.step.Index,.bool x.step.Up,.int .i64 x.from_,.int .i64 x.to_,.int .i64 x.count]
def wSC (U:PHeap) (x:wAM) (vs:List Value):Prop:=vs=[.agg #[.int .i64 x.Skier,.int .i64 x.Mat]]
def wSD (U:PHeap) (L_:List Res) (v:Value) (y:Bool):Prop:=v=.bool y/\L_=[]
def wMD:Rl (List Int) where
 sz:=1
 r:=fun U x vs=>∃ (pA:Option Addr) (pc:Nat),vs=[.slice pA x.length pc]/\Sl U 1 pA pc x.length (List.flatMap KL.encI x)
 mono:=by rintro U U' x vs ⟨pA,pc,rfl,h0⟩ hl;exact ⟨pA,pc,rfl,h0.le hl⟩
 len:=by rintro U x vs ⟨_,_,rfl,_⟩;rfl
 one:=by rintro U x vs ⟨_,_,rfl,h0⟩;rfl
theorem Tryz.mixed:Tryz.prog.follows .mixedOrders=true:=by kernel_rfl
theorem wPq:wDy Tryz.prog 27 [(0,1),(1,1),(2,1),(3,1)]:=⟨_,Tryz.runUnderlying27,fun w=>by simp [Tryz.sizeOf22,Tryz.sizeOf23,Tryz.sizeOf24,Tryz.sizeOf25]⟩
theorem wPr:wDy Tryz.prog 29 [(0,1),(1,1)]:=⟨_,Tryz.runUnderlying29,fun w=>by simp [Tryz.sizeOf3]⟩
theorem wJe:wDy Tryz.prog 36 [(0,1),(1,1),(2,1),(3,1)]:=⟨_,Tryz.runUnderlying36,fun w=>by simp [Tryz.sizeOf22,Tryz.sizeOf23,Tryz.sizeOf33,Tryz.sizeOf34]⟩
theorem wCN:wDy Tryz.prog 39 [(0,1),(1,1)]:=⟨_,Tryz.runUnderlying39,fun w=>by simp [Tryz.sizeOf3]⟩
theorem wHW:wDy Tryz.prog 93 [(0,1),(1,1),(2,1),(3,1)]:=⟨_,Tryz.runUnderlying93,fun w=>by simp [Tryz.sizeOf91,Tryz.sizeOf3,Tryz.sizeOf4]⟩
theorem wBl:wDy Tryz.prog 123 [(0,1),(1,1)]:=⟨_,Tryz.runUnderlying123,fun w=>by simp [Tryz.sizeOf3]⟩
theorem wKK:wDy Tryz.prog 133 [(0,1),(1,1)]:=⟨_,Tryz.runUnderlying133,fun w=>by simp [Tryz.sizeOf22]⟩
theorem wGW:wDy Tryz.prog 139 [(0,4),(4,1),(5,1)]:=⟨_,Tryz.runUnderlying139,fun w=>by simp [Tryz.sizeOf27,Tryz.sizeOf136,Tryz.sizeOf137]⟩
theorem wOo:wDy Tryz.prog 184 [(0,4),(4,1),(5,1),(6,1)]:=⟨_,Tryz.runUnderlying184,fun w=>by simp [Tryz.sizeOf93,Tryz.sizeOf3]⟩
theorem wOp:wDy Tryz.prog 188 [(0,1)]:=⟨_,Tryz.runUnderlying188,fun w=>by simp [Tryz.sizeOf49]⟩
theorem wGX:wDy Tryz.prog 200 [(0,1),(1,1),(2,1)]:=⟨_,Tryz.runUnderlying200,fun w=>by simp [Tryz.sizeOf196,Tryz.sizeOf197,Tryz.sizeOf198]⟩
theorem wOq:Tryz.prog.info? 3=some Tryz.t3:=by kernel_rfl
theorem wQn:Tryz.prog.info? 22=some Tryz.t22:=by kernel_rfl
theorem wTo:Tryz.prog.info? 39=some Tryz.t39:=by kernel_rfl
theorem wSE:Tryz.prog.info? 112=some Tryz.t112:=by kernel_rfl
theorem wSF:Tryz.prog.info? 115=some Tryz.t115:=by kernel_rfl
theorem wSG:Tryz.prog.info? 116=some Tryz.t116:=by kernel_rfl
theorem wSH:Tryz.prog.info? 117=some Tryz.t117:=by kernel_rfl
theorem wLT:Tryz.prog.info? 184=some Tryz.t184:=by kernel_rfl
theorem wTp (d:Nat) (x y:wAL) (w:World):(Op.equalIn (d + 2) 39 (.agg (wAB x).toArray) (.agg (wAB y).toArray)).run Tryz.prog w=.ok (decide (x=y)) w:=by
 obtain ⟨x0,x1⟩:=x
 obtain ⟨y0,y1⟩:=y
 rw [run_equalIn_agg w (d + 1) 39 _ _ (wGn Tryz.runUnderlying39) (by kernel_rfl),wEl Tryz.runUnderlying39]
 by_cases h0:x0=y0 <;> by_cases h1:x1=y1 <;> simp [Op.eqFields,part,wAB,Result.andThen,Tryz.isAgg3,h0,run_equalIn_int _ (d + 0) 3 .i64 .i64 _ _ (wBn Tryz.runUnderlying3),h1]
theorem wPs:Tryz.prog.eqGuardType Tryz.prog.depth 39=false:=by kernel_rfl
theorem wPt:EqT Tryz.prog 39 wAB:=fun x y w=>by
 unfold Op.equal Op.maxDepth;exact wTp 9998 x y w
theorem wTq (d:Nat) (x y:wAb) (w:World):(Op.equalIn (d + 3) 112 (.agg (wAD x).toArray) (.agg (wAD y).toArray)).run Tryz.prog w=.ok (decide (x=y)) w:=by
 obtain ⟨x0,x1⟩:=x
 obtain ⟨y0,y1⟩:=y
 have e0:=fun w=>wTp (d + 0) x0 y0 w
 rw [run_equalIn_agg w (d + 2) 112 _ _ (wGn Tryz.runUnderlying112) (by kernel_rfl),wEl Tryz.runUnderlying112]
 by_cases h0:x0=y0 <;> by_cases h1:x1=y1 <;> simp only [h0,wAB,decide_true,decide_false] at e0 <;> simp [Op.eqFields,part,wAD,Result.andThen,Tryz.isAgg39,h0,e0,Tryz.sizeOf39,wAB,Tryz.isAgg3,h1,run_equalIn_int _ (d + 1) 3 .i64 .i64 _ _ (wBn Tryz.runUnderlying3)]
theorem wTr:Tryz.prog.eqGuardType Tryz.prog.depth 112=false:=by kernel_rfl
theorem wTs:EqT Tryz.prog 112 wAD:=fun x y w=>by
 unfold Op.equal Op.maxDepth;exact wTq 9997 x y w
theorem wTt (d:Nat) (x y:wAT) (w:World):(Op.equalIn (d + 2) 115 (.agg (wAC x).toArray) (.agg (wAC y).toArray)).run Tryz.prog w=.ok (decide (x=y)) w:=by
 obtain ⟨x0,x1,x2,x3⟩:=x
 obtain ⟨y0,y1,y2,y3⟩:=y
 rw [run_equalIn_agg w (d + 1) 115 _ _ (wGn Tryz.runUnderlying115) (by kernel_rfl),wEl Tryz.runUnderlying115]
 by_cases h0:x0=y0 <;> by_cases h1:x1=y1 <;> by_cases h2:x2=y2 <;> by_cases h3:x3=y3 <;> simp [Op.eqFields,part,wAC,Result.andThen,Tryz.isAgg3,h0,run_equalIn_int _ (d + 0) 3 .i64 .i64 _ _ (wBn Tryz.runUnderlying3),h1,h2,h3]
theorem wTu:Tryz.prog.eqGuardType Tryz.prog.depth 115=false:=by kernel_rfl
theorem wTv:EqT Tryz.prog 115 wAC:=fun x y w=>by
 unfold Op.equal Op.maxDepth;exact wTt 9998 x y w
theorem wCr:KeyR Tryz.prog 123 wBP:=Two.keyR (k:=.i64) ⟨wBn Tryz.runUnderlying123,rfl,rfl,by decide,rfl,rfl,by decide,wBn Tryz.runUnderlying3,Tryz.isAgg3,by kernel_rfl⟩ wBP (·.skier) (·.mat) (fun _=>rfl) (fun x y h1 h2=>by cases x;cases y;cases h1;cases h2;rfl)
end Go.Proofs.YtlnfbjphfoipaaaGreat
