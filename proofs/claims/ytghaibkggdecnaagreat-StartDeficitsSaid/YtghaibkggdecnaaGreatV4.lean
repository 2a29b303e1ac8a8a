import Derived.Test.YtghaibkggdecnaaGreatV0
import Derived.Test.YtghaibkggdecnaaGreatProg
import Derived.Test.YtghaibkggdecnaaGreatV3
set_option linter.all false
namespace Go.Proofs.YtghaibkggdecnaaGreat
open Go.KL
def wAH (x:wAA):List Value:=[.int .i64 x.Bib,.int .i64 x.Time]
def wPO (U:PHeap) (x:wAA) (vs:List Value):Prop:=vs=[.agg #[.int .i64 x.Bib,.int .i64 x.Time]]
def wPP (U:PHeap) (L_:List Res) (v:Value) (y:Bool):Prop:=v=.bool y/\L_=[]
def wLP (x:Int):Value:=.int .i64 x
def wMK (x:Bool):Value:=.bool x
def wNz (U:PHeap) (x:(Int × Int)) (vs:List Value):Prop:=vs=[.int .i64 x.1,.int .i64 x.2]
def wOA (U:PHeap) (L_:List Res) (v:Value) (y:Int):Prop:=v=.int .i64 y/\L_=[]
def wAM (x:wAB):List Value:=[.int .i64 x.Bib,.int .i64 x.Time,.int .i64 x.Gate]
def wPQ (U:PHeap) (x:wAB) (vs:List Value):Prop:=vs=[.agg #[.int .i64 x.Bib,.int .i64 x.Time,.int .i64 x.Gate]]
def wPR (U:PHeap) (L_:List Res) (v:Value) (y:Bool):Prop:=v=.bool y/\L_=[]
theorem Tryz.mixed:Tryz.prog.follows .mixedOrders=true:=by kernel_rfl
theorem wIr:wEy Tryz.prog 24 [(0,1),(1,1)]:=⟨_,Tryz.runUnderlying24,fun w=>by simp [Tryz.sizeOf3]⟩
theorem wML:wEy Tryz.prog 28 [(0,1),(1,1)]:=⟨_,Tryz.runUnderlying28,fun w=>by simp [Tryz.sizeOf3]⟩
theorem wMM:wEy Tryz.prog 54 [(0,1),(1,1),(2,1)]:=⟨_,Tryz.runUnderlying54,fun w=>by simp [Tryz.sizeOf3]⟩
theorem wLQ:wEy Tryz.prog 136 [(0,1),(1,1),(2,1)]:=⟨_,Tryz.runUnderlying136,fun w=>by simp [Tryz.sizeOf46,Tryz.sizeOf3,Tryz.sizeOf134]⟩
theorem wDl:Tryz.prog.info? 3=some Tryz.t3:=by kernel_rfl
theorem wMv:Tryz.prog.info? 28=some Tryz.t28:=by kernel_rfl
theorem wPS:Tryz.prog.info? 54=some Tryz.t54:=by kernel_rfl
theorem eqS54 (d:Nat) (x y:wAB) (w:World):(Op.equalIn (d + 2) 54 (.agg (wAM x).toArray) (.agg (wAM y).toArray)).run Tryz.prog w=.ok (decide (x=y)) w:=by
 obtain ⟨x0,x1,x2⟩:=x
 obtain ⟨y0,y1,y2⟩:=y
 rw [run_equalIn_agg w (d + 1) 54 _ _ (wJH Tryz.runUnderlying54) (by kernel_rfl),wFA Tryz.runUnderlying54]
 by_cases h0:x0=y0 <;> by_cases h1:x1=y1 <;> by_cases h2:x2=y2 <;> simp [Op.eqFields,part,wAM,Result.andThen,Tryz.isAgg3,h0,run_equalIn_int _ (d + 0) 3 .i64 .i64 _ _ (wFv Tryz.runUnderlying3),h1,h2]
theorem eqG54:Tryz.prog.eqGuardType Tryz.prog.depth 54=false:=by kernel_rfl
theorem eqT54:EqT Tryz.prog 54 wAM:=fun x y w=>by
 unfold Op.equal Op.maxDepth;exact eqS54 9998 x y w
theorem wLR:KeyR Tryz.prog 3 wLP:=KeyR.ofInt (wFv Tryz.runUnderlying3)
end Go.Proofs.YtghaibkggdecnaaGreat
