import Derived.Test.YthbficbpebiekaaGreatZ0
import Derived.Test.YthbficbpebiekaaGreatProg
import Derived.Test.YthbficbpebiekaaGreatZ3
set_option linter.all false
namespace Go.Proofs.YthbficbpebiekaaGreat
open Go.KL
def wAB (x:wAA):List Value:=[.int .i64 x.Bib,.int .i64 x.Time,.int .i64 x.Gate]
def wAE (x:wAC):List Value:=[.int .i64 x.Bib,.int .i64 x.Time,.int .i64 x.Gate]
def wJA (U:PHeap) (x:wAA) (vs:List Value):Prop:=vs=[.agg #[.int .i64 x.Bib,.int .i64 x.Time,.int .i64 x.Gate]]
def wJB (U:PHeap) (L_:List Res) (v:Value) (y:Bool):Prop:=v=.bool y/\L_=[]
def wPM (x:Int):Value:=.int .i64 x
def mv74 (x:Bool):Value:=.bool x
def wPN (U:PHeap) (x:(wAA × wAA)) (vs:List Value):Prop:=vs=[.agg #[.int .i64 x.1.Bib,.int .i64 x.1.Time,.int .i64 x.1.Gate],.agg #[.int .i64 x.2.Bib,.int .i64 x.2.Time,.int .i64 x.2.Gate]]
def wPO (U:PHeap) (L_:List Res) (v:Value) (y:Bool):Prop:=v=.bool y/\L_=[]
theorem Tryz.mixed:Tryz.prog.follows .mixedOrders=true:=by kernel_rfl
theorem wDf:Tryz.prog.info? 3=some Tryz.t3:=by kernel_rfl
theorem wHr:Tryz.prog.info? 105=some Tryz.t105:=by kernel_rfl
theorem wOA:Tryz.prog.info? 239=some Tryz.t239:=by kernel_rfl
theorem wPP (d:Nat) (x y:wAA) (w:World):(Op.equalIn (d + 2) 105 (.agg (wAB x).toArray) (.agg (wAB y).toArray)).run Tryz.prog w=.ok (decide (x=y)) w:=by
 obtain ⟨x0,x1,x2⟩:=x
 obtain ⟨y0,y1,y2⟩:=y
 rw [run_equalIn_agg w (d + 1) 105 _ _ (wIh Tryz.runUnderlying105) (by kernel_rfl),wEo Tryz.runUnderlying105]
 by_cases h0:x0=y0 <;> by_cases h1:x1=y1 <;> by_cases h2:x2=y2 <;> simp [Op.eqFields,part,wAB,Result.andThen,Tryz.isAgg3,h0,run_equalIn_int _ (d + 0) 3 .i64 .i64 _ _ (wFg Tryz.runUnderlying3),h1,h2]
theorem wMp:Tryz.prog.eqGuardType Tryz.prog.depth 105=false:=by kernel_rfl
theorem wMq:EqT Tryz.prog 105 wAB:=fun x y w=>by
 unfold Op.equal Op.maxDepth;exact wPP 9998 x y w
theorem wMr:KeyR Tryz.prog 3 wPM:=KeyR.ofInt (wFg Tryz.runUnderlying3)
end Go.Proofs.YthbficbpebiekaaGreat
