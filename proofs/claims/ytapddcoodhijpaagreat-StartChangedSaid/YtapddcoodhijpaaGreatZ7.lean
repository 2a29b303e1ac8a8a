import Derived.Test.YtapddcoodhijpaaGreatZ0
import Derived.Test.YtapddcoodhijpaaGreatZ4
import Derived.Test.YtapddcoodhijpaaGreatProg
import Derived.Test.YtapddcoodhijpaaGreatZ5
import Derived.Test.YtapddcoodhijpaaGreatZ6
set_option linter.all false
namespace Go.Proofs.YtapddcoodhijpaaGreat
open Go.KL
def wAB (x:wAA):List Value:=[.int .i64 x.Bib,.int .i64 x.Time,.int .i64 x.Gate]
def wLA (U:PHeap) (x:wAA) (vs:List Value):Prop:=vs=[.agg #[.int .i64 x.Bib,.int .i64 x.Time,.int .i64 x.Gate]]
def wLB (U:PHeap) (L_:List Res) (v:Value) (y:Bool):Prop:=v=.bool y/\L_=[]
def wKd (x:Int):Value:=.int .i64 x
def wLU (x:Bool):Value:=.bool x
theorem Tryz.mixed:Tryz.prog.follows .mixedOrders=true:=by kernel_rfl
theorem wDb:wGs Tryz.prog 30 [(0,1),(1,1),(2,1)]:=⟨_,Tryz.runUnderlying30,fun w=>by simp [Tryz.sizeOf3]⟩
theorem wKe:wGs Tryz.prog 143 [(0,1),(1,1),(2,1)]:=⟨_,Tryz.runUnderlying143,fun w=>by simp [Tryz.sizeOf55,Tryz.sizeOf3,Tryz.sizeOf141]⟩
theorem wDv:Tryz.prog.info? 3=some Tryz.t3:=by kernel_rfl
theorem wKf:Tryz.prog.info? 30=some Tryz.t30:=by kernel_rfl
theorem eqS30 (d:Nat) (x y:wAA) (w:World):(Op.equalIn (d + 2) 30 (.agg (wAB x).toArray) (.agg (wAB y).toArray)).run Tryz.prog w=.ok (decide (x=y)) w:=by
 obtain ⟨x0,x1,x2⟩:=x
 obtain ⟨y0,y1,y2⟩:=y
 rw [run_equalIn_agg w (d + 1) 30 _ _ (wIY Tryz.runUnderlying30) (by kernel_rfl),wEP Tryz.runUnderlying30]
 by_cases h0:x0=y0 <;> by_cases h1:x1=y1 <;> by_cases h2:x2=y2 <;> simp [Op.eqFields,part,wAB,Result.andThen,Tryz.isAgg3,h0,run_equalIn_int _ (d + 0) 3 .i64 .i64 _ _ (wFL Tryz.runUnderlying3),h1,h2]
theorem eqG30:Tryz.prog.eqGuardType Tryz.prog.depth 30=false:=by kernel_rfl
theorem eqT30:EqT Tryz.prog 30 wAB:=fun x y w=>by
 unfold Op.equal Op.maxDepth;exact eqS30 9998 x y w
theorem wKg:KeyR Tryz.prog 3 wKd:=KeyR.ofInt (wFL Tryz.runUnderlying3)
end Go.Proofs.YtapddcoodhijpaaGreat
