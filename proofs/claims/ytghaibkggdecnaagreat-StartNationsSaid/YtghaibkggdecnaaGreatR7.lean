import Derived.Test.YtghaibkggdecnaaGreatR0
import Derived.Test.YtghaibkggdecnaaGreatR4
import Derived.Test.YtghaibkggdecnaaGreatProg
import Derived.Test.YtghaibkggdecnaaGreatR5
import Derived.Test.YtghaibkggdecnaaGreatR6
set_option linter.all false
namespace Go.Proofs.YtghaibkggdecnaaGreat
open Go.KL
def wAE (x:wAA):List Value:=[.int .i64 x.Bib,.int .i64 x.Nation,.int .i64 x.Rank]
def wAH (x:wAD):List Value:=[.int .i64 x.Bib,.int .i64 x.Nation,.int .i64 x.Rank]
def wGl (U:PHeap) (x:wAA) (vs:List Value):Prop:=vs=[.agg #[.int .i64 x.Bib,.int .i64 x.Nation,.int .i64 x.Rank]]
def wGm (U:PHeap) (L_:List Res) (v:Value) (y:Int):Prop:=v=.int .i64 y/\L_=[]
def wIZ (U:PHeap) (x:Int) (vs:List Value):Prop:=vs=[.int .i64 x]
def wIa (U:PHeap) (L_:List Res) (v:Value) (y:Bool):Prop:=v=.bool y/\L_=[]
def wNA (x:Int):Value:=.int .i64 x
def wOB (x:Bool):Value:=.bool x
def wEx (x:Int):Value:=.int .i64 x
def wFK (x:Int):Value:=.int .i64 x
def wAg (x:wAW):List Value:=[.int .i64 x.Bib,.int .i64 x.Time,.int .i64 x.Gate]
def wAB (x:wAF):List Value:=[.int .i64 x.Bib,.int .i64 x.Time,.int .i64 x.Gate]
def ar50 (U:PHeap) (x:(Int × Int)) (vs:List Value):Prop:=vs=[.int .i64 x.1,.int .i64 x.2]
def rr50 (U:PHeap) (L_:List Res) (v:Value) (y:Int):Prop:=v=.int .i64 y/\L_=[]
theorem Tryz.mixed:Tryz.prog.follows .mixedOrders=true:=by kernel_rfl
theorem wOC:wHP Tryz.prog 54 [(0,1),(1,1),(2,1)]:=⟨_,Tryz.runUnderlying54,fun w=>by simp [Tryz.sizeOf3]⟩
theorem wNB:wHP Tryz.prog 132 [(0,1),(1,1),(2,1)]:=⟨_,Tryz.runUnderlying132,fun w=>by simp [Tryz.sizeOf3]⟩
theorem wGX:wHP Tryz.prog 160 [(0,1),(1,1),(2,1)]:=⟨_,Tryz.runUnderlying160,fun w=>by simp [Tryz.sizeOf158,Tryz.sizeOf3]⟩
theorem wIb:Tryz.prog.info? 3=some Tryz.t3:=by kernel_rfl
theorem wRG:Tryz.prog.info? 54=some Tryz.t54:=by kernel_rfl
theorem wRH:Tryz.prog.info? 62=some Tryz.t62:=by kernel_rfl
theorem wNC:Tryz.prog.info? 132=some Tryz.t132:=by kernel_rfl
theorem wPp:Tryz.prog.info? 157=some Tryz.t157:=by kernel_rfl
theorem eqS62 (d:Nat) (x y:wAA) (w:World):(Op.equalIn (d + 2) 62 (.agg (wAE x).toArray) (.agg (wAE y).toArray)).run Tryz.prog w=.ok (decide (x=y)) w:=by
 obtain ⟨x0,x1,x2⟩:=x
 obtain ⟨y0,y1,y2⟩:=y
 rw [run_equalIn_agg w (d + 1) 62 _ _ (wGs Tryz.runUnderlying62) (by kernel_rfl),wEQ Tryz.runUnderlying62]
 by_cases h0:x0=y0 <;> by_cases h1:x1=y1 <;> by_cases h2:x2=y2 <;> simp [Op.eqFields,part,wAE,Result.andThen,Tryz.isAgg3,h0,run_equalIn_int _ (d + 0) 3 .i64 .i64 _ _ (wCl Tryz.runUnderlying3),h1,h2]
theorem eqG62:Tryz.prog.eqGuardType Tryz.prog.depth 62=false:=by kernel_rfl
theorem eqT62:EqT Tryz.prog 62 wAE:=fun x y w=>by
 unfold Op.equal Op.maxDepth;exact eqS62 9998 x y w
theorem wRI (d:Nat) (x y:wAF) (w:World):(Op.equalIn (d + 2) 132 (.agg (wAB x).toArray) (.agg (wAB y).toArray)).run Tryz.prog w=.ok (decide (x=y)) w:=by
 obtain ⟨x0,x1,x2⟩:=x
 obtain ⟨y0,y1,y2⟩:=y
 rw [run_equalIn_agg w (d + 1) 132 _ _ (wGs Tryz.runUnderlying132) (by kernel_rfl),wEQ Tryz.runUnderlying132]
 by_cases h0:x0=y0 <;> by_cases h1:x1=y1 <;> by_cases h2:x2=y2 <;> simp [Op.eqFields,part,wAB,Result.andThen,Tryz.isAgg3,h0,run_equalIn_int _ (d + 0) 3 .i64 .i64 _ _ (wCl Tryz.runUnderlying3),h1,h2]
theorem wRJ:Tryz.prog.eqGuardType Tryz.prog.depth 132=false:=by kernel_rfl
theorem wRK:EqT Tryz.prog 132 wAB:=fun x y w=>by
 unfold Op.equal Op.maxDepth;exact wRI 9998 x y w
theorem wEZ:KeyR Tryz.prog 3 wEx:=KeyR.ofInt (wCl Tryz.runUnderlying3)
theorem wND:KeyR Tryz.prog 3 wNA:=KeyR.ofInt (wCl Tryz.runUnderlying3)
end Go.Proofs.YtghaibkggdecnaaGreat
