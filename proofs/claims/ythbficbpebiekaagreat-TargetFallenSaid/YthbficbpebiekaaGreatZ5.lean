import Derived.Test.YthbficbpebiekaaGreatZ0
import Derived.Test.YthbficbpebiekaaGreatProg
import Derived.Test.YthbficbpebiekaaGreatZ3
import Derived.Test.YthbficbpebiekaaGreatZ4
namespace Go.Proofs.YthbficbpebiekaaGreat
open Go.KL
def wAD (x:wAA):List Value:=[.int .i64 x.X,.int .i64 x.Y]
def wGy (U:PHeap) (x:wAA) (vs:List Value):Prop:=vs=[.agg #[.int .i64 x.X,.int .i64 x.Y]]
def wGz (U:PHeap) (L_:List Res) (v:Value) (y:Bool):Prop:=v=.bool y/\L_=[]
def wMn (x:Int):Value:=.int .i64 x
def wNC (x:Bool):Value:=.bool x
theorem Tryz.mixed:Tryz.prog.follows .mixedOrders=true:=by kernel_rfl
theorem wLG:wGR Tryz.prog 67 [(0,1),(1,1)]:=⟨_,Tryz.runUnderlying67,fun w=>by simp [Tryz.sizeOf3]⟩
theorem wKM:wGR Tryz.prog 184 [(0,1),(1,1),(2,1)]:=⟨_,Tryz.runUnderlying184,fun w=>by simp [Tryz.sizeOf60,Tryz.sizeOf3,Tryz.sizeOf182]⟩
theorem wLH:Tryz.prog.info? 3=some Tryz.t3:=by kernel_rfl
theorem wLn:Tryz.prog.info? 67=some Tryz.t67:=by kernel_rfl
theorem wKN:KeyR Tryz.prog 3 wMn:=KeyR.ofInt (wFp Tryz.runUnderlying3)
end Go.Proofs.YthbficbpebiekaaGreat
