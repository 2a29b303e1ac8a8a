import Derived.Test.YtghaibkggdecnaaGreatQ0
import Derived.Test.YtghaibkggdecnaaGreatQ4
import Derived.Test.YtghaibkggdecnaaGreatProg
import Derived.Test.YtghaibkggdecnaaGreatQ5
import Derived.Test.YtghaibkggdecnaaGreatQ6
set_option linter.all false
namespace Go.Proofs.YtghaibkggdecnaaGreat
open Go.KL
def wAG (x:wAA):List Value:=[.int .i64 x.Bib,.int .i64 x.Nation,.int .i64 x.Rank]
def wFk (U:PHeap) (x:wAA) (vs:List Value):Prop:=vs=[.agg #[.int .i64 x.Bib,.int .i64 x.Nation,.int .i64 x.Rank]]
def wFl (U:PHeap) (L_:List Res) (v:Value) (y:Int):Prop:=v=.int .i64 y/\L_=[]
def wHS (U:PHeap) (x:Int) (vs:List Value):Prop:=vs=[.int .i64 x]
def wHT (U:PHeap) (L_:List Res) (v:Value) (y:Bool):Prop:=v=.bool y/\L_=[]
def wLg (x:Int):Value:=.int .i64 x
def wMs (x:Bool):Value:=.bool x
def ar50 (U:PHeap) (x:(Int × Int)) (vs:List Value):Prop:=vs=[.int .i64 x.1,.int .i64 x.2]
def rr50 (U:PHeap) (L_:List Res) (v:Value) (y:Int):Prop:=v=.int .i64 y/\L_=[]
def wEK (x:Int):Value:=.int .i64 x
def wEV (x:Int):Value:=.int .i64 x
theorem Tryz.mixed:Tryz.prog.follows .mixedOrders=true:=by kernel_rfl
theorem wMt:wGJ Tryz.prog 62 [(0,1),(1,1),(2,1)]:=⟨_,Tryz.runUnderlying62,fun w=>by simp [Tryz.sizeOf3]⟩
theorem wLh:wGJ Tryz.prog 136 [(0,1),(1,1),(2,1)]:=⟨_,Tryz.runUnderlying136,fun w=>by simp [Tryz.sizeOf46,Tryz.sizeOf3,Tryz.sizeOf134]⟩
theorem wFb:wGJ Tryz.prog 160 [(0,1),(1,1),(2,1)]:=⟨_,Tryz.runUnderlying160,fun w=>by simp [Tryz.sizeOf158,Tryz.sizeOf3]⟩
theorem wHU:Tryz.prog.info? 3=some Tryz.t3:=by kernel_rfl
theorem info4:Tryz.prog.info? 4=some Tryz.t4:=by kernel_rfl
theorem wPs:Tryz.prog.info? 62=some Tryz.t62:=by kernel_rfl
theorem wDr:KeyR Tryz.prog 3 wEK:=KeyR.ofInt (wCg Tryz.runUnderlying3)
theorem wLi:KeyR Tryz.prog 3 wLg:=KeyR.ofInt (wCg Tryz.runUnderlying3)
end Go.Proofs.YtghaibkggdecnaaGreat
