import Derived.Test.YtghaibkggdecnaaGreatU0
import Derived.Test.YtghaibkggdecnaaGreatProg
import Derived.Test.YtghaibkggdecnaaGreatU3
import Derived.Test.YtghaibkggdecnaaGreatU4
set_option linter.all false
namespace Go.Proofs.YtghaibkggdecnaaGreat
open Go.KL
def wAH (x:wAB):List Value:=[.int .i64 x.Bib,.int .i64 x.Nation,.int .i64 x.Rank]
def wFo (U:PHeap) (x:wAB) (vs:List Value):Prop:=vs=[.agg #[.int .i64 x.Bib,.int .i64 x.Nation,.int .i64 x.Rank]]
def wFp (U:PHeap) (L_:List Res) (v:Value) (y:Int):Prop:=v=.int .i64 y/\L_=[]
def wJY (U:PHeap) (x:Int) (vs:List Value):Prop:=vs=[.int .i64 x]
def wJZ (U:PHeap) (L_:List Res) (v:Value) (y:Bool):Prop:=v=.bool y/\L_=[]
def wLX (x:Int):Value:=.int .i64 x
def wMe (x:Bool):Value:=.bool x
def ar50 (U:PHeap) (x:(Int × Int)) (vs:List Value):Prop:=vs=[.int .i64 x.1,.int .i64 x.2]
def rr50 (U:PHeap) (L_:List Res) (v:Value) (y:Int):Prop:=v=.int .i64 y/\L_=[]
def rl31:Rl (List Int) where
 sz:=1
 r:=fun U x vs=>∃ (pA:Option Addr) (pc:Nat),vs=[.slice pA x.length pc]/\Sl U 1 pA pc x.length (List.flatMap KL.encI x)
 mono:=by rintro U U' x vs ⟨pA,pc,rfl,h0⟩ hl;exact ⟨pA,pc,rfl,h0.le hl⟩
 len:=by rintro U x vs ⟨_,_,rfl,_⟩;rfl
 one:=by rintro U x vs ⟨_,_,rfl,h0⟩;rfl
theorem Tryz.mixed:Tryz.prog.follows .mixedOrders=true:=by kernel_rfl
theorem wMf:wGS Tryz.prog 62 [(0,1),(1,1),(2,1)]:=⟨_,Tryz.runUnderlying62,fun w=>by simp [Tryz.sizeOf3]⟩
theorem wLY:wGS Tryz.prog 136 [(0,1),(1,1),(2,1)]:=⟨_,Tryz.runUnderlying136,fun w=>by simp [Tryz.sizeOf46,Tryz.sizeOf3,Tryz.sizeOf134]⟩
theorem wFY:wGS Tryz.prog 160 [(0,1),(1,1),(2,1)]:=⟨_,Tryz.runUnderlying160,fun w=>by simp [Tryz.sizeOf158,Tryz.sizeOf3]⟩
theorem wFZ:Tryz.prog.info? 3=some Tryz.t3:=by kernel_rfl
theorem info4:Tryz.prog.info? 4=some Tryz.t4:=by kernel_rfl
theorem wPg:Tryz.prog.info? 31=some Tryz.t31:=by kernel_rfl
theorem wPh:Tryz.prog.info? 62=some Tryz.t62:=by kernel_rfl
theorem wLZ:KeyR Tryz.prog 3 wLX:=KeyR.ofInt (wHA Tryz.runUnderlying3)
end Go.Proofs.YtghaibkggdecnaaGreat
