import Derived.Test.YtbpllbhagaoocaaGreatZ1
import Derived.Test.YtbpllbhagaoocaaGreatZ4
import Derived.Test.YtbpllbhagaoocaaGreatProg
import Derived.Test.YtbpllbhagaoocaaGreatZ3
import Derived.Test.YtbpllbhagaoocaaGreatZ6
import Derived.Test.YtbpllbhagaoocaaGreatZ5
set_option linter.all false
namespace Go.Proofs.YtbpllbhagaoocaaGreat
open Go.KL
def wBP:Rl (List Int) where
 sz:=1
 r:=fun U x vs=>∃ (pA:Option Addr) (pc:Nat),vs=[.slice pA x.length pc]/\Sl U 1 pA pc x.length (List.flatMap KL.encI x)
 mono:=by rintro U U' x vs ⟨pA,pc,rfl,h0⟩ hl;exact ⟨pA,pc,rfl,h0.le hl⟩
 len:=by rintro U x vs ⟨_,_,rfl,_⟩;rfl
 one:=by rintro U x vs ⟨_,_,rfl,h0⟩;rfl
def wNr (U:PHeap) (x:List Int) (vs:List Value):Prop:=∃ (pA_0:Option Addr) (pc_0:Nat),vs=[.slice pA_0 x.length pc_0]/\Sl U 1 pA_0 pc_0 x.length (List.flatMap KL.encI x)
def wNs (U:PHeap) (L_:List Res) (v:Value) (y:Bool):Prop:=v=.bool y/\L_=[]
def wLI (U:PHeap) (x:Int) (vs:List Value):Prop:=vs=[.int .i64 x]
def wNt (U:PHeap) (L_:List Res) (v:Value) (y:Bool):Prop:=v=.bool y/\L_=[]
def wLJ (x:Int):Value:=.int .i64 x
def wMA (x:Bool):Value:=.bool x
def wAG (x:wAD):List Value:=[.int .i64 x.Bib,.int .i64 x.Done,.int .i64 x.Time,.int .i64 x.By]
def wPN (U:PHeap) (x:(wAD × wAD)) (vs:List Value):Prop:=vs=[.agg #[.int .i64 x.1.Bib,.int .i64 x.1.Done,.int .i64 x.1.Time,.int .i64 x.1.By],.agg #[.int .i64 x.2.Bib,.int .i64 x.2.Done,.int .i64 x.2.Time,.int .i64 x.2.By]]
def wPO (U:PHeap) (L_:List Res) (v:Value) (y:Int):Prop:=v=.int .i64 y/\L_=[]
def ar42 (U:PHeap) (x:wAD) (vs:List Value):Prop:=vs=[.agg #[.int .i64 x.Bib,.int .i64 x.Done,.int .i64 x.Time,.int .i64 x.By]]
def rr42 (U:PHeap) (L_:List Res) (v:Value) (y:Bool):Prop:=v=.bool y/\L_=[]
def wNu (x:Int):Value:=.int .i64 x
def wOR (x:Int):Value:=.int .i64 x
theorem Tryz.mixed:Tryz.prog.follows .mixedOrders=true:=by kernel_rfl
theorem wIY:wEq Tryz.prog 26 [(0,1),(1,1),(2,1)]:=⟨_,Tryz.runUnderlying26,fun w=>by simp [Tryz.sizeOf3,Tryz.sizeOf23,Tryz.sizeOf24]⟩
theorem wMB:wEq Tryz.prog 38 [(0,1),(1,1),(2,1),(3,1)]:=⟨_,Tryz.runUnderlying38,fun w=>by simp [Tryz.sizeOf3]⟩
theorem wMC:wEq Tryz.prog 72 [(0,1),(1,1),(2,1)]:=⟨_,Tryz.runUnderlying72,fun w=>by simp [Tryz.sizeOf22,Tryz.sizeOf3,Tryz.sizeOf70]⟩
theorem wIZ:wEq Tryz.prog 78 [(0,3),(3,1),(4,1)]:=⟨_,Tryz.runUnderlying78,fun w=>by simp [Tryz.sizeOf26,Tryz.sizeOf23,Tryz.sizeOf76]⟩
theorem wCP:Tryz.prog.info? 3=some Tryz.t3:=by kernel_rfl
theorem wMD:Tryz.prog.info? 4=some Tryz.t4:=by kernel_rfl
theorem wIa:Tryz.prog.info? 23=some Tryz.t23:=by kernel_rfl
theorem wPP:Tryz.prog.info? 38=some Tryz.t38:=by kernel_rfl
theorem wIb:KeyR Tryz.prog 3 wNu:=KeyR.ofInt (wCE Tryz.runUnderlying3)
theorem wLK:KeyR Tryz.prog 3 wLJ:=KeyR.ofInt (wCE Tryz.runUnderlying3)
end Go.Proofs.YtbpllbhagaoocaaGreat
