import Derived.Test.YtglpalgiipahjaaGreatT0
import Derived.Test.YtglpalgiipahjaaGreatT4
import Derived.Test.YtglpalgiipahjaaGreatProg
import Derived.Test.YtglpalgiipahjaaGreatT1
import Derived.Test.YtglpalgiipahjaaGreatT3
import Derived.Test.YtglpalgiipahjaaGreatT6
import Derived.Test.YtglpalgiipahjaaGreatT5
set_option linter.all false
namespace Go.Proofs.YtglpalgiipahjaaGreat
open Go.KL
def wAP (x:wAD):List Value:=[.int .i64 x.X,.int .i64 x.Y]
def wIZ (φ:PHeap) (x:wAD) (vs:List Value):Prop:=vs=[.agg #[.int .i64 x.X,.int .i64 x.Y]]
def wIa (φ:PHeap) (L_:List Res) (v:Value) (y:Bool):Prop:=v=.bool y/\L_=[]
def wHZ:Rl (List Int) where
 sz:=1
 r:=fun φ x vs=>∃ (pA:Option Addr) (pc:Nat),vs=[.slice pA x.length pc]/\Sl φ 1 pA pc x.length (List.flatMap KL.encI x)
 mono:=by rintro φ φ' x vs ⟨pA,pc,rfl,h0⟩ hl;exact ⟨pA,pc,rfl,h0.le hl⟩
 len:=by rintro φ x vs ⟨_,_,rfl,_⟩;rfl
 one:=by rintro φ x vs ⟨_,_,rfl,h0⟩;rfl
def wOc (φ:PHeap) (x:List Int) (vs:List Value):Prop:=∃ (pA_0:Option Addr) (pc_0:Nat),vs=[.slice pA_0 x.length pc_0]/\Sl φ 1 pA_0 pc_0 x.length (List.flatMap KL.encI x)
def wOd (φ:PHeap) (L_:List Res) (v:Value) (y:Bool):Prop:=v=.bool y/\L_=[]
def wLp (φ:PHeap) (x:Int) (vs:List Value):Prop:=vs=[.int .i64 x]
def wOe (φ:PHeap) (L_:List Res) (v:Value) (y:Bool):Prop:=v=.bool y/\L_=[]
def wLq (x:Int):Value:=.int .i64 x
def wMi (x:Bool):Value:=.bool x
def wAI (x:wAB):List Value:=[.int .i64 x.Bib,.int .i64 x.Done,.int .i64 x.Time,.int .i64 x.By]
def wQA (φ:PHeap) (x:(wAB × wAB)) (vs:List Value):Prop:=vs=[.agg #[.int .i64 x.1.Bib,.int .i64 x.1.Done,.int .i64 x.1.Time,.int .i64 x.1.By],.agg #[.int .i64 x.2.Bib,.int .i64 x.2.Done,.int .i64 x.2.Time,.int .i64 x.2.By]]
def wQB (φ:PHeap) (L_:List Res) (v:Value) (y:Int):Prop:=v=.int .i64 y/\L_=[]
def wOf (φ:PHeap) (x:wAB) (vs:List Value):Prop:=vs=[.agg #[.int .i64 x.Bib,.int .i64 x.Done,.int .i64 x.Time,.int .i64 x.By]]
def wOg (φ:PHeap) (L_:List Res) (v:Value) (y:Bool):Prop:=v=.bool y/\L_=[]
theorem Tryz.mixed:Tryz.prog.follows .mixedOrders=true:=by kernel_rfl
theorem wMj:wEb Tryz.prog 45 [(0,1),(1,1),(2,1),(3,1)]:=⟨_,Tryz.runUnderlying45,fun w=>by simp [Tryz.sizeOf3]⟩
theorem wGv:wEb Tryz.prog 66 [(0,1),(1,1),(2,1)]:=⟨_,Tryz.runUnderlying66,fun w=>by simp [Tryz.sizeOf3,Tryz.sizeOf22,Tryz.sizeOf46]⟩
theorem wLr:wEb Tryz.prog 192 [(0,1),(1,1),(2,1)]:=⟨_,Tryz.runUnderlying192,fun w=>by simp [Tryz.sizeOf61,Tryz.sizeOf3,Tryz.sizeOf190]⟩
theorem wHa:wEb Tryz.prog 204 [(0,3),(3,1),(4,1)]:=⟨_,Tryz.runUnderlying204,fun w=>by simp [Tryz.sizeOf66,Tryz.sizeOf22,Tryz.sizeOf77]⟩
theorem wLs:wEb Tryz.prog 221 [(0,1),(1,1)]:=⟨_,Tryz.runUnderlying221,fun w=>by simp [Tryz.sizeOf3]⟩
theorem wEh:Tryz.prog.info? 3=some Tryz.t3:=by kernel_rfl
theorem wMk:Tryz.prog.info? 4=some Tryz.t4:=by kernel_rfl
theorem wNS:Tryz.prog.info? 22=some Tryz.t22:=by kernel_rfl
theorem wQC:Tryz.prog.info? 45=some Tryz.t45:=by kernel_rfl
theorem wOh:Tryz.prog.info? 221=some Tryz.t221:=by kernel_rfl
theorem wLt:KeyR Tryz.prog 3 wLq:=KeyR.ofInt (wDH Tryz.runUnderlying3)
end Go.Proofs.YtglpalgiipahjaaGreat
