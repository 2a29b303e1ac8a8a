import Derived.Test.YtabadkdjndnliaaGreatR0
import Derived.Test.YtabadkdjndnliaaGreatProg
import Derived.Test.YtabadkdjndnliaaGreatR1
import Derived.Test.YtabadkdjndnliaaGreatR4
set_option linter.all false
open List renaming flatMap->hH
namespace Go.Proofs.YtabadkdjndnliaaGreat
open Go.KL
def wDX:Rl (List Int) where
 sz:=1
 r:=fun U x vs=>∃ (pA:Option Addr) (pc:Nat),vs=[.slice pA x.length pc]/\Sl U 1 pA pc x.length (hH KL.encI x)
 mono:=by rintro U U' x vs ⟨pA,pc,rfl,h0⟩ hl;exact ⟨pA,pc,rfl,h0.le hl⟩
 len:=by rintro U x vs ⟨_,_,rfl,_⟩;rfl
 one:=by rintro U x vs ⟨_,_,rfl,h0⟩;rfl
def wHF (U:PHeap) (x:Int) (vs:List Value):Prop:=vs=[.int .i64 x]
def wHG (U:PHeap) (L_:List Res) (v:Value) (y:Bool):Prop:=v=.bool y/\L_=[]
def wIY (U:PHeap) (x:wAA) (vs:List Value):Prop:=∃ (pA_0_0:Option Addr) (pc_0_0:Nat),vs=[.agg #[.slice pA_0_0 x.Classes.length pc_0_0,.int .i64 x.Each,.int .i64 x.Laps,.int .i64 x.Spare,.int .i64 x.Loop,.int .i64 x.Unused]]/\Sl U 1 pA_0_0 pc_0_0 x.Classes.length (hH KL.encI x.Classes)
def wIZ (U:PHeap) (L_:List Res) (v:Value) (y:Int):Prop:=v=.int .i64 y/\L_=[]
def wHH:Rl wAE where
 sz:=3
 r:=fun U x vs=>∃ (pv_0:Value),vs=[pv_0,.int .i64 x.lo,.int .i64 x.hi]/\FnOK Tryz.prog U pv_0 wIY wIZ x.of
 mono:=by rintro U U' x vs ⟨pv_0,rfl,h0⟩ hl;exact ⟨pv_0,rfl,h0.le hl⟩
 len:=by rintro U x vs ⟨_,rfl,_⟩;rfl
 one:=by rintro U x vs ⟨_,rfl,h0⟩;obtain ⟨_,_,_,rfl,_⟩:=h0;rfl
def wLm (U:PHeap) (x:wAE) (vs:List Value):Prop:=∃ (pv_0_0:Value),vs=[.agg #[pv_0_0,.int .i64 x.lo,.int .i64 x.hi]]/\FnOK Tryz.prog U pv_0_0 wIY wIZ x.of
def wLn (U:PHeap) (L_:List Res) (v:Value) (y:Bool):Prop:=v=.bool y/\L_=[]
def wKK (U:PHeap) (x:List Int) (vs:List Value):Prop:=∃ (pA_0:Option Addr) (pc_0:Nat),vs=[.slice pA_0 x.length pc_0]/\Sl U 1 pA_0 pc_0 x.length (hH KL.encI x)
def wKL (U:PHeap) (L_:List Res) (v:Value) (y:Bool):Prop:=v=.bool y/\L_=[]
theorem Tryz.mixed:Tryz.prog.follows .mixedOrders=true:=by kernel_rfl
theorem wOr:wII Tryz.prog 93 [(0,1),(1,1)]:=⟨_,Tryz.runUnderlying93,fun w=>by simp [Tryz.sizeOf22,Tryz.sizeOf46]⟩
theorem wEM:wII Tryz.prog 249 [(0,2),(2,6)]:=⟨_,Tryz.runUnderlying249,fun w=>by simp [Tryz.sizeOf93,Tryz.sizeOf24]⟩
theorem wEN:wII Tryz.prog 342 [(0,1),(1,1),(2,1)]:=⟨_,Tryz.runUnderlying342,fun w=>by simp [Tryz.sizeOf340,Tryz.sizeOf3]⟩
theorem wDz:Tryz.prog.info? 3=some Tryz.t3:=by kernel_rfl
theorem wSJ:Tryz.prog.info? 22=some Tryz.t22:=by kernel_rfl
end Go.Proofs.YtabadkdjndnliaaGreat
