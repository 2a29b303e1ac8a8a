import Derived.Test.YtkedcbligiebkaaGreatU0
import Derived.Test.YtkedcbligiebkaaGreatProg
import Derived.Test.YtkedcbligiebkaaGreatU3
set_option linter.all false
open List renaming flatMap->hH
namespace Go.Proofs.YtkedcbligiebkaaGreat
open Go.KL
def wIP (U:PHeap) (x:Int) (vs:List Value):Prop:=vs=[.int .i64 x]
def wIQ (U:PHeap) (L_:List Res) (v:Value) (y:Bool):Prop:=v=.bool y/\L_=[]
def wGp (U:PHeap) (x:wAB) (vs:List Value):Prop:=∃ (pA_0_0:Option Addr) (pc_0_0:Nat),vs=[.agg #[.slice pA_0_0 x.Classes.length pc_0_0,.int .i64 x.Each,.int .i64 x.Laps,.int .i64 x.Spare,.int .i64 x.Loop,.int .i64 x.Unused]]/\Sl U 1 pA_0_0 pc_0_0 x.Classes.length (hH KL.encI x.Classes)
def wGq (U:PHeap) (L_:List Res) (v:Value) (y:Int):Prop:=v=.int .i64 y/\L_=[]
def wFp:Rl wAE where
 sz:=3
 r:=fun U x vs=>∃ (pv_0:Value),vs=[pv_0,.int .i64 x.lo,.int .i64 x.hi]/\FnOK Tryz.prog U pv_0 wGp wGq x.of
 mono:=by rintro U U' x vs ⟨pv_0,rfl,h0⟩ hl;exact ⟨pv_0,rfl,h0.le hl⟩
 len:=by rintro U x vs ⟨_,rfl,_⟩;rfl
 one:=by rintro U x vs ⟨_,rfl,h0⟩;obtain ⟨_,_,_,rfl,_⟩:=h0;rfl
def wJl (U:PHeap) (x:wAE) (vs:List Value):Prop:=∃ (pv_0_0:Value),vs=[.agg #[pv_0_0,.int .i64 x.lo,.int .i64 x.hi]]/\FnOK Tryz.prog U pv_0_0 wGp wGq x.of
def wJm (U:PHeap) (L_:List Res) (v:Value) (y:Bool):Prop:=v=.bool y/\L_=[]
def wIR (U:PHeap) (x:List Int) (vs:List Value):Prop:=∃ (pA_0:Option Addr) (pc_0:Nat),vs=[.slice pA_0 x.length pc_0]/\Sl U 1 pA_0 pc_0 x.length (hH KL.encI x)
def wIS (U:PHeap) (L_:List Res) (v:Value) (y:Bool):Prop:=v=.bool y/\L_=[]
def wIT:Rl (List Int) where
 sz:=1
 r:=fun U x vs=>∃ (pA:Option Addr) (pc:Nat),vs=[.slice pA x.length pc]/\Sl U 1 pA pc x.length (hH KL.encI x)
 mono:=by rintro U U' x vs ⟨pA,pc,rfl,h0⟩ hl;exact ⟨pA,pc,rfl,h0.le hl⟩
 len:=by rintro U x vs ⟨_,_,rfl,_⟩;rfl
 one:=by rintro U x vs ⟨_,_,rfl,h0⟩;rfl
theorem Tryz.mixed:Tryz.prog.follows .mixedOrders=true:=by kernel_rfl
theorem wMN:wER Tryz.prog 61 [(0,1),(1,1),(2,1),(3,1),(4,1),(5,1)]:=⟨_,Tryz.runUnderlying61,fun w=>by simp [Tryz.sizeOf23,Tryz.sizeOf3]⟩
theorem wMO:wER Tryz.prog 63 [(0,1),(1,1)]:=⟨_,Tryz.runUnderlying63,fun w=>by simp [Tryz.sizeOf23,Tryz.sizeOf29]⟩
theorem wMP:wER Tryz.prog 81 [(0,1),(1,1),(2,1)]:=⟨_,Tryz.runUnderlying81,fun w=>by simp [Tryz.sizeOf22,Tryz.sizeOf3,Tryz.sizeOf79]⟩
theorem wHW:wER Tryz.prog 110 [(0,2),(2,6)]:=⟨_,Tryz.runUnderlying110,fun w=>by simp [Tryz.sizeOf63,Tryz.sizeOf61]⟩
theorem wDM:wER Tryz.prog 224 [(0,1),(1,1),(2,1)]:=⟨_,Tryz.runUnderlying224,fun w=>by simp [Tryz.sizeOf222,Tryz.sizeOf3]⟩
theorem wDX:Tryz.prog.info? 3=some Tryz.t3:=by kernel_rfl
theorem wHX:Tryz.prog.info? 23=some Tryz.t23:=by kernel_rfl
end Go.Proofs.YtkedcbligiebkaaGreat
