import Derived.Test.YthbficbpebiekaaGreatY0
import Derived.Test.YthbficbpebiekaaGreatY1
import Derived.Test.YthbficbpebiekaaGreatProg
import Derived.Test.YthbficbpebiekaaGreatY3
import Derived.Test.YthbficbpebiekaaGreatY4
set_option linter.all false
open List renaming flatMap->nA
namespace Go.Proofs.YthbficbpebiekaaGreat
open Go.KL
def wFU:Rl (List Bool) where
 sz:=1
 r:=fun U x vs=>∃ (pA:Option Addr) (pc:Nat),vs=[.slice pA x.length pc]/\Sl U 1 pA pc x.length (nA KL.encT x)
 mono:=by rintro U U' x vs ⟨pA,pc,rfl,h0⟩ hl;exact ⟨pA,pc,rfl,h0.le hl⟩
 len:=by rintro U x vs ⟨_,_,rfl,_⟩;rfl
 one:=by rintro U x vs ⟨_,_,rfl,h0⟩;rfl
def wFs:Rl wAH where
 sz:=3
 r:=fun U x vs=>∃ (pA_1:Option Addr) (pc_1:Nat) (pA_2:Option Addr) (pc_2:Nat),vs=[.int .i64 x.Skier,.slice pA_1 x.Loops.length pc_1,.slice pA_2 x.Bouts.length pc_2]/\Sl U 1 pA_1 pc_1 x.Loops.length (nA KL.encI x.Loops)/\SlR U wFU pA_2 pc_2 x.Bouts
 mono:=by rintro U U' x vs ⟨pA_1,pc_1,pA_2,pc_2,rfl,h0,h1⟩ hl;exact ⟨pA_1,pc_1,pA_2,pc_2,rfl,h0.le hl,h1.le hl⟩
 len:=by rintro U x vs ⟨_,_,_,_,rfl,_,_⟩;rfl
 one:=by rintro U x vs ⟨_,_,_,_,rfl,h0,h1⟩;rfl
def wCS:Rl wAC where
 sz:=3
 r:=fun U x vs=>∃ (pA_1:Option Addr) (pc_1:Nat) (pA_2:Option Addr) (pc_2:Nat),vs=[.int .i64 x.Bib,.slice pA_1 x.Classes.length pc_1,.slice pA_2 x.Legs.length pc_2]/\Sl U 1 pA_1 pc_1 x.Classes.length (nA KL.encI x.Classes)/\SlR U wFs pA_2 pc_2 x.Legs
 mono:=by rintro U U' x vs ⟨pA_1,pc_1,pA_2,pc_2,rfl,h0,h1⟩ hl;exact ⟨pA_1,pc_1,pA_2,pc_2,rfl,h0.le hl,h1.le hl⟩
 len:=by rintro U x vs ⟨_,_,_,_,rfl,_,_⟩;rfl
 one:=by rintro U x vs ⟨_,_,_,_,rfl,h0,h1⟩;rfl
def wMu:Rl wBR where
 sz:=3
 r:=fun U x vs=>∃ (pA_1:Option Addr) (pc_1:Nat) (pA_2:Option Addr) (pc_2:Nat),vs=[.int .i64 x.Skier,.slice pA_1 x.Loops.length pc_1,.slice pA_2 x.Bouts.length pc_2]/\Sl U 1 pA_1 pc_1 x.Loops.length (nA KL.encI x.Loops)/\SlR U wFU pA_2 pc_2 x.Bouts
 mono:=by rintro U U' x vs ⟨pA_1,pc_1,pA_2,pc_2,rfl,h0,h1⟩ hl;exact ⟨pA_1,pc_1,pA_2,pc_2,rfl,h0.le hl,h1.le hl⟩
 len:=by rintro U x vs ⟨_,_,_,_,rfl,_,_⟩;rfl
 one:=by rintro U x vs ⟨_,_,_,_,rfl,h0,h1⟩;rfl
def wET:Rl wBO where
 sz:=3
 r:=fun U x vs=>∃ (pA_1:Option Addr) (pc_1:Nat) (pA_2:Option Addr) (pc_2:Nat),vs=[.int .i64 x.Bib,.slice pA_1 x.Classes.length pc_1,.slice pA_2 x.Legs.length pc_2]/\Sl U 1 pA_1 pc_1 x.Classes.length (nA KL.encI x.Classes)/\SlR U wMu pA_2 pc_2 x.Legs
 mono:=by rintro U U' x vs ⟨pA_1,pc_1,pA_2,pc_2,rfl,h0,h1⟩ hl;exact ⟨pA_1,pc_1,pA_2,pc_2,rfl,h0.le hl,h1.le hl⟩
 len:=by rintro U x vs ⟨_,_,_,_,rfl,_,_⟩;rfl
 one:=by rintro U x vs ⟨_,_,_,_,rfl,h0,h1⟩;rfl
def wLF (U:PHeap) (x:Int) (vs:List Value):Prop:=vs=[.int .i64 x]
def wLG (U:PHeap) (L_:List Res) (v:Value) (y:Bool):Prop:=v=.bool y/\L_=[]
def wJR (U:PHeap) (x:wAB) (vs:List Value):Prop:=∃ (pA_0_0:Option Addr) (pc_0_0:Nat),vs=[.agg #[.slice pA_0_0 x.Classes.length pc_0_0,.int .i64 x.Each,.int .i64 x.Laps,.int .i64 x.Spare,.int .i64 x.Loop,.int .i64 x.Unused]]/\Sl U 1 pA_0_0 pc_0_0 x.Classes.length (nA KL.encI x.Classes)
def wJS (U:PHeap) (L_:List Res) (v:Value) (y:Int):Prop:=v=.int .i64 y/\L_=[]
def wHs:Rl wAG where
 sz:=3
 r:=fun U x vs=>∃ (pv_0:Value),vs=[pv_0,.int .i64 x.lo,.int .i64 x.hi]/\FnOK Tryz.prog U pv_0 wJR wJS x.of
 mono:=by rintro U U' x vs ⟨pv_0,rfl,h0⟩ hl;exact ⟨pv_0,rfl,h0.le hl⟩
 len:=by rintro U x vs ⟨_,rfl,_⟩;rfl
 one:=by rintro U x vs ⟨_,rfl,h0⟩;obtain ⟨_,_,_,rfl,_⟩:=h0;rfl
def wMv (U:PHeap) (x:wAG) (vs:List Value):Prop:=∃ (pv_0_0:Value),vs=[.agg #[pv_0_0,.int .i64 x.lo,.int .i64 x.hi]]/\FnOK Tryz.prog U pv_0_0 wJR wJS x.of
def wMw (U:PHeap) (L_:List Res) (v:Value) (y:Bool):Prop:=v=.bool y/\L_=[]
def wLH (U:PHeap) (x:wAC) (vs:List Value):Prop:=∃ (pA_0_1:Option Addr) (pc_0_1:Nat) (pA_0_2:Option Addr) (pc_0_2:Nat),vs=[.agg #[.int .i64 x.Bib,.slice pA_0_1 x.Classes.length pc_0_1,.slice pA_0_2 x.Legs.length pc_0_2]]/\Sl U 1 pA_0_1 pc_0_1 x.Classes.length (nA KL.encI x.Classes)/\SlR U wFs pA_0_2 pc_0_2 x.Legs
def wLI (U:PHeap) (L_:List Res) (v:Value) (y:Bool):Prop:=v=.bool y/\L_=[]
def wQB (U:PHeap) (x:(wAC × wAH)) (vs:List Value):Prop:=∃ (pA_0_1:Option Addr) (pc_0_1:Nat) (pA_0_2:Option Addr) (pc_0_2:Nat) (pA_1_1:Option Addr) (pc_1_1:Nat) (pA_1_2:Option Addr) (pc_1_2:Nat),vs=[.agg #[.int .i64 x.1.Bib,.slice pA_0_1 x.1.Classes.length pc_0_1,.slice pA_0_2 x.1.Legs.length pc_0_2],.agg #[.int .i64 x.2.Skier,.slice pA_1_1 x.2.Loops.length pc_1_1,.slice pA_1_2 x.2.Bouts.length pc_1_2]]/\Sl U 1 pA_0_1 pc_0_1 x.1.Classes.length (nA KL.encI x.1.Classes)/\SlR U wFs pA_0_2 pc_0_2 x.1.Legs/\Sl U 1 pA_1_1 pc_1_1 x.2.Loops.length (nA KL.encI x.2.Loops)/\SlR U wFU pA_1_2 pc_1_2 x.2.Bouts
def wTZ (x:Int):Value:=.int .i64 x
def mv74 (x:Bool):Value:=.bool x
def wDL:Rl (List Int) where
 sz:=1
 r:=fun U x vs=>∃ (pA:Option Addr) (pc:Nat),vs=[.slice pA x.length pc]/\Sl U 1 pA pc x.length (nA KL.encI x)
 mono:=by rintro U U' x vs ⟨pA,pc,rfl,h0⟩ hl;exact ⟨pA,pc,rfl,h0.le hl⟩
 len:=by rintro U x vs ⟨_,_,rfl,_⟩;rfl
 one:=by rintro U x vs ⟨_,_,rfl,h0⟩;rfl
theorem Tryz.mixed:Tryz.prog.follows .mixedOrders=true:=by kernel_rfl
theorem wMA:wDQ Tryz.prog 27 [(0,6),(6,1),(7,1)]:=⟨_,Tryz.runUnderlying27,fun w=>by simp [Tryz.sizeOf24,Tryz.sizeOf3,Tryz.sizeOf25]⟩
theorem wMB:wDQ Tryz.prog 34 [(0,6),(6,1),(7,1)]:=⟨_,Tryz.runUnderlying34,fun w=>by simp [Tryz.sizeOf31,Tryz.sizeOf3,Tryz.sizeOf32]⟩
theorem wJT:wDQ Tryz.prog 45 [(0,1),(1,1),(2,1)]:=⟨_,Tryz.runUnderlying45,fun w=>by simp [Tryz.sizeOf3,Tryz.sizeOf22,Tryz.sizeOf39]⟩
theorem wMC:wDQ Tryz.prog 48 [(0,1),(1,1),(2,1)]:=⟨_,Tryz.runUnderlying48,fun w=>by simp [Tryz.sizeOf3,Tryz.sizeOf22,Tryz.sizeOf39]⟩
theorem wKJ:wDQ Tryz.prog 127 [(0,1),(1,1),(2,1)]:=⟨_,Tryz.runUnderlying127,fun w=>by simp [Tryz.sizeOf3,Tryz.sizeOf22,Tryz.sizeOf125]⟩
theorem wOs:wDQ Tryz.prog 130 [(0,1),(1,1),(2,1)]:=⟨_,Tryz.runUnderlying130,fun w=>by simp [Tryz.sizeOf3,Tryz.sizeOf22,Tryz.sizeOf128]⟩
theorem wHt:wDQ Tryz.prog 133 [(0,1),(1,1),(2,1)]:=⟨_,Tryz.runUnderlying133,fun w=>by simp [Tryz.sizeOf3]⟩
theorem wOt:wDQ Tryz.prog 160 [(0,1),(1,1),(2,1)]:=⟨_,Tryz.runUnderlying160,fun w=>by simp [Tryz.sizeOf3,Tryz.sizeOf22,Tryz.sizeOf158]⟩
theorem wFt:wDQ Tryz.prog 172 [(0,1),(1,1),(2,1)]:=⟨_,Tryz.runUnderlying172,fun w=>by simp [Tryz.sizeOf3]⟩
theorem wOu:wDQ Tryz.prog 246 [(0,8),(8,1)]:=⟨_,Tryz.runUnderlying246,fun w=>by simp [Tryz.sizeOf27,Tryz.sizeOf39]⟩
theorem wEl:wDQ Tryz.prog 264 [(0,1),(1,1),(2,1)]:=⟨_,Tryz.runUnderlying264,fun w=>by simp [Tryz.sizeOf262,Tryz.sizeOf3]⟩
theorem wEm:Tryz.prog.info? 3=some Tryz.t3:=by kernel_rfl
theorem info4:Tryz.prog.info? 4=some Tryz.t4:=by kernel_rfl
theorem wHu:Tryz.prog.info? 22=some Tryz.t22:=by kernel_rfl
theorem wRy:Tryz.prog.info? 127=some Tryz.t127:=by kernel_rfl
theorem wRz:Tryz.prog.info? 130=some Tryz.t130:=by kernel_rfl
theorem wSA:Tryz.prog.info? 131=some Tryz.t131:=by kernel_rfl
theorem wSB:Tryz.prog.info? 160=some Tryz.t160:=by kernel_rfl
theorem wSC:Tryz.prog.info? 161=some Tryz.t161:=by kernel_rfl
theorem wTa:KeyR Tryz.prog 3 wTZ:=KeyR.ofInt (wLe Tryz.runUnderlying3)
end Go.Proofs.YthbficbpebiekaaGreat
