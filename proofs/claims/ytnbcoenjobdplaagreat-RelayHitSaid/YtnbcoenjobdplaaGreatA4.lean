import Derived.Test.YtnbcoenjobdplaaGreatA0
import Derived.Test.YtnbcoenjobdplaaGreatA1
import Derived.Test.YtnbcoenjobdplaaGreatProg
import Derived.Test.YtnbcoenjobdplaaGreatA3
set_option linter.all false
open List renaming flatMap->hH
namespace Go.Proofs.YtnbcoenjobdplaaGreat
open Go.KL
def wGx:Rl (List Bool) where
 sz:=1
 r:=fun U x vs=>∃ (pA:Option Addr) (pc:Nat),vs=[.slice pA x.length pc]/\Sl U 1 pA pc x.length (hH KL.encT x)
 mono:=by rintro U U' x vs ⟨pA,pc,rfl,h0⟩ hl;exact ⟨pA,pc,rfl,h0.le hl⟩
 len:=by rintro U x vs ⟨_,_,rfl,_⟩;rfl
 one:=by rintro U x vs ⟨_,_,rfl,h0⟩;rfl
def wEf:Rl wAB where
 sz:=3
 r:=fun U x vs=>∃ (pA_1:Option Addr) (pc_1:Nat) (pA_2:Option Addr) (pc_2:Nat),vs=[.int .i64 x.Skier,.slice pA_1 x.Loops.length pc_1,.slice pA_2 x.Bouts.length pc_2]/\Sl U 1 pA_1 pc_1 x.Loops.length (hH KL.encI x.Loops)/\SlR U wGx pA_2 pc_2 x.Bouts
 mono:=by rintro U U' x vs ⟨pA_1,pc_1,pA_2,pc_2,rfl,h0,h1⟩ hl;exact ⟨pA_1,pc_1,pA_2,pc_2,rfl,h0.le hl,h1.le hl⟩
 len:=by rintro U x vs ⟨_,_,_,_,rfl,_,_⟩;rfl
 one:=by rintro U x vs ⟨_,_,_,_,rfl,h0,h1⟩;rfl
def wFN:Rl wAD where
 sz:=3
 r:=fun U x vs=>∃ (pA_1:Option Addr) (pc_1:Nat) (pA_2:Option Addr) (pc_2:Nat),vs=[.int .i64 x.Bib,.slice pA_1 x.Classes.length pc_1,.slice pA_2 x.Legs.length pc_2]/\Sl U 1 pA_1 pc_1 x.Classes.length (hH KL.encI x.Classes)/\SlR U wEf pA_2 pc_2 x.Legs
 mono:=by rintro U U' x vs ⟨pA_1,pc_1,pA_2,pc_2,rfl,h0,h1⟩ hl;exact ⟨pA_1,pc_1,pA_2,pc_2,rfl,h0.le hl,h1.le hl⟩
 len:=by rintro U x vs ⟨_,_,_,_,rfl,_,_⟩;rfl
 one:=by rintro U x vs ⟨_,_,_,_,rfl,h0,h1⟩;rfl
def wPL (U:PHeap) (x:Int) (vs:List Value):Prop:=vs=[.int .i64 x]
def wPM (U:PHeap) (L_:List Res) (v:Value) (y:Bool):Prop:=v=.bool y/\L_=[]
def wHV (U:PHeap) (x:wAC) (vs:List Value):Prop:=∃ (pA_0_0:Option Addr) (pc_0_0:Nat),vs=[.agg #[.slice pA_0_0 x.Classes.length pc_0_0,.int .i64 x.Each,.int .i64 x.Laps,.int .i64 x.Spare,.int .i64 x.Loop,.int .i64 x.Unused]]/\Sl U 1 pA_0_0 pc_0_0 x.Classes.length (hH KL.encI x.Classes)
def wHW (U:PHeap) (L_:List Res) (v:Value) (y:Int):Prop:=v=.int .i64 y/\L_=[]
def wGP:Rl wAH where
 sz:=3
 r:=fun U x vs=>∃ (pv_0:Value),vs=[pv_0,.int .i64 x.lo,.int .i64 x.hi]/\FnOK Tryz.prog U pv_0 wHV wHW x.of
 mono:=by rintro U U' x vs ⟨pv_0,rfl,h0⟩ hl;exact ⟨pv_0,rfl,h0.le hl⟩
 len:=by rintro U x vs ⟨_,rfl,_⟩;rfl
 one:=by rintro U x vs ⟨_,rfl,h0⟩;obtain ⟨_,_,_,rfl,_⟩:=h0;rfl
def wKh (U:PHeap) (x:wAH) (vs:List Value):Prop:=∃ (pv_0_0:Value),vs=[.agg #[pv_0_0,.int .i64 x.lo,.int .i64 x.hi]]/\FnOK Tryz.prog U pv_0_0 wHV wHW x.of
def wKi (U:PHeap) (L_:List Res) (v:Value) (y:Bool):Prop:=v=.bool y/\L_=[]
def wJH (U:PHeap) (x:wAD) (vs:List Value):Prop:=∃ (pA_0_1:Option Addr) (pc_0_1:Nat) (pA_0_2:Option Addr) (pc_0_2:Nat),vs=[.agg #[.int .i64 x.Bib,.slice pA_0_1 x.Classes.length pc_0_1,.slice pA_0_2 x.Legs.length pc_0_2]]/\Sl U 1 pA_0_1 pc_0_1 x.Classes.length (hH KL.encI x.Classes)/\SlR U wEf pA_0_2 pc_0_2 x.Legs
def wJI (U:PHeap) (L_:List Res) (v:Value) (y:Bool):Prop:=v=.bool y/\L_=[]
def wNP (U:PHeap) (x:(wAD × wAB)) (vs:List Value):Prop:=∃ (pA_0_1:Option Addr) (pc_0_1:Nat) (pA_0_2:Option Addr) (pc_0_2:Nat) (pA_1_1:Option Addr) (pc_1_1:Nat) (pA_1_2:Option Addr) (pc_1_2:Nat),vs=[.agg #[.int .i64 x.1.Bib,.slice pA_0_1 x.1.Classes.length pc_0_1,.slice pA_0_2 x.1.Legs.length pc_0_2],.agg #[.int .i64 x.2.Skier,.slice pA_1_1 x.2.Loops.length pc_1_1,.slice pA_1_2 x.2.Bouts.length pc_1_2]]/\Sl U 1 pA_0_1 pc_0_1 x.1.Classes.length (hH KL.encI x.1.Classes)/\SlR U wEf pA_0_2 pc_0_2 x.1.Legs/\Sl U 1 pA_1_1 pc_1_1 x.2.Loops.length (hH KL.encI x.2.Loops)/\SlR U wGx pA_1_2 pc_1_2 x.2.Bouts
def wMb (x:Int):Value:=.int .i64 x
def wNQ (x:Bool):Value:=.bool x
def wIU:Rl (List Int) where
 sz:=1
 r:=fun U x vs=>∃ (pA:Option Addr) (pc:Nat),vs=[.slice pA x.length pc]/\Sl U 1 pA pc x.length (hH KL.encI x)
 mono:=by rintro U U' x vs ⟨pA,pc,rfl,h0⟩ hl;exact ⟨pA,pc,rfl,h0.le hl⟩
 len:=by rintro U x vs ⟨_,_,rfl,_⟩;rfl
 one:=by rintro U x vs ⟨_,_,rfl,h0⟩;rfl
def wPN:Rf (List Bool) where
 R:=wGx
 f:=fun U x vs ls=>∃ (pA:Option Addr) (pc:Nat),vs=[.slice pA x.length pc]/\RowP U pA pc 4 1 (hH KL.encT x)/\ls=bks pA
 fr:=by rintro U x vs ls ⟨pA,pc,rfl,h0,rfl⟩;exact ⟨pA,pc,rfl,h0.sl (wAL (f:=KL.encT) (sz:=1) (fun _=>rfl) _) (by decide)⟩
 loc:=by rintro U U' x vs ls ⟨pA,pc,rfl,h0,rfl⟩ e;exact ⟨pA,pc,rfl,h0.at fun b hb=>e b (by simp [hb]),rfl⟩
def wPu:Rf wAB where
 R:=wEf
 f:=fun U x vs ls=>∃ (pA_1:Option Addr) (pc_1:Nat) (pA_2:Option Addr) (pc_2:Nat) (l1:List Nat),vs=[.int .i64 x.Skier,.slice pA_1 x.Loops.length pc_1,.slice pA_2 x.Bouts.length pc_2]/\RowP U pA_1 pc_1 3 1 (hH KL.encI x.Loops)/\SlF U wPN pA_2 pc_2 x.Bouts l1/\ls=bks pA_1 ++ l1
 fr:=by rintro U x vs ls ⟨pA_1,pc_1,pA_2,pc_2,l1,rfl,h0,h1,rfl⟩;exact ⟨pA_1,pc_1,pA_2,pc_2,rfl,h0.sl (wAL (f:=KL.encI) (sz:=1) (fun _=>rfl) _) (by decide),h1.toR⟩
 loc:=by rintro U U' x vs ls ⟨pA_1,pc_1,pA_2,pc_2,l1,rfl,h0,h1,rfl⟩ e;exact ⟨pA_1,pc_1,pA_2,pc_2,l1,rfl,h0.at fun b hb=>e b (by simp [hb]),h1.up fun b hb=>e b (by simp [hb]),rfl⟩
def wPv:Rf wAD where
 R:=wFN
 f:=fun U x vs ls=>∃ (pA_1:Option Addr) (pc_1:Nat) (pA_2:Option Addr) (pc_2:Nat) (l1:List Nat),vs=[.int .i64 x.Bib,.slice pA_1 x.Classes.length pc_1,.slice pA_2 x.Legs.length pc_2]/\RowP U pA_1 pc_1 3 1 (hH KL.encI x.Classes)/\SlF U wPu pA_2 pc_2 x.Legs l1/\ls=bks pA_1 ++ l1
 fr:=by rintro U x vs ls ⟨pA_1,pc_1,pA_2,pc_2,l1,rfl,h0,h1,rfl⟩;exact ⟨pA_1,pc_1,pA_2,pc_2,rfl,h0.sl (wAL (f:=KL.encI) (sz:=1) (fun _=>rfl) _) (by decide),h1.toR⟩
 loc:=by rintro U U' x vs ls ⟨pA_1,pc_1,pA_2,pc_2,l1,rfl,h0,h1,rfl⟩ e;exact ⟨pA_1,pc_1,pA_2,pc_2,l1,rfl,h0.at fun b hb=>e b (by simp [hb]),h1.up fun b hb=>e b (by simp [hb]),rfl⟩
def wAM (x:wAG):List Value:=[.int .i64 x.team,.int .i64 x.leg,.int .i64 x.bout,.int .i64 x.round]
theorem Tryz.mixed:Tryz.prog.follows .mixedOrders=true:=by kernel_rfl
theorem wNR:wCr Tryz.prog 25 [(0,1),(1,1),(2,1),(3,1),(4,1),(5,1)]:=⟨_,Tryz.runUnderlying25,fun w=>by simp [Tryz.sizeOf23,Tryz.sizeOf3]⟩
theorem wHX:wCr Tryz.prog 28 [(0,6),(6,1),(7,1)]:=⟨_,Tryz.runUnderlying28,fun w=>by simp [Tryz.sizeOf25,Tryz.sizeOf3,Tryz.sizeOf26]⟩
theorem wHY:wCr Tryz.prog 34 [(0,1),(1,1),(2,1)]:=⟨_,Tryz.runUnderlying34,fun w=>by simp [Tryz.sizeOf3,Tryz.sizeOf23,Tryz.sizeOf32]⟩
theorem wHZ:wCr Tryz.prog 43 [(0,1),(1,1),(2,1)]:=⟨_,Tryz.runUnderlying43,fun w=>by simp [Tryz.sizeOf3,Tryz.sizeOf23,Tryz.sizeOf41]⟩
theorem wHa:wCr Tryz.prog 46 [(0,1),(1,1),(2,1)]:=⟨_,Tryz.runUnderlying46,fun w=>by simp [Tryz.sizeOf3,Tryz.sizeOf23,Tryz.sizeOf44]⟩
theorem wHb:wCr Tryz.prog 49 [(0,1),(1,1),(2,1)]:=⟨_,Tryz.runUnderlying49,fun w=>by simp [Tryz.sizeOf3]⟩
theorem wNS:wCr Tryz.prog 53 [(0,1),(1,1),(2,1),(3,1)]:=⟨_,Tryz.runUnderlying53,fun w=>by simp [Tryz.sizeOf3]⟩
theorem wMc:wCr Tryz.prog 100 [(0,1),(1,1),(2,1)]:=⟨_,Tryz.runUnderlying100,fun w=>by simp [Tryz.sizeOf22,Tryz.sizeOf3,Tryz.sizeOf98]⟩
theorem wMd:wCr Tryz.prog 130 [(0,8),(8,1)]:=⟨_,Tryz.runUnderlying130,fun w=>by simp [Tryz.sizeOf28,Tryz.sizeOf32]⟩
theorem wDm:wCr Tryz.prog 222 [(0,1),(1,1),(2,1)]:=⟨_,Tryz.runUnderlying222,fun w=>by simp [Tryz.sizeOf220,Tryz.sizeOf3]⟩
theorem wHc:Tryz.prog.info? 3=some Tryz.t3:=by kernel_rfl
theorem wPO:Tryz.prog.info? 4=some Tryz.t4:=by kernel_rfl
theorem wOG:Tryz.prog.info? 23=some Tryz.t23:=by kernel_rfl
theorem wMe:Tryz.prog.info? 43=some Tryz.t43:=by kernel_rfl
theorem wIK:Tryz.prog.info? 46=some Tryz.t46:=by kernel_rfl
theorem wMf:Tryz.prog.info? 47=some Tryz.t47:=by kernel_rfl
theorem wQo:Tryz.prog.info? 53=some Tryz.t53:=by kernel_rfl
theorem wPP:KeyR Tryz.prog 3 wMb:=KeyR.ofInt (wLA Tryz.runUnderlying3)
end Go.Proofs.YtnbcoenjobdplaaGreat
