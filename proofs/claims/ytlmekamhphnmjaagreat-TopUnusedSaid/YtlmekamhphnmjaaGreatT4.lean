import Derived.Test.YtlmekamhphnmjaaGreatT0
import Derived.Test.YtlmekamhphnmjaaGreatT2
import Derived.Test.YtlmekamhphnmjaaGreatProg
import Derived.Test.YtlmekamhphnmjaaGreatT1
import Derived.Test.YtlmekamhphnmjaaGreatT3
set_option linter.all false
open List renaming flatMap->hD
namespace Go.Proofs.YtlmekamhphnmjaaGreat
open Go.KL
def wCj (x:wAj):List Value:=[.int .i64 x.Spares,.int .i64 x.Loops,.int .i64 x.Unused]
def wMG (U:PHeap) (x:Int) (vs:List Value):Prop:=vs=[.int .i64 x]
def wNN (U:PHeap) (L_:List Res) (v:Value) (y:Bool):Prop:=v=.bool y/\L_=[]
def wJC (U:PHeap) (x:wAL) (vs:List Value):Prop:=∃ (pA_0_0:Option Addr) (pc_0_0:Nat),vs=[.agg #[.slice pA_0_0 x.Classes.length pc_0_0,.int .i64 x.Each,.int .i64 x.Laps,.int .i64 x.Spare,.int .i64 x.Loop,.int .i64 x.Unused]]/\Sl U 1 pA_0_0 pc_0_0 x.Classes.length (hD KL.encI x.Classes)
def wJD (U:PHeap) (L_:List Res) (v:Value) (y:Int):Prop:=v=.int .i64 y/\L_=[]
def wIA:Rl wAQ where
 sz:=3
 r:=fun U x vs=>∃ (pv_0:Value),vs=[pv_0,.int .i64 x.lo,.int .i64 x.hi]/\FnOK Tryz.prog U pv_0 wJC wJD x.of
 mono:=by rintro U U' x vs ⟨pv_0,rfl,h0⟩ hl;exact ⟨pv_0,rfl,h0.le hl⟩
 len:=by rintro U x vs ⟨_,rfl,_⟩;rfl
 one:=by rintro U x vs ⟨_,rfl,h0⟩;obtain ⟨_,_,_,rfl,_⟩:=h0;rfl
def wLb (U:PHeap) (x:wAQ) (vs:List Value):Prop:=∃ (pv_0_0:Value),vs=[.agg #[pv_0_0,.int .i64 x.lo,.int .i64 x.hi]]/\FnOK Tryz.prog U pv_0_0 wJC wJD x.of
def wLc (U:PHeap) (L_:List Res) (v:Value) (y:Bool):Prop:=v=.bool y/\L_=[]
def wPU:Rl (List Bool) where
 sz:=1
 r:=fun U x vs=>∃ (pA:Option Addr) (pc:Nat),vs=[.slice pA x.length pc]/\Sl U 1 pA pc x.length (hD KL.encT x)
 mono:=by rintro U U' x vs ⟨pA,pc,rfl,h0⟩ hl;exact ⟨pA,pc,rfl,h0.le hl⟩
 len:=by rintro U x vs ⟨_,_,rfl,_⟩;rfl
 one:=by rintro U x vs ⟨_,_,rfl,h0⟩;rfl
def wLd:Rl wAR where
 sz:=3
 r:=fun U x vs=>∃ (pA_1:Option Addr) (pc_1:Nat) (pA_2:Option Addr) (pc_2:Nat),vs=[.int .i64 x.Skier,.slice pA_1 x.Loops.length pc_1,.slice pA_2 x.Bouts.length pc_2]/\Sl U 1 pA_1 pc_1 x.Loops.length (hD KL.encI x.Loops)/\SlR U wPU pA_2 pc_2 x.Bouts
 mono:=by rintro U U' x vs ⟨pA_1,pc_1,pA_2,pc_2,rfl,h0,h1⟩ hl;exact ⟨pA_1,pc_1,pA_2,pc_2,rfl,h0.le hl,h1.le hl⟩
 len:=by rintro U x vs ⟨_,_,_,_,rfl,_,_⟩;rfl
 one:=by rintro U x vs ⟨_,_,_,_,rfl,h0,h1⟩;rfl
def wKW (U:PHeap) (x:wAJ) (vs:List Value):Prop:=∃ (pA_0_1:Option Addr) (pc_0_1:Nat) (pA_0_2:Option Addr) (pc_0_2:Nat),vs=[.agg #[.int .i64 x.Bib,.slice pA_0_1 x.Classes.length pc_0_1,.slice pA_0_2 x.Legs.length pc_0_2]]/\Sl U 1 pA_0_1 pc_0_1 x.Classes.length (hD KL.encI x.Classes)/\SlR U wLd pA_0_2 pc_0_2 x.Legs
def wKX (U:PHeap) (L_:List Res) (v:Value) (y:Bool):Prop:=v=.bool y/\L_=[]
def wFJ:Rl wAJ where
 sz:=3
 r:=fun U x vs=>∃ (pA_1:Option Addr) (pc_1:Nat) (pA_2:Option Addr) (pc_2:Nat),vs=[.int .i64 x.Bib,.slice pA_1 x.Classes.length pc_1,.slice pA_2 x.Legs.length pc_2]/\Sl U 1 pA_1 pc_1 x.Classes.length (hD KL.encI x.Classes)/\SlR U wLd pA_2 pc_2 x.Legs
 mono:=by rintro U U' x vs ⟨pA_1,pc_1,pA_2,pc_2,rfl,h0,h1⟩ hl;exact ⟨pA_1,pc_1,pA_2,pc_2,rfl,h0.le hl,h1.le hl⟩
 len:=by rintro U x vs ⟨_,_,_,_,rfl,_,_⟩;rfl
 one:=by rintro U x vs ⟨_,_,_,_,rfl,h0,h1⟩;rfl
def wNX (U:PHeap) (x:(wAJ × wAR)) (vs:List Value):Prop:=∃ (pA_0_1:Option Addr) (pc_0_1:Nat) (pA_0_2:Option Addr) (pc_0_2:Nat) (pA_1_1:Option Addr) (pc_1_1:Nat) (pA_1_2:Option Addr) (pc_1_2:Nat),vs=[.agg #[.int .i64 x.1.Bib,.slice pA_0_1 x.1.Classes.length pc_0_1,.slice pA_0_2 x.1.Legs.length pc_0_2],.agg #[.int .i64 x.2.Skier,.slice pA_1_1 x.2.Loops.length pc_1_1,.slice pA_1_2 x.2.Bouts.length pc_1_2]]/\Sl U 1 pA_0_1 pc_0_1 x.1.Classes.length (hD KL.encI x.1.Classes)/\SlR U wLd pA_0_2 pc_0_2 x.1.Legs/\Sl U 1 pA_1_1 pc_1_1 x.2.Loops.length (hD KL.encI x.2.Loops)/\SlR U wPU pA_1_2 pc_1_2 x.2.Bouts
def wED (x:Int):Value:=.int .i64 x
def wEL (x:Bool):Value:=.bool x
def wFw:Rl (List Int) where
 sz:=1
 r:=fun U x vs=>∃ (pA:Option Addr) (pc:Nat),vs=[.slice pA x.length pc]/\Sl U 1 pA pc x.length (hD KL.encI x)
 mono:=by rintro U U' x vs ⟨pA,pc,rfl,h0⟩ hl;exact ⟨pA,pc,rfl,h0.le hl⟩
 len:=by rintro U x vs ⟨_,_,rfl,_⟩;rfl
 one:=by rintro U x vs ⟨_,_,rfl,h0⟩;rfl
def wOU (U:PHeap) (x:List Int) (vs:List Value):Prop:=∃ (pA_0:Option Addr) (pc_0:Nat),vs=[.slice pA_0 x.length pc_0]/\Sl U 1 pA_0 pc_0 x.length (hD KL.encI x)
def wOV (U:PHeap) (L_:List Res) (v:Value) (y:Bool):Prop:=v=.bool y/\L_=[]
def wAb (x:wAN):List Value:=[.int .i64 x.Bib,.int .i64 x.Done,.int .i64 x.Time,.int .i64 x.By]
def wPV (U:PHeap) (x:(wAN × wAN)) (vs:List Value):Prop:=vs=[.agg #[.int .i64 x.1.Bib,.int .i64 x.1.Done,.int .i64 x.1.Time,.int .i64 x.1.By],.agg #[.int .i64 x.2.Bib,.int .i64 x.2.Done,.int .i64 x.2.Time,.int .i64 x.2.By]]
def wPW (U:PHeap) (L_:List Res) (v:Value) (y:Int):Prop:=v=.int .i64 y/\L_=[]
def wAM (x:wAD):List Value:=[.int .i64 x.Bib,.int .i64 x.Place,.int .i64 x.Time]
def wOW (U:PHeap) (x:(wAD × wAD)) (vs:List Value):Prop:=vs=[.agg #[.int .i64 x.1.Bib,.int .i64 x.1.Place,.int .i64 x.1.Time],.agg #[.int .i64 x.2.Bib,.int .i64 x.2.Place,.int .i64 x.2.Time]]
def wOX (U:PHeap) (L_:List Res) (v:Value) (y:Int):Prop:=v=.int .i64 y/\L_=[]
def wKY (x:Int):Value:=.int .i64 x
def wLe (x:Int):Value:=.int .i64 x
def wAF (x:wAI):List Value:=[.int .i64 x.Bib,.int .i64 x.Time]
def wLf (U:PHeap) (x:wAI) (vs:List Value):Prop:=vs=[.agg #[.int .i64 x.Bib,.int .i64 x.Time]]
def wLg (U:PHeap) (L_:List Res) (v:Value) (y:Bool):Prop:=v=.bool y/\L_=[]
def wAE (x:wAC):List Value:=[.int .i64 x.Number,.int .i64 x.Kind,.int .i64 x.Minute,.int .i64 x.Bib,.int .i64 x.Much,.int .i64 x.About]
def wJq (U:PHeap) (x:wAC) (vs:List Value):Prop:=vs=[.agg #[.int .i64 x.Number,.int .i64 x.Kind,.int .i64 x.Minute,.int .i64 x.Bib,.int .i64 x.Much,.int .i64 x.About]]
def wJr (U:PHeap) (L_:List Res) (v:Value) (y:Bool):Prop:=v=.bool y/\L_=[]
def wPX (U:PHeap) (x:(wAI × wAI)) (vs:List Value):Prop:=vs=[.agg #[.int .i64 x.1.Bib,.int .i64 x.1.Time],.agg #[.int .i64 x.2.Bib,.int .i64 x.2.Time]]
def wPY (U:PHeap) (L_:List Res) (v:Value) (y:Int):Prop:=v=.int .i64 y/\L_=[]
def wPZ (U:PHeap) (x:(wAC × wAC)) (vs:List Value):Prop:=vs=[.agg #[.int .i64 x.1.Number,.int .i64 x.1.Kind,.int .i64 x.1.Minute,.int .i64 x.1.Bib,.int .i64 x.1.Much,.int .i64 x.1.About],.agg #[.int .i64 x.2.Number,.int .i64 x.2.Kind,.int .i64 x.2.Minute,.int .i64 x.2.Bib,.int .i64 x.2.Much,.int .i64 x.2.About]]
def wPa (U:PHeap) (L_:List Res) (v:Value) (y:Int):Prop:=v=.int .i64 y/\L_=[]
def wPb (U:PHeap) (x:(Int × wAC)) (vs:List Value):Prop:=vs=[.int .i64 x.1,.agg #[.int .i64 x.2.Number,.int .i64 x.2.Kind,.int .i64 x.2.Minute,.int .i64 x.2.Bib,.int .i64 x.2.Much,.int .i64 x.2.About]]
def wFZ (x:Int):Value:=.int .i64 x
def wFo (x:wAC):Value:=.agg #[.int .i64 x.Number,.int .i64 x.Kind,.int .i64 x.Minute,.int .i64 x.Bib,.int .i64 x.Much,.int .i64 x.About]
def wFa (x:Int):Value:=.int .i64 x
def wFp (_:Unit):Value:=.slice none 0 0
def wOY (U:PHeap) (x:Int) (vs:List Value):Prop:=vs=[.int .i64 x]
def wOZ (U:PHeap) (L_:List Res) (v:Value) (y:Bool):Prop:=v=.bool y/\L_=[]
def wAB (x:wAA):List Value:=[.int .i64 x.Bib,.int .i64 x.Place,.int .i64 x.Total]
def wKZ (U:PHeap) (x:(wAA × wAA)) (vs:List Value):Prop:=vs=[.agg #[.int .i64 x.1.Bib,.int .i64 x.1.Place,.int .i64 x.1.Total],.agg #[.int .i64 x.2.Bib,.int .i64 x.2.Place,.int .i64 x.2.Total]]
def wKa (U:PHeap) (L_:List Res) (v:Value) (y:Int):Prop:=v=.int .i64 y/\L_=[]
theorem Tryz.mixed:Tryz.prog.follows .mixedOrders=true:=by kernel_rfl
theorem wFE:wDW Tryz.prog 28 [(0,1),(1,1),(2,1)]:=⟨_,Tryz.runUnderlying28,fun w=>by simp [Tryz.sizeOf3,Tryz.sizeOf25,Tryz.sizeOf26]⟩
theorem wLC:wDW Tryz.prog 40 [(0,1),(1,1)]:=⟨_,Tryz.runUnderlying40,fun w=>by simp [Tryz.sizeOf3]⟩
theorem wJE:wDW Tryz.prog 46 [(0,1),(1,1),(2,1),(3,1),(4,1),(5,1)]:=⟨_,Tryz.runUnderlying46,fun w=>by simp [Tryz.sizeOf3,Tryz.sizeOf44]⟩
theorem wLD:wDW Tryz.prog 52 [(0,1),(1,1),(2,1)]:=⟨_,Tryz.runUnderlying52,fun w=>by simp [Tryz.sizeOf3]⟩
theorem wNY:wDW Tryz.prog 86 [(0,1),(1,1),(2,1),(3,1),(4,1),(5,1)]:=⟨_,Tryz.runUnderlying86,fun w=>by simp [Tryz.sizeOf31,Tryz.sizeOf3]⟩
theorem wNZ:wDW Tryz.prog 89 [(0,6),(6,1),(7,1)]:=⟨_,Tryz.runUnderlying89,fun w=>by simp [Tryz.sizeOf86,Tryz.sizeOf3,Tryz.sizeOf87]⟩
theorem wHp:wDW Tryz.prog 93 [(0,1),(1,1),(2,1)]:=⟨_,Tryz.runUnderlying93,fun w=>by simp [Tryz.sizeOf3]⟩
theorem wLE:wDW Tryz.prog 98 [(0,1),(1,1),(2,1)]:=⟨_,Tryz.runUnderlying98,fun w=>by simp [Tryz.sizeOf3,Tryz.sizeOf31,Tryz.sizeOf96]⟩
theorem wJs:wDW Tryz.prog 101 [(0,1),(1,1),(2,1)]:=⟨_,Tryz.runUnderlying101,fun w=>by simp [Tryz.sizeOf3,Tryz.sizeOf31,Tryz.sizeOf99]⟩
theorem wIB:wDW Tryz.prog 111 [(0,1),(1,1),(2,1)]:=⟨_,Tryz.runUnderlying111,fun w=>by simp [Tryz.sizeOf3]⟩
theorem wMc:wDW Tryz.prog 126 [(0,1),(1,1),(2,1)]:=⟨_,Tryz.runUnderlying126,fun w=>by simp [Tryz.sizeOf22,Tryz.sizeOf3,Tryz.sizeOf124]⟩
theorem wMd:wDW Tryz.prog 175 [(0,1),(1,1),(2,1)]:=⟨_,Tryz.runUnderlying175,fun w=>by simp [Tryz.sizeOf3,Tryz.sizeOf31,Tryz.sizeOf29]⟩
theorem wMe:wDW Tryz.prog 181 [(0,1),(1,1),(2,1),(3,1)]:=⟨_,Tryz.runUnderlying181,fun w=>by simp [Tryz.sizeOf3]⟩
theorem wMf:wDW Tryz.prog 183 [(0,8),(8,1)]:=⟨_,Tryz.runUnderlying183,fun w=>by simp [Tryz.sizeOf89,Tryz.sizeOf29]⟩
theorem wMg:wDW Tryz.prog 210 [(0,3),(3,1),(4,1)]:=⟨_,Tryz.runUnderlying210,fun w=>by simp [Tryz.sizeOf28,Tryz.sizeOf207,Tryz.sizeOf208]⟩
theorem wJt:wDW Tryz.prog 243 [(0,3),(3,1),(4,1)]:=⟨_,Tryz.runUnderlying243,fun w=>by simp [Tryz.sizeOf175,Tryz.sizeOf31,Tryz.sizeOf90]⟩
theorem wFz:wDW Tryz.prog 275 [(0,1)]:=⟨_,Tryz.runUnderlying275,fun w=>by simp [Tryz.sizeOf32]⟩
theorem wGA:wDW Tryz.prog 340 [(0,1),(1,1),(2,1)]:=⟨_,Tryz.runUnderlying340,fun w=>by simp [Tryz.sizeOf338,Tryz.sizeOf3]⟩
theorem wGs:Tryz.prog.info? 3=some Tryz.t3:=by kernel_rfl
theorem wMh:Tryz.prog.info? 4=some Tryz.t4:=by kernel_rfl
theorem wMi:Tryz.prog.info? 31=some Tryz.t31:=by kernel_rfl
theorem wIC:Tryz.prog.info? 40=some Tryz.t40:=by kernel_rfl
theorem wID:Tryz.prog.info? 46=some Tryz.t46:=by kernel_rfl
theorem wMj:Tryz.prog.info? 52=some Tryz.t52:=by kernel_rfl
theorem wMk:Tryz.prog.info? 101=some Tryz.t101:=by kernel_rfl
theorem wJF:Tryz.prog.info? 111=some Tryz.t111:=by kernel_rfl
theorem wOa:Tryz.prog.info? 181=some Tryz.t181:=by kernel_rfl
theorem eqS93 (d:Nat) (x y:wAj) (w:World):(Op.equalIn (d + 2) 93 (.agg (wCj x).toArray) (.agg (wCj y).toArray)).run Tryz.prog w=.ok (decide (x=y)) w:=by
 obtain ⟨x0,x1,x2⟩:=x
 obtain ⟨y0,y1,y2⟩:=y
 rw [run_equalIn_agg w (d + 1) 93 _ _ (wLX Tryz.runUnderlying93) (by kernel_rfl),wHy Tryz.runUnderlying93]
 by_cases h0:x0=y0 <;> by_cases h1:x1=y1 <;> by_cases h2:x2=y2 <;> simp [Op.eqFields,part,wCj,Result.andThen,Tryz.isAgg3,h0,run_equalIn_int _ (d + 0) 3 .i64 .i64 _ _ (wBq Tryz.runUnderlying3),h1,h2]
theorem eqG93:Tryz.prog.eqGuardType Tryz.prog.depth 93=false:=by kernel_rfl
theorem eqT93:EqT Tryz.prog 93 wCj:=fun x y w=>by
 unfold Op.equal Op.maxDepth;exact eqS93 9998 x y w
theorem wFb:KeyR Tryz.prog 3 wED:=KeyR.ofInt (wBq Tryz.runUnderlying3)
theorem wKb:KeyR Tryz.prog 3 wKY:=KeyR.ofInt (wBq Tryz.runUnderlying3)
theorem wOb:KeyR Tryz.prog 3 wFZ:=KeyR.ofInt (wBq Tryz.runUnderlying3)
theorem wMl:KeyR Tryz.prog 3 wFa:=KeyR.ofInt (wBq Tryz.runUnderlying3)
end Go.Proofs.YtlmekamhphnmjaaGreat
