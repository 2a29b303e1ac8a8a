import Derived.Test.YtglpalgiipahjaaGreatR1
import Derived.Test.YtglpalgiipahjaaGreatR4
import Derived.Test.YtglpalgiipahjaaGreatProg
import Derived.Test.YtglpalgiipahjaaGreatR3
import Derived.Test.YtglpalgiipahjaaGreatR6
import Derived.Test.YtglpalgiipahjaaGreatR5
set_option linter.all false
open List renaming flatMap->nA
namespace Go.Proofs.YtglpalgiipahjaaGreat
open Go.KL
def wJF:Rl (List Bool) where
 sz:=1
 r:=fun φ x vs=>∃ (pA:Option Addr) (pc:Nat),vs=[.slice pA x.length pc]/\Sl φ 1 pA pc x.length (nA KL.encT x)
 mono:=by rintro φ φ' x vs ⟨pA,pc,rfl,h0⟩ hl;exact ⟨pA,pc,rfl,h0.le hl⟩
 len:=by rintro φ x vs ⟨_,_,rfl,_⟩;rfl
 one:=by rintro φ x vs ⟨_,_,rfl,h0⟩;rfl
def wGN:Rl wAG where
 sz:=3
 r:=fun φ x vs=>∃ (pA_1:Option Addr) (pc_1:Nat) (pA_2:Option Addr) (pc_2:Nat),vs=[.int .i64 x.Skier,.slice pA_1 x.Loops.length pc_1,.slice pA_2 x.Bouts.length pc_2]/\Sl φ 1 pA_1 pc_1 x.Loops.length (nA KL.encI x.Loops)/\SlR φ wJF pA_2 pc_2 x.Bouts
 mono:=by rintro φ φ' x vs ⟨pA_1,pc_1,pA_2,pc_2,rfl,h0,h1⟩ hl;exact ⟨pA_1,pc_1,pA_2,pc_2,rfl,h0.le hl,h1.le hl⟩
 len:=by rintro φ x vs ⟨_,_,_,_,rfl,_,_⟩;rfl
 one:=by rintro φ x vs ⟨_,_,_,_,rfl,h0,h1⟩;rfl
def wFr:Rl wAF where
 sz:=3
 r:=fun φ x vs=>∃ (pA_1:Option Addr) (pc_1:Nat) (pA_2:Option Addr) (pc_2:Nat),vs=[.int .i64 x.Bib,.slice pA_1 x.Classes.length pc_1,.slice pA_2 x.Legs.length pc_2]/\Sl φ 1 pA_1 pc_1 x.Classes.length (nA KL.encI x.Classes)/\SlR φ wGN pA_2 pc_2 x.Legs
 mono:=by rintro φ φ' x vs ⟨pA_1,pc_1,pA_2,pc_2,rfl,h0,h1⟩ hl;exact ⟨pA_1,pc_1,pA_2,pc_2,rfl,h0.le hl,h1.le hl⟩
 len:=by rintro φ x vs ⟨_,_,_,_,rfl,_,_⟩;rfl
 one:=by rintro φ x vs ⟨_,_,_,_,rfl,h0,h1⟩;rfl
def wHd (φ:PHeap) (x:Int) (vs:List Value):Prop:=vs=[.int .i64 x]
def wJG (φ:PHeap) (L_:List Res) (v:Value) (y:Bool):Prop:=v=.bool y/\L_=[]
def wKH (φ:PHeap) (x:wAJ) (vs:List Value):Prop:=∃ (pA_0_0:Option Addr) (pc_0_0:Nat),vs=[.agg #[.slice pA_0_0 x.Classes.length pc_0_0,.int .i64 x.Each,.int .i64 x.Laps,.int .i64 x.Spare,.int .i64 x.Loop,.int .i64 x.Unused]]/\Sl φ 1 pA_0_0 pc_0_0 x.Classes.length (nA KL.encI x.Classes)
def wKI (φ:PHeap) (L_:List Res) (v:Value) (y:Int):Prop:=v=.int .i64 y/\L_=[]
def wIk:Rl wAO where
 sz:=3
 r:=fun φ x vs=>∃ (pv_0:Value),vs=[pv_0,.int .i64 x.lo,.int .i64 x.hi]/\FnOK Tryz.prog φ pv_0 wKH wKI x.of
 mono:=by rintro φ φ' x vs ⟨pv_0,rfl,h0⟩ hl;exact ⟨pv_0,rfl,h0.le hl⟩
 len:=by rintro φ x vs ⟨_,rfl,_⟩;rfl
 one:=by rintro φ x vs ⟨_,rfl,h0⟩;obtain ⟨_,_,_,rfl,_⟩:=h0;rfl
def wNw (φ:PHeap) (x:wAO) (vs:List Value):Prop:=∃ (pv_0_0:Value),vs=[.agg #[pv_0_0,.int .i64 x.lo,.int .i64 x.hi]]/\FnOK Tryz.prog φ pv_0_0 wKH wKI x.of
def wNx (φ:PHeap) (L_:List Res) (v:Value) (y:Bool):Prop:=v=.bool y/\L_=[]
def wLG (φ:PHeap) (x:wAF) (vs:List Value):Prop:=∃ (pA_0_1:Option Addr) (pc_0_1:Nat) (pA_0_2:Option Addr) (pc_0_2:Nat),vs=[.agg #[.int .i64 x.Bib,.slice pA_0_1 x.Classes.length pc_0_1,.slice pA_0_2 x.Legs.length pc_0_2]]/\Sl φ 1 pA_0_1 pc_0_1 x.Classes.length (nA KL.encI x.Classes)/\SlR φ wGN pA_0_2 pc_0_2 x.Legs
def wLH (φ:PHeap) (L_:List Res) (v:Value) (y:Bool):Prop:=v=.bool y/\L_=[]
def wRM (φ:PHeap) (x:(wAF × wAG)) (vs:List Value):Prop:=∃ (pA_0_1:Option Addr) (pc_0_1:Nat) (pA_0_2:Option Addr) (pc_0_2:Nat) (pA_1_1:Option Addr) (pc_1_1:Nat) (pA_1_2:Option Addr) (pc_1_2:Nat),vs=[.agg #[.int .i64 x.1.Bib,.slice pA_0_1 x.1.Classes.length pc_0_1,.slice pA_0_2 x.1.Legs.length pc_0_2],.agg #[.int .i64 x.2.Skier,.slice pA_1_1 x.2.Loops.length pc_1_1,.slice pA_1_2 x.2.Bouts.length pc_1_2]]/\Sl φ 1 pA_0_1 pc_0_1 x.1.Classes.length (nA KL.encI x.1.Classes)/\SlR φ wGN pA_0_2 pc_0_2 x.1.Legs/\Sl φ 1 pA_1_1 pc_1_1 x.2.Loops.length (nA KL.encI x.2.Loops)/\SlR φ wJF pA_1_2 pc_1_2 x.2.Bouts
def wCU (x:wAd):List Value:=[.int .i64 x.Spares,.int .i64 x.Loops,.int .i64 x.Unused]
def wHF (x:Int):Value:=.int .i64 x
def wHe (x:Bool):Value:=.bool x
def wGO:Rl (List Int) where
 sz:=1
 r:=fun φ x vs=>∃ (pA:Option Addr) (pc:Nat),vs=[.slice pA x.length pc]/\Sl φ 1 pA pc x.length (nA KL.encI x)
 mono:=by rintro φ φ' x vs ⟨pA,pc,rfl,h0⟩ hl;exact ⟨pA,pc,rfl,h0.le hl⟩
 len:=by rintro φ x vs ⟨_,_,rfl,_⟩;rfl
 one:=by rintro φ x vs ⟨_,_,rfl,h0⟩;rfl
def wTS (φ:PHeap) (x:List Int) (vs:List Value):Prop:=∃ (pA_0:Option Addr) (pc_0:Nat),vs=[.slice pA_0 x.length pc_0]/\Sl φ 1 pA_0 pc_0 x.length (nA KL.encI x)
def wTT (φ:PHeap) (L_:List Res) (v:Value) (y:Bool):Prop:=v=.bool y/\L_=[]
def wAS (x:wAD):List Value:=[.int .i64 x.Bib,.int .i64 x.Done,.int .i64 x.Time,.int .i64 x.By]
def wUz (φ:PHeap) (x:(wAD × wAD)) (vs:List Value):Prop:=vs=[.agg #[.int .i64 x.1.Bib,.int .i64 x.1.Done,.int .i64 x.1.Time,.int .i64 x.1.By],.agg #[.int .i64 x.2.Bib,.int .i64 x.2.Done,.int .i64 x.2.Time,.int .i64 x.2.By]]
def wVA (φ:PHeap) (L_:List Res) (v:Value) (y:Int):Prop:=v=.int .i64 y/\L_=[]
def wAE (x:wAA):List Value:=[.int .i64 x.Bib,.int .i64 x.Place,.int .i64 x.Time]
def wTU (φ:PHeap) (x:(wAA × wAA)) (vs:List Value):Prop:=vs=[.agg #[.int .i64 x.1.Bib,.int .i64 x.1.Place,.int .i64 x.1.Time],.agg #[.int .i64 x.2.Bib,.int .i64 x.2.Place,.int .i64 x.2.Time]]
def wTV (φ:PHeap) (L_:List Res) (v:Value) (y:Int):Prop:=v=.int .i64 y/\L_=[]
def wMN (x:Int):Value:=.int .i64 x
def wNy (x:Int):Value:=.int .i64 x
def wTW (φ:PHeap) (x:wAA) (vs:List Value):Prop:=vs=[.agg #[.int .i64 x.Bib,.int .i64 x.Place,.int .i64 x.Time]]
def wTX (φ:PHeap) (L_:List Res) (v:Value) (y:Bool):Prop:=v=.bool y/\L_=[]
def wTY (φ:PHeap) (x:wAD) (vs:List Value):Prop:=vs=[.agg #[.int .i64 x.Bib,.int .i64 x.Done,.int .i64 x.Time,.int .i64 x.By]]
def wTZ (φ:PHeap) (L_:List Res) (v:Value) (y:Bool):Prop:=v=.bool y/\L_=[]
theorem Tryz.mixed:Tryz.prog.follows .mixedOrders=true:=by kernel_rfl
theorem wRN:wDh Tryz.prog 24 [(0,1),(1,1),(2,1),(3,1),(4,1),(5,1)]:=⟨_,Tryz.runUnderlying24,fun w=>by simp [Tryz.sizeOf22,Tryz.sizeOf3]⟩
theorem wKJ:wDh Tryz.prog 27 [(0,6),(6,1),(7,1)]:=⟨_,Tryz.runUnderlying27,fun w=>by simp [Tryz.sizeOf24,Tryz.sizeOf3,Tryz.sizeOf25]⟩
theorem wRO:wDh Tryz.prog 45 [(0,1),(1,1),(2,1),(3,1)]:=⟨_,Tryz.runUnderlying45,fun w=>by simp [Tryz.sizeOf3]⟩
theorem wKK:wDh Tryz.prog 59 [(0,1),(1,1),(2,1)]:=⟨_,Tryz.runUnderlying59,fun w=>by simp [Tryz.sizeOf3]⟩
theorem wKL:wDh Tryz.prog 66 [(0,1),(1,1),(2,1)]:=⟨_,Tryz.runUnderlying66,fun w=>by simp [Tryz.sizeOf3,Tryz.sizeOf22,Tryz.sizeOf46]⟩
theorem wKM:wDh Tryz.prog 73 [(0,1),(1,1),(2,1)]:=⟨_,Tryz.runUnderlying73,fun w=>by simp [Tryz.sizeOf3,Tryz.sizeOf22,Tryz.sizeOf71]⟩
theorem wKN:wDh Tryz.prog 76 [(0,1),(1,1),(2,1)]:=⟨_,Tryz.runUnderlying76,fun w=>by simp [Tryz.sizeOf3,Tryz.sizeOf22,Tryz.sizeOf74]⟩
theorem wHt:wDh Tryz.prog 79 [(0,1),(1,1),(2,1)]:=⟨_,Tryz.runUnderlying79,fun w=>by simp [Tryz.sizeOf3]⟩
theorem wQH:wDh Tryz.prog 179 [(0,8),(8,1)]:=⟨_,Tryz.runUnderlying179,fun w=>by simp [Tryz.sizeOf27,Tryz.sizeOf46]⟩
theorem wQI:wDh Tryz.prog 192 [(0,1),(1,1),(2,1)]:=⟨_,Tryz.runUnderlying192,fun w=>by simp [Tryz.sizeOf61,Tryz.sizeOf3,Tryz.sizeOf190]⟩
theorem wLI:wDh Tryz.prog 204 [(0,3),(3,1),(4,1)]:=⟨_,Tryz.runUnderlying204,fun w=>by simp [Tryz.sizeOf66,Tryz.sizeOf22,Tryz.sizeOf77]⟩
theorem wFT:wDh Tryz.prog 298 [(0,1),(1,1),(2,1)]:=⟨_,Tryz.runUnderlying298,fun w=>by simp [Tryz.sizeOf296,Tryz.sizeOf3]⟩
theorem wFU:Tryz.prog.info? 3=some Tryz.t3:=by kernel_rfl
theorem wMO:Tryz.prog.info? 4=some Tryz.t4:=by kernel_rfl
theorem wSM:Tryz.prog.info? 22=some Tryz.t22:=by kernel_rfl
theorem wVB:Tryz.prog.info? 45=some Tryz.t45:=by kernel_rfl
theorem wNG:Tryz.prog.info? 59=some Tryz.t59:=by kernel_rfl
theorem wNH:Tryz.prog.info? 73=some Tryz.t73:=by kernel_rfl
theorem wLJ:Tryz.prog.info? 76=some Tryz.t76:=by kernel_rfl
theorem wQJ:Tryz.prog.info? 77=some Tryz.t77:=by kernel_rfl
theorem eqS59 (d:Nat) (x y:wAA) (w:World):(Op.equalIn (d + 2) 59 (.agg (wAE x).toArray) (.agg (wAE y).toArray)).run Tryz.prog w=.ok (decide (x=y)) w:=by
 obtain ⟨x0,x1,x2⟩:=x
 obtain ⟨y0,y1,y2⟩:=y
 rw [run_equalIn_agg w (d + 1) 59 _ _ (wJP Tryz.runUnderlying59) (by kernel_rfl),wGD Tryz.runUnderlying59]
 by_cases h0:x0=y0 <;> by_cases h1:x1=y1 <;> by_cases h2:x2=y2 <;> simp [Op.eqFields,part,wAE,Result.andThen,Tryz.isAgg3,h0,run_equalIn_int _ (d + 0) 3 .i64 .i64 _ _ (wDH Tryz.runUnderlying3),h1,h2]
theorem eqG59:Tryz.prog.eqGuardType Tryz.prog.depth 59=false:=by kernel_rfl
theorem eqT59:EqT Tryz.prog 59 wAE:=fun x y w=>by
 unfold Op.equal Op.maxDepth;exact eqS59 9998 x y w
theorem eqS79 (d:Nat) (x y:wAd) (w:World):(Op.equalIn (d + 2) 79 (.agg (wCU x).toArray) (.agg (wCU y).toArray)).run Tryz.prog w=.ok (decide (x=y)) w:=by
 obtain ⟨x0,x1,x2⟩:=x
 obtain ⟨y0,y1,y2⟩:=y
 rw [run_equalIn_agg w (d + 1) 79 _ _ (wJP Tryz.runUnderlying79) (by kernel_rfl),wGD Tryz.runUnderlying79]
 by_cases h0:x0=y0 <;> by_cases h1:x1=y1 <;> by_cases h2:x2=y2 <;> simp [Op.eqFields,part,wCU,Result.andThen,Tryz.isAgg3,h0,run_equalIn_int _ (d + 0) 3 .i64 .i64 _ _ (wDH Tryz.runUnderlying3),h1,h2]
theorem eqG79:Tryz.prog.eqGuardType Tryz.prog.depth 79=false:=by kernel_rfl
theorem eqT79:EqT Tryz.prog 79 wCU:=fun x y w=>by
 unfold Op.equal Op.maxDepth;exact eqS79 9998 x y w
theorem wIl:KeyR Tryz.prog 3 wHF:=KeyR.ofInt (wDH Tryz.runUnderlying3)
theorem wMP:KeyR Tryz.prog 3 wMN:=KeyR.ofInt (wDH Tryz.runUnderlying3)
end Go.Proofs.YtglpalgiipahjaaGreat
