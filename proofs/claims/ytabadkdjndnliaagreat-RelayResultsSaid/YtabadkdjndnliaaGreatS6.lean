import Derived.Test.YtabadkdjndnliaaGreatS0
import Derived.Test.YtabadkdjndnliaaGreatS3
import Derived.Test.YtabadkdjndnliaaGreatProg
import Derived.Test.YtabadkdjndnliaaGreatS1
import Derived.Test.YtabadkdjndnliaaGreatS2
import Derived.Test.YtabadkdjndnliaaGreatS5
set_option linter.all false
open List renaming flatMap->nA
namespace Go.Proofs.YtabadkdjndnliaaGreat
open Go.KL
def wGx:Rl (List Bool) where
 sz:=1
 r:=fun U x vs=>∃ (pA:Option Addr) (pc:Nat),vs=[.slice pA x.length pc]/\Sl U 1 pA pc x.length (nA KL.encT x)
 mono:=by rintro U U' x vs ⟨pA,pc,rfl,h0⟩ hl;exact ⟨pA,pc,rfl,h0.le hl⟩
 len:=by rintro U x vs ⟨_,_,rfl,_⟩;rfl
 one:=by rintro U x vs ⟨_,_,rfl,h0⟩;rfl
def wJJ:Rl wAN where
 sz:=3
 r:=fun U x vs=>∃ (pA_1:Option Addr) (pc_1:Nat) (pA_2:Option Addr) (pc_2:Nat),vs=[.int .i64 x.Skier,.slice pA_1 x.Loops.length pc_1,.slice pA_2 x.Bouts.length pc_2]/\Sl U 1 pA_1 pc_1 x.Loops.length (nA KL.encI x.Loops)/\SlR U wGx pA_2 pc_2 x.Bouts
 mono:=by rintro U U' x vs ⟨pA_1,pc_1,pA_2,pc_2,rfl,h0,h1⟩ hl;exact ⟨pA_1,pc_1,pA_2,pc_2,rfl,h0.le hl,h1.le hl⟩
 len:=by rintro U x vs ⟨_,_,_,_,rfl,_,_⟩;rfl
 one:=by rintro U x vs ⟨_,_,_,_,rfl,h0,h1⟩;rfl
def wFL:Rl wAH where
 sz:=3
 r:=fun U x vs=>∃ (pA_1:Option Addr) (pc_1:Nat) (pA_2:Option Addr) (pc_2:Nat),vs=[.int .i64 x.Bib,.slice pA_1 x.Classes.length pc_1,.slice pA_2 x.Legs.length pc_2]/\Sl U 1 pA_1 pc_1 x.Classes.length (nA KL.encI x.Classes)/\SlR U wJJ pA_2 pc_2 x.Legs
 mono:=by rintro U U' x vs ⟨pA_1,pc_1,pA_2,pc_2,rfl,h0,h1⟩ hl;exact ⟨pA_1,pc_1,pA_2,pc_2,rfl,h0.le hl,h1.le hl⟩
 len:=by rintro U x vs ⟨_,_,_,_,rfl,_,_⟩;rfl
 one:=by rintro U x vs ⟨_,_,_,_,rfl,h0,h1⟩;rfl
def wCL (x:wAa):List Value:=[.int .i64 x.Spares,.int .i64 x.Loops,.int .i64 x.Unused]
def wGy (U:PHeap) (x:Int) (vs:List Value):Prop:=vs=[.int .i64 x]
def wHg (U:PHeap) (L_:List Res) (v:Value) (y:Bool):Prop:=v=.bool y/\L_=[]
def wKC (U:PHeap) (x:wAE) (vs:List Value):Prop:=∃ (pA_0_0:Option Addr) (pc_0_0:Nat),vs=[.agg #[.slice pA_0_0 x.Classes.length pc_0_0,.int .i64 x.Each,.int .i64 x.Laps,.int .i64 x.Spare,.int .i64 x.Loop,.int .i64 x.Unused]]/\Sl U 1 pA_0_0 pc_0_0 x.Classes.length (nA KL.encI x.Classes)
def wKD (U:PHeap) (L_:List Res) (v:Value) (y:Int):Prop:=v=.int .i64 y/\L_=[]
def wJK:Rl wAU where
 sz:=3
 r:=fun U x vs=>∃ (pv_0:Value),vs=[pv_0,.int .i64 x.lo,.int .i64 x.hi]/\FnOK Tryz.prog U pv_0 wKC wKD x.of
 mono:=by rintro U U' x vs ⟨pv_0,rfl,h0⟩ hl;exact ⟨pv_0,rfl,h0.le hl⟩
 len:=by rintro U x vs ⟨_,rfl,_⟩;rfl
 one:=by rintro U x vs ⟨_,rfl,h0⟩;obtain ⟨_,_,_,rfl,_⟩:=h0;rfl
def wNH (U:PHeap) (x:wAU) (vs:List Value):Prop:=∃ (pv_0_0:Value),vs=[.agg #[pv_0_0,.int .i64 x.lo,.int .i64 x.hi]]/\FnOK Tryz.prog U pv_0_0 wKC wKD x.of
def wNI (U:PHeap) (L_:List Res) (v:Value) (y:Bool):Prop:=v=.bool y/\L_=[]
def wLh (U:PHeap) (x:wAH) (vs:List Value):Prop:=∃ (pA_0_1:Option Addr) (pc_0_1:Nat) (pA_0_2:Option Addr) (pc_0_2:Nat),vs=[.agg #[.int .i64 x.Bib,.slice pA_0_1 x.Classes.length pc_0_1,.slice pA_0_2 x.Legs.length pc_0_2]]/\Sl U 1 pA_0_1 pc_0_1 x.Classes.length (nA KL.encI x.Classes)/\SlR U wJJ pA_0_2 pc_0_2 x.Legs
def wLi (U:PHeap) (L_:List Res) (v:Value) (y:Bool):Prop:=v=.bool y/\L_=[]
def wOw (U:PHeap) (x:(wAH × wAN)) (vs:List Value):Prop:=∃ (pA_0_1:Option Addr) (pc_0_1:Nat) (pA_0_2:Option Addr) (pc_0_2:Nat) (pA_1_1:Option Addr) (pc_1_1:Nat) (pA_1_2:Option Addr) (pc_1_2:Nat),vs=[.agg #[.int .i64 x.1.Bib,.slice pA_0_1 x.1.Classes.length pc_0_1,.slice pA_0_2 x.1.Legs.length pc_0_2],.agg #[.int .i64 x.2.Skier,.slice pA_1_1 x.2.Loops.length pc_1_1,.slice pA_1_2 x.2.Bouts.length pc_1_2]]/\Sl U 1 pA_0_1 pc_0_1 x.1.Classes.length (nA KL.encI x.1.Classes)/\SlR U wJJ pA_0_2 pc_0_2 x.1.Legs/\Sl U 1 pA_1_1 pc_1_1 x.2.Loops.length (nA KL.encI x.2.Loops)/\SlR U wGx pA_1_2 pc_1_2 x.2.Bouts
def wIF (x:Int):Value:=.int .i64 x
def wIb (x:Bool):Value:=.bool x
def wDe:Rl (List Int) where
 sz:=1
 r:=fun U x vs=>∃ (pA:Option Addr) (pc:Nat),vs=[.slice pA x.length pc]/\Sl U 1 pA pc x.length (nA KL.encI x)
 mono:=by rintro U U' x vs ⟨pA,pc,rfl,h0⟩ hl;exact ⟨pA,pc,rfl,h0.le hl⟩
 len:=by rintro U x vs ⟨_,_,rfl,_⟩;rfl
 one:=by rintro U x vs ⟨_,_,rfl,h0⟩;rfl
def wJi (U:PHeap) (x:List Int) (vs:List Value):Prop:=∃ (pA_0:Option Addr) (pc_0:Nat),vs=[.slice pA_0 x.length pc_0]/\Sl U 1 pA_0 pc_0 x.length (nA KL.encI x)
def wJj (U:PHeap) (L_:List Res) (v:Value) (y:Bool):Prop:=v=.bool y/\L_=[]
def wAb (x:wAG):List Value:=[.int .i64 x.Bib,.int .i64 x.Done,.int .i64 x.Time,.int .i64 x.By]
def wRj (U:PHeap) (x:(wAG × wAG)) (vs:List Value):Prop:=vs=[.agg #[.int .i64 x.1.Bib,.int .i64 x.1.Done,.int .i64 x.1.Time,.int .i64 x.1.By],.agg #[.int .i64 x.2.Bib,.int .i64 x.2.Done,.int .i64 x.2.Time,.int .i64 x.2.By]]
def wRk (U:PHeap) (L_:List Res) (v:Value) (y:Int):Prop:=v=.int .i64 y/\L_=[]
def wAJ (x:wAB):List Value:=[.int .i64 x.Bib,.int .i64 x.Place,.int .i64 x.Time]
def wQM (U:PHeap) (x:(wAB × wAB)) (vs:List Value):Prop:=vs=[.agg #[.int .i64 x.1.Bib,.int .i64 x.1.Place,.int .i64 x.1.Time],.agg #[.int .i64 x.2.Bib,.int .i64 x.2.Place,.int .i64 x.2.Time]]
def wQN (U:PHeap) (L_:List Res) (v:Value) (y:Int):Prop:=v=.int .i64 y/\L_=[]
def wLj (x:Int):Value:=.int .i64 x
def wNJ (x:Int):Value:=.int .i64 x
def wAh (x:wAS):List Value:=[.int .i64 x.Lo,.int .i64 x.Hi]
def wNK (U:PHeap) (x:wAS) (vs:List Value):Prop:=vs=[.agg #[.int .i64 x.Lo,.int .i64 x.Hi]]
def wNL (U:PHeap) (L_:List Res) (v:Value) (y:Bool):Prop:=v=.bool y/\L_=[]
def wNM:Rl wCS where
 sz:=3
 r:=fun U x vs=>∃ (pA_1:Option Addr) (pc_1:Nat) (pA_2:Option Addr) (pc_2:Nat),vs=[.int .i64 x.Skier,.slice pA_1 x.Loops.length pc_1,.slice pA_2 x.Bouts.length pc_2]/\Sl U 1 pA_1 pc_1 x.Loops.length (nA KL.encI x.Loops)/\SlR U wGx pA_2 pc_2 x.Bouts
 mono:=by rintro U U' x vs ⟨pA_1,pc_1,pA_2,pc_2,rfl,h0,h1⟩ hl;exact ⟨pA_1,pc_1,pA_2,pc_2,rfl,h0.le hl,h1.le hl⟩
 len:=by rintro U x vs ⟨_,_,_,_,rfl,_,_⟩;rfl
 one:=by rintro U x vs ⟨_,_,_,_,rfl,h0,h1⟩;rfl
def wGH:Rl wCH where
 sz:=3
 r:=fun U x vs=>∃ (pA_1:Option Addr) (pc_1:Nat) (pA_2:Option Addr) (pc_2:Nat),vs=[.int .i64 x.Bib,.slice pA_1 x.Classes.length pc_1,.slice pA_2 x.Legs.length pc_2]/\Sl U 1 pA_1 pc_1 x.Classes.length (nA KL.encI x.Classes)/\SlR U wNM pA_2 pc_2 x.Legs
 mono:=by rintro U U' x vs ⟨pA_1,pc_1,pA_2,pc_2,rfl,h0,h1⟩ hl;exact ⟨pA_1,pc_1,pA_2,pc_2,rfl,h0.le hl,h1.le hl⟩
 len:=by rintro U x vs ⟨_,_,_,_,rfl,_,_⟩;rfl
 one:=by rintro U x vs ⟨_,_,_,_,rfl,h0,h1⟩;rfl
def wAI (x:wAf):List Value:=[.int .i64 x.Bib,.int .i64 x.Done,.int .i64 x.Time,.int .i64 x.By]
def wAV (x:wAR):List Value:=[.int .i64 x.Bib,.int .i64 x.Place,.int .i64 x.Time]
theorem Tryz.mixed:Tryz.prog.follows .mixedOrders=true:=by kernel_rfl
theorem wOx:wDg Tryz.prog 24 [(0,1),(1,1),(2,1),(3,1),(4,1),(5,1)]:=⟨_,Tryz.runUnderlying24,fun w=>by simp [Tryz.sizeOf22,Tryz.sizeOf3]⟩
theorem wKE:wDg Tryz.prog 27 [(0,6),(6,1),(7,1)]:=⟨_,Tryz.runUnderlying27,fun w=>by simp [Tryz.sizeOf24,Tryz.sizeOf3,Tryz.sizeOf25]⟩
theorem wMX:wDg Tryz.prog 34 [(0,6),(6,1),(7,1)]:=⟨_,Tryz.runUnderlying34,fun w=>by simp [Tryz.sizeOf31,Tryz.sizeOf3,Tryz.sizeOf32]⟩
theorem wOy:wDg Tryz.prog 44 [(0,1),(1,1),(2,1),(3,1)]:=⟨_,Tryz.runUnderlying44,fun w=>by simp [Tryz.sizeOf3]⟩
theorem wOz:wDg Tryz.prog 45 [(0,1),(1,1),(2,1),(3,1)]:=⟨_,Tryz.runUnderlying45,fun w=>by simp [Tryz.sizeOf3]⟩
theorem wPA:wDg Tryz.prog 58 [(0,1),(1,1),(2,1)]:=⟨_,Tryz.runUnderlying58,fun w=>by simp [Tryz.sizeOf3]⟩
theorem wHh:wDg Tryz.prog 59 [(0,1),(1,1),(2,1)]:=⟨_,Tryz.runUnderlying59,fun w=>by simp [Tryz.sizeOf3]⟩
theorem wPB:wDg Tryz.prog 66 [(0,1),(1,1),(2,1)]:=⟨_,Tryz.runUnderlying66,fun w=>by simp [Tryz.sizeOf3,Tryz.sizeOf22,Tryz.sizeOf46]⟩
theorem wIs:wDg Tryz.prog 73 [(0,1),(1,1),(2,1)]:=⟨_,Tryz.runUnderlying73,fun w=>by simp [Tryz.sizeOf3,Tryz.sizeOf22,Tryz.sizeOf71]⟩
theorem wHi:wDg Tryz.prog 76 [(0,1),(1,1),(2,1)]:=⟨_,Tryz.runUnderlying76,fun w=>by simp [Tryz.sizeOf3,Tryz.sizeOf22,Tryz.sizeOf74]⟩
theorem wGs:wDg Tryz.prog 79 [(0,1),(1,1),(2,1)]:=⟨_,Tryz.runUnderlying79,fun w=>by simp [Tryz.sizeOf3]⟩
theorem wPC:wDg Tryz.prog 93 [(0,1),(1,1)]:=⟨_,Tryz.runUnderlying93,fun w=>by simp [Tryz.sizeOf22,Tryz.sizeOf46]⟩
theorem wFM:wDg Tryz.prog 121 [(0,1),(1,1)]:=⟨_,Tryz.runUnderlying121,fun w=>by simp [Tryz.sizeOf3]⟩
theorem wOD:wDg Tryz.prog 205 [(0,1),(1,1),(2,1)]:=⟨_,Tryz.runUnderlying205,fun w=>by simp [Tryz.sizeOf3,Tryz.sizeOf22,Tryz.sizeOf203]⟩
theorem wKq:wDg Tryz.prog 211 [(0,1),(1,1),(2,1)]:=⟨_,Tryz.runUnderlying211,fun w=>by simp [Tryz.sizeOf3,Tryz.sizeOf22,Tryz.sizeOf46]⟩
theorem wOE:wDg Tryz.prog 222 [(0,8),(8,1)]:=⟨_,Tryz.runUnderlying222,fun w=>by simp [Tryz.sizeOf27,Tryz.sizeOf46]⟩
theorem wJL:wDg Tryz.prog 249 [(0,2),(2,6)]:=⟨_,Tryz.runUnderlying249,fun w=>by simp [Tryz.sizeOf93,Tryz.sizeOf24]⟩
theorem wHj:wDg Tryz.prog 323 [(0,1),(1,1),(2,1)]:=⟨_,Tryz.runUnderlying323,fun w=>by simp [Tryz.sizeOf3]⟩
theorem wKr:wDg Tryz.prog 327 [(0,3),(3,1),(4,1)]:=⟨_,Tryz.runUnderlying327,fun w=>by simp [Tryz.sizeOf66,Tryz.sizeOf22,Tryz.sizeOf77]⟩
theorem wGb:wDg Tryz.prog 342 [(0,1),(1,1),(2,1)]:=⟨_,Tryz.runUnderlying342,fun w=>by simp [Tryz.sizeOf340,Tryz.sizeOf3]⟩
theorem wFN:Tryz.prog.info? 3=some Tryz.t3:=by kernel_rfl
theorem wLk:Tryz.prog.info? 4=some Tryz.t4:=by kernel_rfl
theorem wJs:Tryz.prog.info? 22=some Tryz.t22:=by kernel_rfl
theorem wOF:Tryz.prog.info? 44=some Tryz.t44:=by kernel_rfl
theorem wRl:Tryz.prog.info? 45=some Tryz.t45:=by kernel_rfl
theorem wPw:Tryz.prog.info? 58=some Tryz.t58:=by kernel_rfl
theorem wMY:Tryz.prog.info? 59=some Tryz.t59:=by kernel_rfl
theorem wRm:Tryz.prog.info? 73=some Tryz.t73:=by kernel_rfl
theorem wRn:Tryz.prog.info? 76=some Tryz.t76:=by kernel_rfl
theorem wRo:Tryz.prog.info? 77=some Tryz.t77:=by kernel_rfl
theorem wQO:Tryz.prog.info? 121=some Tryz.t121:=by kernel_rfl
theorem wQP:Tryz.prog.info? 205=some Tryz.t205:=by kernel_rfl
theorem wQQ:Tryz.prog.info? 206=some Tryz.t206:=by kernel_rfl
theorem eqS44 (d:Nat) (x y:wAf) (w:World):(Op.equalIn (d + 2) 44 (.agg (wAI x).toArray) (.agg (wAI y).toArray)).run Tryz.prog w=.ok (decide (x=y)) w:=by
 obtain ⟨x0,x1,x2,x3⟩:=x
 obtain ⟨y0,y1,y2,y3⟩:=y
 rw [run_equalIn_agg w (d + 1) 44 _ _ (wFs Tryz.runUnderlying44) (by kernel_rfl),wEj Tryz.runUnderlying44]
 by_cases h0:x0=y0 <;> by_cases h1:x1=y1 <;> by_cases h2:x2=y2 <;> by_cases h3:x3=y3 <;> simp [Op.eqFields,part,wAI,Result.andThen,Tryz.isAgg3,h0,run_equalIn_int _ (d + 0) 3 .i64 .i64 _ _ (wDO Tryz.runUnderlying3),h1,h2,h3]
theorem eqG44:Tryz.prog.eqGuardType Tryz.prog.depth 44=false:=by kernel_rfl
theorem eqT44:EqT Tryz.prog 44 wAI:=fun x y w=>by
 unfold Op.equal Op.maxDepth;exact eqS44 9998 x y w
theorem eqS58 (d:Nat) (x y:wAR) (w:World):(Op.equalIn (d + 2) 58 (.agg (wAV x).toArray) (.agg (wAV y).toArray)).run Tryz.prog w=.ok (decide (x=y)) w:=by
 obtain ⟨x0,x1,x2⟩:=x
 obtain ⟨y0,y1,y2⟩:=y
 rw [run_equalIn_agg w (d + 1) 58 _ _ (wFs Tryz.runUnderlying58) (by kernel_rfl),wEj Tryz.runUnderlying58]
 by_cases h0:x0=y0 <;> by_cases h1:x1=y1 <;> by_cases h2:x2=y2 <;> simp [Op.eqFields,part,wAV,Result.andThen,Tryz.isAgg3,h0,run_equalIn_int _ (d + 0) 3 .i64 .i64 _ _ (wDO Tryz.runUnderlying3),h1,h2]
theorem eqG58:Tryz.prog.eqGuardType Tryz.prog.depth 58=false:=by kernel_rfl
theorem eqT58:EqT Tryz.prog 58 wAV:=fun x y w=>by
 unfold Op.equal Op.maxDepth;exact eqS58 9998 x y w
theorem eqS59 (d:Nat) (x y:wAB) (w:World):(Op.equalIn (d + 2) 59 (.agg (wAJ x).toArray) (.agg (wAJ y).toArray)).run Tryz.prog w=.ok (decide (x=y)) w:=by
 obtain ⟨x0,x1,x2⟩:=x
 obtain ⟨y0,y1,y2⟩:=y
 rw [run_equalIn_agg w (d + 1) 59 _ _ (wFs Tryz.runUnderlying59) (by kernel_rfl),wEj Tryz.runUnderlying59]
 by_cases h0:x0=y0 <;> by_cases h1:x1=y1 <;> by_cases h2:x2=y2 <;> simp [Op.eqFields,part,wAJ,Result.andThen,Tryz.isAgg3,h0,run_equalIn_int _ (d + 0) 3 .i64 .i64 _ _ (wDO Tryz.runUnderlying3),h1,h2]
theorem eqG59:Tryz.prog.eqGuardType Tryz.prog.depth 59=false:=by kernel_rfl
theorem eqT59:EqT Tryz.prog 59 wAJ:=fun x y w=>by
 unfold Op.equal Op.maxDepth;exact eqS59 9998 x y w
theorem eqS79 (d:Nat) (x y:wAa) (w:World):(Op.equalIn (d + 2) 79 (.agg (wCL x).toArray) (.agg (wCL y).toArray)).run Tryz.prog w=.ok (decide (x=y)) w:=by
 obtain ⟨x0,x1,x2⟩:=x
 obtain ⟨y0,y1,y2⟩:=y
 rw [run_equalIn_agg w (d + 1) 79 _ _ (wFs Tryz.runUnderlying79) (by kernel_rfl),wEj Tryz.runUnderlying79]
 by_cases h0:x0=y0 <;> by_cases h1:x1=y1 <;> by_cases h2:x2=y2 <;> simp [Op.eqFields,part,wCL,Result.andThen,Tryz.isAgg3,h0,run_equalIn_int _ (d + 0) 3 .i64 .i64 _ _ (wDO Tryz.runUnderlying3),h1,h2]
theorem wQR:Tryz.prog.eqGuardType Tryz.prog.depth 79=false:=by kernel_rfl
theorem wQS:EqT Tryz.prog 79 wCL:=fun x y w=>by
 unfold Op.equal Op.maxDepth;exact eqS79 9998 x y w
theorem wRp (d:Nat) (x y:wAS) (w:World):(Op.equalIn (d + 2) 121 (.agg (wAh x).toArray) (.agg (wAh y).toArray)).run Tryz.prog w=.ok (decide (x=y)) w:=by
 obtain ⟨x0,x1⟩:=x
 obtain ⟨y0,y1⟩:=y
 rw [run_equalIn_agg w (d + 1) 121 _ _ (wFs Tryz.runUnderlying121) (by kernel_rfl),wEj Tryz.runUnderlying121]
 by_cases h0:x0=y0 <;> by_cases h1:x1=y1 <;> simp [Op.eqFields,part,wAh,Result.andThen,Tryz.isAgg3,h0,run_equalIn_int _ (d + 0) 3 .i64 .i64 _ _ (wDO Tryz.runUnderlying3),h1]
theorem wRq:Tryz.prog.eqGuardType Tryz.prog.depth 121=false:=by kernel_rfl
theorem wRr:EqT Tryz.prog 121 wAh:=fun x y w=>by
 unfold Op.equal Op.maxDepth;exact wRp 9998 x y w
theorem wJM:KeyR Tryz.prog 3 wIF:=KeyR.ofInt (wDO Tryz.runUnderlying3)
theorem wLl:KeyR Tryz.prog 3 wLj:=KeyR.ofInt (wDO Tryz.runUnderlying3)
end Go.Proofs.YtabadkdjndnliaaGreat
