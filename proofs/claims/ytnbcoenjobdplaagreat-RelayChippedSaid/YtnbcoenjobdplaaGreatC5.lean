import Derived.Test.YtnbcoenjobdplaaGreatC0
import Derived.Test.YtnbcoenjobdplaaGreatC3
import Derived.Test.YtnbcoenjobdplaaGreatProg
import Derived.Test.YtnbcoenjobdplaaGreatC1
import Derived.Test.YtnbcoenjobdplaaGreatC2
import Derived.Test.YtnbcoenjobdplaaGreatC4
set_option linter.all false
open List renaming flatMap->hD
namespace Go.Proofs.YtnbcoenjobdplaaGreat
open Go.KL
def wHL:Rl (List Bool) where
 sz:=1
 r:=fun U x vs=>∃ (pA:Option Addr) (pc:Nat),vs=[.slice pA x.length pc]/\Sl U 1 pA pc x.length (hD KL.encT x)
 mono:=by rintro U U' x vs ⟨pA,pc,rfl,h0⟩ hl;exact ⟨pA,pc,rfl,h0.le hl⟩
 len:=by rintro U x vs ⟨_,_,rfl,_⟩;rfl
 one:=by rintro U x vs ⟨_,_,rfl,h0⟩;rfl
def wHD:Rl wAM where
 sz:=3
 r:=fun U x vs=>∃ (pA_1:Option Addr) (pc_1:Nat) (pA_2:Option Addr) (pc_2:Nat),vs=[.int .i64 x.Skier,.slice pA_1 x.Loops.length pc_1,.slice pA_2 x.Bouts.length pc_2]/\Sl U 1 pA_1 pc_1 x.Loops.length (hD KL.encI x.Loops)/\SlR U wHL pA_2 pc_2 x.Bouts
 mono:=by rintro U U' x vs ⟨pA_1,pc_1,pA_2,pc_2,rfl,h0,h1⟩ hl;exact ⟨pA_1,pc_1,pA_2,pc_2,rfl,h0.le hl,h1.le hl⟩
 len:=by rintro U x vs ⟨_,_,_,_,rfl,_,_⟩;rfl
 one:=by rintro U x vs ⟨_,_,_,_,rfl,h0,h1⟩;rfl
def wHM:Rl wAN where
 sz:=3
 r:=fun U x vs=>∃ (pA_1:Option Addr) (pc_1:Nat) (pA_2:Option Addr) (pc_2:Nat),vs=[.int .i64 x.Bib,.slice pA_1 x.Classes.length pc_1,.slice pA_2 x.Legs.length pc_2]/\Sl U 1 pA_1 pc_1 x.Classes.length (hD KL.encI x.Classes)/\SlR U wHD pA_2 pc_2 x.Legs
 mono:=by rintro U U' x vs ⟨pA_1,pc_1,pA_2,pc_2,rfl,h0,h1⟩ hl;exact ⟨pA_1,pc_1,pA_2,pc_2,rfl,h0.le hl,h1.le hl⟩
 len:=by rintro U x vs ⟨_,_,_,_,rfl,_,_⟩;rfl
 one:=by rintro U x vs ⟨_,_,_,_,rfl,h0,h1⟩;rfl
def wKm (U:PHeap) (x:Int) (vs:List Value):Prop:=vs=[.int .i64 x]
def wLg (U:PHeap) (L_:List Res) (v:Value) (y:Bool):Prop:=v=.bool y/\L_=[]
def wKV (U:PHeap) (x:wAL) (vs:List Value):Prop:=∃ (pA_0_0:Option Addr) (pc_0_0:Nat),vs=[.agg #[.slice pA_0_0 x.Classes.length pc_0_0,.int .i64 x.Each,.int .i64 x.Laps,.int .i64 x.Spare,.int .i64 x.Loop,.int .i64 x.Unused]]/\Sl U 1 pA_0_0 pc_0_0 x.Classes.length (hD KL.encI x.Classes)
def wKW (U:PHeap) (L_:List Res) (v:Value) (y:Int):Prop:=v=.int .i64 y/\L_=[]
def wJG:Rl wAT where
 sz:=3
 r:=fun U x vs=>∃ (pv_0:Value),vs=[pv_0,.int .i64 x.lo,.int .i64 x.hi]/\FnOK Tryz.prog U pv_0 wKV wKW x.of
 mono:=by rintro U U' x vs ⟨pv_0,rfl,h0⟩ hl;exact ⟨pv_0,rfl,h0.le hl⟩
 len:=by rintro U x vs ⟨_,rfl,_⟩;rfl
 one:=by rintro U x vs ⟨_,rfl,h0⟩;obtain ⟨_,_,_,rfl,_⟩:=h0;rfl
def wNQ (U:PHeap) (x:wAT) (vs:List Value):Prop:=∃ (pv_0_0:Value),vs=[.agg #[pv_0_0,.int .i64 x.lo,.int .i64 x.hi]]/\FnOK Tryz.prog U pv_0_0 wKV wKW x.of
def wNR (U:PHeap) (L_:List Res) (v:Value) (y:Bool):Prop:=v=.bool y/\L_=[]
def wLw (U:PHeap) (x:wAN) (vs:List Value):Prop:=∃ (pA_0_1:Option Addr) (pc_0_1:Nat) (pA_0_2:Option Addr) (pc_0_2:Nat),vs=[.agg #[.int .i64 x.Bib,.slice pA_0_1 x.Classes.length pc_0_1,.slice pA_0_2 x.Legs.length pc_0_2]]/\Sl U 1 pA_0_1 pc_0_1 x.Classes.length (hD KL.encI x.Classes)/\SlR U wHD pA_0_2 pc_0_2 x.Legs
def wLx (U:PHeap) (L_:List Res) (v:Value) (y:Bool):Prop:=v=.bool y/\L_=[]
def wPB (U:PHeap) (x:(wAN × wAM)) (vs:List Value):Prop:=∃ (pA_0_1:Option Addr) (pc_0_1:Nat) (pA_0_2:Option Addr) (pc_0_2:Nat) (pA_1_1:Option Addr) (pc_1_1:Nat) (pA_1_2:Option Addr) (pc_1_2:Nat),vs=[.agg #[.int .i64 x.1.Bib,.slice pA_0_1 x.1.Classes.length pc_0_1,.slice pA_0_2 x.1.Legs.length pc_0_2],.agg #[.int .i64 x.2.Skier,.slice pA_1_1 x.2.Loops.length pc_1_1,.slice pA_1_2 x.2.Bouts.length pc_1_2]]/\Sl U 1 pA_0_1 pc_0_1 x.1.Classes.length (hD KL.encI x.1.Classes)/\SlR U wHD pA_0_2 pc_0_2 x.1.Legs/\Sl U 1 pA_1_1 pc_1_1 x.2.Loops.length (hD KL.encI x.2.Loops)/\SlR U wHL pA_1_2 pc_1_2 x.2.Bouts
def wBe (x:wAi):List Value:=[.int .i64 x.Spares,.int .i64 x.Loops,.int .i64 x.Unused]
def wIS (x:Int):Value:=.int .i64 x
def wIn (x:Bool):Value:=.bool x
def wDl:Rl (List Int) where
 sz:=1
 r:=fun U x vs=>∃ (pA:Option Addr) (pc:Nat),vs=[.slice pA x.length pc]/\Sl U 1 pA pc x.length (hD KL.encI x)
 mono:=by rintro U U' x vs ⟨pA,pc,rfl,h0⟩ hl;exact ⟨pA,pc,rfl,h0.le hl⟩
 len:=by rintro U x vs ⟨_,_,rfl,_⟩;rfl
 one:=by rintro U x vs ⟨_,_,rfl,h0⟩;rfl
def wJm (U:PHeap) (x:List Int) (vs:List Value):Prop:=∃ (pA_0:Option Addr) (pc_0:Nat),vs=[.slice pA_0 x.length pc_0]/\Sl U 1 pA_0 pc_0 x.length (hD KL.encI x)
def wJn (U:PHeap) (L_:List Res) (v:Value) (y:Bool):Prop:=v=.bool y/\L_=[]
def wAh (x:wAl):List Value:=[.int .i64 x.Bib,.int .i64 x.Done,.int .i64 x.Time,.int .i64 x.By]
def wRg (U:PHeap) (x:(wAl × wAl)) (vs:List Value):Prop:=vs=[.agg #[.int .i64 x.1.Bib,.int .i64 x.1.Done,.int .i64 x.1.Time,.int .i64 x.1.By],.agg #[.int .i64 x.2.Bib,.int .i64 x.2.Done,.int .i64 x.2.Time,.int .i64 x.2.By]]
def wRh (U:PHeap) (L_:List Res) (v:Value) (y:Int):Prop:=v=.int .i64 y/\L_=[]
def wAJ (x:wAE):List Value:=[.int .i64 x.Bib,.int .i64 x.Place,.int .i64 x.Time]
def wQQ (U:PHeap) (x:(wAE × wAE)) (vs:List Value):Prop:=vs=[.agg #[.int .i64 x.1.Bib,.int .i64 x.1.Place,.int .i64 x.1.Time],.agg #[.int .i64 x.2.Bib,.int .i64 x.2.Place,.int .i64 x.2.Time]]
def wQR (U:PHeap) (L_:List Res) (v:Value) (y:Int):Prop:=v=.int .i64 y/\L_=[]
def wLy (x:Int):Value:=.int .i64 x
def wNS (x:Int):Value:=.int .i64 x
def wAH (x:wAD):List Value:=[.int .i64 x.Lo,.int .i64 x.Hi]
def wLF (U:PHeap) (x:wAD) (vs:List Value):Prop:=vs=[.agg #[.int .i64 x.Lo,.int .i64 x.Hi]]
def wLG (U:PHeap) (L_:List Res) (v:Value) (y:Bool):Prop:=v=.bool y/\L_=[]
def wAU (x:wAR):List Value:=[.int .i64 x.Offset.Lo,.int .i64 x.Offset.Hi,.int .i64 x.Error]
def wRi (U:PHeap) (x:wAR) (vs:List Value):Prop:=vs=[.agg #[.int .i64 x.Offset.Lo,.int .i64 x.Offset.Hi,.int .i64 x.Error]]
def wRj (U:PHeap) (L_:List Res) (v:Value) (y:Bool):Prop:=v=.bool y/\L_=[]
def wAG (x:wAP):List Value:=[.int .i64 x.Skier,.int .i64 x.Mat,.int .i64 x.Clock,.int .i64 x.Time]
def wQS (U:PHeap) (x:wAP) (vs:List Value):Prop:=vs=[.agg #[.int .i64 x.Skier,.int .i64 x.Mat,.int .i64 x.Clock,.int .i64 x.Time]]
def wQT (U:PHeap) (L_:List Res) (v:Value) (y:Bool):Prop:=v=.bool y/\L_=[]
def wDg (x:wAa):List Value:=[.int .i64 x.Skier,.int .i64 x.Mat]
def wJH (x:wAK):List Value:=[.int .i64 x.skier,.int .i64 x.mat]
def wRk (U:PHeap) (x:wAO) (vs:List Value):Prop:=vs=[.agg #[.int .i64 x.Kind,.int .i64 x.Skier,.int .i64 x.Index,.bool x.Up]]
def wEA (x:wAK):Value:=.agg #[.int .i64 x.skier,.int .i64 x.mat]
def wEI (x:Int):Value:=.int .i64 x
def wAf (x:wAm):List Value:=[.int .i64 x.step.Kind,.int .i64 x.step.Skier,.int .i64 x.step.Index,.bool x.step.Up,.int .i64 x.from_,.int .i64 x.to_,.int .i64 x.count]
def wQU (U:PHeap) (x:wAa) (vs:List Value):Prop:=vs=[.agg #[.int .i64 x.Skier,.int .i64 x.Mat]]
def wQV (U:PHeap) (L_:List Res) (v:Value) (y:Bool):Prop:=v=.bool y/\L_=[]
theorem Tryz.mixed:Tryz.prog.follows .mixedOrders=true:=by kernel_rfl
theorem wMi:wCL Tryz.prog 25 [(0,1),(1,1),(2,1),(3,1),(4,1),(5,1)]:=⟨_,Tryz.runUnderlying25,fun w=>by simp [Tryz.sizeOf23,Tryz.sizeOf3]⟩
theorem wMj:wCL Tryz.prog 28 [(0,6),(6,1),(7,1)]:=⟨_,Tryz.runUnderlying28,fun w=>by simp [Tryz.sizeOf25,Tryz.sizeOf3,Tryz.sizeOf26]⟩
theorem wKX:wCL Tryz.prog 34 [(0,1),(1,1),(2,1)]:=⟨_,Tryz.runUnderlying34,fun w=>by simp [Tryz.sizeOf3,Tryz.sizeOf23,Tryz.sizeOf32]⟩
theorem wKY:wCL Tryz.prog 43 [(0,1),(1,1),(2,1)]:=⟨_,Tryz.runUnderlying43,fun w=>by simp [Tryz.sizeOf3,Tryz.sizeOf23,Tryz.sizeOf41]⟩
theorem wGy:wCL Tryz.prog 46 [(0,1),(1,1),(2,1)]:=⟨_,Tryz.runUnderlying46,fun w=>by simp [Tryz.sizeOf3,Tryz.sizeOf23,Tryz.sizeOf44]⟩
theorem wGz:wCL Tryz.prog 49 [(0,1),(1,1),(2,1)]:=⟨_,Tryz.runUnderlying49,fun w=>by simp [Tryz.sizeOf3]⟩
theorem wPC:wCL Tryz.prog 65 [(0,1),(1,1),(2,1),(3,1)]:=⟨_,Tryz.runUnderlying65,fun w=>by simp [Tryz.sizeOf3]⟩
theorem wHt:wCL Tryz.prog 70 [(0,1),(1,1),(2,1)]:=⟨_,Tryz.runUnderlying70,fun w=>by simp [Tryz.sizeOf3]⟩
theorem wDU:wCL Tryz.prog 76 [(0,1),(1,1)]:=⟨_,Tryz.runUnderlying76,fun w=>by simp [Tryz.sizeOf3]⟩
theorem wMk:wCL Tryz.prog 78 [(0,2),(2,1)]:=⟨_,Tryz.runUnderlying78,fun w=>by simp [Tryz.sizeOf76,Tryz.sizeOf3]⟩
theorem wMl:wCL Tryz.prog 83 [(0,1),(1,1),(2,1),(3,1)]:=⟨_,Tryz.runUnderlying83,fun w=>by simp [Tryz.sizeOf23,Tryz.sizeOf80,Tryz.sizeOf79,Tryz.sizeOf81]⟩
theorem wPD:wCL Tryz.prog 85 [(0,1),(1,1),(2,1),(3,1)]:=⟨_,Tryz.runUnderlying85,fun w=>by simp [Tryz.sizeOf3]⟩
theorem wIx:wCL Tryz.prog 92 [(0,1),(1,1)]:=⟨_,Tryz.runUnderlying92,fun w=>by simp [Tryz.sizeOf3]⟩
theorem wOH:wCL Tryz.prog 100 [(0,1),(1,1),(2,1)]:=⟨_,Tryz.runUnderlying100,fun w=>by simp [Tryz.sizeOf22,Tryz.sizeOf3,Tryz.sizeOf98]⟩
theorem wOI:wCL Tryz.prog 118 [(0,1),(1,1)]:=⟨_,Tryz.runUnderlying118,fun w=>by simp [Tryz.sizeOf23,Tryz.sizeOf32]⟩
theorem wOJ:wCL Tryz.prog 130 [(0,8),(8,1)]:=⟨_,Tryz.runUnderlying130,fun w=>by simp [Tryz.sizeOf28,Tryz.sizeOf32]⟩
theorem wEg:wCL Tryz.prog 149 [(0,1),(1,1)]:=⟨_,Tryz.runUnderlying149,fun w=>by simp [Tryz.sizeOf3]⟩
theorem wJI:wCL Tryz.prog 158 [(0,2),(2,6)]:=⟨_,Tryz.runUnderlying158,fun w=>by simp [Tryz.sizeOf118,Tryz.sizeOf25]⟩
theorem wOK:wCL Tryz.prog 165 [(0,3),(3,1),(4,1)]:=⟨_,Tryz.runUnderlying165,fun w=>by simp [Tryz.sizeOf34,Tryz.sizeOf23,Tryz.sizeOf47]⟩
theorem wOL:wCL Tryz.prog 180 [(0,4),(4,1),(5,1)]:=⟨_,Tryz.runUnderlying180,fun w=>by simp [Tryz.sizeOf83,Tryz.sizeOf177,Tryz.sizeOf178]⟩
theorem wOM:wCL Tryz.prog 182 [(0,1),(1,1)]:=⟨_,Tryz.runUnderlying182,fun w=>by simp [Tryz.sizeOf23]⟩
theorem wHu:wCL Tryz.prog 214 [(0,1),(1,1),(2,1),(3,1)]:=⟨_,Tryz.runUnderlying214,fun w=>by simp [Tryz.sizeOf212,Tryz.sizeOf3,Tryz.sizeOf4]⟩
theorem wON:wCL Tryz.prog 216 [(0,4),(4,1),(5,1),(6,1)]:=⟨_,Tryz.runUnderlying216,fun w=>by simp [Tryz.sizeOf214,Tryz.sizeOf3]⟩
theorem wGh:wCL Tryz.prog 222 [(0,1),(1,1),(2,1)]:=⟨_,Tryz.runUnderlying222,fun w=>by simp [Tryz.sizeOf220,Tryz.sizeOf3]⟩
theorem wHv:wCL Tryz.prog 277 [(0,1),(1,1),(2,1)]:=⟨_,Tryz.runUnderlying277,fun w=>by simp [Tryz.sizeOf273,Tryz.sizeOf274,Tryz.sizeOf275]⟩
theorem wFr:Tryz.prog.info? 3=some Tryz.t3:=by kernel_rfl
theorem wQW:Tryz.prog.info? 4=some Tryz.t4:=by kernel_rfl
theorem wMm:Tryz.prog.info? 23=some Tryz.t23:=by kernel_rfl
theorem wPr:Tryz.prog.info? 43=some Tryz.t43:=by kernel_rfl
theorem wMn:Tryz.prog.info? 46=some Tryz.t46:=by kernel_rfl
theorem wPs:Tryz.prog.info? 47=some Tryz.t47:=by kernel_rfl
theorem wRl:Tryz.prog.info? 65=some Tryz.t65:=by kernel_rfl
theorem wMo:Tryz.prog.info? 70=some Tryz.t70:=by kernel_rfl
theorem wOO:Tryz.prog.info? 76=some Tryz.t76:=by kernel_rfl
theorem wOP:Tryz.prog.info? 85=some Tryz.t85:=by kernel_rfl
theorem wQX:Tryz.prog.info? 216=some Tryz.t216:=by kernel_rfl
theorem eqS49 (d:Nat) (x y:wAi) (w:World):(Op.equalIn (d + 2) 49 (.agg (wBe x).toArray) (.agg (wBe y).toArray)).run Tryz.prog w=.ok (decide (x=y)) w:=by
 obtain ⟨x0,x1,x2⟩:=x
 obtain ⟨y0,y1,y2⟩:=y
 rw [run_equalIn_agg w (d + 1) 49 _ _ (wIP Tryz.runUnderlying49) (by kernel_rfl),wGO Tryz.runUnderlying49]
 by_cases h0:x0=y0 <;> by_cases h1:x1=y1 <;> by_cases h2:x2=y2 <;> simp [Op.eqFields,part,wBe,Result.andThen,Tryz.isAgg3,h0,run_equalIn_int _ (d + 0) 3 .i64 .i64 _ _ (wBr Tryz.runUnderlying3),h1,h2]
theorem wQY:Tryz.prog.eqGuardType Tryz.prog.depth 49=false:=by kernel_rfl
theorem wQZ:EqT Tryz.prog 49 wBe:=fun x y w=>by
 unfold Op.equal Op.maxDepth;exact eqS49 9998 x y w
theorem eqS70 (d:Nat) (x y:wAE) (w:World):(Op.equalIn (d + 2) 70 (.agg (wAJ x).toArray) (.agg (wAJ y).toArray)).run Tryz.prog w=.ok (decide (x=y)) w:=by
 obtain ⟨x0,x1,x2⟩:=x
 obtain ⟨y0,y1,y2⟩:=y
 rw [run_equalIn_agg w (d + 1) 70 _ _ (wIP Tryz.runUnderlying70) (by kernel_rfl),wGO Tryz.runUnderlying70]
 by_cases h0:x0=y0 <;> by_cases h1:x1=y1 <;> by_cases h2:x2=y2 <;> simp [Op.eqFields,part,wAJ,Result.andThen,Tryz.isAgg3,h0,run_equalIn_int _ (d + 0) 3 .i64 .i64 _ _ (wBr Tryz.runUnderlying3),h1,h2]
theorem eqG70:Tryz.prog.eqGuardType Tryz.prog.depth 70=false:=by kernel_rfl
theorem eqT70:EqT Tryz.prog 70 wAJ:=fun x y w=>by
 unfold Op.equal Op.maxDepth;exact eqS70 9998 x y w
theorem eqS76 (d:Nat) (x y:wAD) (w:World):(Op.equalIn (d + 2) 76 (.agg (wAH x).toArray) (.agg (wAH y).toArray)).run Tryz.prog w=.ok (decide (x=y)) w:=by
 obtain ⟨x0,x1⟩:=x
 obtain ⟨y0,y1⟩:=y
 rw [run_equalIn_agg w (d + 1) 76 _ _ (wIP Tryz.runUnderlying76) (by kernel_rfl),wGO Tryz.runUnderlying76]
 by_cases h0:x0=y0 <;> by_cases h1:x1=y1 <;> simp [Op.eqFields,part,wAH,Result.andThen,Tryz.isAgg3,h0,run_equalIn_int _ (d + 0) 3 .i64 .i64 _ _ (wBr Tryz.runUnderlying3),h1]
theorem wQa:Tryz.prog.eqGuardType Tryz.prog.depth 76=false:=by kernel_rfl
theorem wQb:EqT Tryz.prog 76 wAH:=fun x y w=>by
 unfold Op.equal Op.maxDepth;exact eqS76 9998 x y w
theorem wJJ:KeyR Tryz.prog 3 wIS:=KeyR.ofInt (wBr Tryz.runUnderlying3)
theorem wLz:KeyR Tryz.prog 3 wLy:=KeyR.ofInt (wBr Tryz.runUnderlying3)
theorem wFi:KeyR Tryz.prog 149 wEA:=Two.keyR (k:=.i64) ⟨wBr Tryz.runUnderlying149,rfl,rfl,by decide,rfl,rfl,by decide,wBr Tryz.runUnderlying3,Tryz.isAgg3,by kernel_rfl⟩ wEA (·.skier) (·.mat) (fun _=>rfl) (fun x y h1 h2=>by cases x;cases y;cases h1;cases h2;rfl)
end Go.Proofs.YtnbcoenjobdplaaGreat
