import Derived.Test.YtnbcoenjobdplaaGreatB0
import Derived.Test.YtnbcoenjobdplaaGreatB3
import Derived.Test.YtnbcoenjobdplaaGreatProg
import Derived.Test.YtnbcoenjobdplaaGreatB1
import Derived.Test.YtnbcoenjobdplaaGreatB2
import Derived.Test.YtnbcoenjobdplaaGreatB4
set_option linter.all false
open List renaming flatMap->hM
namespace Go.Proofs.YtnbcoenjobdplaaGreat
open Go.KL
def wFi:Rl (List Bool) where
 sz:=1
 r:=fun U x vs=>∃ (pA:Option Addr) (pc:Nat),vs=[.slice pA x.length pc]/\Sl U 1 pA pc x.length (hM KL.encT x)
 mono:=by rintro U U' x vs ⟨pA,pc,rfl,h0⟩ hl;exact ⟨pA,pc,rfl,h0.le hl⟩
 len:=by rintro U x vs ⟨_,_,rfl,_⟩;rfl
 one:=by rintro U x vs ⟨_,_,rfl,h0⟩;rfl
def wIw:Rf (List Bool) where
 R:=wFi
 f:=fun U x vs ls=>∃ (pA:Option Addr) (pc:Nat),vs=[.slice pA x.length pc]/\RowP U pA pc 4 1 (hM KL.encT x)/\ls=bks pA
 fr:=by rintro U x vs ls ⟨pA,pc,rfl,h0,rfl⟩;exact ⟨pA,pc,rfl,h0.sl (wAF (f:=KL.encT) (sz:=1) (fun _=>rfl) _) (by decide)⟩
 loc:=by rintro U U' x vs ls ⟨pA,pc,rfl,h0,rfl⟩ e;exact ⟨pA,pc,rfl,h0.at fun b hb=>e b (by simp [hb]),rfl⟩
def wFe:Rl wAA where
 sz:=3
 r:=fun U x vs=>∃ (pA_1:Option Addr) (pc_1:Nat) (pA_2:Option Addr) (pc_2:Nat),vs=[.int .i64 x.Skier,.slice pA_1 x.Loops.length pc_1,.slice pA_2 x.Bouts.length pc_2]/\Sl U 1 pA_1 pc_1 x.Loops.length (hM KL.encI x.Loops)/\SlR U wFi pA_2 pc_2 x.Bouts
 mono:=by rintro U U' x vs ⟨pA_1,pc_1,pA_2,pc_2,rfl,h0,h1⟩ hl;exact ⟨pA_1,pc_1,pA_2,pc_2,rfl,h0.le hl,h1.le hl⟩
 len:=by rintro U x vs ⟨_,_,_,_,rfl,_,_⟩;rfl
 one:=by rintro U x vs ⟨_,_,_,_,rfl,h0,h1⟩;rfl
def wIZ:Rf wAA where
 R:=wFe
 f:=fun U x vs ls=>∃ (pA_1:Option Addr) (pc_1:Nat) (pA_2:Option Addr) (pc_2:Nat) (l1:List Nat),vs=[.int .i64 x.Skier,.slice pA_1 x.Loops.length pc_1,.slice pA_2 x.Bouts.length pc_2]/\RowP U pA_1 pc_1 3 1 (hM KL.encI x.Loops)/\SlF U wIw pA_2 pc_2 x.Bouts l1/\ls=bks pA_1 ++ l1
 fr:=by rintro U x vs ls ⟨pA_1,pc_1,pA_2,pc_2,l1,rfl,h0,h1,rfl⟩;exact ⟨pA_1,pc_1,pA_2,pc_2,rfl,h0.sl (wAF (f:=KL.encI) (sz:=1) (fun _=>rfl) _) (by decide),h1.toR⟩
 loc:=by rintro U U' x vs ls ⟨pA_1,pc_1,pA_2,pc_2,l1,rfl,h0,h1,rfl⟩ e;exact ⟨pA_1,pc_1,pA_2,pc_2,l1,rfl,h0.at fun b hb=>e b (by simp [hb]),h1.up fun b hb=>e b (by simp [hb]),rfl⟩
def wFF:Rl wAD where
 sz:=3
 r:=fun U x vs=>∃ (pA_1:Option Addr) (pc_1:Nat) (pA_2:Option Addr) (pc_2:Nat),vs=[.int .i64 x.Bib,.slice pA_1 x.Classes.length pc_1,.slice pA_2 x.Legs.length pc_2]/\Sl U 1 pA_1 pc_1 x.Classes.length (hM KL.encI x.Classes)/\SlR U wFe pA_2 pc_2 x.Legs
 mono:=by rintro U U' x vs ⟨pA_1,pc_1,pA_2,pc_2,rfl,h0,h1⟩ hl;exact ⟨pA_1,pc_1,pA_2,pc_2,rfl,h0.le hl,h1.le hl⟩
 len:=by rintro U x vs ⟨_,_,_,_,rfl,_,_⟩;rfl
 one:=by rintro U x vs ⟨_,_,_,_,rfl,h0,h1⟩;rfl
def wME:Rf wAD where
 R:=wFF
 f:=fun U x vs ls=>∃ (pA_1:Option Addr) (pc_1:Nat) (pA_2:Option Addr) (pc_2:Nat) (l1:List Nat),vs=[.int .i64 x.Bib,.slice pA_1 x.Classes.length pc_1,.slice pA_2 x.Legs.length pc_2]/\RowP U pA_1 pc_1 3 1 (hM KL.encI x.Classes)/\SlF U wIZ pA_2 pc_2 x.Legs l1/\ls=bks pA_1 ++ l1
 fr:=by rintro U x vs ls ⟨pA_1,pc_1,pA_2,pc_2,l1,rfl,h0,h1,rfl⟩;exact ⟨pA_1,pc_1,pA_2,pc_2,rfl,h0.sl (wAF (f:=KL.encI) (sz:=1) (fun _=>rfl) _) (by decide),h1.toR⟩
 loc:=by rintro U U' x vs ls ⟨pA_1,pc_1,pA_2,pc_2,l1,rfl,h0,h1,rfl⟩ e;exact ⟨pA_1,pc_1,pA_2,pc_2,l1,rfl,h0.at fun b hb=>e b (by simp [hb]),h1.up fun b hb=>e b (by simp [hb]),rfl⟩
def wJg (U:PHeap) (x:Int) (vs:List Value):Prop:=vs=[.int .i64 x]
def wKY (U:PHeap) (L_:List Res) (v:Value) (y:Bool):Prop:=v=.bool y/\L_=[]
def wIj (U:PHeap) (x:wAJ) (vs:List Value):Prop:=∃ (pA_0_0:Option Addr) (pc_0_0:Nat),vs=[.agg #[.slice pA_0_0 x.Classes.length pc_0_0,.int .i64 x.Each,.int .i64 x.Laps,.int .i64 x.Spare,.int .i64 x.Loop,.int .i64 x.Unused]]/\Sl U 1 pA_0_0 pc_0_0 x.Classes.length (hM KL.encI x.Classes)
def wIk (U:PHeap) (L_:List Res) (v:Value) (y:Int):Prop:=v=.int .i64 y/\L_=[]
def wHt:Rl wAQ where
 sz:=3
 r:=fun U x vs=>∃ (pv_0:Value),vs=[pv_0,.int .i64 x.lo,.int .i64 x.hi]/\FnOK Tryz.prog U pv_0 wIj wIk x.of
 mono:=by rintro U U' x vs ⟨pv_0,rfl,h0⟩ hl;exact ⟨pv_0,rfl,h0.le hl⟩
 len:=by rintro U x vs ⟨_,rfl,_⟩;rfl
 one:=by rintro U x vs ⟨_,rfl,h0⟩;obtain ⟨_,_,_,rfl,_⟩:=h0;rfl
def wLA (U:PHeap) (x:wAQ) (vs:List Value):Prop:=∃ (pv_0_0:Value),vs=[.agg #[pv_0_0,.int .i64 x.lo,.int .i64 x.hi]]/\FnOK Tryz.prog U pv_0_0 wIj wIk x.of
def wLB (U:PHeap) (L_:List Res) (v:Value) (y:Bool):Prop:=v=.bool y/\L_=[]
def wJv (U:PHeap) (x:wAD) (vs:List Value):Prop:=∃ (pA_0_1:Option Addr) (pc_0_1:Nat) (pA_0_2:Option Addr) (pc_0_2:Nat),vs=[.agg #[.int .i64 x.Bib,.slice pA_0_1 x.Classes.length pc_0_1,.slice pA_0_2 x.Legs.length pc_0_2]]/\Sl U 1 pA_0_1 pc_0_1 x.Classes.length (hM KL.encI x.Classes)/\SlR U wFe pA_0_2 pc_0_2 x.Legs
def wJw (U:PHeap) (L_:List Res) (v:Value) (y:Bool):Prop:=v=.bool y/\L_=[]
def wMs (U:PHeap) (x:(wAD × wAA)) (vs:List Value):Prop:=∃ (pA_0_1:Option Addr) (pc_0_1:Nat) (pA_0_2:Option Addr) (pc_0_2:Nat) (pA_1_1:Option Addr) (pc_1_1:Nat) (pA_1_2:Option Addr) (pc_1_2:Nat),vs=[.agg #[.int .i64 x.1.Bib,.slice pA_0_1 x.1.Classes.length pc_0_1,.slice pA_0_2 x.1.Legs.length pc_0_2],.agg #[.int .i64 x.2.Skier,.slice pA_1_1 x.2.Loops.length pc_1_1,.slice pA_1_2 x.2.Bouts.length pc_1_2]]/\Sl U 1 pA_0_1 pc_0_1 x.1.Classes.length (hM KL.encI x.1.Classes)/\SlR U wFe pA_0_2 pc_0_2 x.1.Legs/\Sl U 1 pA_1_1 pc_1_1 x.2.Loops.length (hM KL.encI x.2.Loops)/\SlR U wFi pA_1_2 pc_1_2 x.2.Bouts
def wBZ (x:wAW):List Value:=[.int .i64 x.Spares,.int .i64 x.Loops,.int .i64 x.Unused]
def wHG (x:Int):Value:=.int .i64 x
def wHV (x:Bool):Value:=.bool x
def wDT:Rl (List Int) where
 sz:=1
 r:=fun U x vs=>∃ (pA:Option Addr) (pc:Nat),vs=[.slice pA x.length pc]/\Sl U 1 pA pc x.length (hM KL.encI x)
 mono:=by rintro U U' x vs ⟨pA,pc,rfl,h0⟩ hl;exact ⟨pA,pc,rfl,h0.le hl⟩
 len:=by rintro U x vs ⟨_,_,rfl,_⟩;rfl
 one:=by rintro U x vs ⟨_,_,rfl,h0⟩;rfl
def wIO (U:PHeap) (x:List Int) (vs:List Value):Prop:=∃ (pA_0:Option Addr) (pc_0:Nat),vs=[.slice pA_0 x.length pc_0]/\Sl U 1 pA_0 pc_0 x.length (hM KL.encI x)
def wIP (U:PHeap) (L_:List Res) (v:Value) (y:Bool):Prop:=v=.bool y/\L_=[]
def wAN (x:wAH):List Value:=[.int .i64 x.Bib,.int .i64 x.Done,.int .i64 x.Time,.int .i64 x.By]
def wOo (U:PHeap) (x:(wAH × wAH)) (vs:List Value):Prop:=vs=[.agg #[.int .i64 x.1.Bib,.int .i64 x.1.Done,.int .i64 x.1.Time,.int .i64 x.1.By],.agg #[.int .i64 x.2.Bib,.int .i64 x.2.Done,.int .i64 x.2.Time,.int .i64 x.2.By]]
def wOp (U:PHeap) (L_:List Res) (v:Value) (y:Int):Prop:=v=.int .i64 y/\L_=[]
def wAG (x:wAB):List Value:=[.int .i64 x.Bib,.int .i64 x.Place,.int .i64 x.Time]
def wNm (U:PHeap) (x:(wAB × wAB)) (vs:List Value):Prop:=vs=[.agg #[.int .i64 x.1.Bib,.int .i64 x.1.Place,.int .i64 x.1.Time],.agg #[.int .i64 x.2.Bib,.int .i64 x.2.Place,.int .i64 x.2.Time]]
def wNn (U:PHeap) (L_:List Res) (v:Value) (y:Int):Prop:=v=.int .i64 y/\L_=[]
def wJx (x:Int):Value:=.int .i64 x
def wLC (x:Int):Value:=.int .i64 x
def ar67 (U:PHeap) (x:wAH) (vs:List Value):Prop:=vs=[.agg #[.int .i64 x.Bib,.int .i64 x.Done,.int .i64 x.Time,.int .i64 x.By]]
def rr67 (U:PHeap) (L_:List Res) (v:Value) (y:Bool):Prop:=v=.bool y/\L_=[]
def ar71 (U:PHeap) (x:wAB) (vs:List Value):Prop:=vs=[.agg #[.int .i64 x.Bib,.int .i64 x.Place,.int .i64 x.Time]]
def rr71 (U:PHeap) (L_:List Res) (v:Value) (y:Bool):Prop:=v=.bool y/\L_=[]
def wAb (x:wAO):List Value:=[.int .i64 x.Lo,.int .i64 x.Hi]
def wLD (U:PHeap) (x:wAO) (vs:List Value):Prop:=vs=[.agg #[.int .i64 x.Lo,.int .i64 x.Hi]]
def wLE (U:PHeap) (L_:List Res) (v:Value) (y:Bool):Prop:=v=.bool y/\L_=[]
def rh46:Rl (wAA × Hd) where
 sz:=3
 r:=fun U x vs=>∃ (pA_2:Option Addr) (pc_2:Nat),vs=[.int .i64 x.1.Skier,.slice x.2.A x.2.n x.2.c,.slice pA_2 x.1.Bouts.length pc_2]/\SlR U wIw.R pA_2 pc_2 x.1.Bouts
 mono:=by rintro U U' x vs ⟨A,c,rfl,h⟩ hl;exact ⟨A,c,rfl,h.le hl⟩
 len:=by rintro U x vs ⟨A,c,rfl,h⟩;rfl
 one:=by rintro U x vs ⟨A,c,rfl,h⟩;rfl
def tk46:Tk (β:=Int) wIZ rh46 where
 fld:=fun x=>x.Loops
 enc:=KL.encI
 T:=3
 sz:=1
 G:=fun U x h vs l=>∃ (pA_2:Option Addr) (pc_2:Nat),vs=[.int .i64 x.Skier,.slice h.A h.n h.c,.slice pA_2 x.Bouts.length pc_2]/\SlF U wIw pA_2 pc_2 x.Bouts l
 size:=rfl
 loc:=by rintro U U' x h vs l ⟨A,c,rfl,h1⟩ e;exact ⟨A,c,rfl,h1.up e⟩
 toR:=by rintro U x h vs l ⟨A,c,rfl,h1⟩;exact ⟨A,c,rfl,h1.toR⟩
 split:=by rintro U x vs l ⟨A1,c1,A2,c2,l1,rfl,h0,h1,rfl⟩;exact ⟨⟨A1,x.Loops.length,c1⟩,l1,⟨A2,c2,rfl,h1⟩,h0,rfl,fun b=>rfl⟩
theorem wOq {U:PHeap} (x:wAA) (h:Hd) (l:List Int) (vs:List Value) (h1:rh46.r U (x,h) vs) (h2:(rlS 1 KL.encI).r U l (wEX h)):wFe.r U ⟨x.Skier,l,x.Bouts⟩ vs:=by
 obtain ⟨A,c,rfl,h1⟩:=h1
 obtain ⟨A2,c2,e,h2⟩:=h2
 simp only [wEX,List.cons.injEq,Value.slice.injEq,and_true] at e
 obtain ⟨e1,e2,e3⟩:=e
 exact ⟨h.A,h.c,A,c,by simp only [e2],by rw [e1,e3];exact h2,h1⟩
theorem Tryz.mixed:Tryz.prog.follows .mixedOrders=true:=by kernel_rfl
theorem wKZ:wDf Tryz.prog 25 [(0,1),(1,1),(2,1),(3,1),(4,1),(5,1)]:=⟨_,Tryz.runUnderlying25,fun w=>by simp [Tryz.sizeOf23,Tryz.sizeOf3]⟩
theorem wHg:wDf Tryz.prog 28 [(0,6),(6,1),(7,1)]:=⟨_,Tryz.runUnderlying28,fun w=>by simp [Tryz.sizeOf25,Tryz.sizeOf3,Tryz.sizeOf26]⟩
theorem wIl:wDf Tryz.prog 34 [(0,1),(1,1),(2,1)]:=⟨_,Tryz.runUnderlying34,fun w=>by simp [Tryz.sizeOf3,Tryz.sizeOf23,Tryz.sizeOf32]⟩
theorem wGn:wDf Tryz.prog 43 [(0,1),(1,1),(2,1)]:=⟨_,Tryz.runUnderlying43,fun w=>by simp [Tryz.sizeOf3,Tryz.sizeOf23,Tryz.sizeOf41]⟩
theorem wFS:wDf Tryz.prog 46 [(0,1),(1,1),(2,1)]:=⟨_,Tryz.runUnderlying46,fun w=>by simp [Tryz.sizeOf3,Tryz.sizeOf23,Tryz.sizeOf44]⟩
theorem wGC:wDf Tryz.prog 49 [(0,1),(1,1),(2,1)]:=⟨_,Tryz.runUnderlying49,fun w=>by simp [Tryz.sizeOf3]⟩
theorem wMt:wDf Tryz.prog 65 [(0,1),(1,1),(2,1),(3,1)]:=⟨_,Tryz.runUnderlying65,fun w=>by simp [Tryz.sizeOf3]⟩
theorem wGo:wDf Tryz.prog 70 [(0,1),(1,1),(2,1)]:=⟨_,Tryz.runUnderlying70,fun w=>by simp [Tryz.sizeOf3]⟩
theorem wFT:wDf Tryz.prog 76 [(0,1),(1,1)]:=⟨_,Tryz.runUnderlying76,fun w=>by simp [Tryz.sizeOf3]⟩
theorem wMF:wDf Tryz.prog 100 [(0,1),(1,1),(2,1)]:=⟨_,Tryz.runUnderlying100,fun w=>by simp [Tryz.sizeOf22,Tryz.sizeOf3,Tryz.sizeOf98]⟩
theorem wMG:wDf Tryz.prog 118 [(0,1),(1,1)]:=⟨_,Tryz.runUnderlying118,fun w=>by simp [Tryz.sizeOf23,Tryz.sizeOf32]⟩
theorem wMH:wDf Tryz.prog 130 [(0,8),(8,1)]:=⟨_,Tryz.runUnderlying130,fun w=>by simp [Tryz.sizeOf28,Tryz.sizeOf32]⟩
theorem wHu:wDf Tryz.prog 158 [(0,2),(2,6)]:=⟨_,Tryz.runUnderlying158,fun w=>by simp [Tryz.sizeOf118,Tryz.sizeOf25]⟩
theorem wJK:wDf Tryz.prog 165 [(0,3),(3,1),(4,1)]:=⟨_,Tryz.runUnderlying165,fun w=>by simp [Tryz.sizeOf34,Tryz.sizeOf23,Tryz.sizeOf47]⟩
theorem wFn:wDf Tryz.prog 222 [(0,1),(1,1),(2,1)]:=⟨_,Tryz.runUnderlying222,fun w=>by simp [Tryz.sizeOf220,Tryz.sizeOf3]⟩
theorem wFA:Tryz.prog.info? 3=some Tryz.t3:=by kernel_rfl
theorem wJy:Tryz.prog.info? 4=some Tryz.t4:=by kernel_rfl
theorem wKa:Tryz.prog.info? 23=some Tryz.t23:=by kernel_rfl
theorem wKb:Tryz.prog.info? 43=some Tryz.t43:=by kernel_rfl
theorem wJL:Tryz.prog.info? 46=some Tryz.t46:=by kernel_rfl
theorem wMI:Tryz.prog.info? 47=some Tryz.t47:=by kernel_rfl
theorem wOr:Tryz.prog.info? 65=some Tryz.t65:=by kernel_rfl
theorem wKc:Tryz.prog.info? 70=some Tryz.t70:=by kernel_rfl
theorem wOs:Tryz.prog.info? 76=some Tryz.t76:=by kernel_rfl
theorem eqS49 (d:Nat) (x y:wAW) (w:World):(Op.equalIn (d + 2) 49 (.agg (wBZ x).toArray) (.agg (wBZ y).toArray)).run Tryz.prog w=.ok (decide (x=y)) w:=by
 obtain ⟨x0,x1,x2⟩:=x
 obtain ⟨y0,y1,y2⟩:=y
 rw [run_equalIn_agg w (d + 1) 49 _ _ (wGB Tryz.runUnderlying49) (by kernel_rfl),wEf Tryz.runUnderlying49]
 by_cases h0:x0=y0 <;> by_cases h1:x1=y1 <;> by_cases h2:x2=y2 <;> simp [Op.eqFields,part,wBZ,Result.andThen,Tryz.isAgg3,h0,run_equalIn_int _ (d + 0) 3 .i64 .i64 _ _ (wDF Tryz.runUnderlying3),h1,h2]
theorem wNo:Tryz.prog.eqGuardType Tryz.prog.depth 49=false:=by kernel_rfl
theorem wNp:EqT Tryz.prog 49 wBZ:=fun x y w=>by
 unfold Op.equal Op.maxDepth;exact eqS49 9998 x y w
theorem eqS65 (d:Nat) (x y:wAH) (w:World):(Op.equalIn (d + 2) 65 (.agg (wAN x).toArray) (.agg (wAN y).toArray)).run Tryz.prog w=.ok (decide (x=y)) w:=by
 obtain ⟨x0,x1,x2,x3⟩:=x
 obtain ⟨y0,y1,y2,y3⟩:=y
 rw [run_equalIn_agg w (d + 1) 65 _ _ (wGB Tryz.runUnderlying65) (by kernel_rfl),wEf Tryz.runUnderlying65]
 by_cases h0:x0=y0 <;> by_cases h1:x1=y1 <;> by_cases h2:x2=y2 <;> by_cases h3:x3=y3 <;> simp [Op.eqFields,part,wAN,Result.andThen,Tryz.isAgg3,h0,run_equalIn_int _ (d + 0) 3 .i64 .i64 _ _ (wDF Tryz.runUnderlying3),h1,h2,h3]
theorem eqG65:Tryz.prog.eqGuardType Tryz.prog.depth 65=false:=by kernel_rfl
theorem eqT65:EqT Tryz.prog 65 wAN:=fun x y w=>by
 unfold Op.equal Op.maxDepth;exact eqS65 9998 x y w
theorem eqS70 (d:Nat) (x y:wAB) (w:World):(Op.equalIn (d + 2) 70 (.agg (wAG x).toArray) (.agg (wAG y).toArray)).run Tryz.prog w=.ok (decide (x=y)) w:=by
 obtain ⟨x0,x1,x2⟩:=x
 obtain ⟨y0,y1,y2⟩:=y
 rw [run_equalIn_agg w (d + 1) 70 _ _ (wGB Tryz.runUnderlying70) (by kernel_rfl),wEf Tryz.runUnderlying70]
 by_cases h0:x0=y0 <;> by_cases h1:x1=y1 <;> by_cases h2:x2=y2 <;> simp [Op.eqFields,part,wAG,Result.andThen,Tryz.isAgg3,h0,run_equalIn_int _ (d + 0) 3 .i64 .i64 _ _ (wDF Tryz.runUnderlying3),h1,h2]
theorem wOt:Tryz.prog.eqGuardType Tryz.prog.depth 70=false:=by kernel_rfl
theorem wOu:EqT Tryz.prog 70 wAG:=fun x y w=>by
 unfold Op.equal Op.maxDepth;exact eqS70 9998 x y w
theorem eqS76 (d:Nat) (x y:wAO) (w:World):(Op.equalIn (d + 2) 76 (.agg (wAb x).toArray) (.agg (wAb y).toArray)).run Tryz.prog w=.ok (decide (x=y)) w:=by
 obtain ⟨x0,x1⟩:=x
 obtain ⟨y0,y1⟩:=y
 rw [run_equalIn_agg w (d + 1) 76 _ _ (wGB Tryz.runUnderlying76) (by kernel_rfl),wEf Tryz.runUnderlying76]
 by_cases h0:x0=y0 <;> by_cases h1:x1=y1 <;> simp [Op.eqFields,part,wAb,Result.andThen,Tryz.isAgg3,h0,run_equalIn_int _ (d + 0) 3 .i64 .i64 _ _ (wDF Tryz.runUnderlying3),h1]
theorem eqG76:Tryz.prog.eqGuardType Tryz.prog.depth 76=false:=by kernel_rfl
theorem eqT76:EqT Tryz.prog 76 wAb:=fun x y w=>by
 unfold Op.equal Op.maxDepth;exact eqS76 9998 x y w
theorem wHv:KeyR Tryz.prog 3 wHG:=KeyR.ofInt (wDF Tryz.runUnderlying3)
theorem wJz:KeyR Tryz.prog 3 wJx:=KeyR.ofInt (wDF Tryz.runUnderlying3)
end Go.Proofs.YtnbcoenjobdplaaGreat
