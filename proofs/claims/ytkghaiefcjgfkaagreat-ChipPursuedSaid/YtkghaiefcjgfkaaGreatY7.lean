import Derived.Test.YtkghaiefcjgfkaaGreatY5
import Derived.Test.YtkghaiefcjgfkaaGreatY4
import Derived.Test.YtkghaiefcjgfkaaGreatY6
set_option linter.all false
open List renaming flatMap->hH,length_set->nE,getElem_cons_succ->nG,getElem_cons_zero->nH,set->nI,getElem_toArray->nJ
open Go.Value renaming bool->hJ
open Bool renaming eq_false_iff->nA
open Option.some renaming inj->nB
namespace Go.Proofs.YtkghaiefcjgfkaaGreat
open Go.KL
def gDg:Sch:=.fx 1 (.fl 2 .nil) .stop
def gDh:Sch:=.fx 0 (.fx 1 .nil .stop) .stop
def gDi:Sch:=.fx 0 (.fl 1 .nil) .stop
def gDj:Sch:=.fx 1 (.fx 2 .nil .stop) .stop
def gDk:Sch:=.fx 2 (.fl 3 .nil) .stop
def gDl:Sch:=.fx 3 (.fl 4 .nil) .stop
def gDm:Sch:=.fl 0 (.fx 1 .nil .stop)
def gDn:Sch:=.fl 0 gDg
def gDo:Sch:=.fx 0 gDj .stop
def gDp:Sch:=.fx 13 (.fl 14 (.fl 15 .nil)) .stop
def gDq:Sch:=.fx 4 (.fx 5 (.fl 6 .nil) .stop) .stop
def gDr:Sch:=.fx 2 gDl .stop
def gDs:Sch:=.fx 0 gDg .stop
def gDt:Sch:=.fx 2 (.fl 3 (.fl 4 .nil)) .stop
def gDu:Sch:=.fx 10 (.fl 11 (.fl 12 .nil)) .stop
def gDv:Sch:=.fx 0 (.fl 1 (.fl 2 .nil)) .stop
def gDw:Sch:=.fl 0 gDj
def gDx:Sch:=.fl 0 (.fl 1 (.fx 2 .nil .stop))
def gDy:Sch:=.fx 11 (.fx 12 (.fl 13 .nil) .stop) .stop
def gDz:Sch:=.fx 6 (.fx 7 (.fl 8 .nil) .stop) .stop
def gEa:Sch:=.fx 12 gDp .stop
def gEb:Sch:=.fl 0 (.fl 1 gDk)
def gEc:Sch:=.fl 0 (.fl 1 (.fx 2 (.fx 3 .nil .stop) .stop))
def gEd:Sch:=.fl 0 (.fx 1 (.fl 2 (.fl 3 .nil)) .stop)
def gEe:Sch:=.fx 6 (.fx 7 (.fl 8 (.fl 9 .nil)) .stop) .stop
def gEf:Sch:=.fx 10 gDy .stop
def gEg:Sch:=.fx 9 gDy .stop
def gEh:Sch:=.fl 0 (.fl 1 gDt)
def gEi:Sch:=.fx 0 (.fx 1 gDt .stop) .stop
def gEj:Sch:=.fl 0 (.fl 1 gDr)
def gEk:Sch:=.fl 0 (.fl 2 (.fx 1 (.fx 3 gDq .stop) .stop))
def gEl:Sch:=.fl 0 (.fl 1 (.fl 3 (.fx 2 (.fx 4 (.fx 5 (.fx 6 (.fl 7 .nil) .stop) .stop) .stop) .stop)))
def gEm:Sch:=.fl 0 (.fl 1 (.fx 2 (.fl 3 (.fl 5 (.fl 6 (.fl 9 (.fl 10 (.fx 4 (.fl 7 (.fl 8 (.fx 11 (.fl 12 (.fl 13 .nil)) .stop))) .stop)))))) .stop))
set_option maxHeartbeats 4000000
theorem wEo (O:List Int) (ag:Option Addr) (ah:Nat) (w:World) (U:PHeap) (hS:St0 w U []) (au:Sl U 1 ag ah O.length (hH KL.encI O)) {r:(List Int)} (hm:wBw O=some r):Gv Tryz.prog 30 [.slice ag O.length ah] w (wBl w [] U (fun U_ L_ v=>∃ (A0:Option Addr) (c0:Nat),v=.slice A0 r.length c0/\L_=[.row A0 c0 3 1 (hH KL.encI r)])):=by
 unfold wBw at hm
 refine Gv.of Tryz.func30 Z Tryz.ntmps30 Tryz.results30 Z (sR fL1 Z (oA Z Z (eN (sR gDn Z (oM Z Z ?_)))))
 have ao:=hS.nilrow 3 1
 have af:sW w U U [.row none 0 3 1 (hH KL.encI ([]:List Int))] w:=ao
 refine bnK hm fun x4 h5 av=>Zn (j:=0) (enc:=KL.encI) (xs:=([]:List Int)) (ys:=O) (zs:=x4) Z Z Z Z Z yW wGs Z Z Z Z Z Z af Z Z Z (af.srcS au) (fun _=>Z) (fun _=>Z) h5 Z ?_
 intro A7 c8 W9 ap
 have aq:sW w U U [.row A7 c8 3 1 (hH KL.encI x4)] W9:=ap
 refine oA Z Z (eN (zR ?_))
 have hE:=nB av;first | subst r | cases hE
 exact ⟨Z,_,(ZG Z),U,_,aq,A7,c8,Z,Z⟩
theorem wEA (O:List wAF) (ag:Option Addr) (ah:Nat) (w:World) (U:PHeap) (hS:St0 w U []) (au:Sl U 2 ag ah O.length (hH wAA O)) {r:(List wAF)} (hm:wBS O=some r):Gv Tryz.prog 31 [.slice ag O.length ah] w (wBl w [] U (fun U_ L_ v=>∃ (A0:Option Addr) (c0:Nat),v=.slice A0 r.length c0/\L_=[.row A0 c0 37 2 (hH wAA r)])):=by
 unfold wBS at hm
 refine Gv.of Tryz.func31 Z Tryz.ntmps31 Tryz.results31 Z (sR fL1 Z (oA Z Z (eN (sR gDn Z (oM Z Z ?_)))))
 have ao:=hS.nilrow 37 2
 have af:sW w U U [.row none 0 37 2 (hH wAA ([]:List wAF))] w:=ao
 refine bnK hm fun x4 h5 av=>Zn (j:=0) (enc:=wAA) (xs:=([]:List wAF)) (ys:=O) (zs:=x4) Z Z Z Z Z yX wFk Z Z Z Z Z Z af Z Z Z (af.srcS au) (fun _=>Z) (fun _=>Z) h5 Z ?_
 intro A7 c8 W9 ap
 have aq:sW w U U [.row A7 c8 37 2 (hH wAA x4)] W9:=ap
 refine oA Z Z (eN (zR ?_))
 have hE:=nB av;first | subst r | cases hE
 exact ⟨Z,_,(ZG Z),U,_,aq,A7,c8,Z,Z⟩
theorem wDn (O:List wAO) (ag:Option Addr) (ah:Nat) (w:World) (U:PHeap) (hS:St0 w U []) (au:Sl U 3 ag ah O.length (hH wAG O)) {r:(List wAO)} (hm:wBF O=some r):Gv Tryz.prog 32 [.slice ag O.length ah] w (wBl w [] U (fun U_ L_ v=>∃ (A0:Option Addr) (c0:Nat),v=.slice A0 r.length c0/\L_=[.row A0 c0 39 3 (hH wAG r)])):=by
 unfold wBF at hm
 refine Gv.of Tryz.func32 Z Tryz.ntmps32 Tryz.results32 Z (sR fL1 Z (oA Z Z (eN (sR gDn Z (oM Z Z ?_)))))
 have ao:=hS.nilrow 39 3
 have af:sW w U U [.row none 0 39 3 (hH wAG ([]:List wAO))] w:=ao
 refine bnK hm fun x4 h5 av=>Zn (j:=0) (enc:=wAG) (xs:=([]:List wAO)) (ys:=O) (zs:=x4) Z Z Z Z Z Tryz.underlying40 wNZ Z Z Z Z Z Z af Z Z Z (af.srcS au) (fun _=>Z) (fun _=>Z) h5 Z ?_
 intro A7 c8 W9 ap
 have aq:sW w U U [.row A7 c8 39 3 (hH wAG x4)] W9:=ap
 refine oA Z Z (eN (zR ?_))
 have hE:=nB av;first | subst r | cases hE
 exact ⟨Z,_,(ZG Z),U,_,aq,A7,c8,Z,Z⟩
theorem wDW (O:List wAJ) (ag:Option Addr) (ah:Nat) (w:World) (U:PHeap) (hS:St0 w U []) (au:Sl U 4 ag ah O.length (hH wAB O)) {r:(List wAJ)} (hm:wBB O=some r):Gv Tryz.prog 33 [.slice ag O.length ah] w (wBl w [] U (fun U_ L_ v=>∃ (A0:Option Addr) (c0:Nat),v=.slice A0 r.length c0/\L_=[.row A0 c0 52 4 (hH wAB r)])):=by
 unfold wBB at hm
 refine Gv.of Tryz.func33 Z Tryz.ntmps33 Tryz.results33 Z (sR fL1 Z (oA Z Z (eN (sR gDn Z (oM Z Z ?_)))))
 have ao:=hS.nilrow 52 4
 have af:sW w U U [.row none 0 52 4 (hH wAB ([]:List wAJ))] w:=ao
 refine bnK hm fun x4 h5 av=>Zn (j:=0) (enc:=wAB) (xs:=([]:List wAJ)) (ys:=O) (zs:=x4) Z Z Z Z Z Tryz.underlying43 wJS Z Z Z Z Z Z af Z Z Z (af.srcS au) (fun _=>Z) (fun _=>Z) h5 Z ?_
 intro A7 c8 W9 ap
 have aq:sW w U U [.row A7 c8 52 4 (hH wAB x4)] W9:=ap
 refine oA Z Z (eN (zR ?_))
 have hE:=nB av;first | subst r | cases hE
 exact ⟨Z,_,(ZG Z),U,_,aq,A7,c8,Z,Z⟩
theorem wFL (O:wAD) (aj:Option Addr) (ap:Nat) (am:Option Addr) (aq:Nat) (an:Option Addr) (au:Nat) (ao:Option Addr) (av:Nat) (w:World) (U:PHeap) (hS:St0 w U []) (bI:Sl U 1 aj ap O.Starts.length (hH KL.encI O.Starts)) (bJ:Sl U 2 am aq O.Splits.length (hH wAA O.Splits)) (bK:Sl U 3 an au O.Clocks.length (hH wAG O.Clocks)) (bL:Sl U 4 ao av O.Readings.length (hH wAB O.Readings)) {r:wAD} (hm:wBk O=some r):Gv Tryz.prog 11 [.agg #[.slice aj O.Starts.length ap,.slice am O.Splits.length aq,.slice an O.Clocks.length au,.slice ao O.Readings.length av]] w (wBl w [] U (fun U_ L_ v=>∃ (aR:Option Addr) (a9:Nat) (aS:Option Addr) (ba:Nat) (aT:Option Addr) (bb:Nat) (aU:Option Addr) (bc:Nat),v=.agg #[.slice aR r.Starts.length a9,.slice aS r.Splits.length ba,.slice aT r.Clocks.length bb,.slice aU r.Readings.length bc]/\L_=[.row aR a9 3 1 (hH KL.encI r.Starts),.row aS ba 37 2 (hH wAA r.Splits),.row aT bb 39 3 (hH wAG r.Clocks),.row aU bc 52 4 (hH wAB r.Readings)])):=by
 unfold wBk at hm
 refine Gv.of Tryz.func11 Z Tryz.ntmps11 Tryz.results11 Z (sR gDh Z ?_)
 let B0:List Value:=[.slice aj O.Starts.length ap,.slice am O.Splits.length aq,.slice an O.Clocks.length au,.slice ao O.Readings.length av]
 refine zu (cs:=B0) rfl rfl rfl rfl rfl rfl (by rfl) hS ?_
 intro W1 b2 bx
 let B1:List Value:=[.slice none 0 0,.slice none 0 0,.slice none 0 0,.slice none 0 0]
 refine zX (cs:=B1) Z Z Z Z Z yY Z bx ?_
 intro W5 b6 bG
 refine eN (zJ (ZB zw [3,1,2,3,1,2,3,1,2,3,1,2,3,0] (.fl 0 (.fl 1 (.fl 3 (.fl 4 (.fl 6 (.fl 7 (.fl 9 (.fl 10 (.fx 2 (.fx 5 (.fx 8 (.fx 11 (.fl 12 (.fx 13 .nil .stop)) .stop) .stop) .stop) .stop))))))))) (by kernel_rfl) ?_))
 have ac:=bG.drew
 generalize hw_W10:({ W5 with drawn:=W5.drawn + 1 }:World)=bg at ac ⊢
 refine oR Z (zM Z Z zP Z ZC) (oL Z (ac.ldB (j:=1) Z Z Z ZH (v:=.slice aj O.Starts.length ap) Z) (oR Z (zM Z Z zP Z Zd) (oL Z (ac.ldB (j:=1) Z Z Z yT (v:=.slice am O.Splits.length aq) Z) (oR Z (zM Z Z zP Z yZ) (oL Z (ac.ldB (j:=1) Z Z Z yc (v:=.slice an O.Clocks.length au) Z) (oR Z (zM Z Z zP Z Zk) (oL Z (ac.ldB (j:=1) Z Z Z yF (v:=.slice ao O.Readings.length av) Z) (bnK hm fun aN bj bM=>zG 0 Z Z Z Z (zH Z Z Tryz.call30 (zB Z zN) Z) ac (fun hs=>wEo O.Starts aj ap bg U hs bI bj) (.inr Z) ?_))))))))
 rintro aW bR bX aZ aM bv ⟨ax,aG,rfl,rfl⟩
 let B2:Res:=.row ax aG 3 1 (hH KL.encI aN)
 have bw:sW w U aW [B2,.blk b6 45 B1,.blk b2 45 B0] aZ:=bv
 have bk:=bJ.le aM
 refine bnK bM fun aO bm bN=>zG 0 Z Z Z Z (zH Z Z Tryz.call31 (zB Z zN) Z) bw (fun hs=>wEA O.Splits am aq aZ aW hs bk bm) (.inr Z) ?_
 rintro aX bS bY a6 bf bz ⟨ay,aH,rfl,rfl⟩
 let B3:Res:=.row ay aH 37 2 (hH wAA aO)
 have bA:sW w U aX [B3,B2,.blk b6 45 B1,.blk b2 45 B0] a6:=bz
 have bn:=bK.le aM
 have bo:=bn.le bf
 refine bnK bN fun aP bp bO=>zG 0 Z Z Z Z (zH Z Z Tryz.call32 (zB Z zN) Z) bA (fun hs=>wDn O.Clocks an au a6 aX hs bo bp) (.inr Z) ?_
 rintro aY bT bZ a7 bQ bB ⟨az,aI,rfl,rfl⟩
 let B4:Res:=.row az aI 39 3 (hH wAG aP)
 have bC:sW w U aY [B4,B3,B2,.blk b6 45 B1,.blk b2 45 B0] a7:=bB
 have bq:=bL.le aM
 have br:=bq.le bf
 have bt:=br.le bQ
 refine bnK bO fun aQ bu bP=>zG 0 Z Z Z Z (zH Z Z Tryz.call33 (zB Z zN) Z) bC (fun hs=>wDW O.Readings ao av a7 aY hs bt bu) (.inr Z) ?_
 rintro aL bU ca bh bW bD ⟨aE,aJ,rfl,rfl⟩
 let B5:Res:=.row aE aJ 52 4 (hH wAB aQ)
 have bF:sW w U aL [B5,B4,B3,B2,.blk b6 45 B1,.blk b2 45 B0] bh:=bD
 let B6:List Value:=[.slice ax aN.length aG,.slice ay aO.length aH,.slice az aP.length aI,.slice aE aQ.length aJ]
 refine oR Z (zl (pv:=[(0,.slice ax aN.length aG),(1,.slice ay aO.length aH),(2,.slice az aP.length aI),(3,.slice aE aQ.length aJ)]) (z:=B1) (cs:=B6) Z (wAE Z (wAE Z (wAE Z (wAE Z wAL)))) yY wHc Z Z) (za (j:=4) (vs:=B6) Z Z Z Z bF Z Z Z Z zf (zA Z) Z Z Z ?_)
 intro bi bH
 have be:sW w U aL [B5,B4,B3,B2,.blk b6 45 B6,.blk b2 45 B0] bi:=bH
 refine eN (zR ?_)
 cases bP
 exact ⟨rfl,_,(wGq (v:=.agg B6.toArray) ⟨⟨_,rfl,(wBC zm zf (be.blkAt (k:=4) rfl) (vs:=B6) rfl rfl)⟩,trivial⟩),aL,_,(be.pick [3,2,1,0] _ (by decide) rfl),ax,aG,ay,aH,az,aI,aE,aJ,rfl,rfl⟩
theorem wEz (p0:Int) (p1:wAF) (w:World) (U:PHeap) (hS:St0 w U [])  {r:Bool} (hm:wCA p0 p1=some r):Gv Tryz.prog 12 [jV p0,.agg #[jV p1.Lo,jV p1.Hi]] w (wBl w [] U (fun U_ L_ v=>v=.bool r/\L_=[])):=by
 unfold wCA at hm
 refine Gv.of Tryz.func12 rfl Tryz.ntmps12 Tryz.results12 rfl (sR gDi rfl (zu (cs:=[jV p1.Lo,jV p1.Hi]) rfl rfl rfl rfl rfl rfl (by rfl) hS ?_))
 intro W1 b2 ab
 refine oA Z Z (eN (sR wNC Z (oM Z Z (oR Z (zM Z Z ZU Z zC) (oL Z (ab.ldB (j:=0) Z Z Z zF (v:=jV p1.Lo) Z) (oR Z (Runs.geq Z Z Z) (oM Z Z ?_)))))))
 by_cases O:p1.Lo <= p0
 have ac:=hm;rw [if_pos O] at ac;replace O:=zK O
 refine zU Z Z Z (wT Z O) Z Z (rU Z (wT Z O) (zM Z Z ZU Z zC) (ZD Z Z Z (wT Z O) (ab.ldB (j:=0) Z Z Z zF (v:=jV p1.Hi) Z) Z (rU Z (wT Z O) (Runs.leq Z Z Z) (oR Z (zQ Z (Za O.out) Z) (oA Z Z (eN (zR ?_)))))))
 first | (obtain rfl:=nB ac) | cases ac
 exact ⟨rfl,_,(ZG rfl),U,_,(ab.pick [] _ (by decide) rfl),rfl,rfl⟩
 have af:=hm;rw [if_neg O] at af;replace O:=zK O
 refine oF Z O (oF Z O (oF Z O (oF Z O (oR Z (zd Z (ZA O.out) Z) (oA Z Z (eN (zR ?_)))))))
 have hE:=nB af;first | subst r | cases hE
 exact ⟨rfl,_,(ZG rfl),U,_,(ab.pick [] _ (by decide) rfl),rfl,rfl⟩
theorem wBV  (w:World) (U:PHeap) (hS:St0 w U [])  {r:wAD} (hm:wAv =some r):Gv Tryz.prog 35 [] w (wBl w [] U (fun U_ L_ v=>∃ (aq:Option Addr) (aH:Nat) (au:Option Addr) (aI:Nat) (av:Option Addr) (aJ:Nat) (ax:Option Addr) (aK:Nat),v=.agg #[.slice aq r.Starts.length aH,.slice au r.Splits.length aI,.slice av r.Clocks.length aJ,.slice ax r.Readings.length aK]/\L_=[.row aq aH 3 1 (hH KL.encI r.Starts),.row au aI 37 2 (hH wAA r.Splits),.row av aJ 39 3 (hH wAG r.Clocks),.row ax aK 52 4 (hH wAB r.Readings)])):=by
 unfold wAv at hm
 refine Gv.of Tryz.func35 Z Tryz.ntmps35 Tryz.results35 Z (sR (.fx 0 .nil .stop) Z ?_)
 let O:List Value:=[.slice none 0 0,.slice none 0 0,.slice none 0 0,.slice none 0 0]
 refine zX (cs:=O) Z Z Z Z Z yY Z hS ?_
 intro W1 b2 aY
 refine eN (sR (.fx 0 (.fl 1 (.fl 2 (.fx 3 (.fl 4 (.fl 5 (.fx 6 (fC7_9 (.fx 10 (.fl 11 (.fx 12 .nil .stop)) .stop)) .stop))) .stop))) .stop) Z (zr (pv:=[(0,jV 0),(1,jV 300)]) (zs:=[jV 0,jV 0]) (cs:=[jV 0,jV 300]) Z Z Z Z Z (wAE Z (wAE Z wAL)) zD zC zt Z Z Z Z Z aY ?_))
 intro W5 b6 aZ
 let B1:Res:=.row (some ⟨b6,0,none⟩) 2 3 1 (hH KL.encI [0,300])
 have a6:sW w U U [B1,.blk b2 45 O] W5:=aZ
 let B2:List Value:=[jV 0,jV 0]
 refine oR Z (zl (pv:=[(0,jV 1000),(1,jV 1200)]) (z:=B2) (cs:=[jV 1000,jV 1200]) Z (wAE Z (wAE Z wAL)) ZF wCI Z Z) (oR Z (zl (pv:=[(0,jV 900),(1,jV 1500)]) (z:=B2) (cs:=[jV 900,jV 1500]) Z (wAE Z (wAE Z wAL)) ZF wCI Z Z) (zr (pv:=[(0,.agg #[jV 1000,jV 1200]),(1,.agg #[jV 900,jV 1500])]) (zs:=[jV 0,jV 0,jV 0,jV 0]) (cs:=[jV 1000,jV 1200,jV 900,jV 1500]) Z Z Z Z Z (wAE Z (wAE Z wAL)) zy zo ZF Z Z Z Z Z a6 ?_))
 intro aM af aR
 let B3:Res:=.row (some ⟨af,0,none⟩) 2 37 2 (hH wAA [(⟨1000,1200⟩:wAF),(⟨900,1500⟩:wAF)])
 have aS:sW w U U [B3,B1,.blk b2 45 O] aM:=aR
 refine oR Z (zl (pv:=[(0,jV (-5)),(1,jV 5)]) (z:=B2) (cs:=[jV (-5),jV 5]) Z (wAE Z (wAE Z wAL)) ZF wCI Z Z) ?_
 let B4:List Value:=[jV (-5),jV 5,jV 1]
 let B5:List Value:=[jV 0,jV 0,jV 0]
 refine oR Z (zl (pv:=[(0,.agg #[jV (-5),jV 5]),(1,jV 1)]) (z:=B5) (cs:=B4) Z (wAE Z (wAE Z wAL)) Tryz.zeroValue39 wJR Z Z) (zr (pv:=[(0,.agg B4.toArray)]) (zs:=B5) (cs:=B4) Z Z Z Z Z (wAE Z wAL) Zo yd Tryz.zeroValue39 Z Z Z Z Z aS ?_)
 intro aN ag aT
 let B6:Res:=.row (some ⟨ag,0,none⟩) 1 39 3 (hH wAG [(⟨(⟨-5,5⟩:wAF),1⟩:wAO)])
 have aU:sW w U U [B6,B3,B1,.blk b2 45 O] aN:=aT
 let B7:List Value:=[jV 0,jV 0,jV 0,jV 0]
 let B8:List Value:=[jV 0,jV 2,jV 0,jV 2250]
 refine oR Z (zl (pv:=[(1,jV 2),(3,jV 2250)]) (z:=B7) (cs:=B8) Z (wAE Z (wAE Z wAL)) yP wGO Z Z) ?_
 let B9:List Value:=[jV 1,jV 1,jV 0,jV 1400]
 refine oR Z (zl (pv:=[(0,jV 1),(1,jV 1),(3,jV 1400)]) (z:=B7) (cs:=B9) Z (wAE Z (wAE Z (wAE Z wAL))) yP wGO Z Z) ?_
 let ay:List Value:=[jV 1,jV 2,jV 0,jV 2499]
 refine oR Z (zl (pv:=[(0,jV 1),(1,jV 2),(3,jV 2499)]) (z:=B7) (cs:=ay) Z (wAE Z (wAE Z (wAE Z wAL))) yP wGO Z Z) (zr (pv:=[(0,.agg B8.toArray),(1,.agg B9.toArray),(2,.agg ay.toArray)]) (zs:=[jV 0,jV 0,jV 0,jV 0,jV 0,jV 0,jV 0,jV 0,jV 0,jV 0,jV 0,jV 0]) (cs:=[jV 0,jV 2,jV 0,jV 2250,jV 1,jV 1,jV 0,jV 1400,jV 1,jV 2,jV 0,jV 2499]) Z Z Z Z Z (wAE Z (wAE Z (wAE Z wAL))) ZR Zj yP Z Z Z Z Z aU ?_)
 intro aO ah aV
 let az:Res:=.row (some ⟨ah,0,none⟩) 3 52 4 (hH wAB [(⟨0,2,0,2250⟩:wAJ),(⟨1,1,0,1400⟩:wAJ),(⟨1,2,0,2499⟩:wAJ)])
 have aW:sW w U U [az,B6,B3,B1,.blk b2 45 O] aO:=aV
 let ab:List Value:=[.slice (some ⟨b6,0,none⟩) 2 2,.slice (some ⟨af,0,none⟩) 2 2,.slice (some ⟨ag,0,none⟩) 1 1,.slice (some ⟨ah,0,none⟩) 3 3]
 refine oR Z (zl (pv:=[(0,.slice (some ⟨b6,0,none⟩) 2 2),(1,.slice (some ⟨af,0,none⟩) 2 2),(2,.slice (some ⟨ag,0,none⟩) 1 1),(3,.slice (some ⟨ah,0,none⟩) 3 3)]) (z:=O) (cs:=ab) Z (wAE Z (wAE Z (wAE Z (wAE Z wAL)))) yY wHc Z Z) (za (j:=4) (vs:=ab) Z Z Z Z aW Z Z Z Z zf (zA Z) Z Z Z ?_)
 intro aP aX
 have aL:sW w U U [az,B6,B3,B1,.blk b2 45 ab] aP:=aX
 refine eN (zR ?_)
 cases hm
 exact ⟨rfl,_,(wGq (v:=.agg ab.toArray) ⟨⟨_,rfl,(wBC zm zf (aL.blkAt (k:=4) rfl) (vs:=ab) rfl rfl)⟩,trivial⟩),U,_,(aL.pick [3,2,1,0] _ (by decide) rfl),(some ⟨b6,0,none⟩),2,(some ⟨af,0,none⟩),2,(some ⟨ag,0,none⟩),1,(some ⟨ah,0,none⟩),3,rfl,rfl⟩
theorem wBI (p0:Int) (p1:Int) (w:World) (U:PHeap) (hS:St0 w U [])  {r:wAM} (hm:wAq p0 p1=some r):Gv Tryz.prog 16 [jV p0,jV p1] w (wBl w [] U (fun U_ L_ v=>v=.agg #[jV r.Skier,jV r.Mat]/\L_=[])):=by
 unfold wAq at hm
 refine Gv.of Tryz.func16 Z Tryz.ntmps16 Tryz.results16 Z (sR (.fx 0 .nil .stop) Z (zX (cs:=[jV 0,jV 0]) Z Z Z Z Z yB Z hS ?_))
 intro W1 b2 ag
 refine eN (sR (wDp (.fx 3 .nil .stop)) Z (oM Z Z (oM Z Z ?_)))
 let O:List Value:=[jV p0,jV p1]
 refine oR Z (zl (pv:=[(0,jV p0),(1,jV p1)]) (z:=[jV 0,jV 0]) (cs:=O) Z (wAE Z (wAE Z wAL)) yB wFF Z Z) (za (j:=0) (vs:=O) Z Z Z Z ag Z Z Z Z ZZ (zA Z) Z Z Z ?_)
 intro W5 ah
 have ac:sW w U U [.blk b2 62 O] W5:=ah
 refine eN (zR ?_)
 cases hm
 exact ⟨rfl,_,(wGq (v:=.agg O.toArray) ⟨⟨_,rfl,(wBC Zz ZZ (ac.blkAt (k:=0) rfl) (vs:=O) rfl rfl)⟩,trivial⟩),U,_,(ac.pick [] _ (by decide) rfl),rfl,rfl⟩
theorem wDR (O:wAM) (w:World) (U:PHeap) (hS:St0 w U [])  {r:wAI} (hm:wDA O=some r):Gv Tryz.prog 48 [.agg #[jV O.Skier,jV O.Mat]] w (wBl w [] U (fun U_ L_ v=>v=.agg #[jV r.skier,jV r.mat]/\L_=[])):=by
 unfold wDA at hm
 refine Gv.of Tryz.func48 Z Tryz.ntmps48 Tryz.results48 Z (sR gDh Z ?_)
 let B0:List Value:=[jV O.Skier,jV O.Mat]
 refine zu (cs:=B0) rfl rfl rfl rfl rfl rfl (by rfl) hS ?_
 intro W1 b2 aj
 refine zX (cs:=[jV 0,jV 0]) Z Z Z Z Z zb Z aj ?_
 intro W5 b6 ab
 refine eN (sR (wDk (.fx 5 .nil .stop)) Z (oR Z (zM Z Z Tryz.runUnderlying62 Z zC) (oL Z (ab.ldB (j:=1) Z Z Z zF (v:=jV O.Skier) Z) (oR Z (zM Z Z Tryz.runUnderlying62 Z zC) (oL Z (ab.ldB (j:=1) Z Z Z zF (v:=jV O.Mat) Z) (oR Z (zl (pv:=[(0,jV O.Skier),(1,jV O.Mat)]) (z:=[jV 0,jV 0]) (cs:=B0) Z (wAE Z (wAE Z wAL)) zb wBT Z Z) (za (j:=0) (vs:=B0) Z Z Z Z ab Z Z Z Z zE (zA Z) Z Z Z ?_)))))))
 intro W9 ah
 have ac:sW w U U [.blk b6 115 B0,.blk b2 62 B0] W9:=ah
 refine eN (zR ?_)
 cases hm
 exact ⟨rfl,_,(wGq (v:=.agg B0.toArray) ⟨⟨_,rfl,(wBC zh zE (ac.blkAt (k:=0) rfl) (vs:=B0) rfl rfl)⟩,trivial⟩),U,_,(ac.pick [] _ (by decide) rfl),rfl,rfl⟩
theorem wEB (O:wAb) (ax:Nat) (aF:Option Addr) (aK:Nat) (aG:Option Addr) (aL:Nat) (aH:Option Addr) (aM:Nat) (aI:Option Addr) (aN:Nat) (aa:Nat) (ab:Array MapEntry) (ac:Nat) (aJ:Option Addr) (aO:Nat) (p1:wAI) (p2:wAI) (w:World) (U:PHeap) (hS:St0 w U [.blk ax 124 [.slice aF O.Race.Starts.length aK,.slice aG O.Race.Splits.length aL,.slice aH O.Race.Clocks.length aM,.slice aI O.Race.Readings.length aN,.map (some aa),.slice aJ O.edges.length aO],.obj aa (.map ab ac)]) (bC:Sl U 1 aF aK O.Race.Starts.length (hH KL.encI O.Race.Starts)) (bD:Sl U 2 aG aL O.Race.Splits.length (hH wAA O.Race.Splits)) (bF:Sl U 3 aH aM O.Race.Clocks.length (hH wAG O.Race.Clocks)) (bG:Sl U 4 aI aN O.Race.Readings.length (hH wAB O.Race.Readings)) (aP:MpR ab wBH wBQ O.number) (bH:Sl U 7 aJ aO O.edges.length (hH wAN O.edges)) {r:wAF} (hm:wCS O p1 p2=some r):Gv Tryz.prog 47 [.pointer (some ⟨ax,0,none⟩),.agg #[jV p1.skier,jV p1.mat],.agg #[jV p2.skier,jV p2.mat]] w (wBl w [.blk ax 124 [.slice aF O.Race.Starts.length aK,.slice aG O.Race.Splits.length aL,.slice aH O.Race.Clocks.length aM,.slice aI O.Race.Readings.length aN,.map (some aa),.slice aJ O.edges.length aO],.obj aa (.map ab ac)] U (fun U_ L_ v=>v=.agg #[jV r.Lo,jV r.Hi]/\L_=[.blk ax 124 [.slice aF O.Race.Starts.length aK,.slice aG O.Race.Splits.length aL,.slice aH O.Race.Clocks.length aM,.slice aI O.Race.Readings.length aN,.map (some aa),.slice aJ O.edges.length aO],.obj aa (.map ab ac)])):=by
 unfold wCS at hm
 refine Gv.of Tryz.func47 Z Tryz.ntmps47 Tryz.results47 Z (sR gDo Z ?_)
 let B0:List Value:=[jV p1.skier,jV p1.mat]
 refine zu (cs:=B0) rfl rfl rfl rfl rfl rfl (by rfl) hS ?_
 intro W3 b4 dG
 let B1:List Value:=[jV p2.skier,jV p2.mat]
 refine zu (cs:=B1) rfl rfl rfl rfl rfl rfl (by rfl) dG ?_
 intro W7 b8 dO
 let B2:List Value:=[jV 0,jV 0]
 refine zX (cs:=B2) Z Z Z Z Z ZF Z dO ?_
 intro ci ah dr
 refine eN ?_
 have q:=bnd hm
 obtain ⟨⟨aE,bJ⟩,dV,cG⟩:=q
 try dsimp only at cG
 let B3:Res:=.blk ax 124 [.slice aF O.Race.Starts.length aK,.slice aG O.Race.Splits.length aL,.slice aH O.Race.Clocks.length aM,.slice aI O.Race.Readings.length aN,.map (some aa),.slice aJ O.edges.length aO]
 refine yI (fun σ_ w_=>∃ (U_:PHeap) (a8:Nat) (aU:Option Addr) (aW:Nat) (a6:Option Addr) (ba:Nat),σ_ 0=.pointer (some ⟨ax,0,none⟩)/\σ_ 4=.pointer (some ⟨b4,0,none⟩)/\σ_ 5=.pointer (some ⟨b8,0,none⟩)/\σ_ 6=.pointer (some ⟨ah,0,none⟩)/\σ_ 7=.pointer (some ⟨a8,0,none⟩)/\PHeap.Le U U_/\SW w [B3,.obj aa (.map ab ac)] U U_ [B3,.obj aa (.map ab ac),.blk ah 37 B2,.blk b8 115 B1,.blk b4 115 B0,.blk a8 118 [.slice aU aE.length aW,.slice a6 bJ.length ba],.row aU aW 3 1 (hH KL.encI aE),.row a6 ba 3 1 (hH KL.encI bJ)] w_) ?_ ?_
 have q:=bnd dV
 obtain ⟨⟨aq,cJ,cK⟩,cA,bS⟩:=q
 try dsimp only at bS
 refine ZB zw [3,3,3,3,1,1,1,0,3,3,3,3,2,0,3,3] (wJK (.fx 7 (wIZ gEa) (.fx 12 (.fx 7 (wIZ gDp) (.stop)) (.stop)))) (by kernel_rfl) ?_
 have aY:=dr.drew
 generalize hw_W54:({ ci with drawn:=ci.drawn + 1 }:World)=co at aY ⊢
 refine oM Z Z (oM Z Z (oR Z (Zc Z Z) (oR Z (zM Z Z ZE Z Zv) (oL Z (aY.ldB (j:=3) Z Z Z yC (v:=.map (some aa)) Z) (oL Z (aY.ldBA (j:=2) Z Z Z zh zE (vs:=B0) Z Z) (oL Z (aY.lookup1 (j:=4) (mk:=wBH) (mv:=wBQ) (a:=p1) (z:=0) Z Z Z Z (wBe ZN) wCx zt aP) (zq ?_ ?_)))))))
 have dH:SW w [B3,.obj aa (.map ab ac)] U U [B3,.obj aa (.map ab ac),.blk ah 37 B2,.blk b8 115 B1,.blk b4 115 B0] co:=aY.pick [3,4,0,1,2] _ (by decide) rfl
 refine zG 2 Z Z Z Z (zH Z Z Tryz.call49 (zB Z (zB Z (zB Z zN))) Z) dH (fun hs=>wBU O ax aF aK aG aL aH aM aI aN aa ab ac aJ aO (wAw O.number p1 0) false co U hs bC bD bF bG aP bH cA) (.inl Z) ?_
 rintro bO d6 eB cS dY dI ⟨bi,bw,bj,bx,rfl,rfl⟩
 let B4:Res:=.row bi bw 3 1 (hH KL.encI aq.far)
 let B5:Res:=.row bj bx 3 1 (hH KL.encI aq.by_)
 have dJ:SW w [B3,.obj aa (.map ab ac)] U bO [B4,B5,B3,.obj aa (.map ab ac),.blk ah 37 B2,.blk b8 115 B1,.blk b4 115 B0] cS:=dI
 refine oM Z Z (oR Z (zZ Z Z (v:=.agg #[.slice bi aq.far.length bw,.slice bj aq.by_.length bx]) Z) (oR Z (zZ Z Z (v:=jV cJ) Z) (oR Z (zZ Z Z (v:=.bool cK) Z) (zX (cs:=[.slice none 0 0,.slice none 0 0]) Z Z Z Z Z Zg Z dJ ?_))))
 intro eh cr dK
 let B6:List Value:=[.slice bi aq.far.length bw,.slice bj aq.by_.length bx]
 refine za (j:=0) (vs:=B6) Z Z Z Z dK Z Z Z Z yA (zA Z) Z Z Z ?_
 intro cU dL
 have dM:SW w [B3,.obj aa (.map ab ac)] U bO [.blk cr 118 B6,B4,B5,B3,.obj aa (.map ab ac),.blk ah 37 B2,.blk b8 115 B1,.blk b4 115 B0] cU:=dL
 refine oA Z Z (oA Z Z (zc ?_))
 cases bS
 exact zI ⟨rfl,⟨bO,cr,bi,bw,bj,bx,rfl,rfl,rfl,rfl,rfl,dY,(dM.pick [3,4,5,6,7,0,1,2] _ (by decide) rfl)⟩⟩
 let B7:List Value:=[.slice none 0 0,.slice none 0 0]
 refine zX (cs:=B7) Z Z Z Z Z Zg Z aY ?_
 intro cp bo dN
 have dP:SW w [B3,.obj aa (.map ab ac)] U U [B3,.obj aa (.map ab ac),.blk bo 118 B7,.blk ah 37 B2,.blk b8 115 B1,.blk b4 115 B0] cp:=dN.pick [4,5,0,1,2,3] _ (by decide) rfl
 refine zG 2 Z Z Z Z (zH Z Z Tryz.call49 (zB Z (zB Z (zB Z zN))) Z) dP (fun hs=>wBU O ax aF aK aG aL aH aM aI aN aa ab ac aJ aO (wAw O.number p1 0) false cp U hs bC bD bF bG aP bH cA) (.inl Z) ?_
 rintro bP d7 eE cV dZ dl ⟨bb,bp,bc,bq,rfl,rfl⟩
 let B8:Res:=.row bb bp 3 1 (hH KL.encI aq.far)
 let B9:Res:=.row bc bq 3 1 (hH KL.encI aq.by_)
 have dm:SW w [B3,.obj aa (.map ab ac)] U bP [B8,B9,B3,.obj aa (.map ab ac),.blk bo 118 B7,.blk ah 37 B2,.blk b8 115 B1,.blk b4 115 B0] cV:=dl
 refine oM Z Z (oR Z (zZ Z Z (v:=.agg #[.slice bb aq.far.length bp,.slice bc aq.by_.length bq]) Z) (oR Z (zZ Z Z (v:=jV cJ) Z) (oR Z (zZ Z Z (v:=.bool cK) Z) ?_)))
 let bT:List Value:=[.slice bb aq.far.length bp,.slice bc aq.by_.length bq]
 refine za (j:=4) (vs:=bT) Z Z Z Z dm Z Z Z Z yA (zA Z) Z Z Z ?_
 intro cL dn
 have dp:SW w [B3,.obj aa (.map ab ac)] U bP [B8,B9,B3,.obj aa (.map ab ac),.blk bo 118 bT,.blk ah 37 B2,.blk b8 115 B1,.blk b4 115 B0] cL:=dn
 refine oA Z Z (oA Z Z (zc ?_))
 cases bS
 exact zI ⟨rfl,⟨bP,bo,bb,bp,bc,bq,rfl,rfl,rfl,rfl,rfl,dZ,(dp.pick [2,3,5,6,7,4,0,1] _ (by decide) rfl)⟩⟩
 rintro eF cj ⟨bk,a8,aU,aW,a6,ba,bz,ct,bQ,cu,cw,ay,dq⟩
 have q:=bnd cG
 obtain ⟨⟨az,bI⟩,dU,cE⟩:=q
 try dsimp only at cE
 let aQ:Res:=.blk a8 118 [.slice aU aE.length aW,.slice a6 bJ.length ba]
 let aR:Res:=.row aU aW 3 1 (hH KL.encI aE)
 let aS:Res:=.row a6 ba 3 1 (hH KL.encI bJ)
 refine yI (fun σ_ w_=>∃ (U_:PHeap) (bm:Nat) (aT:Option Addr) (aV:Nat) (aZ:Option Addr) (a9:Nat),σ_ 0=.pointer (some ⟨ax,0,none⟩)/\σ_ 4=.pointer (some ⟨b4,0,none⟩)/\σ_ 5=.pointer (some ⟨b8,0,none⟩)/\σ_ 6=.pointer (some ⟨ah,0,none⟩)/\σ_ 7=.pointer (some ⟨a8,0,none⟩)/\σ_ 10=.pointer (some ⟨bm,0,none⟩)/\PHeap.Le bk U_/\SW w [B3,.obj aa (.map ab ac)] U U_ [B3,.obj aa (.map ab ac),.blk ah 37 B2,.blk b8 115 B1,.blk b4 115 B0,aR,aS,aQ,.blk bm 118 [.slice aT az.length aV,.slice aZ bI.length a9],.row aT aV 3 1 (hH KL.encI az),.row aZ a9 3 1 (hH KL.encI bI)] w_) ?_ ?_
 have q:=bnd dU
 obtain ⟨⟨ap,cH,cI⟩,cz,bR⟩:=q
 try dsimp only at bR
 refine ZB zw [3,3,3,3,1,1,1,0,3,3,3,3,2,0,3,3] (wJK (.fx 7 (wIZ gEa) (.fx 12 (.fx 7 (wIZ gDp) (.stop)) (.stop)))) (by kernel_rfl) ?_
 have aX:=dq.drew
 generalize hw_W172:({ cj with drawn:=cj.drawn + 1 }:World)=cM at aX ⊢
 refine oM Z bz (oM Z bz (oR Z (Zc Z Z) (oR Z (zM Z Z ZE Z Zv) (oL Z (aX.ldB (j:=0) Z Z Z yC (v:=.map (some aa)) Z) (oL Z (aX.ldBA (j:=3) Z Z bQ zh zE (vs:=B1) Z Z) (oL Z (aX.lookup1 (j:=1) (mk:=wBH) (mv:=wBQ) (a:=p2) (z:=0) Z Z Z Z (wBe ZN) wCx zt aP) (zq ?_ ?_)))))))
 have c6:=bC.le ay
 have da:=bD.le ay
 have db:=bF.le ay
 have dd:=bG.le ay
 have de:=bH.le ay
 refine zG 2 Z Z Z Z (zH Z Z Tryz.call49 (zB Z (zB Z (zB Z zN))) Z) aX (fun hs=>wBU O ax aF aK aG aL aH aM aI aN aa ab ac aJ aO (wAw O.number p2 0) false cM bk hs c6 da db dd aP de cz) (.inl Z) ?_
 rintro bM d4 ez cN dW dt ⟨be,br,bf,bt,rfl,rfl⟩
 let bU:Res:=.row be br 3 1 (hH KL.encI ap.far)
 let bV:Res:=.row bf bt 3 1 (hH KL.encI ap.by_)
 have du:SW w [B3,.obj aa (.map ab ac)] U bM [bU,bV,B3,.obj aa (.map ab ac),.blk ah 37 B2,.blk b8 115 B1,.blk b4 115 B0,aQ,aR,aS] cN:=dt
 refine oM Z Z (oR Z (zZ Z Z (v:=.agg #[.slice be ap.far.length br,.slice bf ap.by_.length bt]) Z) (oR Z (zZ Z Z (v:=jV cH) Z) (oR Z (zZ Z Z (v:=.bool cI) Z) (zX (cs:=[.slice none 0 0,.slice none 0 0]) Z Z Z Z Z Zg Z du ?_))))
 intro d8 cq dv
 let bW:List Value:=[.slice be ap.far.length br,.slice bf ap.by_.length bt]
 refine za (j:=0) (vs:=bW) Z Z Z Z dv Z Z Z Z yA (zA Z) Z Z Z ?_
 intro cO dw
 have dx:SW w [B3,.obj aa (.map ab ac)] U bM [.blk cq 118 bW,bU,bV,B3,.obj aa (.map ab ac),.blk ah 37 B2,.blk b8 115 B1,.blk b4 115 B0,aQ,aR,aS] cO:=dw
 refine oA Z Z (oA Z Z (zc ?_))
 cases bR
 exact zI ⟨rfl,⟨bM,cq,be,br,bf,bt,bz,ct,bQ,cu,cw,rfl,dW,(dx.pick [3,4,5,6,7,9,10,8,0,1,2] _ (by decide) rfl)⟩⟩
 let bK:List Value:=[.slice none 0 0,.slice none 0 0]
 refine zX (cs:=bK) Z Z Z Z Z Zg Z aX ?_
 intro cm bn dy
 have df:=bC.le ay
 have dg:=bD.le ay
 have dh:=bF.le ay
 have di:=bG.le ay
 have dk:=bH.le ay
 have dz:SW w [B3,.obj aa (.map ab ac)] U bk [B3,.obj aa (.map ab ac),.blk bn 118 bK,.blk ah 37 B2,.blk b8 115 B1,.blk b4 115 B0,aQ,aR,aS] cm:=dy.pick [1,2,0,3,4,5,6,7,8] _ (by decide) rfl
 refine zG 2 Z Z Z Z (zH Z Z Tryz.call49 (zB Z (zB Z (zB Z zN))) Z) dz (fun hs=>wBU O ax aF aK aG aL aH aM aI aN aa ab ac aJ aO (wAw O.number p2 0) false cm bk hs df dg dh di aP dk cz) (.inl Z) ?_
 rintro bN d5 eA cP dX dA ⟨bg,bu,bh,bv,rfl,rfl⟩
 let bX:Res:=.row bg bu 3 1 (hH KL.encI ap.far)
 let bY:Res:=.row bh bv 3 1 (hH KL.encI ap.by_)
 have dB:SW w [B3,.obj aa (.map ab ac)] U bN [bX,bY,B3,.obj aa (.map ab ac),.blk bn 118 bK,.blk ah 37 B2,.blk b8 115 B1,.blk b4 115 B0,aQ,aR,aS] cP:=dA
 refine oM Z Z (oR Z (zZ Z Z (v:=.agg #[.slice bg ap.far.length bu,.slice bh ap.by_.length bv]) Z) (oR Z (zZ Z Z (v:=jV cH) Z) (oR Z (zZ Z Z (v:=.bool cI) Z) ?_)))
 let bZ:List Value:=[.slice bg ap.far.length bu,.slice bh ap.by_.length bv]
 refine za (j:=4) (vs:=bZ) Z Z Z Z dB Z Z Z Z yA (zA Z) Z Z Z ?_
 intro cQ dC
 have dD:SW w [B3,.obj aa (.map ab ac)] U bN [bX,bY,B3,.obj aa (.map ab ac),.blk bn 118 bZ,.blk ah 37 B2,.blk b8 115 B1,.blk b4 115 B0,aQ,aR,aS] cQ:=dC
 refine oA Z Z (oA Z Z (zc ?_))
 cases bR
 exact zI ⟨rfl,⟨bN,bn,bg,bu,bh,bv,bz,ct,bQ,cu,cw,rfl,dX,(dD.pick [2,3,5,6,7,9,10,8,4,0,1] _ (by decide) rfl)⟩⟩
 rintro eG cn ⟨cg,bm,aT,aV,aZ,a9,cx,cW,cX,cy,cY,cZ,eo,dE⟩
 refine zJ (ZB zw [3,1,3,3,3,1,1,1,3,1,3,3,1,3,3,3,1,1,1,3,1,3,0] (wOC (.fx 22 .nil .stop)) (by kernel_rfl) ?_)
 have ao:=dE.drew
 generalize hw_W258:({ cn with drawn:=cn.drawn + 1 }:World)=d9 at ao ⊢
 refine oR Z (zM Z cZ ZW Z ZC) (oL Z (ao.ldB (j:=8) Z Z Z ZH (v:=.slice aT az.length aV) Z) (oM Z cx (oR Z (Zc Z Z) (oR Z (zM Z Z ZE Z Zv) (oL Z (ao.ldB (j:=0) Z Z Z yC (v:=.map (some aa)) Z) (oL Z (ao.ldBA (j:=4) Z Z cW zh zE (vs:=B0) Z Z) (oL Z (ao.lookup1 (j:=1) (mk:=wBH) (mv:=wBQ) (a:=p1) (z:=0) Z Z Z Z (wBe ZN) wCx zt aP) (bnK cE fun _ bA dS=>?_))))))))
 obtain ⟨ej,cB⟩:=ao.rowSome (j:=9) rfl (by rw [wAC (f:=KL.encI) (sz:=1) (fun _=>rfl) az];have hz:=wAR bA;omega)
 refine oR Z (ZM Z Z cB Z zD zC (wAr bA) (wAs bA)) ?_
 have dQ:=wAt (xs:=az) (wAR bA)
 refine ZD rfl rfl rfl rfl (ao.ldR (j:=9) rfl cB rfl rfl zF (wAT (sz:=1) (fun _=>rfl) _ _ 0 _ dQ (by first | omega | rfl | simp) rfl)) rfl (ze rfl rfl rfl rfl (fun _=>Runs.negw rfl rfl) (ze rfl rfl rfl rfl (fun _=>zM rfl cY ZW rfl ZC) (ZD rfl rfl rfl rfl (ao.ldB (j:=7) rfl rfl rfl ZH (v:=.slice aU aE.length aW) rfl) rfl (zU rfl rfl rfl rfl rfl cx (ze rfl rfl rfl rfl (fun _=>Zc rfl rfl) (ze rfl rfl rfl rfl (fun _=>zM rfl rfl ZE rfl Zv) (ZD rfl rfl rfl rfl (ao.ldB (j:=0) rfl rfl rfl yC (v:=.map (some aa)) rfl) rfl (ZD rfl rfl rfl rfl (ao.ldBA (j:=3) rfl rfl cX zh zE (vs:=B1) rfl rfl) rfl (ZD rfl rfl rfl rfl (ao.lookup1 (j:=1) (mk:=wBH) (mv:=wBQ) (a:=p2) (z:=0) rfl rfl rfl rfl (wBe ZN) wCx zt aP) rfl (bnK dS fun _ bB dT=>?_))))))))))
 obtain ⟨en,cC⟩:=ao.rowSome (j:=5) rfl (by rw [wAC (f:=KL.encI) (sz:=1) (fun _=>rfl) aE];have hz:=wAR bB;omega)
 refine oR Z (ZM Z Z cC Z zD zC (wAr bB) (wAs bB)) ?_
 have dR:=wAt (xs:=aE) (wAR bB)
 refine ZD rfl rfl rfl rfl (ao.ldR (j:=5) rfl cC rfl rfl zF (wAT (sz:=1) (fun _=>rfl) _ _ 0 _ dR (by first | omega | rfl | simp) rfl)) rfl ?_
 let a7:List Value:=[jV (w64 (-(gd az (wAw O.number p1 0).toNat))),jV (gd aE (wAw O.number p2 0).toNat)]
 refine oR Z (zl (pv:=[(0,jV (w64 (-(gd az (wAw O.number p1 0).toNat)))),(1,jV (gd aE (wAw O.number p2 0).toNat))]) (z:=B2) (cs:=a7) Z (wAE Z (wAE Z wAL)) ZF wCI Z Z) (za (j:=2) (vs:=a7) Z Z Z Z ao Z cy Z Z zo (zA Z) Z Z Z ?_)
 intro cR dF
 have cD:SW w [B3,.obj aa (.map ab ac)] U cg [B3,.obj aa (.map ab ac),.blk ah 37 a7,.blk b8 115 B1,.blk b4 115 B0,aR,aS,aQ,.blk bm 118 [.slice aT az.length aV,.slice aZ bI.length a9],.row aT aV 3 1 (hH KL.encI az),.row aZ a9 3 1 (hH KL.encI bI)] cR:=dF
 refine eN (zR ?_)
 cases dT
 exact ⟨rfl,_,(wGq (v:=.agg a7.toArray) ⟨⟨_,cy,(wBC Zr zo (cD.blkAt (k:=2) rfl) (vs:=a7) rfl rfl)⟩,trivial⟩),cg,_,(cD.pick [0,1] _ (by decide) rfl),rfl,rfl⟩
end Go.Proofs.YtkghaiefcjgfkaaGreat
namespace Go.Proofs.YtkghaiefcjgfkaaGreat
open Go.KL
set_option maxHeartbeats 4000000
theorem wGI (p0:wAD) (aF:Option Addr) (aJ:Nat) (aG:Option Addr) (aK:Nat) (aH:Option Addr) (aL:Nat) (aI:Option Addr) (aM:Nat) (p1:wAM) (w:World) (U:PHeap) (hS:St0 w U []) (cD:Sl U 1 aF aJ p0.Starts.length (hH KL.encI p0.Starts)) (cE:Sl U 2 aG aK p0.Splits.length (hH wAA p0.Splits)) (cG:Sl U 3 aH aL p0.Clocks.length (hH wAG p0.Clocks)) (cH:Sl U 4 aI aM p0.Readings.length (hH wAB p0.Readings)) {r:wAF × Int} (hm:wEL p0 p1=some r):Gv Tryz.prog 34 [.agg #[.slice aF p0.Starts.length aJ,.slice aG p0.Splits.length aK,.slice aH p0.Clocks.length aL,.slice aI p0.Readings.length aM],.agg #[jV p1.Skier,jV p1.Mat]] w (wBl w [] U (fun U_ L_ v=>v=.tuple #[.agg #[jV r.1.Lo,jV r.1.Hi],jV r.2]/\L_=[])):=by
 unfold wEL at hm
 refine Gv.of Tryz.func34 Z Tryz.ntmps34 Tryz.results34 Z (sR (.fx 0 (.fx 1 gDk .stop) .stop) Z ?_)
 let B0:List Value:=[.slice aF p0.Starts.length aJ,.slice aG p0.Splits.length aK,.slice aH p0.Clocks.length aL,.slice aI p0.Readings.length aM]
 refine zu (cs:=B0) rfl rfl rfl rfl rfl rfl (by rfl) hS ?_
 intro W1 b2 cx
 let B1:List Value:=[jV p1.Skier,jV p1.Mat]
 refine zu (cs:=B1) rfl rfl rfl rfl rfl rfl (by rfl) cx ?_
 intro W5 b6 cA
 let O:List Value:=[jV 0,jV 0]
 refine zX (cs:=O) Z Z Z Z Z ZF Z cA ?_
 intro W9 ae aT
 refine oA Z Z (eN (sR (.fl 0 (.fl 1 (.fx 2 (.fx 3 (wOG (.nil)) .stop) .stop))) Z (oL Z (aT.ldBA (j:=2) Z Z Z zm zf (vs:=B0) Z Z) (oL Z (aT.ldBA (j:=1) Z Z Z Zz ZZ (vs:=B1) Z Z) (zr (pv:=[(0,.agg B1.toArray)]) (zs:=O) (cs:=B1) Z Z Z Z Z (wAE Z wAL) Zt ZZ yB Z Z Z Z Z aT ?_)))))
 intro aP bf cr
 have ct:sW w U U [.row (some ⟨bf,0,none⟩) 1 62 2 (hH wAV [p1]),.blk ae 37 O,.blk b6 62 B1,.blk b2 45 B0] aP:=cr
 have q:=ct.freezeR (k:=0) (n:=[p1].length) rfl (wAC (f:=wAV) (sz:=2) (fun _=>rfl) [p1]) (by decide)
 obtain ⟨a8,aE,cR,cu⟩:=q
 have cw:sW w U a8 [.blk ae 37 O,.blk b6 62 B1,.blk b2 45 B0] aP:=cu
 have bR:=cD.le aE
 have bS:=cE.le aE
 have bT:=cG.le aE
 have bU:=cH.le aE
 have q:=bnd hm
 obtain ⟨⟨cU,aN⟩,bV,av⟩:=q
 try dsimp only at av
 refine zG 0 Z Z Z Z (zH Z Z Tryz.call46 (zB Z (zB Z zN)) Z) cw (fun hs=>wEy p0 aF aJ aG aK aH aL aI aM [p1] (some ⟨bf,0,none⟩) 1 aP a8 hs bR bS bT bU cR bV) (.inr Z) ?_
 rintro aj cY dp aq dh bp bm
 rcases cU with _ | au
 try dsimp only at av
 obtain ⟨rfl,rfl⟩:=bm
 have bq:sW w U aj [.blk ae 37 O,.blk b6 62 B1,.blk b2 45 B0] aq:=bp
 refine oM Z Z (oR Z (zZ Z Z (v:=.pointer none) Z) (oR Z (zZ Z Z (v:=jV aN) Z) (oA Z Z (oA Z Z (eN (zJ (sR fL2 Z (oM Z Z (oR Z (Zb Z Z Z) (eN (ifc av ?_ ?_)))))))))))
 intro aR cL
 refine zj (ZA (fun h=>h aR.out)) (kN (zJ (ZB zw [3,2,1,2,0,0,3] gEk (by kernel_rfl) ?_)))
 have aU:=bq.drew
 generalize hw_W57:({ aq with drawn:=aq.drawn + 1 }:World)=bA at aU ⊢
 refine oM Z Z (oL Z (aU.ldBA (j:=1) Z Z Z Zz ZZ (vs:=B1) Z Z) (bnK cL fun dt bW cM=>zG 0 Z Z Z Z (zH Z Z ya zN Z) aU (fun hs=>wBa bA aj hs bW) (.inr Z) ?_))
 rintro a9 cZ dq be di cy ⟨rfl,rfl⟩
 have cz:sW w U a9 [.blk ae 37 O,.blk b6 62 B1,.blk b2 45 B0] be:=cy
 refine bnK cM fun du bX cN=>zG 0 Z Z Z Z (zH Z Z yn (zB Z zN) Z) cz (fun hs=>wDR p1 be a9 hs bX) (.inr Z) ?_
 rintro bv c6 dr bB dk cB ⟨rfl,rfl⟩
 have df:sW w U bv [.blk ae 37 O,.blk b6 62 B1,.blk b2 45 B0] bB:=cB
 cases cN
 intro aR cO
 refine cT Z aR (sR gEb Z (oR Z (zl (pv:=[]) (z:=O) (cs:=O) Z wAL ZF wCI Z Z) (oM Z Z (za (j:=0) (vs:=O) Z Z Z Z bq Z Z Z Z zo (zA Z) Z Z Z ?_))))
 intro bC cC
 have br:sW w U aj [.blk ae 37 O,.blk b6 62 B1,.blk b2 45 B0] bC:=cC
 refine oA Z Z (eN (zR (zW ?_)))
 cases cO
 exact ⟨rfl,_,(wEG (rs:=[.cell 4 37,.tmp 5]) (vs:=[.agg O.toArray,jV aN]) ⟨⟨_,rfl,(wBC Zr zo (br.blkAt (k:=0) rfl) (vs:=O) rfl rfl)⟩,⟨rfl,trivial⟩⟩ rfl),aj,_,(br.pick [] _ (by decide) rfl),rfl,rfl⟩
 try dsimp only at av
 obtain ⟨aQ,aW,bg,aX,bh,aY,bi,aZ,bj,am,ao,an,a6,bk,rfl,rfl,bY,bZ,ca,cb,cc,cd⟩:=bm
 let B3:Res:=.blk aQ 124 [.slice aW au.Race.Starts.length bg,.slice aX au.Race.Splits.length bh,.slice aY au.Race.Clocks.length bi,.slice aZ au.Race.Readings.length bj,.map (some am),.slice a6 au.edges.length bk]
 have bt:sW w U aj [B3,.obj am (.map ao an),.blk ae 37 O,.blk b6 62 B1,.blk b2 45 B0] aq:=bp
 refine oM Z Z (oR Z (zZ Z Z (v:=.pointer (some ⟨aQ,0,none⟩)) Z) (oR Z (zZ Z Z (v:=jV aN) Z) (oA Z Z (oA Z Z (eN (zJ (sR fL2 Z (oM Z Z (oR Z (Zb Z Z Z) (eN (ifc av ?_ ?_)))))))))))
 intro aS cP
 refine zj (ZA (fun h=>h aS.out)) (kN (zJ (ZB zw [3,2,1,2,0,0,3] gEk (by kernel_rfl) ?_)))
 have aV:=bt.drew
 generalize hw_W94:({ aq with drawn:=aq.drawn + 1 }:World)=bD at aV ⊢
 refine oM Z Z (oL Z (aV.ldBA (j:=3) Z Z Z Zz ZZ (vs:=B1) Z Z) (bnK cP fun cV cf cQ=>zG 0 Z Z Z Z (zH Z Z ya zN Z) aV (fun hs=>wBa bD aj hs cf) (.inr Z) ?_))
 rintro ba da dl bb ax cg ⟨rfl,rfl⟩
 have ci:sW w U ba [B3,.obj am (.map ao an),.blk ae 37 O,.blk b6 62 B1,.blk b2 45 B0] bb:=cg
 refine bnK cQ fun cS bF cI=>zG 0 Z Z Z Z (zH Z Z yn (zB Z zN) Z) ci (fun hs=>wDR p1 bb ba hs bF) (.inr Z) ?_
 rintro a7 cW dm bc ay cj ⟨rfl,rfl⟩
 have cm:sW w U a7 [B3,.obj am (.map ao an),.blk ae 37 O,.blk b6 62 B1,.blk b2 45 B0] bc:=cj
 have bG:=bY.le ax
 have bH:=bG.le ay
 have bI:=bZ.le ax
 have bJ:=bI.le ay
 have bK:=ca.le ax
 have bL:=bK.le ay
 have bM:=cb.le ax
 have bN:=bM.le ay
 have bO:=cd.le ax
 have bP:=bO.le ay
 refine bnK cI fun bu bQ cJ=>zG 2 Z Z Z Z (zH Z Z Tryz.call47 (zB Z (zB Z (zB Z zN))) Z) cm (fun hs=>wEB au aQ aW bg aX bh aY bi aZ bj am ao an a6 bk cV cS bc a7 hs bH bJ bL bN cc bP bQ) (.inl Z) ?_
 rintro aO cX dn bw dg cn ⟨rfl,rfl⟩
 have co:sW w U aO [B3,.obj am (.map ao an),.blk ae 37 O,.blk b6 62 B1,.blk b2 45 B0] bw:=cn
 let B4:List Value:=[jV bu.Lo,jV bu.Hi]
 refine za (j:=2) (vs:=B4) Z Z Z Z co Z Z Z Z zo (zA Z) Z Z Z ?_
 intro bx cp
 have bn:sW w U aO [B3,.obj am (.map ao an),.blk ae 37 B4,.blk b6 62 B1,.blk b2 45 B0] bx:=cp
 refine oA Z Z (eN (zR ?_))
 cases cJ
 exact ⟨rfl,_,(wEG (rs:=[.cell 4 37,.tmp 5]) (vs:=[.agg B4.toArray,jV 0]) ⟨⟨_,rfl,(wBC Zr zo (bn.blkAt (k:=2) rfl) (vs:=B4) rfl rfl)⟩,⟨rfl,trivial⟩⟩ rfl),aO,_,(bn.pick [] _ (by decide) rfl),rfl,rfl⟩
 intro aS cK
 refine cT Z aS (sR gEb Z (oR Z (zl (pv:=[]) (z:=O) (cs:=O) Z wAL ZF wCI Z Z) (oM Z Z (za (j:=2) (vs:=O) Z Z Z Z bt Z Z Z Z zo (zA Z) Z Z Z ?_))))
 intro bz cq
 have bo:sW w U aj [B3,.obj am (.map ao an),.blk ae 37 O,.blk b6 62 B1,.blk b2 45 B0] bz:=cq
 refine oA Z Z (eN (zR (zW ?_)))
 cases cK
 exact ⟨rfl,_,(wEG (rs:=[.cell 4 37,.tmp 5]) (vs:=[.agg O.toArray,jV aN]) ⟨⟨_,rfl,(wBC Zr zo (bo.blkAt (k:=2) rfl) (vs:=O) rfl rfl)⟩,⟨rfl,trivial⟩⟩ rfl),aj,_,(bo.pick [] _ (by decide) rfl),rfl,rfl⟩
theorem wJv (p0:wAD) (aL:Option Addr) (aP:Nat) (aM:Option Addr) (aQ:Nat) (aN:Option Addr) (aR:Nat) (aO:Option Addr) (aS:Nat) (p1:wAM) (p2:wAM) (w:World) (U:PHeap) (hS:St0 w U []) (cI:Sl U 1 aL aP p0.Starts.length (hH KL.encI p0.Starts)) (cJ:Sl U 2 aM aQ p0.Splits.length (hH wAA p0.Splits)) (cK:Sl U 3 aN aR p0.Clocks.length (hH wAG p0.Clocks)) (cL:Sl U 4 aO aS p0.Readings.length (hH wAB p0.Readings)) {r:wAF × Int} (hm:wFw p0 p1 p2=some r):Gv Tryz.prog 15 [.agg #[.slice aL p0.Starts.length aP,.slice aM p0.Splits.length aQ,.slice aN p0.Clocks.length aR,.slice aO p0.Readings.length aS],.agg #[jV p1.Skier,jV p1.Mat],.agg #[jV p2.Skier,jV p2.Mat]] w (wBl w [] U (fun U_ L_ v=>v=.tuple #[.agg #[jV r.1.Lo,jV r.1.Hi],jV r.2]/\L_=[])):=by
 unfold wFw at hm
 refine Gv.of Tryz.func15 Z Tryz.ntmps15 Tryz.results15 Z (sR (.fx 0 (.fx 1 gDr .stop) .stop) Z ?_)
 let B0:List Value:=[.slice aL p0.Starts.length aP,.slice aM p0.Splits.length aQ,.slice aN p0.Clocks.length aR,.slice aO p0.Readings.length aS]
 refine zu (cs:=B0) rfl rfl rfl rfl rfl rfl (by rfl) hS ?_
 intro W1 b2 cB
 let B1:List Value:=[jV p1.Skier,jV p1.Mat]
 refine zu (cs:=B1) rfl rfl rfl rfl rfl rfl (by rfl) cB ?_
 intro W5 b6 cC
 let B2:List Value:=[jV p2.Skier,jV p2.Mat]
 refine zu (cs:=B2) rfl rfl rfl rfl rfl rfl (by rfl) cC ?_
 intro W9 ah co
 let O:List Value:=[jV 0,jV 0]
 refine zX (cs:=O) Z Z Z Z Z ZF Z co ?_
 intro dh aj aH
 refine oA Z Z (eN (sR (wDp (.fx 3 (.fx 4 (wLI (.nil)) .stop) .stop)) Z (oL Z (aH.ldBA (j:=3) Z Z Z zm zf (vs:=B0) Z Z) (oL Z (aH.ldBA (j:=2) Z Z Z Zz ZZ (vs:=B1) Z Z) (oL Z (aH.ldBA (j:=1) Z Z Z Zz ZZ (vs:=B2) Z Z) (zr (pv:=[(0,.agg B1.toArray),(1,.agg B2.toArray)]) (zs:=[jV 0,jV 0,jV 0,jV 0]) (cs:=[jV p1.Skier,jV p1.Mat,jV p2.Skier,jV p2.Mat]) Z Z Z Z Z (wAE Z (wAE Z wAL)) Zt ZZ yB Z Z Z Z Z aH ?_))))))
 intro aV bi cx
 have cy:sW w U U [.row (some ⟨bi,0,none⟩) 2 62 2 (hH wAV [p1,p2]),.blk aj 37 O,.blk ah 62 B2,.blk b6 62 B1,.blk b2 45 B0] aV:=cx
 have q:=cy.freezeR (k:=0) (n:=[p1,p2].length) rfl (wAC (f:=wAV) (sz:=2) (fun _=>rfl) [p1,p2]) (by decide)
 obtain ⟨bc,aK,cW,cz⟩:=q
 have cA:sW w U bc [.blk aj 37 O,.blk ah 62 B2,.blk b6 62 B1,.blk b2 45 B0] aV:=cz
 have bV:=cI.le aK
 have bW:=cJ.le aK
 have bX:=cK.le aK
 have bY:=cL.le aK
 have q:=bnd hm
 obtain ⟨⟨cY,aT⟩,bZ,az⟩:=q
 try dsimp only at az
 refine zG 0 Z Z Z Z (zH Z Z Tryz.call46 (zB Z (zB Z zN)) Z) cA (fun hs=>wEy p0 aL aP aM aQ aN aR aO aS [p1,p2] (some ⟨bi,0,none⟩) 2 aV bc hs bV bW bX bY cW bZ) (.inr Z) ?_
 rintro ao dd dv ax dn bt bp
 rcases cY with _ | ay
 try dsimp only at az
 obtain ⟨rfl,rfl⟩:=bp
 have bu:sW w U ao [.blk aj 37 O,.blk ah 62 B2,.blk b6 62 B1,.blk b2 45 B0] ax:=bt
 refine oM Z Z (oR Z (zZ Z Z (v:=.pointer none) Z) (oR Z (zZ Z Z (v:=jV aT) Z) (oA Z Z (oA Z Z (eN (zJ (sR fL2 Z (oM Z Z (oR Z (Zb Z Z Z) (eN (ifc az ?_ ?_)))))))))))
 intro aX cQ
 refine zj (ZA (fun h=>h aX.out)) (kN (zJ (ZB zw [3,1,2,1,2,0,0,3] gEl (by kernel_rfl) ?_)))
 have aI:=bu.drew
 generalize hw_W61:({ ax with drawn:=ax.drawn + 1 }:World)=bD at aI ⊢
 refine oM Z Z (oL Z (aI.ldBA (j:=2) Z Z Z Zz ZZ (vs:=B1) Z Z) (oL Z (aI.ldBA (j:=1) Z Z Z Zz ZZ (vs:=B2) Z Z) (bnK cQ fun dy ca cR=>zG 0 Z Z Z Z (zH Z Z yn (zB Z zN) Z) aI (fun hs=>wDR p1 bD ao hs ca) (.inr Z) ?_)))
 rintro be de dw bh dp cD ⟨rfl,rfl⟩
 have cE:sW w U be [.blk aj 37 O,.blk ah 62 B2,.blk b6 62 B1,.blk b2 45 B0] bh:=cD
 refine bnK cR fun dz cb cS=>zG 0 Z Z Z Z (zH Z Z yn (zB Z zN) Z) cE (fun hs=>wDR p2 bh be hs cb) (.inr Z) ?_
 rintro bz df dx bF dq cG ⟨rfl,rfl⟩
 have dl:sW w U bz [.blk aj 37 O,.blk ah 62 B2,.blk b6 62 B1,.blk b2 45 B0] bF:=cG
 cases cS
 intro aX cU
 refine cT Z aX (sR gEb Z (oR Z (zl (pv:=[]) (z:=O) (cs:=O) Z wAL ZF wCI Z Z) (oM Z Z (za (j:=0) (vs:=O) Z Z Z Z bu Z Z Z Z zo (zA Z) Z Z Z ?_))))
 intro bG cH
 have bv:sW w U ao [.blk aj 37 O,.blk ah 62 B2,.blk b6 62 B1,.blk b2 45 B0] bG:=cH
 refine oA Z Z (eN (zR (zW ?_)))
 cases cU
 exact ⟨rfl,_,(wEG (rs:=[.cell 6 37,.tmp 7]) (vs:=[.agg O.toArray,jV aT]) ⟨⟨_,rfl,(wBC Zr zo (bv.blkAt (k:=0) rfl) (vs:=O) rfl rfl)⟩,⟨rfl,trivial⟩⟩ rfl),ao,_,(bv.pick [] _ (by decide) rfl),rfl,rfl⟩
 try dsimp only at az
 obtain ⟨aW,aZ,bj,a6,bk,a7,bm,a8,bn,ap,au,aq,a9,bo,rfl,rfl,cc,cd,cf,cg,ci,cj⟩:=bp
 let B4:Res:=.blk aW 124 [.slice aZ ay.Race.Starts.length bj,.slice a6 ay.Race.Splits.length bk,.slice a7 ay.Race.Clocks.length bm,.slice a8 ay.Race.Readings.length bn,.map (some ap),.slice a9 ay.edges.length bo]
 have bw:sW w U ao [B4,.obj ap (.map au aq),.blk aj 37 O,.blk ah 62 B2,.blk b6 62 B1,.blk b2 45 B0] ax:=bt
 refine oM Z Z (oR Z (zZ Z Z (v:=.pointer (some ⟨aW,0,none⟩)) Z) (oR Z (zZ Z Z (v:=jV aT) Z) (oA Z Z (oA Z Z (eN (zJ (sR fL2 Z (oM Z Z (oR Z (Zb Z Z Z) (eN (ifc az ?_ ?_)))))))))))
 intro aY cV
 refine zj (ZA (fun h=>h aY.out)) (kN (zJ (ZB zw [3,1,2,1,2,0,0,3] gEl (by kernel_rfl) ?_)))
 have aJ:=bw.drew
 generalize hw_W98:({ ax with drawn:=ax.drawn + 1 }:World)=bH at aJ ⊢
 refine oM Z Z (oL Z (aJ.ldBA (j:=4) Z Z Z Zz ZZ (vs:=B1) Z Z) (oL Z (aJ.ldBA (j:=3) Z Z Z Zz ZZ (vs:=B2) Z Z) (bnK cV fun cZ bI cM=>zG 0 Z Z Z Z (zH Z Z yn (zB Z zN) Z) aJ (fun hs=>wDR p1 bH ao hs bI) (.inr Z) ?_)))
 rintro ba c6 dr bf aE cm ⟨rfl,rfl⟩
 have cn:sW w U ba [B4,.obj ap (.map au aq),.blk aj 37 O,.blk ah 62 B2,.blk b6 62 B1,.blk b2 45 B0] bf:=cm
 refine bnK cM fun cX bJ cN=>zG 0 Z Z Z Z (zH Z Z yn (zB Z zN) Z) cn (fun hs=>wDR p2 bf ba hs bJ) (.inr Z) ?_
 rintro bb da dt bg aF cp ⟨rfl,rfl⟩
 have cq:sW w U bb [B4,.obj ap (.map au aq),.blk aj 37 O,.blk ah 62 B2,.blk b6 62 B1,.blk b2 45 B0] bg:=cp
 have bK:=cc.le aE
 have bL:=bK.le aF
 have bM:=cd.le aE
 have bN:=bM.le aF
 have bO:=cf.le aE
 have bP:=bO.le aF
 have bQ:=cg.le aE
 have bR:=bQ.le aF
 have bS:=cj.le aE
 have bT:=bS.le aF
 refine bnK cN fun bx bU cO=>zG 2 Z Z Z Z (zH Z Z Tryz.call47 (zB Z (zB Z (zB Z zN))) Z) cq (fun hs=>wEB ay aW aZ bj a6 bk a7 bm a8 bn ap au aq a9 bo cZ cX bg bb hs bL bN bP bR ci bT bU) (.inl Z) ?_
 rintro aU db du bA dm cr ⟨rfl,rfl⟩
 have ct:sW w U aU [B4,.obj ap (.map au aq),.blk aj 37 O,.blk ah 62 B2,.blk b6 62 B1,.blk b2 45 B0] bA:=cr
 let B5:List Value:=[jV bx.Lo,jV bx.Hi]
 refine za (j:=2) (vs:=B5) Z Z Z Z ct Z Z Z Z zo (zA Z) Z Z Z ?_
 intro bB cu
 have bq:sW w U aU [B4,.obj ap (.map au aq),.blk aj 37 B5,.blk ah 62 B2,.blk b6 62 B1,.blk b2 45 B0] bB:=cu
 refine oA Z Z (eN (zR ?_))
 cases cO
 exact ⟨rfl,_,(wEG (rs:=[.cell 6 37,.tmp 7]) (vs:=[.agg B5.toArray,jV 0]) ⟨⟨_,rfl,(wBC Zr zo (bq.blkAt (k:=2) rfl) (vs:=B5) rfl rfl)⟩,⟨rfl,trivial⟩⟩ rfl),aU,_,(bq.pick [] _ (by decide) rfl),rfl,rfl⟩
 intro aY cP
 refine cT Z aY (sR gEb Z (oR Z (zl (pv:=[]) (z:=O) (cs:=O) Z wAL ZF wCI Z Z) (oM Z Z (za (j:=2) (vs:=O) Z Z Z Z bw Z Z Z Z zo (zA Z) Z Z Z ?_))))
 intro bC cw
 have br:sW w U ao [B4,.obj ap (.map au aq),.blk aj 37 O,.blk ah 62 B2,.blk b6 62 B1,.blk b2 45 B0] bC:=cw
 refine oA Z Z (eN (zR (zW ?_)))
 cases cP
 exact ⟨rfl,_,(wEG (rs:=[.cell 6 37,.tmp 7]) (vs:=[.agg O.toArray,jV aT]) ⟨⟨_,rfl,(wBC Zr zo (br.blkAt (k:=2) rfl) (vs:=O) rfl rfl)⟩,⟨rfl,trivial⟩⟩ rfl),ao,_,(br.pick [] _ (by decide) rfl),rfl,rfl⟩
theorem wFm (p0:wAD) (ah:Option Addr) (ao:Nat) (aj:Option Addr) (ap:Nat) (am:Option Addr) (aq:Nat) (an:Option Addr) (au:Nat) (O:wAH) (w:World) (U:PHeap) (hS:St0 w U []) (aS:Sl U 1 ah ao p0.Starts.length (hH KL.encI p0.Starts)) (aT:Sl U 2 aj ap p0.Splits.length (hH wAA p0.Splits)) (aU:Sl U 3 am aq p0.Clocks.length (hH wAG p0.Clocks)) (aV:Sl U 4 an au p0.Readings.length (hH wAB p0.Readings)) {r:Bool} (hm:wCB p0 O=some r):Gv Tryz.prog 102 [.agg #[.slice ah p0.Starts.length ao,.slice aj p0.Splits.length ap,.slice am p0.Clocks.length aq,.slice an p0.Readings.length au],.agg #[jV O.Kind,jV O.Skier,jV O.Index,.bool O.Up]] w (wBl w [] U (fun U_ L_ v=>v=.bool r/\L_=[])):=by
 unfold wCB at hm
 refine Gv.of Tryz.func102 Z Tryz.ntmps102 Tryz.results102 Z ?_
 by_cases c1:O.Kind=0
 have cd:=hm;rw [if_pos c1] at cd
 refine sR gDs Z ?_
 let B0:List Value:=[.slice ah p0.Starts.length ao,.slice aj p0.Splits.length ap,.slice am p0.Clocks.length aq,.slice an p0.Readings.length au]
 refine zu (cs:=B0) rfl rfl rfl rfl rfl rfl (by rfl) hS ?_
 intro W6 b7 dZ
 let B1:List Value:=[jV O.Kind,jV O.Skier,jV O.Index,.bool O.Up]
 refine zu (cs:=B1) rfl rfl rfl rfl rfl rfl (by rfl) dZ ?_
 intro bG bh dA
 refine Zy rfl rfl rfl rfl rfl rfl (eN (zJ (ZB zw [3,1,2,3,2,3,1,3,3,1,1,2,3,3] gEm (by kernel_rfl) ?_)))
 have br:=dA.drew
 generalize hw_W15:({ bG with drawn:=bG.drawn + 1 }:World)=cn at br ⊢
 refine oR Z (zM Z Z zi Z yH) (oL Z (br.ldB (j:=0) Z Z Z yM (v:=jV O.Kind) Z) (bnK cd fun fL cJ eh=>zG 0 Z Z Z Z (zH Z Z yL (zB Z (zB Z (zB Z zN))) Z) br (fun hs=>wBg O.Kind 0 3 cn U hs cJ) (.inr Z) ?_))
 rintro bc eT fB bO a6 dR ⟨rfl,rfl⟩
 have aN:sW w U bc [.blk bh 101 B1,.blk b7 45 B0] bO:=dR
 refine oM Z Z (ifc eh ?_ ?_)
 intro ae eE
 refine ze Z Z Z (zO Z Z (congrArg hJ ae.out)) (fun _=>zM Z Z zi Z yH) (ZD Z Z Z (zO Z Z (congrArg hJ ae.out)) (aN.ldB (j:=0) Z Z Z yM (v:=jV O.Kind) Z) Z (ZD Z Z Z (zO Z Z (congrArg hJ ae.out)) (aN.ldBA (j:=1) Z Z Z zm zf (vs:=B0) Z Z) Z (ZD Z Z Z (zO Z Z (congrArg hJ ae.out)) (aN.ldBA (j:=0) Z Z Z Zp ZX (vs:=B1) Z Z) Z ?_)))
 have q:=bnd eE
 obtain ⟨⟨⟩,cY,cc⟩:=q
 try dsimp only at cc
 refine zG 0 Z Z Z (zO Z Z (congrArg hJ ae.out)) (zH Z Z yN zN Z) aN (fun hs=>wAy bO bc hs cY) (.inr Z) ?_
 rintro bB eX fE bQ a7 dS ⟨rfl,rfl⟩
 have dT:sW w U bB [.blk bh 101 B1,.blk b7 45 B0] bQ:=dS
 refine ze rfl rfl rfl (zO rfl rfl (congrArg hJ ae.out)) (fun _=>(yj (i:=0) rfl rfl (congrArg (jV) c1) Zm ZP (by decide) (by decide) (wCq yV ZP rfl))) (ze rfl rfl rfl (zO rfl rfl (congrArg hJ ae.out)) (fun _=>Runs.fld rfl rfl Zs rfl (wEr Tryz.isAgg179 (v:=.func (.func 116) #[] #[]) rfl)) ?_)
 have cZ:=aS.le a6
 have c6:=cZ.le a7
 have da:=aT.le a6
 have db:=da.le a7
 have dd:=aU.le a6
 have de:=dd.le a7
 have df:=aV.le a6
 have dg:=df.le a7
 refine bnK cc fun fP dh eF=>zG 0 Z Z Z (zO Z Z (congrArg hJ ae.out)) (zH Z Z Tryz.call116 (zB Z (zB Z zN)) Z) dT (fun hs=>wGy p0 ah ao aj ap am aq an au O bQ bB hs c6 db de dg dh) (.inr Z) ?_
 rintro bC eY fG cu fm dU ⟨rfl,rfl⟩
 have dV:sW w U bC [.blk bh 101 B1,.blk b7 45 B0] cu:=dU
 refine oR Z (zQ Z (congrArg hJ ae.out) Z) (oA Z Z (eN (zR ?_)))
 have hE:=nB eF;first | subst r | cases hE
 exact ⟨rfl,_,(ZG rfl),bC,_,(dV.pick [] _ (by decide) rfl),rfl,rfl⟩
 intro ae eG
 refine ZT Z Z Z (zS Z Z (congrArg hJ (nA.2 ae.out)) Z) (ZT Z Z Z (zS Z Z (congrArg hJ (nA.2 ae.out)) Z) (ZT Z Z Z (zS Z Z (congrArg hJ (nA.2 ae.out)) Z) (ZT Z Z Z (zS Z Z (congrArg hJ (nA.2 ae.out)) Z) (zz Z Z Z (zS Z Z (congrArg hJ (nA.2 ae.out)) Z) (ZT Z Z Z (zS Z Z (congrArg hJ (nA.2 ae.out)) Z) (ZT Z Z Z (zS Z Z (congrArg hJ (nA.2 ae.out)) Z) (zz Z Z Z (zS Z Z (congrArg hJ (nA.2 ae.out)) Z) (oR Z (zd Z (congrArg hJ (nA.2 ae.out)) Z) (oA Z Z (eN (zR ?_)))))))))))
 have hE:=nB eG;first | subst r | cases hE
 exact ⟨rfl,_,(ZG rfl),bc,_,(aN.pick [] _ (by decide) rfl),rfl,rfl⟩
 by_cases c2:O.Kind=1
 have cf:=hm;rw [if_neg c1,if_pos c2] at cf
 refine sR gDs Z ?_
 let B2:List Value:=[.slice ah p0.Starts.length ao,.slice aj p0.Splits.length ap,.slice am p0.Clocks.length aq,.slice an p0.Readings.length au]
 refine zu (cs:=B2) rfl rfl rfl rfl rfl rfl (by rfl) hS ?_
 intro fb bm dW
 let B3:List Value:=[jV O.Kind,jV O.Skier,jV O.Index,.bool O.Up]
 refine zu (cs:=B3) rfl rfl rfl rfl rfl rfl (by rfl) dW ?_
 intro bR bn dX
 refine Zy rfl rfl rfl rfl rfl rfl (eN (zJ (ZB zw [3,1,2,3,2,3,1,3,3,1,1,2,3,3] gEm (by kernel_rfl) ?_)))
 have bv:=dX.drew
 generalize hw_W66:({ bR with drawn:=bR.drawn + 1 }:World)=cw at bv ⊢
 refine oR Z (zM Z Z zi Z yH) (oL Z (bv.ldB (j:=0) Z Z Z yM (v:=jV O.Kind) Z) (bnK cf fun fQ di eH=>zG 0 Z Z Z Z (zH Z Z yL (zB Z (zB Z (zB Z zN))) Z) bv (fun hs=>wBg O.Kind 0 3 cw U hs di) (.inr Z) ?_))
 rintro bf eZ fH bS a8 dY ⟨rfl,rfl⟩
 have aO:sW w U bf [.blk bn 101 B3,.blk bm 45 B2] bS:=dY
 refine oM Z Z (ifc eH ?_ ?_)
 intro af eI
 refine ze Z Z Z (zO Z Z (congrArg hJ af.out)) (fun _=>zM Z Z zi Z yH) (ZD Z Z Z (zO Z Z (congrArg hJ af.out)) (aO.ldB (j:=0) Z Z Z yM (v:=jV O.Kind) Z) Z (ZD Z Z Z (zO Z Z (congrArg hJ af.out)) (aO.ldBA (j:=1) Z Z Z zm zf (vs:=B2) Z Z) Z (ZD Z Z Z (zO Z Z (congrArg hJ af.out)) (aO.ldBA (j:=0) Z Z Z Zp ZX (vs:=B3) Z Z) Z ?_)))
 have q:=bnd eI
 obtain ⟨⟨⟩,dk,cg⟩:=q
 try dsimp only at cg
 refine zG 0 Z Z Z (zO Z Z (congrArg hJ af.out)) (zH Z Z yN zN Z) aO (fun hs=>wAy bS bf hs dk) (.inr Z) ?_
 rintro bD e6 fI bT a9 d4 ⟨rfl,rfl⟩
 have d5:sW w U bD [.blk bn 101 B3,.blk bm 45 B2] bT:=d4
 refine ze rfl rfl rfl (zO rfl rfl (congrArg hJ af.out)) (fun _=>(yj (i:=1) rfl rfl (congrArg (jV) c2) Zm ZP (by decide) (by decide) (wCq yV ZP rfl))) (ze rfl rfl rfl (zO rfl rfl (congrArg hJ af.out)) (fun _=>Runs.fld rfl rfl Zs rfl (wEr Tryz.isAgg179 (v:=.func (.func 119) #[] #[]) rfl)) ?_)
 have dl:=aS.le a8
 have dm:=dl.le a9
 have dn:=aT.le a8
 have dp:=dn.le a9
 have dq:=aU.le a8
 have dr:=dq.le a9
 have dt:=aV.le a8
 have du:=dt.le a9
 refine bnK cg fun fR dv eJ=>zG 0 Z Z Z (zO Z Z (congrArg hJ af.out)) (zH Z Z Tryz.call119 (zB Z (zB Z zN)) Z) d5 (fun hs=>wHB p0 ah ao aj ap am aq an au O bT bD hs dm dp dr du dv) (.inr Z) ?_
 rintro bF eL fq cj ff dw ⟨rfl,rfl⟩
 have dx:sW w U bF [.blk bn 101 B3,.blk bm 45 B2] cj:=dw
 refine oR Z (zQ Z (congrArg hJ af.out) Z) (oA Z Z (eN (zR ?_)))
 have hE:=nB eJ;first | subst r | cases hE
 exact ⟨rfl,_,(ZG rfl),bF,_,(dx.pick [] _ (by decide) rfl),rfl,rfl⟩
 intro af d6
 refine ZT Z Z Z (zS Z Z (congrArg hJ (nA.2 af.out)) Z) (ZT Z Z Z (zS Z Z (congrArg hJ (nA.2 af.out)) Z) (ZT Z Z Z (zS Z Z (congrArg hJ (nA.2 af.out)) Z) (ZT Z Z Z (zS Z Z (congrArg hJ (nA.2 af.out)) Z) (zz Z Z Z (zS Z Z (congrArg hJ (nA.2 af.out)) Z) (ZT Z Z Z (zS Z Z (congrArg hJ (nA.2 af.out)) Z) (ZT Z Z Z (zS Z Z (congrArg hJ (nA.2 af.out)) Z) (zz Z Z Z (zS Z Z (congrArg hJ (nA.2 af.out)) Z) (oR Z (zd Z (congrArg hJ (nA.2 af.out)) Z) (oA Z Z (eN (zR ?_)))))))))))
 have hE:=nB d6;first | subst r | cases hE
 exact ⟨rfl,_,(ZG rfl),bf,_,(aO.pick [] _ (by decide) rfl),rfl,rfl⟩
 by_cases c3:O.Kind=2
 have bW:=hm;rw [if_neg c1,if_neg c2,if_pos c3] at bW
 refine sR gDs Z ?_
 let B4:List Value:=[.slice ah p0.Starts.length ao,.slice aj p0.Splits.length ap,.slice am p0.Clocks.length aq,.slice an p0.Readings.length au]
 refine zu (cs:=B4) rfl rfl rfl rfl rfl rfl (by rfl) hS ?_
 intro e7 bg dy
 let B5:List Value:=[jV O.Kind,jV O.Skier,jV O.Index,.bool O.Up]
 refine zu (cs:=B5) rfl rfl rfl rfl rfl rfl (by rfl) dy ?_
 intro bH bi dz
 refine Zy rfl rfl rfl rfl rfl rfl (eN (zJ (ZB zw [3,1,2,3,2,3,1,3,3,1,1,2,3,3] gEm (by kernel_rfl) ?_)))
 have bq:=dz.drew
 generalize hw_W117:({ bH with drawn:=bH.drawn + 1 }:World)=cm at bq ⊢
 refine oR Z (zM Z Z zi Z yH) (oL Z (bq.ldB (j:=0) Z Z Z yM (v:=jV O.Kind) Z) (bnK bW fun fJ cx d7=>zG 0 Z Z Z Z (zH Z Z yL (zB Z (zB Z (zB Z zN))) Z) bq (fun hs=>wBg O.Kind 0 3 cm U hs cx) (.inr Z) ?_))
 rintro ba eM ft bI aW dB ⟨rfl,rfl⟩
 have aK:sW w U ba [.blk bi 101 B5,.blk bg 45 B4] bI:=dB
 refine oM Z Z (ifc d7 ?_ ?_)
 intro ab d8
 refine ze Z Z Z (zO Z Z (congrArg hJ ab.out)) (fun _=>zM Z Z zi Z yH) (ZD Z Z Z (zO Z Z (congrArg hJ ab.out)) (aK.ldB (j:=0) Z Z Z yM (v:=jV O.Kind) Z) Z (ZD Z Z Z (zO Z Z (congrArg hJ ab.out)) (aK.ldBA (j:=1) Z Z Z zm zf (vs:=B4) Z Z) Z (ZD Z Z Z (zO Z Z (congrArg hJ ab.out)) (aK.ldBA (j:=0) Z Z Z Zp ZX (vs:=B5) Z Z) Z ?_)))
 have q:=bnd d8
 obtain ⟨⟨⟩,cy,bX⟩:=q
 try dsimp only at bX
 refine zG 0 Z Z Z (zO Z Z (congrArg hJ ab.out)) (zH Z Z yN zN Z) aK (fun hs=>wAy bI ba hs cy) (.inr Z) ?_
 rintro bw eO fu bJ aX dC ⟨rfl,rfl⟩
 have dD:sW w U bw [.blk bi 101 B5,.blk bg 45 B4] bJ:=dC
 refine ze rfl rfl rfl (zO rfl rfl (congrArg hJ ab.out)) (fun _=>(yj (i:=2) rfl rfl (congrArg (jV) c3) Zm ZP (by decide) (by decide) (wCq yV ZP rfl))) (ze rfl rfl rfl (zO rfl rfl (congrArg hJ ab.out)) (fun _=>Runs.fld rfl rfl Zs rfl (wEr Tryz.isAgg179 (v:=.func (.func 122) #[] #[]) rfl)) ?_)
 have cz:=aS.le aW
 have cA:=cz.le aX
 have cB:=aT.le aW
 have cC:=cB.le aX
 have cD:=aU.le aW
 have cE:=cD.le aX
 have cG:=aV.le aW
 have cH:=cG.le aX
 refine bnK bX fun fK cI d9=>zG 0 Z Z Z (zO Z Z (congrArg hJ ab.out)) (zH Z Z Tryz.call122 (zB Z (zB Z zN)) Z) dD (fun hs=>wHE p0 ah ao aj ap am aq an au O bJ bw hs cA cC cE cH cI) (.inr Z) ?_
 rintro bx eQ fw co fg dE ⟨rfl,rfl⟩
 have dF:sW w U bx [.blk bi 101 B5,.blk bg 45 B4] co:=dE
 refine oR Z (zQ Z (congrArg hJ ab.out) Z) (oA Z Z (eN (zR ?_)))
 have hE:=nB d9;first | subst r | cases hE
 exact ⟨rfl,_,(ZG rfl),bx,_,(dF.pick [] _ (by decide) rfl),rfl,rfl⟩
 intro ab ef
 refine ZT Z Z Z (zS Z Z (congrArg hJ (nA.2 ab.out)) Z) (ZT Z Z Z (zS Z Z (congrArg hJ (nA.2 ab.out)) Z) (ZT Z Z Z (zS Z Z (congrArg hJ (nA.2 ab.out)) Z) (ZT Z Z Z (zS Z Z (congrArg hJ (nA.2 ab.out)) Z) (zz Z Z Z (zS Z Z (congrArg hJ (nA.2 ab.out)) Z) (ZT Z Z Z (zS Z Z (congrArg hJ (nA.2 ab.out)) Z) (ZT Z Z Z (zS Z Z (congrArg hJ (nA.2 ab.out)) Z) (zz Z Z Z (zS Z Z (congrArg hJ (nA.2 ab.out)) Z) (oR Z (zd Z (congrArg hJ (nA.2 ab.out)) Z) (oA Z Z (eN (zR ?_)))))))))))
 have hE:=nB ef;first | subst r | cases hE
 exact ⟨rfl,_,(ZG rfl),ba,_,(aK.pick [] _ (by decide) rfl),rfl,rfl⟩
 by_cases c4:O.Kind=3
 have bY:=hm;rw [if_neg c1,if_neg c2,if_neg c3,if_pos c4] at bY
 refine sR gDs Z ?_
 let B6:List Value:=[.slice ah p0.Starts.length ao,.slice aj p0.Splits.length ap,.slice am p0.Clocks.length aq,.slice an p0.Readings.length au]
 refine zu (cs:=B6) rfl rfl rfl rfl rfl rfl (by rfl) hS ?_
 intro e8 bj dG
 let B7:List Value:=[jV O.Kind,jV O.Skier,jV O.Index,.bool O.Up]
 refine zu (cs:=B7) rfl rfl rfl rfl rfl rfl (by rfl) dG ?_
 intro bK bk dH
 refine Zy rfl rfl rfl rfl rfl rfl (eN (zJ (ZB zw [3,1,2,3,2,3,1,3,3,1,1,2,3,3] gEm (by kernel_rfl) ?_)))
 have bt:=dH.drew
 generalize hw_W168:({ bK with drawn:=bK.drawn + 1 }:World)=cp at bt ⊢
 refine oR Z (zM Z Z zi Z yH) (oL Z (bt.ldB (j:=0) Z Z Z yM (v:=jV O.Kind) Z) (bnK bY fun fM cK eg=>zG 0 Z Z Z Z (zH Z Z yL (zB Z (zB Z (zB Z zN))) Z) bt (fun hs=>wBg O.Kind 0 3 cp U hs cK) (.inr Z) ?_))
 rintro bb eR fy bL aY dI ⟨rfl,rfl⟩
 have aL:sW w U bb [.blk bk 101 B7,.blk bj 45 B6] bL:=dI
 refine oM Z Z (ifc eg ?_ ?_)
 intro ac ej
 refine ze Z Z Z (zO Z Z (congrArg hJ ac.out)) (fun _=>zM Z Z zi Z yH) (ZD Z Z Z (zO Z Z (congrArg hJ ac.out)) (aL.ldB (j:=0) Z Z Z yM (v:=jV O.Kind) Z) Z (ZD Z Z Z (zO Z Z (congrArg hJ ac.out)) (aL.ldBA (j:=1) Z Z Z zm zf (vs:=B6) Z Z) Z (ZD Z Z Z (zO Z Z (congrArg hJ ac.out)) (aL.ldBA (j:=0) Z Z Z Zp ZX (vs:=B7) Z Z) Z ?_)))
 have q:=bnd ej
 obtain ⟨⟨⟩,cL,bZ⟩:=q
 try dsimp only at bZ
 refine zG 0 Z Z Z (zO Z Z (congrArg hJ ac.out)) (zH Z Z yN zN Z) aL (fun hs=>wAy bL bb hs cL) (.inr Z) ?_
 rintro bz eS fz bM aZ dJ ⟨rfl,rfl⟩
 have dK:sW w U bz [.blk bk 101 B7,.blk bj 45 B6] bM:=dJ
 refine ze rfl rfl rfl (zO rfl rfl (congrArg hJ ac.out)) (fun _=>(yj (i:=3) rfl rfl (congrArg (jV) c4) Zm ZP (by decide) (by decide) (wCq yV ZP rfl))) (ze rfl rfl rfl (zO rfl rfl (congrArg hJ ac.out)) (fun _=>Runs.fld rfl rfl Zs rfl (wEr Tryz.isAgg179 (v:=.func (.func 125) #[] #[]) rfl)) ?_)
 have cM:=aS.le aY
 have cN:=cM.le aZ
 have cO:=aT.le aY
 have cP:=cO.le aZ
 have cQ:=aU.le aY
 have cR:=cQ.le aZ
 have cS:=aV.le aY
 have cU:=cS.le aZ
 refine bnK bZ fun fN cV en=>zG 0 Z Z Z (zO Z Z (congrArg hJ ac.out)) (zH Z Z Tryz.call125 (zB Z (zB Z zN)) Z) dK (fun hs=>wGY p0 ah ao aj ap am aq an au O bM bz hs cN cP cR cU cV) (.inr Z) ?_
 rintro bA eU fA cq fh dL ⟨rfl,rfl⟩
 have dM:sW w U bA [.blk bk 101 B7,.blk bj 45 B6] cq:=dL
 refine oR Z (zQ Z (congrArg hJ ac.out) Z) (oA Z Z (eN (zR ?_)))
 have hE:=nB en;first | subst r | cases hE
 exact ⟨rfl,_,(ZG rfl),bA,_,(dM.pick [] _ (by decide) rfl),rfl,rfl⟩
 intro ac eo
 refine ZT Z Z Z (zS Z Z (congrArg hJ (nA.2 ac.out)) Z) (ZT Z Z Z (zS Z Z (congrArg hJ (nA.2 ac.out)) Z) (ZT Z Z Z (zS Z Z (congrArg hJ (nA.2 ac.out)) Z) (ZT Z Z Z (zS Z Z (congrArg hJ (nA.2 ac.out)) Z) (zz Z Z Z (zS Z Z (congrArg hJ (nA.2 ac.out)) Z) (ZT Z Z Z (zS Z Z (congrArg hJ (nA.2 ac.out)) Z) (ZT Z Z Z (zS Z Z (congrArg hJ (nA.2 ac.out)) Z) (zz Z Z Z (zS Z Z (congrArg hJ (nA.2 ac.out)) Z) (oR Z (zd Z (congrArg hJ (nA.2 ac.out)) Z) (oA Z Z (eN (zR ?_)))))))))))
 have hE:=nB eo;first | subst r | cases hE
 exact ⟨rfl,_,(ZG rfl),bb,_,(aL.pick [] _ (by decide) rfl),rfl,rfl⟩
 have ca:=hm;rw [if_neg c1,if_neg c2,if_neg c3,if_neg c4] at ca
 refine sR gDs Z ?_
 let B8:List Value:=[.slice ah p0.Starts.length ao,.slice aj p0.Splits.length ap,.slice am p0.Clocks.length aq,.slice an p0.Readings.length au]
 refine zu (cs:=B8) rfl rfl rfl rfl rfl rfl (by rfl) hS ?_
 intro e9 bU dN
 let B9:List Value:=[jV O.Kind,jV O.Skier,jV O.Index,.bool O.Up]
 refine zu (cs:=B9) rfl rfl rfl rfl rfl rfl (by rfl) dN ?_
 intro bN bV dO
 refine Zy rfl rfl rfl rfl rfl rfl (eN (zJ (ZB zw [3,1,2,3,2,3,1,3,3,1,1,2,3,3] gEm (by kernel_rfl) ?_)))
 have bu:=dO.drew
 generalize hw_W219:({ bN with drawn:=bN.drawn + 1 }:World)=cr at bu ⊢
 refine oR Z (zM Z Z zi Z yH) (oL Z (bu.ldB (j:=0) Z Z Z yM (v:=jV O.Kind) Z) (bnK ca fun fO cW ez=>zG 0 Z Z Z Z (zH Z Z yL (zB Z (zB Z (zB Z zN))) Z) bu (fun hs=>wBg O.Kind 0 3 cr U hs cW) (.inr Z) ?_))
 rintro be eV fC bP fj dP ⟨rfl,rfl⟩
 have aM:sW w U be [.blk bV 101 B9,.blk bU 45 B8] bP:=dP
 refine oM Z Z (ifc ez ?_ ?_)
 intro ag eA
 refine ze Z Z Z (zO Z Z (congrArg hJ ag.out)) (fun _=>zM Z Z zi Z yH) (ZD Z Z Z (zO Z Z (congrArg hJ ag.out)) (aM.ldB (j:=0) Z Z Z yM (v:=jV O.Kind) Z) Z (ZD Z Z Z (zO Z Z (congrArg hJ ag.out)) (aM.ldBA (j:=1) Z Z Z zm zf (vs:=B8) Z Z) Z (ZD Z Z Z (zO Z Z (congrArg hJ ag.out)) (aM.ldBA (j:=0) Z Z Z Zp ZX (vs:=B9) Z Z) Z ?_)))
 have q:=bnd eA
 obtain ⟨⟨⟩,cX,cb⟩:=q
 try dsimp only at cb
 refine zG 0 Z Z Z (zO Z Z (congrArg hJ ag.out)) (zH Z Z yN zN Z) aM (fun hs=>wAy bP be hs cX) (.inr Z) ?_
 rintro ci eW fD ct fk dQ ⟨rfl,rfl⟩
 have fd:sW w U ci [.blk bV 101 B9,.blk bU 45 B8] ct:=dQ
 cases cb
 intro ag eB
 refine ZT Z Z Z (zS Z Z (congrArg hJ (nA.2 ag.out)) Z) (ZT Z Z Z (zS Z Z (congrArg hJ (nA.2 ag.out)) Z) (ZT Z Z Z (zS Z Z (congrArg hJ (nA.2 ag.out)) Z) (ZT Z Z Z (zS Z Z (congrArg hJ (nA.2 ag.out)) Z) (zz Z Z Z (zS Z Z (congrArg hJ (nA.2 ag.out)) Z) (ZT Z Z Z (zS Z Z (congrArg hJ (nA.2 ag.out)) Z) (ZT Z Z Z (zS Z Z (congrArg hJ (nA.2 ag.out)) Z) (zz Z Z Z (zS Z Z (congrArg hJ (nA.2 ag.out)) Z) (oR Z (zd Z (congrArg hJ (nA.2 ag.out)) Z) (oA Z Z (eN (zR ?_)))))))))))
 have hE:=nB eB;first | subst r | cases hE
 exact ⟨rfl,_,(ZG rfl),be,_,(aM.pick [] _ (by decide) rfl),rfl,rfl⟩
end Go.Proofs.YtkghaiefcjgfkaaGreat
namespace Go.Proofs.YtkghaiefcjgfkaaGreat
open Go.KL
set_option maxHeartbeats 4000000
theorem wEi (O:List wAH) (ao:Option Addr) (ap:Nat) (p1:(wAH->Option Bool)) (aq:Value) (w:World) (U:PHeap) (hS:St0 w U []) (a8:Sl U 4 ao ap O.length (hH wBc O)) (a9:FnOK Tryz.prog U aq wLR wNX p1) {r:Bool} (hm:wCT O p1=some r):Gv Tryz.prog 103 [.slice ao O.length ap,aq] w (wBl w [] U (fun U_ L_ v=>v=.bool r/\L_=[])):=by
 unfold wCT at hm
 refine Gv.of Tryz.func103 Z Tryz.ntmps103 Tryz.results103 Z (sR fL1 Z (oA Z Z (eN (zJ (sR fL3 Z (oM Z Z (oR Z (zx Z Z yK) (oM Z Z (eN (zY ?_))))))))))
 have q:=wBs hm
 obtain ⟨r3,ah⟩:=q
 have q:=wBr ah
 obtain ⟨am,bc⟩:=q
 replace am:=zK am
 refine yQ (fun k2 _ σ_ w_=>∃ (U_:PHeap),σ_ 9=jV (↑k2:Int)/\σ_ 1=aq/\σ_ 7=.slice ao O.length ap/\σ_ 8=jV (↑O.length:Int)/\PHeap.Le U U_/\sW w U U_ [] w_) bc ?_ ?_ ?_
 exact ⟨U,Z,Z,Z,Z,(zL _),hS⟩
 rintro k2 ⟨⟩ bB bD W8 aj ⟨aL,ag,ax,ay,az,an,aF⟩ aJ ba
 try dsimp only at aJ
 have av:Hid ((↑k2:Int) < (↑O.length:Int)):=zK (wAx aj)
 replace aj:=zK aj
 have be:Hid (w64 ((↑k2:Int) + 1)=(↑(k2 + 1):Int)):=zK (by have h1:=am.out;have h2:=av.out;rw [wAW] <;> omega)
 refine sR fL1 Z (oR Z (zT Z ag az) (eN (zJ (cT Z av (kN (zJ (zY (sR gEc Z (bnK aJ fun aa aE bf=>?_)))))))))
 have aT:=a8.le an
 have q:=aT.el (fun _=>rfl) (wAc aE)
 obtain ⟨br,bw,aW,aX⟩:=q
 refine oR Z (Zf Z ay aW ag yK ZX (wCG aE)) (oL Z (aF.ldCA (f:=0) aX Z Z Zp ZX (us:=[jV aa.Kind,jV aa.Skier,jV aa.Index,.bool aa.Up]) Z Z) (zX (cs:=[jV 0,jV 0,jV 0,.bool false]) Z Z Z Z Z Zq Z aF ?_))
 intro bo au aY
 let B0:List Value:=[jV aa.Kind,jV aa.Skier,jV aa.Index,.bool aa.Up]
 refine za (j:=0) (vs:=B0) Z Z Z Z aY Z Z Z Z ZX (zA Z) Z Z Z ?_
 intro aN aZ
 have aG:sW w U aL [.blk au 101 B0] aN:=aZ
 refine eN (sR gEb Z (oM Z ax (oL Z (aG.ldBA (j:=0) Z Z Z Zp ZX (vs:=B0) Z Z) (bnK bf fun bA aU bg=>?_))))
 have aV:=a9.le an
 refine yf (a:=aa) Z Z Z Z Z Z (zB Z zN) aG aV Z aU ?_
 rintro ae bn bz aO bk a6 ⟨rfl,rfl⟩
 have aH:sW w U ae [.blk au 101 B0] aO:=a6
 refine oR Z (ZY Z Z) (eN (ifc bg ?_ ?_))
 intro af bh
 refine zj (nC af.out) (ZS (zk (zI (rR fL2 Z (oR Z (ZI (zV Z ag Z) (congrArg (jV) be.out)) (oM Z Z (zc ?_)))))))
 have q:=nB bh
 obtain rfl:=q
 exact zI ⟨rfl,_,rfl,⟨ae,rfl,ax,ay,az,(an.trans bk),(aH.pick [] _ (by decide) rfl)⟩⟩
 intro af bi
 refine ZK (nF (af.out)) (sR fL1 Z (oA Z Z (eN (zR (zn (zW ?_))))))
 have q:=wAY bi
 obtain ⟨bm,bj,aQ⟩:=q
 have q:=wBo hm ah (ba bm aQ)
 obtain rfl:=q
 refine zW (zn (zW ?_))
 have hE:=nB bj;first | subst r | cases hE
 exact ⟨rfl,_,(ZG rfl),ae,_,(aH.pick [] _ (by decide) rfl),rfl,rfl⟩
 rintro ⟨⟩ bC bp ⟨aM,aS,bt,bu,aR,bv,a7⟩ bb
 have aI:=wCk hm ah bb
 try dsimp only at aI
 have aP:Hid (¬ ((↑(((↑O.length:Int):Int) - 0).toNat:Int) < (↑O.length:Int))):=zK (wAd)
 refine sR fL1 Z (oR Z (zT Z aS aR) (eN (zJ (cF Z aP (ZQ (zg (zg (ZJ (zI (sR fL1 Z (oA Z Z (eN (zR ?_)))))))))))))
 have hE:=nB aI;first | subst r | cases hE
 exact ⟨Z,_,(ZG Z),aM,_,a7,Z,Z⟩
theorem wEC (O:wAD) (ae:Option Addr) (aj:Nat) (af:Option Addr) (am:Nat) (ag:Option Addr) (an:Nat) (ah:Option Addr) (ao:Nat) (p1:List wAH) (av:Option Addr) (ax:Nat) (w:World) (U:PHeap) (hS:St0 w U []) (aM:Sl U 1 ae aj O.Starts.length (hH KL.encI O.Starts)) (aN:Sl U 2 af am O.Splits.length (hH wAA O.Splits)) (aO:Sl U 3 ag an O.Clocks.length (hH wAG O.Clocks)) (aP:Sl U 4 ah ao O.Readings.length (hH wAB O.Readings)) (aQ:Sl U 4 av ax p1.length (hH wBc p1)) {r:Int} (hm:wCU O p1=some r):Gv Tryz.prog 60 [.agg #[.slice ae O.Starts.length aj,.slice af O.Splits.length am,.slice ag O.Clocks.length an,.slice ah O.Readings.length ao],.slice av p1.length ax] w (wBl w [] U (fun U_ L_ v=>v=jV r/\L_=[])):=by
 unfold wCU at hm
 refine Gv.of Tryz.func60 Z Tryz.ntmps60 Tryz.results60 Z (sR gDi Z ?_)
 let B0:List Value:=[.slice ae O.Starts.length aj,.slice af O.Splits.length am,.slice ag O.Clocks.length an,.slice ah O.Readings.length ao]
 refine zu (cs:=B0) rfl rfl rfl rfl rfl rfl (by rfl) hS ?_
 intro W1 b2 au
 refine oA Z Z (eN (sR fL3 Z (oL Z (au.ldBA (j:=0) Z Z Z zm zf (vs:=B0) Z Z) (oR Z (Runs.mkf Z (zB Z zN) zN) (oA Z Z (eN (zJ (zY (sR fL4 Z (oM Z Z (oR Z (zx Z Z yK) (oR Z (ye Z Z Z) (oA Z Z (eN ?_))))))))))))))
 by_cases c5:80 < (↑p1.length:Int)
 have az:=hm;rw [if_pos c5] at az;replace c5:=zK c5
 refine cT Z c5 (sR fL1 Z (oA Z Z (eN (zR (zn (zW ?_))))))
 cases az
 exact ⟨rfl,_,(ZG rfl),U,_,(au.pick [] _ (by decide) rfl),rfl,rfl⟩
 have aE:=hm;rw [if_neg c5] at aE;replace c5:=zK c5
 refine cF Z c5 (sR gEh Z (oM Z Z (oM Z Z ?_)))
 have aK:FnOK Tryz.prog U (.func (.func 102) #[.agg B0.toArray] #[]) wLR wNX (fun x=>wCB O x):=⟨102,[.agg B0.toArray],[],rfl,Tryz.call102,fun U1 w1 x y vs le hs ha hm=>by obtain rfl:=ha;exact wFm O ae aj af am ag an ah ao x w1 U1 hs (aM.le le) (aN.le le) (aO.le le) (aP.le le) hm⟩
 refine bnK aE fun x9 aJ aR=>zG 0 Z Z Z Z (zH Z Z Tryz.call103 (zB Z (zB Z zN)) Z) au (fun hs=>wEi p1 av ax (fun x=>wCB O x) (.func (.func 102) #[.agg B0.toArray] #[]) W1 U hs aQ aK aJ) (.inr Z) ?_
 rintro ap aV aX aH aW aL ⟨rfl,rfl⟩
 have ay:sW w U ap [.blk b2 45 B0] aH:=aL
 refine oR Z (ZY Z Z) (oA Z Z (eN (ifc aR ?_ ?_)))
 intro aq aS
 refine zj (nC aq.out) (ZS (zk (zI (sR fL1 Z (oA Z Z (eN (zR ?_)))))))
 cases aS
 exact ⟨rfl,_,(ZG rfl),ap,_,(ay.pick [] _ (by decide) rfl),rfl,rfl⟩
 intro aq aT
 refine ZK (nF (aq.out)) (sR fL1 Z (oA Z Z (eN (zR (zn (zW ?_))))))
 cases aT
 exact ⟨rfl,_,(ZG rfl),ap,_,(ay.pick [] _ (by decide) rfl),rfl,rfl⟩
theorem wCj (O:wAD) (aI:Option Addr) (aM:Nat) (aJ:Option Addr) (aN:Nat) (aK:Option Addr) (aO:Nat) (aL:Option Addr) (aP:Nat) (p1:wAI) (p2:List wAH) (a6:Option Addr) (a7:Nat) (w:World) (U:PHeap) (hS:St0 w U []) (cg:Sl U 1 aI aM O.Starts.length (hH KL.encI O.Starts)) (ci:Sl U 2 aJ aN O.Splits.length (hH wAA O.Splits)) (cj:Sl U 3 aK aO O.Clocks.length (hH wAG O.Clocks)) (cm:Sl U 4 aL aP O.Readings.length (hH wAB O.Readings)) (cn:Sl U 4 a6 a7 p2.length (hH wBc p2)) {r:wAI × Int × Bool} (hm:wCh O p1 p2=some r):Gv Tryz.prog 61 [.agg #[.slice aI O.Starts.length aM,.slice aJ O.Splits.length aN,.slice aK O.Clocks.length aO,.slice aL O.Readings.length aP],.agg #[jV p1.skier,jV p1.mat],.slice a6 p2.length a7] w (wBl w [] U (fun U_ L_ v=>v=.tuple #[.agg #[jV r.1.skier,jV r.1.mat],jV r.2.1,.bool r.2.2]/\L_=[])):=by
 unfold wCh at hm
 refine Gv.of Tryz.func61 Z Tryz.ntmps61 Tryz.results61 Z (sR gEi Z ?_)
 let B0:List Value:=[.slice aI O.Starts.length aM,.slice aJ O.Splits.length aN,.slice aK O.Clocks.length aO,.slice aL O.Readings.length aP]
 refine zu (cs:=B0) rfl rfl rfl rfl rfl rfl (by rfl) hS ?_
 intro W1 b2 bS
 refine zu (cs:=[jV p1.skier,jV p1.mat]) rfl rfl rfl rfl rfl rfl (by rfl) bS ?_
 intro W5 b6 bV
 let B1:List Value:=[jV 0,jV 0]
 refine zX (cs:=B1) Z Z Z Z Z zb Z bV ?_
 intro W9 ae bQ
 refine oA Z Z (oA Z Z (eN (sR fL1 Z (oA Z Z (eN (zJ (sR fL3 Z (oM Z Z (oR Z (zx Z Z yK) (oM Z Z (eN (zY ?_))))))))))))
 have q:=wBs hm
 obtain ⟨cU,aX⟩:=q
 have q:=wBr aX
 obtain ⟨aZ,cq⟩:=q
 replace aZ:=zK aZ
 refine yQ (fun ay (aQ,aR,bq) σ_ w_=>∃ (U_:PHeap),σ_ 17=jV (↑ay:Int)/\σ_ 3=.pointer (some ⟨b2,0,none⟩)/\σ_ 4=.pointer (some ⟨b6,0,none⟩)/\σ_ 6=.pointer (some ⟨ae,0,none⟩)/\σ_ 9=jV bq/\σ_ 15=.slice a6 p2.length a7/\σ_ 16=jV (↑p2.length:Int)/\PHeap.Le U U_/\sW w U U_ [.blk ae 115 B1,.blk b6 115 [jV aQ,jV aR],.blk b2 45 B0] w_) cq ?_ ?_ ?_
 exact ⟨U,Z,Z,Z,Z,Z,Z,Z,(zL _),bQ⟩
 rintro ay ⟨aQ,aR,bq⟩ cW cY cI aY ⟨a9,aV,be,aH,aU,bF,bf,bg,ax,bm⟩ bp cp
 try dsimp only at bp
 have bb:Hid ((↑ay:Int) < (↑p2.length:Int)):=zK (wAx aY)
 replace aY:=zK aY
 have cr:Hid (w64 ((↑ay:Int) + 1)=(↑(ay + 1):Int)):=zK (by have h1:=aZ.out;have h2:=bb.out;rw [wAW] <;> omega)
 refine sR fL1 Z (oR Z (zT Z aV bg) (eN (zJ (cT Z bb (kN (zJ (zY (sR gEc Z (bnK bp fun aj bh cw=>?_)))))))))
 have bH:=cn.le ax
 have q:=bH.el (fun _=>rfl) (wAc bh)
 obtain ⟨cO,cS,bN,bO⟩:=q
 refine oR Z (Zf Z bf bN aV yK ZX (wCG bh)) (oL Z (bm.ldCA (f:=0) bO Z Z Zp ZX (us:=[jV aj.Kind,jV aj.Skier,jV aj.Index,.bool aj.Up]) Z Z) (zX (cs:=[jV 0,jV 0,jV 0,.bool false]) Z Z Z Z Z Zq Z bm ?_))
 intro cK au bT
 let B2:List Value:=[jV aj.Kind,jV aj.Skier,jV aj.Index,.bool aj.Up]
 refine za (j:=0) (vs:=B2) Z Z Z Z bT Z Z Z Z ZX (zA Z) Z Z Z ?_
 intro ba bU
 let B3:List Value:=[jV aQ,jV aR]
 have aW:sW w U a9 [.blk au 101 B2,.blk ae 115 B1,.blk b6 115 B3,.blk b2 45 B0] ba:=bU
 refine eN (sR (.fl 0 (.fl 1 (.fx 2 (wLt (.fx 7 (.fx 8 (.fx 9 (.fx 10 (.fl 11 .nil) .stop) .stop) .stop) .stop)) .stop))) Z (oL Z (aW.ldBA (j:=3) Z Z be zm zf (vs:=B0) Z Z) (oL Z (aW.ldBA (j:=0) Z Z Z Zp ZX (vs:=B2) Z Z) ?_)))
 have bI:=cg.le ax
 have bJ:=ci.le ax
 have bK:=cj.le ax
 have bL:=cm.le ax
 have q:=bnd cw
 obtain ⟨⟨aE,aS,cA⟩,bM,bo⟩:=q
 try dsimp only at bo
 refine zG 0 Z Z Z Z (zH Z Z Tryz.call65 (zB Z (zB Z zN)) Z) aW (fun hs=>wBb O aI aM aJ aN aK aO aL aP aj ba a9 hs bI bJ bK bL bM) (.inr Z) ?_
 rintro ao cE cV bu cy bW ⟨rfl,rfl⟩
 have bX:sW w U ao [.blk au 101 B2,.blk ae 115 B1,.blk b6 115 B3,.blk b2 45 B0] bu:=bW
 refine oM Z Z (oR Z (zZ Z Z (v:=.agg #[jV aE.skier,jV aE.mat]) Z) (oR Z (zZ Z Z (v:=.agg #[jV aS.skier,jV aS.mat]) Z) (oR Z (zZ Z Z (v:=jV cA) Z) (zX (cs:=B1) Z Z Z Z Z zb Z bX ?_))))
 intro cL aF bY
 refine zX (cs:=B1) Z Z Z Z Z zb Z bY ?_
 intro cM aG bZ
 let B4:List Value:=[jV aE.skier,jV aE.mat]
 refine za (j:=1) (vs:=B4) Z Z Z Z bZ Z Z Z Z zE (zA Z) Z Z Z ?_
 intro bv ca
 have cb:sW w U ao [.blk aG 115 B1,.blk aF 115 B4,.blk au 101 B2,.blk ae 115 B1,.blk b6 115 B3,.blk b2 45 B0] bv:=ca
 let B5:List Value:=[jV aS.skier,jV aS.mat]
 refine za (j:=0) (vs:=B5) Z Z Z Z cb Z Z Z Z zE (zA Z) Z Z Z ?_
 intro bw cc
 have av:sW w U ao [.blk aG 115 B5,.blk aF 115 B4,.blk au 101 B2,.blk ae 115 B1,.blk b6 115 B3,.blk b2 45 B0] bw:=cc
 refine oA Z Z (eN (zJ (sR fL3 Z (oL Z (av.ldBA (j:=1) Z Z Z zh zE (vs:=B4) Z Z) (oL Z (av.ldBA (j:=4) Z Z aH zh zE (vs:=B3) Z Z) (oR Z (ZI (Runs.neS (enc:=wBf) (a:=aE) (b:=(⟨aQ,aR⟩:wAI)) Z Z Z wKZ wKY) (congrArg hJ (decide_not).symm)) (eN (ifc bo ?_ ?_))))))))
 intro aT cx
 refine zj (ZA (fun h=>h aT.out)) (kN (rR (wDu (.fx 4 (.fl 5 .nil) .stop)) Z (oL Z (av.ldBA (j:=0) Z Z Z zh zE (vs:=B5) Z Z) (oM Z bF (oM Z Z (oR Z (zV Z Z Z) (za (j:=4) (vs:=B5) Z Z Z Z av Z aH Z Z zE (zA Z) Z Z Z ?_)))))))
 intro bx cd
 have cf:sW w U ao [.blk aG 115 B5,.blk aF 115 B4,.blk au 101 B2,.blk ae 115 B1,.blk b6 115 B5,.blk b2 45 B0] bx:=cd
 refine oA Z Z (zc (zk (zI (rR fL2 Z (oR Z (ZI (zV Z aV Z) (congrArg (jV) cr.out)) (oM Z Z (zc ?_)))))))
 have q:=nB cx
 obtain rfl:=q
 exact zI ⟨rfl,_,rfl,⟨ao,rfl,be,aH,aU,rfl,bf,bg,(ax.trans cy),(cf.pick [3,4,5] _ (by decide) rfl)⟩⟩
 intro aT ct
 refine cT Z aT (sR gEd Z (oL Z (av.ldBA (j:=4) Z Z aH zh zE (vs:=B3) Z Z) (za (j:=3) (vs:=B3) Z Z Z Z av Z aU Z Z zE (zA Z) Z Z Z ?_)))
 intro br bP
 have bi:sW w U ao [.blk aG 115 B5,.blk aF 115 B4,.blk au 101 B2,.blk ae 115 B3,.blk b6 115 B3,.blk b2 45 B0] br:=bP
 refine oA Z Z (oA Z Z (eN (zR (zW (zn (zW ?_))))))
 have q:=wAY ct
 obtain ⟨cz,cu,bA⟩:=q
 have q:=wBo hm aX (cp cz bA)
 obtain rfl:=q
 refine zW (zn (zW ?_))
 cases cu
 exact ⟨rfl,_,(wEG (rs:=[.cell 6 115,.tmp 7,.tmp 8]) (vs:=[.agg B3.toArray,jV 0,.bool false]) ⟨⟨_,aU,(wBC zh zE (bi.blkAt (k:=3) rfl) (vs:=B3) rfl rfl)⟩,⟨rfl,⟨rfl,trivial⟩⟩⟩ rfl),ao,_,(bi.pick [] _ (by decide) rfl),rfl,rfl⟩
 rintro ⟨cB,cC,cD⟩ cX cH ⟨a8,bG,cP,bB,bc,bC,cQ,bD,cR,bj⟩ co
 have bn:=wCk hm aX co
 try dsimp only at bn
 have bz:Hid (¬ ((↑(((↑p2.length:Int):Int) - 0).toNat:Int) < (↑p2.length:Int))):=zK (wAd)
 refine sR fL1 Z (oR Z (zT Z bG bD) (eN (zJ (cF Z bz (ZQ (zg (zg (ZJ (zI (sR gEh Z ?_))))))))))
 let B6:List Value:=[jV cB,jV cC]
 refine oL Z (bj.ldBA (j:=1) Z Z bB zh zE (vs:=B6) Z Z) (oM Z bC (za (j:=0) (vs:=B6) Z Z Z Z bj Z bc Z Z zE (zA Z) Z Z Z ?_))
 intro bt bR
 have bk:sW w U a8 [.blk ae 115 B6,.blk b6 115 B6,.blk b2 45 B0] bt:=bR
 refine oA Z Z (oA Z Z (eN (zR ?_)))
 cases bn
 exact ⟨rfl,_,(wEG (rs:=[.cell 6 115,.tmp 7,.tmp 8]) (vs:=[.agg B6.toArray,jV cD,.bool true]) ⟨⟨_,bc,(wBC zh zE (bk.blkAt (k:=0) rfl) (vs:=B6) rfl rfl)⟩,⟨rfl,⟨rfl,trivial⟩⟩⟩ rfl),a8,_,(bk.pick [] _ (by decide) rfl),rfl,rfl⟩
theorem wHf (O:wAD) (ap:Option Addr) (ax:Nat) (aq:Option Addr) (ay:Nat) (au:Option Addr) (az:Nat) (av:Option Addr) (aE:Nat) (p1:wAM) (p2:wAM) (p3:List wAH) (aJ:Option Addr) (aK:Nat) (w:World) (U:PHeap) (hS:St0 w U []) (bW:Sl U 1 ap ax O.Starts.length (hH KL.encI O.Starts)) (bX:Sl U 2 aq ay O.Splits.length (hH wAA O.Splits)) (bY:Sl U 3 au az O.Clocks.length (hH wAG O.Clocks)) (bZ:Sl U 4 av aE O.Readings.length (hH wAB O.Readings)) (dQ:Sl U 4 aJ aK p3.length (hH wBc p3)) {r:Int × Int} (hm:wEg O p1 p2 p3=some r):Gv Tryz.prog 36 [.agg #[.slice ap O.Starts.length ax,.slice aq O.Splits.length ay,.slice au O.Clocks.length az,.slice av O.Readings.length aE],.agg #[jV p1.Skier,jV p1.Mat],.agg #[jV p2.Skier,jV p2.Mat],.slice aJ p3.length aK] w (wBl w [] U (fun U_ L_ v=>v=.tuple #[jV r.1,jV r.2]/\L_=[])):=by
 unfold wEg at hm
 refine Gv.of Tryz.func36 Z Tryz.ntmps36 Tryz.results36 Z (sR gEi Z ?_)
 let B0:List Value:=[.slice ap O.Starts.length ax,.slice aq O.Splits.length ay,.slice au O.Clocks.length az,.slice av O.Readings.length aE]
 refine zu (cs:=B0) rfl rfl rfl rfl rfl rfl (by rfl) hS ?_
 intro W1 b2 dL
 let B1:List Value:=[jV p1.Skier,jV p1.Mat]
 refine zu (cs:=B1) rfl rfl rfl rfl rfl rfl (by rfl) dL ?_
 intro W5 b6 dO
 let B2:List Value:=[jV p2.Skier,jV p2.Mat]
 refine zu (cs:=B2) rfl rfl rfl rfl rfl rfl (by rfl) dO ?_
 intro W9 ae bS
 refine oA Z Z (oA Z Z (eN (sR gDn Z (oL Z (bS.ldBA (j:=2) Z Z Z zm zf (vs:=B0) Z Z) (bnK hm fun fd cE dS=>zG 0 Z Z Z Z (zH Z Z Tryz.call58 (zB Z zN) Z) bS (fun hs=>wEM O ap ax aq ay au az av aE W9 U hs bW bX bY bZ cE) (.inr Z) ?_)))))
 rintro bb eG eY bC aO dC ⟨rfl,rfl⟩
 have aY:sW w U bb [.blk ae 62 B2,.blk b6 62 B1,.blk b2 45 B0] bC:=dC
 refine oA Z Z (eN (zJ (zY (sR fL3 Z (oM Z Z (oR Z (Zb Z Z Z) (oA Z Z (eN (ifc dS ?_ ?_)))))))))
 intro bk dT
 refine zj (ZA (fun h=>h bk.out)) (sR (.fl 0 (.fl 1 (.fx 2 (wLt (.fx 7 (wMP (.nil)) .stop)) .stop))) Z (oL Z (aY.ldBA (j:=2) Z Z Z zm zf (vs:=B0) Z Z) (oL Z (aY.ldBA (j:=1) Z Z Z Zz ZZ (vs:=B1) Z Z) ?_)))
 have bJ:=bW.le aO
 have bK:=bX.le aO
 have bL:=bY.le aO
 have bM:=bZ.le aO
 refine bnK dT fun ff di d7=>zG 0 Z Z Z Z (zH Z Z Tryz.call59 (zB Z (zB Z zN)) Z) aY (fun hs=>wCX O ap ax aq ay au az av aE p1 bC bb hs bJ bK bL bM di) (.inr Z) ?_
 rintro bg eM e9 bG aP dM ⟨rfl,rfl⟩
 have aZ:sW w U bg [.blk ae 62 B2,.blk b6 62 B1,.blk b2 45 B0] bG:=dM
 refine oR Z (ZY Z Z) (oM Z Z (ifc d7 ?_ ?_))
 intro ao d8
 refine ZD Z Z Z (zO Z Z (nC ao.out)) (aZ.ldBA (j:=2) Z Z Z zm zf (vs:=B0) Z Z) Z (ZD Z Z Z (zO Z Z (nC ao.out)) (aZ.ldBA (j:=0) Z Z Z Zz ZZ (vs:=B2) Z Z) Z ?_)
 have bN:=bJ.le aP
 have bO:=bK.le aP
 have bP:=bL.le aP
 have bQ:=bM.le aP
 refine bnK d8 fun fg dk d9=>zG 0 Z Z Z (zO Z Z (nC ao.out)) (zH Z Z Tryz.call59 (zB Z (zB Z zN)) Z) aZ (fun hs=>wCX O ap ax aq ay au az av aE p2 bG bg hs bN bO bP bQ dk) (.inr Z) ?_
 rintro bh eO fb bH aQ dN ⟨rfl,rfl⟩
 have bq:sW w U bh [.blk ae 62 B2,.blk b6 62 B1,.blk b2 45 B0] bH:=dN
 refine ze Z Z Z (zO Z Z (nC ao.out)) (fun _=>ZY Z Z) (oR Z (zd Z (nC ao.out) Z) (oA Z Z (eN (ifc d9 ?_ ?_))))
 intro bn ef
 refine zj (nC bn.out) (ZS (zk (zI (zJ (sR gEb Z (oL Z (bq.ldBA (j:=2) Z Z Z zm zf (vs:=B0) Z Z) (oM Z Z ?_)))))))
 have aT:=bN.le aQ
 have aU:=bO.le aQ
 have aV:=bP.le aQ
 have aW:=bQ.le aQ
 have dl:=dQ.le aO
 have dm:=dl.le aP
 have aX:=dm.le aQ
 refine bnK ef fun fh dn eg=>zG 0 Z Z Z Z (zH Z Z Tryz.call60 (zB Z (zB Z zN)) Z) bq (fun hs=>wEC O ap ax aq ay au az av aE p3 aJ aK bH bh hs aT aU aV aW aX dn) (.inr Z) ?_
 rintro aL eQ fc bi af dP ⟨rfl,rfl⟩
 have bV:sW w U aL [.blk ae 62 B2,.blk b6 62 B1,.blk b2 45 B0] bi:=dP
 refine oA Z Z (eN (sR fL2 Z (oM Z Z (oR Z (Zb Z Z Z) (eN (ifc eg ?_ ?_))))))
 intro bo eh
 refine zj (ZA (fun h=>h bo.out)) (kN ?_)
 have q:=bnd eh
 obtain ⟨⟨cb,cc,eB,cu⟩,ej,ca⟩:=q
 try dsimp only at ca
 let B3:List Value:=[jV cb,jV cc]
 refine yI (fun σ_ w_=>∃ (U_:PHeap) (aS:Nat),σ_ 6=.pointer (some ⟨ae,0,none⟩)/\σ_ 12=.pointer (some ⟨aS,0,none⟩)/\σ_ 13=jV eB/\σ_ 14=.bool cu/\PHeap.Le aL U_/\sW w U U_ [.blk ae 62 B2,.blk b6 62 B1,.blk b2 45 B0,.blk aS 115 B3] w_) ?_ ?_
 refine bnK ej fun bu bR dR=>?_
 have q:=bnd dR
 obtain ⟨⟨am,br,bt⟩,bp,a6⟩:=q
 try dsimp only at a6
 refine ZB zw [1,1,2,3,2,3,3,3,3,2,0,3,3] (.fl 0 (.fl 1 (.fl 3 (.fx 2 (.fx 4 (wHq (.fx 9 gDu .stop)) (.fx 9 (.fx 4 (wHq gDu) (.stop)) (.stop))) (.fx 9 (.fx 2 (.fx 4 (wHq gDu) (.stop)) (.stop)) (.stop)))))) (by kernel_rfl) ?_
 have aM:=bV.drew
 generalize hw_W127:({ bi with drawn:=bi.drawn + 1 }:World)=cd at aM ⊢
 refine oL Z (aM.ldBA (j:=2) Z Z Z zm zf (vs:=B0) Z Z) (oL Z (aM.ldBA (j:=1) Z Z Z Zz ZZ (vs:=B1) Z Z) (oM Z Z (zq ?_ ?_)))
 refine zG 0 Z Z Z Z (zH Z Z yn (zB Z zN) Z) aM (fun hs=>wDR p1 cd aL hs bR) (.inr Z) ?_
 rintro a9 eE eW bB aj dp ⟨rfl,rfl⟩
 have bT:sW w U a9 [.blk ae 62 B2,.blk b6 62 B1,.blk b2 45 B0] bB:=dp
 refine zq ?_ ?_
 have cA:=aT.le af
 have cB:=cA.le aj
 have cC:=aU.le af
 have cD:=cC.le aj
 have cG:=aV.le af
 have cH:=cG.le aj
 have cI:=aW.le af
 have cJ:=cI.le aj
 have cK:=aX.le af
 have cL:=cK.le aj
 refine zG 0 Z Z Z Z (zH Z Z Tryz.call61 (zB Z (zB Z (zB Z zN))) Z) bT (fun hs=>wCj O ap ax aq ay au az av aE bu p3 aJ aK bB a9 hs cB cD cH cJ cL bp) (.inr Z) ?_
 rintro ba eF eX cf en dq ⟨rfl,rfl⟩
 have dr:sW w U ba [.blk ae 62 B2,.blk b6 62 B1,.blk b2 45 B0] cf:=dq
 refine oM Z Z (oR Z (zZ Z Z (v:=.agg #[jV am.skier,jV am.mat]) Z) (oR Z (zZ Z Z (v:=jV br) Z) (oR Z (zZ Z Z (v:=.bool bt) Z) (zX (cs:=[jV 0,jV 0]) Z Z Z Z Z zb Z dr ?_))))
 intro eS bI dt
 let B4:List Value:=[jV am.skier,jV am.mat]
 refine za (j:=0) (vs:=B4) Z Z Z Z dt Z Z Z Z zE (zA Z) Z Z Z ?_
 intro cg du
 have dv:sW w U ba [.blk bI 115 B4,.blk ae 62 B2,.blk b6 62 B1,.blk b2 45 B0] cg:=du
 refine oA Z Z (oA Z Z (zc ?_))
 cases a6
 exact zI ⟨rfl,⟨ba,bI,rfl,rfl,rfl,rfl,(aj.trans en),(dv.pick [1,2,3,0] _ (by decide) rfl)⟩⟩
 refine zX (cs:=[jV 0,jV 0]) Z Z Z Z Z zb Z bT ?_
 intro ci bj dw
 have cM:=aT.le af
 have cN:=cM.le aj
 have cO:=aU.le af
 have cP:=cO.le aj
 have cQ:=aV.le af
 have cR:=cQ.le aj
 have cS:=aW.le af
 have cU:=cS.le aj
 have cV:=aX.le af
 have cW:=cV.le aj
 refine zG 0 Z Z Z Z (zH Z Z Tryz.call61 (zB Z (zB Z (zB Z zN))) Z) dw (fun hs=>wCj O ap ax aq ay au az av aE bu p3 aJ aK ci a9 hs cN cP cR cU cW bp) (.inr Z) ?_
 rintro bc eH eZ cj eo dx ⟨rfl,rfl⟩
 have dy:sW w U bc [.blk bj 115 [jV 0,jV 0],.blk ae 62 B2,.blk b6 62 B1,.blk b2 45 B0] cj:=dx
 refine oM Z Z (oR Z (zZ Z Z (v:=.agg #[jV am.skier,jV am.mat]) Z) (oR Z (zZ Z Z (v:=jV br) Z) (oR Z (zZ Z Z (v:=.bool bt) Z) ?_)))
 let B5:List Value:=[jV am.skier,jV am.mat]
 refine za (j:=0) (vs:=B5) Z Z Z Z dy Z Z Z Z zE (zA Z) Z Z Z ?_
 intro cm dz
 have dA:sW w U bc [.blk bj 115 B5,.blk ae 62 B2,.blk b6 62 B1,.blk b2 45 B0] cm:=dz
 refine oA Z Z (oA Z Z (zc ?_))
 cases a6
 exact zI ⟨rfl,⟨bc,bj,rfl,rfl,rfl,rfl,(aj.trans eo),(dA.pick [1,2,3,0] _ (by decide) rfl)⟩⟩
 let B6:List Value:=[jV 0,jV 0]
 refine zX (cs:=B6) Z Z Z Z Z zb Z aM ?_
 intro cn aR dB
 refine zG 0 Z Z Z Z (zH Z Z yn (zB Z zN) Z) dB (fun hs=>wDR p1 cn aL hs bR) (.inr Z) ?_
 rintro bz eI e6 bD aI dD ⟨rfl,rfl⟩
 have dE:sW w U bz [.blk aR 115 B6,.blk ae 62 B2,.blk b6 62 B1,.blk b2 45 B0] bD:=dD
 have cX:=aT.le af
 have cY:=cX.le aI
 have cZ:=aU.le af
 have c6:=cZ.le aI
 have da:=aV.le af
 have db:=da.le aI
 have dd:=aW.le af
 have de:=dd.le aI
 have df:=aX.le af
 have dg:=df.le aI
 refine zG 0 Z Z Z Z (zH Z Z Tryz.call61 (zB Z (zB Z (zB Z zN))) Z) dE (fun hs=>wCj O ap ax aq ay au az av aE bu p3 aJ aK bD bz hs cY c6 db de dg bp) (.inr Z) ?_
 rintro be eJ e7 co ez dF ⟨rfl,rfl⟩
 have dG:sW w U be [.blk aR 115 B6,.blk ae 62 B2,.blk b6 62 B1,.blk b2 45 B0] co:=dF
 refine oM Z Z (oR Z (zZ Z Z (v:=.agg #[jV am.skier,jV am.mat]) Z) (oR Z (zZ Z Z (v:=jV br) Z) (oR Z (zZ Z Z (v:=.bool bt) Z) ?_)))
 let B7:List Value:=[jV am.skier,jV am.mat]
 refine za (j:=0) (vs:=B7) Z Z Z Z dG Z Z Z Z zE (zA Z) Z Z Z ?_
 intro cp dH
 have dI:sW w U be [.blk aR 115 B7,.blk ae 62 B2,.blk b6 62 B1,.blk b2 45 B0] cp:=dH
 refine oA Z Z (oA Z Z (zc ?_))
 cases a6
 exact zI ⟨rfl,⟨be,aR,rfl,rfl,rfl,rfl,(aI.trans ez),(dI.pick [1,2,3,0] _ (by decide) rfl)⟩⟩
 rintro fj bF ⟨bA,aS,cw,cx,cy,cz,eU,dJ⟩
 refine zJ (zJ (ZB zw [3,3,3,1,1,2,3,3] (wDk (.fx 5 (.fl 6 (.fl 7 .nil)) .stop)) (by kernel_rfl) ?_))
 have aN:=dJ.drew
 generalize hw_W253:({ bF with drawn:=bF.drawn + 1 }:World)=cq at aN ⊢
 refine oM Z cz (oR Z (ZY Z Z) (oM Z Z (ifc ca ?_ ?_)))
 intro an dU
 refine ZD Z Z Z (zO Z Z (nC an.out)) (aN.ldBA (j:=3) Z Z cx zh zE (vs:=B3) Z Z) Z (ZD Z Z Z (zO Z Z (nC an.out)) (aN.ldBA (j:=0) Z Z cw Zz ZZ (vs:=B2) Z Z) Z (bnK dU fun eA dh dV=>zG 0 Z Z Z (zO Z Z (nC an.out)) (zH Z Z yn (zB Z zN) Z) aN (fun hs=>wDR p2 cq bA hs dh) (.inr Z) ?_))
 rintro bf eL e8 cr eV dK ⟨rfl,rfl⟩
 have bU:sW w U bf [.blk ae 62 B2,.blk b6 62 B1,.blk b2 45 B0,.blk aS 115 B3] cr:=dK
 refine ze Z Z Z (zO Z Z (nC an.out)) (fun _=>ZI (Runs.neS (enc:=wBf) (a:=(⟨cb,cc⟩:wAI)) (b:=eA) Z Z Z wKZ wKY) (congrArg hJ (decide_not).symm)) (oR Z (zd Z (nC an.out) Z) (eN (ifc dV ?_ ?_)))
 intro bm dW
 refine zj (ZA (fun h=>h bm.out)) (kN (sR fL3 Z (oM Z cy (oA Z Z (oA Z Z (eN (zR ?_)))))))
 cases dW
 exact ⟨rfl,_,(wDw rfl rfl),bf,_,(bU.pick [] _ (by decide) rfl),rfl,rfl⟩
 intro bm dX
 refine cT Z bm (sR fL2 Z (oA Z Z (oA Z Z (eN (zR (zW ?_))))))
 cases dX
 exact ⟨rfl,_,(wDw rfl rfl),bf,_,(bU.pick [] _ (by decide) rfl),rfl,rfl⟩
 intro an dY
 refine ZT Z Z Z (zS Z Z (nF (an.out)) Z) (ZT Z Z Z (zS Z Z (nF (an.out)) Z) (zz Z Z Z (zS Z Z (nF (an.out)) Z) (ZT Z Z Z (zS Z Z (nF (an.out)) Z) (oR Z (zQ Z (nF (an.out)) Z) (eN (ZK Z (sR fL2 Z (oA Z Z (oA Z Z (eN (zR (zW ?_))))))))))))
 cases dY
 exact ⟨rfl,_,(wDw rfl rfl),bA,_,(aN.pick [] _ (by decide) rfl),rfl,rfl⟩
 intro bo dZ
 refine cT Z bo (sR fL3 Z (oM Z Z (oA Z Z (oA Z Z (eN (zR (zW ?_)))))))
 cases dZ
 exact ⟨rfl,_,(wDw rfl rfl),aL,_,(bV.pick [] _ (by decide) rfl),rfl,rfl⟩
 intro bn d4
 refine ZK (nF (bn.out)) (sR fL2 Z (oA Z Z (oA Z Z (eN (zR (zn (zW ?_)))))))
 cases d4
 exact ⟨rfl,_,(wDw rfl rfl),bh,_,(bq.pick [] _ (by decide) rfl),rfl,rfl⟩
 intro ao d5
 refine ZT Z Z Z (zS Z Z (nF (ao.out)) Z) (ZT Z Z Z (zS Z Z (nF (ao.out)) Z) (zz Z Z Z (zS Z Z (nF (ao.out)) Z) (ZT Z Z Z (zS Z Z (nF (ao.out)) Z) (oR Z (zQ Z (nF (ao.out)) Z) (oA Z Z (eN (ZK Z (sR fL2 Z (oA Z Z (oA Z Z (eN (zR (zn (zW ?_))))))))))))))
 cases d5
 exact ⟨rfl,_,(wDw rfl rfl),bg,_,(aZ.pick [] _ (by decide) rfl),rfl,rfl⟩
 intro bk d6
 refine cT Z bk (sR fL3 Z (oM Z Z (oA Z Z (oA Z Z (eN (zR (zn (zW ?_))))))))
 cases d6
 exact ⟨rfl,_,(wDw rfl rfl),bb,_,(aY.pick [] _ (by decide) rfl),rfl,rfl⟩
theorem wGL (O:wAJ) (p1:Int) (ae:Nat) (p2:Int) (af:Nat) (w:World) (U:PHeap) (hS:St0 w U []) (ag:Cl U ae 0 [jV p1]) (ah:Cl U af 0 [jV p2]) {r:Bool} (hm:wCW O p1 p2=some r):Gv Tryz.prog 63 [.agg #[jV O.Skier,jV O.Mat,jV O.Clock,jV O.Time],.pointer (some ⟨ae,0,none⟩),.pointer (some ⟨af,0,none⟩)] w (wBl w [] U (fun U_ L_ v=>v=.bool r/\L_=[])):=by
 unfold wCW at hm
 refine Gv.of Tryz.func63 rfl Tryz.ntmps63 Tryz.results63 rfl (sR gDi rfl (zu (cs:=[jV O.Skier,jV O.Mat,jV O.Clock,jV O.Time]) rfl rfl rfl rfl rfl rfl (by rfl) hS ?_))
 intro W1 b2 ac
 refine oA Z Z (eN (sR fL10 Z (oR Z (zM Z Z Zi Z zC) (oL Z (ac.ldB (j:=0) Z Z Z zF (v:=jV O.Skier) Z) (oR Z (zM Z Z Zi Z zC) (oL Z (ac.ldB (j:=0) Z Z Z zF (v:=jV O.Mat) Z) (oR Z (zl (pv:=[(0,jV O.Skier),(1,jV O.Mat)]) (z:=[jV 0,jV 0]) (cs:=[jV O.Skier,jV O.Mat]) Z (wAE Z (wAE Z wAL)) yB wFF Z Z) (oL Z (ac.ldC (f:=0) ag (v:=jV p1) Z Z zF Z) (oL Z (ac.ldC (f:=0) ah (v:=jV p2) Z Z zF Z) (oR Z (zl (pv:=[(0,jV p1),(1,jV p2)]) (z:=[jV 0,jV 0]) (cs:=[jV p1,jV p2]) Z (wAE Z (wAE Z wAL)) yB wFF Z Z) (oR Z (Runs.eqS (enc:=wAV) (a:=(⟨O.Skier,O.Mat⟩:wAM)) (b:=(⟨p1,p2⟩:wAM)) Z Z Z wNe wNd) (oA Z Z (eN (zR ?_))))))))))))))
 first | (obtain rfl:=nB hm) | cases hm
 exact ⟨rfl,_,(ZG rfl),U,_,(ac.pick [] _ (by decide) rfl),rfl,rfl⟩
theorem wCP (O:List wAJ) (an:Option Addr) (ao:Nat) (p1:(wAJ->Option Bool)) (ap:Value) (w:World) (U:PHeap) (hS:St0 w U []) (aV:Sl U 4 an ao O.length (hH wAB O)) (aW:FnOK Tryz.prog U ap wJt wJu p1) {r:Int} (hm:wAn O p1=some r):Gv Tryz.prog 104 [.slice an O.length ao,ap] w (wBl w [] U (fun U_ L_ v=>v=jV r/\L_=[])):=by
 unfold wAn at hm
 refine Gv.of Tryz.func104 Z Tryz.ntmps104 Tryz.results104 Z (sR fL1 Z (oA Z Z (eN (zJ (sR fL3 Z (oM Z Z (oR Z (zx Z Z ZR) (oM Z Z (eN (zY ?_))))))))))
 have q:=wBs hm
 obtain ⟨r3,ag⟩:=q
 have q:=wBr ag
 obtain ⟨aj,aZ⟩:=q
 replace aj:=zK aj
 refine yQ (fun k2 _ σ_ w_=>∃ (U_:PHeap),σ_ 8=jV (↑k2:Int)/\σ_ 0=.slice an O.length ao/\σ_ 1=ap/\σ_ 7=jV (↑O.length:Int)/\PHeap.Le U U_/\sW w U U_ [] w_) aZ ?_ ?_ ?_
 exact ⟨U,Z,Z,Z,Z,(zL _),hS⟩
 rintro k2 ⟨⟩ bt bv W8 ah ⟨bg,af,au,av,ax,am,az⟩ aG aX
 try dsimp only at aG
 have aq:Hid ((↑k2:Int) < (↑O.length:Int)):=zK (wAx ah)
 replace ah:=zK ah
 have a6:Hid (w64 ((↑k2:Int) + 1)=(↑(k2 + 1):Int)):=zK (by have h1:=aj.out;have h2:=aq.out;rw [wAW] <;> omega)
 refine sR fL1 Z (oR Z (zT Z af ax) (eN (zJ (cT Z aq (kN (zJ (zY (sR fL2 Z (oM Z af (oA Z Z (eN (sR (wDk (.fx 5 .nil .stop)) Z (oM Z av (oM Z au (oM Z Z (bnK aG fun ab ay a7=>?_))))))))))))))))
 have aO:=aV.le am
 have q:=aO.el (fun _=>rfl) (wAc ay)
 obtain ⟨bj,bo,aR,aS⟩:=q
 refine oR Z (Zf Z Z aR Z ZR Zj (wCG ay)) (oL Z (az.ldCA (f:=0) aS Z Z yp Zj (us:=[jV ab.Skier,jV ab.Mat,jV ab.Clock,jV ab.Time]) Z Z) (bnK a7 fun br aP a8=>?_))
 have aQ:=aW.le am
 refine yf (a:=ab) Z Z Z Z Z Z (zB Z zN) az aQ Z aP ?_
 rintro ac bf bq aJ bc aT ⟨rfl,rfl⟩
 have aE:sW w U ac [] aJ:=aT
 refine eN (ifc a8 ?_ ?_)
 intro ae a9
 refine ZK (congrArg hJ ae.out) (sR fL2 Z (oM Z Z (oA Z Z (eN (zR (zn (zW ?_)))))))
 have q:=wAY a9
 obtain ⟨be,ba,aL⟩:=q
 have q:=wBo hm ag (aX be aL)
 obtain rfl:=q
 refine zW (zn (zW ?_))
 cases ba
 exact ⟨Z,_,(ZG Z),ac,_,aE,Z,Z⟩
 intro ae bb
 refine zj (congrArg hJ (nA.2 ae.out)) (ZS (zk (zI (rR fL2 Z (oR Z (ZI (zV Z af Z) (congrArg (jV) a6.out)) (oM Z Z (zc ?_)))))))
 have q:=nB bb
 obtain rfl:=q
 exact zI ⟨Z,_,Z,⟨ac,Z,au,av,ax,(am.trans bc),aE⟩⟩
 rintro ⟨⟩ bu bh ⟨aI,aN,bk,bm,aM,bn,aU⟩ aY
 have aF:=wCk hm ag aY
 try dsimp only at aF
 have aK:Hid (¬ ((↑(((↑O.length:Int):Int) - 0).toNat:Int) < (↑O.length:Int))):=zK (wAd)
 refine sR fL1 Z (oR Z (zT Z aN aM) (eN (zJ (cF Z aK (ZQ (zg (zg (ZJ (zI (sR fL1 Z (oA Z Z (eN (zR ?_)))))))))))))
 cases aF
 exact ⟨Z,_,(ZG Z),aI,_,aU,Z,Z⟩
end Go.Proofs.YtkghaiefcjgfkaaGreat
namespace Go.Proofs.YtkghaiefcjgfkaaGreat
open Go.KL
set_option maxHeartbeats 4000000
theorem wCE (O:List wAJ) (ab:Option Addr) (ac:Nat) (p1:(wAJ->Option Bool)) (ae:Value) (w:World) (U:PHeap) (hS:St0 w U []) (ao:Sl U 4 ab ac O.length (hH wAB O)) (ap:FnOK Tryz.prog U ae wJt wJu p1) {r:Bool} (hm:wAl O p1=some r):Gv Tryz.prog 62 [.slice ab O.length ac,ae] w (wBl w [] U (fun U_ L_ v=>v=.bool r/\L_=[])):=by
 unfold wAl at hm
 refine Gv.of Tryz.func62 Z Tryz.ntmps62 Tryz.results62 Z (sR fL1 Z (oA Z Z (eN (sR gEh Z (oM Z Z (oM Z Z (bnK hm fun x1 h2 ag=>zG 0 Z Z Z Z (zH Z Z Tryz.call104 (zB Z (zB Z zN)) Z) hS (fun hs=>wCP O ab ac p1 ae w U hs ao ap h2) (.inr Z) ?_)))))))
 rintro U4 L5 v6 W7 au an ⟨rfl,rfl⟩
 have am:sW w U U4 [] W7:=an
 refine oR Z (Runs.geq Z Z Z) (oA Z Z (eN (zR ?_)))
 first | (obtain rfl:=nB ag) | cases ag
 exact ⟨Z,_,(ZG Z),U4,_,am,Z,Z⟩
theorem wHH (O:wAD) (aK:Option Addr) (aM:Nat) (aL:Option Addr) (aN:Nat) (aW:Option Addr) (aX:Nat) (ap:Option Addr) (aq:Nat) (w:World) (U:PHeap) (hS:St0 w U []) (db:Sl U 1 aK aM O.Starts.length (hH KL.encI O.Starts)) (dd:Sl U 2 aL aN O.Splits.length (hH wAA O.Splits)) (de:Sl U 3 aW aX O.Clocks.length (hH wAG O.Clocks)) (bF:Sl U 4 ap aq O.Readings.length (hH wAB O.Readings)) {r:(List wAM) × Int} (hm:wEW O=some r):Gv Tryz.prog 37 [.agg #[.slice aK O.Starts.length aM,.slice aL O.Splits.length aN,.slice aW O.Clocks.length aX,.slice ap O.Readings.length aq]] w (wBl w [] U (fun U_ L_ v=>∃ (A0:Option Addr) (c0:Nat),v=.tuple #[.slice A0 r.1.length c0,jV r.2]/\L_=[.row A0 c0 62 2 (hH wAV r.1)])):=by
 unfold wEW at hm
 refine Gv.of Tryz.func37 Z Tryz.ntmps37 Tryz.results37 Z (sR gDv Z ?_)
 let B0:List Value:=[.slice aK O.Starts.length aM,.slice aL O.Splits.length aN,.slice aW O.Clocks.length aX,.slice ap O.Readings.length aq]
 refine zu (cs:=B0) rfl rfl rfl rfl rfl rfl (by rfl) hS ?_
 intro W1 b2 bD
 refine oA Z Z (oA Z Z (eN (zJ (sR gDn Z (oL Z (bD.ldBA (j:=0) Z Z Z zm zf (vs:=B0) Z Z) (bnK hm fun x5 h6 du=>zG 0 Z Z Z Z (zH Z Z Tryz.call58 (zB Z zN) Z) bD (fun hs=>wEM O aK aM aL aN aW aX ap aq W1 U hs db dd de bF h6) (.inr Z) ?_))))))
 rintro U8 L9 dJ bQ dw cC ⟨rfl,rfl⟩
 have bh:sW w U U8 [.blk b2 45 B0] bQ:=cC
 refine oA Z Z (eN (sR fL2 Z (oM Z Z (oR Z (Zb Z Z Z) (eN (ifc du ?_ ?_))))))
 intro bb dn
 refine zj (ZA (fun h=>h bb.out)) (kN (sR fL1 Z (oA Z Z (eN (zJ (sR fL4 Z (oR Z (zM Z Z zP Z ZC) (oL Z (bh.ldB (j:=0) Z Z Z ZH (v:=.slice aK O.Starts.length aM) Z) (oR Z (zx Z Z zD) (oM Z Z (eN (zY (bnK dn fun dP dg dt=>?_)))))))))))))
 have q:=wBE dg
 obtain ⟨bj,dh⟩:=q
 replace bj:=zK bj
 refine CK.forN' (fun ae aU σ_ w_=>∃ (U_:PHeap) (au:Option Addr) (ax:Nat),σ_ 16=jV (↑ae:Int)/\σ_ 1=.pointer (some ⟨b2,0,none⟩)/\σ_ 5=.slice au aU.length ax/\σ_ 15=jV (↑O.Starts.length:Int)/\PHeap.Le U8 U_/\sW w U U_ [.blk b2 45 B0,.row au ax 62 2 (hH wAV aU)] w_) dh ?_ ?_ ?_
 have cR:=bh.nilrow 62 2
 exact ⟨U8,none,0,rfl,rfl,rfl,rfl,(zL _),(cR.pick [1,0] _ (by decide) rfl)⟩
 rintro ae aU dN dR dE bi ⟨bo,au,ax,bg,cg,ci,bv,bI,cS⟩ dv
 have bu:Hid ((↑ae:Int) < (↑O.Starts.length:Int)):=zK (wAx bi)
 replace bi:=zK bi
 have di:Hid (w64 ((↑ae:Int) + 1)=(↑(ae + 1):Int)):=zK (by have h1:=bj.out;have h2:=bu.out;rw [wAW] <;> omega)
 refine sR fL1 Z (oR Z (zT Z bg bv) (eN (zJ (cT Z bu (kN (zJ (zY (sR gDw Z (oM Z bg (zX (cs:=[jV 0]) Z Z Z Z Z zt Z cS ?_))))))))))
 intro dF ag cU
 let B1:List Value:=[jV (↑ae:Int)]
 refine za (j:=0) (vs:=B1) Z Z Z Z cU Z Z Z Z zC (zA Z) Z Z Z ?_
 intro bY cV
 let B2:Res:=.row au ax 62 2 (hH wAV aU)
 have cW:sW w U bo [.blk ag 3 B1,.blk b2 45 B0,B2] bY:=cV
 refine eN (sR gDh Z (zX (cs:=[jV 0]) Z Z Z Z Z zt Z cW ?_))
 intro dG a9 cX
 refine za (j:=0) (vs:=[jV 1]) Z Z Z Z cX Z Z Z Z zC (zA Z) Z Z Z ?_
 intro bp cY
 have cZ:sW w U bo [.blk a9 3 [jV 1],.blk ag 3 B1,.blk b2 45 B0,B2] bp:=cY
 refine eN (zY ?_)
 have q:=cZ.freeze (k:=1) rfl
 obtain ⟨aR,bJ,aE,c6⟩:=q
 replace aE:=Cl.of aE
 have da:sW w U aR [.blk a9 3 [jV 1],.blk b2 45 B0,B2] bp:=c6
 replace aE:Cl aR ag 0 B1:=aE
 refine yl (fun (aH,aa) σ_ w_=>∃ (U_:PHeap) (an:Option Addr) (ao:Nat) (ah:Nat),σ_ 1=.pointer (some ⟨b2,0,none⟩)/\σ_ 5=.slice an aH.length ao/\σ_ 6=.pointer (some ⟨ag,0,none⟩)/\σ_ 7=.pointer (some ⟨ah,0,none⟩)/\σ_ 15=jV (↑O.Starts.length:Int)/\σ_ 16=jV (↑ae:Int)/\PHeap.Le aR U_/\sW w U U_ [.blk b2 45 B0,.row an ao 62 2 (hH wAV aH),.blk ah 3 [jV aa]] w_) dv ?_ ?_
 exact ⟨aR,au,ax,a9,cg,ci,rfl,rfl,bv,bg,(zL _),(da.pick [1,2,0] _ (by decide) rfl)⟩
 rintro ⟨aH,aa⟩ dO dS bq ⟨bN,an,ao,ah,ay,bc,aT,az,be,bf,aI,aF⟩ bk df
 try dsimp only at bk
 refine zJ (sR fL5 Z (oL Z (aF.ldB (j:=2) Z Z az zF (v:=jV aa) Z) (oR Z (zM Z ay zP Z Zd) (oL Z (aF.ldB (j:=0) Z Z Z yT (v:=.slice aL O.Splits.length aN) Z) (oR Z (zx Z Z zy) (oR Z (Runs.leq Z Z Z) (eN ?_)))))))
 by_cases aj:aa <= (↑O.Splits.length:Int)
 have bG:=bk;rw [if_pos aj] at bG;replace aj:=zK aj
 refine cT Z aj (kN (zJ (zY (sR (wDp gDl) Z (oR Z (zM Z ay zP Z Zk) (oL Z (aF.ldB (j:=0) Z Z Z yF (v:=.slice ap O.Readings.length aq) Z) ?_))))))
 have q:=aF.freeze (k:=2) rfl
 obtain ⟨aQ,aV,am,cA⟩:=q
 replace am:=Cl.of am
 let B3:Res:=.row an ao 62 2 (hH wAV aH)
 have cB:sW w U aQ [.blk b2 45 B0,B3] bq:=cA
 replace am:Cl aQ ah 0 [jV aa]:=am
 refine oR Z (Runs.mkf Z zN (zB aT (zB az zN))) ?_
 have cm:=bF.le dw
 have cn:=cm.le bI
 have co:=cn.le bJ
 have cp:=co.le aI
 have cq:=cp.le aV
 have cr:=aE.le aI
 have bw:=cr.le aV
 have cz:FnOK Tryz.prog aQ (.func (.func 63) #[] #[.pointer (some ⟨ag,0,none⟩),.pointer (some ⟨ah,0,none⟩)]) wJt wJu (fun x=>wCW x (↑ae:Int) aa):=⟨63,[],[.pointer (some ⟨ag,0,none⟩),.pointer (some ⟨ah,0,none⟩)],rfl,Tryz.call63,fun U1 w1 x y vs le hs ha hm=>by obtain rfl:=ha;exact wGL x (↑ae:Int) ag aa ah w1 U1 hs (bw.le le) (am.le le) hm⟩
 refine bnK bG fun dL ct dk=>zG 0 Z Z Z Z (zH Z Z Tryz.call62 (zB Z (zB Z zN)) Z) cB (fun hs=>wCE O.Readings ap aq (fun x=>wCW x (↑ae:Int) aa) (.func (.func 63) #[] #[.pointer (some ⟨ag,0,none⟩),.pointer (some ⟨ah,0,none⟩)]) bq aQ hs cq cz ct) (.inr Z) ?_
 rintro af dz dK bR aJ cD ⟨rfl,rfl⟩
 have aG:sW w U af [.blk b2 45 B0,B3] bR:=cD
 refine oR Z (ZY Z Z) (eN (ifc dk ?_ ?_))
 intro ba dl
 refine zj (nC ba.out) (ZS (zk (zI (zJ (sR fL1 Z ?_)))))
 have cu:=am.le aJ
 refine oL Z (aG.ldC (f:=0) cu (v:=jV aa) Z az zF Z) (eN (rR gDh Z (zX (cs:=[jV 0]) Z Z Z Z Z zt Z aG ?_)))
 intro dB a7 cE
 refine za (j:=0) (vs:=[jV aa]) Z Z Z Z cE Z Z Z Z zC (zA Z) Z Z Z ?_
 intro bS cG
 have bz:sW w U af [.blk a7 3 [jV aa],.blk b2 45 B0,B3] bS:=cG
 refine eN (rR gDx Z (oL Z (bz.ldB (j:=0) Z Z Z zF (v:=jV aa) Z) (oR Z (zV Z Z Z) (za (j:=0) (vs:=[jV (w64 (aa + 1))]) Z Z Z Z bz Z Z Z Z zC (zA Z) Z Z Z ?_))))
 intro bT cH
 have cI:sW w U af [.blk a7 3 [jV (w64 (aa + 1))],.blk b2 45 B0,B3] bT:=cH
 refine zc ?_
 have q:=nB dl
 obtain rfl:=q
 exact zI ⟨rfl,_,rfl,⟨af,an,ao,a7,ay,bc,aT,rfl,be,bf,((aI.trans aV).trans aJ),(cI.pick [1,2,0] _ (by decide) rfl)⟩⟩
 intro ba dm
 refine ZK (nF (ba.out)) (rR (wDu gDq) Z (oM Z bc ?_))
 have cw:=bw.le aJ
 refine oL Z (aG.ldC (f:=0) cw (v:=jV (↑ae:Int)) Z aT zF Z) ?_
 have bx:=am.le aJ
 refine oL Z (aG.ldC (f:=0) bx (v:=jV aa) Z az zF Z) ?_
 let B4:List Value:=[jV (↑ae:Int),jV aa]
 refine oR Z (zl (pv:=[(0,jV (↑ae:Int)),(1,jV aa)]) (z:=[jV 0,jV 0]) (cs:=B4) Z (wAE Z (wAE Z wAL)) yB wFF Z Z) (zr (pv:=[(0,.agg B4.toArray)]) (zs:=[jV 0,jV 0]) (cs:=B4) Z Z Z Z Z (wAE Z wAL) Zt ZZ yB Z Z Z Z Z aG ?_)
 intro bU bZ cJ
 let B5:Res:=.row (some ⟨bZ,0,none⟩) 1 62 2 (hH wAV [(⟨(↑ae:Int),aa⟩:wAM)])
 have bA:sW w U af [B5,.blk b2 45 B0,B3] bU:=cJ
 refine bnK dm fun bK cx dp=>Zn (j:=2) (enc:=wAV) (xs:=aH) (ys:=[(⟨(↑ae:Int),aa⟩:wAM)]) (zs:=bK) rfl rfl rfl rfl rfl Tryz.underlying103 wNc rfl rfl rfl rfl rfl rfl bA rfl rfl rfl (bA.srcR (j:=0) rfl (by decide) (wAC (f:=wAV) (sz:=2) (fun _=>rfl) [(⟨(↑ae:Int),aa⟩:wAM)])) (fun _=>rfl) (fun _=>rfl) cx rfl ?_
 intro bn bt bV cK
 let B6:Res:=.row bn bt 62 2 (hH wAV bK)
 have bB:sW w U af [B5,.blk b2 45 B0,B6] bV:=cK
 refine oA Z Z (zc (zk (zI (zJ (sR fL1 Z (oL Z (bB.ldC (f:=0) bx (v:=jV aa) Z az zF Z) (eN (rR gDh Z (zX (cs:=[jV 0]) Z Z Z Z Z zt Z bB ?_)))))))))
 intro dC a8 cL
 refine za (j:=0) (vs:=[jV aa]) Z Z Z Z cL Z Z Z Z zC (zA Z) Z Z Z ?_
 intro bW cM
 have bC:sW w U af [.blk a8 3 [jV aa],B5,.blk b2 45 B0,B6] bW:=cM
 refine eN (rR gDx Z (oL Z (bC.ldB (j:=0) Z Z Z zF (v:=jV aa) Z) (oR Z (zV Z Z Z) (za (j:=0) (vs:=[jV (w64 (aa + 1))]) Z Z Z Z bC Z Z Z Z zC (zA Z) Z Z Z ?_))))
 intro bX cN
 have cO:sW w U af [.blk a8 3 [jV (w64 (aa + 1))],B5,.blk b2 45 B0,B6] bX:=cN
 refine zc ?_
 have q:=nB dp
 obtain rfl:=q
 exact zI ⟨rfl,_,rfl,⟨af,bn,bt,a8,ay,rfl,aT,rfl,be,bf,((aI.trans aV).trans aJ),(cO.pick [2,3,0] _ (by decide) rfl)⟩⟩
 have bH:=bk;rw [if_neg aj] at bH;replace aj:=zK aj
 refine cF Z aj (ZQ (zg ?_))
 have q:=wAY bH
 obtain ⟨dx,dq,cc⟩:=q
 have q:=df dx cc
 obtain rfl:=q
 refine zg (ZJ (zk (zI (rR fL2 Z (oR Z (ZI (zV Z bf Z) (congrArg (jV) di.out)) (oM Z Z (zc ?_)))))))
 cases dq
 exact zI ⟨rfl,⟨bN,an,ao,rfl,ay,bc,be,((bI.trans bJ).trans aI),(aF.pick [0,1] _ (by decide) rfl)⟩⟩
 rintro dQ dD ⟨bO,bL,ca,cj,dH,cd,cf,dI,cP⟩
 have cb:Hid (¬ ((↑(((↑O.Starts.length:Int):Int) - 0).toNat:Int) < (↑O.Starts.length:Int))):=zK (wAd)
 refine sR fL1 Z (oR Z (zT Z cj cf) (eN (zJ (cF Z cb (ZQ (zg (zg (ZJ (zI (sR fL3 Z (oM Z cd (oA Z Z (oA Z Z (eN (zR ?_)))))))))))))))
 cases dt
 exact ⟨rfl,_,(wDw rfl rfl),bO,_,(cP.pick [1] _ (by decide) rfl),bL,ca,rfl,rfl⟩
 intro bb dr
 refine cT Z bb (sR fL3 Z (oM Z Z (oA Z Z (oA Z Z (eN (zR (zW ?_)))))))
 have cQ:=bh.nilrow 62 2
 cases dr
 exact ⟨rfl,_,(wDw rfl rfl),U8,_,(cQ.pick [0] _ (by decide) rfl),none,0,rfl,rfl⟩
theorem wED (O:List wAF) (ap:Option Addr) (au:Nat) (p1:List wAF) (aq:Option Addr) (av:Nat) (w:World) (U:PHeap) (hS:St0 w U []) (a7:Sl U 2 ap au O.length (hH wAA O)) (a8:Sl U 2 aq av p1.length (hH wAA p1)) {r:Bool} (hm:wBu O p1=some r):Gv Tryz.prog 38 [.slice ap O.length au,.slice aq p1.length av] w (wBl w [] U (fun U_ L_ v=>v=.bool r/\L_=[])):=by
 unfold wBu at hm
 refine Gv.of Tryz.func38 Z Tryz.ntmps38 Tryz.results38 Z (sR fL1 Z (oA Z Z (eN (zJ (sR fL5 Z (oM Z Z (oR Z (zx Z Z zy) (oM Z Z (oR Z (zx Z Z zy) (oR Z (Zb Z Z Z) (eN ?_)))))))))))
 by_cases c1:(↑O.length:Int)=(↑p1.length:Int)
 have af:=hm;rw [if_pos c1] at af;replace c1:=zK c1
 refine zj (ZA (fun h=>h c1.out)) (kN (zJ (sR fL3 Z (oM Z Z (oR Z (zx Z Z zy) (oM Z Z (eN (zY ?_))))))))
 have q:=wBs af
 obtain ⟨r5,aj⟩:=q
 have q:=wBr aj
 obtain ⟨an,bb⟩:=q
 replace an:=zK an
 refine yQ (fun k4 _ σ_ w_=>∃ (U_:PHeap),σ_ 13=jV (↑k4:Int)/\σ_ 0=.slice ap O.length au/\σ_ 1=.slice aq p1.length av/\σ_ 12=jV (↑O.length:Int)/\PHeap.Le U U_/\sW w U U_ [] w_) bb ?_ ?_ ?_
 exact ⟨U,Z,Z,Z,Z,(zL _),hS⟩
 rintro k4 ⟨⟩ bw bz aE am ⟨az,ah,aG,aH,aI,ao,aZ⟩ aN a9
 try dsimp only at aN
 have aF:Hid ((↑k4:Int) < (↑O.length:Int)):=zK (wAx am)
 replace am:=zK am
 have bc:Hid (w64 ((↑k4:Int) + 1)=(↑(k4 + 1):Int)):=zK (by have h1:=an.out;have h2:=aF.out;rw [wAW] <;> omega)
 refine sR fL1 rfl (ze rfl rfl rfl rfl (fun _=>zT rfl ah aI) (eN (zJ (cT Z aF (kN (zJ (zY (sR fL2 rfl (zU rfl rfl rfl rfl rfl ah (Zy rfl rfl rfl rfl rfl rfl (eN (zJ (ZB zw [3,3,3,1,3,3,3,1,3] fL9 (by kernel_rfl) ?_)))))))))))))
 have ac:=aZ.drew
 generalize hw_W25:({ aE with drawn:=aE.drawn + 1 }:World)=bk at ac ⊢
 refine oM Z aG (oM Z Z (bnK aN fun ax aJ be=>?_))
 have aT:=a7.le ao
 have q:=aT.el (fun _=>rfl) (wAc aJ)
 obtain ⟨bn,bt,aV,aX⟩:=q
 refine oR Z (Zf Z Z aV Z zy zo (wCG aJ)) (oL Z (ac.ldCA (f:=0) aX Z Z Zr zo (us:=[jV ax.Lo,jV ax.Hi]) Z Z) (oM Z aH (oM Z Z (bnK be fun ay aK bf=>?_))))
 have aU:=a8.le ao
 have q:=aU.el (fun _=>rfl) (wAc aK)
 obtain ⟨bo,bu,aW,aY⟩:=q
 refine oR Z (Zf Z Z aW Z zy zo (wCG aK)) (oL Z (ac.ldCA (f:=0) aY Z Z Zr zo (us:=[jV ay.Lo,jV ay.Hi]) Z Z) (oR Z (ZI (Runs.neS (enc:=wAA) (a:=ax) (b:=ay) Z Z Z wKX wKW) (congrArg hJ (decide_not).symm)) (eN (ifc bf ?_ ?_))))
 intro ag bg
 refine zj (ZA (fun h=>h ag.out)) (ZS (zk (zI (rR fL2 Z (oR Z (ZI (zV Z ah Z) (congrArg (jV) bc.out)) (oM Z Z (zc ?_)))))))
 have q:=nB bg
 obtain rfl:=q
 exact zI ⟨Z,_,Z,⟨az,Z,aG,aH,aI,ao,ac⟩⟩
 intro ag bh
 refine cT Z ag (sR fL1 Z (oA Z Z (eN (zR (zn (zW ?_))))))
 have q:=wAY bh
 obtain ⟨bj,bi,aQ⟩:=q
 have q:=wBo af aj (a9 bj aQ)
 obtain rfl:=q
 refine zW (zn (zW ?_))
 have hE:=nB bi;first | subst r | cases hE
 exact ⟨Z,_,(ZG Z),az,_,ac,Z,Z⟩
 rintro ⟨⟩ bx bm ⟨aO,aS,bp,bq,aR,br,a6⟩ ba
 have aL:=wCk af aj ba
 try dsimp only at aL
 have aP:Hid (¬ ((↑(((↑O.length:Int):Int) - 0).toNat:Int) < (↑O.length:Int))):=zK (wAd)
 refine sR fL1 Z (oR Z (zT Z aS aR) (eN (zJ (cF Z aP (ZQ (zg (zg (ZJ (zI (sR fL1 Z (oA Z Z (eN (zR ?_)))))))))))))
 have hE:=nB aL;first | subst r | cases hE
 exact ⟨Z,_,(ZG Z),aO,_,a6,Z,Z⟩
 have aM:=hm;rw [if_neg c1] at aM;replace c1:=zK c1
 refine cT Z c1 (sR fL1 Z (oA Z Z (eN (zR (zW ?_)))))
 have hE:=nB aM;first | subst r | cases hE
 exact ⟨Z,_,(ZG Z),U,_,hS,Z,Z⟩
theorem wDs (O:List wAM) (ap:Option Addr) (au:Nat) (p1:List wAM) (aq:Option Addr) (av:Nat) (w:World) (U:PHeap) (hS:St0 w U []) (a7:Sl U 2 ap au O.length (hH wAV O)) (a8:Sl U 2 aq av p1.length (hH wAV p1)) {r:Bool} (hm:wBn O p1=some r):Gv Tryz.prog 39 [.slice ap O.length au,.slice aq p1.length av] w (wBl w [] U (fun U_ L_ v=>v=.bool r/\L_=[])):=by
 unfold wBn at hm
 refine Gv.of Tryz.func39 Z Tryz.ntmps39 Tryz.results39 Z (sR fL1 Z (oA Z Z (eN (zJ (sR fL5 Z (oM Z Z (oR Z (zx Z Z Zt) (oM Z Z (oR Z (zx Z Z Zt) (oR Z (Zb Z Z Z) (eN ?_)))))))))))
 by_cases c1:(↑O.length:Int)=(↑p1.length:Int)
 have af:=hm;rw [if_pos c1] at af;replace c1:=zK c1
 refine zj (ZA (fun h=>h c1.out)) (kN (zJ (sR fL3 Z (oM Z Z (oR Z (zx Z Z Zt) (oM Z Z (eN (zY ?_))))))))
 have q:=wBs af
 obtain ⟨r5,aj⟩:=q
 have q:=wBr aj
 obtain ⟨an,bb⟩:=q
 replace an:=zK an
 refine yQ (fun k4 _ σ_ w_=>∃ (U_:PHeap),σ_ 13=jV (↑k4:Int)/\σ_ 0=.slice ap O.length au/\σ_ 1=.slice aq p1.length av/\σ_ 12=jV (↑O.length:Int)/\PHeap.Le U U_/\sW w U U_ [] w_) bb ?_ ?_ ?_
 exact ⟨U,Z,Z,Z,Z,(zL _),hS⟩
 rintro k4 ⟨⟩ bw bz aE am ⟨az,ah,aG,aH,aI,ao,aZ⟩ aN a9
 try dsimp only at aN
 have aF:Hid ((↑k4:Int) < (↑O.length:Int)):=zK (wAx am)
 replace am:=zK am
 have bc:Hid (w64 ((↑k4:Int) + 1)=(↑(k4 + 1):Int)):=zK (by have h1:=an.out;have h2:=aF.out;rw [wAW] <;> omega)
 refine sR fL1 rfl (ze rfl rfl rfl rfl (fun _=>zT rfl ah aI) (eN (zJ (cT Z aF (kN (zJ (zY (sR fL2 rfl (zU rfl rfl rfl rfl rfl ah (Zy rfl rfl rfl rfl rfl rfl (eN (zJ (ZB zw [3,3,3,1,3,3,3,1,3] fL9 (by kernel_rfl) ?_)))))))))))))
 have ac:=aZ.drew
 generalize hw_W25:({ aE with drawn:=aE.drawn + 1 }:World)=bk at ac ⊢
 refine oM Z aG (oM Z Z (bnK aN fun ax aJ be=>?_))
 have aT:=a7.le ao
 have q:=aT.el (fun _=>rfl) (wAc aJ)
 obtain ⟨bn,bt,aV,aX⟩:=q
 refine oR Z (Zf Z Z aV Z Zt ZZ (wCG aJ)) (oL Z (ac.ldCA (f:=0) aX Z Z Zz ZZ (us:=[jV ax.Skier,jV ax.Mat]) Z Z) (oM Z aH (oM Z Z (bnK be fun ay aK bf=>?_))))
 have aU:=a8.le ao
 have q:=aU.el (fun _=>rfl) (wAc aK)
 obtain ⟨bo,bu,aW,aY⟩:=q
 refine oR Z (Zf Z Z aW Z Zt ZZ (wCG aK)) (oL Z (ac.ldCA (f:=0) aY Z Z Zz ZZ (us:=[jV ay.Skier,jV ay.Mat]) Z Z) (oR Z (ZI (Runs.neS (enc:=wAV) (a:=ax) (b:=ay) Z Z Z wNe wNd) (congrArg hJ (decide_not).symm)) (eN (ifc bf ?_ ?_))))
 intro ag bg
 refine zj (ZA (fun h=>h ag.out)) (ZS (zk (zI (rR fL2 Z (oR Z (ZI (zV Z ah Z) (congrArg (jV) bc.out)) (oM Z Z (zc ?_)))))))
 have q:=nB bg
 obtain rfl:=q
 exact zI ⟨Z,_,Z,⟨az,Z,aG,aH,aI,ao,ac⟩⟩
 intro ag bh
 refine cT Z ag (sR fL1 Z (oA Z Z (eN (zR (zn (zW ?_))))))
 have q:=wAY bh
 obtain ⟨bj,bi,aQ⟩:=q
 have q:=wBo af aj (a9 bj aQ)
 obtain rfl:=q
 refine zW (zn (zW ?_))
 have hE:=nB bi;first | subst r | cases hE
 exact ⟨Z,_,(ZG Z),az,_,ac,Z,Z⟩
 rintro ⟨⟩ bx bm ⟨aO,aS,bp,bq,aR,br,a6⟩ ba
 have aL:=wCk af aj ba
 try dsimp only at aL
 have aP:Hid (¬ ((↑(((↑O.length:Int):Int) - 0).toNat:Int) < (↑O.length:Int))):=zK (wAd)
 refine sR fL1 Z (oR Z (zT Z aS aR) (eN (zJ (cF Z aP (ZQ (zg (zg (ZJ (zI (sR fL1 Z (oA Z Z (eN (zR ?_)))))))))))))
 have hE:=nB aL;first | subst r | cases hE
 exact ⟨Z,_,(ZG Z),aO,_,a6,Z,Z⟩
 have aM:=hm;rw [if_neg c1] at aM;replace c1:=zK c1
 refine cT Z c1 (sR fL1 Z (oA Z Z (eN (zR (zW ?_)))))
 have hE:=nB aM;first | subst r | cases hE
 exact ⟨Z,_,(ZG Z),U,_,hS,Z,Z⟩
theorem wCD  (w:World) (U:PHeap) (hS:St0 w U [])  {r:wAD} (hm:wBP =some r):Gv Tryz.prog 41 [] w (wBl w [] U (fun U_ L_ v=>∃ (aG:Option Addr) (aM:Nat) (aH:Option Addr) (aN:Nat) (aI:Option Addr) (aO:Nat) (aJ:Option Addr) (aP:Nat),v=.agg #[.slice aG r.Starts.length aM,.slice aH r.Splits.length aN,.slice aI r.Clocks.length aO,.slice aJ r.Readings.length aP]/\L_=[.row aG aM 3 1 (hH KL.encI r.Starts),.row aH aN 37 2 (hH wAA r.Splits),.row aI aO 39 3 (hH wAG r.Clocks),.row aJ aP 52 4 (hH wAB r.Readings)])):=by
 unfold wBP at hm
 refine Gv.of Tryz.func41 Z Tryz.ntmps41 Tryz.results41 Z (sR (.fx 0 .nil .stop) Z ?_)
 let B0:List Value:=[.slice none 0 0,.slice none 0 0,.slice none 0 0,.slice none 0 0]
 refine zX (cs:=B0) Z Z Z Z Z yY Z hS ?_
 intro W1 b2 a7
 refine eN (sR gDo Z (bnK hm fun O h6 bf=>zG 0 Z Z Z Z (zH Z Z Tryz.call35 zN Z) a7 (fun hs=>wBV W1 U hs h6) (.inr Z) ?_))
 rintro U8 L9 bk aU bj aY ⟨an,ax,ao,ay,ap,az,ac,aj,rfl,rfl⟩
 let B1:Res:=.row ap az 39 3 (hH wAG O.Clocks)
 let B2:Res:=.row ao ay 37 2 (hH wAA O.Splits)
 let B3:Res:=.row an ax 3 1 (hH KL.encI O.Starts)
 let B4:Res:=.row ac aj 52 4 (hH wAB O.Readings)
 have aZ:sW w U U8 [B3,B2,B1,B4,.blk b2 45 B0] aU:=aY
 refine zX (cs:=B0) Z Z Z Z Z yY Z aZ ?_
 intro bh av a6
 let B5:List Value:=[.slice an O.Starts.length ax,.slice ao O.Splits.length ay,.slice ap O.Clocks.length az,.slice ac O.Readings.length aj]
 refine za (j:=0) (vs:=B5) Z Z Z Z a6 Z Z Z Z zf (zA Z) Z Z Z ?_
 intro aV a8
 have aF:sW w U U8 [.blk av 45 B5,B3,B2,B1,B4,.blk b2 45 B0] aV:=a8
 refine eN (sR (wDu (.fx 4 .nil .stop)) Z (oR Z (zM Z Z zP Z Zk) (oL Z (aF.ldB (j:=0) Z Z Z yF (v:=.slice ac O.Readings.length aj) Z) (bnK bf fun _ aE be=>?_))))
 obtain ⟨bi,aQ⟩:=aF.rowSome (j:=4) rfl (by rw [wAC (f:=wAB) (sz:=4) (fun _=>rfl) O.Readings];have hz:=wAR aE;omega)
 refine oR Z (Zf Z Z aQ Z ZR Zj (wAR aE)) (oR Z (zM Z Z Zi Z zC) ?_)
 have bc:=wAt (xs:=O.Readings) (wAR aE)
 refine yb (j:=4) (vs:=[jV 1700]) (cs':=hH wAB (nI O.Readings 1 (⟨(gd O.Readings 1).Skier,(gd O.Readings 1).Mat,(gd O.Readings 1).Clock,1700⟩:wAJ))) rfl rfl rfl rfl aF rfl aQ rfl rfl rfl zC (by rw [wAC (f:=wAB) (sz:=4) (fun _=>rfl)];try (have hz:=wAR aE;show _ + 1 <= _;first | omega | (simp only [Int.toNat_natCast];omega) | (simp only [nJ,nG,nH];omega))) rfl (wCK (sz:=4) (fo:=3) (fun _=>rfl) _ _ _ _ bc (by first | omega | rfl | (simp only [Int.toNat_natCast];omega) | (simp only [nJ,nG,nH];omega)) (zA rfl) rfl) rfl ?_
 intro aL a9
 let B6:Res:=.row ac aj 52 4 (hH wAB (nI O.Readings 1 (⟨(gd O.Readings 1).Skier,(gd O.Readings 1).Mat,(gd O.Readings 1).Clock,1700⟩:wAJ)))
 have ba:sW w U U8 [.blk av 45 B5,B3,B2,B1,B6,.blk b2 45 B0] aL:=a9
 let B7:List Value:=[.slice an O.Starts.length ax,.slice ao O.Splits.length ay,.slice ap O.Clocks.length az,.slice ac ((nI O.Readings 1 (⟨(gd O.Readings 1).Skier,(gd O.Readings 1).Mat,(gd O.Readings 1).Clock,1700⟩:wAJ)).length) aj]
 have aR:sW w U U8 [.blk av 45 B7,B3,B2,B1,B6,.blk b2 45 B0] aL:=by simpa only [B0,B1,B2,B3,B5,B6,B7,nE] using ba
 refine eN (sR gDm Z (oL Z (aR.ldBA (j:=0) Z Z Z zm zf (vs:=B7) Z Z) (za (j:=5) (vs:=B7) Z Z Z Z aR Z Z Z Z zf (zA Z) Z Z Z ?_)))
 intro aW bb
 have aS:sW w U U8 [.blk av 45 B7,B3,B2,B1,B6,.blk b2 45 B7] aW:=bb
 refine eN (zR ?_)
 cases be
 exact ⟨rfl,_,(wGq (v:=.agg B7.toArray) ⟨⟨_,rfl,(wBC zm zf (aS.blkAt (k:=5) rfl) (vs:=B7) rfl rfl)⟩,trivial⟩),U8,_,(aS.pick [1,2,3,4] _ (by decide) rfl),an,ax,ao,ay,ap,az,ac,aj,rfl,rfl⟩
theorem wGM (O:wAb) (aj:Nat) (ap:Option Addr) (av:Nat) (aq:Option Addr) (ax:Nat) (au:Option Addr) (ay:Nat) (aM:Option Addr) (aP:Nat) (aa:Nat) (ab:Array MapEntry) (ac:Nat) (aN:Option Addr) (aQ:Nat) (p1:List Int) (aO:Option Addr) (aR:Nat) (w:World) (U:PHeap) (hS:St0 w U [.blk aj 124 [.slice ap O.Race.Starts.length av,.slice aq O.Race.Splits.length ax,.slice au O.Race.Clocks.length ay,.slice aM O.Race.Readings.length aP,.map (some aa),.slice aN O.edges.length aQ],.obj aa (.map ab ac)]) (fA:Sl U 1 ap av O.Race.Starts.length (hH KL.encI O.Race.Starts)) (fB:Sl U 2 aq ax O.Race.Splits.length (hH wAA O.Race.Splits)) (fC:Sl U 3 au ay O.Race.Clocks.length (hH wAG O.Race.Clocks)) (fD:Sl U 4 aM aP O.Race.Readings.length (hH wAB O.Race.Readings)) (co:MpR ab wBH wBQ O.number) (fE:Sl U 7 aN aQ O.edges.length (hH wAN O.edges)) (bk:Sl U 1 aO aR p1.length (hH KL.encI p1)) {r:(List (List Int)) × (List Int)} (hm:wDm O p1=some r):Gv Tryz.prog 50 [.pointer (some ⟨aj,0,none⟩),.slice aO p1.length aR] w (wBl w [.blk aj 124 [.slice ap O.Race.Starts.length av,.slice aq O.Race.Splits.length ax,.slice au O.Race.Clocks.length ay,.slice aM O.Race.Readings.length aP,.map (some aa),.slice aN O.edges.length aQ],.obj aa (.map ab ac)] U (fun U_ L_ v=>∃ (A0:Option Addr) (c0:Nat) (bQ:List Value) (A1:Option Addr) (c1:Nat),v=.tuple #[.slice A0 r.1.length c0,.slice A1 r.2.length c1]/\L_=[.row A0 c0 41 1 bQ,.row A1 c1 3 1 (hH KL.encI r.2),.blk aj 124 [.slice ap O.Race.Starts.length av,.slice aq O.Race.Splits.length ax,.slice au O.Race.Clocks.length ay,.slice aM O.Race.Readings.length aP,.map (some aa),.slice aN O.edges.length aQ],.obj aa (.map ab ac)]/\RlL U_ wNA r.1 bQ)):=by
 unfold wDm at hm
 refine Gv.of Tryz.func50 Z Tryz.ntmps50 Tryz.results50 Z (sR fL2 Z (oA Z Z (oA Z Z (eN (sR fL4 Z (oM Z Z (bnK hm fun x3 h4 eU=>?_)))))))
 have q:=bk.el (fun _=>rfl) (wAc h4)
 obtain ⟨b6,fI,dP,dS⟩:=q
 refine oR Z (Zf Z Z dP Z zD zC (wCG h4)) (oL Z (hS.ldC (f:=0) dS (v:=jV x3) Z Z zF Z) (oA Z Z (eN (sR fL1 Z (oA Z Z (eN (zJ (sR fL7 Z (oM Z Z (oR Z (Zc Z Z) (oR Z (zM Z Z ZE Z zf) (oR Z (zM Z Z zP Z ZC) (oL Z (hS.ldB (j:=0) Z Z Z ZH (v:=.slice ap O.Race.Starts.length av) Z) (oR Z (zx Z Z zD) (oM Z Z (eN (zY (bnK eU fun fc eA eT=>?_))))))))))))))))))
 have q:=wBE eA
 obtain ⟨bq,eB⟩:=q
 replace bq:=zK bq
 let B0:Res:=.blk aj 124 [.slice ap O.Race.Starts.length av,.slice aq O.Race.Splits.length ax,.slice au O.Race.Clocks.length ay,.slice aM O.Race.Readings.length aP,.map (some aa),.slice aN O.edges.length aQ]
 refine CK.forN' (fun ag aK σ_ w_=>∃ (U_:PHeap) (aF:Option Addr) (aI:Nat) (aZ:List Value),σ_ 22=jV (↑ag:Int)/\σ_ 0=.pointer (some ⟨aj,0,none⟩)/\σ_ 1=.slice aO p1.length aR/\σ_ 6=jV x3/\σ_ 7=.slice aF aK.length aI/\σ_ 21=jV (↑O.Race.Starts.length:Int)/\PHeap.Le U U_/\SW w [B0,.obj aa (.map ab ac)] U U_ [B0,.obj aa (.map ab ac),.row aF aI 41 1 aZ] w_/\RlL U_ wNA aK aZ) eB ?_ ?_ ?_
 have ej:=hS.nilrow 41 1
 exact ⟨U,none,0,[],rfl,rfl,rfl,rfl,rfl,rfl,(zL _),(ej.pick [1,2,0] _ (by decide) rfl),RlL.nil⟩
 rintro ag aK fL fS fj bn ⟨bF,aF,aI,aZ,be,bY,dn,dp,dq,bZ,cw,cn,dM⟩ eZ
 have bP:Hid ((↑ag:Int) < (↑O.Race.Starts.length:Int)):=zK (wAx bn)
 replace bn:=zK bn
 have eI:Hid (w64 ((↑ag:Int) + 1)=(↑(ag + 1):Int)):=zK (by have h1:=bq.out;have h2:=bP.out;rw [wAW] <;> omega)
 refine sR fL1 Z (oR Z (zT Z be bZ) (eN (zJ (cT Z bP (kN (zJ (zY (sR fL2 Z (oM Z be (oA Z Z (eN (sR fL1 Z (oA Z Z (eN (zJ (sR fL8 Z (oM Z bY (oR Z (Zc Z Z) (oR Z (zM Z Z ZE Z zf) (oR Z (zM Z Z zP Z Zd) (oL Z (cn.ldB (j:=0) Z Z Z yT (v:=.slice aq O.Race.Splits.length ax) Z) (oR Z (zx Z Z zy) (oR Z (zV Z Z Z) (oM Z Z (eN (zY (bnK eZ fun an eE eV=>?_)))))))))))))))))))))))))))
 have q:=wBE eE
 obtain ⟨br,eF⟩:=q
 replace br:=zK br
 let B1:Res:=.row aF aI 41 1 aZ
 refine CK.forN' (fun ah aL σ_ w_=>∃ (U_:PHeap) (aT:Option Addr) (aY:Nat),σ_ 32=jV (↑ah:Int)/\σ_ 0=.pointer (some ⟨aj,0,none⟩)/\σ_ 1=.slice aO p1.length aR/\σ_ 6=jV x3/\σ_ 7=.slice aF aK.length aI/\σ_ 8=jV (↑ag:Int)/\σ_ 9=.slice aT aL.length aY/\σ_ 21=jV (↑O.Race.Starts.length:Int)/\σ_ 22=jV (↑ag:Int)/\σ_ 31=jV (w64 ((↑O.Race.Splits.length:Int) + 1))/\PHeap.Le bF U_/\SW w [B0,.obj aa (.map ab ac)] U U_ [B0,.obj aa (.map ab ac),B1,.row aT aY 3 1 (hH KL.encI aL)] w_) eF ?_ ?_ ?_
 have en:=cn.nilrow 3 1
 exact ⟨bF,none,0,rfl,bY,dn,dp,dq,rfl,rfl,bZ,be,rfl,(zL _),(en.pick [1,2,3,0] _ (by decide) rfl)⟩
 rintro ah aL fM fT fk bo ⟨a9,aT,aY,bf,ca,cb,cc,dr,cd,dt,du,dv,bS,cx,a6⟩ e6
 have bJ:Hid ((↑ah:Int) < (w64 ((↑O.Race.Splits.length:Int) + 1))):=zK (wAx bo)
 replace bo:=zK bo
 have eG:Hid (w64 ((↑ah:Int) + 1)=(↑(ah + 1):Int)):=zK (by have h1:=br.out;have h2:=bJ.out;rw [wAW] <;> omega)
 refine sR fL1 Z (oR Z (zT Z bf bS) (eN (zJ (cT Z bJ (kN (zJ (zY (sR fL2 Z (oM Z bf (oA Z Z (eN (rR (wLF (.fx 14 (.fx 15 (.fl 16 .nil) .stop) .stop)) Z (oM Z dt (oM Z cb (oM Z ca (oR Z (Zc Z Z) (oR Z (zM Z Z ZE Z Zv) (oL Z (a6.ldB (j:=0) Z Z Z yC (v:=.map (some aa)) Z) (oM Z cd (oM Z Z (oR Z (zl (pv:=[(0,jV (↑ag:Int)),(1,jV (↑ah:Int))]) (z:=[jV 0,jV 0]) (cs:=[jV (↑ag:Int),jV (↑ah:Int)]) Z (wAE Z (wAE Z wAL)) zb wBT Z Z) (oL Z (a6.lookup1 (j:=1) (mk:=wBH) (mv:=wBQ) (a:=(⟨(↑ag:Int),(↑ah:Int)⟩:wAI)) (z:=0) Z Z Z Z (wBe ZN) wCx zt co) (bnK e6 fun az bg eJ=>?_)))))))))))))))))))))))
 have dz:=bk.le cw
 have dA:=dz.le cx
 have q:=dA.el (fun _=>rfl) (wAc bg)
 obtain ⟨fm,fG,dN,dQ⟩:=q
 refine oR Z (ZM Z Z dN Z zD zC (wCt bg) (wCz bg)) (oL Z (a6.ldC (f:=0) dQ (v:=jV az) Z Z zF Z) (oM Z cc (oR Z (ZV Z Z Z) (zr (pv:=[(0,jV (w64 (az - x3)))]) (zs:=[jV 0]) (cs:=[jV (w64 (az - x3))]) Z Z Z Z Z (wAE Z wAL) zD zC zt Z Z Z Z Z a6 ?_))))
 intro cD cN dT
 let B2:Res:=.row (some ⟨cN,0,none⟩) 1 3 1 (hH KL.encI [w64 (az - x3)])
 have cg:SW w [B0,.obj aa (.map ab ac)] U a9 [B2,B0,.obj aa (.map ab ac),B1,.row aT aY 3 1 (hH KL.encI aL)] cD:=dT
 refine bnK eJ fun cy dB eL=>Zn (j:=4) (enc:=KL.encI) (xs:=aL) (ys:=[w64 (az - x3)]) (zs:=cy) rfl rfl rfl rfl rfl yW wGs rfl rfl rfl rfl rfl rfl cg rfl rfl rfl (cg.srcR (j:=0) rfl (by decide) (wAC (f:=KL.encI) (sz:=1) (fun _=>rfl) [w64 (az - x3)])) (fun _=>rfl) (fun _=>rfl) dB rfl ?_
 intro bv bK cE dU
 have dV:SW w [B0,.obj aa (.map ab ac)] U a9 [B2,B0,.obj aa (.map ab ac),B1,.row bv bK 3 1 (hH KL.encI cy)] cE:=dU
 refine oA Z Z (zc (zk (zI (rR fL2 Z (oR Z (ZI (zV Z bf Z) (congrArg (jV) eG.out)) (oM Z Z (zc ?_)))))))
 cases eL
 exact zI ⟨rfl,⟨a9,bv,bK,rfl,ca,cb,cc,dr,cd,rfl,du,dv,bS,cx,(dV.pick [1,2,3,4] _ (by decide) rfl)⟩⟩
 rintro fO cG ⟨ff,a7,ba,dw,cV,cW,cX,cY,fu,cZ,c6,da,db,cq,dW⟩
 have cQ:Hid (¬ ((↑((w64 ((↑O.Race.Splits.length:Int) + 1):Int) - 0).toNat:Int) < (w64 ((↑O.Race.Splits.length:Int) + 1)))):=zK (wAd)
 refine sR fL1 Z (oR Z (zT Z dw db) (eN (zJ (cF Z cQ (ZQ (zg (zg (ZJ (zI (rR gEj Z (oM Z cY (oM Z cZ ?_))))))))))))
 have q:=dW.freezeR (k:=3) (n:=an.length) rfl (wAC (f:=KL.encI) (sz:=1) (fun _=>rfl) an) (by decide)
 obtain ⟨aH,cr,eX,dY⟩:=q
 have dZ:SW w [B0,.obj aa (.map ab ac)] U aH [B0,.obj aa (.map ab ac),B1] cG:=dY
 let B3:List Value:=[.slice a7 an.length ba]
 refine zr (pv:=[(0,.slice a7 an.length ba)]) (zs:=[.slice none 0 0]) (cs:=B3) Z Z Z Z Z (wAE Z wAL) Tryz.runUnderlying56 ZC Tryz.zeroValue41 Z Z Z Z Z dZ ?_
 intro cH cO dX
 have cp:RlL aH wNA [an] B3:=(RlL.cons (R:=wNA) (x:=an) (vs:=B3) ⟨a7,ba,rfl,eX⟩ RlL.nil)
 let B4:Res:=.row (some ⟨cO,0,none⟩) 1 41 1 B3
 have ci:SW w [B0,.obj aa (.map ab ac)] U aH [B4,B0,.obj aa (.map ab ac),B1] cH:=dX
 refine bnK eV fun e9 dC eM=>?_
 have dD:=dM.le cq
 have dE:=dD.le cr
 refine OKS.appendR (R:=wNA) (j:=3) (xs:=aK) (ys:=[an]) (zs:=e9) rfl rfl rfl rfl rfl Tryz.underlying56 wNa rfl rfl rfl rfl rfl rfl rfl ci rfl rfl rfl dE cp (ci.srcR (j:=0) rfl (by decide) (RlL.len cp)) dC rfl ?_
 intro bw bL bR cI d4 eW
 have d5:SW w [B0,.obj aa (.map ab ac)] U aH [B4,B0,.obj aa (.map ab ac),.row bw bL 41 1 bR] cI:=d4
 refine oA Z Z (zc (zk (zI (rR fL2 Z (oR Z (ZI (zV Z da Z) (congrArg (jV) eI.out)) (oM Z Z (zc ?_)))))))
 cases eM
 exact zI ⟨rfl,⟨aH,bw,bL,bR,rfl,cV,cW,cX,rfl,c6,((cw.trans cq).trans cr),(d5.pick [1,2,3] _ (by decide) rfl),eW⟩⟩
 rintro fP fg ⟨bD,a8,bb,bM,dx,bT,dd,de,df,dg,e7,cj,dF⟩
 have cR:Hid (¬ ((↑(((↑O.Race.Starts.length:Int):Int) - 0).toNat:Int) < (↑O.Race.Starts.length:Int))):=zK (wAd)
 refine sR fL1 Z (oR Z (zT Z dx dg) (eN (zJ (cF Z cR (ZQ (zg (zg (ZJ (zI (sR fL1 Z (oA Z Z (eN (zJ (sR fL7 Z (oM Z bT (oR Z (Zc Z Z) (oR Z (zM Z Z ZE Z zf) (oR Z (zM Z Z zP Z yZ) (oL Z (cj.ldB (j:=0) Z Z Z yc (v:=.slice au O.Race.Clocks.length ay) Z) (oR Z (zx Z Z Zo) (oM Z Z (eN (zY (bnK eT fun fN eo eO=>?_))))))))))))))))))))))))
 have q:=wBE eo
 obtain ⟨bp,ez⟩:=q
 replace bp:=zK bp
 let B5:Res:=.row a8 bb 41 1 bM
 refine CK.forN' (fun ao aJ σ_ w_=>∃ (U_:PHeap) (aS:Option Addr) (aX:Nat),σ_ 63=jV (↑ao:Int)/\σ_ 0=.pointer (some ⟨aj,0,none⟩)/\σ_ 1=.slice aO p1.length aR/\σ_ 6=jV x3/\σ_ 7=.slice a8 fc.length bb/\σ_ 11=.slice aS aJ.length aX/\σ_ 62=jV (↑O.Race.Clocks.length:Int)/\PHeap.Le bD U_/\SW w [B0,.obj aa (.map ab ac)] U U_ [B0,.obj aa (.map ab ac),B5,.row aS aX 3 1 (hH KL.encI aJ)] w_) ez ?_ ?_ ?_
 have d6:=cj.nilrow 3 1
 exact ⟨bD,none,0,rfl,bT,dd,de,df,rfl,rfl,(zL _),(d6.pick [1,2,3,0] _ (by decide) rfl)⟩
 rintro ao aJ fK fQ bG bm ⟨cB,aS,aX,bc,bU,bV,bW,dh,di,bX,ct,d7⟩ eY
 have bN:Hid ((↑ao:Int) < (↑O.Race.Clocks.length:Int)):=zK (wAx bm)
 replace bm:=zK bm
 have eH:Hid (w64 ((↑ao:Int) + 1)=(↑(ao + 1):Int)):=zK (by have h1:=bp.out;have h2:=bN.out;rw [wAW] <;> omega)
 refine sR fL1 rfl (ze rfl rfl rfl rfl (fun _=>zT rfl bc bX) (eN (zJ (cT Z bN (kN (zJ (zY (sR fL2 rfl (zU rfl rfl rfl rfl rfl bc (Zy rfl rfl rfl rfl rfl rfl (eN (ZB zw [3,3,3,3,3,3,1,3,2,1,3,1,3,2,0,3] (wNy (.fx 8 (wOI (.fx 13 (.fx 14 (.fl 15 .nil) .stop) .stop)) .stop)) (by kernel_rfl) ?_))))))))))))
 have bi:=d7.drew
 generalize hw_W242:({ bG with drawn:=bG.drawn + 1 }:World)=cJ at bi ⊢
 refine oM Z di (oM Z bW (oM Z bV (oM Z bU (oR Z (Zc Z Z) (oR Z (zM Z Z ZE Z Zv) (oL Z (bi.ldB (j:=0) Z Z Z yC (v:=.map (some aa)) Z) (oM Z Z (bnK eY fun fb dG eQ=>zG 0 Z Z Z Z (zH Z Z Tryz.call73 (zB Z zN) Z) bi (fun hs=>wCf (↑ao:Int) cJ cB hs dG) (.inr Z) ?_))))))))
 rintro aW fd fJ cK cu d8 ⟨rfl,rfl⟩
 let B6:Res:=.row aS aX 3 1 (hH KL.encI aJ)
 have bj:SW w [B0,.obj aa (.map ab ac)] U aW [B0,.obj aa (.map ab ac),B5,B6] cK:=d8
 refine oL Z (bj.lookup1 (j:=1) (mk:=wBH) (mv:=wBQ) (a:=fb) (z:=0) Z Z Z Z (wBe ZN) wCx zt co) (bnK eQ fun aE bh eR=>?_)
 have dH:=bk.le e7
 have dI:=dH.le ct
 have dJ:=dI.le cu
 have q:=dJ.el (fun _=>rfl) (wAc bh)
 obtain ⟨fq,fH,dO,dR⟩:=q
 refine oR Z (ZM Z Z dO Z zD zC (wCt bh) (wCz bh)) (oL Z (bj.ldC (f:=0) dR (v:=jV aE) Z Z zF Z) (oR Z (ZV Z Z Z) (zr (pv:=[(0,jV (w64 (x3 - aE)))]) (zs:=[jV 0]) (cs:=[jV (w64 (x3 - aE))]) Z Z Z Z Z (wAE Z wAL) zD zC zt Z Z Z Z Z bj ?_)))
 intro cL cP d9
 let B7:Res:=.row (some ⟨cP,0,none⟩) 1 3 1 (hH KL.encI [w64 (x3 - aE)])
 have cm:SW w [B0,.obj aa (.map ab ac)] U aW [B7,B0,.obj aa (.map ab ac),B5,B6] cL:=d9
 refine bnK eR fun cz dK eS=>Zn (j:=4) (enc:=KL.encI) (xs:=aJ) (ys:=[w64 (x3 - aE)]) (zs:=cz) rfl rfl rfl rfl rfl yW wGs rfl rfl rfl rfl rfl rfl cm rfl rfl rfl (cm.srcR (j:=0) rfl (by decide) (wAC (f:=KL.encI) (sz:=1) (fun _=>rfl) [w64 (x3 - aE)])) (fun _=>rfl) (fun _=>rfl) dK rfl ?_
 intro bx bO cM ef
 have eg:SW w [B0,.obj aa (.map ab ac)] U aW [B7,B0,.obj aa (.map ab ac),B5,.row bx bO 3 1 (hH KL.encI cz)] cM:=ef
 refine oA Z Z (zc (zk (zI (rR fL2 Z (oR Z (ZI (zV Z bc Z) (congrArg (jV) eH.out)) (oM Z Z (zc ?_)))))))
 cases eS
 exact zI ⟨rfl,⟨aW,bx,bO,rfl,bU,bV,bW,dh,rfl,bX,(ct.trans cu),(eg.pick [1,2,3,4] _ (by decide) rfl)⟩⟩
 rintro fR fh ⟨cC,cA,cS,dy,fw,fy,fz,dk,dl,dm,e8,eh⟩
 have cU:Hid (¬ ((↑(((↑O.Race.Clocks.length:Int):Int) - 0).toNat:Int) < (↑O.Race.Clocks.length:Int))):=zK (wAd)
 refine sR fL1 Z (oR Z (zT Z dy dm) (eN (zJ (cF Z cU (ZQ (zg (zg (ZJ (zI (sR fL4 Z (oM Z dk (oM Z dl (oA Z Z (oA Z Z (eN (zR ?_))))))))))))))))
 have dL:=dF.le e8
 cases eO
 exact ⟨rfl,_,(wDw rfl rfl),cC,_,(eh.pick [2,3,0,1] _ (by decide) rfl),a8,bb,bM,cA,cS,rfl,rfl,dL⟩
end Go.Proofs.YtkghaiefcjgfkaaGreat
namespace Go.Proofs.YtkghaiefcjgfkaaGreat
open Go.KL
set_option maxHeartbeats 4000000
theorem wIH (O:wAD) (aJ:Option Addr) (aN:Nat) (aK:Option Addr) (aO:Nat) (aL:Option Addr) (aP:Nat) (aM:Option Addr) (aQ:Nat) (w:World) (U:PHeap) (hS:St0 w U []) (cC:Sl U 1 aJ aN O.Starts.length (hH KL.encI O.Starts)) (cD:Sl U 2 aK aO O.Splits.length (hH wAA O.Splits)) (cE:Sl U 3 aL aP O.Clocks.length (hH wAG O.Clocks)) (cG:Sl U 4 aM aQ O.Readings.length (hH wAB O.Readings)) {r:(List (List Int)) × (List Int) × Int} (hm:wEt O=some r):Gv Tryz.prog 40 [.agg #[.slice aJ O.Starts.length aN,.slice aK O.Splits.length aO,.slice aL O.Clocks.length aP,.slice aM O.Readings.length aQ]] w (wBl w [] U (fun U_ L_ v=>∃ (A0:Option Addr) (c0:Nat) (br:List Value) (A1:Option Addr) (c1:Nat),v=.tuple #[.slice A0 r.1.length c0,.slice A1 r.2.1.length c1,jV r.2.2]/\L_=[.row A0 c0 41 1 br,.row A1 c1 3 1 (hH KL.encI r.2.1)]/\RlL U_ wNA r.1 br)):=by
 unfold wEt at hm
 refine Gv.of Tryz.func40 Z Tryz.ntmps40 Tryz.results40 Z (sR (.fx 0 (fC1_3 (.nil)) .stop) Z ?_)
 let B0:List Value:=[.slice aJ O.Starts.length aN,.slice aK O.Splits.length aO,.slice aL O.Clocks.length aP,.slice aM O.Readings.length aQ]
 refine zu (cs:=B0) rfl rfl rfl rfl rfl rfl (by rfl) hS ?_
 intro W1 b2 bB
 refine oA Z Z (oA Z Z (oA Z Z (eN (sR (.fl 0 (.fx 1 (wHp (.nil)) .stop)) Z (oL Z (bB.ldBA (j:=0) Z Z Z zm zf (vs:=B0) Z Z) ?_)))))
 have q:=bnd hm
 obtain ⟨⟨x5,x6⟩,h7,aq⟩:=q
 try dsimp only at aq
 refine zG 0 Z Z Z Z (zH Z Z Tryz.call64 (zB Z zN) Z) bB (fun hs=>wEN O aJ aN aK aO aL aP aM aQ W1 U hs cC cD cE cG h7) (.inr Z) ?_
 rintro U9 cS c6 az cY bA bz
 rcases x5 with _ | ac
 try dsimp only at aq
 obtain ⟨rfl,rfl⟩:=bz
 have cp:sW w U U9 [.blk b2 45 B0] az:=bA
 refine oM Z Z (oR Z (zZ Z Z (v:=.pointer none) Z) (oR Z (zZ Z Z (v:=jV x6) Z) (oA Z Z (oA Z Z (eN (zJ (sR fL2 Z (oM Z Z (oR Z (Zb Z Z Z) (eN (ifc aq ?_ ?_)))))))))))
 intro bc cJ
 refine zj (ZA (fun h=>h bc.out)) (kN (sR (.fl 0 (.fx 1 (wLs gEe) .stop)) Z (oM Z Z ?_)))
 cases cJ
 intro bc cK
 refine cT Z bc (sR fL4 Z (oM Z Z (oA Z Z (oA Z Z (oA Z Z (eN (zR (zW ?_))))))))
 have cq:=cp.nilrow 41 1
 have cr:=cq.nilrow 3 1
 cases cK
 exact ⟨rfl,_,(res3 rfl rfl rfl),U9,_,(cr.pick [1,0] _ (by decide) rfl),none,0,[],none,0,rfl,rfl,RlL.nil⟩
 try dsimp only at aq
 obtain ⟨aF,aT,a8,aU,a9,aV,ba,aW,bb,ab,ag,af,ax,aH,rfl,rfl,bP,bQ,bR,bS,bt⟩:=bz
 let B1:Res:=.blk aF 124 [.slice aT ac.Race.Starts.length a8,.slice aU ac.Race.Splits.length a9,.slice aV ac.Race.Clocks.length ba,.slice aW ac.Race.Readings.length bb,.map (some ab),.slice ax ac.edges.length aH]
 have bC:sW w U U9 [B1,.obj ab (.map ag af),.row ax aH 151 7 (hH wAN ac.edges),.blk b2 45 B0] az:=bA
 refine oM Z Z (oR Z (zZ Z Z (v:=.pointer (some ⟨aF,0,none⟩)) Z) (oR Z (zZ Z Z (v:=jV x6) Z) (oA Z Z (oA Z Z (eN (zJ (sR fL2 Z (oM Z Z (oR Z (Zb Z Z Z) (eN (ifc aq ?_ ?_)))))))))))
 intro be cL
 refine zj (ZA (fun h=>h be.out)) (kN (sR (.fl 0 (.fx 1 (wLs gEe) .stop)) Z (oM Z Z ?_)))
 have q:=bC.freezeR (k:=2) (n:=ac.edges.length) rfl (wAC (f:=wAN) (sz:=7) (fun _=>rfl) ac.edges) (by decide)
 obtain ⟨bn,aI,bG,ct⟩:=q
 have cu:sW w U bn [B1,.obj ab (.map ag af),.blk b2 45 B0] az:=ct
 have bu:=bP.le aI
 have bv:=bQ.le aI
 have bw:=bR.le aI
 have bx:=bS.le aI
 have q:=bnd cL
 obtain ⟨⟨ae,cQ,cR⟩,bT,bF⟩:=q
 try dsimp only at bF
 refine zG 2 Z Z Z Z (zH Z Z Tryz.call49 (zB Z (zB Z (zB Z zN))) Z) cu (fun hs=>wBU ac aF aT a8 aU a9 aV ba aW bb ab ag af ax aH (-1) false az bn hs bu bv bw bx bt bG bT) (.inl Z) ?_
 rintro aY cV da bL au cw ⟨am,ap,aX,bf,rfl,rfl⟩
 let B2:Res:=.row aX bf 3 1 (hH KL.encI ae.by_)
 let B3:Res:=.row am ap 3 1 (hH KL.encI ae.far)
 have cx:sW w U aY [B3,B2,B1,.obj ab (.map ag af),.blk b2 45 B0] bL:=cw
 refine oM Z Z (oR Z (zZ Z Z (v:=.agg #[.slice am ae.far.length ap,.slice aX ae.by_.length bf]) Z) (oR Z (zZ Z Z (v:=jV cQ) Z) (oR Z (zZ Z Z (v:=.bool cR) Z) (zX (cs:=[.slice none 0 0,.slice none 0 0]) Z Z Z Z Z Zg Z cx ?_))))
 intro cW aG cy
 let B4:List Value:=[.slice am ae.far.length ap,.slice aX ae.by_.length bf]
 refine za (j:=0) (vs:=B4) Z Z Z Z cy Z Z Z Z yA (zA Z) Z Z Z ?_
 intro aE cz
 have bh:sW w U aY [.blk aG 118 B4,B3,B2,B1,.obj ab (.map ag af),.blk b2 45 B0] aE:=cz
 refine oA Z Z (oA Z Z (eN (zJ (sR fL2 Z (oM Z Z (oR Z (ZY Z Z) (eN (ifc bF ?_ ?_))))))))
 intro bg cM
 refine zj (nC bg.out) (kN (sR (wDp (.fx 3 (wOG (.nil)) .stop)) Z (oM Z Z (oR Z (zM Z Z ZW Z ZC) (oL Z (bh.ldB (j:=0) Z Z Z ZH (v:=.slice am ae.far.length ap) Z) ?_)))))
 have q:=bh.freezeR (k:=1) (n:=ae.far.length) rfl (wAC (f:=KL.encI) (sz:=1) (fun _=>rfl) ae.far) (by decide)
 obtain ⟨aZ,av,cN,cA⟩:=q
 have cB:sW w U aZ [.blk aG 118 B4,B2,B1,.obj ab (.map ag af),.blk b2 45 B0] aE:=cA
 have bV:=bu.le au
 have bW:=bV.le av
 have bX:=bv.le au
 have bY:=bX.le av
 have bZ:=bw.le au
 have ca:=bZ.le av
 have cb:=bx.le au
 have cc:=cb.le av
 have cd:=bG.le au
 have bM:=cd.le av
 have q:=bnd cM
 obtain ⟨⟨cO,bH⟩,bN,bD⟩:=q
 try dsimp only at bD
 have cf:sW w U aZ [B1,.obj ab (.map ag af),.blk aG 118 B4,B2,.blk b2 45 B0] aE:=cB.pick [2,3,0,1,4] _ (by decide) rfl
 refine zG 2 Z Z Z Z (zH Z Z Tryz.call50 (zB Z (zB Z zN)) Z) cf (fun hs=>wGM ac aF aT a8 aU a9 aV ba aW bb ab ag af ax aH ae.far am ap aE aZ hs bW bY ca cc bt bM cN bN) (.inl Z) ?_
 rintro bm cU cZ bK cX cg ⟨aR,a6,bq,aS,a7,rfl,rfl,bO⟩
 have ci:sW w U bm [.row aR a6 41 1 bq,.row aS a7 3 1 (hH KL.encI bH),B1,.obj ab (.map ag af),.blk aG 118 B4,B2,.blk b2 45 B0] bK:=cg
 refine oM Z Z (oR Z (zZ Z Z (v:=.slice aR cO.length a6) Z) (oR Z (zZ Z Z (v:=.slice aS bH.length a7) Z) (oA Z Z (oA Z Z (eN (sR fL5 Z (oM Z Z (oM Z Z (oA Z Z (oA Z Z (oA Z Z (eN (zR ?_)))))))))))))
 cases bD
 exact ⟨rfl,_,(res3 rfl rfl rfl),bm,_,(ci.pick [0,1] _ (by decide) rfl),aR,a6,bq,aS,a7,rfl,rfl,bO⟩
 intro bg cH
 refine ZK (nF (bg.out)) (sR fL3 Z (oA Z Z (oA Z Z (oA Z Z (eN (zR (zW ?_)))))))
 have cj:=bh.nilrow 41 1
 have cm:=cj.nilrow 3 1
 cases cH
 exact ⟨rfl,_,(res3 rfl rfl rfl),aY,_,(cm.pick [1,0] _ (by decide) rfl),none,0,[],none,0,rfl,rfl,RlL.nil⟩
 intro be cI
 refine cT Z be (sR fL4 Z (oM Z Z (oA Z Z (oA Z Z (oA Z Z (eN (zR (zW ?_))))))))
 have cn:=bC.nilrow 41 1
 have co:=cn.nilrow 3 1
 cases cI
 exact ⟨rfl,_,(res3 rfl rfl rfl),U9,_,(co.pick [1,0] _ (by decide) rfl),none,0,[],none,0,rfl,rfl,RlL.nil⟩
theorem wHI (p0:wAD) (ag:Option Addr) (an:Nat) (ah:Option Addr) (ao:Nat) (aj:Option Addr) (ap:Nat) (am:Option Addr) (aq:Nat) (p1:List wAH) (aW:Option Addr) (aX:Nat) (w:World) (U:PHeap) (hS:St0 w U []) (bV:Sl U 1 ag an p0.Starts.length (hH KL.encI p0.Starts)) (bW:Sl U 2 ah ao p0.Splits.length (hH wAA p0.Splits)) (bX:Sl U 3 aj ap p0.Clocks.length (hH wAG p0.Clocks)) (bY:Sl U 4 am aq p0.Readings.length (hH wAB p0.Readings)) (eM:Sl U 4 aW aX p1.length (hH wBc p1)) {r:Int × Int} (hm:wEX p0 p1=some r):Gv Tryz.prog 42 [.agg #[.slice ag p0.Starts.length an,.slice ah p0.Splits.length ao,.slice aj p0.Clocks.length ap,.slice am p0.Readings.length aq],.slice aW p1.length aX] w (wBl w [] U (fun U_ L_ v=>v=.tuple #[jV r.1,jV r.2]/\L_=[])):=by
 unfold wEX at hm
 refine Gv.of Tryz.func42 Z Tryz.ntmps42 Tryz.results42 Z (sR gDv Z ?_)
 let O:List Value:=[.slice ag p0.Starts.length an,.slice ah p0.Splits.length ao,.slice aj p0.Clocks.length ap,.slice am p0.Readings.length aq]
 refine zu (cs:=O) rfl rfl rfl rfl rfl rfl (by rfl) hS ?_
 intro W1 b2 bU
 refine oA Z Z (oA Z Z (eN (zJ (sR gDn Z (oL Z (bU.ldBA (j:=0) Z Z Z zm zf (vs:=O) Z Z) (bnK hm fun x5 h6 e8=>zG 0 Z Z Z Z (zH Z Z Tryz.call58 (zB Z zN) Z) bU (fun hs=>wEM p0 ag an ah ao aj ap am aq W1 U hs bV bW bX bY h6) (.inr Z) ?_))))))
 rintro U8 L9 fL bL aU dK ⟨rfl,rfl⟩
 have bz:sW w U U8 [.blk b2 45 O] bL:=dK
 refine oA Z Z (eN (sR fL2 Z (oM Z Z (oR Z (Zb Z Z Z) (eN (ifc e8 ?_ ?_))))))
 intro bt eO
 refine zj (ZA (fun h=>h bt.out)) (kN (zJ (sR gEb Z (oL Z (bz.ldBA (j:=0) Z Z Z zm zf (vs:=O) Z Z) (oM Z Z ?_)))))
 have aH:=bV.le aU
 have aI:=bW.le aU
 have aJ:=bX.le aU
 have aK:=bY.le aU
 have bx:=eM.le aU
 refine bnK eO fun fT c6 eQ=>zG 0 Z Z Z Z (zH Z Z Tryz.call60 (zB Z (zB Z zN)) Z) bz (fun hs=>wEC p0 ag an ah ao aj ap am aq p1 aW aX bL U8 hs aH aI aJ aK bx c6) (.inr Z) ?_
 rintro au fu fR bn aa eL ⟨rfl,rfl⟩
 have bB:sW w U au [.blk b2 45 O] bn:=eL
 refine oA Z Z (eN (sR fL2 Z (oM Z Z (oR Z (Zb Z Z Z) (eN (ifc eQ ?_ ?_))))))
 intro bv eZ
 refine zj (ZA (fun h=>h bv.out)) (kN (zJ (sR fL3 Z (oM Z Z (oR Z (zx Z Z yK) (oR Z (yO Z Z Z) (eN (ifc eZ ?_ ?_))))))))
 intro bw e6
 refine cT Z bw (sR fL2 Z (oA Z Z (oA Z Z (eN (zR (zW ?_))))))
 cases e6
 exact ⟨rfl,_,(wDw rfl rfl),au,_,(bB.pick [] _ (by decide) rfl),rfl,rfl⟩
 intro bw e7
 refine cF Z bw (kN ?_)
 have q:=bnd e7
 obtain ⟨⟨bC,bD⟩,fb,ca⟩:=q
 try dsimp only at ca
 let B1:List Value:=[jV bC,jV bD]
 refine yI (fun σ_ w_=>∃ (U_:PHeap) (aS:Nat),σ_ 1=.slice aW p1.length aX/\σ_ 2=.pointer (some ⟨b2,0,none⟩)/\σ_ 8=.pointer (some ⟨aS,0,none⟩)/\PHeap.Le au U_/\sW w U U_ [.blk b2 45 O,.blk aS 115 B1] w_) ?_ ?_
 refine bnK fb fun ax bQ e9=>?_
 have q:=bnd e9
 obtain ⟨⟨ae,af,aZ⟩,aT,aL⟩:=q
 try dsimp only at aL
 refine ZB zw [1,3,3,1,2,3,3,3,3,2,2,0,0,3] (wDu (.fx 4 (wHq (.fx 9 gEf (.fx 10 gEg .stop))) (.fx 9 (.fx 4 (wHq gEf) (.fx 10 (.fx 4 (wHq gDy) (.stop)) (.stop))) (.fx 10 (.fx 4 (wHq gEg) (.fx 9 (.fx 4 (wHq gDy) (.stop)) (.stop))) (.stop))))) (by kernel_rfl) ?_
 have aQ:=bB.drew
 generalize hw_W85:({ bn with drawn:=bn.drawn + 1 }:World)=cJ at aQ ⊢
 refine oL Z (aQ.ldBA (j:=0) Z Z Z zm zf (vs:=O) Z Z) (oM Z Z ?_)
 have du:=bx.le aa
 have q:=du.el (fun _=>rfl) (wAc bQ)
 obtain ⟨fI,fK,dz,dA⟩:=q
 refine oR Z (Zf Z Z dz Z yK ZX (wCG bQ)) (oL Z (aQ.ldCA (f:=0) dA Z Z Zp ZX (us:=[jV ax.Kind,jV ax.Skier,jV ax.Index,.bool ax.Up]) Z Z) (zq ?_ ?_))
 have dv:=aH.le aa
 have dw:=aI.le aa
 have dx:=aJ.le aa
 have dy:=aK.le aa
 refine zG 0 Z Z Z Z (zH Z Z Tryz.call65 (zB Z (zB Z zN)) Z) aQ (fun hs=>wBb p0 ag an ah ao aj ap am aq ax cJ au hs dv dw dx dy aT) (.inr Z) ?_
 rintro aF fz fM cf cb dB ⟨rfl,rfl⟩
 have bR:sW w U aF [.blk b2 45 O] cf:=dB
 refine oM Z Z (oR Z (zZ Z Z (v:=.agg #[jV ae.skier,jV ae.mat]) Z) (oR Z (zZ Z Z (v:=.agg #[jV af.skier,jV af.mat]) Z) (oR Z (zZ Z Z (v:=jV aZ) Z) (zq ?_ ?_))))
 let B2:List Value:=[jV 0,jV 0]
 refine zX (cs:=B2) Z Z Z Z Z zb Z bR ?_
 intro fA bo dC
 refine zX (cs:=B2) Z Z Z Z Z zb Z dC ?_
 intro fB bM dD
 let B3:List Value:=[jV ae.skier,jV ae.mat]
 refine za (j:=1) (vs:=B3) Z Z Z Z dD Z Z Z Z zE (zA Z) Z Z Z ?_
 intro cg dE
 have dF:sW w U aF [.blk bM 115 B2,.blk bo 115 B3,.blk b2 45 O] cg:=dE
 let B4:List Value:=[jV af.skier,jV af.mat]
 refine za (j:=0) (vs:=B4) Z Z Z Z dF Z Z Z Z zE (zA Z) Z Z Z ?_
 intro ci dG
 have dH:sW w U aF [.blk bM 115 B4,.blk bo 115 B3,.blk b2 45 O] ci:=dG
 refine oA Z Z (zc ?_)
 cases aL
 exact zI ⟨rfl,⟨aF,bo,rfl,rfl,rfl,cb,(dH.pick [2,1] _ (by decide) rfl)⟩⟩
 let B5:List Value:=[jV 0,jV 0]
 refine zX (cs:=B5) Z Z Z Z Z zb Z bR ?_
 intro fC bN dI
 refine zX (cs:=B5) Z Z Z Z Z zb Z dI ?_
 intro fD bp dJ
 let B6:List Value:=[jV ae.skier,jV ae.mat]
 refine za (j:=0) (vs:=B6) Z Z Z Z dJ Z Z Z Z zE (zA Z) Z Z Z ?_
 intro cj dL
 have dM:sW w U aF [.blk bp 115 B6,.blk bN 115 B5,.blk b2 45 O] cj:=dL
 let B7:List Value:=[jV af.skier,jV af.mat]
 refine za (j:=1) (vs:=B7) Z Z Z Z dM Z Z Z Z zE (zA Z) Z Z Z ?_
 intro cm dN
 have dO:sW w U aF [.blk bp 115 B6,.blk bN 115 B7,.blk b2 45 O] cm:=dN
 refine oA Z Z (zc ?_)
 cases aL
 exact zI ⟨rfl,⟨aF,bp,rfl,rfl,rfl,cb,(dO.pick [2,0] _ (by decide) rfl)⟩⟩
 refine zq ?_ ?_
 let B8:List Value:=[jV 0,jV 0]
 refine zX (cs:=B8) Z Z Z Z Z zb Z aQ ?_
 intro cn aE bS
 refine zq ?_ ?_
 have cN:=aH.le aa
 have cO:=aI.le aa
 have cP:=aJ.le aa
 have cQ:=aK.le aa
 refine zG 0 Z Z Z Z (zH Z Z Tryz.call65 (zB Z (zB Z zN)) Z) bS (fun hs=>wBb p0 ag an ah ao aj ap am aq ax cn au hs cN cO cP cQ aT) (.inr Z) ?_
 rintro a6 fk fN co fc dP ⟨rfl,rfl⟩
 have dQ:sW w U a6 [.blk aE 115 B8,.blk b2 45 O] co:=dP
 refine oM Z Z (oR Z (zZ Z Z (v:=.agg #[jV ae.skier,jV ae.mat]) Z) (oR Z (zZ Z Z (v:=.agg #[jV af.skier,jV af.mat]) Z) (oR Z (zZ Z Z (v:=jV aZ) Z) (zX (cs:=B8) Z Z Z Z Z zb Z dQ ?_))))
 intro fE bO dR
 let B9:List Value:=[jV ae.skier,jV ae.mat]
 refine za (j:=1) (vs:=B9) Z Z Z Z dR Z Z Z Z zE (zA Z) Z Z Z ?_
 intro cp dS
 have dT:sW w U a6 [.blk bO 115 B8,.blk aE 115 B9,.blk b2 45 O] cp:=dS
 let bF:List Value:=[jV af.skier,jV af.mat]
 refine za (j:=0) (vs:=bF) Z Z Z Z dT Z Z Z Z zE (zA Z) Z Z Z ?_
 intro cq dU
 have dV:sW w U a6 [.blk bO 115 bF,.blk aE 115 B9,.blk b2 45 O] cq:=dU
 refine oA Z Z (zc ?_)
 cases aL
 exact zI ⟨rfl,⟨a6,aE,rfl,rfl,rfl,fc,(dV.pick [2,1] _ (by decide) rfl)⟩⟩
 refine zX (cs:=B8) Z Z Z Z Z zb Z bS ?_
 intro cr bq dW
 have cR:=aH.le aa
 have cS:=aI.le aa
 have cU:=aJ.le aa
 have cV:=aK.le aa
 refine zG 0 Z Z Z Z (zH Z Z Tryz.call65 (zB Z (zB Z zN)) Z) dW (fun hs=>wBb p0 ag an ah ao aj ap am aq ax cr au hs cR cS cU cV aT) (.inr Z) ?_
 rintro a7 fm fO ct fd dX ⟨rfl,rfl⟩
 have dY:sW w U a7 [.blk bq 115 B8,.blk aE 115 B8,.blk b2 45 O] ct:=dX
 refine oM Z Z (oR Z (zZ Z Z (v:=.agg #[jV ae.skier,jV ae.mat]) Z) (oR Z (zZ Z Z (v:=.agg #[jV af.skier,jV af.mat]) Z) (oR Z (zZ Z Z (v:=jV aZ) Z) ?_)))
 let bb:List Value:=[jV ae.skier,jV ae.mat]
 refine za (j:=1) (vs:=bb) Z Z Z Z dY Z Z Z Z zE (zA Z) Z Z Z ?_
 intro cu dZ
 have d4:sW w U a7 [.blk bq 115 B8,.blk aE 115 bb,.blk b2 45 O] cu:=dZ
 let bG:List Value:=[jV af.skier,jV af.mat]
 refine za (j:=0) (vs:=bG) Z Z Z Z d4 Z Z Z Z zE (zA Z) Z Z Z ?_
 intro cw d5
 have d6:sW w U a7 [.blk bq 115 bG,.blk aE 115 bb,.blk b2 45 O] cw:=d5
 refine oA Z Z (zc ?_)
 cases aL
 exact zI ⟨rfl,⟨a7,aE,rfl,rfl,rfl,fd,(d6.pick [2,1] _ (by decide) rfl)⟩⟩
 let ay:List Value:=[jV 0,jV 0]
 refine zX (cs:=ay) Z Z Z Z Z zb Z aQ ?_
 intro cx aO bT
 refine zq ?_ ?_
 have cW:=aH.le aa
 have cX:=aI.le aa
 have cY:=aJ.le aa
 have cZ:=aK.le aa
 refine zG 0 Z Z Z Z (zH Z Z Tryz.call65 (zB Z (zB Z zN)) Z) bT (fun hs=>wBb p0 ag an ah ao aj ap am aq ax cx au hs cW cX cY cZ aT) (.inr Z) ?_
 rintro a8 fq fP cy ff d7 ⟨rfl,rfl⟩
 have d8:sW w U a8 [.blk aO 115 ay,.blk b2 45 O] cy:=d7
 refine oM Z Z (oR Z (zZ Z Z (v:=.agg #[jV ae.skier,jV ae.mat]) Z) (oR Z (zZ Z Z (v:=.agg #[jV af.skier,jV af.mat]) Z) (oR Z (zZ Z Z (v:=jV aZ) Z) (zX (cs:=ay) Z Z Z Z Z zb Z d8 ?_))))
 intro fG br d9
 let bc:List Value:=[jV ae.skier,jV ae.mat]
 refine za (j:=0) (vs:=bc) Z Z Z Z d9 Z Z Z Z zE (zA Z) Z Z Z ?_
 intro cz ef
 have eg:sW w U a8 [.blk br 115 bc,.blk aO 115 ay,.blk b2 45 O] cz:=ef
 let bH:List Value:=[jV af.skier,jV af.mat]
 refine za (j:=1) (vs:=bH) Z Z Z Z eg Z Z Z Z zE (zA Z) Z Z Z ?_
 intro cA eh
 have ej:sW w U a8 [.blk br 115 bc,.blk aO 115 bH,.blk b2 45 O] cA:=eh
 refine oA Z Z (zc ?_)
 cases aL
 exact zI ⟨rfl,⟨a8,br,rfl,rfl,rfl,ff,(ej.pick [2,0] _ (by decide) rfl)⟩⟩
 refine zX (cs:=ay) Z Z Z Z Z zb Z bT ?_
 intro cB ba en
 have da:=aH.le aa
 have db:=aI.le aa
 have dd:=aJ.le aa
 have de:=aK.le aa
 refine zG 0 Z Z Z Z (zH Z Z Tryz.call65 (zB Z (zB Z zN)) Z) en (fun hs=>wBb p0 ag an ah ao aj ap am aq ax cB au hs da db dd de aT) (.inr Z) ?_
 rintro a9 ft fQ cC fg eo ⟨rfl,rfl⟩
 have ez:sW w U a9 [.blk ba 115 ay,.blk aO 115 ay,.blk b2 45 O] cC:=eo
 refine oM Z Z (oR Z (zZ Z Z (v:=.agg #[jV ae.skier,jV ae.mat]) Z) (oR Z (zZ Z Z (v:=.agg #[jV af.skier,jV af.mat]) Z) (oR Z (zZ Z Z (v:=jV aZ) Z) ?_)))
 let be:List Value:=[jV ae.skier,jV ae.mat]
 refine za (j:=0) (vs:=be) Z Z Z Z ez Z Z Z Z zE (zA Z) Z Z Z ?_
 intro cD eA
 have eB:sW w U a9 [.blk ba 115 be,.blk aO 115 ay,.blk b2 45 O] cD:=eA
 let bI:List Value:=[jV af.skier,jV af.mat]
 refine za (j:=1) (vs:=bI) Z Z Z Z eB Z Z Z Z zE (zA Z) Z Z Z ?_
 intro cE eE
 have eF:sW w U a9 [.blk ba 115 be,.blk aO 115 bI,.blk b2 45 O] cE:=eE
 refine oA Z Z (zc ?_)
 cases aL
 exact zI ⟨rfl,⟨a9,ba,rfl,rfl,rfl,fg,(eF.pick [2,0] _ (by decide) rfl)⟩⟩
 rintro fV cG ⟨cc,aS,cL,cM,bP,aV,bA⟩
 refine sR (wDp (.fx 3 (fC4_7 (.fx 8 (.fx 9 (.fl 10 (.fl 11 .nil)) .stop) .stop)) .stop)) Z (oL Z (bA.ldBA (j:=0) Z Z cM zm zf (vs:=O) Z Z) (oL Z (bA.ldBA (j:=1) Z Z bP zh zE (vs:=B1) Z Z) (oM Z cL ?_)))
 have df:=aH.le aa
 have dg:=df.le aV
 have dh:=aI.le aa
 have di:=dh.le aV
 have dk:=aJ.le aa
 have dl:=dk.le aV
 have dm:=aK.le aa
 have dn:=dm.le aV
 have dp:=bx.le aa
 have dq:=dp.le aV
 have q:=bnd ca
 obtain ⟨⟨aY,fh,fj⟩,dr,bZ⟩:=q
 try dsimp only at bZ
 refine zG 0 Z Z Z Z (zH Z Z Tryz.call61 (zB Z (zB Z (zB Z zN))) Z) bA (fun hs=>wCj p0 ag an ah ao aj ap am aq (⟨bC,bD⟩:wAI) p1 aW aX cG cc hs dg di dl dn dq dr) (.inr Z) ?_
 rintro aN fw fS cH fJ eG ⟨rfl,rfl⟩
 have eH:sW w U aN [.blk b2 45 O,.blk aS 115 B1] cH:=eG
 refine oM Z Z (oR Z (zZ Z Z (v:=.agg #[jV aY.skier,jV aY.mat]) Z) (oR Z (zZ Z Z (v:=jV fh) Z) (oR Z (zZ Z Z (v:=.bool fj) Z) (zX (cs:=[jV 0,jV 0]) Z Z Z Z Z zb Z eH ?_))))
 intro fH cK eI
 let bf:List Value:=[jV aY.skier,jV aY.mat]
 refine za (j:=0) (vs:=bf) Z Z Z Z eI Z Z Z Z zE (zA Z) Z Z Z ?_
 intro cI eJ
 have aP:sW w U aN [.blk cK 115 bf,.blk b2 45 O,.blk aS 115 B1] cI:=eJ
 refine oA Z Z (oA Z Z (eN (zJ (sR wNC Z (oM Z Z (oR Z (ZY Z Z) (oM Z Z (ifc bZ ?_ ?_))))))))
 intro av eR
 refine ZD Z Z Z (zO Z Z (nC av.out)) (aP.ldBA (j:=0) Z Z Z zh zE (vs:=bf) Z Z) Z (ZD Z Z Z (zO Z Z (nC av.out)) (aP.ldBA (j:=2) Z Z bP zh zE (vs:=B1) Z Z) Z (ze Z Z Z (zO Z Z (nC av.out)) (fun _=>ZI (Runs.neS (enc:=wBf) (a:=aY) (b:=(⟨bC,bD⟩:wAI)) Z Z Z wKZ wKY) (congrArg hJ (decide_not).symm)) (oR Z (zd Z (nC av.out) Z) (oM Z Z (ifc eR ?_ ?_)))))
 intro aG eS
 refine zU Z Z Z (zO Z Z (ZA (fun h=>h aG.out))) Z Z (ze Z Z Z (zO Z Z (ZA (fun h=>h aG.out))) (fun _=>Runs.geq Z Z Z) (oR Z (zd Z (ZA (fun h=>h aG.out)) Z) (eN (ifc eS ?_ ?_))))
 intro bu eT
 refine cT Z bu (sR fL2 Z (oA Z Z (oA Z Z (eN (zR (zW ?_))))))
 cases eT
 exact ⟨rfl,_,(wDw rfl rfl),aN,_,(aP.pick [] _ (by decide) rfl),rfl,rfl⟩
 intro bu eU
 refine cF Z bu (kN (sR fL3 Z (oM Z Z (oA Z Z (oA Z Z (eN (zR ?_)))))))
 cases eU
 exact ⟨rfl,_,(wDw rfl rfl),aN,_,(aP.pick [] _ (by decide) rfl),rfl,rfl⟩
 intro aG eV
 refine oT Z aG (oT Z aG (oR Z (zQ Z (Za aG.out) Z) (eN (ZK Z (sR fL2 Z (oA Z Z (oA Z Z (eN (zR (zW ?_))))))))))
 cases eV
 exact ⟨rfl,_,(wDw rfl rfl),aN,_,(aP.pick [] _ (by decide) rfl),rfl,rfl⟩
 intro av eW
 refine ZT Z Z Z (zS Z Z (nF (av.out)) Z) (ZT Z Z Z (zS Z Z (nF (av.out)) Z) (ZT Z Z Z (zS Z Z (nF (av.out)) Z) (oR Z (zQ Z (nF (av.out)) Z) (oM Z Z (oN Z (oN Z (oR Z (zQ Z Z Z) (eN (ZK Z (sR fL2 Z (oA Z Z (oA Z Z (eN (zR (zW ?_)))))))))))))))
 cases eW
 exact ⟨rfl,_,(wDw rfl rfl),aN,_,(aP.pick [] _ (by decide) rfl),rfl,rfl⟩
 intro bv eX
 refine cT Z bv (sR fL3 Z (oM Z Z (oA Z Z (oA Z Z (eN (zR (zW ?_)))))))
 cases eX
 exact ⟨rfl,_,(wDw rfl rfl),au,_,(bB.pick [] _ (by decide) rfl),rfl,rfl⟩
 intro bt eY
 refine cT Z bt (sR fL3 Z (oM Z Z (oA Z Z (oA Z Z (eN (zR (zW ?_)))))))
 cases eY
 exact ⟨rfl,_,(wDw rfl rfl),U8,_,(bz.pick [] _ (by decide) rfl),rfl,rfl⟩
theorem wHJ (p0:Int) (O:wAJ) (p2:Int) (ae:Nat) (w:World) (U:PHeap) (hS:St0 w U []) (af:Cl U ae 0 [jV p2]) {r:Bool} (hm:wDB p0 O p2=some r):Gv Tryz.prog 68 [jV p0,.agg #[jV O.Skier,jV O.Mat,jV O.Clock,jV O.Time],.pointer (some ⟨ae,0,none⟩)] w (wBl w [] U (fun U_ L_ v=>v=.bool r/\L_=[])):=by
 unfold wDB at hm
 refine Gv.of Tryz.func68 rfl Tryz.ntmps68 Tryz.results68 rfl (sR gDi rfl (zu (cs:=[jV O.Skier,jV O.Mat,jV O.Clock,jV O.Time]) rfl rfl rfl rfl rfl rfl (by rfl) hS ?_))
 intro W1 b2 ab
 refine oA Z Z (eN (sR fL4 Z (oM Z Z (oL Z (ab.ldC (f:=0) af (v:=jV p2) Z Z zF Z) (oR Z (yO Z Z Z) (oA Z Z (eN (zR ?_))))))))
 first | (obtain rfl:=nB hm) | cases hm
 exact ⟨rfl,_,(ZG rfl),U,_,(ab.pick [] _ (by decide) rfl),rfl,rfl⟩
theorem wDH (O:wAD) (aj:Option Addr) (ao:Nat) (am:Option Addr) (ap:Nat) (an:Option Addr) (aq:Nat) (aF:Option Addr) (aG:Nat) (p1:((Int × wAJ)->Option Bool)) (a9:Value) (w:World) (U:PHeap) (hS:St0 w U []) (cR:Sl U 1 aj ao O.Starts.length (hH KL.encI O.Starts)) (cS:Sl U 2 am ap O.Splits.length (hH wAA O.Splits)) (cU:Sl U 3 an aq O.Clocks.length (hH wAG O.Clocks)) (cV:Sl U 4 aF aG O.Readings.length (hH wAB O.Readings)) (cW:FnOK Tryz.prog U a9 wLS wLT p1) {r:wAb} (hm:wBv O p1=some r):Gv Tryz.prog 67 [.agg #[.slice aj O.Starts.length ao,.slice am O.Splits.length ap,.slice an O.Clocks.length aq,.slice aF O.Readings.length aG],a9] w (wBl w [] U (fun U_ L_ v=>∃ (b0:Nat) (A0p00:Option Addr) (c0p00:Nat) (A0p01:Option Addr) (c0p01:Nat) (A0p02:Option Addr) (c0p02:Nat) (A0p03:Option Addr) (c0p03:Nat) (m0p1:Nat) (es0p1:Array MapEntry) (ck0p1:Nat) (A0p2:Option Addr) (c0p2:Nat),v=.pointer (some ⟨b0,0,none⟩)/\L_=[.blk b0 124 [.slice A0p00 r.Race.Starts.length c0p00,.slice A0p01 r.Race.Splits.length c0p01,.slice A0p02 r.Race.Clocks.length c0p02,.slice A0p03 r.Race.Readings.length c0p03,.map (some m0p1),.slice A0p2 r.edges.length c0p2],.obj m0p1 (.map es0p1 ck0p1),.row A0p2 c0p2 151 7 (hH wAN r.edges)]/\Sl U_ 1 A0p00 c0p00 r.Race.Starts.length (hH KL.encI r.Race.Starts)/\Sl U_ 2 A0p01 c0p01 r.Race.Splits.length (hH wAA r.Race.Splits)/\Sl U_ 3 A0p02 c0p02 r.Race.Clocks.length (hH wAG r.Race.Clocks)/\Sl U_ 4 A0p03 c0p03 r.Race.Readings.length (hH wAB r.Race.Readings)/\MpR es0p1 wBH wBQ r.number)):=by
 unfold wBv at hm
 refine Gv.of Tryz.func67 Z Tryz.ntmps67 Tryz.results67 Z (sR gDi Z ?_)
 let B0:List Value:=[.slice aj O.Starts.length ao,.slice am O.Splits.length ap,.slice an O.Clocks.length aq,.slice aF O.Readings.length aG]
 refine zu (cs:=B0) rfl rfl rfl rfl rfl rfl (by rfl) hS ?_
 intro W1 b2 bB
 refine Zy rfl rfl rfl rfl rfl rfl (eN (sR (wDp gDl) rfl (ze rfl rfl rfl rfl (fun _=>zM rfl rfl zP rfl Zk) (ZD rfl rfl rfl rfl (bB.ldB (j:=0) rfl rfl rfl yF (v:=.slice aF O.Readings.length aG) rfl) rfl (ze rfl rfl rfl rfl (fun _=>zx rfl rfl ZR) (bnK hm fun x5 h6 de=>OKS.makeSliceZ (sz:=4) (enc:=wAB) (z:=(⟨0,0,0,0⟩:wAJ)) (v:=jV 0) rfl rfl rfl rfl rfl (wBe ZR) wJS rfl rfl rfl rfl (by decide) (by decide) rfl rfl h6 bB ?_))))))
 intro W8 b9 cy
 have aV:sW w U U [.row (some ⟨b9,0,none⟩) x5.length 52 4 (hH wAB x5),.blk b2 45 B0] W8:=cy
 refine Zy rfl rfl rfl rfl rfl rfl (eN (sR (wDp (.fx 3 .nil .stop)) rfl (zU rfl rfl rfl rfl rfl rfl (ze rfl rfl rfl rfl (fun _=>zM rfl rfl zP rfl Zk) (ZD rfl rfl rfl rfl (aV.ldB (j:=1) rfl rfl rfl yF (v:=.slice aF O.Readings.length aG) rfl) rfl (bnK de fun au cm db=>OKS.copyM (j:=0) (f:=wAB) (m:=x5) (ys:=O.Readings) (z:=au) (a:=0) (n:=x5.length) rfl rfl rfl rfl rfl rfl ZR Zj aV rfl (fun _=>rfl) (fun _=>rfl) rfl cm rfl (by simp) (.inr (by simp)) rfl (aV.srcS cV) rfl ?_))))))
 intro bO cG aX
 let B1:Res:=.row (some ⟨b9,0,none⟩) x5.length 52 4 (hH wAB au)
 have bA:sW w U U [B1,.blk b2 45 B0] bO:=cG
 refine eN (sR (wDp (.fx 3 .nil .stop)) rfl (zU rfl rfl rfl rfl rfl (Eq.trans (b:=(.slice (some ⟨b9,0,none⟩) x5.length x5.length:Value)) (c:=(.slice (some ⟨b9,0,none⟩) au.length x5.length:Value)) rfl (by rw [aX])) ?_))
 have dk:=bA.rowCap (j:=0) rfl (by decide) (wAC (f:=wAB) (sz:=4) (fun _=>rfl) au)
 refine ze (v:=.slice (some ⟨b9,0,none⟩) 0 x5.length) Z Z Z Z (fun _=>ZI (Runs.slc (sz:=4) (a:=0) (b:=0) Z Z (.inr ⟨Z,Z⟩) (.inl ⟨_,Z,Z⟩) ZR Zj (Int.le_refl _) (Int.le_refl _) (Int.natCast_nonneg _) dk) slc0) (oR Z (zM Z Z zP Z Zk) (za (j:=1) (vs:=[.slice (some ⟨b9,0,none⟩) 0 x5.length]) Z Z Z Z bA Z Z Z Z Zk (zA Z) Z Z Z ?_))
 intro bP cH
 have cI:sW w U U [B1,.blk b2 45 [.slice aj O.Starts.length ao,.slice am O.Splits.length ap,.slice an O.Clocks.length aq,.slice (some ⟨b9,0,none⟩) 0 x5.length]] bP:=cH
 refine eN (zJ (sR fL3 rfl (zU rfl rfl rfl rfl rfl (Eq.trans (b:=(.slice (some ⟨b9,0,none⟩) x5.length x5.length:Value)) (c:=(.slice (some ⟨b9,0,none⟩) au.length x5.length:Value)) rfl (by rw [aX])) (ze rfl rfl rfl rfl (fun _=>zx rfl rfl ZR) (zU rfl rfl rfl rfl rfl rfl (eN (zY ?_)))))))
 have q:=bnd db
 obtain ⟨⟨dC,dm⟩,cX,bH⟩:=q
 try dsimp only at bH
 have q:=wBE cX
 obtain ⟨aY,cY⟩:=q
 replace aY:=zK aY
 refine CK.forN' (fun ae (ac,ah) σ_ w_=>∃ (U_:PHeap),σ_ 21=jV (↑ae:Int)/\σ_ 1=a9/\σ_ 2=.pointer (some ⟨b2,0,none⟩)/\σ_ 19=.slice (some ⟨b9,0,none⟩) ac.length x5.length/\σ_ 20=jV (↑au.length:Int)/\PHeap.Le U U_/\sW w U U_ [.row (some ⟨b9,0,none⟩) x5.length 52 4 (hH wAB ac),.blk b2 45 [.slice aj O.Starts.length ao,.slice am O.Splits.length ap,.slice an O.Clocks.length aq,.slice (some ⟨b9,0,none⟩) ah x5.length]] w_/\ac.length=x5.length) cY ?_ ?_ ?_
 exact ⟨U,Z,Z,Z,Z,Z,(zL _),cI,aX⟩
 rintro ae ⟨ac,ah⟩ dB dD dr aW ⟨bM,aE,aS,aJ,aT,aU,a7,bC,bw⟩ bI
 try dsimp only at bI
 have bt:Hid ((↑ae:Int) < (↑au.length:Int)):=zK (wAx aW)
 replace aW:=zK aW
 have bG:Hid (w64 ((↑ae:Int) + 1)=(↑(ae + 1):Int)):=zK (by have h1:=aY.out;have h2:=bt.out;rw [wAW] <;> omega)
 refine sR fL1 Z (oR Z (zT Z aE aU) (eN (zJ (cT Z bt (kN (zJ (zY (sR (wDp (.fx 3 (.fl 4 (.fx 5 .nil .stop)) .stop)) Z (oM Z aE (bnK bI fun _ bx dd=>oR Z (Zf Z aT Z aE ZR Zj (wAR bx)) ?_))))))))))
 have cZ:=wAt (xs:=ac) (wAR bx)
 let B2:List Value:=[jV ((gd ac ae).Skier),jV ((gd ac ae).Mat),jV ((gd ac ae).Clock),jV ((gd ac ae).Time)]
 refine ZD rfl rfl rfl rfl (bC.ldRA (j:=0) rfl rfl rfl rfl yp Zj (vs:=B2) (wDy (sz:=4) (fun _=>rfl) _ _ _ cZ (by first | omega | rfl | simp) rfl) rfl) rfl ?_
 let B3:List Value:=[jV 0,jV 0,jV 0,jV 0]
 refine zX (cs:=B3) Z Z Z Z Z yP Z bC ?_
 intro dt az cJ
 refine oA Z Z (za (j:=0) (vs:=B2) Z Z Z Z cJ Z Z Z Z Zj (zA Z) Z Z Z ?_)
 intro bQ cK
 let B4:Res:=.blk b2 45 [.slice aj O.Starts.length ao,.slice am O.Splits.length ap,.slice an O.Clocks.length aq,.slice (some ⟨b9,0,none⟩) ah x5.length]
 let B5:Res:=.row (some ⟨b9,0,none⟩) x5.length 52 4 (hH wAB ac)
 have bD:sW w U bM [.blk az 52 B2,B5,B4] bQ:=cK
 refine eN (sR (wDp gDl) Z (oM Z aS (oM Z Z (oL Z (bD.ldBA (j:=0) Z Z Z yp Zj (vs:=B2) Z Z) (bnK dd fun dA cu df=>?_)))))
 have cw:=cW.le a7
 refine yf (a:=((↑ae:Int),(gd ac ae))) Z Z Z Z Z Z (zB Z (zB Z zN)) bD cw Z cu ?_
 rintro av dp dz bR bJ cL ⟨rfl,rfl⟩
 have aK:sW w U av [.blk az 52 B2,B5,B4] bR:=cL
 refine oR Z (ZY Z Z) (eN (ifc df ?_ ?_))
 intro aR dg
 refine zj (nC aR.out) (ZS (zk (zI (rR fL2 Z (oR Z (ZI (zV Z aE Z) (congrArg (jV) bG.out)) (oM Z Z (zc ?_)))))))
 cases dg
 exact zI ⟨rfl,⟨av,rfl,aS,aJ,aT,aU,(a7.trans bJ),(aK.pick [1,2] _ (by decide) rfl),bw⟩⟩
 intro aR dh
 refine ZK (nF (aR.out)) (rR (wDp (.fx 3 (.fx 4 (.fl 5 (.fx 6 .nil .stop)) .stop) .stop)) Z (oR Z (zM Z aJ zP Z Zk) (oL Z (aK.ldB (j:=2) Z Z Z yF (v:=.slice (some ⟨b9,0,none⟩) ah x5.length) Z) (oL Z (aK.ldBA (j:=0) Z Z Z yp Zj (vs:=B2) Z Z) (zr (pv:=[(0,.agg B2.toArray)]) (zs:=B3) (cs:=B2) Z Z Z Z Z (wAE Z wAL) ZR Zj yP Z Z Z Z Z aK ?_)))))
 intro bT bW cM
 let B6:Res:=.row (some ⟨bW,0,none⟩) 1 52 4 (hH wAB [(gd ac ae)])
 have bF:sW w U av [B6,.blk az 52 B2,B5,B4] bT:=cM
 refine bnK dh fun _ cx di=>OKS.appendP (j:=2) (k:=ah) (enc:=wAB) (m:=ac) (v:=(gd ac ae)) rfl rfl rfl rfl rfl Tryz.underlying43 wJS rfl rfl bF rfl rfl rfl (bF.srcR (j:=0) rfl (by decide) (wAC (f:=wAB) (sz:=4) (fun _=>rfl) [(gd ac ae)])) (fun _=>rfl) (fun _=>rfl) cx rfl ?_
 intro bU cN
 let B7:Res:=.row (some ⟨b9,0,none⟩) x5.length 52 4 (hH wAB (nI ac ah (gd ac ae)))
 have cO:sW w U av [B6,.blk az 52 B2,B7,B4] bU:=cN
 refine oR Z (zM Z aJ zP Z Zk) (za (j:=3) (vs:=[.slice (some ⟨b9,0,none⟩) (ah + 1) x5.length]) Z Z Z Z cO Z Z Z Z Zk (zA Z) Z Z Z ?_)
 intro bV cP
 have cQ:sW w U av [B6,.blk az 52 B2,B7,.blk b2 45 [.slice aj O.Starts.length ao,.slice am O.Splits.length ap,.slice an O.Clocks.length aq,.slice (some ⟨b9,0,none⟩) (ah + 1) x5.length]] bV:=cP
 refine zc (zk (zI (rR fL2 Z (oR Z (ZI (zV Z aE Z) (congrArg (jV) bG.out)) (oM Z Z (zc ?_))))))
 cases di
 exact zI ⟨rfl,⟨av,rfl,aS,aJ,(Eq.trans (b:=(.slice (some ⟨b9,0,none⟩) ac.length x5.length:Value)) (c:=(.slice (some ⟨b9,0,none⟩) ((nI ac ah (gd ac ae)).length) x5.length:Value)) aT (by simp only [nE])),aU,(a7.trans bJ),(cQ.pick [2,3] _ (by decide) rfl),(nE.trans bw)⟩⟩
 rintro dE aP ⟨bL,ca,du,bY,dv,bZ,aZ,cz,dw⟩
 have bX:Hid (¬ ((↑(((↑au.length:Int):Int) - 0).toNat:Int) < (↑au.length:Int))):=zK (wAd)
 refine sR fL1 Z (oR Z (zT Z ca bZ) (eN (zJ (cF Z bX (ZQ (zg (zg (ZJ (zI (sR gDn Z (bnK bH fun ax bv c6=>?_)))))))))))
 obtain rfl:ax.length=dm:=wNO bv
 have cA:=cz.cutRowC (enc:=wAB) (k:=0) rfl bv
 let B8:List Value:=[.slice aj O.Starts.length ao,.slice am O.Splits.length ap,.slice an O.Clocks.length aq,.slice (some ⟨b9,0,none⟩) ax.length x5.length]
 have bz:sW w U bL [.row (some ⟨b9,0,none⟩) x5.length 52 4 (hH wAB ax),.blk b2 45 B8] aP:=cA
 refine oL Z (bz.ldBA (j:=1) Z Z bY zm zf (vs:=B8) Z Z) ?_
 have q:=bz.freezeR (k:=0) (n:=ax.length) rfl (wAC (f:=wAB) (sz:=4) (fun _=>rfl) ax) (by decide)
 obtain ⟨bi,a6,dl,cB⟩:=q
 have cC:sW w U bi [.blk b2 45 B8] aP:=cB
 have cb:=cR.le aZ
 have cc:=cb.le a6
 have cd:=cS.le aZ
 have cf:=cd.le a6
 have cg:=cU.le aZ
 have ci:=cg.le a6
 refine bnK c6 fun ay cj da=>zG 0 Z Z Z Z (zH Z Z Tryz.call105 (zB Z zN) Z) cC (fun hs=>wFl (⟨O.Starts,O.Splits,O.Clocks,ax⟩:wAD) aj ao am ap an aq (some ⟨b9,0,none⟩) x5.length aP bi hs cc cf ci dl cj) (.inr Z) ?_
 rintro bj dn dy bN dx cD ⟨bm,ba,bn,bb,bo,bc,bp,be,bq,a8,bu,br,aL,aQ,rfl,rfl,cn,co,cp,cq,cr⟩
 have cE:sW w U bj [.blk bm 124 [.slice ba ay.Race.Starts.length bn,.slice bb ay.Race.Splits.length bo,.slice bc ay.Race.Clocks.length bp,.slice be ay.Race.Readings.length bq,.map (some a8),.slice aL ay.edges.length aQ],.obj a8 (.map bu br),.row aL aQ 151 7 (hH wAN ay.edges),.blk b2 45 B8] bN:=cD
 refine oA Z Z (eN (zR ?_))
 have hE:=nB da;first | subst r | cases hE
 exact ⟨rfl,_,(ZG rfl),bj,_,(cE.pick [0,1,2] _ (by decide) rfl),bm,ba,bn,bb,bo,bc,bp,be,bq,a8,bu,br,aL,aQ,rfl,rfl,cn,co,cp,cq,cr⟩
end Go.Proofs.YtkghaiefcjgfkaaGreat
namespace Go.Proofs.YtkghaiefcjgfkaaGreat
open Go.KL
set_option maxHeartbeats 4000000
theorem wHK (p0:Int) (p1:wAJ) (p2:Int) (aj:Nat) (p3:Int) (am:Nat) (w:World) (U:PHeap) (hS:St0 w U []) (an:Cl U aj 0 [jV p2]) (ao:Cl U am 0 [jV p3]) {r:Bool} (hm:wDC p0 p1 p2 p3=some r):Gv Tryz.prog 69 [jV p0,.agg #[jV p1.Skier,jV p1.Mat,jV p1.Clock,jV p1.Time],.pointer (some ⟨aj,0,none⟩),.pointer (some ⟨am,0,none⟩)] w (wBl w [] U (fun U_ L_ v=>v=.bool r/\L_=[])):=by
 unfold wDC at hm
 refine Gv.of Tryz.func69 rfl Tryz.ntmps69 Tryz.results69 rfl (sR gDi rfl (zu (cs:=[jV p1.Skier,jV p1.Mat,jV p1.Clock,jV p1.Time]) rfl rfl rfl rfl rfl rfl (by rfl) hS ?_))
 intro W1 b2 ab
 refine oA Z Z (eN (sR fL9 Z (oM Z Z (oL Z (ab.ldC (f:=0) an (v:=jV p2) Z Z zF Z) (oR Z (yO Z Z Z) (oM Z Z ?_))))))
 by_cases O:p0=p2
 have ah:=hm;rw [if_pos O] at ah;replace O:=zK O
 refine oT Z O (oT Z O (oT Z O (oR Z (zQ Z (Za O.out) Z) (oA Z Z (eN (zR ?_))))))
 have hE:=nB ah;first | subst r | cases hE
 exact ⟨rfl,_,(ZG rfl),U,_,(ab.pick [] _ (by decide) rfl),rfl,rfl⟩
 have ae:=hm;rw [if_neg O] at ae;replace O:=zK O
 refine zU Z Z Z (wF Z O) Z Z (ZD Z Z Z (wF Z O) (ab.ldC (f:=0) ao (v:=jV p3) Z Z zF Z) Z (rU Z (wF Z O) (yO Z Z Z) (oR Z (zd Z (ZA O.out) Z) (oA Z Z (eN (zR ?_))))))
 first | (obtain rfl:=nB ae) | cases ae
 exact ⟨rfl,_,(ZG rfl),U,_,(ab.pick [] _ (by decide) rfl),rfl,rfl⟩
theorem wII (O:wAD) (aT:Option Addr) (aW:Nat) (aU:Option Addr) (aX:Nat) (aV:Option Addr) (aY:Nat) (ao:Option Addr) (ap:Nat) (w:World) (U:PHeap) (hS:St0 w U []) (ca:Sl U 1 aT aW O.Starts.length (hH KL.encI O.Starts)) (cb:Sl U 2 aU aX O.Splits.length (hH wAA O.Splits)) (cc:Sl U 3 aV aY O.Clocks.length (hH wAG O.Clocks)) (cd:Sl U 4 ao ap O.Readings.length (hH wAB O.Readings)) {r:(List Int) × Int} (hm:wEu O=some r):Gv Tryz.prog 43 [.agg #[.slice aT O.Starts.length aW,.slice aU O.Splits.length aX,.slice aV O.Clocks.length aY,.slice ao O.Readings.length ap]] w (wBl w [] U (fun U_ L_ v=>∃ (A0:Option Addr) (c0:Nat),v=.tuple #[.slice A0 r.1.length c0,jV r.2]/\L_=[.row A0 c0 3 1 (hH KL.encI r.1)])):=by
 unfold wEu at hm
 refine Gv.of Tryz.func43 Z Tryz.ntmps43 Tryz.results43 Z (sR gDv Z ?_)
 let B0:List Value:=[.slice aT O.Starts.length aW,.slice aU O.Splits.length aX,.slice aV O.Clocks.length aY,.slice ao O.Readings.length ap]
 refine zu (cs:=B0) rfl rfl rfl rfl rfl rfl (by rfl) hS ?_
 intro W1 b2 du
 refine oA Z Z (oA Z Z (eN (CK.scope (sR (.fl 0 (.fx 1 (wHp (.nil)) .stop)) Z (oL Z (du.ldBA (j:=0) Z Z Z zm zf (vs:=B0) Z Z) ?_)))))
 have q:=bnd hm
 obtain ⟨⟨x5,x6⟩,h7,ba⟩:=q
 try dsimp only at ba
 refine zG 0 Z Z Z Z (zH Z Z Tryz.call64 (zB Z zN) Z) du (fun hs=>wEN O aT aW aU aX aV aY ao ap W1 U hs ca cb cc cd h7) (.inr Z) ?_
 rintro U9 jm jG bq aE dq dp
 rcases x5 with _ | au
 try dsimp only at ba
 obtain ⟨rfl,rfl⟩:=dp
 have ig:sW w U U9 [.blk b2 45 B0] bq:=dq
 refine oM Z Z (oR Z (zZ Z Z (v:=.pointer none) Z) (oR Z (zZ Z Z (v:=jV x6) Z) (oA Z Z (oA Z Z (eN (zJ (zY (sR fL3 Z (oM Z Z (oR Z (Zb Z Z Z) (oA Z Z (eN (ifc ba ?_ ?_)))))))))))))
 intro bO iV
 refine zj (ZA (fun h=>h bO.out)) (sR gDn Z (oM Z Z ?_))
 cases iV
 intro bO iW
 refine cT Z bO (sR fL3 Z (oM Z Z (oA Z Z (oA Z Z (eN (zR (zn (zW (wFE ?_)))))))))
 have im:=ig.nilrow 3 1
 cases iW
 exact ⟨rfl,_,(wDw rfl rfl),U9,_,(im.pick [0] _ (by decide) rfl),none,0,rfl,rfl⟩
 try dsimp only at ba
 obtain ⟨bI,cu,cV,cw,cW,cx,cX,cy,cZ,ac,af,ae,bA,bN,rfl,rfl,gz,gA,gB,gC,gE⟩:=dp
 let B1:Res:=.blk bI 124 [.slice cu au.Race.Starts.length cV,.slice cw au.Race.Splits.length cW,.slice cx au.Race.Clocks.length cX,.slice cy au.Race.Readings.length cZ,.map (some ac),.slice bA au.edges.length bN]
 have dw:sW w U U9 [B1,.obj ac (.map af ae),.row bA bN 151 7 (hH wAN au.edges),.blk b2 45 B0] bq:=dq
 refine oM Z Z (oR Z (zZ Z Z (v:=.pointer (some ⟨bI,0,none⟩)) Z) (oR Z (zZ Z Z (v:=jV x6) Z) (oA Z Z (oA Z Z (eN (zJ (zY (sR fL3 Z (oM Z Z (oR Z (Zb Z Z Z) (oA Z Z (eN (ifc ba ?_ ?_)))))))))))))
 intro bR jb
 refine zj (ZA (fun h=>h bR.out)) (sR gDn Z (oM Z Z ?_))
 have q:=dw.freezeR (k:=2) (n:=au.edges.length) rfl (wAC (f:=wAN) (sz:=7) (fun _=>rfl) au.edges) (by decide)
 obtain ⟨cI,an,jg,iB⟩:=q
 have iC:sW w U cI [B1,.obj ac (.map af ae),.blk b2 45 B0] bq:=iB
 have gF:=gz.le an
 have gG:=gA.le an
 have gH:=gB.le an
 have gI:=gC.le an
 refine bnK jb fun jO gJ jc=>zG 2 Z Z Z Z (zH Z Z Tryz.call66 (zB Z zN) Z) iC (fun hs=>wBq au bI cu cV cw cW cx cX cy cZ ac af ae bA bN bq cI hs gF gG gH gI gE jg gJ) (.inl Z) ?_
 rintro bo jt jL dW aG iD ⟨rfl,rfl⟩
 have bX:sW w U bo [B1,.obj ac (.map af ae),.blk b2 45 B0] dW:=iD
 refine oA Z Z (eN (ifc jc ?_ ?_))
 intro bS jd
 refine ZK (congrArg hJ bS.out) (sR fL2 Z (oA Z Z (oA Z Z (eN (zR (zn (zW (wFE ?_))))))))
 have iE:=bX.nilrow 3 1
 cases jd
 exact ⟨rfl,_,(wDw rfl rfl),bo,_,(iE.pick [0] _ (by decide) rfl),none,0,rfl,rfl⟩
 intro bS cm
 refine zj (congrArg hJ (nA.2 bS.out)) (ZS (zk (zI (sR fL1 Z (oA Z Z (eN (zJ (sR fL4 Z (oR Z (zM Z Z zP Z Zk) (oL Z (bX.ldB (j:=2) Z Z Z yF (v:=.slice ao O.Readings.length ap) Z) (oR Z (zx Z Z ZR) (oM Z Z (eN (zY ?_))))))))))))))
 have q:=wBs cm
 obtain ⟨jF,bZ⟩:=q
 have q:=wBr bZ
 obtain ⟨cj,iN⟩:=q
 replace cj:=zK cj
 refine yQ (fun am _ σ_ w_=>∃ (U_:PHeap),σ_ 25=jV (↑am:Int)/\σ_ 1=.pointer (some ⟨b2,0,none⟩)/\σ_ 6=.slice none 0 0/\σ_ 24=jV (↑O.Readings.length:Int)/\PHeap.Le bo U_/\sW w U U_ [B1,.obj ac (.map af ae),.blk b2 45 B0] w_) iN ?_ ?_ ?_
 exact ⟨bo,Z,Z,Z,Z,(zL _),bX⟩
 rintro am ⟨⟩ jR jX jA cg ⟨dN,bV,dl,ej,dm,bf,iF⟩ dF iL
 try dsimp only at dF
 have de:Hid ((↑am:Int) < (↑O.Readings.length:Int)):=zK (wAx cg)
 replace cg:=zK cg
 have iO:Hid (w64 ((↑am:Int) + 1)=(↑(am + 1):Int)):=zK (by have h1:=cj.out;have h2:=de.out;rw [wAW] <;> omega)
 refine sR fL1 Z (oR Z (zT Z bV dm) (eN (zJ (cT Z de (kN (zJ (zY (sR gDw Z (oM Z bV (zX (cs:=[jV 0]) Z Z Z Z Z zt Z iF ?_))))))))))
 intro jB aO iG
 let B2:List Value:=[jV (↑am:Int)]
 refine za (j:=0) (vs:=B2) Z Z Z Z iG Z Z Z Z zC (zA Z) Z Z Z ?_
 intro bH iH
 have dx:sW w U dN [.blk aO 3 B2,B1,.obj ac (.map af ae),.blk b2 45 B0] bH:=iH
 refine eN (sR gEc Z (oL Z (dx.ldBA (j:=3) Z Z dl zm zf (vs:=B0) Z Z) ?_))
 have q:=dx.freeze (k:=0) rfl
 obtain ⟨bj,bb,aP,gO⟩:=q
 replace aP:=Cl.of aP
 have gP:sW w U bj [B1,.obj ac (.map af ae),.blk b2 45 B0] bH:=gO
 replace aP:Cl bj aO 0 B2:=aP
 refine oR Z (Runs.mkf Z zN (zB Z zN)) ?_
 have ez:=ca.le aE
 have eA:=ez.le an
 have eB:=eA.le aG
 have eE:=eB.le bf
 have eF:=eE.le bb
 have eG:=cb.le aE
 have eH:=eG.le an
 have eI:=eH.le aG
 have eJ:=eI.le bf
 have eL:=eJ.le bb
 have eM:=cc.le aE
 have eO:=eM.le an
 have eQ:=eO.le aG
 have eR:=eQ.le bf
 have eS:=eR.le bb
 have eT:=cd.le aE
 have eU:=eT.le an
 have eV:=eU.le aG
 have eW:=eV.le bf
 have eX:=eW.le bb
 have gM:FnOK Tryz.prog bj (.func (.func 68) #[] #[.pointer (some ⟨aO,0,none⟩)]) wLS wLT (fun x=>wDB x.1 x.2 (↑am:Int)):=⟨68,[],[.pointer (some ⟨aO,0,none⟩)],rfl,Tryz.call68,fun U1 w1 x y vs le hs ha hm=>by obtain rfl:=ha;exact wHJ x.1 x.2 (↑am:Int) aO w1 U1 hs (aP.le le) hm⟩
 refine bnK dF fun aq eY iP=>zG 0 Z Z Z Z (zH Z Z Tryz.call67 (zB Z (zB Z zN)) Z) gP (fun hs=>wDH O aT aW aU aX aV aY ao ap (fun x=>wDB x.1 x.2 (↑am:Int)) (.func (.func 68) #[] #[.pointer (some ⟨aO,0,none⟩)]) bH bj hs eF eL eS eX gM eY) (.inr Z) ?_
 rintro dJ jo jH bF dG gQ ⟨cL,cp,cQ,cq,cR,cr,cS,ct,cU,aS,a6,aZ,bz,bL,rfl,rfl,eZ,e6,e7,e8,e9⟩
 let B3:Res:=.blk cL 124 [.slice cp aq.Race.Starts.length cQ,.slice cq aq.Race.Splits.length cR,.slice cr aq.Race.Clocks.length cS,.slice ct aq.Race.Readings.length cU,.map (some aS),.slice bz aq.edges.length bL]
 have gR:sW w U dJ [B3,.obj aS (.map a6 aZ),.row bz bL 151 7 (hH wAN aq.edges),B1,.obj ac (.map af ae),.blk b2 45 B0] bF:=gQ
 have q:=gR.freezeR (k:=2) (n:=aq.edges.length) rfl (wAC (f:=wAN) (sz:=7) (fun _=>rfl) aq.edges) (by decide)
 obtain ⟨cD,aQ,je,gS⟩:=q
 have gT:sW w U cD [B3,.obj aS (.map a6 aZ),B1,.obj ac (.map af ae),.blk b2 45 B0] bF:=gS
 have fb:=eZ.le aQ
 have fc:=e6.le aQ
 have fd:=e7.le aQ
 have ff:=e8.le aQ
 refine bnK iP fun jM fg iQ=>zG 2 Z Z Z Z (zH Z Z Tryz.call66 (zB Z zN) Z) gT (fun hs=>wBq aq cL cp cQ cq cR cr cS ct cU aS a6 aZ bz bL bF cD hs fb fc fd ff e9 je fg) (.inl Z) ?_
 rintro bk jp jI dP dH gU ⟨rfl,rfl⟩
 have bW:sW w U bk [B3,.obj aS (.map a6 aZ),B1,.obj ac (.map af ae),.blk b2 45 B0] dP:=gU
 refine eN (ifc iQ ?_ ?_)
 intro bM iR
 refine ZK (congrArg hJ bM.out) (sR gEd Z ?_)
 have fh:=aP.le dG
 have fj:=fh.le aQ
 have fk:=fj.le dH
 refine oL Z (bW.ldC (f:=0) fk (v:=jV (↑am:Int)) Z Z zF Z) (zr (pv:=[(0,jV (↑am:Int))]) (zs:=[jV 0]) (cs:=B2) Z Z Z Z Z (wAE Z wAL) zD zC zt Z Z Z Z Z bW ?_)
 intro dQ cM gV
 have gW:sW w U bk [.row (some ⟨cM,0,none⟩) 1 3 1 (hH KL.encI [(↑am:Int)]),B3,.obj aS (.map a6 aZ),B1,.obj ac (.map af ae),.blk b2 45 B0] dQ:=gV
 refine oA Z Z (oA Z Z (eN (zR (zn (zW ?_)))))
 have q:=wAY iR
 obtain ⟨jh,iS,dZ⟩:=q
 have q:=wBo cm bZ (iL jh dZ)
 obtain rfl:=q
 refine zW (zn (zW (wFE ?_)))
 cases iS
 exact ⟨rfl,_,(wDw rfl rfl),bk,_,(gW.pick [0] _ (by decide) rfl),(some ⟨cM,0,none⟩),1,rfl,rfl⟩
 intro bM iT
 refine zj (congrArg hJ (nA.2 bM.out)) (ZS (zk (zI (rR fL2 Z (oR Z (ZI (zV Z bV Z) (congrArg (jV) iO.out)) (oM Z Z (zc ?_)))))))
 have q:=nB iT
 obtain rfl:=q
 exact zI ⟨rfl,_,rfl,⟨bk,rfl,dl,ej,dm,((((bf.trans bb).trans dG).trans aQ).trans dH),(bW.pick [2,3,4] _ (by decide) rfl)⟩⟩
 rintro ⟨⟩ jS ju ⟨cE,en,df,d7,d8,bv,dr⟩ iI
 have bu:=wCk cm bZ iI
 try dsimp only at bu
 have dX:Hid (¬ ((↑(((↑O.Readings.length:Int):Int) - 0).toNat:Int) < (↑O.Readings.length:Int))):=zK (wAd)
 refine sR fL1 Z (oR Z (zT Z en d8) (eN (zJ (cF Z dX (ZQ (zg (zg (ZJ (zI (zJ (CK.label (zI (zJ (sR fL4 Z (oR Z (zM Z df zP Z Zk) (oL Z (dr.ldB (j:=2) Z Z Z yF (v:=.slice ao O.Readings.length ap) Z) (oR Z (zx Z Z ZR) (oM Z Z (eN (zY ?_))))))))))))))))))))
 have q:=wBs bu
 obtain ⟨jE,bY⟩:=q
 have q:=wBr bY
 obtain ⟨ci,iM⟩:=q
 replace ci:=zK ci
 refine yQ (fun aj _ σ_ w_=>∃ (U_:PHeap),σ_ 38=jV (↑aj:Int)/\σ_ 1=.pointer (some ⟨b2,0,none⟩)/\σ_ 6=.slice none 0 0/\σ_ 37=jV (↑O.Readings.length:Int)/\PHeap.Le cE U_/\sW w U U_ [B1,.obj ac (.map af ae),.blk b2 45 B0] w_) iM ?_ ?_ ?_
 exact ⟨cE,Z,df,d7,Z,(zL _),dr⟩
 rintro aj ⟨⟩ jP jT jv cf ⟨cG,bU,d9,ef,dg,bc,gX⟩ dD iJ
 try dsimp only at dD
 have cY:Hid ((↑aj:Int) < (↑O.Readings.length:Int)):=zK (wAx cf)
 replace cf:=zK cf
 have dz:Hid (w64 ((↑aj:Int) + 1)=(↑(aj + 1):Int)):=zK (by have h1:=ci.out;have h2:=cY.out;rw [wAW] <;> omega)
 refine sR fL1 Z (oR Z (zT Z bU dg) (eN (zJ (cT Z cY (kN (zJ (zY (sR gDw Z (oM Z bU (zX (cs:=[jV 0]) Z Z Z Z Z zt Z gX ?_))))))))))
 intro jw ax gY
 let B4:List Value:=[jV (↑aj:Int)]
 refine za (j:=0) (vs:=B4) Z Z Z Z gY Z Z Z Z zC (zA Z) Z Z Z ?_
 intro dR gZ
 have dt:sW w U cG [.blk ax 3 B4,B1,.obj ac (.map af ae),.blk b2 45 B0] dR:=gZ
 refine eN (sR gEc Z (oL Z (dt.ldB (j:=0) Z Z Z zF (v:=jV (↑aj:Int)) Z) (oR Z (ZI (zV Z Z Z) (congrArg (jV) dz.out)) (zX (cs:=[jV 0]) Z Z Z Z Z zt Z dt ?_))))
 intro jx bJ g6
 let B5:List Value:=[jV (↑(aj + 1):Int)]
 refine za (j:=0) (vs:=B5) Z Z Z Z g6 Z Z Z Z zC (zA Z) Z Z Z ?_
 intro cJ g7
 have g8:sW w U cG [.blk bJ 3 B5,.blk ax 3 B4,B1,.obj ac (.map af ae),.blk b2 45 B0] cJ:=g7
 refine eN (zY ?_)
 have q:=g8.freeze (k:=1) rfl
 obtain ⟨bm,be,a7,g9⟩:=q
 replace a7:=Cl.of a7
 have ib:sW w U bm [.blk bJ 3 B5,B1,.obj ac (.map af ae),.blk b2 45 B0] cJ:=g9
 replace a7:Cl bm ax 0 B4:=a7
 refine yl (fun ah σ_ w_=>∃ (U_:PHeap) (ay:Nat),σ_ 1=.pointer (some ⟨b2,0,none⟩)/\σ_ 6=.slice none 0 0/\σ_ 8=.pointer (some ⟨ax,0,none⟩)/\σ_ 9=.pointer (some ⟨ay,0,none⟩)/\σ_ 37=jV (↑O.Readings.length:Int)/\σ_ 38=jV (↑aj:Int)/\PHeap.Le bm U_/\sW w U U_ [B1,.obj ac (.map af ae),.blk b2 45 B0,.blk ay 3 [jV ah]] w_) dD ?_ ?_
 exact ⟨bm,bJ,d9,ef,rfl,rfl,dg,bU,(zL _),(ib.pick [1,2,3,0] _ (by decide) rfl)⟩
 rintro ah jQ jU cK ⟨dK,ay,br,dh,bT,bt,di,dk,aL,a8⟩ dE dy
 refine zJ (sR fL5 Z (oL Z (a8.ldB (j:=3) Z Z bt zF (v:=jV ah) Z) (oR Z (zM Z br zP Z Zk) (oL Z (a8.ldB (j:=2) Z Z Z yF (v:=.slice ao O.Readings.length ap) Z) (oR Z (zx Z Z ZR) (oR Z (zT Z Z Z) (eN ?_)))))))
 by_cases az:ah < (↑O.Readings.length:Int)
 have dA:=dE;rw [if_pos az] at dA;replace az:=zK az
 refine cT Z az (kN (zJ (zY (sR gEc Z (oL Z (a8.ldBA (j:=2) Z Z br zm zf (vs:=B0) Z Z) ?_)))))
 have q:=a8.freeze (k:=3) rfl
 obtain ⟨bn,aR,aK,ic⟩:=q
 replace aK:=Cl.of aK
 have ie:sW w U bn [B1,.obj ac (.map af ae),.blk b2 45 B0] cK:=ic
 replace aK:Cl bn ay 0 [jV ah]:=aK
 refine oR Z (Runs.mkf Z zN (zB bT (zB bt zN))) ?_
 have fm:=ca.le aE
 have fq:=fm.le an
 have ft:=fq.le aG
 have fu:=ft.le bv
 have fw:=fu.le bc
 have fy:=fw.le be
 have fz:=fy.le aL
 have fA:=fz.le aR
 have fB:=cb.le aE
 have fC:=fB.le an
 have fD:=fC.le aG
 have fE:=fD.le bv
 have fG:=fE.le bc
 have fH:=fG.le be
 have fI:=fH.le aL
 have fJ:=fI.le aR
 have fK:=cc.le aE
 have fL:=fK.le an
 have fM:=fL.le aG
 have fN:=fM.le bv
 have fO:=fN.le bc
 have fP:=fO.le be
 have fQ:=fP.le aL
 have fR:=fQ.le aR
 have fS:=cd.le aE
 have fT:=fS.le an
 have fU:=fT.le aG
 have fV:=fU.le bv
 have fW:=fV.le bc
 have fY:=fW.le be
 have fZ:=fY.le aL
 have f4:=fZ.le aR
 have f5:=a7.le aL
 have dn:=f5.le aR
 have gN:FnOK Tryz.prog bn (.func (.func 69) #[] #[.pointer (some ⟨ax,0,none⟩),.pointer (some ⟨ay,0,none⟩)]) wLS wLT (fun x=>wDC x.1 x.2 (↑aj:Int) ah):=⟨69,[],[.pointer (some ⟨ax,0,none⟩),.pointer (some ⟨ay,0,none⟩)],rfl,Tryz.call69,fun U1 w1 x y vs le hs ha hm=>by obtain rfl:=ha;exact wHK x.1 x.2 (↑aj:Int) ax ah ay w1 U1 hs (dn.le le) (aK.le le) hm⟩
 refine bnK dA fun av f6 iU=>zG 0 Z Z Z Z (zH Z Z Tryz.call67 (zB Z (zB Z zN)) Z) ie (fun hs=>wDH O aT aW aU aX aV aY ao ap (fun x=>wDC x.1 x.2 (↑aj:Int) ah) (.func (.func 69) #[] #[.pointer (some ⟨ax,0,none⟩),.pointer (some ⟨ay,0,none⟩)]) cK bn hs fA fJ fR f4 gN f6) (.inr Z) ?_
 rintro dL jq jJ bG bw ii ⟨cN,cz,c6,cA,da,cB,db,cC,dd,aH,aJ,aI,bB,bP,rfl,rfl,f7,f8,f9,ga,gb⟩
 let B6:Res:=.blk cN 124 [.slice cz av.Race.Starts.length c6,.slice cA av.Race.Splits.length da,.slice cB av.Race.Clocks.length db,.slice cC av.Race.Readings.length dd,.map (some aH),.slice bB av.edges.length bP]
 have ij:sW w U dL [B6,.obj aH (.map aJ aI),.row bB bP 151 7 (hH wAN av.edges),B1,.obj ac (.map af ae),.blk b2 45 B0] bG:=ii
 have q:=ij.freezeR (k:=2) (n:=av.edges.length) rfl (wAC (f:=wAN) (sz:=7) (fun _=>rfl) av.edges) (by decide)
 obtain ⟨cH,aF,jf,ik⟩:=q
 have il:sW w U cH [B6,.obj aH (.map aJ aI),B1,.obj ac (.map af ae),.blk b2 45 B0] bG:=ik
 have ge:=f7.le aF
 have gf:=f8.le aF
 have gg:=f9.le aF
 have gh:=ga.le aF
 refine bnK iU fun jN gi iX=>zG 2 Z Z Z Z (zH Z Z Tryz.call66 (zB Z zN) Z) il (fun hs=>wBq av cN cz c6 cA da cB db cC dd aH aJ aI bB bP bG cH hs ge gf gg gh gb jf gi) (.inl Z) ?_
 rintro aN jr jK dS bx io ⟨rfl,rfl⟩
 have a9:sW w U aN [B6,.obj aH (.map aJ aI),B1,.obj ac (.map af ae),.blk b2 45 B0] dS:=io
 refine eN (ifc iX ?_ ?_)
 intro bQ iY
 refine ZK (congrArg hJ bQ.out) (sR gEb Z ?_)
 have gj:=dn.le bw
 have gk:=gj.le aF
 have gm:=gk.le bx
 refine oL Z (a9.ldC (f:=0) gm (v:=jV (↑aj:Int)) Z bT zF Z) ?_
 have gp:=aK.le bw
 have gq:=gp.le aF
 have gt:=gq.le bx
 refine oL Z (a9.ldC (f:=0) gt (v:=jV ah) Z bt zF Z) (zr (pv:=[(0,jV (↑aj:Int)),(1,jV ah)]) (zs:=[jV 0,jV 0]) (cs:=[jV (↑aj:Int),jV ah]) Z Z Z Z Z (wAE Z (wAE Z wAL)) zD zC zt Z Z Z Z Z a9 ?_)
 intro dT cO ip
 have iq:sW w U aN [.row (some ⟨cO,0,none⟩) 2 3 1 (hH KL.encI [(↑aj:Int),ah]),B6,.obj aH (.map aJ aI),B1,.obj ac (.map af ae),.blk b2 45 B0] dT:=ip
 refine oA Z Z (eN (ZQ (wHW (zg ?_))))
 have q:=wAY iY
 obtain ⟨ji,iZ,d4⟩:=q
 have q:=dy ji d4
 obtain rfl:=q
 refine zg (wHW (wHW (zg ?_)))
 have q:=wAY iZ
 obtain ⟨jj,i7,d5⟩:=q
 have q:=wBo bu bY (iJ jj d5)
 obtain rfl:=q
 refine zg (ZJ (zI (zJ (sR fL3 rfl (zU rfl rfl rfl rfl rfl rfl (ze rfl rfl rfl rfl (fun _=>zx rfl rfl zD) (ze rfl rfl rfl rfl (fun _=>yO rfl rfl rfl) (eN (zj (ZA (by decide)) (kN (sR fL3 rfl (zU rfl rfl rfl rfl rfl rfl (Zy rfl rfl rfl rfl rfl rfl (Zy rfl rfl rfl rfl rfl rfl (eN (zR (wFE ?_)))))))))))))))))
 cases i7
 exact ⟨rfl,_,(wDw rfl rfl),aN,_,(iq.pick [0] _ (by decide) rfl),(some ⟨cO,0,none⟩),2,rfl,rfl⟩
 intro bQ i8
 refine zj (congrArg hJ (nA.2 bQ.out)) (ZS (zk (zI (zJ (sR fL1 Z ?_)))))
 have gu:=aK.le bw
 have gv:=gu.le aF
 have gw:=gv.le bx
 refine oL Z (a9.ldC (f:=0) gw (v:=jV ah) Z bt zF Z) (eN (rR gDh Z (zX (cs:=[jV 0]) Z Z Z Z Z zt Z a9 ?_)))
 intro jy bK ir
 refine za (j:=0) (vs:=[jV ah]) Z Z Z Z ir Z Z Z Z zC (zA Z) Z Z Z ?_
 intro dU it
 have dv:sW w U aN [.blk bK 3 [jV ah],B6,.obj aH (.map aJ aI),B1,.obj ac (.map af ae),.blk b2 45 B0] dU:=it
 refine eN (rR gDx Z (oL Z (dv.ldB (j:=0) Z Z Z zF (v:=jV ah) Z) (oR Z (zV Z Z Z) (za (j:=0) (vs:=[jV (w64 (ah + 1))]) Z Z Z Z dv Z Z Z Z zC (zA Z) Z Z Z ?_))))
 intro dV iu
 have iv:sW w U aN [.blk bK 3 [jV (w64 (ah + 1))],B6,.obj aH (.map aJ aI),B1,.obj ac (.map af ae),.blk b2 45 B0] dV:=iu
 refine zc ?_
 have q:=nB i8
 obtain rfl:=q
 exact zI ⟨rfl,_,rfl,⟨aN,bK,br,dh,bT,rfl,di,dk,((((aL.trans aR).trans bw).trans aF).trans bx),(iv.pick [3,4,5,0] _ (by decide) rfl)⟩⟩
 have dB:=dE;rw [if_neg az] at dB;replace az:=zK az
 refine cF Z az (ZQ (zg ?_))
 have q:=wAY dB
 obtain ⟨jk,i9,d6⟩:=q
 have q:=dy jk d6
 obtain rfl:=q
 refine zg (ZJ (zk (zI (rR fL2 Z (oR Z (ZI (zV Z dk Z) (congrArg (jV) dz.out)) (oM Z Z (zc ?_)))))))
 have q:=nB i9
 obtain rfl:=q
 exact zI ⟨rfl,_,rfl,⟨dK,rfl,br,dh,di,((bc.trans be).trans aL),(a8.pick [0,1,2] _ (by decide) rfl)⟩⟩
 rintro ⟨⟩ jW jz ⟨dM,eo,jC,eg,eh,jD,iw⟩ iK
 have dC:=wCk bu bY iK
 try dsimp only at dC
 have dY:Hid (¬ ((↑(((↑O.Readings.length:Int):Int) - 0).toNat:Int) < (↑O.Readings.length:Int))):=zK (wAd)
 refine sR fL1 rfl (ze rfl rfl rfl rfl (fun _=>zT rfl eo eh) (eN (zJ (cF Z dY (ZQ (zg (zg (ZJ (zI (zJ (sR fL3 rfl (zU rfl rfl rfl rfl rfl eg (ze rfl rfl rfl rfl (fun _=>zx rfl rfl zD) (ze rfl rfl rfl rfl (fun _=>yO rfl rfl rfl) (eN (ZK (Za (by decide)) (sR fL2 rfl (Zy rfl rfl rfl rfl rfl rfl (Zy rfl rfl rfl rfl rfl rfl (eN (zR (zW (wFE ?_)))))))))))))))))))))))
 have iz:=iw.nilrow 3 1
 cases dC
 exact ⟨rfl,_,(wDw rfl rfl),dM,_,(iz.pick [0] _ (by decide) rfl),none,0,rfl,rfl⟩
 intro bR ja
 refine cT Z bR (sR fL3 Z (oM Z Z (oA Z Z (oA Z Z (eN (zR (zn (zW (wFE ?_)))))))))
 have iA:=dw.nilrow 3 1
 cases ja
 exact ⟨rfl,_,(wDw rfl rfl),U9,_,(iA.pick [0] _ (by decide) rfl),none,0,rfl,rfl⟩
theorem wHL (p0:Int) (O:wAJ) (p2:Int) (ae:Nat) (w:World) (U:PHeap) (hS:St0 w U []) (af:Cl U ae 0 [jV p2]) {r:Bool} (hm:wDD p0 O p2=some r):Gv Tryz.prog 70 [jV p0,.agg #[jV O.Skier,jV O.Mat,jV O.Clock,jV O.Time],.pointer (some ⟨ae,0,none⟩)] w (wBl w [] U (fun U_ L_ v=>v=.bool r/\L_=[])):=by
 unfold wDD at hm
 refine Gv.of Tryz.func70 rfl Tryz.ntmps70 Tryz.results70 rfl (sR gDi rfl (zu (cs:=[jV O.Skier,jV O.Mat,jV O.Clock,jV O.Time]) rfl rfl rfl rfl rfl rfl (by rfl) hS ?_))
 intro W1 b2 aa
 refine oA Z Z (eN (sR fL5 Z (oR Z (zM Z Z Zi Z zC) (oL Z (aa.ldB (j:=0) Z Z Z zF (v:=jV O.Skier) Z) (oL Z (aa.ldC (f:=0) af (v:=jV p2) Z Z zF Z) (oR Z (yO Z Z Z) (oA Z Z (eN (zR ?_)))))))))
 first | (obtain rfl:=nB hm) | cases hm
 exact ⟨rfl,_,(ZG rfl),U,_,(aa.pick [] _ (by decide) rfl),rfl,rfl⟩
theorem wIJ (O:wAD) (aF:Option Addr) (aG:Nat) (aN:Option Addr) (aQ:Nat) (aO:Option Addr) (aR:Nat) (aP:Option Addr) (aS:Nat) (w:World) (U:PHeap) (hS:St0 w U []) (cb:Sl U 1 aF aG O.Starts.length (hH KL.encI O.Starts)) (cc:Sl U 2 aN aQ O.Splits.length (hH wAA O.Splits)) (cd:Sl U 3 aO aR O.Clocks.length (hH wAG O.Clocks)) (cf:Sl U 4 aP aS O.Readings.length (hH wAB O.Readings)) {r:(List Int) × Int} (hm:wEv O=some r):Gv Tryz.prog 44 [.agg #[.slice aF O.Starts.length aG,.slice aN O.Splits.length aQ,.slice aO O.Clocks.length aR,.slice aP O.Readings.length aS]] w (wBl w [] U (fun U_ L_ v=>∃ (A0:Option Addr) (c0:Nat),v=.tuple #[.slice A0 r.1.length c0,jV r.2]/\L_=[.row A0 c0 3 1 (hH KL.encI r.1)])):=by
 unfold wEv at hm
 refine Gv.of Tryz.func44 Z Tryz.ntmps44 Tryz.results44 Z (sR gDv Z ?_)
 let B0:List Value:=[.slice aF O.Starts.length aG,.slice aN O.Splits.length aQ,.slice aO O.Clocks.length aR,.slice aP O.Readings.length aS]
 refine zu (cs:=B0) rfl rfl rfl rfl rfl rfl (by rfl) hS ?_
 intro W1 b2 bZ
 refine oA Z Z (oA Z Z (eN (sR (.fl 0 (.fx 1 (wHp (.nil)) .stop)) Z (oL Z (bZ.ldBA (j:=0) Z Z Z zm zf (vs:=B0) Z Z) ?_))))
 have q:=bnd hm
 obtain ⟨⟨x5,x6⟩,h7,aL⟩:=q
 try dsimp only at aL
 refine zG 0 Z Z Z Z (zH Z Z Tryz.call64 (zB Z zN) Z) bZ (fun hs=>wEN O aF aG aN aQ aO aR aP aS W1 U hs cb cc cd cf h7) (.inr Z) ?_
 rintro U9 eJ eV aX aZ bX bV
 rcases x5 with _ | am
 try dsimp only at aL
 obtain ⟨rfl,rfl⟩:=bV
 have dT:sW w U U9 [.blk b2 45 B0] aX:=bX
 refine oM Z Z (oR Z (zZ Z Z (v:=.pointer none) Z) (oR Z (zZ Z Z (v:=jV x6) Z) (oA Z Z (oA Z Z (eN (zJ (zY (sR fL3 Z (oM Z Z (oR Z (Zb Z Z Z) (oA Z Z (eN (ifc aL ?_ ?_)))))))))))))
 intro bg eh
 refine zj (ZA (fun h=>h bg.out)) (sR gDn Z (oM Z Z ?_))
 cases eh
 intro bg ej
 refine cT Z bg (sR fL3 Z (oM Z Z (oA Z Z (oA Z Z (eN (zR (zn (zW ?_))))))))
 have dU:=dT.nilrow 3 1
 cases ej
 exact ⟨rfl,_,(wDw rfl rfl),U9,_,(dU.pick [0] _ (by decide) rfl),none,0,rfl,rfl⟩
 try dsimp only at aL
 obtain ⟨bb,bx,bP,bA,bQ,bB,bR,bD,bT,ae,ag,af,a8,bf,rfl,rfl,dr,dt,du,dv,dw⟩:=bV
 let B1:Res:=.blk bb 124 [.slice bx am.Race.Starts.length bP,.slice bA am.Race.Splits.length bQ,.slice bB am.Race.Clocks.length bR,.slice bD am.Race.Readings.length bT,.map (some ae),.slice a8 am.edges.length bf]
 have ca:sW w U U9 [B1,.obj ae (.map ag af),.row a8 bf 151 7 (hH wAN am.edges),.blk b2 45 B0] aX:=bX
 refine oM Z Z (oR Z (zZ Z Z (v:=.pointer (some ⟨bb,0,none⟩)) Z) (oR Z (zZ Z Z (v:=jV x6) Z) (oA Z Z (oA Z Z (eN (zJ (zY (sR fL3 Z (oM Z Z (oR Z (Zb Z Z Z) (oA Z Z (eN (ifc aL ?_ ?_)))))))))))))
 intro bh en
 refine zj (ZA (fun h=>h bh.out)) (sR gDn Z (oM Z Z ?_))
 have q:=ca.freezeR (k:=2) (n:=am.edges.length) rfl (wAC (f:=wAN) (sz:=7) (fun _=>rfl) am.edges) (by decide)
 obtain ⟨bH,an,eF,dV⟩:=q
 have dW:sW w U bH [B1,.obj ae (.map ag af),.blk b2 45 B0] aX:=dV
 have dx:=dr.le an
 have dy:=dt.le an
 have dz:=du.le an
 have dA:=dv.le an
 refine bnK en fun e6 dB eo=>zG 2 Z Z Z Z (zH Z Z Tryz.call66 (zB Z zN) Z) dW (fun hs=>wBq am bb bx bP bA bQ bB bR bD bT ae ag af a8 bf aX bH hs dx dy dz dA dw eF dB) (.inl Z) ?_
 rintro aV eO eY cx a6 dX ⟨rfl,rfl⟩
 have bn:sW w U aV [B1,.obj ae (.map ag af),.blk b2 45 B0] cx:=dX
 refine oA Z Z (eN (ifc eo ?_ ?_))
 intro bi ez
 refine ZK (congrArg hJ bi.out) (sR fL2 Z (oA Z Z (oA Z Z (eN (zR (zn (zW ?_)))))))
 have dY:=bn.nilrow 3 1
 cases ez
 exact ⟨rfl,_,(wDw rfl rfl),aV,_,(dY.pick [0] _ (by decide) rfl),none,0,rfl,rfl⟩
 intro bi eA
 refine zj (congrArg hJ (nA.2 bi.out)) (ZS (zk (zI (sR fL1 Z (oA Z Z (eN (zJ (sR fL4 Z (oR Z (zM Z Z zP Z ZC) (oL Z (bn.ldB (j:=2) Z Z Z ZH (v:=.slice aF O.Starts.length aG) Z) (oR Z (zx Z Z zD) (oM Z Z (eN (zY (bnK eA fun e8 d4 eB=>?_)))))))))))))))
 have q:=wBE d4
 obtain ⟨bp,d5⟩:=q
 replace bp:=zK bp
 refine CK.forN' (fun ab aM σ_ w_=>∃ (U_:PHeap) (aH:Option Addr) (aK:Nat),σ_ 24=jV (↑ab:Int)/\σ_ 1=.pointer (some ⟨b2,0,none⟩)/\σ_ 6=.slice aH aM.length aK/\σ_ 23=jV (↑O.Starts.length:Int)/\PHeap.Le aV U_/\sW w U U_ [B1,.obj ae (.map ag af),.blk b2 45 B0,.row aH aK 3 1 (hH KL.encI aM)] w_) d5 ?_ ?_ ?_
 have dZ:=bn.nilrow 3 1
 exact ⟨aV,none,0,rfl,rfl,rfl,rfl,(zL _),(dZ.pick [1,2,3,0] _ (by decide) rfl)⟩
 rintro ab aM e7 fb eS bo ⟨co,aH,aK,aY,bj,bU,bk,az,dE⟩ eG
 have bK:Hid ((↑ab:Int) < (↑O.Starts.length:Int)):=zK (wAx bo)
 replace bo:=zK bo
 have cg:Hid (w64 ((↑ab:Int) + 1)=(↑(ab + 1):Int)):=zK (by have h1:=bp.out;have h2:=bK.out;rw [wAW] <;> omega)
 refine sR fL1 Z (oR Z (zT Z aY bk) (eN (zJ (cT Z bK (kN (zJ (zY (sR gDw Z (oM Z aY (zX (cs:=[jV 0]) Z Z Z Z Z zt Z dE ?_))))))))))
 intro eQ au dF
 let B2:List Value:=[jV (↑ab:Int)]
 refine za (j:=0) (vs:=B2) Z Z Z Z dF Z Z Z Z zC (zA Z) Z Z Z ?_
 intro a9 dG
 let B3:Res:=.row aH aK 3 1 (hH KL.encI aM)
 have bW:sW w U co [.blk au 3 B2,B1,.obj ae (.map ag af),.blk b2 45 B0,B3] a9:=dG
 refine eN (sR gEh Z (oL Z (bW.ldBA (j:=3) Z Z bj zm zf (vs:=B0) Z Z) ?_))
 have q:=bW.freeze (k:=0) rfl
 obtain ⟨aU,aE,ay,dH⟩:=q
 replace ay:=Cl.of ay
 have dI:sW w U aU [B1,.obj ae (.map ag af),.blk b2 45 B0,B3] a9:=dH
 replace ay:Cl aU au 0 B2:=ay
 refine oR Z (Runs.mkf Z zN (zB Z zN)) ?_
 have cE:=cb.le aZ
 have cG:=cE.le an
 have cH:=cG.le a6
 have cI:=cH.le az
 have cJ:=cI.le aE
 have cK:=cc.le aZ
 have cL:=cK.le an
 have cM:=cL.le a6
 have cN:=cM.le az
 have cO:=cN.le aE
 have cP:=cd.le aZ
 have cQ:=cP.le an
 have cR:=cQ.le a6
 have cS:=cR.le az
 have cU:=cS.le aE
 have cV:=cf.le aZ
 have cW:=cV.le an
 have cX:=cW.le a6
 have cY:=cX.le az
 have cZ:=cY.le aE
 have dD:FnOK Tryz.prog aU (.func (.func 70) #[] #[.pointer (some ⟨au,0,none⟩)]) wLS wLT (fun x=>wDD x.1 x.2 (↑ab:Int)):=⟨70,[],[.pointer (some ⟨au,0,none⟩)],rfl,Tryz.call70,fun U1 w1 x y vs le hs ha hm=>by obtain rfl:=ha;exact wHL x.1 x.2 (↑ab:Int) au w1 U1 hs (ay.le le) hm⟩
 refine bnK eG fun aj c6 d6=>zG 0 Z Z Z Z (zH Z Z Tryz.call67 (zB Z (zB Z zN)) Z) dI (fun hs=>wDH O aF aG aN aQ aO aR aP aS (fun x=>wDD x.1 x.2 (↑ab:Int)) (.func (.func 70) #[] #[.pointer (some ⟨au,0,none⟩)]) a9 aU hs cJ cO cU cZ dD c6) (.inr Z) ?_
 rintro cp eL eW ba bq dJ ⟨bI,bu,bL,bv,bM,bw,bN,bz,bO,ap,ax,av,a7,bc,rfl,rfl,da,db,dd,de,df⟩
 let B4:Res:=.blk bI 124 [.slice bu aj.Race.Starts.length bL,.slice bv aj.Race.Splits.length bM,.slice bw aj.Race.Clocks.length bN,.slice bz aj.Race.Readings.length bO,.map (some ap),.slice a7 aj.edges.length bc]
 have dK:sW w U cp [B4,.obj ap (.map ax av),.row a7 bc 151 7 (hH wAN aj.edges),B1,.obj ae (.map ag af),.blk b2 45 B0,B3] ba:=dJ
 refine oR Z (Runs.mkf Z (zB Z zN) zN) (oA Z Z (eN (sR gDm Z (oM Z Z ?_))))
 have q:=dK.freezeR (k:=2) (n:=aj.edges.length) rfl (wAC (f:=wAN) (sz:=7) (fun _=>rfl) aj.edges) (by decide)
 obtain ⟨bG,ao,eE,dL⟩:=q
 have dM:sW w U bG [B4,.obj ap (.map ax av),B1,.obj ae (.map ag af),.blk b2 45 B0,B3] ba:=dL
 have dg:=da.le ao
 have dh:=db.le ao
 have di:=dd.le ao
 have dk:=de.le ao
 refine bnK d6 fun eZ dl d7=>zG 2 Z Z Z Z (zH Z Z Tryz.call66 zN Z) dM (fun hs=>wBq aj bI bu bL bv bM bw bN bz bO ap ax av a7 bc ba bG hs dg dh di dk df eE dl) (.inl Z) ?_
 rintro aJ eM eX ct br dN ⟨rfl,rfl⟩
 have bm:sW w U aJ [B4,.obj ap (.map ax av),B1,.obj ae (.map ag af),.blk b2 45 B0,B3] ct:=dN
 refine eN (ifc d7 ?_ ?_)
 intro be d8
 refine ZK (congrArg hJ be.out) (rR gEj Z (oM Z bU ?_))
 have dm:=ay.le bq
 have dn:=dm.le ao
 have dp:=dn.le br
 refine oL Z (bm.ldC (f:=0) dp (v:=jV (↑ab:Int)) Z Z zF Z) (zr (pv:=[(0,jV (↑ab:Int))]) (zs:=[jV 0]) (cs:=B2) Z Z Z Z Z (wAE Z wAL) zD zC zt Z Z Z Z Z bm ?_)
 intro cu cy dO
 let B5:Res:=.row (some ⟨cy,0,none⟩) 1 3 1 (hH KL.encI [(↑ab:Int)])
 have bY:sW w U aJ [B5,B4,.obj ap (.map ax av),B1,.obj ae (.map ag af),.blk b2 45 B0,B3] cu:=dO
 refine bnK d8 fun ci dq d9=>Zn (j:=6) (enc:=KL.encI) (xs:=aM) (ys:=[(↑ab:Int)]) (zs:=ci) rfl rfl rfl rfl rfl yW wGs rfl rfl rfl rfl rfl rfl bY rfl rfl rfl (bY.srcR (j:=0) rfl (by decide) (wAC (f:=KL.encI) (sz:=1) (fun _=>rfl) [(↑ab:Int)])) (fun _=>rfl) (fun _=>rfl) dq rfl ?_
 intro bC bS cw dP
 have dQ:sW w U aJ [B5,B4,.obj ap (.map ax av),B1,.obj ae (.map ag af),.blk b2 45 B0,.row bC bS 3 1 (hH KL.encI ci)] cw:=dP
 refine oA Z Z (zc (zk (zI (rR fL2 Z (oR Z (ZI (zV Z aY Z) (congrArg (jV) cg.out)) (oM Z Z (zc ?_)))))))
 cases d9
 exact zI ⟨rfl,⟨aJ,bC,bS,rfl,bj,rfl,bk,((((az.trans aE).trans bq).trans ao).trans br),(dQ.pick [3,4,5,6] _ (by decide) rfl)⟩⟩
 intro be ef
 refine zj (congrArg hJ (nA.2 be.out)) (ZS (zk (zI (rR fL2 Z (oR Z (ZI (zV Z aY Z) (congrArg (jV) cg.out)) (oM Z Z (zc ?_)))))))
 cases ef
 exact zI ⟨rfl,⟨aJ,aH,aK,rfl,bj,bU,bk,((((az.trans aE).trans bq).trans ao).trans br),(bm.pick [2,3,4,5] _ (by decide) rfl)⟩⟩
 rintro e9 eR ⟨cq,cm,cz,cD,eT,cB,cC,eU,dR⟩
 have cA:Hid (¬ ((↑(((↑O.Starts.length:Int):Int) - 0).toNat:Int) < (↑O.Starts.length:Int))):=zK (wAd)
 refine sR fL1 Z (oR Z (zT Z cD cC) (eN (zJ (cF Z cA (ZQ (zg (zg (ZJ (zI (sR fL3 Z (oM Z cB (oA Z Z (oA Z Z (eN (zR ?_)))))))))))))))
 cases eB
 exact ⟨rfl,_,(wDw rfl rfl),cq,_,(dR.pick [3] _ (by decide) rfl),cm,cz,rfl,rfl⟩
 intro bh eg
 refine cT Z bh (sR fL3 Z (oM Z Z (oA Z Z (oA Z Z (eN (zR (zn (zW ?_))))))))
 have dS:=ca.nilrow 3 1
 cases eg
 exact ⟨rfl,_,(wDw rfl rfl),U9,_,(dS.pick [0] _ (by decide) rfl),none,0,rfl,rfl⟩
end Go.Proofs.YtkghaiefcjgfkaaGreat
namespace Go.Proofs.YtkghaiefcjgfkaaGreat
open Go.KL
set_option maxHeartbeats 4000000
theorem wDS (O:List Int) (ap:Option Addr) (au:Nat) (p1:List Int) (aq:Option Addr) (av:Nat) (w:World) (U:PHeap) (hS:St0 w U []) (aZ:Sl U 1 ap au O.length (hH KL.encI O)) (a6:Sl U 1 aq av p1.length (hH KL.encI p1)) {r:Bool} (hm:wBx O p1=some r):Gv Tryz.prog 45 [.slice ap O.length au,.slice aq p1.length av] w (wBl w [] U (fun U_ L_ v=>v=.bool r/\L_=[])):=by
 unfold wBx at hm
 refine Gv.of Tryz.func45 Z Tryz.ntmps45 Tryz.results45 Z (sR fL1 Z (oA Z Z (eN (zJ (sR fL5 Z (oM Z Z (oR Z (zx Z Z zD) (oM Z Z (oR Z (zx Z Z zD) (oR Z (Zb Z Z Z) (eN ?_)))))))))))
 by_cases c1:(↑O.length:Int)=(↑p1.length:Int)
 have af:=hm;rw [if_pos c1] at af;replace c1:=zK c1
 refine zj (ZA (fun h=>h c1.out)) (kN (zJ (sR fL3 Z (oM Z Z (oR Z (zx Z Z zD) (oM Z Z (eN (zY ?_))))))))
 have q:=wBs af
 obtain ⟨r5,aj⟩:=q
 have q:=wBr aj
 obtain ⟨an,a9⟩:=q
 replace an:=zK an
 refine yQ (fun k4 _ σ_ w_=>∃ (U_:PHeap),σ_ 13=jV (↑k4:Int)/\σ_ 0=.slice ap O.length au/\σ_ 1=.slice aq p1.length av/\σ_ 12=jV (↑O.length:Int)/\PHeap.Le U U_/\sW w U U_ [] w_) a9 ?_ ?_ ?_
 exact ⟨U,Z,Z,Z,Z,(zL _),hS⟩
 rintro k4 ⟨⟩ bw bz ay am ⟨ax,ah,aE,aF,aG,ao,aX⟩ aL a7
 try dsimp only at aL
 have az:Hid ((↑k4:Int) < (↑O.length:Int)):=zK (wAx am)
 replace am:=zK am
 have ba:Hid (w64 ((↑k4:Int) + 1)=(↑(k4 + 1):Int)):=zK (by have h1:=an.out;have h2:=az.out;rw [wAW] <;> omega)
 refine sR fL1 rfl (ze rfl rfl rfl rfl (fun _=>zT rfl ah aG) (eN (zJ (cT Z az (kN (zJ (zY (sR fL2 rfl (zU rfl rfl rfl rfl rfl ah (Zy rfl rfl rfl rfl rfl rfl (eN (zJ (ZB zw [3,3,3,1,3,3,3,1,3] fL9 (by kernel_rfl) ?_)))))))))))))
 have ac:=aX.drew
 generalize hw_W25:({ ay with drawn:=ay.drawn + 1 }:World)=bk at ac ⊢
 refine oM Z aE (oM Z Z (bnK aL fun bi aH bb=>?_))
 have aR:=aZ.le ao
 have q:=aR.el (fun _=>rfl) (wAc aH)
 obtain ⟨bn,bt,aT,aV⟩:=q
 refine oR Z (Zf Z Z aT Z zD zC (wCG aH)) (oL Z (ac.ldC (f:=0) aV (v:=jV bi) Z Z zF Z) (oM Z aF (oM Z Z (bnK bb fun bj aI bc=>?_))))
 have aS:=a6.le ao
 have q:=aS.el (fun _=>rfl) (wAc aI)
 obtain ⟨bo,bu,aU,aW⟩:=q
 refine oR Z (Zf Z Z aU Z zD zC (wCG aI)) (oL Z (ac.ldC (f:=0) aW (v:=jV bj) Z Z zF Z) (oR Z (Zb Z Z Z) (eN (ifc bc ?_ ?_))))
 intro ag be
 refine zj (ZA (fun h=>h ag.out)) (ZS (zk (zI (rR fL2 Z (oR Z (ZI (zV Z ah Z) (congrArg (jV) ba.out)) (oM Z Z (zc ?_)))))))
 have q:=nB be
 obtain rfl:=q
 exact zI ⟨Z,_,Z,⟨ax,Z,aE,aF,aG,ao,ac⟩⟩
 intro ag bf
 refine cT Z ag (sR fL1 Z (oA Z Z (eN (zR (zn (zW ?_))))))
 have q:=wAY bf
 obtain ⟨bh,bg,aO⟩:=q
 have q:=wBo af aj (a7 bh aO)
 obtain rfl:=q
 refine zW (zn (zW ?_))
 have hE:=nB bg;first | subst r | cases hE
 exact ⟨Z,_,(ZG Z),ax,_,ac,Z,Z⟩
 rintro ⟨⟩ bx bm ⟨aM,aQ,bp,bq,aP,br,aY⟩ a8
 have aJ:=wCk af aj a8
 try dsimp only at aJ
 have aN:Hid (¬ ((↑(((↑O.length:Int):Int) - 0).toNat:Int) < (↑O.length:Int))):=zK (wAd)
 refine sR fL1 Z (oR Z (zT Z aQ aP) (eN (zJ (cF Z aN (ZQ (zg (zg (ZJ (zI (sR fL1 Z (oA Z Z (eN (zR ?_)))))))))))))
 have hE:=nB aJ;first | subst r | cases hE
 exact ⟨Z,_,(ZG Z),aM,_,aY,Z,Z⟩
 have aK:=hm;rw [if_neg c1] at aK;replace c1:=zK c1
 refine cT Z c1 (sR fL1 Z (oA Z Z (eN (zR (zW ?_)))))
 have hE:=nB aK;first | subst r | cases hE
 exact ⟨Z,_,(ZG Z),U,_,hS,Z,Z⟩
theorem wFM  (w:World) (U:PHeap) (hS:St0 w U [])  {r:Bool} (hm:wCH =some r):Gv Tryz.prog 13 [] w (wBl w [] U (fun U_ L_ v=>v=.bool r/\L_=[])):=by
 unfold wCH at hm
 refine Gv.of Tryz.func13 Z Tryz.ntmps13 Tryz.results13 Z (sR fL1 Z (oA Z Z (eN (sR (.fx 0 (.fx 1 (.fx 2 (wLG gDz) .stop) .stop) .stop) Z (bnK hm fun x1 h2 rA=>zG 0 Z Z Z Z (zH Z Z Tryz.call35 zN Z) hS (fun hs=>wBV w U hs h2) (.inr Z) ?_)))))
 rintro U4 L5 v6 W7 vj q7 ⟨cR,fD,cS,fE,cU,fG,cV,fL,rfl,rfl⟩
 let B0:Res:=.row cV fL 52 4 (hH wAB x1.Readings)
 let B1:Res:=.row cU fG 39 3 (hH wAG x1.Clocks)
 let B2:Res:=.row cS fE 37 2 (hH wAA x1.Splits)
 let B3:Res:=.row cR fD 3 1 (hH KL.encI x1.Starts)
 have n7:sW w U U4 [B3,B2,B1,B0] W7:=q7
 refine bnK rA fun tX j8 rx=>zG 0 Z Z Z Z (zH Z Z Tryz.call16 (zB Z (zB Z zN)) Z) n7 (fun hs=>wBI 0 2 W7 U4 hs j8) (.inr Z) ?_
 rintro iA ug vB bm uU oC ⟨rfl,rfl⟩
 have oE:sW w U iA [B3,B2,B1,B0] bm:=oC
 have q:=oE.freezeR (k:=0) (n:=x1.Starts.length) rfl (wAC (f:=KL.encI) (sz:=1) (fun _=>rfl) x1.Starts) (by decide)
 obtain ⟨iF,uW,sO,oJ⟩:=q
 have oQ:sW w U iF [B2,B1,B0] bm:=oJ
 have q:=oQ.freezeR (k:=0) (n:=x1.Splits.length) rfl (wAC (f:=wAA) (sz:=2) (fun _=>rfl) x1.Splits) (by decide)
 obtain ⟨iK,tK,sU,o6⟩:=q
 have o8:sW w U iK [B1,B0] bm:=o6
 have q:=o8.freezeR (k:=0) (n:=x1.Clocks.length) rfl (wAC (f:=wAG) (sz:=3) (fun _=>rfl) x1.Clocks) (by decide)
 obtain ⟨iN,gW,s6,po⟩:=q
 have pq:sW w U iN [B0] bm:=po
 have q:=pq.freezeR (k:=0) (n:=x1.Readings.length) rfl (wAC (f:=wAB) (sz:=4) (fun _=>rfl) x1.Readings) (by decide)
 obtain ⟨eG,cK,s8,pF⟩:=q
 have pH:sW w U eG [] bm:=pF
 have lM:=sO.le tK
 have lN:=lM.le gW
 have lQ:=lN.le cK
 have lR:=sU.le gW
 have lS:=lR.le cK
 have lT:=s6.le cK
 have q:=bnd rx
 obtain ⟨⟨bK,cQ⟩,lV,gL⟩:=q
 try dsimp only at gL
 refine zG 0 Z Z Z Z (zH Z Z Tryz.call34 (zB Z (zB Z zN)) Z) pH (fun hs=>wGI x1 cR fD cS fE cU fG cV fL tX bm eG hs lQ lS lT s8 lV) (.inr Z) ?_
 rintro cz ut vN jp vc qd ⟨rfl,rfl⟩
 have qj:sW w U cz [] jp:=qd
 refine oM Z Z (oR Z (zZ Z Z (v:=.agg #[jV bK.Lo,jV bK.Hi]) Z) (oR Z (zZ Z Z (v:=jV cQ) Z) ?_))
 let B4:List Value:=[jV 0,jV 0]
 refine zX (cs:=B4) Z Z Z Z Z ZF Z qj ?_
 intro uG aa qs
 let O:List Value:=[jV bK.Lo,jV bK.Hi]
 refine za (j:=0) (vs:=O) Z Z Z Z qs Z Z Z Z zo (zA Z) Z Z Z ?_
 intro fq qx
 have qC:sW w U cz [.blk aa 37 O] fq:=qx
 refine oA Z Z (eN (sR (.fx 0 (.fx 1 (.fx 2 (wLG gDz) .stop) .stop) .stop) Z (bnK gL fun aF mw se=>zG 0 Z Z Z Z (zH Z Z Tryz.call35 zN Z) qC (fun hs=>wBV fq cz hs mw) (.inr Z) ?_)))
 rintro eW uA vT fu vl qU ⟨dH,gq,dI,gt,dJ,gu,dK,gv,rfl,rfl⟩
 let B6:Res:=.row dK gv 52 4 (hH wAB aF.Readings)
 let B7:Res:=.row dJ gu 39 3 (hH wAG aF.Clocks)
 let B8:Res:=.row dI gt 37 2 (hH wAA aF.Splits)
 let B9:Res:=.row dH gq 3 1 (hH KL.encI aF.Starts)
 have rj:sW w U eW [B9,B8,B7,B6,.blk aa 37 O] fu:=qU
 refine bnK se fun t7 jM rn=>zG 0 Z Z Z Z (zH Z Z Tryz.call16 (zB Z (zB Z zN)) Z) rj (fun hs=>wBI 0 1 fu eW hs jM) (.inr Z) ?_
 rintro ip t8 vr bj uI mJ ⟨rfl,rfl⟩
 have mK:sW w U ip [B9,B8,B7,B6,.blk aa 37 O] bj:=mJ
 have q:=mK.freezeR (k:=0) (n:=aF.Starts.length) rfl (wAC (f:=KL.encI) (sz:=1) (fun _=>rfl) aF.Starts) (by decide)
 obtain ⟨iq,uJ,sB,mL⟩:=q
 have mM:sW w U iq [B8,B7,B6,.blk aa 37 O] bj:=mL
 have q:=mM.freezeR (k:=0) (n:=aF.Splits.length) rfl (wAC (f:=wAA) (sz:=2) (fun _=>rfl) aF.Splits) (by decide)
 obtain ⟨ir,tG,sC,mN⟩:=q
 have mO:sW w U ir [B7,B6,.blk aa 37 O] bj:=mN
 have q:=mO.freezeR (k:=0) (n:=aF.Clocks.length) rfl (wAC (f:=wAG) (sz:=3) (fun _=>rfl) aF.Clocks) (by decide)
 obtain ⟨it,gR,sD,mP⟩:=q
 have mQ:sW w U it [B6,.blk aa 37 O] bj:=mP
 have q:=mQ.freezeR (k:=0) (n:=aF.Readings.length) rfl (wAC (f:=wAB) (sz:=4) (fun _=>rfl) aF.Readings) (by decide)
 obtain ⟨d8,cE,sE,mR⟩:=q
 have mS:sW w U d8 [.blk aa 37 O] bj:=mR
 have jN:=sB.le tG
 have jO:=jN.le gR
 have jP:=jO.le cE
 have jQ:=sC.le gR
 have jR:=jQ.le cE
 have jS:=sD.le cE
 have q:=bnd rn
 obtain ⟨⟨bG,ib⟩,jT,gC⟩:=q
 try dsimp only at gC
 refine zG 0 Z Z Z Z (zH Z Z Tryz.call34 (zB Z (zB Z zN)) Z) mS (fun hs=>wGI aF dH gq dI gt dJ gu dK gv t7 bj d8 hs jP jR jS sE jT) (.inr Z) ?_
 rintro cw t9 vt jh uK mT ⟨rfl,rfl⟩
 have mU:sW w U cw [.blk aa 37 O] jh:=mT
 refine oM Z Z (oR Z (zZ Z Z (v:=.agg #[jV bG.Lo,jV bG.Hi]) Z) (oR Z (zZ Z Z (v:=jV ib) Z) (zX (cs:=B4) Z Z Z Z Z ZF Z mU ?_)))
 intro uE ac mV
 let ab:List Value:=[jV bG.Lo,jV bG.Hi]
 refine za (j:=0) (vs:=ab) Z Z Z Z mV Z Z Z Z zo (zA Z) Z Z Z ?_
 intro e7 mW
 have mX:sW w U cw [.blk ac 37 ab,.blk aa 37 O] e7:=mW
 refine oA Z Z (eN (sR (.fx 0 (.fx 1 (.fx 2 (.fx 3 (wOF (.fx 7 (.fx 8 (.fl 9 .nil) .stop) .stop)) .stop) .stop) .stop) .stop) Z (bnK gC fun aq jU ro=>zG 0 Z Z Z Z (zH Z Z Tryz.call35 zN Z) mX (fun hs=>wBV e7 cw hs jU) (.inr Z) ?_)))
 rintro d9 ua vu e8 uL mY ⟨cW,fH,cX,fI,cY,fJ,cZ,fK,rfl,rfl⟩
 let bf:Res:=.row cZ fK 52 4 (hH wAB aq.Readings)
 let bz:Res:=.row cY fJ 39 3 (hH wAG aq.Clocks)
 let bO:Res:=.row cX fI 37 2 (hH wAA aq.Splits)
 let cj:Res:=.row cW fH 3 1 (hH KL.encI aq.Starts)
 have mZ:sW w U d9 [cj,bO,bz,bf,.blk ac 37 ab,.blk aa 37 O] e8:=mY
 refine bnK ro fun tV jW rp=>zG 0 Z Z Z Z (zH Z Z Tryz.call16 (zB Z (zB Z zN)) Z) mZ (fun hs=>wBI 0 2 e8 d9 hs jW) (.inr Z) ?_
 rintro ef ub vv e9 uM m2 ⟨rfl,rfl⟩
 have m3:sW w U ef [cj,bO,bz,bf,.blk ac 37 ab,.blk aa 37 O] e9:=m2
 refine bnK rp fun tW jX rq=>zG 0 Z Z Z Z (zH Z Z Tryz.call16 (zB Z (zB Z zN)) Z) m3 (fun hs=>wBI 1 2 e9 ef hs jX) (.inr Z) ?_
 rintro iu uc vw bk uN m4 ⟨rfl,rfl⟩
 have m5:sW w U iu [cj,bO,bz,bf,.blk ac 37 ab,.blk aa 37 O] bk:=m4
 have q:=m5.freezeR (k:=0) (n:=aq.Starts.length) rfl (wAC (f:=KL.encI) (sz:=1) (fun _=>rfl) aq.Starts) (by decide)
 obtain ⟨iv,uO,sF,m6⟩:=q
 have m7:sW w U iv [bO,bz,bf,.blk ac 37 ab,.blk aa 37 O] bk:=m6
 have q:=m7.freezeR (k:=0) (n:=aq.Splits.length) rfl (wAC (f:=wAA) (sz:=2) (fun _=>rfl) aq.Splits) (by decide)
 obtain ⟨iw,tH,sG,m8⟩:=q
 have m9:sW w U iw [bz,bf,.blk ac 37 ab,.blk aa 37 O] bk:=m8
 have q:=m9.freezeR (k:=0) (n:=aq.Clocks.length) rfl (wAC (f:=wAG) (sz:=3) (fun _=>rfl) aq.Clocks) (by decide)
 obtain ⟨iz,gS,sH,n2⟩:=q
 have n4:sW w U iz [bf,.blk ac 37 ab,.blk aa 37 O] bk:=n2
 have q:=n4.freezeR (k:=0) (n:=aq.Readings.length) rfl (wAC (f:=wAB) (sz:=4) (fun _=>rfl) aq.Readings) (by decide)
 obtain ⟨eg,cG,sI,n5⟩:=q
 have n6:sW w U eg [.blk ac 37 ab,.blk aa 37 O] bk:=n5
 have jZ:=sF.le tH
 have j0:=jZ.le gS
 have j3:=j0.le cG
 have j4:=sG.le gS
 have j5:=j4.le cG
 have j6:=sH.le cG
 have q:=bnd rq
 obtain ⟨⟨bH,ic⟩,j7,gE⟩:=q
 try dsimp only at gE
 refine zG 0 Z Z Z Z (zH Z Z Tryz.call15 (zB Z (zB Z (zB Z zN))) Z) n6 (fun hs=>wJv aq cW fH cX fI cY fJ cZ fK tV tW bk eg hs j3 j5 j6 sI j7) (.inr Z) ?_
 rintro cx ud vx ji uP n8 ⟨rfl,rfl⟩
 have n9:sW w U cx [.blk ac 37 ab,.blk aa 37 O] ji:=n8
 refine oM Z Z (oR Z (zZ Z Z (v:=.agg #[jV bH.Lo,jV bH.Hi]) Z) (oR Z (zZ Z Z (v:=jV ic) Z) (zX (cs:=B4) Z Z Z Z Z ZF Z n9 ?_)))
 intro uF af oa
 let ae:List Value:=[jV bH.Lo,jV bH.Hi]
 refine za (j:=0) (vs:=ae) Z Z Z Z oa Z Z Z Z zo (zA Z) Z Z Z ?_
 intro fb oc
 have od:sW w U cx [.blk af 37 ae,.blk ac 37 ab,.blk aa 37 O] fb:=oc
 refine oA Z Z (eN (sR (.fx 0 (.fx 1 (.fx 2 (.fl 3 (.fl 4 (.fx 5 (.fx 6 (wLJ (.nil)) .stop) .stop))) .stop) .stop) .stop) Z (bnK gE fun au j9 rv=>zG 0 Z Z Z Z (zH Z Z Tryz.call35 zN Z) od (fun hs=>wBV fb cx hs j9) (.inr Z) ?_)))
 rintro eh ue vy fc uQ oe ⟨c6,fM,da,fN,db,fO,dd,fP,rfl,rfl⟩
 let aT:Res:=.row dd fP 52 4 (hH wAB au.Readings)
 let bg:Res:=.row db fO 39 3 (hH wAG au.Clocks)
 let bA:Res:=.row da fN 37 2 (hH wAA au.Splits)
 let bP:Res:=.row c6 fM 3 1 (hH KL.encI au.Starts)
 have og:sW w U eh [bP,bA,bg,aT,.blk af 37 ae,.blk ac 37 ab,.blk aa 37 O] fc:=oe
 refine bnK rv fun tY k7 ry=>zG 0 Z Z Z Z (zH Z Z Tryz.call16 (zB Z (zB Z zN)) Z) og (fun hs=>wBI 0 2 fc eh hs k7) (.inr Z) ?_
 rintro ej uf vz fd uR oh ⟨rfl,rfl⟩
 have oi:sW w U ej [bP,bA,bg,aT,.blk af 37 ae,.blk ac 37 ab,.blk aa 37 O] fd:=oh
 refine bnK ry fun tZ k9 rz=>zG 0 Z Z Z Z (zH Z Z Tryz.call16 (zB Z (zB Z zN)) Z) oi (fun hs=>wBI 1 2 fd ej hs k9) (.inr Z) ?_
 rintro en uh vA jj uS oj ⟨rfl,rfl⟩
 have ol:sW w U en [bP,bA,bg,aT,.blk af 37 ae,.blk ac 37 ab,.blk aa 37 O] jj:=oj
 let bh:List Value:=[jV 0,jV 0,jV 0,.bool false]
 let dL:List Value:=[jV 3,jV 0,jV 0,.bool false]
 refine oR Z (zl (pv:=[(0,jV 3)]) (z:=bh) (cs:=dL) Z (wAE Z wAL) Zq wDE Z Z) ?_
 let dM:List Value:=[jV 3,jV 0,jV 2,.bool true]
 refine oR Z (zl (pv:=[(0,jV 3),(2,jV 2),(3,.bool true)]) (z:=bh) (cs:=dM) Z (wAE Z (wAE Z (wAE Z wAL))) Zq wDE Z Z) (zr (pv:=[(0,.agg dL.toArray),(1,.agg dM.toArray)]) (zs:=[jV 0,jV 0,jV 0,.bool false,jV 0,jV 0,jV 0,.bool false]) (cs:=[jV 3,jV 0,jV 0,.bool false,jV 3,jV 0,jV 2,.bool true]) Z Z Z Z Z (wAE Z (wAE Z wAL)) yK ZX Zq Z Z Z Z Z ol ?_)
 intro aW fw om
 let bB:Res:=.row (some ⟨fw,0,none⟩) 2 101 4 (hH wBc [(⟨3,0,0,false⟩:wAH),(⟨3,0,2,true⟩:wAH)])
 have oo:sW w U en [bB,bP,bA,bg,aT,.blk af 37 ae,.blk ac 37 ab,.blk aa 37 O] aW:=om
 have q:=oo.freezeR (k:=1) (n:=au.Starts.length) rfl (wAC (f:=KL.encI) (sz:=1) (fun _=>rfl) au.Starts) (by decide)
 obtain ⟨iB,uT,sJ,oq⟩:=q
 have ot:sW w U iB [bB,bA,bg,aT,.blk af 37 ae,.blk ac 37 ab,.blk aa 37 O] aW:=oq
 have q:=ot.freezeR (k:=1) (n:=au.Splits.length) rfl (wAC (f:=wAA) (sz:=2) (fun _=>rfl) au.Splits) (by decide)
 obtain ⟨iC,tI,sK,ou⟩:=q
 have ov:sW w U iC [bB,bg,aT,.blk af 37 ae,.blk ac 37 ab,.blk aa 37 O] aW:=ou
 have q:=ov.freezeR (k:=1) (n:=au.Clocks.length) rfl (wAC (f:=wAG) (sz:=3) (fun _=>rfl) au.Clocks) (by decide)
 obtain ⟨iD,gT,sL,ow⟩:=q
 have ox:sW w U iD [bB,aT,.blk af 37 ae,.blk ac 37 ab,.blk aa 37 O] aW:=ow
 have q:=ox.freezeR (k:=1) (n:=au.Readings.length) rfl (wAC (f:=wAB) (sz:=4) (fun _=>rfl) au.Readings) (by decide)
 obtain ⟨iE,cH,sM,oy⟩:=q
 have oz:sW w U iE [bB,.blk af 37 ae,.blk ac 37 ab,.blk aa 37 O] aW:=oy
 have q:=oz.freezeR (k:=0) (n:=[(⟨3,0,0,false⟩:wAH),(⟨3,0,2,true⟩:wAH)].length) rfl (wAC (f:=wBc) (sz:=4) (fun _=>rfl) [(⟨3,0,0,false⟩:wAH),(⟨3,0,2,true⟩:wAH)]) (by decide)
 obtain ⟨eo,cd,sN,oB⟩:=q
 have oD:sW w U eo [.blk af 37 ae,.blk ac 37 ab,.blk aa 37 O] aW:=oB
 have lb:=sJ.le tI
 have lc:=lb.le gT
 have lf:=lc.le cH
 have lg:=lf.le cd
 have lh:=sK.le gT
 have li:=lh.le cH
 have lj:=li.le cd
 have lk:=sL.le cH
 have ll:=lk.le cd
 have lm:=sM.le cd
 have q:=bnd rz
 obtain ⟨⟨ie,ig⟩,ln,gF⟩:=q
 try dsimp only at gF
 refine zG 0 Z Z Z Z (zH Z Z Tryz.call36 (zB Z (zB Z (zB Z (zB Z zN)))) Z) oD (fun hs=>wHf au c6 fM da fN db fO dd fP tY tZ [(⟨3,0,0,false⟩:wAH),(⟨3,0,2,true⟩:wAH)] (some ⟨fw,0,none⟩) 2 aW eo hs lg lj ll lm sN ln) (.inr Z) ?_
 rintro ez ui vC ff uV oG ⟨rfl,rfl⟩
 have oH:sW w U ez [.blk af 37 ae,.blk ac 37 ab,.blk aa 37 O] ff:=oG
 refine oM Z Z (oR Z (zZ Z Z (v:=jV ie) Z) (oR Z (zZ Z Z (v:=jV ig) Z) (oA Z Z (oA Z Z (eN (zJ (CK.fresh fun aS aO=>?_)))))))
 have jx:aS 1=.pointer (some ⟨aa,0,none⟩):=(aO 1).trans rfl
 have jy:aS 2=jV cQ:=(aO 2).trans rfl
 have jz:aS 3=.pointer (some ⟨ac,0,none⟩):=(aO 3).trans rfl
 have jA:aS 4=jV ib:=(aO 4).trans rfl
 have jB:aS 5=.pointer (some ⟨af,0,none⟩):=(aO 5).trans rfl
 have jC:aS 6=jV ic:=(aO 6).trans rfl
 have jD:aS 7=jV ie:=(aO 7).trans rfl
 have jE:aS 8=jV ig:=(aO 8).trans rfl
 clear aO
 refine rR (.fx 0 (.fx 1 (wHp (.nil)) .stop) .stop) Z (bnK gF fun av lp rB=>zG 0 Z Z Z Z (zH Z Z Tryz.call35 zN Z) oH (fun hs=>wBV ff ez hs lp) (.inr Z) ?_)
 rintro iG uj vD bn uX oI ⟨de,fQ,df,fR,dg,fS,dh,fT,rfl,rfl⟩
 let bQ:Res:=.row dh fT 52 4 (hH wAB av.Readings)
 let cn:Res:=.row dg fS 39 3 (hH wAG av.Clocks)
 let dN:Res:=.row df fR 37 2 (hH wAA av.Splits)
 have oK:sW w U iG [.row de fQ 3 1 (hH KL.encI av.Starts),dN,cn,bQ,.blk af 37 ae,.blk ac 37 ab,.blk aa 37 O] bn:=oI
 have q:=oK.freezeR (k:=0) (n:=av.Starts.length) rfl (wAC (f:=KL.encI) (sz:=1) (fun _=>rfl) av.Starts) (by decide)
 obtain ⟨iH,uY,sP,oO⟩:=q
 have oP:sW w U iH [dN,cn,bQ,.blk af 37 ae,.blk ac 37 ab,.blk aa 37 O] bn:=oO
 have q:=oP.freezeR (k:=0) (n:=av.Splits.length) rfl (wAC (f:=wAA) (sz:=2) (fun _=>rfl) av.Splits) (by decide)
 obtain ⟨iI,tJ,sQ,oS⟩:=q
 have oU:sW w U iI [cn,bQ,.blk af 37 ae,.blk ac 37 ab,.blk aa 37 O] bn:=oS
 have q:=oU.freezeR (k:=0) (n:=av.Clocks.length) rfl (wAC (f:=wAG) (sz:=3) (fun _=>rfl) av.Clocks) (by decide)
 obtain ⟨iJ,gU,sS,oV⟩:=q
 have oW:sW w U iJ [bQ,.blk af 37 ae,.blk ac 37 ab,.blk aa 37 O] bn:=oV
 have q:=oW.freezeR (k:=0) (n:=av.Readings.length) rfl (wAC (f:=wAB) (sz:=4) (fun _=>rfl) av.Readings) (by decide)
 obtain ⟨eA,cI,sT,oZ⟩:=q
 have o0:sW w U eA [.blk af 37 ae,.blk ac 37 ab,.blk aa 37 O] bn:=oZ
 have lq:=sP.le tJ
 have lu:=lq.le gU
 have lv:=lu.le cI
 have lw:=sQ.le gU
 have lx:=lw.le cI
 have ly:=sS.le cI
 have q:=bnd rB
 obtain ⟨⟨bI,t4⟩,lA,gG⟩:=q
 try dsimp only at gG
 refine zG 0 Z Z Z Z (zH Z Z Tryz.call10 (zB Z (zB Z zN)) Z) o0 (fun hs=>wEh av de fQ df fR dg fS dh fT 2 bn eA hs lv lx ly sT lA) (.inr Z) ?_
 rintro eB uk vE fg uZ o3 ⟨cg,cB,rfl,rfl⟩
 let aP:Res:=.row cg cB 37 2 (hH wAA bI)
 have o5:sW w U eB [aP,.blk af 37 ae,.blk ac 37 ab,.blk aa 37 O] fg:=o3
 refine oM Z Z (oR Z (zZ Z Z (v:=.slice cg bI.length cB) Z) (oR Z (zZ Z Z (v:=jV t4) Z) (oA Z Z (oA Z Z (eN (sR (.fx 0 (.fx 1 (wHp (.nil)) .stop) .stop) Z (bnK gG fun ax lB rC=>zG 0 Z Z Z Z (zH Z Z Tryz.call35 zN Z) o5 (fun hs=>wBV fg eB hs lB) (.inr Z) ?_)))))))
 rintro iL ul vF bo u3 o7 ⟨di,fU,dk,fV,dl,fW,dm,fY,rfl,rfl⟩
 let bR:Res:=.row dm fY 52 4 (hH wAB ax.Readings)
 let co:Res:=.row dl fW 39 3 (hH wAG ax.Clocks)
 let dP:Res:=.row dk fV 37 2 (hH wAA ax.Splits)
 have o9:sW w U iL [.row di fU 3 1 (hH KL.encI ax.Starts),dP,co,bR,aP,.blk af 37 ae,.blk ac 37 ab,.blk aa 37 O] bo:=o7
 have q:=o9.freezeR (k:=0) (n:=ax.Starts.length) rfl (wAC (f:=KL.encI) (sz:=1) (fun _=>rfl) ax.Starts) (by decide)
 obtain ⟨iM,u4,sV,pd⟩:=q
 have pe:sW w U iM [dP,co,bR,aP,.blk af 37 ae,.blk ac 37 ab,.blk aa 37 O] bo:=pd
 have q:=pe.freezeR (k:=0) (n:=ax.Splits.length) rfl (wAC (f:=wAA) (sz:=2) (fun _=>rfl) ax.Splits) (by decide)
 obtain ⟨iO,tL,sX,pf⟩:=q
 have pg:sW w U iO [co,bR,aP,.blk af 37 ae,.blk ac 37 ab,.blk aa 37 O] bo:=pf
 have q:=pg.freezeR (k:=0) (n:=ax.Clocks.length) rfl (wAC (f:=wAG) (sz:=3) (fun _=>rfl) ax.Clocks) (by decide)
 obtain ⟨iP,gV,sY,ph⟩:=q
 have pk:sW w U iP [bR,aP,.blk af 37 ae,.blk ac 37 ab,.blk aa 37 O] bo:=ph
 have q:=pk.freezeR (k:=0) (n:=ax.Readings.length) rfl (wAC (f:=wAB) (sz:=4) (fun _=>rfl) ax.Readings) (by decide)
 obtain ⟨eF,cJ,sZ,pm⟩:=q
 have pn:sW w U eF [aP,.blk af 37 ae,.blk ac 37 ab,.blk aa 37 O] bo:=pm
 have lC:=sV.le tL
 have lD:=lC.le gV
 have lE:=lD.le cJ
 have lF:=sX.le gV
 have lG:=lF.le cJ
 have lH:=sY.le cJ
 have q:=bnd rC
 obtain ⟨⟨bJ,t5⟩,lI,gH⟩:=q
 try dsimp only at gH
 refine zG 0 Z Z Z Z (zH Z Z Tryz.call37 (zB Z zN) Z) pn (fun hs=>wHH ax di fU dk fV dl fW dm fY bo eF hs lE lG lH sZ lI) (.inr Z) ?_
 rintro an um vG jk u5 pp ⟨ci,cC,rfl,rfl⟩
 let aU:Res:=.row ci cC 62 2 (hH wAV bJ)
 have am:sW w U an [aU,aP,.blk af 37 ae,.blk ac 37 ab,.blk aa 37 O] jk:=pp
 refine oM Z Z (oR Z (zZ Z Z (v:=.slice ci bJ.length cC) Z) (oR Z (zZ Z Z (v:=jV t5) Z) (oA Z Z (oA Z Z (eN (zJ (bnK gH fun jv gQ rD=>yI (fun σ_ w_=>∃ (U_:PHeap),σ_ 110=.bool jv/\PHeap.Le an U_/\sW w U U_ [.blk af 37 ae,.blk ac 37 ab,.blk aa 37 O] w_) ?_ ?_)))))))
 refine rR (wOD (.fx 45 (.fx 46 (wMy (.fx 51 (.fx 52 (.fx 53 (.fl 54 (.fl 55 .nil)) .stop) .stop) .stop)) .stop) .stop)) Z (oM Z jy (oR Z (Zb Z Z Z) (oM Z Z ?_)))
 by_cases aH:cQ=0
 have gI:=gQ;rw [if_pos aH] at gI;replace aH:=zK aH
 refine zU Z Z Z (zO Z Z (ZA (fun h=>h aH.out))) Z jA (ze Z Z Z (zO Z Z (ZA (fun h=>h aH.out))) (fun _=>Zb Z Z Z) (oR Z (zd Z (ZA (fun h=>h aH.out)) Z) (oM Z Z (ifc gI ?_ ?_))))
 intro aY rE
 refine zU Z Z Z (zO Z Z (ZA (fun h=>h aY.out))) Z jC (ze Z Z Z (zO Z Z (ZA (fun h=>h aY.out))) (fun _=>Zb Z Z Z) (oR Z (zd Z (ZA (fun h=>h aY.out)) Z) (oM Z Z (ifc rE ?_ ?_))))
 intro aZ rF
 refine zU Z Z Z (zO Z Z (ZA (fun h=>h aZ.out))) Z jE (ze Z Z Z (zO Z Z (ZA (fun h=>h aZ.out))) (fun _=>Zb Z Z Z) (oR Z (zd Z (ZA (fun h=>h aZ.out)) Z) (oM Z Z (ifc rF ?_ ?_))))
 intro a6 rG
 refine zU Z Z Z (zO Z Z (ZA (fun h=>h a6.out))) Z Z (ze Z Z Z (zO Z Z (ZA (fun h=>h a6.out))) (fun _=>Zb Z Z Z) (oR Z (zd Z (ZA (fun h=>h a6.out)) Z) (oM Z Z (ifc rG ?_ ?_))))
 intro a7 rH
 refine zU Z Z Z (zO Z Z (ZA (fun h=>h a7.out))) Z Z (ze Z Z Z (zO Z Z (ZA (fun h=>h a7.out))) (fun _=>Zb Z Z Z) (oR Z (zd Z (ZA (fun h=>h a7.out)) Z) (oM Z Z (ifc rH ?_ ?_))))
 intro aJ rI
 refine ZD Z Z Z (zO Z Z (ZA (fun h=>h aJ.out))) (am.ldBA (j:=4) Z Z jx Zr zo (vs:=O) Z Z) Z (ze Z Z Z (zO Z Z (ZA (fun h=>h aJ.out))) (fun _=>zl (pv:=[(0,jV 2244),(1,jV 2256)]) (z:=B4) (cs:=[jV 2244,jV 2256]) Z (wAE Z (wAE Z wAL)) ZF wCI Z Z) (ze Z Z Z (zO Z Z (ZA (fun h=>h aJ.out))) (fun _=>ZI (Runs.neS (enc:=wAA) (a:=bK) (b:=(⟨2244,2256⟩:wAF)) Z Z Z wKX wKW) (congrArg hJ (decide_not).symm)) (oR Z (zd Z (ZA (fun h=>h aJ.out)) Z) (oM Z Z (ifc rI ?_ ?_)))))
 intro aK rJ
 refine ZD Z Z Z (zO Z Z (ZA (fun h=>h aK.out))) (am.ldBA (j:=3) Z Z jz Zr zo (vs:=ab) Z Z) Z (ze Z Z Z (zO Z Z (ZA (fun h=>h aK.out))) (fun _=>zl (pv:=[(0,jV 1000),(1,jV 1200)]) (z:=B4) (cs:=[jV 1000,jV 1200]) Z (wAE Z (wAE Z wAL)) ZF wCI Z Z) (ze Z Z Z (zO Z Z (ZA (fun h=>h aK.out))) (fun _=>ZI (Runs.neS (enc:=wAA) (a:=bG) (b:=(⟨1000,1200⟩:wAF)) Z Z Z wKX wKW) (congrArg hJ (decide_not).symm)) (oR Z (zd Z (ZA (fun h=>h aK.out)) Z) (oM Z Z (ifc rJ ?_ ?_)))))
 intro aL rK
 refine ZD Z Z Z (zO Z Z (ZA (fun h=>h aL.out))) (am.ldBA (j:=2) Z Z jB Zr zo (vs:=ae) Z Z) Z (ze Z Z Z (zO Z Z (ZA (fun h=>h aL.out))) (fun _=>zl (pv:=[(0,jV 247),(1,jV 251)]) (z:=B4) (cs:=[jV 247,jV 251]) Z (wAE Z (wAE Z wAL)) ZF wCI Z Z) (ze Z Z Z (zO Z Z (ZA (fun h=>h aL.out))) (fun _=>ZI (Runs.neS (enc:=wAA) (a:=bH) (b:=(⟨247,251⟩:wAF)) Z Z Z wKX wKW) (congrArg hJ (decide_not).symm)) (oR Z (zd Z (ZA (fun h=>h aL.out)) Z) (oM Z Z (ifc rK ?_ ?_)))))
 intro a8 rL
 refine zU Z Z Z (zO Z Z (ZA (fun h=>h a8.out))) Z jD (ze Z Z Z (zO Z Z (ZA (fun h=>h a8.out))) (fun _=>Zb Z Z Z) (oR Z (zd Z (ZA (fun h=>h a8.out)) Z) (oM Z Z (ifc rL ?_ ?_))))
 intro aj rM
 refine zU Z Z Z (zO Z Z (ZA (fun h=>h aj.out))) Z Z (ze Z Z Z (zO Z Z (ZA (fun h=>h aj.out))) (fun _=>zl (pv:=[(0,jV 1),(1,jV 1)]) (z:=B4) (cs:=[jV 1,jV 1]) Z (wAE Z (wAE Z wAL)) ZF wCI Z Z) (ze Z Z Z (zO Z Z (ZA (fun h=>h aj.out))) (fun _=>zl (pv:=[(0,jV 2),(1,jV 2)]) (z:=B4) (cs:=[jV 2,jV 2]) Z (wAE Z (wAE Z wAL)) ZF wCI Z Z) (zr (pv:=[(0,.agg #[jV 1,jV 1]),(1,.agg #[jV 2,jV 2])]) (zs:=[jV 0,jV 0,jV 0,jV 0]) (cs:=[jV 1,jV 1,jV 2,jV 2]) Z Z Z (zO Z Z (ZA (fun h=>h aj.out))) Z (wAE Z (wAE Z wAL)) zy zo ZF Z Z Z Z Z am ?_)))
 intro bX fy pu
 let dQ:Res:=.row (some ⟨fy,0,none⟩) 2 37 2 (hH wAA [(⟨1,1⟩:wAF),(⟨2,2⟩:wAF)])
 have py:sW w U an [dQ,aU,aP,.blk af 37 ae,.blk ac 37 ab,.blk aa 37 O] bX:=pu
 have q:=py.freezeR (k:=2) (n:=bI.length) rfl (wAC (f:=wAA) (sz:=2) (fun _=>rfl) bI) (by decide)
 obtain ⟨iQ,gX,s7,pz⟩:=q
 have pB:sW w U iQ [dQ,aU,.blk af 37 ae,.blk ac 37 ab,.blk aa 37 O] bX:=pz
 have q:=pB.freezeR (k:=0) (n:=[(⟨1,1⟩:wAF),(⟨2,2⟩:wAF)].length) rfl (wAC (f:=wAA) (sz:=2) (fun _=>rfl) [(⟨1,1⟩:wAF),(⟨2,2⟩:wAF)]) (by decide)
 obtain ⟨eH,cL,s9,pC⟩:=q
 have pE:sW w U eH [aU,.blk af 37 ae,.blk ac 37 ab,.blk aa 37 O] bX:=pC
 have lJ:=s7.le cL
 refine bnK rM fun vX lK rN=>zG 0 Z Z Z (zO Z Z (ZA (fun h=>h aj.out))) (zH Z Z Tryz.call38 (zB Z (zB Z zN)) Z) pE (fun hs=>wED bI cg cB [(⟨1,1⟩:wAF),(⟨2,2⟩:wAF)] (some ⟨fy,0,none⟩) 2 bX eH hs lJ s9 lK) (.inr Z) ?_
 rintro cy uo vH fh gY pG ⟨rfl,rfl⟩
 have gz:sW w U cy [aU,.blk af 37 ae,.blk ac 37 ab,.blk aa 37 O] fh:=pG
 refine ze Z Z Z (zO Z Z (ZA (fun h=>h aj.out))) (fun _=>ZY Z Z) (oR Z (zd Z (ZA (fun h=>h aj.out)) Z) (oM Z Z (ifc rN ?_ ?_)))
 intro ao rO
 refine zU Z Z Z (zO Z Z (nC ao.out)) Z Z (bnK rO fun bu lL rP=>zG 0 Z Z Z (zO Z Z (nC ao.out)) (zH Z Z Tryz.call16 (zB Z (zB Z zN)) Z) gz (fun hs=>wBI 0 1 fh cy hs lL) (.inr Z) ?_)
 rintro eI up vI jl tM pI ⟨rfl,rfl⟩
 have pJ:sW w U eI [aU,.blk af 37 ae,.blk ac 37 ab,.blk aa 37 O] jl:=pI
 let dR:List Value:=[jV bu.Skier,jV bu.Mat]
 refine zr (pv:=[(0,.agg dR.toArray)]) (zs:=B4) (cs:=dR) Z Z Z (zO Z Z (nC ao.out)) Z (wAE Z wAL) Zt ZZ yB Z Z Z Z Z pJ ?_
 intro bY fz pK
 let dS:Res:=.row (some ⟨fz,0,none⟩) 1 62 2 (hH wAV [bu])
 have pM:sW w U eI [dS,aU,.blk af 37 ae,.blk ac 37 ab,.blk aa 37 O] bY:=pK
 have q:=pM.freezeR (k:=1) (n:=bJ.length) rfl (wAC (f:=wAV) (sz:=2) (fun _=>rfl) bJ) (by decide)
 obtain ⟨iR,tN,tc,pN⟩:=q
 have pO:sW w U iR [dS,.blk af 37 ae,.blk ac 37 ab,.blk aa 37 O] bY:=pN
 have q:=pO.freezeR (k:=0) (n:=[bu].length) rfl (wAC (f:=wAV) (sz:=2) (fun _=>rfl) [bu]) (by decide)
 obtain ⟨eJ,gZ,td,pP⟩:=q
 have pQ:sW w U eJ [.blk af 37 ae,.blk ac 37 ab,.blk aa 37 O] bY:=pP
 have lO:=tc.le gZ
 refine bnK rP fun vY lP rQ=>zG 0 Z Z Z (zO Z Z (nC ao.out)) (zH Z Z Tryz.call39 (zB Z (zB Z zN)) Z) pQ (fun hs=>wDs bJ ci cC [bu] (some ⟨fz,0,none⟩) 1 bY eJ hs lO td lP) (.inr Z) ?_
 rintro eL uq vJ jm tO pR ⟨rfl,rfl⟩
 have pS:sW w U eL [.blk af 37 ae,.blk ac 37 ab,.blk aa 37 O] jm:=pR
 refine ze Z Z Z (zO Z Z (nC ao.out)) (fun _=>ZY Z Z) (oR Z (zd Z (nC ao.out) Z) (zc ?_))
 cases rQ
 exact zI ⟨Z,⟨eL,Z,((((((gX.trans cL).trans gY).trans tM).trans tN).trans gZ).trans tO),pS⟩⟩
 intro ao rS
 refine ZT Z Z Z (zS Z Z (nF (ao.out)) Z) (zz Z Z Z (zS Z Z (nF (ao.out)) Z) (zz Z Z Z (zS Z Z (nF (ao.out)) Z) (zz Z Z Z (zS Z Z (nF (ao.out)) Z) (ZT Z Z Z (zS Z Z (nF (ao.out)) Z) (oR Z (zQ Z (nF (ao.out)) Z) (zc ?_))))))
 cases rS
 exact zI ⟨rfl,⟨cy,rfl,((gX.trans cL).trans gY),(gz.pick [1,2,3] _ (by decide) rfl)⟩⟩
 intro aj rT
 refine oT Z aj (oT Z aj (oT Z aj (zz Z Z Z (zS Z Z (Za aj.out) Z) (zz Z Z Z (zS Z Z (Za aj.out) Z) (oT Z aj (oR Z (zQ Z (Za aj.out) Z) (oM Z Z (oN Z (zz Z Z Z (zS Z Z Z Z) (zz Z Z Z (zS Z Z Z Z) (zz Z Z Z (zS Z Z Z Z) (oN Z (oR Z (zQ Z Z Z) (zc ?_))))))))))))))
 cases rT
 exact zI ⟨rfl,⟨an,rfl,(zL _),(am.pick [2,3,4] _ (by decide) rfl)⟩⟩
 intro a8 rV
 refine oT Z a8 (oT Z a8 (oR Z (zQ Z (Za a8.out) Z) (oM Z Z (oN Z (oN Z (oN Z (zz Z Z Z (zS Z Z Z Z) (zz Z Z Z (zS Z Z Z Z) (oN Z (oR Z (zQ Z Z Z) (oM Z Z (oN Z (zz Z Z Z (zS Z Z Z Z) (zz Z Z Z (zS Z Z Z Z) (zz Z Z Z (zS Z Z Z Z) (oN Z (oR Z (zQ Z Z Z) (zc ?_))))))))))))))))))
 cases rV
 exact zI ⟨rfl,⟨an,rfl,(zL _),(am.pick [2,3,4] _ (by decide) rfl)⟩⟩
 intro aL rW
 refine oT Z aL (oT Z aL (oT Z aL (oR Z (zQ Z (Za aL.out) Z) (oM Z Z (oN Z (oN Z (oR Z (zQ Z Z Z) (oM Z Z (oN Z (oN Z (oN Z (zz Z Z Z (zS Z Z Z Z) (zz Z Z Z (zS Z Z Z Z) (oN Z (oR Z (zQ Z Z Z) (oM Z Z (oN Z (zz Z Z Z (zS Z Z Z Z) (zz Z Z Z (zS Z Z Z Z) (zz Z Z Z (zS Z Z Z Z) (oN Z (oR Z (zQ Z Z Z) (zc ?_)))))))))))))))))))))))
 cases rW
 exact zI ⟨rfl,⟨an,rfl,(zL _),(am.pick [2,3,4] _ (by decide) rfl)⟩⟩
 intro aK rX
 refine oT Z aK (oT Z aK (oT Z aK (oR Z (zQ Z (Za aK.out) Z) (oM Z Z (oN Z (oN Z (oN Z (oR Z (zQ Z Z Z) (oM Z Z (oN Z (oN Z (oR Z (zQ Z Z Z) (oM Z Z (oN Z (oN Z (oN Z (zz Z Z Z (zS Z Z Z Z) (zz Z Z Z (zS Z Z Z Z) (oN Z (oR Z (zQ Z Z Z) (oM Z Z (oN Z (zz Z Z Z (zS Z Z Z Z) (zz Z Z Z (zS Z Z Z Z) (zz Z Z Z (zS Z Z Z Z) (oN Z (oR Z (zQ Z Z Z) (zc ?_))))))))))))))))))))))))))))
 cases rX
 exact zI ⟨rfl,⟨an,rfl,(zL _),(am.pick [2,3,4] _ (by decide) rfl)⟩⟩
 intro aJ rY
 refine oT Z aJ (oT Z aJ (oT Z aJ (oR Z (zQ Z (Za aJ.out) Z) (oM Z Z (oN Z (oN Z (oN Z (oR Z (zQ Z Z Z) (oM Z Z (oN Z (oN Z (oN Z (oR Z (zQ Z Z Z) (oM Z Z (oN Z (oN Z (oR Z (zQ Z Z Z) (oM Z Z (oN Z (oN Z (oN Z (zz Z Z Z (zS Z Z Z Z) (zz Z Z Z (zS Z Z Z Z) (oN Z (oR Z (zQ Z Z Z) (oM Z Z (oN Z (zz Z Z Z (zS Z Z Z Z) (zz Z Z Z (zS Z Z Z Z) (zz Z Z Z (zS Z Z Z Z) (oN Z (oR Z (zQ Z Z Z) (zc ?_)))))))))))))))))))))))))))))))))
 cases rY
 exact zI ⟨rfl,⟨an,rfl,(zL _),(am.pick [2,3,4] _ (by decide) rfl)⟩⟩
 intro a7 rZ
 refine oT Z a7 (oT Z a7 (oR Z (zQ Z (Za a7.out) Z) (oM Z Z (oN Z (oN Z (oN Z (oR Z (zQ Z Z Z) (oM Z Z (oN Z (oN Z (oN Z (oR Z (zQ Z Z Z) (oM Z Z (oN Z (oN Z (oN Z (oR Z (zQ Z Z Z) (oM Z Z (oN Z (oN Z (oR Z (zQ Z Z Z) (oM Z Z (oN Z (oN Z (oN Z (zz Z Z Z (zS Z Z Z Z) (zz Z Z Z (zS Z Z Z Z) (oN Z (oR Z (zQ Z Z Z) (oM Z Z (oN Z (zz Z Z Z (zS Z Z Z Z) (zz Z Z Z (zS Z Z Z Z) (zz Z Z Z (zS Z Z Z Z) (oN Z (oR Z (zQ Z Z Z) (zc ?_)))))))))))))))))))))))))))))))))))))
 cases rZ
 exact zI ⟨rfl,⟨an,rfl,(zL _),(am.pick [2,3,4] _ (by decide) rfl)⟩⟩
 intro a6 r6
 refine oT Z a6 (oT Z a6 (oR Z (zQ Z (Za a6.out) Z) (oM Z Z (oN Z (oN Z (oR Z (zQ Z Z Z) (oM Z Z (oN Z (oN Z (oN Z (oR Z (zQ Z Z Z) (oM Z Z (oN Z (oN Z (oN Z (oR Z (zQ Z Z Z) (oM Z Z (oN Z (oN Z (oN Z (oR Z (zQ Z Z Z) (oM Z Z (oN Z (oN Z (oR Z (zQ Z Z Z) (oM Z Z (oN Z (oN Z (oN Z (zz Z Z Z (zS Z Z Z Z) (zz Z Z Z (zS Z Z Z Z) (oN Z (oR Z (zQ Z Z Z) (oM Z Z (oN Z (zz Z Z Z (zS Z Z Z Z) (zz Z Z Z (zS Z Z Z Z) (zz Z Z Z (zS Z Z Z Z) (oN Z (oR Z (zQ Z Z Z) (zc ?_)))))))))))))))))))))))))))))))))))))))))
 cases r6
 exact zI ⟨rfl,⟨an,rfl,(zL _),(am.pick [2,3,4] _ (by decide) rfl)⟩⟩
 intro aZ r7
 refine oT Z aZ (oT Z aZ (oR Z (zQ Z (Za aZ.out) Z) (oM Z Z (oN Z (oN Z (oR Z (zQ Z Z Z) (oM Z Z (oN Z (oN Z (oR Z (zQ Z Z Z) (oM Z Z (oN Z (oN Z (oN Z (oR Z (zQ Z Z Z) (oM Z Z (oN Z (oN Z (oN Z (oR Z (zQ Z Z Z) (oM Z Z (oN Z (oN Z (oN Z (oR Z (zQ Z Z Z) (oM Z Z (oN Z (oN Z (oR Z (zQ Z Z Z) (oM Z Z (oN Z (oN Z (oN Z (zz Z Z Z (zS Z Z Z Z) (zz Z Z Z (zS Z Z Z Z) (oN Z (oR Z (zQ Z Z Z) (oM Z Z (oN Z (zz Z Z Z (zS Z Z Z Z) (zz Z Z Z (zS Z Z Z Z) (zz Z Z Z (zS Z Z Z Z) (oN Z (oR Z (zQ Z Z Z) (zc ?_)))))))))))))))))))))))))))))))))))))))))))))
 cases r7
 exact zI ⟨rfl,⟨an,rfl,(zL _),(am.pick [2,3,4] _ (by decide) rfl)⟩⟩
 intro aY r8
 refine oT Z aY (oT Z aY (oR Z (zQ Z (Za aY.out) Z) (oM Z Z (oN Z (oN Z (oR Z (zQ Z Z Z) (oM Z Z (oN Z (oN Z (oR Z (zQ Z Z Z) (oM Z Z (oN Z (oN Z (oR Z (zQ Z Z Z) (oM Z Z (oN Z (oN Z (oN Z (oR Z (zQ Z Z Z) (oM Z Z (oN Z (oN Z (oN Z (oR Z (zQ Z Z Z) (oM Z Z (oN Z (oN Z (oN Z (oR Z (zQ Z Z Z) (oM Z Z (oN Z (oN Z (oR Z (zQ Z Z Z) (oM Z Z (oN Z (oN Z (oN Z (zz Z Z Z (zS Z Z Z Z) (zz Z Z Z (zS Z Z Z Z) (oN Z (oR Z (zQ Z Z Z) (oM Z Z (oN Z (zz Z Z Z (zS Z Z Z Z) (zz Z Z Z (zS Z Z Z Z) (zz Z Z Z (zS Z Z Z Z) (oN Z (oR Z (zQ Z Z Z) (zc ?_)))))))))))))))))))))))))))))))))))))))))))))))))
 cases r8
 exact zI ⟨rfl,⟨an,rfl,(zL _),(am.pick [2,3,4] _ (by decide) rfl)⟩⟩
 have gJ:=gQ;rw [if_neg aH] at gJ;replace aH:=zK aH
 refine oT Z aH (oT Z aH (oR Z (zQ Z (Za aH.out) Z) (oM Z Z (oN Z (oN Z (oR Z (zQ Z Z Z) (oM Z Z (oN Z (oN Z (oR Z (zQ Z Z Z) (oM Z Z (oN Z (oN Z (oR Z (zQ Z Z Z) (oM Z Z (oN Z (oN Z (oR Z (zQ Z Z Z) (oM Z Z (oN Z (oN Z (oN Z (oR Z (zQ Z Z Z) (oM Z Z (oN Z (oN Z (oN Z (oR Z (zQ Z Z Z) (oM Z Z (oN Z (oN Z (oN Z (oR Z (zQ Z Z Z) (oM Z Z (oN Z (oN Z (oR Z (zQ Z Z Z) (oM Z Z (oN Z (oN Z (oN Z (zz Z Z Z (zS Z Z Z Z) (zz Z Z Z (zS Z Z Z Z) (oN Z (oR Z (zQ Z Z Z) (oM Z Z (oN Z (zz Z Z Z (zS Z Z Z Z) (zz Z Z Z (zS Z Z Z Z) (zz Z Z Z (zS Z Z Z Z) (oN Z (oR Z (zQ Z Z Z) (zc ?_)))))))))))))))))))))))))))))))))))))))))))))))))))))
 cases gJ
 exact zI ⟨rfl,⟨an,rfl,(zL _),(am.pick [2,3,4] _ (by decide) rfl)⟩⟩
 rintro v4 jo ⟨eM,gw,u6,gA⟩
 refine ifc rD ?_ ?_
 intro cD r9
 refine ZK (gw.trans (congrArg hJ cD.out)) (sR fL1 Z (oA Z Z (eN (zR (zW ?_)))))
 have hE:=nB r9;first | subst r | cases hE
 exact ⟨rfl,_,(ZG rfl),eM,_,(gA.pick [] _ (by decide) rfl),rfl,rfl⟩
 intro cD sa
 refine zj (gw.trans (congrArg hJ (nA.2 cD.out))) (kN (sR (.fx 0 (.fx 1 (wHp (.nil)) .stop) .stop) Z (bnK sa fun ay lU sb=>zG 0 Z Z Z Z (zH Z Z Tryz.call41 zN Z) gA (fun hs=>wCD jo eM hs lU) (.inr Z) ?_)))
 rintro iS ur vK bp u7 pT ⟨dn,fZ,dp,f4,dq,f5,dr,f6,rfl,rfl⟩
 let bS:Res:=.row dr f6 52 4 (hH wAB ay.Readings)
 let cp:Res:=.row dq f5 39 3 (hH wAG ay.Clocks)
 let dT:Res:=.row dp f4 37 2 (hH wAA ay.Splits)
 have pU:sW w U iS [.row dn fZ 3 1 (hH KL.encI ay.Starts),dT,cp,bS,.blk af 37 ae,.blk ac 37 ab,.blk aa 37 O] bp:=pT
 have q:=pU.freezeR (k:=0) (n:=ay.Starts.length) rfl (wAC (f:=KL.encI) (sz:=1) (fun _=>rfl) ay.Starts) (by decide)
 obtain ⟨iT,u9,te,pV⟩:=q
 have pW:sW w U iT [dT,cp,bS,.blk af 37 ae,.blk ac 37 ab,.blk aa 37 O] bp:=pV
 have q:=pW.freezeR (k:=0) (n:=ay.Splits.length) rfl (wAC (f:=wAA) (sz:=2) (fun _=>rfl) ay.Splits) (by decide)
 obtain ⟨iU,tP,tf,pX⟩:=q
 have pY:sW w U iU [cp,bS,.blk af 37 ae,.blk ac 37 ab,.blk aa 37 O] bp:=pX
 have q:=pY.freezeR (k:=0) (n:=ay.Clocks.length) rfl (wAC (f:=wAG) (sz:=3) (fun _=>rfl) ay.Clocks) (by decide)
 obtain ⟨iV,g6,tg,pZ⟩:=q
 have p5:sW w U iV [bS,.blk af 37 ae,.blk ac 37 ab,.blk aa 37 O] bp:=pZ
 have q:=p5.freezeR (k:=0) (n:=ay.Readings.length) rfl (wAC (f:=wAB) (sz:=4) (fun _=>rfl) ay.Readings) (by decide)
 obtain ⟨eO,cM,th,p6⟩:=q
 have p7:sW w U eO [.blk af 37 ae,.blk ac 37 ab,.blk aa 37 O] bp:=p6
 have lW:=te.le tP
 have lX:=lW.le g6
 have lY:=lX.le cM
 have lZ:=tf.le g6
 have l0:=lZ.le cM
 have l4:=tg.le cM
 have q:=bnd sb
 obtain ⟨⟨t6,ii,ij⟩,l5,gM⟩:=q
 try dsimp only at gM
 refine zG 0 Z Z Z Z (zH Z Z Tryz.call40 (zB Z zN) Z) p7 (fun hs=>wIH ay dn fZ dp f4 dq f5 dr f6 bp eO hs lY l0 l4 th l5) (.inr Z) ?_
 rintro eQ uu vM fj va p8 ⟨dt,f7,jw,du,f8,rfl,rfl,uH⟩
 let ag:Res:=.row du f8 3 1 (hH KL.encI ii)
 let ah:Res:=.row dt f7 41 1 jw
 have p9:sW w U eQ [ah,ag,.blk af 37 ae,.blk ac 37 ab,.blk aa 37 O] fj:=p8
 refine oM Z Z (oR Z (zZ Z Z (v:=.slice dt t6.length f7) Z) (oR Z (zZ Z Z (v:=.slice du ii.length f8) Z) (oR Z (zZ Z Z (v:=jV ij) Z) (oA Z Z (eN (sR (.fx 0 (fC1_4 (.fx 5 (.fx 6 (wLJ (.nil)) .stop) .stop)) .stop) Z (bnK gM fun az l6 sc=>zG 0 Z Z Z Z (zH Z Z Tryz.call41 zN Z) p9 (fun hs=>wCD fj eQ hs l6) (.inr Z) ?_)))))))
 rintro eR uv vO jq vb qa ⟨dv,f9,dw,ga,dx,gb,dy,ge,rfl,rfl⟩
 let bC:Res:=.row dy ge 52 4 (hH wAB az.Readings)
 let bT:Res:=.row dx gb 39 3 (hH wAG az.Clocks)
 let cq:Res:=.row dw ga 37 2 (hH wAA az.Splits)
 let dU:Res:=.row dv f9 3 1 (hH KL.encI az.Starts)
 have qb:sW w U eR [dU,cq,bT,bC,ah,ag,.blk af 37 ae,.blk ac 37 ab,.blk aa 37 O] jq:=qa
 let dV:List Value:=[jV 0,jV 1,jV 0,.bool true]
 refine oR Z (zl (pv:=[(0,jV 0),(1,jV 1),(3,.bool true)]) (z:=bh) (cs:=dV) Z (wAE Z (wAE Z (wAE Z wAL))) Zq wDE Z Z) ?_
 let dW:List Value:=[jV 1,jV 1,jV 0,.bool true]
 refine oR Z (zl (pv:=[(0,jV 1),(1,jV 1),(3,.bool true)]) (z:=bh) (cs:=dW) Z (wAE Z (wAE Z (wAE Z wAL))) Zq wDE Z Z) ?_
 let dX:List Value:=[jV 3,jV 0,jV 1,.bool false]
 refine oR Z (zl (pv:=[(0,jV 3),(2,jV 1)]) (z:=bh) (cs:=dX) Z (wAE Z (wAE Z wAL)) Zq wDE Z Z) ?_
 let dY:List Value:=[jV 2,jV 0,jV 0,.bool false]
 refine oR Z (zl (pv:=[(0,jV 2)]) (z:=bh) (cs:=dY) Z (wAE Z wAL) Zq wDE Z Z) (zr (pv:=[(0,.agg dV.toArray),(1,.agg dW.toArray),(2,.agg dX.toArray),(3,.agg dY.toArray)]) (zs:=[jV 0,jV 0,jV 0,.bool false,jV 0,jV 0,jV 0,.bool false,jV 0,jV 0,jV 0,.bool false,jV 0,jV 0,jV 0,.bool false]) (cs:=[jV 0,jV 1,jV 0,.bool true,jV 1,jV 1,jV 0,.bool true,jV 3,jV 0,jV 1,.bool false,jV 2,jV 0,jV 0,.bool false]) Z Z Z Z Z (wAE Z (wAE Z (wAE Z (wAE Z wAL)))) yK ZX Zq Z Z Z Z Z qb ?_)
 intro aX fA qc
 let bD:Res:=.row (some ⟨fA,0,none⟩) 4 101 4 (hH wBc [(⟨0,1,0,true⟩:wAH),(⟨1,1,0,true⟩:wAH),(⟨3,0,1,false⟩:wAH),(⟨2,0,0,false⟩:wAH)])
 have qe:sW w U eR [bD,dU,cq,bT,bC,ah,ag,.blk af 37 ae,.blk ac 37 ab,.blk aa 37 O] aX:=qc
 have q:=qe.freezeR (k:=1) (n:=az.Starts.length) rfl (wAC (f:=KL.encI) (sz:=1) (fun _=>rfl) az.Starts) (by decide)
 obtain ⟨iW,vd,tj,qf⟩:=q
 have qh:sW w U iW [bD,cq,bT,bC,ah,ag,.blk af 37 ae,.blk ac 37 ab,.blk aa 37 O] aX:=qf
 have q:=qh.freezeR (k:=1) (n:=az.Splits.length) rfl (wAC (f:=wAA) (sz:=2) (fun _=>rfl) az.Splits) (by decide)
 obtain ⟨iX,tQ,tl,qi⟩:=q
 have qk:sW w U iX [bD,bT,bC,ah,ag,.blk af 37 ae,.blk ac 37 ab,.blk aa 37 O] aX:=qi
 have q:=qk.freezeR (k:=1) (n:=az.Clocks.length) rfl (wAC (f:=wAG) (sz:=3) (fun _=>rfl) az.Clocks) (by decide)
 obtain ⟨iY,g7,tn,qm⟩:=q
 have qn:sW w U iY [bD,bC,ah,ag,.blk af 37 ae,.blk ac 37 ab,.blk aa 37 O] aX:=qm
 have q:=qn.freezeR (k:=1) (n:=az.Readings.length) rfl (wAC (f:=wAB) (sz:=4) (fun _=>rfl) az.Readings) (by decide)
 obtain ⟨iZ,cN,tp,qo⟩:=q
 have qp:sW w U iZ [bD,ah,ag,.blk af 37 ae,.blk ac 37 ab,.blk aa 37 O] aX:=qo
 have q:=qp.freezeR (k:=0) (n:=[(⟨0,1,0,true⟩:wAH),(⟨1,1,0,true⟩:wAH),(⟨3,0,1,false⟩:wAH),(⟨2,0,0,false⟩:wAH)].length) rfl (wAC (f:=wBc) (sz:=4) (fun _=>rfl) [(⟨0,1,0,true⟩:wAH),(⟨1,1,0,true⟩:wAH),(⟨3,0,1,false⟩:wAH),(⟨2,0,0,false⟩:wAH)]) (by decide)
 obtain ⟨eS,cf,tq,qq⟩:=q
 have qr:sW w U eS [ah,ag,.blk af 37 ae,.blk ac 37 ab,.blk aa 37 O] aX:=qq
 have ma:=tj.le tQ
 have mb:=ma.le g7
 have mc:=mb.le cN
 have md:=mc.le cf
 have me:=tl.le g7
 have mf:=me.le cN
 have mg:=mf.le cf
 have mh:=tn.le cN
 have mi:=mh.le cf
 have mj:=tp.le cf
 have q:=bnd sc
 obtain ⟨⟨ik,il⟩,ml,gN⟩:=q
 try dsimp only at gN
 refine zG 0 Z Z Z Z (zH Z Z Tryz.call42 (zB Z (zB Z zN)) Z) qr (fun hs=>wHI az dv f9 dw ga dx gb dy ge [(⟨0,1,0,true⟩:wAH),(⟨1,1,0,true⟩:wAH),(⟨3,0,1,false⟩:wAH),(⟨2,0,0,false⟩:wAH)] (some ⟨fA,0,none⟩) 4 aX eS hs md mg mi mj tq ml) (.inr Z) ?_
 rintro eT uw vP fm ve qt ⟨rfl,rfl⟩
 have qu:sW w U eT [ah,ag,.blk af 37 ae,.blk ac 37 ab,.blk aa 37 O] fm:=qt
 refine oM Z Z (oR Z (zZ Z Z (v:=jV ik) Z) (oR Z (zZ Z Z (v:=jV il) Z) (oA Z Z (oA Z Z (eN (sR (.fx 0 (.fx 1 (wHp (.nil)) .stop) .stop) Z (bnK gN fun aE mm sd=>zG 0 Z Z Z Z (zH Z Z Tryz.call41 zN Z) qu (fun hs=>wCD fm eT hs mm) (.inr Z) ?_)))))))
 rintro i7 ux vQ bq vf qv ⟨dz,gf,dA,gg,dB,gh,dC,gi,rfl,rfl⟩
 let bU:Res:=.row dC gi 52 4 (hH wAB aE.Readings)
 let cr:Res:=.row dB gh 39 3 (hH wAG aE.Clocks)
 let dZ:Res:=.row dA gg 37 2 (hH wAA aE.Splits)
 have qw:sW w U i7 [.row dz gf 3 1 (hH KL.encI aE.Starts),dZ,cr,bU,ah,ag,.blk af 37 ae,.blk ac 37 ab,.blk aa 37 O] bq:=qv
 have q:=qw.freezeR (k:=0) (n:=aE.Starts.length) rfl (wAC (f:=KL.encI) (sz:=1) (fun _=>rfl) aE.Starts) (by decide)
 obtain ⟨i8,vg,tr,qy⟩:=q
 have qz:sW w U i8 [dZ,cr,bU,ah,ag,.blk af 37 ae,.blk ac 37 ab,.blk aa 37 O] bq:=qy
 have q:=qz.freezeR (k:=0) (n:=aE.Splits.length) rfl (wAC (f:=wAA) (sz:=2) (fun _=>rfl) aE.Splits) (by decide)
 obtain ⟨i9,tR,tt,qA⟩:=q
 have qB:sW w U i9 [cr,bU,ah,ag,.blk af 37 ae,.blk ac 37 ab,.blk aa 37 O] bq:=qA
 have q:=qB.freezeR (k:=0) (n:=aE.Clocks.length) rfl (wAC (f:=wAG) (sz:=3) (fun _=>rfl) aE.Clocks) (by decide)
 obtain ⟨ja,g8,tu,qD⟩:=q
 have qE:sW w U ja [bU,ah,ag,.blk af 37 ae,.blk ac 37 ab,.blk aa 37 O] bq:=qD
 have q:=qE.freezeR (k:=0) (n:=aE.Readings.length) rfl (wAC (f:=wAB) (sz:=4) (fun _=>rfl) aE.Readings) (by decide)
 obtain ⟨eU,cO,tv,qF⟩:=q
 have qG:sW w U eU [ah,ag,.blk af 37 ae,.blk ac 37 ab,.blk aa 37 O] bq:=qF
 have mn:=tr.le tR
 have mo:=mn.le g8
 have mp:=mo.le cO
 have mq:=tt.le g8
 have mr:=mq.le cO
 have ms:=tu.le cO
 have q:=bnd sd
 obtain ⟨⟨bv,im⟩,mu,gO⟩:=q
 try dsimp only at gO
 refine zG 0 Z Z Z Z (zH Z Z Tryz.call43 (zB Z zN) Z) qG (fun hs=>wII aE dz gf dA gg dB gh dC gi bq eU hs mp mr ms tv mu) (.inr Z) ?_
 rintro eV uy vR ft vh qH ⟨bL,cb,rfl,rfl⟩
 let aQ:Res:=.row bL cb 3 1 (hH KL.encI bv)
 have qI:sW w U eV [aQ,ah,ag,.blk af 37 ae,.blk ac 37 ab,.blk aa 37 O] ft:=qH
 refine oM Z Z (oR Z (zZ Z Z (v:=.slice bL bv.length cb) Z) (oR Z (zZ Z Z (v:=jV im) Z) (oA Z Z (oA Z Z (eN (sR (.fx 0 (.fx 1 (wHp (.nil)) .stop) .stop) Z (bnK gO fun aG mx sf=>zG 0 Z Z Z Z (zH Z Z Tryz.call41 zN Z) qI (fun hs=>wCD ft eV hs mx) (.inr Z) ?_)))))))
 rintro jb uz vS br vi qJ ⟨dD,gj,dE,gk,dF,gm,dG,gp,rfl,rfl⟩
 let bV:Res:=.row dG gp 52 4 (hH wAB aG.Readings)
 let ct:Res:=.row dF gm 39 3 (hH wAG aG.Clocks)
 let d4:Res:=.row dE gk 37 2 (hH wAA aG.Splits)
 have qK:sW w U jb [.row dD gj 3 1 (hH KL.encI aG.Starts),d4,ct,bV,aQ,ah,ag,.blk af 37 ae,.blk ac 37 ab,.blk aa 37 O] br:=qJ
 have q:=qK.freezeR (k:=0) (n:=aG.Starts.length) rfl (wAC (f:=KL.encI) (sz:=1) (fun _=>rfl) aG.Starts) (by decide)
 obtain ⟨jc,vk,tw,qL⟩:=q
 have qM:sW w U jc [d4,ct,bV,aQ,ah,ag,.blk af 37 ae,.blk ac 37 ab,.blk aa 37 O] br:=qL
 have q:=qM.freezeR (k:=0) (n:=aG.Splits.length) rfl (wAC (f:=wAA) (sz:=2) (fun _=>rfl) aG.Splits) (by decide)
 obtain ⟨jd,tS,tx,qN⟩:=q
 have qO:sW w U jd [ct,bV,aQ,ah,ag,.blk af 37 ae,.blk ac 37 ab,.blk aa 37 O] br:=qN
 have q:=qO.freezeR (k:=0) (n:=aG.Clocks.length) rfl (wAC (f:=wAG) (sz:=3) (fun _=>rfl) aG.Clocks) (by decide)
 obtain ⟨je,g9,tz,qP⟩:=q
 have qQ:sW w U je [bV,aQ,ah,ag,.blk af 37 ae,.blk ac 37 ab,.blk aa 37 O] br:=qP
 have q:=qQ.freezeR (k:=0) (n:=aG.Readings.length) rfl (wAC (f:=wAB) (sz:=4) (fun _=>rfl) aG.Readings) (by decide)
 obtain ⟨eX,cP,tB,qR⟩:=q
 have qS:sW w U eX [aQ,ah,ag,.blk af 37 ae,.blk ac 37 ab,.blk aa 37 O] br:=qR
 have my:=tw.le tS
 have mz:=my.le g9
 have mA:=mz.le cP
 have mB:=tx.le g9
 have mC:=mB.le cP
 have mD:=tz.le cP
 have q:=bnd sf
 obtain ⟨⟨bw,io⟩,mE,gP⟩:=q
 try dsimp only at gP
 refine zG 0 Z Z Z Z (zH Z Z Tryz.call44 (zB Z zN) Z) qS (fun hs=>wIJ aG dD gj dE gk dF gm dG gp br eX hs mA mC mD tB mE) (.inr Z) ?_
 rintro aV uB vU jr vm qT ⟨bM,cc,rfl,rfl⟩
 let bi:Res:=.row bM cc 3 1 (hH KL.encI bw)
 have bt:sW w U aV [bi,aQ,ah,ag,.blk af 37 ae,.blk ac 37 ab,.blk aa 37 O] jr:=qT
 refine oM Z Z (oR Z (zZ Z Z (v:=.slice bM bw.length cc) Z) (oR Z (zZ Z Z (v:=jV io) Z) (oA Z Z (oA Z Z (eN (zJ (CK.fresh fun be aR=>?_)))))))
 have jF:be 2=jV ij:=(aR 2).trans rfl
 have jG:be 4=jV il:=(aR 4).trans rfl
 have jH:be 6=jV im:=(aR 6).trans rfl
 have jI:be 8=jV io:=(aR 8).trans rfl
 have jJ:be 13=jV ik:=(aR 13).trans rfl
 have jK:be 14=.slice bL bv.length cb:=(aR 14).trans rfl
 have jL:be 15=.slice bM bw.length cc:=(aR 15).trans rfl
 clear aR
 refine rR (wOA (.fx 20 (.fx 21 (wMx (.fx 25 (.fx 26 (.fl 27 (.fl 28 .nil)) .stop) .stop)) .stop) .stop)) Z (oM Z jF (oR Z (yO Z Z Z) (oM Z Z (ifc gP ?_ ?_))))
 intro a9 sg
 refine zU Z Z Z (wT Z a9) Z jG (rU Z (wT Z a9) (yO Z Z Z) (oR Z (zQ Z (Za a9.out) Z) (oM Z Z (ifc sg ?_ ?_))))
 intro ba sh
 refine zU Z Z Z (wT Z ba) Z jH (rU Z (wT Z ba) (yO Z Z Z) (oR Z (zQ Z (Za ba.out) Z) (oM Z Z (ifc sh ?_ ?_))))
 intro bb sj
 refine zU Z Z Z (wT Z bb) Z jI (rU Z (wT Z bb) (yO Z Z Z) (oR Z (zQ Z (Za bb.out) Z) (oM Z Z (ifc sj ?_ ?_))))
 intro bc sk
 refine zU Z Z Z (wT Z bc) Z jJ (rU Z (wT Z bc) (yO Z Z Z) (oR Z (zQ Z (Za bc.out) Z) (oM Z Z (ifc sk ?_ ?_))))
 intro aM sl
 refine zU Z Z Z (wT Z aM) Z jK (zr (pv:=[(0,jV 1)]) (zs:=[jV 0]) (cs:=[jV 1]) Z Z Z (wT Z aM) Z (wAE Z wAL) zD zC zt Z Z Z Z Z bt ?_)
 intro bZ fB qV
 let d5:Res:=.row (some ⟨fB,0,none⟩) 1 3 1 (hH KL.encI [1])
 have qW:sW w U aV [d5,bi,aQ,ah,ag,.blk af 37 ae,.blk ac 37 ab,.blk aa 37 O] bZ:=qV
 have q:=qW.freezeR (k:=2) (n:=bv.length) rfl (wAC (f:=KL.encI) (sz:=1) (fun _=>rfl) bv) (by decide)
 obtain ⟨jf,vn,tC,qX⟩:=q
 have qY:sW w U jf [d5,bi,ah,ag,.blk af 37 ae,.blk ac 37 ab,.blk aa 37 O] bZ:=qX
 have q:=qY.freezeR (k:=0) (n:=[1].length) rfl (wAC (f:=KL.encI) (sz:=1) (fun _=>rfl) [1]) (by decide)
 obtain ⟨eY,tT,tD,qZ⟩:=q
 have q5:sW w U eY [bi,ah,ag,.blk af 37 ae,.blk ac 37 ab,.blk aa 37 O] bZ:=qZ
 have mF:=tC.le tT
 refine bnK sl fun vZ mG sn=>zG 0 Z Z Z (wT Z aM) (zH Z Z Tryz.call45 (zB Z (zB Z zN)) Z) q5 (fun hs=>wDS bv bL cb [1] (some ⟨fB,0,none⟩) 1 bZ eY hs mF tD mG) (.inr Z) ?_
 rintro cA uC vV jt vo q6 ⟨rfl,rfl⟩
 have gB:sW w U cA [bi,ah,ag,.blk af 37 ae,.blk ac 37 ab,.blk aa 37 O] jt:=q6
 refine oR Z (zQ Z (Za aM.out) Z) (oM Z Z (ifc sn ?_ ?_))
 intro aN so
 refine zU Z Z Z (zO Z Z (congrArg hJ aN.out)) Z jL (zr (pv:=[(0,jV 1)]) (zs:=[jV 0]) (cs:=[jV 1]) Z Z Z (zO Z Z (congrArg hJ aN.out)) Z (wAE Z wAL) zD zC zt Z Z Z Z Z gB ?_)
 intro ca fC q8
 let d6:Res:=.row (some ⟨fC,0,none⟩) 1 3 1 (hH KL.encI [1])
 have q9:sW w U cA [d6,bi,ah,ag,.blk af 37 ae,.blk ac 37 ab,.blk aa 37 O] ca:=q8
 have q:=q9.freezeR (k:=1) (n:=bw.length) rfl (wAC (f:=KL.encI) (sz:=1) (fun _=>rfl) bw) (by decide)
 obtain ⟨jg,vp,tE,rc⟩:=q
 have rd:sW w U jg [d6,ah,ag,.blk af 37 ae,.blk ac 37 ab,.blk aa 37 O] ca:=rc
 have q:=rd.freezeR (k:=0) (n:=[1].length) rfl (wAC (f:=KL.encI) (sz:=1) (fun _=>rfl) [1]) (by decide)
 obtain ⟨eZ,tU,tF,re⟩:=q
 have rf:sW w U eZ [ah,ag,.blk af 37 ae,.blk ac 37 ab,.blk aa 37 O] ca:=re
 have mH:=tE.le tU
 refine bnK so fun v3 mI sq=>zG 0 Z Z Z (zO Z Z (congrArg hJ aN.out)) (zH Z Z Tryz.call45 (zB Z (zB Z zN)) Z) rf (fun hs=>wDS bw bM cc [1] (some ⟨fC,0,none⟩) 1 ca eZ hs mH tF mI) (.inr Z) ?_
 rintro e6 uD vW ju vq rh ⟨rfl,rfl⟩
 have ri:sW w U e6 [ah,ag,.blk af 37 ae,.blk ac 37 ab,.blk aa 37 O] ju:=rh
 refine oR Z (zQ Z (congrArg hJ aN.out) Z) (oA Z Z (eN (zR ?_)))
 have hE:=nB sq;first | subst r | cases hE
 exact ⟨rfl,_,(ZG rfl),e6,_,(ri.pick [] _ (by decide) rfl),rfl,rfl⟩
 intro aN sr
 refine ZT Z Z Z (zS Z Z (congrArg hJ (nA.2 aN.out)) Z) (zz Z Z Z (zS Z Z (congrArg hJ (nA.2 aN.out)) Z) (zz Z Z Z (zS Z Z (congrArg hJ (nA.2 aN.out)) Z) (oR Z (zd Z (congrArg hJ (nA.2 aN.out)) Z) (oA Z Z (eN (zR ?_))))))
 have hE:=nB sr;first | subst r | cases hE
 exact ⟨rfl,_,(ZG rfl),cA,_,(gB.pick [] _ (by decide) rfl),rfl,rfl⟩
 intro aM ss
 refine oF Z aM (zz Z Z Z (zS Z Z (ZA aM.out) Z) (zz Z Z Z (zS Z Z (ZA aM.out) Z) (oR Z (zd Z (ZA aM.out) Z) (oM Z Z (oN Z (zz Z Z Z (zS Z Z Z Z) (zz Z Z Z (zS Z Z Z Z) (oR Z (zd Z Z Z) (oA Z Z (eN (zR ?_)))))))))))
 have hE:=nB ss;first | subst r | cases hE
 exact ⟨rfl,_,(ZG rfl),aV,_,(bt.pick [] _ (by decide) rfl),rfl,rfl⟩
 intro bc su
 refine oF Z bc (oF Z bc (oR Z (zd Z (ZA bc.out) Z) (oM Z Z (oN Z (zz Z Z Z (zS Z Z Z Z) (zz Z Z Z (zS Z Z Z Z) (oR Z (zd Z Z Z) (oM Z Z (oN Z (zz Z Z Z (zS Z Z Z Z) (zz Z Z Z (zS Z Z Z Z) (oR Z (zd Z Z Z) (oA Z Z (eN (zR ?_)))))))))))))))
 have hE:=nB su;first | subst r | cases hE
 exact ⟨rfl,_,(ZG rfl),aV,_,(bt.pick [] _ (by decide) rfl),rfl,rfl⟩
 intro bb sv
 refine oF Z bb (oF Z bb (oR Z (zd Z (ZA bb.out) Z) (oM Z Z (oN Z (oN Z (oR Z (zd Z Z Z) (oM Z Z (oN Z (zz Z Z Z (zS Z Z Z Z) (zz Z Z Z (zS Z Z Z Z) (oR Z (zd Z Z Z) (oM Z Z (oN Z (zz Z Z Z (zS Z Z Z Z) (zz Z Z Z (zS Z Z Z Z) (oR Z (zd Z Z Z) (oA Z Z (eN (zR ?_)))))))))))))))))))
 have hE:=nB sv;first | subst r | cases hE
 exact ⟨rfl,_,(ZG rfl),aV,_,(bt.pick [] _ (by decide) rfl),rfl,rfl⟩
 intro ba sw
 refine oF Z ba (oF Z ba (oR Z (zd Z (ZA ba.out) Z) (oM Z Z (oN Z (oN Z (oR Z (zd Z Z Z) (oM Z Z (oN Z (oN Z (oR Z (zd Z Z Z) (oM Z Z (oN Z (zz Z Z Z (zS Z Z Z Z) (zz Z Z Z (zS Z Z Z Z) (oR Z (zd Z Z Z) (oM Z Z (oN Z (zz Z Z Z (zS Z Z Z Z) (zz Z Z Z (zS Z Z Z Z) (oR Z (zd Z Z Z) (oA Z Z (eN (zR ?_)))))))))))))))))))))))
 have hE:=nB sw;first | subst r | cases hE
 exact ⟨rfl,_,(ZG rfl),aV,_,(bt.pick [] _ (by decide) rfl),rfl,rfl⟩
 intro a9 sA
 refine oF Z a9 (oF Z a9 (oR Z (zd Z (ZA a9.out) Z) (oM Z Z (oN Z (oN Z (oR Z (zd Z Z Z) (oM Z Z (oN Z (oN Z (oR Z (zd Z Z Z) (oM Z Z (oN Z (oN Z (oR Z (zd Z Z Z) (oM Z Z (oN Z (zz Z Z Z (zS Z Z Z Z) (zz Z Z Z (zS Z Z Z Z) (oR Z (zd Z Z Z) (oM Z Z (oN Z (zz Z Z Z (zS Z Z Z Z) (zz Z Z Z (zS Z Z Z Z) (oR Z (zd Z Z Z) (oA Z Z (eN (zR ?_)))))))))))))))))))))))))))
 have hE:=nB sA;first | subst r | cases hE
 exact ⟨rfl,_,(ZG rfl),aV,_,(bt.pick [] _ (by decide) rfl),rfl,rfl⟩
end Go.Proofs.YtkghaiefcjgfkaaGreat
