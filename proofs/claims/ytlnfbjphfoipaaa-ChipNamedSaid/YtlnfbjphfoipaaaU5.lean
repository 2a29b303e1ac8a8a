import Derived.Test.YtlnfbjphfoipaaaU4
import Derived.Test.YtlnfbjphfoipaaaU3
set_option linter.all false
open List renaming flatMap->hD,getElem_cons_succ->hH,getElem_cons_zero->hJ,getElem_toArray->nA,length_set->nD,set->nH
open Int renaming toNat_natCast->nB,eq_ofNat_of_zero_le->nI
open Option.some renaming inj->nE
open Go.Value renaming bool->nJ
open Bool renaming eq_false_iff->nK
namespace Go.Proofs.Ytlnfbjphfoipaaa
open Go.KL
def gBk:Sch:=.fx 2 (.fx 3 .nil .stop) .stop
def gBl:Sch:=.fl 10 (.fx 12 .nil .stop)
def gBm:Sch:=.fx 1 (.fl 2 .nil) .stop
def gBn:Sch:=.fx 4 (.fx 5 .nil .stop) .stop
def gBo:Sch:=.fx 6 (.fx 7 .nil .stop) .stop
def gBp:Sch:=.fx 8 (.fx 9 .nil .stop) .stop
def gBq:Sch:=.fl 7 (.fx 9 .nil .stop)
def gBr:Sch:=.fx 4 (.fl 5 .nil) .stop
def gBs:Sch:=.fx 7 (.fx 8 .nil .stop) .stop
def gBt:Sch:=.fx 6 (.fx 8 .nil .stop) .stop
def gBu:Sch:=.fx 0 (.fx 1 .nil .stop) .stop
def gBv:Sch:=.fl 14 (.fx 16 .nil .stop)
def gBw:Sch:=.fl 17 (.fx 18 .nil .stop)
def gBx:Sch:=.fl 10 (.fx 11 (.fx 12 .nil .stop) .stop)
def gBy:Sch:=.fx 6 gBl .stop
def gBz:Sch:=.fx 1 (.fl 2 (.fl 3 .nil)) .stop
def gCa:Sch:=.fx 0 gBm .stop
def gCb:Sch:=.fx 10 (.fl 11 (.fl 12 .nil)) .stop
def gCc:Sch:=.fx 6 gBq .stop
def gCd:Sch:=.fx 4 gBq .stop
def gCe:Sch:=.fx 3 gBr .stop
def gCf:Sch:=.fl 22 (.fl 23 (.fx 24 .nil .stop))
def gCg:Sch:=.fx 0 (.fl 1 (.fl 2 .nil)) .stop
def gCh:Sch:=.fl 14 (.fx 15 (.fx 16 .nil .stop) .stop)
def gCi:Sch:=.fx 13 gBv .stop
def gCj:Sch:=.fx 0 (.fx 1 gBk .stop) .stop
def gCk:Sch:=.fx 8 (.fl 9 gBl) .stop
def gCl:Sch:=.fx 0 gBz .stop
def gCm:Sch:=.fl 7 (.fx 2 gBp .stop)
def gCn:Sch:=.fl 4 (.fl 5 gBt)
def gCo:Sch:=.fx 0 (.fl 5 gBt) .stop
def gCp:Sch:=.fx 21 gCf .stop
def gCq:Sch:=.fl 0 (.fl 1 (.fx 2 (.fl 3 .nil) .stop))
def gCr:Sch:=.fx 7 gCi .stop
def gCs:Sch:=.fx 6 (.fl 7 gBp) (.fx 8 gCc .stop)
def gCt:Sch:=.fx 4 (.fl 7 gBp) (.fx 8 gCd .stop)
def gCu:Sch:=.fx 0 (.fx 1 (.fx 2 (.fx 3 (.fl 4 .nil) .stop) .stop) .stop) .stop
def gCv:Sch:=.fl 5 (.fx 6 gBs (.fx 7 gBt .stop))
def gCw:Sch:=.fx 3 gCn .stop
def gCx:Sch:=.fx 13 gCh (.fx 15 gCi .stop)
def gCy:Sch:=.fx 6 (.fl 12 gCi) .stop
def gCz:Sch:=.fx 4 (.fx 16 gBw .stop) (.fx 16 (.fx 4 gBw .stop) .stop)
def gDa:Sch:=.fx 2 gCw .stop
def gDb:Sch:=.fx 1 gCw .stop
def gDc:Sch:=.fx 0 gCy .stop
def gDd:Sch:=.fl 1 (.fl 2 (.fx 0 (.fl 3 gBn) (.fx 4 (.fx 0 (.fl 3 (.fx 5 .nil .stop)) .stop) .stop)))
def gDe:Sch:=.fl 0 (.fl 2 (.fx 1 gCe (.fx 3 (.fx 1 gBr .stop) .stop)))
def gDf:Sch:=.fx 3 (.fl 4 gCv) (.fx 7 gCw .stop)
def gDg:Sch:=.fl 4 (.fx 0 gCv (.fx 7 gCo .stop))
def gDh:Sch:=.fx 0 gCw (.fx 3 (.fl 4 gCo) .stop)
def gDi:Sch:=.fx 6 (.fl 12 gCx) (.fx 15 gCy .stop)
def gDj:Sch:=.fx 6 (.fl 12 gCr) (.fx 7 gCy .stop)
def gDk:Sch:=.fx 2 gDf (.fx 7 gDa .stop)
def gDl:Sch:=.fx 1 gDf (.fx 7 gDb .stop)
def gDm:Sch:=.fx 1 gDa (.fx 2 gDb .stop)
def gDn:Sch:=.fx 0 gDa (.fx 2 gDh .stop)
def gDo:Sch:=.fx 0 gDb (.fx 1 gDh .stop)
def gDp:Sch:=.fx 0 gDf (.fx 3 gDg (.fx 7 gDh .stop))
set_option maxHeartbeats 4000000
theorem wGV (p0:wAD) (au:Option Addr) (az:Nat) (av:Option Addr) (aG:Nat) (ax:Option Addr) (aH:Nat) (ay:Option Addr) (aI:Nat) (p1:wAJ) (w:World) (U:PHeap) (hS:St0 w U []) (bA:Sl U 1 au az p0.Starts.length (hD KL.encI p0.Starts)) (bB:Sl U 2 av aG p0.Splits.length (hD wAC p0.Splits)) (bC:Sl U 3 ax aH p0.Clocks.length (hD wAB p0.Clocks)) (bD:Sl U 4 ay aI p0.Readings.length (hD wAA p0.Readings)) {r:wAL × wAL} (hm:wDO p0 p1=some r):Gv Try.prog 112 [.agg #[.slice au p0.Starts.length az,.slice av p0.Splits.length aG,.slice ax p0.Clocks.length aH,.slice ay p0.Readings.length aI],.agg #[jV p1.Kind,jV p1.Skier,jV p1.Index,.bool p1.Up]] w (wBs w [] U (fun U_ L_ v=>v=.tuple #[.agg #[jV r.1.skier,jV r.1.mat],.agg #[jV r.2.skier,jV r.2.mat]]/\L_=[])):=by
 unfold wDO at hm
 refine Gv.of Try.func112 Z Try.ntmps112 Try.results112 Z (sR gCj Z ?_)
 let B0:List Value:=[.slice au p0.Starts.length az,.slice av p0.Splits.length aG,.slice ax p0.Clocks.length aH,.slice ay p0.Readings.length aI]
 refine zu (cs:=B0) rfl rfl rfl rfl rfl rfl (by rfl) hS ?_
 intro W1 b2 a9
 let B1:List Value:=[jV p1.Kind,jV p1.Skier,jV p1.Index,.bool p1.Up]
 refine zu (cs:=B1) rfl rfl rfl rfl rfl rfl (by rfl) a9 ?_
 intro W5 b6 bt
 let B2:List Value:=[jV 0,jV 0]
 refine zR (cs:=B2) Z Z Z Z Z zZ Z bt ?_
 intro W9 ai a6
 refine zR (cs:=B2) Z Z Z Z Z zZ Z a6 ?_
 intro aJ aj a7
 refine eN ?_
 have q:=bnd hm
 obtain ⟨⟨⟩,ap,aM⟩:=q
 try dsimp only at aM
 let B3:List Value:=[jV p1.Skier,jV (w64 (p1.Index + 1))]
 let B4:List Value:=[jV p1.Skier,jV p1.Index]
 refine yP (fun σ_ w_=>∃ (U_:PHeap),σ_ 4=.pointer (some ⟨ai,0,none⟩)/\σ_ 5=.pointer (some ⟨aj,0,none⟩)/\PHeap.Le U U_/\sW w U U_ [.blk aj 104 B3,.blk ai 104 B4,.blk b6 78 B1,.blk b2 28 B0] w_) ?_ ?_
 refine ZG ZH [3,1,3,1,3,3,2,3,2,3,3,0,0] (wGf (.fl 7 (.fx 6 (.fx 8 (.fl 9 gBx) (.fx 11 gCk .stop)) (.fx 8 (.fl 9 (.fx 6 gBx (.fx 11 gBy .stop))) (.fx 11 (.fx 6 gCk (.fx 8 (.fl 9 gBy) .stop)) .stop))))) (by kernel_rfl) ?_
 have an:=a7.drew
 generalize hw_W27:({ aJ with drawn:=aJ.drawn + 1 }:World)=bv at an ⊢
 refine oR Z (zG Z Z zj Z zC) (oL Z (an.ldB (j:=2) Z Z Z zJ (v:=jV p1.Skier) Z) (oR Z (zG Z Z zj Z zC) (oL Z (an.ldB (j:=2) Z Z Z zJ (v:=jV p1.Index) Z) (oR Z (zl (pv:=[(0,jV p1.Skier),(1,jV p1.Index)]) (z:=B2) (cs:=B4) Z (wAH Z (wAH Z wAP)) zZ wBL Z Z) (oR Z (zG Z Z zj Z zC) (oR Z (zG Z Z zj Z zC) (zn ?_ ?_)))))))
 refine ZR Z Z Z Z (an.ldB (j:=2) Z Z Z zJ (v:=jV p1.Skier) Z) (zn ?_ ?_)
 refine ZR Z Z Z Z (an.ldB (j:=2) Z Z Z zJ (v:=jV p1.Index) Z) (oR Z (zb Z Z Z) (oR Z (zl (pv:=[(0,jV p1.Skier),(1,jV (w64 (p1.Index + 1)))]) (z:=B2) (cs:=B3) Z (wAH Z (wAH Z wAP)) zZ wBL Z Z) (zV (j:=1) (vs:=B4) Z Z Z Z an Z Z Z Z zF (zA Z) Z Z Z ?_)))
 intro aO a8
 have ba:sW w U U [.blk aj 104 B2,.blk ai 104 B4,.blk b6 78 B1,.blk b2 28 B0] aO:=a8
 refine zV (j:=0) (vs:=B3) Z Z Z Z ba Z Z Z Z zF (zA Z) Z Z Z ?_
 intro aP bb
 have bc:sW w U U [.blk aj 104 B3,.blk ai 104 B4,.blk b6 78 B1,.blk b2 28 B0] aP:=bb
 refine zc ?_
 cases ap
 exact zI ⟨Z,⟨U,Z,Z,(zO _),bc⟩⟩
 refine zV (j:=1) (vs:=B4) Z Z Z Z an Z Z Z Z zF (zA Z) Z Z Z ?_
 intro aQ bd
 have aK:sW w U U [.blk aj 104 B2,.blk ai 104 B4,.blk b6 78 B1,.blk b2 28 B0] aQ:=bd
 refine ZR Z Z Z Z (aK.ldB (j:=2) Z Z Z zJ (v:=jV p1.Index) Z) (oR Z (zb Z Z Z) (oR Z (zl (pv:=[(0,jV p1.Skier),(1,jV (w64 (p1.Index + 1)))]) (z:=B2) (cs:=B3) Z (wAH Z (wAH Z wAP)) zZ wBL Z Z) (zV (j:=0) (vs:=B3) Z Z Z Z aK Z Z Z Z zF (zA Z) Z Z Z ?_)))
 intro aR be
 have bf:sW w U U [.blk aj 104 B3,.blk ai 104 B4,.blk b6 78 B1,.blk b2 28 B0] aR:=be
 refine zc ?_
 cases ap
 exact zI ⟨Z,⟨U,Z,Z,(zO _),bf⟩⟩
 refine zn ?_ ?_
 refine ZR Z Z Z Z (an.ldB (j:=2) Z Z Z zJ (v:=jV p1.Index) Z) (oR Z (zb Z Z Z) (zn ?_ ?_))
 refine ZR Z Z Z Z (an.ldB (j:=2) Z Z Z zJ (v:=jV p1.Skier) Z) (oR Z (zl (pv:=[(0,jV p1.Skier),(1,jV (w64 (p1.Index + 1)))]) (z:=B2) (cs:=B3) Z (wAH Z (wAH Z wAP)) zZ wBL Z Z) (zV (j:=1) (vs:=B4) Z Z Z Z an Z Z Z Z zF (zA Z) Z Z Z ?_))
 intro aS bg
 have bh:sW w U U [.blk aj 104 B2,.blk ai 104 B4,.blk b6 78 B1,.blk b2 28 B0] aS:=bg
 refine zV (j:=0) (vs:=B3) Z Z Z Z bh Z Z Z Z zF (zA Z) Z Z Z ?_
 intro aT bi
 have bj:sW w U U [.blk aj 104 B3,.blk ai 104 B4,.blk b6 78 B1,.blk b2 28 B0] aT:=bi
 refine zc ?_
 cases ap
 exact zI ⟨Z,⟨U,Z,Z,(zO _),bj⟩⟩
 refine zV (j:=1) (vs:=B4) Z Z Z Z an Z Z Z Z zF (zA Z) Z Z Z ?_
 intro aU bk
 have aL:sW w U U [.blk aj 104 B2,.blk ai 104 B4,.blk b6 78 B1,.blk b2 28 B0] aU:=bk
 refine ZR Z Z Z Z (aL.ldB (j:=2) Z Z Z zJ (v:=jV p1.Skier) Z) (oR Z (zl (pv:=[(0,jV p1.Skier),(1,jV (w64 (p1.Index + 1)))]) (z:=B2) (cs:=B3) Z (wAH Z (wAH Z wAP)) zZ wBL Z Z) (zV (j:=0) (vs:=B3) Z Z Z Z aL Z Z Z Z zF (zA Z) Z Z Z ?_))
 intro aV bm
 have bn:sW w U U [.blk aj 104 B3,.blk ai 104 B4,.blk b6 78 B1,.blk b2 28 B0] aV:=bm
 refine zc ?_
 cases ap
 exact zI ⟨Z,⟨U,Z,Z,(zO _),bn⟩⟩
 refine zV (j:=1) (vs:=B4) Z Z Z Z an Z Z Z Z zF (zA Z) Z Z Z ?_
 intro aW bo
 have ao:sW w U U [.blk aj 104 B2,.blk ai 104 B4,.blk b6 78 B1,.blk b2 28 B0] aW:=bo
 refine zn ?_ ?_
 refine ZR Z Z Z Z (ao.ldB (j:=2) Z Z Z zJ (v:=jV p1.Skier) Z) (ZR Z Z Z Z (ao.ldB (j:=2) Z Z Z zJ (v:=jV p1.Index) Z) (oR Z (zb Z Z Z) (oR Z (zl (pv:=[(0,jV p1.Skier),(1,jV (w64 (p1.Index + 1)))]) (z:=B2) (cs:=B3) Z (wAH Z (wAH Z wAP)) zZ wBL Z Z) (zV (j:=0) (vs:=B3) Z Z Z Z ao Z Z Z Z zF (zA Z) Z Z Z ?_))))
 intro aX bp
 have bq:sW w U U [.blk aj 104 B3,.blk ai 104 B4,.blk b6 78 B1,.blk b2 28 B0] aX:=bp
 refine zc ?_
 cases ap
 exact zI ⟨Z,⟨U,Z,Z,(zO _),bq⟩⟩
 refine ZR Z Z Z Z (ao.ldB (j:=2) Z Z Z zJ (v:=jV p1.Index) Z) (oR Z (zb Z Z Z) (ZR Z Z Z Z (ao.ldB (j:=2) Z Z Z zJ (v:=jV p1.Skier) Z) (oR Z (zl (pv:=[(0,jV p1.Skier),(1,jV (w64 (p1.Index + 1)))]) (z:=B2) (cs:=B3) Z (wAH Z (wAH Z wAP)) zZ wBL Z Z) (zV (j:=0) (vs:=B3) Z Z Z Z ao Z Z Z Z zF (zA Z) Z Z Z ?_))))
 intro aY br
 have bs:sW w U U [.blk aj 104 B3,.blk ai 104 B4,.blk b6 78 B1,.blk b2 28 B0] aY:=br
 refine zc ?_
 cases ap
 exact zI ⟨Z,⟨U,Z,Z,(zO _),bs⟩⟩
 rintro bF bx ⟨aN,aZ,a5,bE,aq⟩
 refine zU ?_
 cases aM
 exact ⟨rfl,_,(wDf (rs:=[.cell 4 104,.cell 5 104]) (vs:=[.agg B4.toArray,.agg B3.toArray]) ⟨⟨_,aZ,(wAq zh zF (aq.blkAt (k:=1) rfl) (vs:=B4) rfl rfl)⟩,⟨⟨_,a5,(wAq zh zF (aq.blkAt (k:=0) rfl) (vs:=B3) rfl rfl)⟩,trivial⟩⟩ rfl),aN,_,(aq.pick [] _ (by decide) rfl),rfl,rfl⟩
theorem wGW (p0:wAD) (ah:Option Addr) (ak:Nat) (af:Option Addr) (ag:Nat) (ai:Option Addr) (am:Nat) (aj:Option Addr) (an:Nat) (p1:wAJ) (w:World) (U:PHeap) (hS:St0 w U []) (aO:Sl U 1 ah ak p0.Starts.length (hD KL.encI p0.Starts)) (ap:Sl U 2 af ag p0.Splits.length (hD wAC p0.Splits)) (aP:Sl U 3 ai am p0.Clocks.length (hD wAB p0.Clocks)) (aQ:Sl U 4 aj an p0.Readings.length (hD wAA p0.Readings)) {r:Int × Int} (hm:wDP p0 p1=some r):Gv Try.prog 113 [.agg #[.slice ah p0.Starts.length ak,.slice af p0.Splits.length ag,.slice ai p0.Clocks.length am,.slice aj p0.Readings.length an],.agg #[jV p1.Kind,jV p1.Skier,jV p1.Index,.bool p1.Up]] w (wBs w [] U (fun U_ L_ v=>v=.tuple #[jV r.1,jV r.2]/\L_=[])):=by
 unfold wDP at hm
 refine Gv.of Try.func113 rfl Try.ntmps113 Try.results113 rfl (sR gCl rfl (zu (cs:=[.slice ah p0.Starts.length ak,.slice af p0.Splits.length ag,.slice ai p0.Clocks.length am,.slice aj p0.Readings.length an]) rfl rfl rfl rfl rfl rfl (by rfl) hS ?_))
 intro W1 b2 az
 refine zu (cs:=[jV p1.Kind,jV p1.Skier,jV p1.Index,.bool p1.Up]) rfl rfl rfl rfl rfl rfl (by rfl) az ?_
 intro W5 b6 aG
 refine yF rfl rfl rfl rfl rfl rfl (yF rfl rfl rfl rfl rfl rfl (eN (zL (ZG ZH [3,1,3,1,3,3,1,3,1,3,1,3,3,1,3,3,3] fL17 (by kernel_rfl) ?_))))
 have ac:=aG.drew
 generalize hw_W10:({ W5 with drawn:=W5.drawn + 1 }:World)=aJ at ac ⊢
 refine oR Z (zG Z Z zK Z yG) (oL Z (ac.ldB (j:=1) Z Z Z yS (v:=.slice af p0.Splits.length ag) Z) (oR Z (zG Z Z zj Z zC) (oL Z (ac.ldB (j:=0) Z Z Z zJ (v:=jV p1.Index) Z) (bnK hm fun aq ae aH=>?_))))
 have q:=ap.el (fun _=>rfl) (wAj ae)
 obtain ⟨aK,aR,au,ax⟩:=q
 refine oR Z (Zb Z Z au Z ZK zf (wCk ae) (wCw ae)) (oR Z (zG Z Z ZO Z zC) (oL Z (ac.ldC (f:=1) ax (v:=jV aq.Hi) Z Z zJ Z) (oR Z (zG Z Z zK Z yG) (oL Z (ac.ldB (j:=1) Z Z Z yS (v:=.slice af p0.Splits.length ag) Z) (oR Z (zG Z Z zj Z zC) (oL Z (ac.ldB (j:=0) Z Z Z zJ (v:=jV p1.Index) Z) ?_))))))
 have q:=ap.el (fun _=>rfl) (wAj ae)
 obtain ⟨aL,aS,av,ay⟩:=q
 refine oR Z (Zb Z Z av Z ZK zf (wCk ae) (wCw ae)) (oR Z (zG Z Z ZO Z zC) (oL Z (ac.ldC (f:=0) ay (v:=jV aq.Lo) Z Z zJ Z) (oR Z (Runs.negw Z Z) (oA Z Z (oA Z Z (eN (zU ?_)))))))
 cases aH
 exact ⟨rfl,_,(wDm rfl rfl),U,_,(ac.pick [] _ (by decide) rfl),rfl,rfl⟩
theorem wGX (p0:wAD) (ah:Option Addr) (ak:Nat) (ai:Option Addr) (am:Nat) (af:Option Addr) (ag:Nat) (aj:Option Addr) (an:Nat) (p1:wAJ) (w:World) (U:PHeap) (hS:St0 w U []) (aO:Sl U 1 ah ak p0.Starts.length (hD KL.encI p0.Starts)) (aP:Sl U 2 ai am p0.Splits.length (hD wAC p0.Splits)) (aQ:Sl U 3 af ag p0.Clocks.length (hD wAB p0.Clocks)) (aR:Sl U 4 aj an p0.Readings.length (hD wAA p0.Readings)) {r:Bool} (hm:wDx p0 p1=some r):Gv Try.prog 114 [.agg #[.slice ah p0.Starts.length ak,.slice ai p0.Splits.length am,.slice af p0.Clocks.length ag,.slice aj p0.Readings.length an],.agg #[jV p1.Kind,jV p1.Skier,jV p1.Index,.bool p1.Up]] w (wBs w [] U (fun U_ L_ v=>v=.bool r/\L_=[])):=by
 unfold wDx at hm
 refine Gv.of Try.func114 Z Try.ntmps114 Try.results114 Z (sR gCa Z ?_)
 let B0:List Value:=[.slice ah p0.Starts.length ak,.slice ai p0.Splits.length am,.slice af p0.Clocks.length ag,.slice aj p0.Readings.length an]
 refine zu (cs:=B0) rfl rfl rfl rfl rfl rfl (by rfl) hS ?_
 intro W1 b2 aK
 let B1:List Value:=[jV p1.Kind,jV p1.Skier,jV p1.Index,.bool p1.Up]
 refine zu (cs:=B1) rfl rfl rfl rfl rfl rfl (by rfl) aK ?_
 intro W5 b6 ae
 refine oA Z Z (eN (sR (wJB gCb) Z (oR Z (zG Z Z zj Z zC) (oL Z (ae.ldB (j:=0) Z Z Z zJ (v:=jV p1.Skier) Z) (oR Z (yJ Z Z Z) (oM Z Z ?_))))))
 by_cases c9:p1.Skier=0
 have au:=hm;rw [if_pos c9] at au;replace c9:=zN c9
 refine rU Z (wT Z c9) (zG Z Z zj Z zC) (ZF Z Z Z (wT Z c9) (ae.ldB (j:=0) Z Z Z zJ (v:=jV p1.Index) Z) Z (rU Z (wT Z c9) (zG Z Z zK Z Zn) (ZF Z Z Z (wT Z c9) (ae.ldB (j:=1) Z Z Z yI (v:=.slice af p0.Clocks.length ag) Z) Z (rU Z (wT Z c9) (zw Z Z ZU) (rU Z (wT Z c9) (yU Z Z Z) (bnK au fun aU aH aL=>zE 0 Z Z Z (wT Z c9) (zD Z Z yO (zB Z (zB Z (zB Z zM))) Z) ae (fun hs=>wBY p1.Index 0 (w64 ((↑p0.Clocks.length:Int) - 1)) W5 U hs aH) (.inr Z) ?_))))))
 rintro aq aM aT ax aS aI ⟨rfl,rfl⟩
 have aJ:sW w U aq [.blk b6 78 B1,.blk b2 28 B0] ax:=aI
 refine oR Z (zQ Z (Zk c9.out) Z) (oA Z Z (eN (zU ?_)))
 have hE:=nE aL;first | subst r | cases hE
 exact ⟨rfl,_,(ZV rfl),aq,_,(aJ.pick [] _ (by decide) rfl),rfl,rfl⟩
 have av:=hm;rw [if_neg c9] at av;replace c9:=zN c9
 refine oF Z c9 (oF Z c9 (oF Z c9 (oF Z c9 (oF Z c9 (oF Z c9 (ZE Z Z Z (zS Z Z (zt c9.out) Z) (oR Z (ze Z (zt c9.out) Z) (oA Z Z (eN (zU ?_))))))))))
 have hE:=nE av;first | subst r | cases hE
 exact ⟨rfl,_,(ZV rfl),U,_,(ae.pick [] _ (by decide) rfl),rfl,rfl⟩
theorem wCT (p0:Int) (w:World) (U:PHeap) (hS:St0 w U [])  {r:wAL} (hm:wCS p0=some r):Gv Try.prog 82 [jV p0] w (wBs w [] U (fun U_ L_ v=>v=.agg #[jV r.skier,jV r.mat]/\L_=[])):=by
 unfold wCS at hm
 refine Gv.of Try.func82 Z Try.ntmps82 Try.results82 Z (sR (.fx 0 .nil .stop) Z (zR (cs:=[jV 0,jV 0]) Z Z Z Z Z zZ Z hS ?_))
 intro W1 b2 ag
 refine eN (sR (wCg (.fx 3 .nil .stop)) Z (oM Z Z (oR Z (zb Z Z Z) ?_)))
 let B0:List Value:=[jV (-1),jV (w64 (1 + p0))]
 refine oR Z (zl (pv:=[(0,jV (-1)),(1,jV (w64 (1 + p0)))]) (z:=[jV 0,jV 0]) (cs:=B0) Z (wAH Z (wAH Z wAP)) zZ wBL Z Z) (zV (j:=0) (vs:=B0) Z Z Z Z ag Z Z Z Z zF (zA Z) Z Z Z ?_)
 intro W5 ah
 have ac:sW w U U [.blk b2 104 B0] W5:=ah
 refine eN (zU ?_)
 cases hm
 exact ⟨rfl,_,(wFg (v:=.agg B0.toArray) ⟨⟨_,rfl,(wAq zh zF (ac.blkAt (k:=0) rfl) (vs:=B0) rfl rfl)⟩,trivial⟩),U,_,(ac.pick [] _ (by decide) rfl),rfl,rfl⟩
theorem wGY (p0:wAD) (aq:Option Addr) (ay:Nat) (au:Option Addr) (az:Nat) (av:Option Addr) (aG:Nat) (ax:Option Addr) (aH:Nat) (p1:wAJ) (w:World) (U:PHeap) (hS:St0 w U []) (bg:Sl U 1 aq ay p0.Starts.length (hD KL.encI p0.Starts)) (bh:Sl U 2 au az p0.Splits.length (hD wAC p0.Splits)) (bi:Sl U 3 av aG p0.Clocks.length (hD wAB p0.Clocks)) (bj:Sl U 4 ax aH p0.Readings.length (hD wAA p0.Readings)) {r:wAL × wAL} (hm:wDQ p0 p1=some r):Gv Try.prog 115 [.agg #[.slice aq p0.Starts.length ay,.slice au p0.Splits.length az,.slice av p0.Clocks.length aG,.slice ax p0.Readings.length aH],.agg #[jV p1.Kind,jV p1.Skier,jV p1.Index,.bool p1.Up]] w (wBs w [] U (fun U_ L_ v=>v=.tuple #[.agg #[jV r.1.skier,jV r.1.mat],.agg #[jV r.2.skier,jV r.2.mat]]/\L_=[])):=by
 unfold wDQ at hm
 refine Gv.of Try.func115 Z Try.ntmps115 Try.results115 Z (sR gCj Z ?_)
 let B0:List Value:=[.slice aq p0.Starts.length ay,.slice au p0.Splits.length az,.slice av p0.Clocks.length aG,.slice ax p0.Readings.length aH]
 refine zu (cs:=B0) rfl rfl rfl rfl rfl rfl (by rfl) hS ?_
 intro W1 b2 aX
 let B1:List Value:=[jV p1.Kind,jV p1.Skier,jV p1.Index,.bool p1.Up]
 refine zu (cs:=B1) rfl rfl rfl rfl rfl rfl (by rfl) aX ?_
 intro W5 b6 a8
 let B2:List Value:=[jV 0,jV 0]
 refine zR (cs:=B2) Z Z Z Z Z zZ Z a8 ?_
 intro W9 aj aT
 refine zR (cs:=B2) Z Z Z Z Z zZ Z aT ?_
 intro aJ ak aU
 refine eN (zL (ZG ZH [2,3,1,2,0,0] (.fl 1 (.fl 2 (.fx 0 (.fx 3 gBn .stop) .stop))) (by kernel_rfl) ?_))
 have ao:=aU.drew
 generalize hw_W18:({ aJ with drawn:=aJ.drawn + 1 }:World)=aN at ao ⊢
 refine oR Z (zG Z Z zj Z zC) (oL Z (ao.ldB (j:=2) Z Z Z zJ (v:=jV p1.Index) Z) (bnK hm fun aL aR a9=>zE 0 Z Z Z Z (zD Z Z yZ zM Z) ao (fun hs=>wBS aN U hs aR) (.inr Z) ?_))
 rintro aI bb bn aK bk aV ⟨rfl,rfl⟩
 have aW:sW w U aI [.blk ak 104 B2,.blk aj 104 B2,.blk b6 78 B1,.blk b2 28 B0] aK:=aV
 refine bnK a9 fun aM aS ba=>zE 0 Z Z Z Z (zD Z Z Try.call82 (zB Z zM) Z) aW (fun hs=>wCT p1.Index aK aI hs aS) (.inr Z) ?_
 rintro ai bc bo aO bm aY ⟨rfl,rfl⟩
 have aZ:sW w U ai [.blk ak 104 B2,.blk aj 104 B2,.blk b6 78 B1,.blk b2 28 B0] aO:=aY
 let B3:List Value:=[jV aL.skier,jV aL.mat]
 refine zV (j:=1) (vs:=B3) Z Z Z Z aZ Z Z Z Z zF (zA Z) Z Z Z ?_
 intro aP a5
 have a6:sW w U ai [.blk ak 104 B2,.blk aj 104 B3,.blk b6 78 B1,.blk b2 28 B0] aP:=a5
 let B4:List Value:=[jV aM.skier,jV aM.mat]
 refine zV (j:=0) (vs:=B4) Z Z Z Z a6 Z Z Z Z zF (zA Z) Z Z Z ?_
 intro aQ a7
 have ap:sW w U ai [.blk ak 104 B4,.blk aj 104 B3,.blk b6 78 B1,.blk b2 28 B0] aQ:=a7
 refine eN (zU ?_)
 cases ba
 exact ⟨rfl,_,(wDf (rs:=[.cell 4 104,.cell 5 104]) (vs:=[.agg B3.toArray,.agg B4.toArray]) ⟨⟨_,rfl,(wAq zh zF (ap.blkAt (k:=1) rfl) (vs:=B3) rfl rfl)⟩,⟨⟨_,rfl,(wAq zh zF (ap.blkAt (k:=0) rfl) (vs:=B4) rfl rfl)⟩,trivial⟩⟩ rfl),ai,_,(ap.pick [] _ (by decide) rfl),rfl,rfl⟩
theorem wGZ (p0:wAD) (ah:Option Addr) (ak:Nat) (ai:Option Addr) (am:Nat) (af:Option Addr) (ag:Nat) (aj:Option Addr) (an:Nat) (p1:wAJ) (w:World) (U:PHeap) (hS:St0 w U []) (aO:Sl U 1 ah ak p0.Starts.length (hD KL.encI p0.Starts)) (aP:Sl U 2 ai am p0.Splits.length (hD wAC p0.Splits)) (ap:Sl U 3 af ag p0.Clocks.length (hD wAB p0.Clocks)) (aQ:Sl U 4 aj an p0.Readings.length (hD wAA p0.Readings)) {r:Int × Int} (hm:wDR p0 p1=some r):Gv Try.prog 116 [.agg #[.slice ah p0.Starts.length ak,.slice ai p0.Splits.length am,.slice af p0.Clocks.length ag,.slice aj p0.Readings.length an],.agg #[jV p1.Kind,jV p1.Skier,jV p1.Index,.bool p1.Up]] w (wBs w [] U (fun U_ L_ v=>v=.tuple #[jV r.1,jV r.2]/\L_=[])):=by
 unfold wDR at hm
 refine Gv.of Try.func116 rfl Try.ntmps116 Try.results116 rfl (sR gCl rfl (zu (cs:=[.slice ah p0.Starts.length ak,.slice ai p0.Splits.length am,.slice af p0.Clocks.length ag,.slice aj p0.Readings.length an]) rfl rfl rfl rfl rfl rfl (by rfl) hS ?_))
 intro W1 b2 az
 refine zu (cs:=[jV p1.Kind,jV p1.Skier,jV p1.Index,.bool p1.Up]) rfl rfl rfl rfl rfl rfl (by rfl) az ?_
 intro W5 b6 aG
 refine yF rfl rfl rfl rfl rfl rfl (yF rfl rfl rfl rfl rfl rfl (eN (zL (ZG ZH [3,1,3,1,3,3,3,1,3,3,1,3,1,3,3,3,1,3,3] fL19 (by kernel_rfl) ?_))))
 have ac:=aG.drew
 generalize hw_W10:({ W5 with drawn:=W5.drawn + 1 }:World)=aJ at ac ⊢
 refine oR Z (zG Z Z zK Z Zn) (oL Z (ac.ldB (j:=1) Z Z Z yI (v:=.slice af p0.Clocks.length ag) Z) (oR Z (zG Z Z zj Z zC) (oL Z (ac.ldB (j:=0) Z Z Z zJ (v:=jV p1.Index) Z) (bnK hm fun aq ae aH=>?_))))
 have q:=ap.el (fun _=>rfl) (wAj ae)
 obtain ⟨aK,aR,au,ax⟩:=q
 refine oR Z (Zb Z Z au Z ZU Zt (wCk ae) (wCw ae)) (oR Z (zG Z Z Zq Z zf) (oR Z (zG Z Z ZO Z zC) (oL Z (ac.ldC (f:=0) ax (v:=jV aq.Offset.Lo) Z Z zJ Z) (oR Z (Runs.negw Z Z) (oR Z (zG Z Z zK Z Zn) (oL Z (ac.ldB (j:=1) Z Z Z yI (v:=.slice af p0.Clocks.length ag) Z) (oR Z (zG Z Z zj Z zC) (oL Z (ac.ldB (j:=0) Z Z Z zJ (v:=jV p1.Index) Z) ?_))))))))
 have q:=ap.el (fun _=>rfl) (wAj ae)
 obtain ⟨aL,aS,av,ay⟩:=q
 refine oR Z (Zb Z Z av Z ZU Zt (wCk ae) (wCw ae)) (oR Z (zG Z Z Zq Z zf) (oR Z (zG Z Z ZO Z zC) (oL Z (ac.ldC (f:=1) ay (v:=jV aq.Offset.Hi) Z Z zJ Z) (oA Z Z (oA Z Z (eN (zU ?_)))))))
 cases aH
 exact ⟨rfl,_,(wDm rfl rfl),U,_,(ac.pick [] _ (by decide) rfl),rfl,rfl⟩
theorem wFz (p0:wAD) (ah:Option Addr) (ak:Nat) (ai:Option Addr) (am:Nat) (aj:Option Addr) (an:Nat) (af:Option Addr) (ag:Nat) (p1:wAJ) (w:World) (U:PHeap) (hS:St0 w U []) (aO:Sl U 1 ah ak p0.Starts.length (hD KL.encI p0.Starts)) (aP:Sl U 2 ai am p0.Splits.length (hD wAC p0.Splits)) (aQ:Sl U 3 aj an p0.Clocks.length (hD wAB p0.Clocks)) (aR:Sl U 4 af ag p0.Readings.length (hD wAA p0.Readings)) {r:Bool} (hm:wDg p0 p1=some r):Gv Try.prog 117 [.agg #[.slice ah p0.Starts.length ak,.slice ai p0.Splits.length am,.slice aj p0.Clocks.length an,.slice af p0.Readings.length ag],.agg #[jV p1.Kind,jV p1.Skier,jV p1.Index,.bool p1.Up]] w (wBs w [] U (fun U_ L_ v=>v=.bool r/\L_=[])):=by
 unfold wDg at hm
 refine Gv.of Try.func117 Z Try.ntmps117 Try.results117 Z (sR gCa Z ?_)
 let B0:List Value:=[.slice ah p0.Starts.length ak,.slice ai p0.Splits.length am,.slice aj p0.Clocks.length an,.slice af p0.Readings.length ag]
 refine zu (cs:=B0) rfl rfl rfl rfl rfl rfl (by rfl) hS ?_
 intro W1 b2 aK
 let B1:List Value:=[jV p1.Kind,jV p1.Skier,jV p1.Index,.bool p1.Up]
 refine zu (cs:=B1) rfl rfl rfl rfl rfl rfl (by rfl) aK ?_
 intro W5 b6 ae
 refine oA Z Z (eN (sR (wJB gCb) Z (oR Z (zG Z Z zj Z zC) (oL Z (ae.ldB (j:=0) Z Z Z zJ (v:=jV p1.Skier) Z) (oR Z (yJ Z Z Z) (oM Z Z ?_))))))
 by_cases c9:p1.Skier=0
 have au:=hm;rw [if_pos c9] at au;replace c9:=zN c9
 refine rU Z (wT Z c9) (zG Z Z zj Z zC) (ZF Z Z Z (wT Z c9) (ae.ldB (j:=0) Z Z Z zJ (v:=jV p1.Index) Z) Z (rU Z (wT Z c9) (zG Z Z zK Z ZW) (ZF Z Z Z (wT Z c9) (ae.ldB (j:=1) Z Z Z Zm (v:=.slice af p0.Readings.length ag) Z) Z (rU Z (wT Z c9) (zw Z Z zy) (rU Z (wT Z c9) (yU Z Z Z) (bnK au fun aU aH aL=>zE 0 Z Z Z (wT Z c9) (zD Z Z yO (zB Z (zB Z (zB Z zM))) Z) ae (fun hs=>wBY p1.Index 0 (w64 ((↑p0.Readings.length:Int) - 1)) W5 U hs aH) (.inr Z) ?_))))))
 rintro aq aM aT ax aS aI ⟨rfl,rfl⟩
 have aJ:sW w U aq [.blk b6 78 B1,.blk b2 28 B0] ax:=aI
 refine oR Z (zQ Z (Zk c9.out) Z) (oA Z Z (eN (zU ?_)))
 have hE:=nE aL;first | subst r | cases hE
 exact ⟨rfl,_,(ZV rfl),aq,_,(aJ.pick [] _ (by decide) rfl),rfl,rfl⟩
 have av:=hm;rw [if_neg c9] at av;replace c9:=zN c9
 refine oF Z c9 (oF Z c9 (oF Z c9 (oF Z c9 (oF Z c9 (oF Z c9 (ZE Z Z Z (zS Z Z (zt c9.out) Z) (oR Z (ze Z (zt c9.out) Z) (oA Z Z (eN (zU ?_))))))))))
 have hE:=nE av;first | subst r | cases hE
 exact ⟨rfl,_,(ZV rfl),U,_,(ae.pick [] _ (by decide) rfl),rfl,rfl⟩
theorem wGA (p0:wAD) (aY:Option Addr) (a6:Nat) (aZ:Option Addr) (a7:Nat) (a5:Option Addr) (a8:Nat) (aH:Option Addr) (aI:Nat) (p1:wAJ) (w:World) (U:PHeap) (hS:St0 w U []) (fN:Sl U 1 aY a6 p0.Starts.length (hD KL.encI p0.Starts)) (fO:Sl U 2 aZ a7 p0.Splits.length (hD wAC p0.Splits)) (fP:Sl U 3 a5 a8 p0.Clocks.length (hD wAB p0.Clocks)) (eB:Sl U 4 aH aI p0.Readings.length (hD wAA p0.Readings)) {r:wAL × wAL} (hm:wDA p0 p1=some r):Gv Try.prog 118 [.agg #[.slice aY p0.Starts.length a6,.slice aZ p0.Splits.length a7,.slice a5 p0.Clocks.length a8,.slice aH p0.Readings.length aI],.agg #[jV p1.Kind,jV p1.Skier,jV p1.Index,.bool p1.Up]] w (wBs w [] U (fun U_ L_ v=>v=.tuple #[.agg #[jV r.1.skier,jV r.1.mat],.agg #[jV r.2.skier,jV r.2.mat]]/\L_=[])):=by
 unfold wDA at hm
 refine Gv.of Try.func118 Z Try.ntmps118 Try.results118 Z (sR gCj Z ?_)
 let B0:List Value:=[.slice aY p0.Starts.length a6,.slice aZ p0.Splits.length a7,.slice a5 p0.Clocks.length a8,.slice aH p0.Readings.length aI]
 refine zu (cs:=B0) rfl rfl rfl rfl rfl rfl (by rfl) hS ?_
 intro W1 b2 eg
 let B1:List Value:=[jV p1.Kind,jV p1.Skier,jV p1.Index,.bool p1.Up]
 refine zu (cs:=B1) rfl rfl rfl rfl rfl rfl (by rfl) eg ?_
 intro W5 b6 eA
 let B2:List Value:=[jV 0,jV 0]
 refine zR (cs:=B2) Z Z Z Z Z zZ Z eA ?_
 intro W9 ae dL
 refine zR (cs:=B2) Z Z Z Z Z zZ Z dL ?_
 intro ff af ay
 refine eN (sR (wGf gBo) Z (oR Z (zG Z Z zK Z ZW) (oL Z (ay.ldB (j:=3) Z Z Z Zm (v:=.slice aH p0.Readings.length aI) Z) (oR Z (zG Z Z zj Z zC) (oL Z (ay.ldB (j:=2) Z Z Z zJ (v:=jV p1.Index) Z) (bnK hm fun ab aU eD=>?_))))))
 have q:=eB.el (fun _=>rfl) (wAj aU)
 obtain ⟨fC,fR,dJ,dK⟩:=q
 refine oR Z (Zb Z Z dJ Z zy ZP (wCk aU) (wCw aU)) (oL Z (ay.ldCA (f:=0) dK Z Z yc ZP (us:=[jV ab.Skier,jV ab.Mat,jV ab.Clock,jV ab.Time]) Z Z) (zR (cs:=[jV 0,jV 0,jV 0,jV 0]) Z Z Z Z Z Zj Z ay ?_))
 intro ft aa dY
 let B3:List Value:=[jV ab.Skier,jV ab.Mat,jV ab.Clock,jV ab.Time]
 refine zV (j:=0) (vs:=B3) Z Z Z Z dY Z Z Z Z ZP (zA Z) Z Z Z ?_
 intro aM ef
 have eh:sW w U U [.blk aa 39 B3,.blk af 104 B2,.blk ae 104 B2,.blk b6 78 B1,.blk b2 28 B0] aM:=ef
 refine eN ?_
 have q:=bnd eD
 obtain ⟨⟨eX,eY⟩,eF,bM⟩:=q
 try dsimp only at bM
 let B4:List Value:=[jV ab.Skier,jV ab.Mat]
 let B5:List Value:=[jV eX,jV eY]
 refine yP (fun σ_ w_=>∃ (U_:PHeap),σ_ 4=.pointer (some ⟨ae,0,none⟩)/\σ_ 5=.pointer (some ⟨af,0,none⟩)/\PHeap.Le U U_/\sW w U U_ [.blk aa 39 B3,.blk af 104 B4,.blk ae 104 B5,.blk b6 78 B1,.blk b2 28 B0] w_) ?_ ?_
 refine bnK eF fun bY ax eE=>ZG ZH [3,1,2,3,2,3,2,3,0,0] (.fl 0 (.fl 1 (.fl 3 (.fl 5 (.fx 2 (.fx 4 gCs (.fx 6 gCt (.fx 8 (.fx 4 gCc (.fx 6 gCd .stop)) .stop))) (.fx 4 (.fx 2 gCs (.fx 6 gCm .stop)) (.fx 6 (.fx 2 gCt (.fx 4 gCm .stop)) .stop))))))) (by kernel_rfl) ?_
 have ap:=eh.drew
 generalize hw_W54:({ aM with drawn:=aM.drawn + 1 }:World)=aN at ap ⊢
 let B6:List Value:=[jV bY.skier,jV bY.mat]
 refine ZS (s:=.nil) (M:=fun σ_ w_=>∃ (U_:PHeap),σ_ 4=.pointer (some ⟨ae,0,none⟩)/\σ_ 5=.pointer (some ⟨af,0,none⟩)/\σ_ 6=.pointer (some ⟨aa,0,none⟩)/\σ_ 13=.pointer (some ⟨aa,2,none⟩)/\σ_ 14=jV ab.Clock/\σ_ 15=.agg B6.toArray/\σ_ 16=.pointer (some ⟨aa,0,none⟩)/\σ_ 17=jV ab.Skier/\σ_ 18=.pointer (some ⟨aa,1,none⟩)/\σ_ 19=jV ab.Mat/\σ_ 20=.agg B4.toArray/\PHeap.Le U U_/\sW w U U_ [.blk aa 39 B3,.blk af 104 B4,.blk ae 104 B6,.blk b6 78 B1,.blk b2 28 B0] w_) ?_ fun bN=>?_
 rintro fW fg ⟨bZ,cx,cy,fD,fE,fG,fH,fI,fJ,fK,fL,fM,eH,dM⟩
 refine zc ?_
 cases eE
 exact zI ⟨Z,⟨bZ,cx,cy,eH,dM⟩⟩
 refine ZS (s:=.fx 9 .nil .stop) (M:=fun σ_ w_=>∃ (U_:PHeap),σ_ 4=.pointer (some ⟨ae,0,none⟩)/\σ_ 5=.pointer (some ⟨af,0,none⟩)/\σ_ 6=.pointer (some ⟨aa,0,none⟩)/\σ_ 13=.pointer (some ⟨aa,2,none⟩)/\σ_ 14=jV ab.Clock/\σ_ 15=.agg B6.toArray/\σ_ 16=.pointer (some ⟨aa,0,none⟩)/\σ_ 17=jV ab.Skier/\σ_ 18=.pointer (some ⟨aa,1,none⟩)/\σ_ 19=jV ab.Mat/\σ_ 20=.agg B4.toArray/\PHeap.Le U U_/\sW w U U_ [.blk aa 39 B3,.blk af 104 B2,.blk ae 104 B6,.blk b6 78 B1,.blk b2 28 B0] w_) ?_ fun bO=>?_
 rintro fY fh ⟨a9,cz,bg,cA,cB,cC,cD,cE,cG,cH,cI,bh,eI,dN⟩
 refine zV (j:=1) (vs:=B4) Z Z Z Z dN Z bg bh Z zF (zA Z) Z Z Z ?_
 intro cf dO
 have dP:sW w U a9 [.blk aa 39 B3,.blk af 104 B4,.blk ae 104 B6,.blk b6 78 B1,.blk b2 28 B0] cf:=dO
 exact bN _ _ ⟨a9,cz,bg,cA,cB,cC,cD,cE,cG,cH,cI,bh,eI,dP⟩
 refine ZS (s:=gBp) (M:=fun σ_ w_=>∃ (U_:PHeap),σ_ 4=.pointer (some ⟨ae,0,none⟩)/\σ_ 5=.pointer (some ⟨af,0,none⟩)/\σ_ 6=.pointer (some ⟨aa,0,none⟩)/\σ_ 13=.pointer (some ⟨aa,2,none⟩)/\σ_ 14=jV ab.Clock/\σ_ 15=.agg B6.toArray/\σ_ 16=.pointer (some ⟨aa,0,none⟩)/\σ_ 17=jV ab.Skier/\σ_ 18=.pointer (some ⟨aa,1,none⟩)/\σ_ 19=jV ab.Mat/\σ_ 20=.agg B4.toArray/\PHeap.Le U U_/\sW w U U_ [.blk aa 39 B3,.blk af 104 B2,.blk ae 104 B2,.blk b6 78 B1,.blk b2 28 B0] w_) ?_ fun eG=>?_
 rintro fZ fj ⟨ba,bi,cJ,cK,cL,cM,bj,cN,cO,cP,cQ,cR,eJ,dQ⟩
 refine zV (j:=2) (vs:=B6) Z Z Z Z dQ Z bi bj Z zF (zA Z) Z Z Z ?_
 intro cg dR
 have dS:sW w U ba [.blk aa 39 B3,.blk af 104 B2,.blk ae 104 B6,.blk b6 78 B1,.blk b2 28 B0] cg:=dR
 exact bO _ _ ⟨ba,bi,cJ,cK,cL,cM,bj,cN,cO,cP,cQ,cR,eJ,dS⟩
 refine ZS (s:=gBq) (M:=fun σ_ w_=>∃ (U_:PHeap),σ_ 4=.pointer (some ⟨ae,0,none⟩)/\σ_ 5=.pointer (some ⟨af,0,none⟩)/\σ_ 6=.pointer (some ⟨aa,0,none⟩)/\σ_ 13=.pointer (some ⟨aa,2,none⟩)/\σ_ 14=jV ab.Clock/\σ_ 15=.agg B6.toArray/\σ_ 16=.pointer (some ⟨aa,0,none⟩)/\σ_ 17=jV ab.Skier/\σ_ 18=.pointer (some ⟨aa,1,none⟩)/\σ_ 19=jV ab.Mat/\PHeap.Le U U_/\sW w U U_ [.blk aa 39 B3,.blk af 104 B2,.blk ae 104 B6,.blk b6 78 B1,.blk b2 28 B0] w_) ?_ fun bP=>?_
 rintro f4 fk ⟨bb,cS,bk,cU,cV,cW,cX,cY,bm,cZ,bn,eK,dT⟩
 refine oR Z (zl (pv:=[(0,jV ab.Skier),(1,jV ab.Mat)]) (z:=B2) (cs:=B4) Z (wAH bm (wAH bn wAP)) zZ wBL Z Z) (zV (j:=1) (vs:=B4) Z Z Z Z dT Z bk Z Z zF (zA Z) Z Z Z ?_)
 intro ci dU
 have dV:sW w U bb [.blk aa 39 B3,.blk af 104 B4,.blk ae 104 B6,.blk b6 78 B1,.blk b2 28 B0] ci:=dU
 exact bN _ _ ⟨bb,cS,bk,cU,cV,cW,cX,cY,bm,cZ,bn,Z,eK,dV⟩
 refine ZS (s:=gCd) (M:=fun σ_ w_=>∃ (U_:PHeap),σ_ 4=.pointer (some ⟨ae,0,none⟩)/\σ_ 5=.pointer (some ⟨af,0,none⟩)/\σ_ 6=.pointer (some ⟨aa,0,none⟩)/\σ_ 13=.pointer (some ⟨aa,2,none⟩)/\σ_ 14=jV ab.Clock/\σ_ 15=.agg B6.toArray/\σ_ 16=.pointer (some ⟨aa,0,none⟩)/\σ_ 18=.pointer (some ⟨aa,1,none⟩)/\σ_ 19=jV ab.Mat/\PHeap.Le U U_/\sW w U U_ [.blk aa 39 B3,.blk af 104 B2,.blk ae 104 B6,.blk b6 78 B1,.blk b2 28 B0] w_) ?_ fun bQ=>?_
 rintro f5 fm ⟨ca,c6,da,db,dd,de,df,bo,dg,dh,eL,bK⟩
 exact ZR Z Z Z Z (bK.ldB (j:=0) Z Z bo zJ (v:=jV ab.Skier) Z) (bP _ _ ⟨ca,c6,da,db,dd,de,df,bo,Z,dg,dh,eL,bK⟩)
 refine ZS (s:=gCc) (M:=fun σ_ w_=>∃ (U_:PHeap),σ_ 4=.pointer (some ⟨ae,0,none⟩)/\σ_ 5=.pointer (some ⟨af,0,none⟩)/\σ_ 6=.pointer (some ⟨aa,0,none⟩)/\σ_ 13=.pointer (some ⟨aa,2,none⟩)/\σ_ 14=jV ab.Clock/\σ_ 15=.agg B6.toArray/\σ_ 16=.pointer (some ⟨aa,0,none⟩)/\σ_ 17=jV ab.Skier/\σ_ 18=.pointer (some ⟨aa,1,none⟩)/\PHeap.Le U U_/\sW w U U_ [.blk aa 39 B3,.blk af 104 B2,.blk ae 104 B6,.blk b6 78 B1,.blk b2 28 B0] w_) ?_ fun bR=>?_
 rintro f6 fq ⟨cb,di,dk,dl,dm,dq,dr,dt,du,bp,eM,bL⟩
 exact ZR Z Z Z Z (bL.ldB (j:=0) Z Z bp zJ (v:=jV ab.Mat) Z) (bP _ _ ⟨cb,di,dk,dl,dm,dq,dr,dt,du,bp,Z,eM,bL⟩)
 refine ZS (s:=.fl 7 gBp) (M:=fun σ_ w_=>∃ (U_:PHeap),σ_ 4=.pointer (some ⟨ae,0,none⟩)/\σ_ 5=.pointer (some ⟨af,0,none⟩)/\σ_ 6=.pointer (some ⟨aa,0,none⟩)/\σ_ 13=.pointer (some ⟨aa,2,none⟩)/\σ_ 14=jV ab.Clock/\σ_ 15=.agg B6.toArray/\σ_ 16=.pointer (some ⟨aa,0,none⟩)/\σ_ 17=jV ab.Skier/\σ_ 18=.pointer (some ⟨aa,1,none⟩)/\σ_ 19=jV ab.Mat/\PHeap.Le U U_/\sW w U U_ [.blk aa 39 B3,.blk af 104 B2,.blk ae 104 B2,.blk b6 78 B1,.blk b2 28 B0] w_) ?_ fun bS=>?_
 rintro f7 fu ⟨bc,bq,dv,dw,dx,dy,br,dz,bs,dA,bt,eO,dW⟩
 refine oR Z (zl (pv:=[(0,jV ab.Skier),(1,jV ab.Mat)]) (z:=B2) (cs:=B4) Z (wAH bs (wAH bt wAP)) zZ wBL Z Z) (zV (j:=2) (vs:=B6) Z Z Z Z dW Z bq br Z zF (zA Z) Z Z Z ?_)
 intro cm dX
 have dZ:sW w U bc [.blk aa 39 B3,.blk af 104 B2,.blk ae 104 B6,.blk b6 78 B1,.blk b2 28 B0] cm:=dX
 exact bO _ _ ⟨bc,bq,dv,dw,dx,dy,br,dz,bs,dA,bt,Z,eO,dZ⟩
 refine ZS (s:=gCm) (M:=fun σ_ w_=>∃ (U_:PHeap),σ_ 4=.pointer (some ⟨ae,0,none⟩)/\σ_ 5=.pointer (some ⟨af,0,none⟩)/\σ_ 6=.pointer (some ⟨aa,0,none⟩)/\σ_ 13=.pointer (some ⟨aa,2,none⟩)/\σ_ 14=jV ab.Clock/\σ_ 16=.pointer (some ⟨aa,0,none⟩)/\σ_ 17=jV ab.Skier/\σ_ 18=.pointer (some ⟨aa,1,none⟩)/\σ_ 19=jV ab.Mat/\PHeap.Le U U_/\sW w U U_ [.blk aa 39 B3,.blk af 104 B2,.blk ae 104 B2,.blk b6 78 B1,.blk b2 28 B0] w_) ?_ fun bT=>?_
 rintro f8 cn ⟨cc,dB,dC,dD,dE,bu,dF,bv,dG,bw,eQ,d7⟩
 refine oR Z (zl (pv:=[(0,jV ab.Skier),(1,jV ab.Mat)]) (z:=B2) (cs:=B4) Z (wAH bv (wAH bw wAP)) zZ wBL Z Z) (zE 0 Z Z Z Z (zD Z Z Try.call82 (zB bu zM) Z) d7 (fun hs=>wCT ab.Clock cn cc hs ax) (.inr Z) ?_)
 rintro bd eZ fS co eU d9 ⟨rfl,rfl⟩
 have ec:sW w U bd [.blk aa 39 B3,.blk af 104 B2,.blk ae 104 B2,.blk b6 78 B1,.blk b2 28 B0] co:=d9
 exact eG _ _ ⟨bd,dB,dC,dD,dE,bu,Z,dF,bv,dG,bw,Z,(eQ.trans eU),ec⟩
 refine ZS (s:=gCt) (M:=fun σ_ w_=>∃ (U_:PHeap),σ_ 4=.pointer (some ⟨ae,0,none⟩)/\σ_ 5=.pointer (some ⟨af,0,none⟩)/\σ_ 6=.pointer (some ⟨aa,0,none⟩)/\σ_ 13=.pointer (some ⟨aa,2,none⟩)/\σ_ 14=jV ab.Clock/\σ_ 15=.agg B6.toArray/\σ_ 16=.pointer (some ⟨aa,0,none⟩)/\σ_ 18=.pointer (some ⟨aa,1,none⟩)/\σ_ 19=jV ab.Mat/\PHeap.Le U U_/\sW w U U_ [.blk aa 39 B3,.blk af 104 B2,.blk ae 104 B2,.blk b6 78 B1,.blk b2 28 B0] w_) ?_ fun bU=>?_
 rintro f9 fw ⟨aK,aO,bx,bz,bA,bB,aP,aQ,bC,bD,bW,aV⟩
 refine zn ?_ ?_
 exact ZR Z Z Z Z (aV.ldB (j:=0) Z Z aQ zJ (v:=jV ab.Skier) Z) (bS _ _ ⟨aK,aO,bx,bz,bA,bB,aP,aQ,Z,bC,bD,bW,aV⟩)
 refine zV (j:=2) (vs:=B6) Z Z Z Z aV Z aO aP Z zF (zA Z) Z Z Z ?_
 intro cp ej
 have ek:sW w U aK [.blk aa 39 B3,.blk af 104 B2,.blk ae 104 B6,.blk b6 78 B1,.blk b2 28 B0] cp:=ej
 exact bQ _ _ ⟨aK,aO,bx,bz,bA,bB,aP,aQ,bC,bD,bW,ek⟩
 refine ZS (s:=gCs) (M:=fun σ_ w_=>∃ (U_:PHeap),σ_ 4=.pointer (some ⟨ae,0,none⟩)/\σ_ 5=.pointer (some ⟨af,0,none⟩)/\σ_ 6=.pointer (some ⟨aa,0,none⟩)/\σ_ 13=.pointer (some ⟨aa,2,none⟩)/\σ_ 14=jV ab.Clock/\σ_ 15=.agg B6.toArray/\σ_ 16=.pointer (some ⟨aa,0,none⟩)/\σ_ 17=jV ab.Skier/\σ_ 18=.pointer (some ⟨aa,1,none⟩)/\PHeap.Le U U_/\sW w U U_ [.blk aa 39 B3,.blk af 104 B2,.blk ae 104 B2,.blk b6 78 B1,.blk b2 28 B0] w_) ?_ fun bV=>?_
 rintro ga fy ⟨aL,aR,bE,bF,bG,bH,aS,bI,bJ,aT,bX,aW⟩
 refine zn ?_ ?_
 exact ZR Z Z Z Z (aW.ldB (j:=0) Z Z aT zJ (v:=jV ab.Mat) Z) (bS _ _ ⟨aL,aR,bE,bF,bG,bH,aS,bI,bJ,aT,Z,bX,aW⟩)
 refine zV (j:=2) (vs:=B6) Z Z Z Z aW Z aR aS Z zF (zA Z) Z Z Z ?_
 intro cq en
 have eo:sW w U aL [.blk aa 39 B3,.blk af 104 B2,.blk ae 104 B6,.blk b6 78 B1,.blk b2 28 B0] cq:=en
 exact bR _ _ ⟨aL,aR,bE,bF,bG,bH,aS,bI,bJ,aT,bX,eo⟩
 refine oR Z (zG Z Z ZC Z zC) (oL Z (ap.ldB (j:=0) Z Z Z zJ (v:=jV ab.Clock) Z) (oR Z (zG Z Z ZC Z zC) (oR Z (zG Z Z ZC Z zC) (zn ?_ ?_))))
 refine zE 0 Z Z Z Z (zD Z Z Try.call82 (zB Z zM) Z) ap (fun hs=>wCT ab.Clock aN U hs ax) (.inr Z) ?_
 rintro au e0 fT cr aG ep ⟨rfl,rfl⟩
 have av:sW w U au [.blk aa 39 B3,.blk af 104 B2,.blk ae 104 B2,.blk b6 78 B1,.blk b2 28 B0] cr:=ep
 refine zn ?_ ?_
 exact ZR Z Z Z Z (av.ldB (j:=0) Z Z Z zJ (v:=jV ab.Skier) Z) (bV _ _ ⟨au,Z,Z,Z,Z,Z,Z,Z,Z,Z,aG,av⟩)
 refine zn ?_ ?_
 exact ZR Z Z Z Z (av.ldB (j:=0) Z Z Z zJ (v:=jV ab.Mat) Z) (bU _ _ ⟨au,Z,Z,Z,Z,Z,Z,Z,Z,Z,aG,av⟩)
 refine zV (j:=2) (vs:=B6) Z Z Z Z av Z Z Z Z zF (zA Z) Z Z Z ?_
 intro ct er
 have az:sW w U au [.blk aa 39 B3,.blk af 104 B2,.blk ae 104 B6,.blk b6 78 B1,.blk b2 28 B0] ct:=er
 refine zn ?_ ?_
 exact ZR Z Z Z Z (az.ldB (j:=0) Z Z Z zJ (v:=jV ab.Skier) Z) (bR _ _ ⟨au,Z,Z,Z,Z,Z,Z,Z,Z,Z,aG,az⟩)
 exact ZR Z Z Z Z (az.ldB (j:=0) Z Z Z zJ (v:=jV ab.Mat) Z) (bQ _ _ ⟨au,Z,Z,Z,Z,Z,Z,Z,Z,Z,aG,az⟩)
 refine zn ?_ ?_
 refine ZR Z Z Z Z (ap.ldB (j:=0) Z Z Z zJ (v:=jV ab.Skier) Z) (zn ?_ ?_)
 refine zE 0 Z Z Z Z (zD Z Z Try.call82 (zB Z zM) Z) ap (fun hs=>wCT ab.Clock aN U hs ax) (.inr Z) ?_
 rintro be fb fU cu eV eu ⟨rfl,rfl⟩
 have ew:sW w U be [.blk aa 39 B3,.blk af 104 B2,.blk ae 104 B2,.blk b6 78 B1,.blk b2 28 B0] cu:=eu
 exact bV _ _ ⟨be,Z,Z,Z,Z,Z,Z,Z,Z,Z,eV,ew⟩
 exact ZR Z Z Z Z (ap.ldB (j:=0) Z Z Z zJ (v:=jV ab.Mat) Z) (bT _ _ ⟨U,Z,Z,Z,Z,Z,Z,Z,Z,Z,(zO _),ap⟩)
 refine ZR Z Z Z Z (ap.ldB (j:=0) Z Z Z zJ (v:=jV ab.Mat) Z) (zn ?_ ?_)
 refine zE 0 Z Z Z Z (zD Z Z Try.call82 (zB Z zM) Z) ap (fun hs=>wCT ab.Clock aN U hs ax) (.inr Z) ?_
 rintro bf fc fV cw eW ey ⟨rfl,rfl⟩
 have ez:sW w U bf [.blk aa 39 B3,.blk af 104 B2,.blk ae 104 B2,.blk b6 78 B1,.blk b2 28 B0] cw:=ey
 exact bU _ _ ⟨bf,Z,Z,Z,Z,Z,Z,Z,Z,Z,eW,ez⟩
 exact ZR Z Z Z Z (ap.ldB (j:=0) Z Z Z zJ (v:=jV ab.Skier) Z) (bT _ _ ⟨U,Z,Z,Z,Z,Z,Z,Z,Z,Z,(zO _),ap⟩)
 rintro gb fz ⟨cd,dH,dI,fQ,aX⟩
 refine zU ?_
 cases bM
 exact ⟨rfl,_,(wDf (rs:=[.cell 4 104,.cell 5 104]) (vs:=[.agg B5.toArray,.agg B4.toArray]) ⟨⟨_,dH,(wAq zh zF (aX.blkAt (k:=2) rfl) (vs:=B5) rfl rfl)⟩,⟨⟨_,dI,(wAq zh zF (aX.blkAt (k:=1) rfl) (vs:=B4) rfl rfl)⟩,trivial⟩⟩ rfl),cd,_,(aX.pick [] _ (by decide) rfl),rfl,rfl⟩
end Go.Proofs.Ytlnfbjphfoipaaa
namespace Go.Proofs.Ytlnfbjphfoipaaa
open Go.KL
set_option maxHeartbeats 4000000
theorem wGB (p0:wAD) (ao:Option Addr) (aq:Nat) (ap:Option Addr) (au:Nat) (ag:Option Addr) (ah:Nat) (aj:Option Addr) (ak:Nat) (p1:wAJ) (w:World) (U:PHeap) (hS:St0 w U []) (a9:Sl U 1 ao aq p0.Starts.length (hD KL.encI p0.Starts)) (ba:Sl U 2 ap au p0.Splits.length (hD wAC p0.Splits)) (az:Sl U 3 ag ah p0.Clocks.length (hD wAB p0.Clocks)) (aU:Sl U 4 aj ak p0.Readings.length (hD wAA p0.Readings)) {r:Int × Int} (hm:wDB p0 p1=some r):Gv Try.prog 119 [.agg #[.slice ao p0.Starts.length aq,.slice ap p0.Splits.length au,.slice ag p0.Clocks.length ah,.slice aj p0.Readings.length ak],.agg #[jV p1.Kind,jV p1.Skier,jV p1.Index,.bool p1.Up]] w (wBs w [] U (fun U_ L_ v=>v=.tuple #[jV r.1,jV r.2]/\L_=[])):=by
 unfold wDB at hm
 refine Gv.of Try.func119 Z Try.ntmps119 Try.results119 Z (sR gCl Z ?_)
 let B0:List Value:=[.slice ao p0.Starts.length aq,.slice ap p0.Splits.length au,.slice ag p0.Clocks.length ah,.slice aj p0.Readings.length ak]
 refine zu (cs:=B0) rfl rfl rfl rfl rfl rfl (by rfl) hS ?_
 intro W1 b2 aT
 let B1:List Value:=[jV p1.Kind,jV p1.Skier,jV p1.Index,.bool p1.Up]
 refine zu (cs:=B1) rfl rfl rfl rfl rfl rfl (by rfl) aT ?_
 intro W5 b6 ai
 refine oA Z Z (oA Z Z (eN (sR (wGf gBo) Z (oR Z (zG Z Z zK Z ZW) (oL Z (ai.ldB (j:=1) Z Z Z Zm (v:=.slice aj p0.Readings.length ak) Z) (oR Z (zG Z Z zj Z zC) (oL Z (ai.ldB (j:=0) Z Z Z zJ (v:=jV p1.Index) Z) (bnK hm fun x9 an aV=>?_))))))))
 have q:=aU.el (fun _=>rfl) (wAj an)
 obtain ⟨a6,bb,aK,aN⟩:=q
 refine oR Z (Zb Z Z aK Z zy ZP (wCk an) (wCw an)) (oL Z (ai.ldCA (f:=0) aN Z Z yc ZP (us:=[jV x9.Skier,jV x9.Mat,jV x9.Clock,jV x9.Time]) Z Z) (zR (cs:=[jV 0,jV 0,jV 0,jV 0]) Z Z Z Z Z Zj Z ai ?_))
 intro aY aH aQ
 let B2:List Value:=[jV x9.Skier,jV x9.Mat,jV x9.Clock,jV x9.Time]
 refine zV (j:=0) (vs:=B2) Z Z Z Z aQ Z Z Z Z ZP (zA Z) Z Z Z ?_
 intro am aR
 have aS:sW w U U [.blk aH 39 B2,.blk b6 78 B1,.blk b2 28 B0] am:=aR
 refine eN (zL (ZG ZH [3,1,3,1,3,1,3,3,1,3,3,1,3,1,3,3,1,3,1,3,3,3] fL22 (by kernel_rfl) ?_))
 have ac:=aS.drew
 generalize hw_W24:({ am with drawn:=am.drawn + 1 }:World)=aZ at ac ⊢
 refine oR Z (zG Z Z ZC Z zC) (oL Z (ac.ldB (j:=0) Z Z Z zJ (v:=jV x9.Time) Z) (oR Z (zG Z Z zK Z Zn) (oL Z (ac.ldB (j:=2) Z Z Z yI (v:=.slice ag p0.Clocks.length ah) Z) (oR Z (zG Z Z ZC Z zC) (oL Z (ac.ldB (j:=0) Z Z Z zJ (v:=jV x9.Clock) Z) (bnK aV fun aG af aW=>?_))))))
 have q:=az.el (fun _=>rfl) (wAj af)
 obtain ⟨a7,bc,aL,aO⟩:=q
 refine oR Z (Zb Z Z aL Z ZU Zt (wCk af) (wCw af)) (oR Z (zG Z Z Zq Z zC) (oL Z (ac.ldC (f:=2) aO (v:=jV aG.Error) Z Z zJ Z) (oR Z (zb Z Z Z) (oR Z (zG Z Z zK Z Zn) (oL Z (ac.ldB (j:=2) Z Z Z yI (v:=.slice ag p0.Clocks.length ah) Z) (oR Z (zG Z Z ZC Z zC) (oL Z (ac.ldB (j:=0) Z Z Z zJ (v:=jV x9.Clock) Z) ?_)))))))
 have q:=az.el (fun _=>rfl) (wAj af)
 obtain ⟨a8,bd,aM,aP⟩:=q
 refine oR Z (Zb Z Z aM Z ZU Zt (wCk af) (wCw af)) (oR Z (zG Z Z Zq Z zC) (oL Z (ac.ldC (f:=2) aP (v:=jV aG.Error) Z Z zJ Z) (oR Z (zG Z Z ZC Z zC) (oL Z (ac.ldB (j:=0) Z Z Z zJ (v:=jV x9.Time) Z) (oR Z (yU Z Z Z) (oA Z Z (oA Z Z (eN (zU ?_)))))))))
 cases aW
 exact ⟨rfl,_,(wDm rfl rfl),U,_,(ac.pick [] _ (by decide) rfl),rfl,rfl⟩
theorem wAr  (w:World) (U:PHeap) (hS:St0 w U [])  {r:Unit} (hm:wBF =some r):Gv Try.prog 103 [] w (wBs w [] U (fun U_ L_ v=>v=.agg #[.func (.func 108) #[] #[],.func (.func 109) #[] #[],.func (.func 110) #[] #[],.func (.func 111) #[] #[],.func (.func 112) #[] #[],.func (.func 113) #[] #[],.func (.func 114) #[] #[],.func (.func 115) #[] #[],.func (.func 116) #[] #[],.func (.func 117) #[] #[],.func (.func 118) #[] #[],.func (.func 119) #[] #[]]/\L_=[])):=by
 unfold wBF at hm
 refine Gv.of Try.func103 Z Try.ntmps103 Try.results103 Z (sR (.fx 0 .nil .stop) Z ?_)
 let B0:List Value:=[.nilFunc,.nilFunc,.nilFunc,.nilFunc,.nilFunc,.nilFunc,.nilFunc,.nilFunc,.nilFunc,.nilFunc,.nilFunc,.nilFunc]
 refine zR (cs:=B0) Z Z Z Z Z Try.zeroValue170 Z hS ?_
 intro W1 b2 am
 refine eN (sR (wHI (.fx 5 .nil .stop)) Z ?_)
 let B1:List Value:=[.nilFunc,.nilFunc,.nilFunc]
 let B2:List Value:=[.func (.func 108) #[] #[],.func (.func 109) #[] #[],.func (.func 110) #[] #[]]
 refine oR Z (zl (pv:=[(0,.func (.func 108) #[] #[]),(1,.func (.func 109) #[] #[]),(2,.func (.func 110) #[] #[])]) (z:=B1) (cs:=B2) Z (wAH Z (wAH Z (wAH Z wAP))) yC wFL Z Z) ?_
 let B3:List Value:=[.func (.func 111) #[] #[],.func (.func 112) #[] #[],.func (.func 113) #[] #[]]
 refine oR Z (zl (pv:=[(0,.func (.func 111) #[] #[]),(1,.func (.func 112) #[] #[]),(2,.func (.func 113) #[] #[])]) (z:=B1) (cs:=B3) Z (wAH Z (wAH Z (wAH Z wAP))) yC wFL Z Z) ?_
 let B4:List Value:=[.func (.func 114) #[] #[],.func (.func 115) #[] #[],.func (.func 116) #[] #[]]
 refine oR Z (zl (pv:=[(0,.func (.func 114) #[] #[]),(1,.func (.func 115) #[] #[]),(2,.func (.func 116) #[] #[])]) (z:=B1) (cs:=B4) Z (wAH Z (wAH Z (wAH Z wAP))) yC wFL Z Z) ?_
 let B5:List Value:=[.func (.func 117) #[] #[],.func (.func 118) #[] #[],.func (.func 119) #[] #[]]
 refine oR Z (zl (pv:=[(0,.func (.func 117) #[] #[]),(1,.func (.func 118) #[] #[]),(2,.func (.func 119) #[] #[])]) (z:=B1) (cs:=B5) Z (wAH Z (wAH Z (wAH Z wAP))) yC wFL Z Z) ?_
 let B6:List Value:=[.func (.func 108) #[] #[],.func (.func 109) #[] #[],.func (.func 110) #[] #[],.func (.func 111) #[] #[],.func (.func 112) #[] #[],.func (.func 113) #[] #[],.func (.func 114) #[] #[],.func (.func 115) #[] #[],.func (.func 116) #[] #[],.func (.func 117) #[] #[],.func (.func 118) #[] #[],.func (.func 119) #[] #[]]
 refine oR Z (Runs.buildA (pv:=[(0,.agg B2.toArray),(1,.agg B3.toArray),(2,.agg B4.toArray),(3,.agg B5.toArray)]) (z:=B0) (cs:=B6) Z (wAH Z (wAH Z (wAH Z (wAH Z wAP)))) Try.zeroValue170 Zo ZX Z Z) (zV (j:=0) (vs:=B6) Z Z Z Z am Z Z Z Z Try.sizeOf170 (zA Z) Z Z Z ?_)
 intro W5 an
 have ai:sW w U U [.blk b2 170 B6] W5:=an
 refine eN (zU ?_)
 cases hm
 exact ⟨rfl,_,(wFg (v:=.agg B6.toArray) ⟨⟨_,rfl,(wAq Try.isAgg170 Try.sizeOf170 (ai.blkAt (k:=0) rfl) (vs:=B6) rfl rfl)⟩,trivial⟩),U,_,(ai.pick [] _ (by decide) rfl),rfl,rfl⟩
theorem wBT (p0:wAD) (a7:Option Addr) (bb:Nat) (a8:Option Addr) (bc:Nat) (a9:Option Addr) (bd:Nat) (ba:Option Addr) (be:Nat) (p1:wAJ) (w:World) (U:PHeap) (hS:St0 w U []) (cb:Sl U 1 a7 bb p0.Starts.length (hD KL.encI p0.Starts)) (cc:Sl U 2 a8 bc p0.Splits.length (hD wAC p0.Splits)) (cd:Sl U 3 a9 bd p0.Clocks.length (hD wAB p0.Clocks)) (cf:Sl U 4 ba be p0.Readings.length (hD wAA p0.Readings)) {r:wAL × wAL × Int} (hm:wBG p0 p1=some r):Gv Try.prog 70 [.agg #[.slice a7 p0.Starts.length bb,.slice a8 p0.Splits.length bc,.slice a9 p0.Clocks.length bd,.slice ba p0.Readings.length be],.agg #[jV p1.Kind,jV p1.Skier,jV p1.Index,.bool p1.Up]] w (wBs w [] U (fun U_ L_ v=>v=.tuple #[.agg #[jV r.1.skier,jV r.1.mat],.agg #[jV r.2.1.skier,jV r.2.1.mat],jV r.2.2]/\L_=[])):=by
 unfold wBG at hm
 refine Gv.of Try.func70 Z Try.ntmps70 Try.results70 Z ?_
 by_cases c1:p1.Kind=0
 have fc:=hm;rw [if_pos c1] at fc
 refine sR gCu Z ?_
 let B0:List Value:=[.slice a7 p0.Starts.length bb,.slice a8 p0.Splits.length bc,.slice a9 p0.Clocks.length bd,.slice ba p0.Readings.length be]
 refine zu (cs:=B0) rfl rfl rfl rfl rfl rfl (by rfl) hS ?_
 intro W6 b7 lW
 let B1:List Value:=[jV p1.Kind,jV p1.Skier,jV p1.Index,.bool p1.Up]
 refine zu (cs:=B1) rfl rfl rfl rfl rfl rfl (by rfl) lW ?_
 intro mG aM iU
 let B2:List Value:=[jV 0,jV 0]
 refine zR (cs:=B2) Z Z Z Z Z zZ Z iU ?_
 intro mI ay i6
 refine zR (cs:=B2) Z Z Z Z Z zZ Z i6 ?_
 intro dC aH jd
 refine oA Z Z (eN ?_)
 have q:=bnd fc
 obtain ⟨⟨⟩,ma,eQ⟩:=q
 try dsimp only at eQ
 let B3:List Value:=[.func (.func 108) #[] #[],.func (.func 109) #[] #[],.func (.func 110) #[] #[]]
 refine yP (fun σ_ w_=>∃ (U_:PHeap) (bg:Nat),σ_ 2=.pointer (some ⟨b7,0,none⟩)/\σ_ 3=.pointer (some ⟨aM,0,none⟩)/\σ_ 4=.pointer (some ⟨ay,0,none⟩)/\σ_ 5=.pointer (some ⟨aH,0,none⟩)/\σ_ 7=.pointer (some ⟨bg,0,none⟩)/\PHeap.Le U U_/\sW w U U_ [.blk aH 104 B2,.blk ay 104 B2,.blk aM 78 B1,.blk b7 28 B0,.blk bg 169 B3] w_) ?_ ?_
 have q:=bnd ma
 obtain ⟨⟨⟩,eg,dt⟩:=q
 try dsimp only at dt
 refine ZG ZH [2,3,1,3,2,0] gDd (by kernel_rfl) ?_
 have bV:=jd.drew
 generalize hw_W45:({ dC with drawn:=dC.drawn + 1 }:World)=gu at bV ⊢
 refine oR Z (zG Z Z zj Z yK) (oL Z (bV.ldB (j:=2) Z Z Z yQ (v:=jV p1.Kind) Z) (zn ?_ ?_))
 refine zE 0 Z Z Z Z (zD Z Z yR zM Z) bV (fun hs=>wAr gu U hs eg) (.inr Z) ?_
 rintro cJ mx ov gB mh k9 ⟨rfl,rfl⟩
 have lb:sW w U cJ [.blk aH 104 B2,.blk ay 104 B2,.blk aM 78 B1,.blk b7 28 B0] gB:=k9
 refine zY rfl rfl rfl rfl (fun _=>(ye (i:=0) rfl rfl (congrArg (jV) c1) Zo ZX (by decide) (by decide) (wCd yV ZX rfl))) (zR (cs:=[.nilFunc,.nilFunc,.nilFunc]) rfl rfl rfl rfl rfl yC rfl lb ?_)
 intro mZ dM lm
 refine zV (j:=0) (vs:=B3) Z Z Z Z lm Z Z Z Z ZX (zA Z) Z Z Z ?_
 intro gJ lu
 have ly:sW w U cJ [.blk dM 169 B3,.blk aH 104 B2,.blk ay 104 B2,.blk aM 78 B1,.blk b7 28 B0] gJ:=lu
 refine zc ?_
 cases dt
 exact zI ⟨rfl,⟨cJ,dM,rfl,rfl,rfl,rfl,rfl,mh,(ly.pick [1,2,3,4,0] _ (by decide) rfl)⟩⟩
 refine zR (cs:=[.nilFunc,.nilFunc,.nilFunc]) Z Z Z Z Z yC Z bV ?_
 intro gO cV lK
 refine zE 0 Z Z Z Z (zD Z Z yR zM Z) lK (fun hs=>wAr gO U hs eg) (.inr Z) ?_
 rintro cM mC oC gX ml lS ⟨rfl,rfl⟩
 have lT:sW w U cM [.blk cV 169 [.nilFunc,.nilFunc,.nilFunc],.blk aH 104 B2,.blk ay 104 B2,.blk aM 78 B1,.blk b7 28 B0] gX:=lS
 refine zY rfl rfl rfl rfl (fun _=>(ye (i:=0) rfl rfl (congrArg (jV) c1) Zo ZX (by decide) (by decide) (wCd yV ZX rfl))) (zV (j:=0) (vs:=B3) rfl rfl rfl rfl lT rfl rfl rfl rfl ZX (zA rfl) rfl rfl rfl ?_)
 intro gY lU
 have lV:sW w U cM [.blk cV 169 B3,.blk aH 104 B2,.blk ay 104 B2,.blk aM 78 B1,.blk b7 28 B0] gY:=lU
 refine zc ?_
 cases dt
 exact zI ⟨rfl,⟨cM,cV,rfl,rfl,rfl,rfl,rfl,ml,(lV.pick [1,2,3,4,0] _ (by decide) rfl)⟩⟩
 rintro oQ gZ ⟨fL,bg,dX,dd,bv,br,dY,cr,ca⟩
 refine sR (wDl (.fx 4 (wKb gBp) .stop)) Z (oR Z (zG Z dY Zu Z Try.sizeOf166) (oL Z (ca.ldB (j:=4) Z Z Z Try.isAgg166 (v:=.func (.func 109) #[] #[]) Z) (oL Z (ca.ldBA (j:=3) Z Z dX zg zW (vs:=B0) Z Z) (oL Z (ca.ldBA (j:=2) Z Z dd yA Zf (vs:=B1) Z Z) ?_))))
 have eA:=cb.le cr
 have eB:=cc.le cr
 have eD:=cd.le cr
 have eE:=cf.le cr
 have q:=bnd eQ
 obtain ⟨⟨cA,cB⟩,iO,fk⟩:=q
 try dsimp only at fk
 refine zE 0 Z Z Z Z (zD Z Z Try.call109 (zB Z (zB Z zM)) Z) ca (fun hs=>wGS p0 a7 bb a8 bc a9 bd ba be p1 gZ fL hs eA eB eD eE iO) (.inr Z) ?_
 rintro bM mF oE g6 cg iP ⟨rfl,rfl⟩
 have iQ:sW w U bM [.blk aH 104 B2,.blk ay 104 B2,.blk aM 78 B1,.blk b7 28 B0,.blk bg 169 B3] g6:=iP
 refine oM Z Z (oR Z (zT Z Z (v:=.agg #[jV cA.skier,jV cA.mat]) Z) (oR Z (zT Z Z (v:=.agg #[jV cB.skier,jV cB.mat]) Z) ?_))
 let B4:List Value:=[jV cA.skier,jV cA.mat]
 refine zV (j:=1) (vs:=B4) Z Z Z Z iQ Z bv Z Z zF (zA Z) Z Z Z ?_
 intro fM iR
 have iS:sW w U bM [.blk aH 104 B2,.blk ay 104 B4,.blk aM 78 B1,.blk b7 28 B0,.blk bg 169 B3] fM:=iR
 let B5:List Value:=[jV cB.skier,jV cB.mat]
 refine zV (j:=0) (vs:=B5) Z Z Z Z iS Z br Z Z zF (zA Z) Z Z Z ?_
 intro dA iT
 have bO:sW w U bM [.blk aH 104 B5,.blk ay 104 B4,.blk aM 78 B1,.blk b7 28 B0,.blk bg 169 B3] dA:=iT
 refine eN (sR (wDl (.fx 4 (wID (.nil)) .stop)) Z (oR Z (zG Z dY Zu Z Try.sizeOf167) (oL Z (bO.ldB (j:=4) Z Z Z Try.isAgg167 (v:=.func (.func 110) #[] #[]) Z) (oL Z (bO.ldBA (j:=3) Z Z dX zg zW (vs:=B0) Z Z) (oL Z (bO.ldBA (j:=2) Z Z dd yA Zf (vs:=B1) Z Z) ?_)))))
 have ip:=eA.le cg
 have iq:=eB.le cg
 have ir:=eD.le cg
 have it:=eE.le cg
 have q:=bnd fk
 obtain ⟨⟨dw,fw⟩,iu,eJ⟩:=q
 try dsimp only at eJ
 refine zE 0 Z Z Z Z (zD Z Z Try.call110 (zB Z (zB Z zM)) Z) bO (fun hs=>wGT p0 a7 bb a8 bc a9 bd ba be p1 dA bM hs ip iq ir it iu) (.inr Z) ?_
 rintro bj mm oh cN n5 iV ⟨rfl,rfl⟩
 have bB:sW w U bj [.blk aH 104 B5,.blk ay 104 B4,.blk aM 78 B1,.blk b7 28 B0,.blk bg 169 B3] cN:=iV
 refine oM Z Z (oR Z (zT Z Z (v:=jV dw) Z) (oR Z (zT Z Z (v:=jV fw) Z) (oA Z Z (oA Z Z (eN (zL (sR fL3 Z (oR Z (zG Z dd zj Z Try.sizeOf4) (oL Z (bB.ldB (j:=2) Z Z Z Try.isAgg4 (v:=.bool p1.Up) Z) (oR Z (Zd Z Z) (eN (ifc eJ ?_ ?_))))))))))))
 intro cW lX
 refine ZI (nC cW.out) (kN ?_)
 have q:=bnd lX
 obtain ⟨⟨⟩,fm,eK⟩:=q
 try dsimp only at eK
 refine yP (fun σ_ w_=>∃ (U_:PHeap),σ_ 4=.pointer (some ⟨ay,0,none⟩)/\σ_ 5=.pointer (some ⟨aH,0,none⟩)/\σ_ 6=jV dw/\PHeap.Le bj U_/\sW w U U_ [.blk aH 104 B5,.blk ay 104 B4,.blk aM 78 B1,.blk b7 28 B0,.blk bg 169 B3] w_) ?_ ?_
 refine ZG ZH [1,2,3,0,0,3] gDe (by kernel_rfl) ?_
 have bC:=bB.drew
 generalize hw_W136:({ cN with drawn:=cN.drawn + 1 }:World)=mH at bC ⊢
 refine oL Z (bC.ldBA (j:=1) Z Z bv zh zF (vs:=B4) Z Z) (oM Z Z (zn ?_ ?_))
 refine ZR Z Z Z Z (bC.ldBA (j:=0) Z Z br zh zF (vs:=B5) Z Z) (zV (j:=1) (vs:=B4) Z Z Z Z bC Z bv Z Z zF (zA Z) Z Z Z ?_)
 intro fN iW
 have iX:sW w U bj [.blk aH 104 B5,.blk ay 104 B4,.blk aM 78 B1,.blk b7 28 B0,.blk bg 169 B3] fN:=iW
 refine zV (j:=0) (vs:=B5) Z Z Z Z iX Z br Z Z zF (zA Z) Z Z Z ?_
 intro fO iY
 have iZ:sW w U bj [.blk aH 104 B5,.blk ay 104 B4,.blk aM 78 B1,.blk b7 28 B0,.blk bg 169 B3] fO:=iY
 refine oA Z Z (zc ?_)
 cases fm
 exact zI ⟨Z,⟨bj,bv,br,Z,(zO _),iZ⟩⟩
 refine zV (j:=1) (vs:=B4) Z Z Z Z bC Z bv Z Z zF (zA Z) Z Z Z ?_
 intro fP i2
 have eF:sW w U bj [.blk aH 104 B5,.blk ay 104 B4,.blk aM 78 B1,.blk b7 28 B0,.blk bg 169 B3] fP:=i2
 refine ZR Z Z Z Z (eF.ldBA (j:=0) Z Z br zh zF (vs:=B5) Z Z) (zV (j:=0) (vs:=B5) Z Z Z Z eF Z br Z Z zF (zA Z) Z Z Z ?_)
 intro fQ i3
 have i4:sW w U bj [.blk aH 104 B5,.blk ay 104 B4,.blk aM 78 B1,.blk b7 28 B0,.blk bg 169 B3] fQ:=i3
 refine oA Z Z (zc ?_)
 cases fm
 exact zI ⟨Z,⟨bj,bv,br,Z,(zO _),i4⟩⟩
 rintro oG mJ ⟨fB,g8,g9,ib,n6,de⟩
 refine zU ?_
 cases eK
 exact ⟨rfl,_,(wDf (rs:=[.cell 4 104,.cell 5 104,.tmp 6]) (vs:=[.agg B4.toArray,.agg B5.toArray,jV dw]) ⟨⟨_,g8,(wAq zh zF (de.blkAt (k:=1) rfl) (vs:=B4) rfl rfl)⟩,⟨⟨_,g9,(wAq zh zF (de.blkAt (k:=0) rfl) (vs:=B5) rfl rfl)⟩,⟨ib,trivial⟩⟩⟩ rfl),fB,_,(de.pick [] _ (by decide) rfl),rfl,rfl⟩
 intro cW lY
 refine ZT (nF (cW.out)) (sR (wCg gCe) Z (oL Z (bB.ldBA (j:=0) Z Z br zh zF (vs:=B5) Z Z) (oL Z (bB.ldBA (j:=1) Z Z bv zh zF (vs:=B4) Z Z) (oM Z Z (zV (j:=1) (vs:=B5) Z Z Z Z bB Z bv Z Z zF (zA Z) Z Z Z ?_)))))
 intro fR i5
 have i7:sW w U bj [.blk aH 104 B5,.blk ay 104 B5,.blk aM 78 B1,.blk b7 28 B0,.blk bg 169 B3] fR:=i5
 refine zV (j:=0) (vs:=B4) Z Z Z Z i7 Z br Z Z zF (zA Z) Z Z Z ?_
 intro fS i8
 have df:sW w U bj [.blk aH 104 B4,.blk ay 104 B5,.blk aM 78 B1,.blk b7 28 B0,.blk bg 169 B3] fS:=i8
 refine oA Z Z (eN (zU (za ?_)))
 cases lY
 exact ⟨rfl,_,(wDf (rs:=[.cell 4 104,.cell 5 104,.tmp 6]) (vs:=[.agg B5.toArray,.agg B4.toArray,jV fw]) ⟨⟨_,bv,(wAq zh zF (df.blkAt (k:=1) rfl) (vs:=B5) rfl rfl)⟩,⟨⟨_,br,(wAq zh zF (df.blkAt (k:=0) rfl) (vs:=B4) rfl rfl)⟩,⟨rfl,trivial⟩⟩⟩ rfl),bj,_,(df.pick [] _ (by decide) rfl),rfl,rfl⟩
 by_cases c2:p1.Kind=1
 have eL:=hm;rw [if_neg c1,if_pos c2] at eL
 refine sR gCu Z ?_
 let B6:List Value:=[.slice a7 p0.Starts.length bb,.slice a8 p0.Splits.length bc,.slice a9 p0.Clocks.length bd,.slice ba p0.Readings.length be]
 refine zu (cs:=B6) rfl rfl rfl rfl rfl rfl (by rfl) hS ?_
 intro mK aN i9
 let B7:List Value:=[jV p1.Kind,jV p1.Skier,jV p1.Index,.bool p1.Up]
 refine zu (cs:=B7) rfl rfl rfl rfl rfl rfl (by rfl) i9 ?_
 intro mL aO ja
 let B8:List Value:=[jV 0,jV 0]
 refine zR (cs:=B8) Z Z Z Z Z zZ Z ja ?_
 intro mM az jb
 refine zR (cs:=B8) Z Z Z Z Z zZ Z jb ?_
 intro dB aG jc
 refine oA Z Z (eN ?_)
 have q:=bnd eL
 obtain ⟨⟨⟩,l8,eM⟩:=q
 try dsimp only at eM
 let B9:List Value:=[.func (.func 111) #[] #[],.func (.func 112) #[] #[],.func (.func 113) #[] #[]]
 refine yP (fun σ_ w_=>∃ (U_:PHeap) (bf:Nat),σ_ 2=.pointer (some ⟨aN,0,none⟩)/\σ_ 3=.pointer (some ⟨aO,0,none⟩)/\σ_ 4=.pointer (some ⟨az,0,none⟩)/\σ_ 5=.pointer (some ⟨aG,0,none⟩)/\σ_ 7=.pointer (some ⟨bf,0,none⟩)/\PHeap.Le U U_/\sW w U U_ [.blk aG 104 B8,.blk az 104 B8,.blk aO 78 B7,.blk aN 28 B6,.blk bf 169 B9] w_) ?_ ?_
 have q:=bnd l8
 obtain ⟨⟨⟩,dZ,dq⟩:=q
 try dsimp only at dq
 refine ZG ZH [2,3,1,3,2,0] gDd (by kernel_rfl) ?_
 have bP:=jc.drew
 generalize hw_W204:({ dB with drawn:=dB.drawn + 1 }:World)=fT at bP ⊢
 refine oR Z (zG Z Z zj Z yK) (oL Z (bP.ldB (j:=2) Z Z Z yQ (v:=jV p1.Kind) Z) (zn ?_ ?_))
 refine zE 0 Z Z Z Z (zD Z Z yR zM Z) bP (fun hs=>wAr fT U hs dZ) (.inr Z) ?_
 rintro cE mn oi fU md je ⟨rfl,rfl⟩
 have jf:sW w U cE [.blk aG 104 B8,.blk az 104 B8,.blk aO 78 B7,.blk aN 28 B6] fU:=je
 refine zY rfl rfl rfl rfl (fun _=>(ye (i:=1) rfl rfl (congrArg (jV) c2) Zo ZX (by decide) (by decide) (wCd yV ZX rfl))) (zR (cs:=[.nilFunc,.nilFunc,.nilFunc]) rfl rfl rfl rfl rfl yC rfl jf ?_)
 intro mN dJ jg
 refine zV (j:=0) (vs:=B9) Z Z Z Z jg Z Z Z Z ZX (zA Z) Z Z Z ?_
 intro fV jh
 have ji:sW w U cE [.blk dJ 169 B9,.blk aG 104 B8,.blk az 104 B8,.blk aO 78 B7,.blk aN 28 B6] fV:=jh
 refine zc ?_
 cases dq
 exact zI ⟨rfl,⟨cE,dJ,rfl,rfl,rfl,rfl,rfl,md,(ji.pick [1,2,3,4,0] _ (by decide) rfl)⟩⟩
 refine zR (cs:=[.nilFunc,.nilFunc,.nilFunc]) Z Z Z Z Z yC Z bP ?_
 intro fW cR jj
 refine zE 0 Z Z Z Z (zD Z Z yR zM Z) jj (fun hs=>wAr fW U hs dZ) (.inr Z) ?_
 rintro cG mo oj fY me jk ⟨rfl,rfl⟩
 have jl:sW w U cG [.blk cR 169 [.nilFunc,.nilFunc,.nilFunc],.blk aG 104 B8,.blk az 104 B8,.blk aO 78 B7,.blk aN 28 B6] fY:=jk
 refine zY rfl rfl rfl rfl (fun _=>(ye (i:=1) rfl rfl (congrArg (jV) c2) Zo ZX (by decide) (by decide) (wCd yV ZX rfl))) (zV (j:=0) (vs:=B9) rfl rfl rfl rfl jl rfl rfl rfl rfl ZX (zA rfl) rfl rfl rfl ?_)
 intro fZ jm
 have jo:sW w U cG [.blk cR 169 B9,.blk aG 104 B8,.blk az 104 B8,.blk aO 78 B7,.blk aN 28 B6] fZ:=jm
 refine zc ?_
 cases dq
 exact zI ⟨rfl,⟨cG,cR,rfl,rfl,rfl,rfl,rfl,me,(jo.pick [1,2,3,4,0] _ (by decide) rfl)⟩⟩
 rintro oH f4 ⟨fC,bf,dR,c6,bs,bo,dS,ci,bQ⟩
 refine sR (wDl (.fx 4 (wKb gBp) .stop)) Z (oR Z (zG Z dS Zu Z Try.sizeOf166) (oL Z (bQ.ldB (j:=4) Z Z Z Try.isAgg166 (v:=.func (.func 112) #[] #[]) Z) (oL Z (bQ.ldBA (j:=3) Z Z dR zg zW (vs:=B6) Z Z) (oL Z (bQ.ldBA (j:=2) Z Z c6 yA Zf (vs:=B7) Z Z) ?_))))
 have d7:=cb.le ci
 have d9:=cc.le ci
 have ec:=cd.le ci
 have ef:=cf.le ci
 have q:=bnd eM
 obtain ⟨⟨ct,cu⟩,iv,eO⟩:=q
 try dsimp only at eO
 refine zE 0 Z Z Z Z (zD Z Z Try.call112 (zB Z (zB Z zM)) Z) bQ (fun hs=>wGV p0 a7 bb a8 bc a9 bd ba be p1 f4 fC hs d7 d9 ec ef iv) (.inr Z) ?_
 rintro bJ mp ol f5 cm jp ⟨rfl,rfl⟩
 have jq:sW w U bJ [.blk aG 104 B8,.blk az 104 B8,.blk aO 78 B7,.blk aN 28 B6,.blk bf 169 B9] f5:=jp
 refine oM Z Z (oR Z (zT Z Z (v:=.agg #[jV ct.skier,jV ct.mat]) Z) (oR Z (zT Z Z (v:=.agg #[jV cu.skier,jV cu.mat]) Z) ?_))
 let aj:List Value:=[jV ct.skier,jV ct.mat]
 refine zV (j:=1) (vs:=aj) Z Z Z Z jq Z bs Z Z zF (zA Z) Z Z Z ?_
 intro f6 jr
 have jt:sW w U bJ [.blk aG 104 B8,.blk az 104 aj,.blk aO 78 B7,.blk aN 28 B6,.blk bf 169 B9] f6:=jr
 let ac:List Value:=[jV cu.skier,jV cu.mat]
 refine zV (j:=0) (vs:=ac) Z Z Z Z jt Z bo Z Z zF (zA Z) Z Z Z ?_
 intro dD ju
 have bR:sW w U bJ [.blk aG 104 ac,.blk az 104 aj,.blk aO 78 B7,.blk aN 28 B6,.blk bf 169 B9] dD:=ju
 refine eN (sR (wDl (.fx 4 (wID (.nil)) .stop)) Z (oR Z (zG Z dS Zu Z Try.sizeOf167) (oL Z (bR.ldB (j:=4) Z Z Z Try.isAgg167 (v:=.func (.func 113) #[] #[]) Z) (oL Z (bR.ldBA (j:=3) Z Z dR zg zW (vs:=B6) Z Z) (oL Z (bR.ldBA (j:=2) Z Z c6 yA Zf (vs:=B7) Z Z) ?_)))))
 have iw:=d7.le cm
 have iy:=d9.le cm
 have iz:=ec.le cm
 have iA:=ef.le cm
 have q:=bnd eO
 obtain ⟨⟨dx,fy⟩,iB,eU⟩:=q
 try dsimp only at eU
 refine zE 0 Z Z Z Z (zD Z Z Try.call113 (zB Z (zB Z zM)) Z) bR (fun hs=>wGW p0 a7 bb a8 bc a9 bd ba be p1 dD bJ hs iw iy iz iA iB) (.inr Z) ?_
 rintro bk mq om cO n7 jv ⟨rfl,rfl⟩
 have bD:sW w U bk [.blk aG 104 ac,.blk az 104 aj,.blk aO 78 B7,.blk aN 28 B6,.blk bf 169 B9] cO:=jv
 refine oM Z Z (oR Z (zT Z Z (v:=jV dx) Z) (oR Z (zT Z Z (v:=jV fy) Z) (oA Z Z (oA Z Z (eN (zL (sR fL3 Z (oR Z (zG Z c6 zj Z Try.sizeOf4) (oL Z (bD.ldB (j:=2) Z Z Z Try.isAgg4 (v:=.bool p1.Up) Z) (oR Z (Zd Z Z) (eN (ifc eU ?_ ?_))))))))))))
 intro cX lZ
 refine ZI (nC cX.out) (kN ?_)
 have q:=bnd lZ
 obtain ⟨⟨⟩,fq,eV⟩:=q
 try dsimp only at eV
 refine yP (fun σ_ w_=>∃ (U_:PHeap),σ_ 4=.pointer (some ⟨az,0,none⟩)/\σ_ 5=.pointer (some ⟨aG,0,none⟩)/\σ_ 6=jV dx/\PHeap.Le bk U_/\sW w U U_ [.blk aG 104 ac,.blk az 104 aj,.blk aO 78 B7,.blk aN 28 B6,.blk bf 169 B9] w_) ?_ ?_
 refine ZG ZH [1,2,3,0,0,3] gDe (by kernel_rfl) ?_
 have bE:=bD.drew
 generalize hw_W295:({ cO with drawn:=cO.drawn + 1 }:World)=mO at bE ⊢
 refine oL Z (bE.ldBA (j:=1) Z Z bs zh zF (vs:=aj) Z Z) (oM Z Z (zn ?_ ?_))
 refine ZR Z Z Z Z (bE.ldBA (j:=0) Z Z bo zh zF (vs:=ac) Z Z) (zV (j:=1) (vs:=aj) Z Z Z Z bE Z bs Z Z zF (zA Z) Z Z Z ?_)
 intro f7 jw
 have jx:sW w U bk [.blk aG 104 ac,.blk az 104 aj,.blk aO 78 B7,.blk aN 28 B6,.blk bf 169 B9] f7:=jw
 refine zV (j:=0) (vs:=ac) Z Z Z Z jx Z bo Z Z zF (zA Z) Z Z Z ?_
 intro f8 jy
 have jz:sW w U bk [.blk aG 104 ac,.blk az 104 aj,.blk aO 78 B7,.blk aN 28 B6,.blk bf 169 B9] f8:=jy
 refine oA Z Z (zc ?_)
 cases fq
 exact zI ⟨Z,⟨bk,bs,bo,Z,(zO _),jz⟩⟩
 refine zV (j:=1) (vs:=aj) Z Z Z Z bE Z bs Z Z zF (zA Z) Z Z Z ?_
 intro f9 jA
 have eG:sW w U bk [.blk aG 104 ac,.blk az 104 aj,.blk aO 78 B7,.blk aN 28 B6,.blk bf 169 B9] f9:=jA
 refine ZR Z Z Z Z (eG.ldBA (j:=0) Z Z bo zh zF (vs:=ac) Z Z) (zV (j:=0) (vs:=ac) Z Z Z Z eG Z bo Z Z zF (zA Z) Z Z Z ?_)
 intro ga jB
 have jC:sW w U bk [.blk aG 104 ac,.blk az 104 aj,.blk aO 78 B7,.blk aN 28 B6,.blk bf 169 B9] ga:=jB
 refine oA Z Z (zc ?_)
 cases fq
 exact zI ⟨Z,⟨bk,bs,bo,Z,(zO _),jC⟩⟩
 rintro oI mP ⟨fD,ic,ie,ig,n8,dg⟩
 refine zU ?_
 cases eV
 exact ⟨rfl,_,(wDf (rs:=[.cell 4 104,.cell 5 104,.tmp 6]) (vs:=[.agg aj.toArray,.agg ac.toArray,jV dx]) ⟨⟨_,ic,(wAq zh zF (dg.blkAt (k:=1) rfl) (vs:=aj) rfl rfl)⟩,⟨⟨_,ie,(wAq zh zF (dg.blkAt (k:=0) rfl) (vs:=ac) rfl rfl)⟩,⟨ig,trivial⟩⟩⟩ rfl),fD,_,(dg.pick [] _ (by decide) rfl),rfl,rfl⟩
 intro cX l3
 refine ZT (nF (cX.out)) (sR (wCg gCe) Z (oL Z (bD.ldBA (j:=0) Z Z bo zh zF (vs:=ac) Z Z) (oL Z (bD.ldBA (j:=1) Z Z bs zh zF (vs:=aj) Z Z) (oM Z Z (zV (j:=1) (vs:=ac) Z Z Z Z bD Z bs Z Z zF (zA Z) Z Z Z ?_)))))
 intro gb jD
 have jE:sW w U bk [.blk aG 104 ac,.blk az 104 ac,.blk aO 78 B7,.blk aN 28 B6,.blk bf 169 B9] gb:=jD
 refine zV (j:=0) (vs:=aj) Z Z Z Z jE Z bo Z Z zF (zA Z) Z Z Z ?_
 intro ge jF
 have dh:sW w U bk [.blk aG 104 aj,.blk az 104 ac,.blk aO 78 B7,.blk aN 28 B6,.blk bf 169 B9] ge:=jF
 refine oA Z Z (eN (zU (za ?_)))
 cases l3
 exact ⟨rfl,_,(wDf (rs:=[.cell 4 104,.cell 5 104,.tmp 6]) (vs:=[.agg ac.toArray,.agg aj.toArray,jV fy]) ⟨⟨_,bs,(wAq zh zF (dh.blkAt (k:=1) rfl) (vs:=ac) rfl rfl)⟩,⟨⟨_,bo,(wAq zh zF (dh.blkAt (k:=0) rfl) (vs:=aj) rfl rfl)⟩,⟨rfl,trivial⟩⟩⟩ rfl),bk,_,(dh.pick [] _ (by decide) rfl),rfl,rfl⟩
 by_cases c3:p1.Kind=2
 have eW:=hm;rw [if_neg c1,if_neg c2,if_pos c3] at eW
 refine sR gCu Z ?_
 let ak:List Value:=[.slice a7 p0.Starts.length bb,.slice a8 p0.Splits.length bc,.slice a9 p0.Clocks.length bd,.slice ba p0.Readings.length be]
 refine zu (cs:=ak) rfl rfl rfl rfl rfl rfl (by rfl) hS ?_
 intro mQ aP jG
 let am:List Value:=[jV p1.Kind,jV p1.Skier,jV p1.Index,.bool p1.Up]
 refine zu (cs:=am) rfl rfl rfl rfl rfl rfl (by rfl) jG ?_
 intro mR aQ jH
 let aY:List Value:=[jV 0,jV 0]
 refine zR (cs:=aY) Z Z Z Z Z zZ Z jH ?_
 intro mS aI jI
 refine zR (cs:=aY) Z Z Z Z Z zZ Z jI ?_
 intro dE aJ jJ
 refine oA Z Z (eN ?_)
 have q:=bnd eW
 obtain ⟨⟨⟩,mb,eX⟩:=q
 try dsimp only at eX
 let aU:List Value:=[.func (.func 114) #[] #[],.func (.func 115) #[] #[],.func (.func 116) #[] #[]]
 refine yP (fun σ_ w_=>∃ (U_:PHeap) (bh:Nat),σ_ 2=.pointer (some ⟨aP,0,none⟩)/\σ_ 3=.pointer (some ⟨aQ,0,none⟩)/\σ_ 4=.pointer (some ⟨aI,0,none⟩)/\σ_ 5=.pointer (some ⟨aJ,0,none⟩)/\σ_ 7=.pointer (some ⟨bh,0,none⟩)/\PHeap.Le U U_/\sW w U U_ [.blk aJ 104 aY,.blk aI 104 aY,.blk aQ 78 am,.blk aP 28 ak,.blk bh 169 aU] w_) ?_ ?_
 have q:=bnd mb
 obtain ⟨⟨⟩,eh,dr⟩:=q
 try dsimp only at dr
 refine ZG ZH [2,3,1,3,2,0] gDd (by kernel_rfl) ?_
 have bS:=jJ.drew
 generalize hw_W363:({ dE with drawn:=dE.drawn + 1 }:World)=gf at bS ⊢
 refine oR Z (zG Z Z zj Z yK) (oL Z (bS.ldB (j:=2) Z Z Z yQ (v:=jV p1.Kind) Z) (zn ?_ ?_))
 refine zE 0 Z Z Z Z (zD Z Z yR zM Z) bS (fun hs=>wAr gf U hs eh) (.inr Z) ?_
 rintro cH mr oo gg mf jK ⟨rfl,rfl⟩
 have jL:sW w U cH [.blk aJ 104 aY,.blk aI 104 aY,.blk aQ 78 am,.blk aP 28 ak] gg:=jK
 refine zY rfl rfl rfl rfl (fun _=>(ye (i:=2) rfl rfl (congrArg (jV) c3) Zo ZX (by decide) (by decide) (wCd yV ZX rfl))) (zR (cs:=[.nilFunc,.nilFunc,.nilFunc]) rfl rfl rfl rfl rfl yC rfl jL ?_)
 intro mT dK jM
 refine zV (j:=0) (vs:=aU) Z Z Z Z jM Z Z Z Z ZX (zA Z) Z Z Z ?_
 intro gh jN
 have jO:sW w U cH [.blk dK 169 aU,.blk aJ 104 aY,.blk aI 104 aY,.blk aQ 78 am,.blk aP 28 ak] gh:=jN
 refine zc ?_
 cases dr
 exact zI ⟨rfl,⟨cH,dK,rfl,rfl,rfl,rfl,rfl,mf,(jO.pick [1,2,3,4,0] _ (by decide) rfl)⟩⟩
 refine zR (cs:=[.nilFunc,.nilFunc,.nilFunc]) Z Z Z Z Z yC Z bS ?_
 intro gi cS jP
 refine zE 0 Z Z Z Z (zD Z Z yR zM Z) jP (fun hs=>wAr gi U hs eh) (.inr Z) ?_
 rintro cI ms oq gj mg jQ ⟨rfl,rfl⟩
 have jR:sW w U cI [.blk cS 169 [.nilFunc,.nilFunc,.nilFunc],.blk aJ 104 aY,.blk aI 104 aY,.blk aQ 78 am,.blk aP 28 ak] gj:=jQ
 refine zY rfl rfl rfl rfl (fun _=>(ye (i:=2) rfl rfl (congrArg (jV) c3) Zo ZX (by decide) (by decide) (wCd yV ZX rfl))) (zV (j:=0) (vs:=aU) rfl rfl rfl rfl jR rfl rfl rfl rfl ZX (zA rfl) rfl rfl rfl ?_)
 intro gm jS
 have jT:sW w U cI [.blk cS 169 aU,.blk aJ 104 aY,.blk aI 104 aY,.blk aQ 78 am,.blk aP 28 ak] gm:=jS
 refine zc ?_
 cases dr
 exact zI ⟨rfl,⟨cI,cS,rfl,rfl,rfl,rfl,rfl,mg,(jT.pick [1,2,3,4,0] _ (by decide) rfl)⟩⟩
 rintro oJ gp ⟨fE,bh,dT,da,bt,bp,dU,cn,bT⟩
 refine sR (wDl (.fx 4 (wKb gBp) .stop)) Z (oR Z (zG Z dU Zu Z Try.sizeOf166) (oL Z (bT.ldB (j:=4) Z Z Z Try.isAgg166 (v:=.func (.func 115) #[] #[]) Z) (oL Z (bT.ldBA (j:=3) Z Z dT zg zW (vs:=ak) Z Z) (oL Z (bT.ldBA (j:=2) Z Z da yA Zf (vs:=am) Z Z) ?_))))
 have ej:=cb.le cn
 have ek:=cc.le cn
 have en:=cd.le cn
 have eo:=cf.le cn
 have q:=bnd eX
 obtain ⟨⟨cw,cx⟩,iC,eY⟩:=q
 try dsimp only at eY
 refine zE 0 Z Z Z Z (zD Z Z Try.call115 (zB Z (zB Z zM)) Z) bT (fun hs=>wGY p0 a7 bb a8 bc a9 bd ba be p1 gp fE hs ej ek en eo iC) (.inr Z) ?_
 rintro bK mu ot gq co jU ⟨rfl,rfl⟩
 have jW:sW w U bK [.blk aJ 104 aY,.blk aI 104 aY,.blk aQ 78 am,.blk aP 28 ak,.blk bh 169 aU] gq:=jU
 refine oM Z Z (oR Z (zT Z Z (v:=.agg #[jV cw.skier,jV cw.mat]) Z) (oR Z (zT Z Z (v:=.agg #[jV cx.skier,jV cx.mat]) Z) ?_))
 let an:List Value:=[jV cw.skier,jV cw.mat]
 refine zV (j:=1) (vs:=an) Z Z Z Z jW Z bt Z Z zF (zA Z) Z Z Z ?_
 intro gt jX
 have jY:sW w U bK [.blk aJ 104 aY,.blk aI 104 an,.blk aQ 78 am,.blk aP 28 ak,.blk bh 169 aU] gt:=jX
 let ae:List Value:=[jV cx.skier,jV cx.mat]
 refine zV (j:=0) (vs:=ae) Z Z Z Z jY Z bp Z Z zF (zA Z) Z Z Z ?_
 intro dF jZ
 have bU:sW w U bK [.blk aJ 104 ae,.blk aI 104 an,.blk aQ 78 am,.blk aP 28 ak,.blk bh 169 aU] dF:=jZ
 refine eN (sR (wDl (.fx 4 (wID (.nil)) .stop)) Z (oR Z (zG Z dU Zu Z Try.sizeOf167) (oL Z (bU.ldB (j:=4) Z Z Z Try.isAgg167 (v:=.func (.func 116) #[] #[]) Z) (oL Z (bU.ldBA (j:=3) Z Z dT zg zW (vs:=ak) Z Z) (oL Z (bU.ldBA (j:=2) Z Z da yA Zf (vs:=am) Z Z) ?_)))))
 have iD:=ej.le co
 have iE:=ek.le co
 have iF:=en.le co
 have iG:=eo.le co
 have q:=bnd eY
 obtain ⟨⟨dy,fz⟩,iH,eZ⟩:=q
 try dsimp only at eZ
 refine zE 0 Z Z Z Z (zD Z Z Try.call116 (zB Z (zB Z zM)) Z) bU (fun hs=>wGZ p0 a7 bb a8 bc a9 bd ba be p1 dF bK hs iD iE iF iG iH) (.inr Z) ?_
 rintro bm mw ou cP n9 j0 ⟨rfl,rfl⟩
 have bF:sW w U bm [.blk aJ 104 ae,.blk aI 104 an,.blk aQ 78 am,.blk aP 28 ak,.blk bh 169 aU] cP:=j0
 refine oM Z Z (oR Z (zT Z Z (v:=jV dy) Z) (oR Z (zT Z Z (v:=jV fz) Z) (oA Z Z (oA Z Z (eN (zL (sR fL3 Z (oR Z (zG Z da zj Z Try.sizeOf4) (oL Z (bF.ldB (j:=2) Z Z Z Try.isAgg4 (v:=.bool p1.Up) Z) (oR Z (Zd Z Z) (eN (ifc eZ ?_ ?_))))))))))))
 intro cY l4
 refine ZI (nC cY.out) (kN ?_)
 have q:=bnd l4
 obtain ⟨⟨⟩,ft,e0⟩:=q
 try dsimp only at e0
 refine yP (fun σ_ w_=>∃ (U_:PHeap),σ_ 4=.pointer (some ⟨aI,0,none⟩)/\σ_ 5=.pointer (some ⟨aJ,0,none⟩)/\σ_ 6=jV dy/\PHeap.Le bm U_/\sW w U U_ [.blk aJ 104 ae,.blk aI 104 an,.blk aQ 78 am,.blk aP 28 ak,.blk bh 169 aU] w_) ?_ ?_
 refine ZG ZH [1,2,3,0,0,3] gDe (by kernel_rfl) ?_
 have bG:=bF.drew
 generalize hw_W454:({ cP with drawn:=cP.drawn + 1 }:World)=mU at bG ⊢
 refine oL Z (bG.ldBA (j:=1) Z Z bt zh zF (vs:=an) Z Z) (oM Z Z (zn ?_ ?_))
 refine ZR Z Z Z Z (bG.ldBA (j:=0) Z Z bp zh zF (vs:=ae) Z Z) (zV (j:=1) (vs:=an) Z Z Z Z bG Z bt Z Z zF (zA Z) Z Z Z ?_)
 intro gv j1
 have j2:sW w U bm [.blk aJ 104 ae,.blk aI 104 an,.blk aQ 78 am,.blk aP 28 ak,.blk bh 169 aU] gv:=j1
 refine zV (j:=0) (vs:=ae) Z Z Z Z j2 Z bp Z Z zF (zA Z) Z Z Z ?_
 intro gw j3
 have j4:sW w U bm [.blk aJ 104 ae,.blk aI 104 an,.blk aQ 78 am,.blk aP 28 ak,.blk bh 169 aU] gw:=j3
 refine oA Z Z (zc ?_)
 cases ft
 exact zI ⟨Z,⟨bm,bt,bp,Z,(zO _),j4⟩⟩
 refine zV (j:=1) (vs:=an) Z Z Z Z bG Z bt Z Z zF (zA Z) Z Z Z ?_
 intro gx j5
 have eH:sW w U bm [.blk aJ 104 ae,.blk aI 104 an,.blk aQ 78 am,.blk aP 28 ak,.blk bh 169 aU] gx:=j5
 refine ZR Z Z Z Z (eH.ldBA (j:=0) Z Z bp zh zF (vs:=ae) Z Z) (zV (j:=0) (vs:=ae) Z Z Z Z eH Z bp Z Z zF (zA Z) Z Z Z ?_)
 intro gy j6
 have j7:sW w U bm [.blk aJ 104 ae,.blk aI 104 an,.blk aQ 78 am,.blk aP 28 ak,.blk bh 169 aU] gy:=j6
 refine oA Z Z (zc ?_)
 cases ft
 exact zI ⟨Z,⟨bm,bt,bp,Z,(zO _),j7⟩⟩
 rintro oK mV ⟨fG,ii,ij,ik,oa,di⟩
 refine zU ?_
 cases e0
 exact ⟨rfl,_,(wDf (rs:=[.cell 4 104,.cell 5 104,.tmp 6]) (vs:=[.agg an.toArray,.agg ae.toArray,jV dy]) ⟨⟨_,ii,(wAq zh zF (di.blkAt (k:=1) rfl) (vs:=an) rfl rfl)⟩,⟨⟨_,ij,(wAq zh zF (di.blkAt (k:=0) rfl) (vs:=ae) rfl rfl)⟩,⟨ik,trivial⟩⟩⟩ rfl),fG,_,(di.pick [] _ (by decide) rfl),rfl,rfl⟩
 intro cY l5
 refine ZT (nF (cY.out)) (sR (wCg gCe) Z (oL Z (bF.ldBA (j:=0) Z Z bp zh zF (vs:=ae) Z Z) (oL Z (bF.ldBA (j:=1) Z Z bt zh zF (vs:=an) Z Z) (oM Z Z (zV (j:=1) (vs:=ae) Z Z Z Z bF Z bt Z Z zF (zA Z) Z Z Z ?_)))))
 intro gz j8
 have j9:sW w U bm [.blk aJ 104 ae,.blk aI 104 ae,.blk aQ 78 am,.blk aP 28 ak,.blk bh 169 aU] gz:=j8
 refine zV (j:=0) (vs:=an) Z Z Z Z j9 Z bp Z Z zF (zA Z) Z Z Z ?_
 intro gA k3
 have dk:sW w U bm [.blk aJ 104 an,.blk aI 104 ae,.blk aQ 78 am,.blk aP 28 ak,.blk bh 169 aU] gA:=k3
 refine oA Z Z (eN (zU (za ?_)))
 cases l5
 exact ⟨rfl,_,(wDf (rs:=[.cell 4 104,.cell 5 104,.tmp 6]) (vs:=[.agg ae.toArray,.agg an.toArray,jV fz]) ⟨⟨_,bt,(wAq zh zF (dk.blkAt (k:=1) rfl) (vs:=ae) rfl rfl)⟩,⟨⟨_,bp,(wAq zh zF (dk.blkAt (k:=0) rfl) (vs:=an) rfl rfl)⟩,⟨rfl,trivial⟩⟩⟩ rfl),bm,_,(dk.pick [] _ (by decide) rfl),rfl,rfl⟩
 by_cases c4:p1.Kind=3
 have fb:=hm;rw [if_neg c1,if_neg c2,if_neg c3,if_pos c4] at fb
 refine sR gCu Z ?_
 let ao:List Value:=[.slice a7 p0.Starts.length bb,.slice a8 p0.Splits.length bc,.slice a9 p0.Clocks.length bd,.slice ba p0.Readings.length be]
 refine zu (cs:=ao) rfl rfl rfl rfl rfl rfl (by rfl) hS ?_
 intro mW aR k5
 let ap:List Value:=[jV p1.Kind,jV p1.Skier,jV p1.Index,.bool p1.Up]
 refine zu (cs:=ap) rfl rfl rfl rfl rfl rfl (by rfl) k5 ?_
 intro mX aS k6
 let a5:List Value:=[jV 0,jV 0]
 refine zR (cs:=a5) Z Z Z Z Z zZ Z k6 ?_
 intro mY aK k7
 refine zR (cs:=a5) Z Z Z Z Z zZ Z k7 ?_
 intro dG aL k8
 refine oA Z Z (eN ?_)
 have q:=bnd fb
 obtain ⟨⟨⟩,mc,fd⟩:=q
 try dsimp only at fd
 let aV:List Value:=[.func (.func 117) #[] #[],.func (.func 118) #[] #[],.func (.func 119) #[] #[]]
 refine yP (fun σ_ w_=>∃ (U_:PHeap) (bi:Nat),σ_ 2=.pointer (some ⟨aR,0,none⟩)/\σ_ 3=.pointer (some ⟨aS,0,none⟩)/\σ_ 4=.pointer (some ⟨aK,0,none⟩)/\σ_ 5=.pointer (some ⟨aL,0,none⟩)/\σ_ 7=.pointer (some ⟨bi,0,none⟩)/\PHeap.Le U U_/\sW w U U_ [.blk aL 104 a5,.blk aK 104 a5,.blk aS 78 ap,.blk aR 28 ao,.blk bi 169 aV] w_) ?_ ?_
 have q:=bnd mc
 obtain ⟨⟨⟩,ep,du⟩:=q
 try dsimp only at du
 refine ZG ZH [2,3,1,3,2,0] gDd (by kernel_rfl) ?_
 have bW:=k8.drew
 generalize hw_W522:({ dG with drawn:=dG.drawn + 1 }:World)=gC at bW ⊢
 refine oR Z (zG Z Z zj Z yK) (oL Z (bW.ldB (j:=2) Z Z Z yQ (v:=jV p1.Kind) Z) (zn ?_ ?_))
 refine zE 0 Z Z Z Z (zD Z Z yR zM Z) bW (fun hs=>wAr gC U hs ep) (.inr Z) ?_
 rintro cK my ow gD mi lc ⟨rfl,rfl⟩
 have lf:sW w U cK [.blk aL 104 a5,.blk aK 104 a5,.blk aS 78 ap,.blk aR 28 ao] gD:=lc
 refine zY rfl rfl rfl rfl (fun _=>(ye (i:=3) rfl rfl (congrArg (jV) c4) Zo ZX (by decide) (by decide) (wCd yV ZX rfl))) (zR (cs:=[.nilFunc,.nilFunc,.nilFunc]) rfl rfl rfl rfl rfl yC rfl lf ?_)
 intro m3 dL lg
 refine zV (j:=0) (vs:=aV) Z Z Z Z lg Z Z Z Z ZX (zA Z) Z Z Z ?_
 intro gE lh
 have li:sW w U cK [.blk dL 169 aV,.blk aL 104 a5,.blk aK 104 a5,.blk aS 78 ap,.blk aR 28 ao] gE:=lh
 refine zc ?_
 cases du
 exact zI ⟨rfl,⟨cK,dL,rfl,rfl,rfl,rfl,rfl,mi,(li.pick [1,2,3,4,0] _ (by decide) rfl)⟩⟩
 refine zR (cs:=[.nilFunc,.nilFunc,.nilFunc]) Z Z Z Z Z yC Z bW ?_
 intro gF cU lj
 refine zE 0 Z Z Z Z (zD Z Z yR zM Z) lj (fun hs=>wAr gF U hs ep) (.inr Z) ?_
 rintro cL mz ox gG mj lk ⟨rfl,rfl⟩
 have ll:sW w U cL [.blk cU 169 [.nilFunc,.nilFunc,.nilFunc],.blk aL 104 a5,.blk aK 104 a5,.blk aS 78 ap,.blk aR 28 ao] gG:=lk
 refine zY rfl rfl rfl rfl (fun _=>(ye (i:=3) rfl rfl (congrArg (jV) c4) Zo ZX (by decide) (by decide) (wCd yV ZX rfl))) (zV (j:=0) (vs:=aV) rfl rfl rfl rfl ll rfl rfl rfl rfl ZX (zA rfl) rfl rfl rfl ?_)
 intro gH ln
 have lp:sW w U cL [.blk cU 169 aV,.blk aL 104 a5,.blk aK 104 a5,.blk aS 78 ap,.blk aR 28 ao] gH:=ln
 refine zc ?_
 cases du
 exact zI ⟨rfl,⟨cL,cU,rfl,rfl,rfl,rfl,rfl,mj,(lp.pick [1,2,3,4,0] _ (by decide) rfl)⟩⟩
 rintro oO gI ⟨fH,bi,dV,db,bu,bq,dW,cp,bX⟩
 refine sR (wDl (.fx 4 (wKb gBp) .stop)) Z (oR Z (zG Z dW Zu Z Try.sizeOf166) (oL Z (bX.ldB (j:=4) Z Z Z Try.isAgg166 (v:=.func (.func 118) #[] #[]) Z) (oL Z (bX.ldBA (j:=3) Z Z dV zg zW (vs:=ao) Z Z) (oL Z (bX.ldBA (j:=2) Z Z db yA Zf (vs:=ap) Z Z) ?_))))
 have er:=cb.le cp
 have eu:=cc.le cp
 have ew:=cd.le cp
 have ey:=cf.le cp
 have q:=bnd fd
 obtain ⟨⟨cy,cz⟩,iI,ff⟩:=q
 try dsimp only at ff
 refine zE 0 Z Z Z Z (zD Z Z Try.call118 (zB Z (zB Z zM)) Z) bX (fun hs=>wGA p0 a7 bb a8 bc a9 bd ba be p1 gI fH hs er eu ew ey iI) (.inr Z) ?_
 rintro bL mA oy gK cq lq ⟨rfl,rfl⟩
 have ls:sW w U bL [.blk aL 104 a5,.blk aK 104 a5,.blk aS 78 ap,.blk aR 28 ao,.blk bi 169 aV] gK:=lq
 refine oM Z Z (oR Z (zT Z Z (v:=.agg #[jV cy.skier,jV cy.mat]) Z) (oR Z (zT Z Z (v:=.agg #[jV cz.skier,jV cz.mat]) Z) ?_))
 let aq:List Value:=[jV cy.skier,jV cy.mat]
 refine zV (j:=1) (vs:=aq) Z Z Z Z ls Z bu Z Z zF (zA Z) Z Z Z ?_
 intro gL lv
 have lw:sW w U bL [.blk aL 104 a5,.blk aK 104 aq,.blk aS 78 ap,.blk aR 28 ao,.blk bi 169 aV] gL:=lv
 let af:List Value:=[jV cz.skier,jV cz.mat]
 refine zV (j:=0) (vs:=af) Z Z Z Z lw Z bq Z Z zF (zA Z) Z Z Z ?_
 intro dH lx
 have bY:sW w U bL [.blk aL 104 af,.blk aK 104 aq,.blk aS 78 ap,.blk aR 28 ao,.blk bi 169 aV] dH:=lx
 refine eN (sR (wDl (.fx 4 (wID (.nil)) .stop)) Z (oR Z (zG Z dW Zu Z Try.sizeOf167) (oL Z (bY.ldB (j:=4) Z Z Z Try.isAgg167 (v:=.func (.func 119) #[] #[]) Z) (oL Z (bY.ldBA (j:=3) Z Z dV zg zW (vs:=ao) Z Z) (oL Z (bY.ldBA (j:=2) Z Z db yA Zf (vs:=ap) Z Z) ?_)))))
 have iJ:=er.le cq
 have iK:=eu.le cq
 have iL:=ew.le cq
 have iM:=ey.le cq
 have q:=bnd ff
 obtain ⟨⟨dz,fA⟩,iN,fg⟩:=q
 try dsimp only at fg
 refine zE 0 Z Z Z Z (zD Z Z Try.call119 (zB Z (zB Z zM)) Z) bY (fun hs=>wGB p0 a7 bb a8 bc a9 bd ba be p1 dH bL hs iJ iK iL iM iN) (.inr Z) ?_
 rintro bn mB oz cQ oc lz ⟨rfl,rfl⟩
 have bH:sW w U bn [.blk aL 104 af,.blk aK 104 aq,.blk aS 78 ap,.blk aR 28 ao,.blk bi 169 aV] cQ:=lz
 refine oM Z Z (oR Z (zT Z Z (v:=jV dz) Z) (oR Z (zT Z Z (v:=jV fA) Z) (oA Z Z (oA Z Z (eN (zL (sR fL3 Z (oR Z (zG Z db zj Z Try.sizeOf4) (oL Z (bH.ldB (j:=2) Z Z Z Try.isAgg4 (v:=.bool p1.Up) Z) (oR Z (Zd Z Z) (eN (ifc fg ?_ ?_))))))))))))
 intro cZ l6
 refine ZI (nC cZ.out) (kN ?_)
 have q:=bnd l6
 obtain ⟨⟨⟩,fu,fh⟩:=q
 try dsimp only at fh
 refine yP (fun σ_ w_=>∃ (U_:PHeap),σ_ 4=.pointer (some ⟨aK,0,none⟩)/\σ_ 5=.pointer (some ⟨aL,0,none⟩)/\σ_ 6=jV dz/\PHeap.Le bn U_/\sW w U U_ [.blk aL 104 af,.blk aK 104 aq,.blk aS 78 ap,.blk aR 28 ao,.blk bi 169 aV] w_) ?_ ?_
 refine ZG ZH [1,2,3,0,0,3] gDe (by kernel_rfl) ?_
 have bI:=bH.drew
 generalize hw_W613:({ cQ with drawn:=cQ.drawn + 1 }:World)=m5 at bI ⊢
 refine oL Z (bI.ldBA (j:=1) Z Z bu zh zF (vs:=aq) Z Z) (oM Z Z (zn ?_ ?_))
 refine ZR Z Z Z Z (bI.ldBA (j:=0) Z Z bq zh zF (vs:=af) Z Z) (zV (j:=1) (vs:=aq) Z Z Z Z bI Z bu Z Z zF (zA Z) Z Z Z ?_)
 intro gM lA
 have lB:sW w U bn [.blk aL 104 af,.blk aK 104 aq,.blk aS 78 ap,.blk aR 28 ao,.blk bi 169 aV] gM:=lA
 refine zV (j:=0) (vs:=af) Z Z Z Z lB Z bq Z Z zF (zA Z) Z Z Z ?_
 intro gN lC
 have lD:sW w U bn [.blk aL 104 af,.blk aK 104 aq,.blk aS 78 ap,.blk aR 28 ao,.blk bi 169 aV] gN:=lC
 refine oA Z Z (zc ?_)
 cases fu
 exact zI ⟨Z,⟨bn,bu,bq,Z,(zO _),lD⟩⟩
 refine zV (j:=1) (vs:=aq) Z Z Z Z bI Z bu Z Z zF (zA Z) Z Z Z ?_
 intro gP lE
 have eI:sW w U bn [.blk aL 104 af,.blk aK 104 aq,.blk aS 78 ap,.blk aR 28 ao,.blk bi 169 aV] gP:=lE
 refine ZR Z Z Z Z (eI.ldBA (j:=0) Z Z bq zh zF (vs:=af) Z Z) (zV (j:=0) (vs:=af) Z Z Z Z eI Z bq Z Z zF (zA Z) Z Z Z ?_)
 intro gQ lF
 have lG:sW w U bn [.blk aL 104 af,.blk aK 104 aq,.blk aS 78 ap,.blk aR 28 ao,.blk bi 169 aV] gQ:=lF
 refine oA Z Z (zc ?_)
 cases fu
 exact zI ⟨Z,⟨bn,bu,bq,Z,(zO _),lG⟩⟩
 rintro oP m6 ⟨fI,il,im,io,od,dl⟩
 refine zU ?_
 cases fh
 exact ⟨rfl,_,(wDf (rs:=[.cell 4 104,.cell 5 104,.tmp 6]) (vs:=[.agg aq.toArray,.agg af.toArray,jV dz]) ⟨⟨_,il,(wAq zh zF (dl.blkAt (k:=1) rfl) (vs:=aq) rfl rfl)⟩,⟨⟨_,im,(wAq zh zF (dl.blkAt (k:=0) rfl) (vs:=af) rfl rfl)⟩,⟨io,trivial⟩⟩⟩ rfl),fI,_,(dl.pick [] _ (by decide) rfl),rfl,rfl⟩
 intro cZ l7
 refine ZT (nF (cZ.out)) (sR (wCg gCe) Z (oL Z (bH.ldBA (j:=0) Z Z bq zh zF (vs:=af) Z Z) (oL Z (bH.ldBA (j:=1) Z Z bu zh zF (vs:=aq) Z Z) (oM Z Z (zV (j:=1) (vs:=af) Z Z Z Z bH Z bu Z Z zF (zA Z) Z Z Z ?_)))))
 intro gR lH
 have lI:sW w U bn [.blk aL 104 af,.blk aK 104 af,.blk aS 78 ap,.blk aR 28 ao,.blk bi 169 aV] gR:=lH
 refine zV (j:=0) (vs:=aq) Z Z Z Z lI Z bq Z Z zF (zA Z) Z Z Z ?_
 intro gS lJ
 have dm:sW w U bn [.blk aL 104 aq,.blk aK 104 af,.blk aS 78 ap,.blk aR 28 ao,.blk bi 169 aV] gS:=lJ
 refine oA Z Z (eN (zU (za ?_)))
 cases l7
 exact ⟨rfl,_,(wDf (rs:=[.cell 4 104,.cell 5 104,.tmp 6]) (vs:=[.agg af.toArray,.agg aq.toArray,jV fA]) ⟨⟨_,bu,(wAq zh zF (dm.blkAt (k:=1) rfl) (vs:=af) rfl rfl)⟩,⟨⟨_,bq,(wAq zh zF (dm.blkAt (k:=0) rfl) (vs:=aq) rfl rfl)⟩,⟨rfl,trivial⟩⟩⟩ rfl),bn,_,(dm.pick [] _ (by decide) rfl),rfl,rfl⟩
 have fj:=hm;rw [if_neg c1,if_neg c2,if_neg c3,if_neg c4] at fj
 refine sR gCu Z ?_
 let cC:List Value:=[.slice a7 p0.Starts.length bb,.slice a8 p0.Splits.length bc,.slice a9 p0.Clocks.length bd,.slice ba p0.Readings.length be]
 refine zu (cs:=cC) rfl rfl rfl rfl rfl rfl (by rfl) hS ?_
 intro m7 dN lL
 let cD:List Value:=[jV p1.Kind,jV p1.Skier,jV p1.Index,.bool p1.Up]
 refine zu (cs:=cD) rfl rfl rfl rfl rfl rfl (by rfl) lL ?_
 intro m8 dO lM
 let bx:List Value:=[jV 0,jV 0]
 refine zR (cs:=bx) Z Z Z Z Z zZ Z lM ?_
 intro m9 dP lN
 refine zR (cs:=bx) Z Z Z Z Z zZ Z lN ?_
 intro dI dQ lO
 refine oA Z Z (eN (zL ?_))
 have q:=bnd fj
 obtain ⟨⟨⟩,ez,dv⟩:=q
 try dsimp only at dv
 refine ZG ZH [2,3,1,3,2,0] gDd (by kernel_rfl) ?_
 have bZ:=lO.drew
 generalize hw_W669:({ dI with drawn:=dI.drawn + 1 }:World)=gT at bZ ⊢
 refine oR Z (zG Z Z zj Z yK) (oL Z (bZ.ldB (j:=2) Z Z Z yQ (v:=jV p1.Kind) Z) (zn ?_ ?_))
 refine zE 0 Z Z Z Z (zD Z Z yR zM Z) bZ (fun hs=>wAr gT U hs ez) (.inr Z) ?_
 rintro fJ mD oB gU oe lP ⟨rfl,rfl⟩
 have n3:sW w U fJ [.blk dQ 104 bx,.blk dP 104 bx,.blk dO 78 cD,.blk dN 28 cC] gU:=lP
 cases dv
 refine zR (cs:=[.nilFunc,.nilFunc,.nilFunc]) Z Z Z Z Z yC Z bZ ?_
 intro gV g7 lQ
 refine zE 0 Z Z Z Z (zD Z Z yR zM Z) lQ (fun hs=>wAr gV U hs ez) (.inr Z) ?_
 rintro fK mE oD gW og lR ⟨rfl,rfl⟩
 have n4:sW w U fK [.blk g7 169 [.nilFunc,.nilFunc,.nilFunc],.blk dQ 104 bx,.blk dP 104 bx,.blk dO 78 cD,.blk dN 28 cC] gW:=lR
 cases dv
end Go.Proofs.Ytlnfbjphfoipaaa
namespace Go.Proofs.Ytlnfbjphfoipaaa
open Go.KL
set_option maxHeartbeats 4000000
theorem wFM (p0:wAD) (ag:Option Addr) (ak:Nat) (ah:Option Addr) (am:Nat) (ai:Option Addr) (an:Nat) (aj:Option Addr) (ao:Nat) (w:World) (U:PHeap) (hS:St0 w U []) (pB:Sl U 1 ag ak p0.Starts.length (hD KL.encI p0.Starts)) (pC:Sl U 2 ah am p0.Splits.length (hD wAC p0.Splits)) (pE:Sl U 3 ai an p0.Clocks.length (hD wAB p0.Clocks)) (pF:Sl U 4 aj ao p0.Readings.length (hD wAA p0.Readings)) {r:wAY} (hm:wCf p0=some r):Gv Try.prog 89 [.agg #[.slice ag p0.Starts.length ak,.slice ah p0.Splits.length am,.slice ai p0.Clocks.length an,.slice aj p0.Readings.length ao]] w (wBs w [] U (fun U_ L_ v=>∃ (b0:Nat) (A0p00:Option Addr) (c0p00:Nat) (A0p01:Option Addr) (c0p01:Nat) (A0p02:Option Addr) (c0p02:Nat) (A0p03:Option Addr) (c0p03:Nat) (m0p1:Nat) (es0p1:Array MapEntry) (ck0p1:Nat) (A0p2:Option Addr) (c0p2:Nat),v=.pointer (some ⟨b0,0,none⟩)/\L_=[.blk b0 124 [.slice A0p00 r.Race.Starts.length c0p00,.slice A0p01 r.Race.Splits.length c0p01,.slice A0p02 r.Race.Clocks.length c0p02,.slice A0p03 r.Race.Readings.length c0p03,.map (some m0p1),.slice A0p2 r.edges.length c0p2],.obj m0p1 (.map es0p1 ck0p1),.row A0p2 c0p2 130 7 (hD wAR r.edges)]/\Sl U_ 1 A0p00 c0p00 r.Race.Starts.length (hD KL.encI r.Race.Starts)/\Sl U_ 2 A0p01 c0p01 r.Race.Splits.length (hD wAC r.Race.Splits)/\Sl U_ 3 A0p02 c0p02 r.Race.Clocks.length (hD wAB r.Race.Clocks)/\Sl U_ 4 A0p03 c0p03 r.Race.Readings.length (hD wAA r.Race.Readings)/\MpR es0p1 wBC wBJ r.number)):=by
 unfold wCf at hm
 refine Go.KX.Gv.ofM Try.func89 Z Try.ntmps89 Try.results89 (zA Z) (sR (.fx 0 (.fl 1 .nil) .stop) Z ?_)
 let B0:List Value:=[.slice ag p0.Starts.length ak,.slice ah p0.Splits.length am,.slice ai p0.Clocks.length an,.slice aj p0.Readings.length ao]
 refine zu (cs:=B0) rfl rfl rfl rfl rfl rfl (by rfl) hS ?_
 intro W1 b2 oC
 refine oA Z Z (eN (bnK hm fun iF p5 pJ=>yP (fun σ_ w_=>∃ (U_:PHeap) (b6:Nat) (b8:Nat) (af:Nat) (bN:Array MapEntry) (cD:Nat),σ_ 1=.pointer (some ⟨b2,0,none⟩)/\σ_ 3=.pointer (some ⟨b6,0,none⟩)/\PHeap.Le U U_/\sW w U U_ [.blk b2 28 B0,.blk b6 99 [.pointer (some ⟨b8,0,none⟩)],.blk b8 124 [.slice ag p0.Starts.length ak,.slice ah p0.Splits.length am,.slice ai p0.Clocks.length an,.slice aj p0.Readings.length ao,.map (some af),.slice none 0 0],.obj af (.map bN cD)] w_/\MpR bN wBC wBJ iF) ?_ ?_))
 refine bnK p5 fun ae a5 pO=>ZG ZH [2,2,2,0,3,3,2,2,0] (.fx 0 (.fx 1 gDk (.fx 2 gDl (.fx 7 gDm .stop))) (.fx 1 (.fx 0 gDk (.fx 2 gDp (.fx 7 gDn .stop))) (.fx 2 (.fx 0 gDl (.fx 1 gDp (.fx 7 gDo .stop))) (.fx 7 (.fx 0 gDm (.fx 1 gDn (.fx 2 gDo .stop))) .stop)))) (by kernel_rfl) ?_
 have a7:=oC.drew
 generalize hw_W51:({ W1 with drawn:=W1.drawn + 1 }:World)=fI at a7 ⊢
 refine ZS (s:=.nil) (M:=fun σ_ w_=>∃ (U_:PHeap) (co:Nat) (bC:Nat) (a8:Nat) (cN:Array MapEntry) (dG:Nat),σ_ 1=.pointer (some ⟨b2,0,none⟩)/\σ_ 3=.pointer (some ⟨co,0,none⟩)/\σ_ 12=.agg B0.toArray/\σ_ 13=.map (some a8)/\σ_ 14=.agg #[jV ae.skier,jV ae.mat]/\σ_ 15=.map (some a8)/\σ_ 16=.agg #[.slice ag p0.Starts.length ak,.slice ah p0.Splits.length am,.slice ai p0.Clocks.length an,.slice aj p0.Readings.length ao,.map (some a8),.slice none 0 0]/\σ_ 17=.pointer (some ⟨bC,0,none⟩)/\PHeap.Le U U_/\sW w U U_ [.blk b2 28 B0,.blk co 99 [.pointer (some ⟨bC,0,none⟩)],.blk bC 124 [.slice ag p0.Starts.length ak,.slice ah p0.Splits.length am,.slice ai p0.Clocks.length an,.slice aj p0.Readings.length ao,.map (some a8),.slice none 0 0],.obj a8 (.map cN dG)] w_/\MpR cN wBC wBJ (wFU ([]:List (wAL × Int)) ae 0)) ?_ fun p7=>?_
 rintro sD q8 ⟨iW,co,bC,a8,cN,dG,lh,li,rV,rW,rX,rY,rZ,r6,qj,oD,mn⟩
 refine zc ?_
 cases pO
 exact zI ⟨Z,⟨iW,co,bC,a8,cN,dG,lh,li,qj,oD,mn⟩⟩
 refine ZS (s:=.fx 8 .nil .stop) (M:=fun σ_ w_=>∃ (U_:PHeap) (bD:Nat) (aX:Nat) (bP:Array MapEntry) (cG:Nat) (bi:Nat),σ_ 1=.pointer (some ⟨b2,0,none⟩)/\σ_ 3=.pointer (some ⟨bD,0,none⟩)/\σ_ 12=.agg B0.toArray/\σ_ 13=.map (some aX)/\σ_ 14=.agg #[jV ae.skier,jV ae.mat]/\σ_ 15=.map (some aX)/\σ_ 16=.agg #[.slice ag p0.Starts.length ak,.slice ah p0.Splits.length am,.slice ai p0.Clocks.length an,.slice aj p0.Readings.length ao,.map (some aX),.slice none 0 0]/\σ_ 17=.pointer (some ⟨bi,0,none⟩)/\PHeap.Le U U_/\sW w U U_ [.blk b2 28 B0,.blk bD 99 [.pointer none],.obj aX (.map bP cG),.blk bi 124 [.slice ag p0.Starts.length ak,.slice ah p0.Splits.length am,.slice ai p0.Clocks.length an,.slice aj p0.Readings.length ao,.map (some aX),.slice none 0 0]] w_/\MpR bP wBC wBJ (wFU ([]:List (wAL × Int)) ae 0)) ?_ fun dh=>?_
 rintro sE q9 ⟨fk,bD,aX,bP,cG,bi,lj,gj,lk,ll,lm,ln,lp,gm,qk,oE,mo⟩
 let B1:List Value:=[.pointer (some ⟨bi,0,none⟩)]
 refine zV (j:=1) (vs:=B1) Z Z Z Z oE Z gj gm Z Try.sizeOf99 (zA Z) Z Z Z ?_
 intro jy oG
 have oH:sW w U fk [.blk b2 28 B0,.blk bD 99 B1,.obj aX (.map bP cG),.blk bi 124 [.slice ag p0.Starts.length ak,.slice ah p0.Splits.length am,.slice ai p0.Clocks.length an,.slice aj p0.Readings.length ao,.map (some aX),.slice none 0 0]] jy:=oG
 exact p7 _ _ ⟨fk,bD,bi,aX,bP,cG,lj,gj,lk,ll,lm,ln,lp,gm,qk,(oH.pick [0,1,3,2] _ (by decide) rfl),mo⟩
 refine ZS (s:=gBt) (M:=fun σ_ w_=>∃ (U_:PHeap) (cp:Nat) (a9:Nat) (cO:Array MapEntry) (dH:Nat),σ_ 1=.pointer (some ⟨b2,0,none⟩)/\σ_ 3=.pointer (some ⟨cp,0,none⟩)/\σ_ 12=.agg B0.toArray/\σ_ 13=.map (some a9)/\σ_ 14=.agg #[jV ae.skier,jV ae.mat]/\σ_ 15=.map (some a9)/\σ_ 16=.agg #[.slice ag p0.Starts.length ak,.slice ah p0.Splits.length am,.slice ai p0.Clocks.length an,.slice aj p0.Readings.length ao,.map (some a9),.slice none 0 0]/\PHeap.Le U U_/\sW w U U_ [.blk b2 28 B0,.blk cp 99 [.pointer none],.obj a9 (.map cO dH)] w_/\MpR cO wBC wBJ (wFU ([]:List (wAL × Int)) ae 0)) ?_ fun iy=>?_
 rintro sF re ⟨iX,cp,a9,cO,dH,lq,ls,lu,lv,lw,lx,gp,qm,oI,mp⟩
 refine zu (cs:=[.slice ag p0.Starts.length ak,.slice ah p0.Splits.length am,.slice ai p0.Clocks.length an,.slice aj p0.Readings.length ao,.map (some a9),.slice none 0 0]) rfl rfl rfl rfl rfl gp (by rfl) oI ?_
 intro rf jU oJ
 exact dh _ _ ⟨iX,cp,a9,cO,dH,jU,lq,ls,lu,lv,lw,lx,gp,rfl,qm,(oJ.pick [1,2,3,0] _ (by decide) rfl),mp⟩
 refine ZS (s:=gBs) (M:=fun σ_ w_=>∃ (U_:PHeap) (ba:Nat) (cP:Array MapEntry) (dI:Nat) (cq:Nat),σ_ 1=.pointer (some ⟨b2,0,none⟩)/\σ_ 12=.agg B0.toArray/\σ_ 13=.map (some ba)/\σ_ 14=.agg #[jV ae.skier,jV ae.mat]/\σ_ 15=.map (some ba)/\σ_ 16=.agg #[.slice ag p0.Starts.length ak,.slice ah p0.Splits.length am,.slice ai p0.Clocks.length an,.slice aj p0.Readings.length ao,.map (some ba),.slice none 0 0]/\σ_ 17=.pointer (some ⟨cq,0,none⟩)/\PHeap.Le U U_/\sW w U U_ [.blk b2 28 B0,.obj ba (.map cP dI),.blk cq 124 [.slice ag p0.Starts.length ak,.slice ah p0.Splits.length am,.slice ai p0.Clocks.length an,.slice aj p0.Readings.length ao,.map (some ba),.slice none 0 0]] w_/\MpR cP wBC wBJ (wFU ([]:List (wAL × Int)) ae 0)) ?_ fun iz=>?_
 rintro sG rh ⟨iY,ba,cP,dI,cq,ly,lz,lA,lB,lC,lD,lE,qn,oK,mq⟩
 refine zR (cs:=[.pointer none]) Z Z Z Z Z yL Z oK ?_
 intro ri jW oO
 exact dh _ _ ⟨iY,jW,ba,cP,dI,cq,ly,rfl,lz,lA,lB,lC,lD,lE,qn,(oO.pick [1,0,2,3] _ (by decide) rfl),mq⟩
 refine ZS (s:=.fl 5 gBt) (M:=fun σ_ w_=>∃ (U_:PHeap) (cr:Nat) (bb:Nat) (cQ:Array MapEntry) (dJ:Nat),σ_ 1=.pointer (some ⟨b2,0,none⟩)/\σ_ 3=.pointer (some ⟨cr,0,none⟩)/\σ_ 12=.agg B0.toArray/\σ_ 13=.map (some bb)/\σ_ 14=.agg #[jV ae.skier,jV ae.mat]/\σ_ 15=.map (some bb)/\PHeap.Le U U_/\sW w U U_ [.blk b2 28 B0,.blk cr 99 [.pointer none],.obj bb (.map cQ dJ)] w_/\MpR cQ wBC wBJ (wFU ([]:List (wAL × Int)) ae 0)) ?_ fun iA=>?_
 rintro sH rj ⟨iZ,cr,bb,cQ,dJ,lF,lG,gq,lH,lI,gt,qo,oP,mr⟩
 let B2:List Value:=[.slice ag p0.Starts.length ak,.slice ah p0.Splits.length am,.slice ai p0.Clocks.length an,.slice aj p0.Readings.length ao,.map (some bb),.slice none 0 0]
 refine zY rfl rfl rfl rfl (fun _=>zl (pv:=[(0,.agg B0.toArray),(1,.map (some bb))]) (z:=[.slice none 0 0,.slice none 0 0,.slice none 0 0,.slice none 0 0,.map none,.slice none 0 0]) (cs:=B2) rfl (wAH gq (wAH gt wAP)) Try.zeroValue124 wFK rfl rfl) (zu (cs:=B2) rfl rfl rfl rfl rfl rfl (by rfl) oP ?_)
 intro rk jX oQ
 exact dh _ _ ⟨iZ,cr,bb,cQ,dJ,jX,lF,lG,gq,lH,lI,gt,rfl,rfl,qo,(oQ.pick [1,2,3,0] _ (by decide) rfl),mr⟩
 refine ZS (s:=gCo) (M:=fun σ_ w_=>∃ (U_:PHeap) (ct:Nat) (bE:Nat) (cR:Array MapEntry) (dK:Nat),σ_ 1=.pointer (some ⟨b2,0,none⟩)/\σ_ 3=.pointer (some ⟨ct,0,none⟩)/\σ_ 13=.map (some bE)/\σ_ 14=.agg #[jV ae.skier,jV ae.mat]/\σ_ 15=.map (some bE)/\PHeap.Le U U_/\sW w U U_ [.blk b2 28 B0,.blk ct 99 [.pointer none],.obj bE (.map cR dK)] w_/\MpR cR wBC wBJ (wFU ([]:List (wAL × Int)) ae 0)) ?_ fun p8=>?_
 rintro sI ro ⟨i2,ct,bE,cR,dK,gu,lJ,lK,lL,lM,qp,ii,ms⟩
 exact ZR Z Z Z Z (ii.ldBA (j:=0) Z Z gu zg zW (vs:=B0) Z Z) (iA _ _ ⟨i2,ct,bE,cR,dK,gu,lJ,Z,lK,lL,lM,qp,ii,ms⟩)
 refine ZS (s:=gCv) (M:=fun σ_ w_=>∃ (U_:PHeap) (aZ:Nat) (bQ:Array MapEntry) (cH:Nat),σ_ 1=.pointer (some ⟨b2,0,none⟩)/\σ_ 12=.agg B0.toArray/\σ_ 13=.map (some aZ)/\σ_ 14=.agg #[jV ae.skier,jV ae.mat]/\σ_ 15=.map (some aZ)/\PHeap.Le U U_/\sW w U U_ [.blk b2 28 B0,.obj aZ (.map bQ cH)] w_/\MpR bQ wBC wBJ (wFU ([]:List (wAL × Int)) ae 0)) ?_ fun p9=>?_
 rintro sJ rp ⟨fm,aZ,bQ,cH,gv,dR,gw,gx,dS,iJ,ij,gW⟩
 let B3:List Value:=[.slice ag p0.Starts.length ak,.slice ah p0.Splits.length am,.slice ai p0.Clocks.length an,.slice aj p0.Readings.length ao,.map (some aZ),.slice none 0 0]
 refine oR Z (zl (pv:=[(0,.agg B0.toArray),(1,.map (some aZ))]) (z:=[.slice none 0 0,.slice none 0 0,.slice none 0 0,.slice none 0 0,.map none,.slice none 0 0]) (cs:=B3) Z (wAH dR (wAH dS wAP)) Try.zeroValue124 wFK Z Z) (zn ?_ ?_)
 refine zu (cs:=B3) rfl rfl rfl rfl rfl rfl (by rfl) ij ?_
 intro rq jY oS
 exact iz _ _ ⟨fm,aZ,bQ,cH,jY,gv,dR,gw,gx,dS,rfl,rfl,iJ,(oS.pick [1,2,0] _ (by decide) rfl),gW⟩
 refine zR (cs:=[.pointer none]) Z Z Z Z Z yL Z ij ?_
 intro rv jZ oU
 exact iy _ _ ⟨fm,jZ,aZ,bQ,cH,gv,rfl,dR,gw,gx,dS,rfl,iJ,(oU.pick [1,0,2] _ (by decide) rfl),gW⟩
 refine ZS (s:=gCn) (M:=fun σ_ w_=>∃ (U_:PHeap) (cu:Nat) (bj:Nat) (cS:Array MapEntry) (dL:Nat),σ_ 1=.pointer (some ⟨b2,0,none⟩)/\σ_ 3=.pointer (some ⟨cu,0,none⟩)/\σ_ 12=.agg B0.toArray/\σ_ 13=.map (some bj)/\σ_ 14=.agg #[jV ae.skier,jV ae.mat]/\PHeap.Le U U_/\sW w U U_ [.blk b2 28 B0,.blk cu 99 [.pointer none],.obj bj (.map cS dL)] w_/\MpR cS wBC wBJ (wFU ([]:List (wAL × Int)) ae 0)) ?_ fun qa=>?_
 rintro sK rx ⟨i3,cu,bj,cS,dL,lN,lO,gy,gz,lP,qq,oV,mu⟩
 refine oM Z gz ?_
 let B4:List Value:=[.slice ag p0.Starts.length ak,.slice ah p0.Splits.length am,.slice ai p0.Clocks.length an,.slice aj p0.Readings.length ao,.map (some bj),.slice none 0 0]
 refine zY rfl rfl rfl rfl (fun _=>zl (pv:=[(0,.agg B0.toArray),(1,.map (some bj))]) (z:=[.slice none 0 0,.slice none 0 0,.slice none 0 0,.slice none 0 0,.map none,.slice none 0 0]) (cs:=B4) rfl (wAH gy (wAH rfl wAP)) Try.zeroValue124 wFK rfl rfl) (zu (cs:=B4) rfl rfl rfl rfl rfl rfl (by rfl) oV ?_)
 intro ry j0 oW
 exact dh _ _ ⟨i3,cu,bj,cS,dL,j0,lN,lO,gy,gz,lP,rfl,rfl,rfl,qq,(oW.pick [1,2,3,0] _ (by decide) rfl),mu⟩
 refine ZS (s:=.fl 4 gCo) (M:=fun σ_ w_=>∃ (U_:PHeap) (cw:Nat) (cx:Nat) (cU:Array MapEntry) (dM:Nat),σ_ 1=.pointer (some ⟨b2,0,none⟩)/\σ_ 3=.pointer (some ⟨cw,0,none⟩)/\σ_ 13=.map (some cx)/\σ_ 14=.agg #[jV ae.skier,jV ae.mat]/\PHeap.Le U U_/\sW w U U_ [.blk b2 28 B0,.blk cw 99 [.pointer none],.obj cx (.map cU dM)] w_/\MpR cU wBC wBJ (wFU ([]:List (wAL × Int)) ae 0)) ?_ fun qb=>?_
 rintro sL rz ⟨i4,cw,cx,cU,dM,gA,lQ,gB,lR,qr,ik,mw⟩
 exact oM Z gB (ZR Z Z Z Z (ik.ldBA (j:=0) Z Z gA zg zW (vs:=B0) Z Z) (iA _ _ ⟨i4,cw,cx,cU,dM,gA,lQ,Z,gB,lR,Z,qr,ik,mw⟩))
 refine ZS (s:=gCw) (M:=fun σ_ w_=>∃ (U_:PHeap) (bF:Nat) (bG:Nat) (dP:Array MapEntry) (fO:Nat),σ_ 1=.pointer (some ⟨b2,0,none⟩)/\σ_ 3=.pointer (some ⟨bF,0,none⟩)/\σ_ 12=.agg B0.toArray/\σ_ 13=.map (some bG)/\σ_ 14=.agg #[jV ae.skier,jV ae.mat]/\PHeap.Le U U_/\sW w U U_ [.blk b2 28 B0,.blk bF 99 [.pointer none],.obj bG (.map dP fO)] w_/\MpR dP wBC wBJ ([]:List (wAL × Int))) ?_ fun di=>?_
 rintro sM rA ⟨fq,bF,bG,dP,fO,lS,lT,lU,gC,gD,qs,oX,mx⟩
 refine OKS.mapPut (x:=.tmp 13) (y:=.tmp 14) (j:=2) (mk:=wBC) (mv:=wBJ) (a:=ae) (v:=0) rfl rfl rfl (by first | exact .inl rfl | exact .inr rfl) oX rfl gC gD rfl (wBh ZQ) wCi mx rfl ?_
 intro fU fP jz pU oY
 have oZ:sW w U fq [.blk b2 28 B0,.blk bF 99 [.pointer none],.obj bG (.map fU fP)] jz:=oY
 exact qa _ _ ⟨fq,bF,bG,fU,fP,lS,lT,lU,gC,gD,qs,oZ,pU⟩
 refine ZS (s:=.fl 4 gCv) (M:=fun σ_ w_=>∃ (U_:PHeap) (bd:Nat) (bR:Array MapEntry) (cI:Nat),σ_ 1=.pointer (some ⟨b2,0,none⟩)/\σ_ 12=.agg B0.toArray/\σ_ 13=.map (some bd)/\σ_ 14=.agg #[jV ae.skier,jV ae.mat]/\PHeap.Le U U_/\sW w U U_ [.blk b2 28 B0,.obj bd (.map bR cI)] w_/\MpR bR wBC wBJ (wFU ([]:List (wAL × Int)) ae 0)) ?_ fun qc=>?_
 rintro sN rB ⟨ft,bd,bR,cI,gE,dT,dU,gF,iK,il,gX⟩
 refine oM Z dU ?_
 let B5:List Value:=[.slice ag p0.Starts.length ak,.slice ah p0.Splits.length am,.slice ai p0.Clocks.length an,.slice aj p0.Readings.length ao,.map (some bd),.slice none 0 0]
 refine oR Z (zl (pv:=[(0,.agg B0.toArray),(1,.map (some bd))]) (z:=[.slice none 0 0,.slice none 0 0,.slice none 0 0,.slice none 0 0,.map none,.slice none 0 0]) (cs:=B5) Z (wAH dT (wAH Z wAP)) Try.zeroValue124 wFK Z Z) (zn ?_ ?_)
 refine zu (cs:=B5) rfl rfl rfl rfl rfl rfl (by rfl) il ?_
 intro rC j1 o0
 exact iz _ _ ⟨ft,bd,bR,cI,j1,gE,dT,dU,gF,rfl,rfl,rfl,iK,(o0.pick [1,2,0] _ (by decide) rfl),gX⟩
 refine zR (cs:=[.pointer none]) Z Z Z Z Z yL Z il ?_
 intro rD j2 o3
 exact iy _ _ ⟨ft,j2,bd,bR,cI,gE,rfl,dT,dU,gF,rfl,rfl,iK,(o3.pick [1,0,2] _ (by decide) rfl),gX⟩
 refine ZS (s:=gDh) (M:=fun σ_ w_=>∃ (U_:PHeap) (bk:Nat) (bm:Nat) (cV:Array MapEntry) (dN:Nat),σ_ 1=.pointer (some ⟨b2,0,none⟩)/\σ_ 3=.pointer (some ⟨bk,0,none⟩)/\σ_ 13=.map (some bm)/\σ_ 14=.agg #[jV ae.skier,jV ae.mat]/\PHeap.Le U U_/\sW w U U_ [.blk b2 28 B0,.blk bk 99 [.pointer none],.obj bm (.map cV dN)] w_/\MpR cV wBC wBJ ([]:List (wAL × Int))) ?_ fun eG=>?_
 rintro sO rE ⟨dB,bk,bm,cV,dN,dV,gG,dW,dX,iL,ew,gY⟩
 refine zn ?_ ?_
 exact ZR Z Z Z Z (ew.ldBA (j:=0) Z Z dV zg zW (vs:=B0) Z Z) (di _ _ ⟨dB,bk,bm,cV,dN,dV,gG,Z,dW,dX,iL,ew,gY⟩)
 refine OKS.mapPut (x:=.tmp 13) (y:=.tmp 14) (j:=2) (mk:=wBC) (mv:=wBJ) (a:=ae) (v:=0) rfl rfl rfl (by first | exact .inl rfl | exact .inr rfl) ew rfl dW dX rfl (wBh ZQ) wCi gY rfl ?_
 intro fV fQ jA pV o5
 have o6:sW w U dB [.blk b2 28 B0,.blk bk 99 [.pointer none],.obj bm (.map fV fQ)] jA:=o5
 exact qb _ _ ⟨dB,bk,bm,fV,fQ,dV,gG,dW,dX,iL,o6,pV⟩
 refine ZS (s:=gDg) (M:=fun σ_ w_=>∃ (U_:PHeap) (bH:Nat) (bS:Array MapEntry) (cJ:Nat),σ_ 1=.pointer (some ⟨b2,0,none⟩)/\σ_ 13=.map (some bH)/\σ_ 14=.agg #[jV ae.skier,jV ae.mat]/\PHeap.Le U U_/\sW w U U_ [.blk b2 28 B0,.obj bH (.map bS cJ)] w_/\MpR bS wBC wBJ (wFU ([]:List (wAL × Int)) ae 0)) ?_ fun qd=>?_
 rintro sP rF ⟨fu,bH,bS,cJ,dY,dZ,gH,iM,ey,gZ⟩
 refine oM Z dZ (zn ?_ ?_)
 exact ZR Z Z Z Z (ey.ldBA (j:=0) Z Z dY zg zW (vs:=B0) Z Z) (p9 _ _ ⟨fu,bH,bS,cJ,dY,Z,dZ,gH,Z,iM,ey,gZ⟩)
 refine zR (cs:=[.pointer none]) Z Z Z Z Z yL Z ey ?_
 intro rG j3 o7
 exact p8 _ _ ⟨fu,j3,bH,bS,cJ,dY,rfl,dZ,gH,rfl,iM,(o7.pick [1,0,2] _ (by decide) rfl),gZ⟩
 refine ZS (s:=gDb) (M:=fun σ_ w_=>∃ (U_:PHeap) (cy:Nat),σ_ 1=.pointer (some ⟨b2,0,none⟩)/\σ_ 3=.pointer (some ⟨cy,0,none⟩)/\σ_ 12=.agg B0.toArray/\σ_ 14=.agg #[jV ae.skier,jV ae.mat]/\PHeap.Le U U_/\sW w U U_ [.blk b2 28 B0,.blk cy 99 [.pointer none]] w_) ?_ fun eH=>?_
 rintro sQ rH ⟨i5,cy,lV,lW,lX,lY,qt,o8⟩
 refine OKS.makeMap Z Z Z Z Z o8 ?_
 intro rI j4 o9
 have pW:=MpR.nil wBC wBJ
 exact di _ _ ⟨i5,cy,j4,#[],0,lV,lW,lX,rfl,lY,qt,(o9.pick [1,2,0] _ (by decide) rfl),pW⟩
 refine ZS (s:=gDa) (M:=fun σ_ w_=>∃ (U_:PHeap) (bI:Nat) (bJ:Nat) (bT:Array MapEntry) (cK:Nat),σ_ 1=.pointer (some ⟨b2,0,none⟩)/\σ_ 3=.pointer (some ⟨bI,0,none⟩)/\σ_ 12=.agg B0.toArray/\σ_ 13=.map (some bJ)/\PHeap.Le U U_/\sW w U U_ [.blk b2 28 B0,.blk bI 99 [.pointer none],.obj bJ (.map bT cK)] w_/\MpR bT wBC wBJ ([]:List (wAL × Int))) ?_ fun eI=>?_
 rintro sS jB ⟨i6,bI,bJ,bT,cK,lZ,l3,l4,l5,qu,pd,my⟩
 refine zE 0 Z Z Z Z (zD Z Z yZ zM Z) pd (fun hs=>wBS jB i6 hs a5) (.inr Z) ?_
 rintro fw qJ sn jC qv pe ⟨rfl,rfl⟩
 have pf:sW w U fw [.blk b2 28 B0,.blk bI 99 [.pointer none],.obj bJ (.map bT cK)] jC:=pe
 exact di _ _ ⟨fw,bI,bJ,bT,cK,lZ,l3,l4,l5,Z,(qu.trans qv),pf,my⟩
 refine ZS (s:=gDf) (M:=fun σ_ w_=>∃ (U_:PHeap) (bn:Nat) (cW:Array MapEntry) (dO:Nat),σ_ 1=.pointer (some ⟨b2,0,none⟩)/\σ_ 12=.agg B0.toArray/\σ_ 13=.map (some bn)/\σ_ 14=.agg #[jV ae.skier,jV ae.mat]/\PHeap.Le U U_/\sW w U U_ [.blk b2 28 B0,.obj bn (.map cW dO)] w_/\MpR cW wBC wBJ ([]:List (wAL × Int))) ?_ fun eJ=>?_
 rintro sT rJ ⟨dC,bn,cW,dO,gI,gJ,d7,d9,iN,im,g6⟩
 refine zn ?_ ?_
 refine OKS.mapPut (x:=.tmp 13) (y:=.tmp 14) (j:=1) (mk:=wBC) (mv:=wBJ) (a:=ae) (v:=0) rfl rfl rfl (by first | exact .inl rfl | exact .inr rfl) im rfl d7 d9 rfl (wBh ZQ) wCi g6 rfl ?_
 intro fW fR jD pX pg
 have ph:sW w U dC [.blk b2 28 B0,.obj bn (.map fW fR)] jD:=pg
 exact qc _ _ ⟨dC,bn,fW,fR,gI,gJ,d7,d9,iN,ph,pX⟩
 refine zR (cs:=[.pointer none]) Z Z Z Z Z yL Z im ?_
 intro rK j5 pj
 exact di _ _ ⟨dC,j5,bn,cW,dO,gI,rfl,gJ,d7,d9,iN,(pj.pick [1,0,2] _ (by decide) rfl),g6⟩
 refine ZS (s:=gDo) (M:=fun σ_ w_=>∃ (U_:PHeap) (bK:Nat),σ_ 1=.pointer (some ⟨b2,0,none⟩)/\σ_ 3=.pointer (some ⟨bK,0,none⟩)/\σ_ 14=.agg #[jV ae.skier,jV ae.mat]/\PHeap.Le U U_/\sW w U U_ [.blk b2 28 B0,.blk bK 99 [.pointer none]] w_) ?_ fun iB=>?_
 rintro sU rL ⟨fy,bK,ec,gK,gL,iO,ez⟩
 refine zn ?_ ?_
 exact ZR Z Z Z Z (ez.ldBA (j:=0) Z Z ec zg zW (vs:=B0) Z Z) (eH _ _ ⟨fy,bK,ec,gK,Z,gL,iO,ez⟩)
 refine OKS.makeMap Z Z Z Z Z ez ?_
 intro rM j6 pk
 have pY:=MpR.nil wBC wBJ
 exact eG _ _ ⟨fy,bK,j6,#[],0,ec,gK,rfl,gL,iO,(pk.pick [1,2,0] _ (by decide) rfl),pY⟩
 refine ZS (s:=gDn) (M:=fun σ_ w_=>∃ (U_:PHeap) (bo:Nat) (bp:Nat) (bt:Array MapEntry) (bM:Nat),σ_ 1=.pointer (some ⟨b2,0,none⟩)/\σ_ 3=.pointer (some ⟨bo,0,none⟩)/\σ_ 13=.map (some bp)/\PHeap.Le U U_/\sW w U U_ [.blk b2 28 B0,.blk bo 99 [.pointer none],.obj bp (.map bt bM)] w_/\MpR bt wBC wBJ ([]:List (wAL × Int))) ?_ fun iC=>?_
 rintro sV jE ⟨fz,bo,bp,bt,bM,ef,gM,gN,iP,eA,g7⟩
 refine zn ?_ ?_
 exact ZR Z Z Z Z (eA.ldBA (j:=0) Z Z ef zg zW (vs:=B0) Z Z) (eI _ _ ⟨fz,bo,bp,bt,bM,ef,gM,Z,gN,iP,eA,g7⟩)
 refine zE 0 Z Z Z Z (zD Z Z yZ zM Z) eA (fun hs=>wBS jE fz hs a5) (.inr Z) ?_
 rintro fA qK so jF qw pm ⟨rfl,rfl⟩
 have pn:sW w U fA [.blk b2 28 B0,.blk bo 99 [.pointer none],.obj bp (.map bt bM)] jF:=pm
 exact eG _ _ ⟨fA,bo,bp,bt,bM,ef,gM,gN,Z,(iP.trans qw),pn,g7⟩
 refine ZS (s:=gDp) (M:=fun σ_ w_=>∃ (U_:PHeap) (be:Nat) (bU:Array MapEntry) (cL:Nat),σ_ 1=.pointer (some ⟨b2,0,none⟩)/\σ_ 13=.map (some be)/\σ_ 14=.agg #[jV ae.skier,jV ae.mat]/\PHeap.Le U U_/\sW w U U_ [.blk b2 28 B0,.obj be (.map bU cL)] w_/\MpR bU wBC wBJ ([]:List (wAL × Int))) ?_ fun iD=>?_
 rintro sX rO ⟨ci,be,bU,cL,cX,cY,cZ,eL,df,ep⟩
 refine zn ?_ ?_
 exact ZR Z Z Z Z (df.ldBA (j:=0) Z Z cX zg zW (vs:=B0) Z Z) (eJ _ _ ⟨ci,be,bU,cL,cX,Z,cY,cZ,eL,df,ep⟩)
 refine zn ?_ ?_
 refine OKS.mapPut (x:=.tmp 13) (y:=.tmp 14) (j:=1) (mk:=wBC) (mv:=wBJ) (a:=ae) (v:=0) rfl rfl rfl (by first | exact .inl rfl | exact .inr rfl) df rfl cY cZ rfl (wBh ZQ) wCi ep rfl ?_
 intro fY fS jG pZ po
 have pp:sW w U ci [.blk b2 28 B0,.obj be (.map fY fS)] jG:=po
 exact qd _ _ ⟨ci,be,fY,fS,cX,cY,cZ,eL,pp,pZ⟩
 refine zR (cs:=[.pointer none]) Z Z Z Z Z yL Z df ?_
 intro rP j7 pq
 exact eG _ _ ⟨ci,j7,be,bU,cL,cX,rfl,cY,cZ,eL,(pq.pick [1,0,2] _ (by decide) rfl),ep⟩
 refine ZS (s:=gDm) (M:=fun σ_ w_=>∃ (U_:PHeap) (bq:Nat),σ_ 1=.pointer (some ⟨b2,0,none⟩)/\σ_ 3=.pointer (some ⟨bq,0,none⟩)/\σ_ 12=.agg B0.toArray/\PHeap.Le U U_/\sW w U U_ [.blk b2 28 B0,.blk bq 99 [.pointer none]] w_) ?_ fun iE=>?_
 rintro sY jH ⟨fB,bq,gO,gP,gQ,iQ,io⟩
 refine zn ?_ ?_
 refine OKS.makeMap Z Z Z Z Z io ?_
 intro rQ j8 pu
 have p4:=MpR.nil wBC wBJ
 exact eI _ _ ⟨fB,bq,j8,#[],0,gO,gP,gQ,rfl,iQ,(pu.pick [1,2,0] _ (by decide) rfl),p4⟩
 refine zE 0 Z Z Z Z (zD Z Z yZ zM Z) io (fun hs=>wBS jH fB hs a5) (.inr Z) ?_
 rintro fC qL sq jI qx py ⟨rfl,rfl⟩
 have mC:sW w U fC [.blk b2 28 B0,.blk bq 99 [.pointer none]] jI:=py
 exact eH _ _ ⟨fC,bq,gO,gP,gQ,Z,(iQ.trans qx),mC⟩
 refine ZS (s:=gDl) (M:=fun σ_ w_=>∃ (U_:PHeap),σ_ 1=.pointer (some ⟨b2,0,none⟩)/\σ_ 12=.agg B0.toArray/\σ_ 14=.agg #[jV ae.skier,jV ae.mat]/\PHeap.Le U U_/\sW w U U_ [.blk b2 28 B0] w_) ?_ fun iv=>?_
 rintro sv qM ⟨fb,fZ,f4,f5,iG,g8⟩
 refine zn ?_ ?_
 refine OKS.makeMap Z Z Z Z Z g8 ?_
 intro qN jJ mD
 have pP:=MpR.nil wBC wBJ
 exact eJ _ _ ⟨fb,jJ,#[],0,fZ,f4,rfl,f5,iG,(mD.pick [1,0] _ (by decide) rfl),pP⟩
 refine zR (cs:=[.pointer none]) Z Z Z Z Z yL Z g8 ?_
 intro qO jK mE
 exact eH _ _ ⟨fb,jK,fZ,rfl,f4,f5,iG,(mE.pick [1,0] _ (by decide) rfl)⟩
 refine ZS (s:=gDk) (M:=fun σ_ w_=>∃ (U_:PHeap) (bh:Nat) (bs:Array MapEntry) (bL:Nat),σ_ 1=.pointer (some ⟨b2,0,none⟩)/\σ_ 12=.agg B0.toArray/\σ_ 13=.map (some bh)/\PHeap.Le U U_/\sW w U U_ [.blk b2 28 B0,.obj bh (.map bs bL)] w_/\MpR bs wBC wBJ ([]:List (wAL × Int))) ?_ fun iw=>?_
 rintro sw i7 ⟨fc,bh,bs,bL,f6,f7,f8,iH,g9,gR⟩
 refine zn ?_ ?_
 refine zE 0 Z Z Z Z (zD Z Z yZ zM Z) g9 (fun hs=>wBS i7 fc hs a5) (.inr Z) ?_
 rintro fd qA sc i8 qe mF ⟨rfl,rfl⟩
 have mG:sW w U fd [.blk b2 28 B0,.obj bh (.map bs bL)] i8:=mF
 exact eJ _ _ ⟨fd,bh,bs,bL,f6,f7,f8,Z,(iH.trans qe),mG,gR⟩
 refine zR (cs:=[.pointer none]) Z Z Z Z Z yL Z g9 ?_
 intro qP jL mH
 exact eI _ _ ⟨fc,jL,bh,bs,bL,f6,rfl,f7,f8,iH,(mH.pick [1,0,2] _ (by decide) rfl),gR⟩
 refine zn ?_ ?_
 refine ZR Z Z Z Z (a7.ldBA (j:=0) Z Z Z zg zW (vs:=B0) Z Z) (zn ?_ ?_)
 refine OKS.makeMap Z Z Z Z Z a7 ?_
 intro qQ jM mI
 have pQ:=MpR.nil wBC wBJ
 exact iw _ _ ⟨U,jM,#[],0,rfl,rfl,rfl,(zO _),(mI.pick [1,0] _ (by decide) rfl),pQ⟩
 refine zn ?_ ?_
 refine zE 0 Z Z Z Z (zD Z Z yZ zM Z) a7 (fun hs=>wBS fI U hs a5) (.inr Z) ?_
 rintro ff qB sd i9 qf mJ ⟨rfl,rfl⟩
 have mK:sW w U ff [.blk b2 28 B0] i9:=mJ
 exact iv _ _ ⟨ff,Z,Z,Z,qf,mK⟩
 refine zR (cs:=[.pointer none]) Z Z Z Z Z yL Z a7 ?_
 intro qR jN mL
 exact iE _ _ ⟨U,jN,rfl,rfl,rfl,(zO _),(mL.pick [1,0] _ (by decide) rfl)⟩
 refine zn ?_ ?_
 refine OKS.makeMap Z Z Z Z Z a7 ?_
 intro ja cm db
 have eF:=MpR.nil wBC wBJ
 refine zn ?_ ?_
 exact ZR rfl rfl rfl rfl (db.ldBA (j:=1) rfl rfl rfl zg zW (vs:=B0) rfl rfl) (iw _ _ ⟨U,cm,#[],0,rfl,rfl,rfl,(zO _),(db.pick [1,0] _ (by decide) rfl),eF⟩)
 refine zn ?_ ?_
 refine zE 0 Z Z Z Z (zD Z Z yZ zM Z) db (fun hs=>wBS ja U hs a5) (.inr Z) ?_
 rintro fg qC sf jb qh mM ⟨rfl,rfl⟩
 have mN:sW w U fg [.obj cm (.map #[] 0),.blk b2 28 B0] jb:=mM
 exact iD _ _ ⟨fg,cm,#[],0,rfl,rfl,rfl,qh,(mN.pick [1,0] _ (by decide) rfl),eF⟩
 refine zR (cs:=[.pointer none]) Z Z Z Z Z yL Z db ?_
 intro qS jO mO
 exact iC _ _ ⟨U,jO,cm,#[],0,rfl,rfl,rfl,(zO _),(mO.pick [2,0,1] _ (by decide) rfl),eF⟩
 refine zn ?_ ?_
 refine zE 0 Z Z Z Z (zD Z Z yZ zM Z) a7 (fun hs=>wBS fI U hs a5) (.inr Z) ?_
 rintro cf qD sg jc eK mP ⟨rfl,rfl⟩
 have dd:sW w U cf [.blk b2 28 B0] jc:=mP
 refine zn ?_ ?_
 exact ZR Z Z Z Z (dd.ldBA (j:=0) Z Z Z zg zW (vs:=B0) Z Z) (iv _ _ ⟨cf,Z,Z,Z,eK,dd⟩)
 refine zn ?_ ?_
 refine OKS.makeMap Z Z Z Z Z dd ?_
 intro qT jP mQ
 have pR:=MpR.nil wBC wBJ
 exact iD _ _ ⟨cf,jP,#[],0,rfl,rfl,rfl,eK,(mQ.pick [1,0] _ (by decide) rfl),pR⟩
 refine zR (cs:=[.pointer none]) Z Z Z Z Z yL Z dd ?_
 intro qU jQ mR
 exact iB _ _ ⟨cf,jQ,rfl,rfl,rfl,eK,(mR.pick [1,0] _ (by decide) rfl)⟩
 refine zR (cs:=[.pointer none]) Z Z Z Z Z yL Z a7 ?_
 intro jd cn de
 refine zn ?_ ?_
 exact ZR rfl rfl rfl rfl (de.ldBA (j:=1) rfl rfl rfl zg zW (vs:=B0) rfl rfl) (iE _ _ ⟨U,cn,rfl,rfl,rfl,(zO _),(de.pick [1,0] _ (by decide) rfl)⟩)
 refine zn ?_ ?_
 refine OKS.makeMap Z Z Z Z Z de ?_
 intro qV jR mS
 have pS:=MpR.nil wBC wBJ
 exact iC _ _ ⟨U,cn,jR,#[],0,rfl,rfl,rfl,(zO _),(mS.pick [2,1,0] _ (by decide) rfl),pS⟩
 refine zE 0 Z Z Z Z (zD Z Z yZ zM Z) de (fun hs=>wBS jd U hs a5) (.inr Z) ?_
 rintro fh qE sj je qi mT ⟨rfl,rfl⟩
 have mU:sW w U fh [.blk cn 99 [.pointer none],.blk b2 28 B0] je:=mT
 exact iB _ _ ⟨fh,cn,rfl,rfl,rfl,qi,(mU.pick [1,0] _ (by decide) rfl)⟩
 rintro sA jf ⟨iV,b6,b8,af,bN,cD,f9,k5,dk,ib,l7⟩
 refine zL (sR (.fl 0 (.fx 1 .nil .stop)) Z (oL Z (ib.ldBA (j:=0) Z Z f9 zg zW (vs:=B0) Z Z) ?_))
 have gS:=pB.le dk
 have gT:=pC.le dk
 have gU:=pE.le dk
 have gV:=pF.le dk
 have q:=bnd pJ
 obtain ⟨⟨⟩,l8,ir⟩:=q
 try dsimp only at ir
 refine zE 0 Z Z Z Z (zD Z Z Try.call81 (zB Z zM) Z) ib (fun hs=>wFc p0 ag ak ah am ai an aj ao jf iV hs gS gT gU gV l8) (.inr Z) ?_
 rintro fj qF sk jg dl mV ⟨fK,rfl,rfl,ma⟩
 let B6:Res:=.blk b6 99 [.pointer (some ⟨b8,0,none⟩)]
 have mW:sW w U fj [.blk b2 28 B0,B6,.blk b8 124 [.slice ag p0.Starts.length ak,.slice ah p0.Splits.length am,.slice ai p0.Clocks.length an,.slice aj p0.Readings.length ao,.map (some af),.slice none 0 0],.obj af (.map bN cD)] jg:=mV
 refine eN (zd (CK.fresh fun du dg=>?_))
 have k6:du 1=.pointer (some ⟨b2,0,none⟩):=(dg 1).trans f9
 have ga:du 3=.pointer (some ⟨b6,0,none⟩):=(dg 3).trans k5
 have k7:du 19=.func (.func 105) #[] #[.pointer (some ⟨fK,0,none⟩)]:=(dg 19).trans rfl
 clear dg
 have mX:=mW.nilrow 130 7
 refine bnK ir fun iS pI it=>?_
 have eg:=gS.le dl
 have eh:=gT.le dl
 have ej:=gU.le dl
 have ek:=gV.le dl
 refine CK.rangeY (S:=(List wAX) × (List (wAL × Int))) (E:=Empty) (ar:=wKJ) (PY:=(fun (s_:(List wAX) × (List (wAL × Int))) (U_:PHeap) (L_:List Res)=>match s_ with | (l1591,l1595)=>∃ (bg:Option Addr) (br:Nat) (aV:Array MapEntry) (aW:Nat),L_=[.blk b2 28 B0,B6,.row bg br 130 7 (hD wAR l1591),.blk b8 124 [.slice ag p0.Starts.length ak,.slice ah p0.Splits.length am,.slice ai p0.Clocks.length an,.slice aj p0.Readings.length ao,.map (some af),.slice bg l1591.length br],.obj af (.map aV aW)]/\MpR aV wBC wBJ l1595)) (PE:=(fun (_:Empty) _ _=>False)) (exO:=Empty.elim) (s0:=([],iF)) (rr:=iS) k7 Try.call105 (mX.pick [1,2,0,3,4] _ (by decide) rfl) (by decide) (fun _ _ _ h=>by obtain rfl:=h;rfl) (fun e=>nomatch e) ⟨none,0,bN,cD,rfl,l7⟩ (fun l w1 L1 PY' PE' mB mz pz=>wEv PY' PE' _ l _ p0 fK ag ak ah am ai an aj ao w1 L1 fj mB mz pz ma eg eh ej ek pI) ?_ ?_
 rintro az sb r7 ⟨l1591,l1595⟩ ap sr sa dr qG qz eM aJ dm mY mA pD ip dt bv
 obtain ⟨bg,br,aV,aW,rfl,mb⟩:=mA
 obtain rfl:=pD
 replace bv:∀ t,dt t=upd du 20 (.agg #[jV ap.Kind,jV ap.Skier,jV ap.Index,.bool ap.Up]) t:=bv
 have k8:dt 20=.agg #[jV ap.Kind,jV ap.Skier,jV ap.Index,.bool ap.Up]:=(bv 20).trans (wEd _ _ _)
 have gb:dt 1=.pointer (some ⟨b2,0,none⟩):=(bv 1).trans ((wEz _ _ (by decide)).trans k6)
 have k9:dt 3=.pointer (some ⟨b6,0,none⟩):=(bv 3).trans ((wEz _ _ (by decide)).trans ga)
 clear bv
 let B7:Res:=.blk b8 124 [.slice ag p0.Starts.length ak,.slice ah p0.Splits.length am,.slice ai p0.Clocks.length an,.slice aj p0.Readings.length ao,.map (some af),.slice bg l1591.length br]
 let B8:Res:=.row bg br 130 7 (hD wAR l1591)
 have mZ:St aJ dr [.obj az eM,.blk b2 28 B0,B6,B8,B7,.obj af (.map aV aW)] qz:=mY
 try dsimp only at ip
 refine rR gBu Z (zR (cs:=[jV 0,jV 0,jV 0,.bool false]) Z Z Z Z Z Zz Z mZ ?_)
 intro qW ay m3
 let B9:List Value:=[jV ap.Kind,jV ap.Skier,jV ap.Index,.bool ap.Up]
 refine zV (j:=0) (vs:=B9) Z Z Z Z m3 Z Z k8 Z Zf (zA Z) Z Z Z ?_
 intro jh m4
 have m5:St aJ dr [.blk ay 78 B9,.obj az eM,.blk b2 28 B0,B6,B8,B7,.obj af (.map aV aW)] jh:=m4
 refine zc ⟨rfl,rfl,_,_,(m5.pick [1,0,2,3,4,5,6] [.obj az eM,.blk ay 78 B9,.blk b2 28 B0,B6,B8,B7,.obj af (.map aV aW)] (by decide) rfl),fun fE aN m6=>?_⟩
 have er:St aJ dr [.obj az aN,.blk ay 78 B9,.blk b2 28 B0,B6,B8,B7,.obj af (.map aV aW)] fE:=m6
 refine zd (sR (.fl 0 (.fl 1 (.fx 2 (wJz (.fx 7 (.fx 8 (.fx 9 (.fx 10 (.fl 11 .nil) .stop) .stop) .stop) .stop)) .stop))) Z (oL Z (er.ldBA (j:=2) Z Z gb zg zW (vs:=B0) Z Z) (oL Z (er.ldBA (j:=1) Z Z Z yA Zf (vs:=B9) Z Z) ?_)))
 have mc:=eg.le dm
 have md:=eh.le dm
 have me:=ej.le dm
 have mf:=ek.le dm
 have q:=bnd ip
 obtain ⟨⟨aG,aH,aR⟩,mg,iu⟩:=q
 try dsimp only at iu
 refine zE 0 Z Z Z Z (zD Z Z Try.call70 (zB Z (zB Z zM)) Z) er (fun hs=>wBT p0 ag ak ah am ai an aj ao ap fE dr hs mc md me mf mg) (.inr Z) ?_
 rintro bB qH sm ji r8 m7 ⟨rfl,rfl⟩
 have m8:St aJ bB [.obj az aN,.blk ay 78 B9,.blk b2 28 B0,B6,B8,B7,.obj af (.map aV aW)] ji:=m7
 refine oM Z Z (oR Z (zT Z Z (v:=.agg #[jV aG.skier,jV aG.mat]) Z) (oR Z (zT Z Z (v:=.agg #[jV aH.skier,jV aH.mat]) Z) (oR Z (zT Z Z (v:=jV aR) Z) ?_)))
 let cd:List Value:=[jV 0,jV 0]
 refine zR (cs:=cd) Z Z Z Z Z zZ Z m8 ?_
 intro qX aO m9
 refine zR (cs:=cd) Z Z Z Z Z zZ Z m9 ?_
 intro qY aP n3
 let aI:List Value:=[jV aG.skier,jV aG.mat]
 refine zV (j:=1) (vs:=aI) Z Z Z Z n3 Z Z Z Z zF (zA Z) Z Z Z ?_
 intro jj n4
 have n5:St aJ bB [.blk aP 104 cd,.blk aO 104 aI,.obj az aN,.blk ay 78 B9,.blk b2 28 B0,B6,B8,B7,.obj af (.map aV aW)] jj:=n4
 let aK:List Value:=[jV aH.skier,jV aH.mat]
 refine zV (j:=0) (vs:=aK) Z Z Z Z n5 Z Z Z Z zF (zA Z) Z Z Z ?_
 intro jk n6
 have eu:St aJ bB [.blk aP 104 aK,.blk aO 104 aI,.obj az aN,.blk ay 78 B9,.blk b2 28 B0,B6,B8,B7,.obj af (.map aV aW)] jk:=n6
 refine oA Z Z (eN (zL (sR fL4 Z (oL Z (eu.ldBA (j:=1) Z Z Z zh zF (vs:=aI) Z Z) (oL Z (eu.ldBA (j:=0) Z Z Z zh zF (vs:=aK) Z Z) ?_)))))
 let eQ:List Value:=[jV aG.skier,jV aG.mat,jV aH.skier,jV aH.mat]
 refine oR Z (Runs.buildA (pv:=[(0,.agg aI.toArray),(1,.agg aK.toArray)]) (z:=[jV 0,jV 0,jV 0,jV 0]) (cs:=eQ) Z (wAH Z (wAH Z wAP)) Try.zeroValue180 Try.runUnderlying180 zF Z Z) (oM Z Z (eN (zd (bnK iu fun ax pG pK=>?_))))
 have q:=wAx pG
 obtain ⟨eD,pH⟩:=q
 replace eD:=zN eD
 refine CK.forN' (fun bY bZ σ_ w_=>∃ (U_:PHeap) (bO:Array MapEntry) (cE:Nat),σ_ 31=jV (↑bY:Int)/\σ_ 1=.pointer (some ⟨b2,0,none⟩)/\σ_ 3=.pointer (some ⟨b6,0,none⟩)/\σ_ 4=.pointer (some ⟨ay,0,none⟩)/\σ_ 5=.pointer (some ⟨aO,0,none⟩)/\σ_ 6=.pointer (some ⟨aP,0,none⟩)/\σ_ 7=jV aR/\σ_ 30=.agg eQ.toArray/\PHeap.Le bB U_/\St aJ U_ [.blk aP 104 aK,.blk aO 104 aI,.obj az aN,.blk ay 78 B9,.blk b2 28 B0,B6,B8,B7,.obj af (.map bO cE)] w_/\MpR bO wBC wBJ bZ) pH ?_ ?_ ?_
 exact ⟨bB,aV,aW,Z,gb,k9,Z,Z,Z,Z,Z,(zO _),eu,mb⟩
 rintro bY bZ ss sB qZ eB ⟨cg,bO,cE,c6,ge,bV,gf,gg,gh,gi,dQ,iI,n7,da⟩ p6
 have fM:Hid ((↑bY:Int) < 2):=zN (wAs eB)
 replace eB:=zN eB
 have iq:Hid (w64 ((↑bY:Int) + 1)=(↑(bY + 1):Int)):=zN (by have h1:=eD.out;have h2:=fM.out;rw [wAW] <;> omega)
 refine sR fL1 Z (oR Z (zi Z c6 Z) (eN (zL (cT Z fM (kN (zL (zd (sR (.fl 0 (.fx 1 (.fx 2 .nil .stop) .stop)) Z (bnK p6 fun bw en pL=>oR Z (ye (cs:=hD wBX ([aG,aH]:List wAL)) Z dQ c6 Try.runUnderlying180 zF (wCk en) (wCw en) (wCd zh zF (wHU (sz:=2) (fun _=>Z) _ _ (wAj en)))) (zR (cs:=cd) Z Z Z Z Z zZ Z n7 ?_))))))))))
 intro q5 fL n8
 let bx:List Value:=[jV bw.skier,jV bw.mat]
 refine zV (j:=0) (vs:=bx) Z Z Z Z n8 Z Z Z Z zF (zA Z) Z Z Z ?_
 intro dD n9
 have oa:St aJ cg [.blk fL 104 bx,.blk aP 104 aK,.blk aO 104 aI,.obj az aN,.blk ay 78 B9,.blk b2 28 B0,B6,B8,B7,.obj af (.map bO cE)] dD:=n9
 refine eN (zL (ZG ZH [1,3,3,1,1,1,3,3,3,3,3] wMQ (by kernel_rfl) ?_))
 have bf:=oa.drew
 generalize hw_W1729:({ dD with drawn:=dD.drawn + 1 }:World)=fG at bf ⊢
 refine oL Z (bf.ldB (j:=6) Z Z bV yg (v:=.pointer (some ⟨b8,0,none⟩)) Z) (oR Z (Ze Z Z) (oR Z (zG Z Z ZN Z yD) (oL Z (bf.ldB (j:=8) Z Z Z yH (v:=.map (some af)) Z) (oL Z (bf.ldBA (j:=0) Z Z Z zh zF (vs:=bx) Z Z) (oL Z (bf.lookup2 (j:=9) (mk:=wBC) (mv:=wBJ) (a:=bw) (z:=0) Z Z Z Z (wBh ZQ) wCi ZB da) (oM Z Z (oR Z (zT Z Z (v:=jV (wAw bZ bw 0)) Z) (oR Z (zT Z Z (v:=.bool (wJD bZ bw)) Z) (oA Z Z (oA Z Z (eN (sR fL2 Z (oM Z Z (oR Z (Zd Z Z) (eN (ifc pL ?_ ?_))))))))))))))))
 intro dE pM
 refine ZI (nC dE.out) (Zp (ZA (zI (rR fL2 Z (oR Z (ZM (zb Z c6 Z) (congrArg (jV) iq.out)) (oM Z Z (zc ?_)))))))
 cases pM
 exact zI ⟨rfl,⟨cg,bO,cE,rfl,ge,bV,gf,gg,gh,gi,dQ,iI,(bf.pick [1,2,3,4,5,6,7,8,9] _ (by decide) rfl),da⟩⟩
 intro dE pN
 refine ZT (nF (dE.out)) (ZG ZH [1,3,3,1,1,1,3,3,1,1,0] (wJB (.fx 10 .nil .stop)) (by kernel_rfl) ?_)
 have a6:=bf.drew
 generalize hw_W1737:({ fG with drawn:=fG.drawn + 1 }:World)=q6 at a6 ⊢
 refine ZF rfl rfl rfl rfl (a6.ldB (j:=6) rfl rfl bV yg (v:=.pointer (some ⟨b8,0,none⟩)) rfl) rfl (zY rfl rfl rfl rfl (fun _=>Ze rfl rfl) (zY rfl rfl rfl rfl (fun _=>zG rfl rfl ZN rfl yD) (ZF rfl rfl rfl rfl (a6.ldB (j:=8) rfl rfl rfl yH (v:=.map (some af)) rfl) rfl (ZF rfl rfl rfl rfl (a6.ldBA (j:=0) rfl rfl rfl zh zF (vs:=bx) rfl rfl) rfl (ZF rfl rfl rfl rfl (a6.ldB (j:=6) rfl rfl bV yg (v:=.pointer (some ⟨b8,0,none⟩)) rfl) rfl (zY rfl rfl rfl rfl (fun _=>Ze rfl rfl) (zY rfl rfl rfl rfl (fun _=>zG rfl rfl ZN rfl yD) (ZF rfl rfl rfl rfl (a6.ldB (j:=8) rfl rfl rfl yH (v:=.map (some af)) rfl) rfl (ZF rfl rfl rfl rfl (a6.lenM (j:=9) (mk:=wBC) (mv:=wBJ) rfl rfl rfl (wBh ZQ) da) rfl (OKS.mapPut (x:=.tmp 48) (y:=.tmp 49) (z:=.tmp 54) (j:=9) (mk:=wBC) (mv:=wBJ) (a:=bw) (v:=(↑(bZ.length):Int)) rfl rfl rfl (by first | exact .inl rfl | exact .inr rfl) a6 rfl rfl rfl rfl (wBh ZQ) wCi da rfl ?_))))))))))
 intro fT fN jl pT oc
 have od:St aJ cg [.blk fL 104 bx,.blk aP 104 aK,.blk aO 104 aI,.obj az aN,.blk ay 78 B9,.blk b2 28 B0,B6,B8,B7,.obj af (.map fT fN)] jl:=oc
 refine zc (ZA (zI (rR fL2 Z (oR Z (ZM (zb Z c6 Z) (congrArg (jV) iq.out)) (oM Z Z (zc ?_))))))
 cases pN
 exact zI ⟨rfl,⟨cg,fT,fN,rfl,ge,bV,gf,gg,gh,gi,dQ,iI,(od.pick [1,2,3,4,5,6,7,8,9] _ (by decide) rfl),pT⟩⟩
 rintro sC fH ⟨aY,aU,aT,l6,rS,bu,lb,lc,lf,lg,rT,r9,oe,bW⟩
 have j9:Hid (¬ ((↑((2:Int) - 0).toNat:Int) < 2)):=zN (wAc)
 refine sR fL1 rfl (zY rfl rfl rfl rfl (fun _=>zi rfl l6 rfl) (eN (zL (cF Z j9 (Zc (zm (zm (ZY (zI (bnK pK fun aS eo eE=>ZG ZH [2,1,3,3,1,1,1,3,3,1,1,1,1,3,3,1,1,1,3,3,2,0,3,3,0] (wMb (.fx 0 (.fx 20 gCp .stop) (.fx 20 (.fx 0 gCp (.fx 21 (.fx 0 gCf .stop) .stop)) .stop))) (by kernel_rfl) ?_))))))))))
 have aM:=oe.drew
 generalize hw_W1786:({ fH with drawn:=fH.drawn + 1 }:World)=q7 at aM ⊢
 refine oL Z (aM.ldB (j:=5) Z Z bu yg (v:=.pointer (some ⟨b8,0,none⟩)) Z) (oR Z (Ze Z Z) (oR Z (zG Z Z ZN Z yh) (oL Z (aM.ldB (j:=7) Z Z Z Try.isAgg122 (v:=.slice bg l1591.length br) Z) (oL Z (aM.ldBA (j:=3) Z Z lb yA Zf (vs:=B9) Z Z) (oL Z (aM.ldB (j:=5) Z Z bu yg (v:=.pointer (some ⟨b8,0,none⟩)) Z) (oR Z (Ze Z Z) (oR Z (zG Z Z ZN Z yD) (oL Z (aM.ldB (j:=7) Z Z Z yH (v:=.map (some af)) Z) (oL Z (aM.ldBA (j:=1) Z Z lc zh zF (vs:=aI) Z Z) (oL Z (aM.lookup1 (j:=8) (mk:=wBC) (mv:=wBJ) (a:=aG) (z:=0) Z Z Z Z (wBh ZQ) wCi ZB bW) (oL Z (aM.ldB (j:=5) Z Z bu yg (v:=.pointer (some ⟨b8,0,none⟩)) Z) (oR Z (Ze Z Z) (oR Z (zG Z Z ZN Z yD) (oL Z (aM.ldB (j:=7) Z Z Z yH (v:=.map (some af)) Z) (oL Z (aM.ldBA (j:=0) Z Z lf zh zF (vs:=aK) Z Z) (oL Z (aM.lookup1 (j:=8) (mk:=wBC) (mv:=wBJ) (a:=aH) (z:=0) Z Z Z Z (wBh ZQ) wCi ZB bW) (oM Z lg ?_)))))))))))))))))
 let bz:List Value:=[jV ap.Kind,jV ap.Skier,jV ap.Index,.bool ap.Up,jV (wAw ax aG 0),jV (wAw ax aH 0),jV aR]
 let dw:List Value:=[jV 0,jV 0,jV 0,.bool false,jV 0,jV 0,jV 0]
 refine oR Z (zl (pv:=[(0,.agg B9.toArray),(1,jV (wAw ax aG 0)),(2,jV (wAw ax aH 0)),(3,jV aR)]) (z:=dw) (cs:=bz) Z (wAH Z (wAH Z (wAH Z (wAH Z wAP)))) Try.zeroValue130 wJU Z Z) (zn ?_ ?_)
 refine ZR Z Z Z Z (aM.ldB (j:=5) Z Z bu yg (v:=.pointer (some ⟨b8,0,none⟩)) Z) (zq (pv:=[(0,.agg bz.toArray)]) (zs:=dw) (cs:=bz) Z Z Z Z Z (wAH Z wAP) Try.runUnderlying122 Try.sizeOf130 Try.zeroValue130 Z Z Z Z Z aM ?_)
 intro jm jS og
 let dx:Res:=.row (some ⟨jS,0,none⟩) 1 130 7 (hD wAR [(⟨ap,(wAw ax aG 0),(wAw ax aH 0),aR⟩:wAX)])
 have ic:St aJ aY [dx,.blk aP 104 aK,.blk aO 104 aI,.obj az aN,.blk ay 78 B9,.blk b2 28 B0,B6,B8,B7,.obj af (.map aU aT)] jm:=og
 refine Zw (j:=7) (enc:=wAR) (xs:=l1591) (ys:=[(⟨ap,(wAw ax aG 0),(wAw ax aH 0),aR⟩:wAX)]) (zs:=aS) rfl rfl rfl rfl rfl Try.underlying122 wHt rfl rfl rfl rfl rfl rfl ic rfl rfl rfl (ic.srcR (j:=0) rfl (by decide) (wAE (f:=wAR) (sz:=7) (fun _=>rfl) [(⟨ap,(wAw ax aG 0),(wAw ax aH 0),aR⟩:wAX)])) (fun _=>rfl) (fun _=>rfl) eo rfl ?_
 intro ca cz jo oh
 let eU:Res:=.row ca cz 130 7 (hD wAR aS)
 have oi:St aJ aY [dx,.blk aP 104 aK,.blk aO 104 aI,.obj az aN,.blk ay 78 B9,.blk b2 28 B0,B6,eU,B7,.obj af (.map aU aT)] jo:=oh
 refine oR Z (Ze Z Z) (oR Z (zG Z Z ZN Z yh) (zV (j:=8) (vs:=[.slice ca aS.length cz]) Z Z Z Z oi Z Z Z Z yh (zA Z) Z Z Z ?_))
 intro jp oj
 have ol:St aJ aY [dx,.blk aP 104 aK,.blk aO 104 aI,.obj az aN,.blk ay 78 B9,.blk b2 28 B0,B6,eU,.blk b8 124 [.slice ag p0.Starts.length ak,.slice ah p0.Splits.length am,.slice ai p0.Clocks.length an,.slice aj p0.Readings.length ao,.map (some af),.slice ca aS.length cz],.obj af (.map aU aT)] jp:=oj
 refine zc (ZA ?_)
 have q:=nE eE
 obtain rfl:=q
 exact ⟨_,_,(ol.pick [3,5,6,7,8,9] _ (by decide) rfl),rfl,⟨ca,cz,aU,aT,rfl,bW⟩⟩
 refine zq (pv:=[(0,.agg bz.toArray)]) (zs:=dw) (cs:=bz) Z Z Z Z Z (wAH Z wAP) Try.runUnderlying122 Try.sizeOf130 Try.zeroValue130 Z Z Z Z Z aM ?_
 intro jq jT om
 let bA:Res:=.row (some ⟨jT,0,none⟩) 1 130 7 (hD wAR [(⟨ap,(wAw ax aG 0),(wAw ax aH 0),aR⟩:wAX)])
 have bX:St aJ aY [bA,.blk aP 104 aK,.blk aO 104 aI,.obj az aN,.blk ay 78 B9,.blk b2 28 B0,B6,B8,B7,.obj af (.map aU aT)] jq:=om
 refine zn ?_ ?_
 refine ZR rfl rfl rfl rfl (bX.ldB (j:=6) rfl rfl bu yg (v:=.pointer (some ⟨b8,0,none⟩)) rfl) (Zw (j:=7) (enc:=wAR) (xs:=l1591) (ys:=[(⟨ap,(wAw ax aG 0),(wAw ax aH 0),aR⟩:wAX)]) (zs:=aS) rfl rfl rfl rfl rfl Try.underlying122 wHt rfl rfl rfl rfl rfl rfl bX rfl rfl rfl (bX.srcR (j:=0) rfl (by decide) (wAE (f:=wAR) (sz:=7) (fun _=>rfl) [(⟨ap,(wAw ax aG 0),(wAw ax aH 0),aR⟩:wAX)])) (fun _=>rfl) (fun _=>rfl) eo rfl ?_)
 intro cb cA jr oo
 let eW:Res:=.row cb cA 130 7 (hD wAR aS)
 have oq:St aJ aY [bA,.blk aP 104 aK,.blk aO 104 aI,.obj az aN,.blk ay 78 B9,.blk b2 28 B0,B6,eW,B7,.obj af (.map aU aT)] jr:=oo
 refine oR Z (Ze Z Z) (oR Z (zG Z Z ZN Z yh) (zV (j:=8) (vs:=[.slice cb aS.length cA]) Z Z Z Z oq Z Z Z Z yh (zA Z) Z Z Z ?_))
 intro jt ot
 have ou:St aJ aY [bA,.blk aP 104 aK,.blk aO 104 aI,.obj az aN,.blk ay 78 B9,.blk b2 28 B0,B6,eW,.blk b8 124 [.slice ag p0.Starts.length ak,.slice ah p0.Splits.length am,.slice ai p0.Clocks.length an,.slice aj p0.Readings.length ao,.map (some af),.slice cb aS.length cA],.obj af (.map aU aT)] jt:=ot
 refine zc (ZA ?_)
 have q:=nE eE
 obtain rfl:=q
 exact ⟨_,_,(ou.pick [3,5,6,7,8,9] _ (by decide) rfl),rfl,⟨cb,cA,aU,aT,rfl,bW⟩⟩
 refine Zw (j:=7) (enc:=wAR) (xs:=l1591) (ys:=[(⟨ap,(wAw ax aG 0),(wAw ax aH 0),aR⟩:wAX)]) (zs:=aS) rfl rfl rfl rfl rfl Try.underlying122 wHt rfl rfl rfl rfl rfl rfl bX rfl rfl rfl (bX.srcR (j:=0) rfl (by decide) (wAE (f:=wAR) (sz:=7) (fun _=>rfl) [(⟨ap,(wAw ax aG 0),(wAw ax aH 0),aR⟩:wAX)])) (fun _=>rfl) (fun _=>rfl) eo rfl ?_
 intro cc cB ju ov
 let eX:Res:=.row cc cB 130 7 (hD wAR aS)
 have ie:St aJ aY [bA,.blk aP 104 aK,.blk aO 104 aI,.obj az aN,.blk ay 78 B9,.blk b2 28 B0,B6,eX,B7,.obj af (.map aU aT)] ju:=ov
 refine ZR Z Z Z Z (ie.ldB (j:=6) Z Z bu yg (v:=.pointer (some ⟨b8,0,none⟩)) Z) (oR Z (Ze Z Z) (oR Z (zG Z Z ZN Z yh) (zV (j:=8) (vs:=[.slice cc aS.length cB]) Z Z Z Z ie Z Z Z Z yh (zA Z) Z Z Z ?_)))
 intro jv ow
 have ox:St aJ aY [bA,.blk aP 104 aK,.blk aO 104 aI,.obj az aN,.blk ay 78 B9,.blk b2 28 B0,B6,eX,.blk b8 124 [.slice ag p0.Starts.length ak,.slice ah p0.Splits.length am,.slice ai p0.Clocks.length an,.slice aj p0.Readings.length ao,.map (some af),.slice cc aS.length cB],.obj af (.map aU aT)] jv:=ow
 refine zc (ZA ?_)
 have q:=nE eE
 obtain rfl:=q
 exact ⟨_,_,(ox.pick [3,5,6,7,8,9] _ (by decide) rfl),rfl,⟨cc,cB,aU,aT,rfl,bW⟩⟩
 rintro iR dA qI jw dq oy
 rcases iS with ⟨iT,su⟩ | k3
 try dsimp only at it
 rintro ⟨dv,dF,cM,cC,rfl,mh⟩
 let dy:Res:=.blk b8 124 [.slice ag p0.Starts.length ak,.slice ah p0.Splits.length am,.slice ai p0.Clocks.length an,.slice aj p0.Readings.length ao,.map (some af),.slice dv iT.length dF]
 let dz:Res:=.row dv dF 130 7 (hD wAR iT)
 have ig:sW w U dA [.blk b2 28 B0,B6,dz,dy,.obj af (.map cM cC),.obj iR (.deferred (some []))] jw:=oy
 refine ZA (zI (sR fL2 Z (oL Z (ig.ldB (j:=1) Z Z ga yg (v:=.pointer (some ⟨b8,0,none⟩)) Z) (oA Z Z (eN (zU ?_))))))
 have mi:=eg.le dq
 have mj:=eh.le dq
 have ml:=ej.le dq
 have mm:=ek.le dq
 refine wLD (by first | exact .inl rfl | exact .inr rfl) (rbs:=[iR]) (L:=[.blk b2 28 B0,B6,dz,dy,.obj af (.map cM cC)]) ig fun jx oz=>?_
 have oB:sW w U dA [.blk b2 28 B0,B6,dz,dy,.obj af (.map cM cC)] jx:=oz
 cases it
 exact ⟨_,(ZV rfl),dA,_,(oB.pick [3,4,2] _ (by decide) rfl),b8,ag,ak,ah,am,ai,an,aj,ao,af,cM,cC,dv,dF,rfl,rfl,mi,mj,ml,mm,mh⟩
 exact k3.elim
end Go.Proofs.Ytlnfbjphfoipaaa
namespace Go.Proofs.Ytlnfbjphfoipaaa
open Go.KL
set_option maxHeartbeats 4000000
theorem wDr (p0:wAD) (ae:Option Addr) (ai:Nat) (af:Option Addr) (aj:Nat) (ag:Option Addr) (ak:Nat) (ah:Option Addr) (am:Nat) (w:World) (U:PHeap) (hS:St0 w U []) (aU:Sl U 1 ae ai p0.Starts.length (hD KL.encI p0.Starts)) (aV:Sl U 2 af aj p0.Splits.length (hD wAC p0.Splits)) (aW:Sl U 3 ag ak p0.Clocks.length (hD wAB p0.Clocks)) (aX:Sl U 4 ah am p0.Readings.length (hD wAA p0.Readings)) {r:(Option wAY) × Int} (hm:wBp p0=some r):Gv Try.prog 60 [.agg #[.slice ae p0.Starts.length ai,.slice af p0.Splits.length aj,.slice ag p0.Clocks.length ak,.slice ah p0.Readings.length am]] w (wBs w [] U (fun U_ L_ v=>match r.1 with | none=>v=.tuple #[.pointer none,jV r.2]/\L_=[] | some d=>∃ (b0:Nat) (A0p00:Option Addr) (c0p00:Nat) (A0p01:Option Addr) (c0p01:Nat) (A0p02:Option Addr) (c0p02:Nat) (A0p03:Option Addr) (c0p03:Nat) (m0p1:Nat) (es0p1:Array MapEntry) (ck0p1:Nat) (A0p2:Option Addr) (c0p2:Nat),v=.tuple #[.pointer (some ⟨b0,0,none⟩),jV r.2]/\L_=[.blk b0 124 [.slice A0p00 d.Race.Starts.length c0p00,.slice A0p01 d.Race.Splits.length c0p01,.slice A0p02 d.Race.Clocks.length c0p02,.slice A0p03 d.Race.Readings.length c0p03,.map (some m0p1),.slice A0p2 d.edges.length c0p2],.obj m0p1 (.map es0p1 ck0p1),.row A0p2 c0p2 130 7 (hD wAR d.edges)]/\Sl U_ 1 A0p00 c0p00 d.Race.Starts.length (hD KL.encI d.Race.Starts)/\Sl U_ 2 A0p01 c0p01 d.Race.Splits.length (hD wAC d.Race.Splits)/\Sl U_ 3 A0p02 c0p02 d.Race.Clocks.length (hD wAB d.Race.Clocks)/\Sl U_ 4 A0p03 c0p03 d.Race.Readings.length (hD wAA d.Race.Readings)/\MpR es0p1 wBC wBJ d.number)):=by
 unfold wBp at hm
 refine Gv.of Try.func60 Z Try.ntmps60 Try.results60 Z (sR gCg Z ?_)
 let B0:List Value:=[.slice ae p0.Starts.length ai,.slice af p0.Splits.length aj,.slice ag p0.Clocks.length ak,.slice ah p0.Readings.length am]
 refine zu (cs:=B0) rfl rfl rfl rfl rfl rfl (by rfl) hS ?_
 intro W1 b2 aT
 refine oA Z Z (oA Z Z (eN (zL (sR (.fl 0 gBm) Z (oL Z (aT.ldBA (j:=0) Z Z Z zg zW (vs:=B0) Z Z) (bnK hm fun x5 h6 bn=>zE 0 Z Z Z Z (zD Z Z Try.call68 (zB Z zM) Z) aT (fun hs=>wDq p0 ae ai af aj ag ak ah am W1 U hs aU aV aW aX h6) (.inr Z) ?_))))))
 rintro U8 L9 br aJ an bg ⟨rfl,rfl⟩
 have av:sW w U U8 [.blk b2 28 B0] aJ:=bg
 refine oA Z Z (eN (sR fL2 Z (oM Z Z (oR Z (Zg Z Z Z) (eN (ifc bn ?_ ?_))))))
 intro aq bj
 refine ZI (zt (fun h=>h aq.out)) (kN (sR (.fl 0 gBz) Z (oL Z (av.ldBA (j:=0) Z Z Z zg zW (vs:=B0) Z Z) ?_)))
 have a5:=aU.le an
 have a6:=aV.le an
 have a7:=aW.le an
 have a8:=aX.le an
 refine bnK bj fun ab a9 bk=>zE 0 Z Z Z Z (zD Z Z Try.call89 (zB Z zM) Z) av (fun hs=>wFM p0 ae ai af aj ag ak ah am aJ U8 hs a5 a6 a7 a8 a9) (.inr Z) ?_
 rintro aI bo bs aZ bq bh ⟨aM,ay,aN,az,aO,aG,aP,aH,aQ,ax,aS,aR,ao,au,rfl,rfl,ba,bb,bc,bd,be⟩
 have bi:sW w U aI [.blk aM 124 [.slice ay ab.Race.Starts.length aN,.slice az ab.Race.Splits.length aO,.slice aG ab.Race.Clocks.length aP,.slice aH ab.Race.Readings.length aQ,.map (some ax),.slice ao ab.edges.length au],.obj ax (.map aS aR),.row ao au 130 7 (hD wAR ab.edges),.blk b2 28 B0] aZ:=bh
 refine oA Z Z (oA Z Z (eN (zU ?_)))
 cases bk
 exact ⟨rfl,_,(wDm rfl rfl),aI,_,(bi.pick [0,1,2] _ (by decide) rfl),aM,ay,aN,az,aO,aG,aP,aH,aQ,ax,aS,aR,ao,au,rfl,rfl,ba,bb,bc,bd,be⟩
 intro aq bm
 refine cT Z aq (sR fL3 Z (oM Z Z (oA Z Z (oA Z Z (eN (zU (za ?_)))))))
 cases bm
 exact ⟨rfl,_,(wDm rfl rfl),U8,_,(av.pick [] _ (by decide) rfl),rfl,rfl⟩
theorem wDF (p0:List wAO) (an:Option Addr) (ao:Nat) (p1:(wAO->Option Bool)) (ap:Value) (w:World) (U:PHeap) (hS:St0 w U []) (a8:Sl U 2 an ao p0.length (hD wAU p0)) (a9:FnOK Try.prog U ap wLF wLG p1) {r:Bool} (hm:wAu p0 p1=some r):Gv Try.prog 85 [.slice an p0.length ao,ap] w (wBs w [] U (fun U_ L_ v=>v=.bool r/\L_=[])):=by
 unfold wAu at hm
 refine Gv.of Try.func85 Z Try.ntmps85 Try.results85 Z (sR fL1 Z (oA Z Z (eN (zL (sR fL3 Z (oM Z Z (oR Z (zw Z Z Zv) (oM Z Z (eN (zd ?_))))))))))
 have q:=wCB hm
 obtain ⟨r3,ai⟩:=q
 have q:=wCA ai
 obtain ⟨ak,bc⟩:=q
 replace ak:=zN ak
 refine yX (fun k2 _ σ_ w_=>∃ (U_:PHeap),σ_ 9=jV (↑k2:Int)/\σ_ 1=ap/\σ_ 7=.slice an p0.length ao/\σ_ 8=jV (↑p0.length:Int)/\PHeap.Le U U_/\sW w U U_ [] w_) bc ?_ ?_ ?_
 exact ⟨U,Z,Z,Z,Z,(zO _),hS⟩
 rintro k2 ⟨⟩ bz bB W8 aj ⟨aM,ah,av,ax,ay,am,aG⟩ aK ba
 try dsimp only at aK
 have au:Hid ((↑k2:Int) < (↑p0.length:Int)):=zN (wAs aj)
 replace aj:=zN aj
 have bd:Hid (w64 ((↑k2:Int) + 1)=(↑(k2 + 1):Int)):=zN (by have h1:=ak.out;have h2:=au.out;rw [wAW] <;> omega)
 refine sR fL1 Z (oR Z (zi Z ah ay) (eN (zL (cT Z au (kN (zL (zd (sR (.fl 0 (.fl 1 gBk)) Z (bnK aK fun ac az be=>?_)))))))))
 have aU:=a8.le am
 have q:=aU.el (fun _=>rfl) (wAj az)
 obtain ⟨bq,bu,aX,aY⟩:=q
 refine oR Z (Zh Z ax aX ah Zv ZZ (wCv az)) (oL Z (aG.ldCA (f:=0) aY Z Z Zr ZZ (us:=[jV ac.Skier,jV ac.Mat]) Z Z) (zR (cs:=[jV 0,jV 0]) Z Z Z Z Z Zy Z aG ?_))
 intro bn aq aZ
 let B0:List Value:=[jV ac.Skier,jV ac.Mat]
 refine zV (j:=0) (vs:=B0) Z Z Z Z aZ Z Z Z Z ZZ (zA Z) Z Z Z ?_
 intro aO a5
 have aH:sW w U aM [.blk aq 45 B0] aO:=a5
 refine eN (sR gCq Z (oM Z av (oL Z (aH.ldBA (j:=0) Z Z Z Zr ZZ (vs:=B0) Z Z) (bnK be fun bx aV bf=>?_))))
 have aW:=a9.le am
 refine OKS.callV (a:=ac) Z Z Z Z Z Z (zB Z zM) aH aW Z aV ?_
 rintro af bm bw aP bj a6 ⟨rfl,rfl⟩
 have aI:sW w U af [.blk aq 45 B0] aP:=a6
 refine oR Z (Zd Z Z) (eN (ifc bf ?_ ?_))
 intro ag bg
 refine ZI (nC ag.out) (Zp (ZA (zI (rR fL2 Z (oR Z (ZM (zb Z ah Z) (congrArg (jV) bd.out)) (oM Z Z (zc ?_)))))))
 have q:=nE bg
 obtain rfl:=q
 exact zI ⟨rfl,_,rfl,⟨af,rfl,av,ax,ay,(am.trans bj),(aI.pick [] _ (by decide) rfl)⟩⟩
 intro ag bh
 refine ZT (nF (ag.out)) (sR fL1 Z (oA Z Z (eN (zU (zx (za ?_))))))
 have q:=wAh bh
 obtain ⟨bk,bi,aR⟩:=q
 have q:=wBw hm ai (ba bk aR)
 obtain rfl:=q
 refine za (zx (za ?_))
 have hE:=nE bi;first | subst r | cases hE
 exact ⟨rfl,_,(ZV rfl),af,_,(aI.pick [] _ (by decide) rfl),rfl,rfl⟩
 rintro ⟨⟩ bA bo ⟨aN,aT,br,bs,aS,bt,a7⟩ bb
 have aJ:=wCx hm ai bb
 try dsimp only at aJ
 have aQ:Hid (¬ ((↑(((↑p0.length:Int):Int) - 0).toNat:Int) < (↑p0.length:Int))):=zN (wAc)
 refine sR fL1 Z (oR Z (zi Z aT aS) (eN (zL (cF Z aQ (Zc (zm (zm (ZY (zI (sR fL1 Z (oA Z Z (eN (zU ?_)))))))))))))
 have hE:=nE aJ;first | subst r | cases hE
 exact ⟨Z,_,(ZV Z),aN,_,a7,Z,Z⟩
theorem wGC (p0 p1:Int) (w:World) (U:PHeap) (hS:St0 w U []) {r:Int × Int} (hm:wDC p0 p1=some r):Gv Try.prog 107 [.int .u64 p0,.int .u64 p1] w (wBs w [] U (fun U_ L_ v=>v=.tuple #[.int .u64 r.1,.int .u64 r.2]/\L_=[])):=by
 unfold wDC at hm
 split at hm
 rename_i h
 cases hm
 obtain ⟨x,rfl⟩:=nI h.1
 obtain ⟨y,rfl⟩:=nI h.2.2.1
 refine (Go.Proofs.Try.bits_Mul x y (by omega) (by omega) w).mono ?_
 rintro e w' ⟨rfl,rfl⟩
 refine ⟨_,Z,U,[],hS,?_,Z⟩
 simp
 cases hm
theorem wAe (p0:List Int) (az:Option Addr) (aG:Nat) (p1:Int) (w:World) (U:PHeap) (hS:St0 w U []) (bB:Sl U 1 az aG p0.length (hD KL.encI p0)) {r:(List Int)} (hm:wAv p0 p1=some r):Gv Try.prog 88 [.slice az p0.length aG,jV p1] w (wBs w [] U (fun U_ L_ v=>∃ (A0:Option Addr) (c0:Nat),v=.slice A0 r.length c0/\L_=[.row A0 c0 3 1 (hD KL.encI r)])):=by
 unfold wAv at hm
 refine Gv.of Try.func88 Z Try.ntmps88 Try.results88 Z (sR fL1 Z (oA Z Z (eN (zL (sR fL2 Z (oM Z Z (oR Z (zi Z Z Z) (eN ?_))))))))
 by_cases c1:p1 < 0
 have aU:=hm;rw [if_pos c1] at aU;replace c1:=zN c1
 refine cT Z c1 (rR gBu Z ?_)
 cases aU
 have aX:=hm;rw [if_neg c1] at aX;replace c1:=zN c1
 refine cF Z c1 (kN (sR (wHI (.fx 5 (wMe (.nil)) .stop)) Z (oM Z Z (oR Z (zw Z Z zH) (oR Z (Runs.cv64 Z Z yb Try.runUnderlying177 Z Z) (oM Z Z (oR Z (Runs.cv64 Z Z yb Try.runUnderlying177 Z Z) ?_)))))))
 have q:=bnd aX
 obtain ⟨⟨x4,x5⟩,h6,aY⟩:=q
 try dsimp only at aY
 refine zE 0 Z Z Z Z (zD Z Z Try.call107 (zB Z (zB Z zM)) Z) hS (fun hs=>wGC (wKE (↑p0.length:Int)) (wKE p1) w U hs h6) (.inr Z) ?_
 rintro U8 L9 cb bc bS bu ⟨rfl,rfl⟩
 have aO:sW w U U8 [] bc:=bu
 refine oM Z Z (oR Z (zT Z Z (v:=.int .u64 x4) Z) (oR Z (zT Z Z (v:=.int .u64 x5) Z) (oA Z Z (oA Z Z (eN (zL (bnK aY fun bg a7 bJ=>yP (fun σ_ w_=>∃ (U_:PHeap),σ_ 0=.slice az p0.length aG/\σ_ 6=.int .u64 x5/\σ_ 26=.bool bg/\PHeap.Le U8 U_/\sW w U U_ [] w_) ?_ ?_)))))))
 refine rR fL6 Z (oM Z Z (oR Z (Runs.gtr Z Z Z) (oM Z Z ?_)))
 by_cases ac:0 < x4
 have aV:=a7;rw [if_pos ac] at aV;replace ac:=zN ac
 refine oT Z ac (oT Z ac (oR Z (zQ Z (Zk ac.out) Z) (zc ?_)))
 cases aV
 exact zI ⟨Z,⟨U8,Z,Z,Z,(zO _),aO⟩⟩
 have aW:=a7;rw [if_neg ac] at aW;replace ac:=zN ac
 refine zo Z Z Z (wF Z ac) Z Z (rU Z (wF Z ac) (Runs.gtr Z Z Z) (oR Z (ze Z (zt ac.out) Z) (zc ?_)))
 have q:=nE aW
 obtain rfl:=q
 exact zI ⟨Z,⟨U8,Z,Z,Z,(zO _),aO⟩⟩
 rintro cd bX ⟨am,bi,bj,aM,bT,bv⟩
 refine ifc bJ ?_ ?_
 intro au bK
 refine ZT (aM.trans (congrArg nJ au.out)) (rR gBu Z ?_)
 cases bK
 intro au bL
 refine ZI (aM.trans (congrArg nJ (nK.2 au.out))) (kN (sR gCq Z (oM Z bj (oR Z (Runs.cvw Z Z Try.runUnderlying177 yb Z Z) (bnK bL fun aa bk bM=>OKS.makeSlice (enc:=KL.encI) (z:=(0:Int)) (v:=jV 0) Z Z Z Z Z (wBh zH) wGx Z Z Z Z Z Z bk bv ?_)))))
 intro bd ab bw
 have aP:sW w U am [.row (some ⟨ab,0,none⟩) aa.length 3 1 (hD KL.encI aa)] bd:=bw
 refine oA Z Z (eN (sR gCq Z (oM Z Z (oM Z bi ?_))))
 have bm:=bB.le bS
 have bn:=bm.le bT
 refine bnK bM fun aH bo bN=>OKS.copyM (j:=0) (f:=KL.encI) (m:=aa) (ys:=p0) (z:=aH) (a:=0) (n:=aa.length) rfl rfl rfl rfl rfl rfl zH zC aP rfl (fun _=>rfl) (fun _=>rfl) rfl bo rfl (by simp) (.inr (by simp)) rfl (aP.srcS bn) rfl ?_
 intro be bx aS
 have bz:sW w U am [.row (some ⟨ab,0,none⟩) aa.length 3 1 (hD KL.encI aH)] be:=bx
 refine oA Z Z (eN (zL (zd (CK.iter (fun (ae,af) σ_ w_=>∃ (U_:PHeap),σ_ 7=.slice (some ⟨ab,0,none⟩) ae.length aa.length/\σ_ 8=jV af/\PHeap.Le am U_/\sW w U U_ [.row (some ⟨ab,0,none⟩) aa.length 3 1 (hD KL.encI ae)] w_/\ae.length=aa.length) bN ?_ ?_))))
 exact ⟨am,(Eq.trans (b:=(.slice (some ⟨ab,0,none⟩) aa.length aa.length:Value)) (c:=(.slice (some ⟨ab,0,none⟩) aH.length aa.length:Value)) rfl (by rw [aS])),rfl,(zO _),bz,aS⟩
 rintro ⟨ae,af⟩ cc cf aK ⟨aq,aj,ao,bU,aQ,bq⟩ ay bG
 try dsimp only at ay
 refine zL (sR fL4 Z (oM Z ao (oM Z aj (oR Z (zw Z Z zH) (oR Z (zi Z Z Z) (eN ?_))))))
 by_cases ah:af < (↑ae.length:Int)
 have aZ:=ay;rw [if_pos ah] at aZ;replace ah:=zN ah
 refine cT Z ah (kN (zd (ZG ZH [3,3,3,3,3,3,3,0,3,3] (wKa (.fx 7 (.fl 8 (.fl 9 .nil)) .stop)) (by kernel_rfl) ?_)))
 have ak:=aQ.drew
 generalize hw_W76:({ aK with drawn:=aK.drawn + 1 }:World)=bY at ak ⊢
 refine oM Z ao (oM Z aj (oM Z ao (bnK aZ fun ba br bO=>?_)))
 have q:=wHV br
 obtain ⟨bC,bE,av,bZ,ax⟩:=q
 have a5:=ak.rowCap (j:=0) rfl (by decide) (wAE (f:=KL.encI) (sz:=1) (fun _=>rfl) ae)
 refine zY (v:=.slice (if aa.length=(af:Int).toNat then (some ⟨ab,0,none⟩) else Option.map (fun q:Addr=>q.add ((af:Int).toNat * 1)) ((some ⟨ab,0,none⟩):Option Addr)) ba.length (aa.length - (af:Int).toNat)) rfl rfl rfl rfl (fun _=>ZM (Runs.slc (sz:=1) (a:=af) (b:=(↑(ae.length):Int)) rfl rfl (.inl ⟨_,rfl,rfl⟩) (.inr ⟨rfl,rfl⟩) zH zC bC bE av a5) (by rw [ax])) (zo rfl rfl rfl rfl rfl aj (zo rfl rfl rfl rfl rfl ao (bnK bO fun bb aN bP=>?_)))
 have q:=wHV aN
 obtain ⟨bD,bF,bH,ca,bR⟩:=q
 have a6:=ak.rowCap (j:=0) rfl (by decide) (wAE (f:=KL.encI) (sz:=1) (fun _=>rfl) ae)
 refine zY (v:=.slice (if aa.length=(0:Int).toNat then (some ⟨ab,0,none⟩) else Option.map (fun q:Addr=>q.add ((0:Int).toNat * 1)) ((some ⟨ab,0,none⟩):Option Addr)) bb.length (aa.length - (0:Int).toNat)) rfl rfl rfl rfl (fun _=>ZM (Runs.slc (sz:=1) (a:=0) (b:=af) rfl rfl (.inr ⟨rfl,rfl⟩) (.inl ⟨_,rfl,rfl⟩) zH zC bD bF bH a6) (by rw [bR])) (bnK bP fun aI bs bQ=>OKS.copyM (j:=0) (f:=KL.encI) (m:=ae) (ys:=bb) (z:=aI) (a:=af) (n:=ba.length) rfl rfl rfl rfl rfl rfl zH zC ak rfl (fun _=>rfl) (fun _=>rfl) rfl bs rfl (by have:=ax;have:=av;omega) (cutA rfl (by have:=ax;have:=av;have:=a5;omega)) rfl (ak.srcCut (f:=KL.encI) (j:=0) rfl (fun _=>rfl) rfl aN a6) rfl ?_)
 intro bf bA aR
 have bt:sW w U aq [.row (some ⟨ab,0,none⟩) aa.length 3 1 (hD KL.encI aI)] bf:=bA
 refine oR Z (zb Z Z Z) (oA Z Z (zc (ZA ?_)))
 have q:=nE bQ
 obtain rfl:=q
 exact zI ⟨rfl,_,rfl,⟨aq,(Eq.trans (b:=(.slice (some ⟨ab,0,none⟩) ae.length aa.length:Value)) (c:=(.slice (some ⟨ab,0,none⟩) aI.length aa.length:Value)) aj (by rw [aR])),rfl,bU,bt,(aR.trans bq)⟩⟩
 have aT:=ay;rw [if_neg ah] at aT;replace ah:=zN ah
 refine cF Z ah (Zc (zm ?_))
 have q:=wAh aT
 obtain ⟨bV,bI,bh⟩:=q
 have q:=bG bV bh
 obtain rfl:=q
 refine zm (ZY (zI (sR fL2 Z (oM Z aj (oA Z Z (eN (zU ?_)))))))
 have hE:=nE bI;first | subst r | cases hE
 exact ⟨Z,_,(ZV Z),aq,_,aQ,(some ⟨ab,0,none⟩),aa.length,Z,Z⟩
theorem wBM (p0:wAY) (ag:Nat) (c6:Option Addr) (de:Nat) (da:Option Addr) (df:Nat) (db:Option Addr) (dg:Nat) (dd:Option Addr) (dh:Nat) (aa:Nat) (ac:Array MapEntry) (ae:Nat) (aY:Option Addr) (aZ:Nat) (p1:Int) (p2:Bool) (w:World) (U:PHeap) (hS:St0 w U [.blk ag 124 [.slice c6 p0.Race.Starts.length de,.slice da p0.Race.Splits.length df,.slice db p0.Race.Clocks.length dg,.slice dd p0.Race.Readings.length dh,.map (some aa),.slice aY p0.edges.length aZ],.obj aa (.map ac ae)]) (wS:Sl U 1 c6 de p0.Race.Starts.length (hD KL.encI p0.Race.Starts)) (wU:Sl U 2 da df p0.Race.Splits.length (hD wAC p0.Race.Splits)) (wV:Sl U 3 db dg p0.Race.Clocks.length (hD wAB p0.Race.Clocks)) (wW:Sl U 4 dd dh p0.Race.Readings.length (hD wAA p0.Race.Readings)) (co:MpR ac wBC wBJ p0.number) (ub:Sl U 7 aY aZ p0.edges.length (hD wAR p0.edges)) {r:wCy × Int × Bool} (hm:wAb p0 p1 p2=some r):Gv Try.prog 57 [.pointer (some ⟨ag,0,none⟩),jV p1,.bool p2] w (wBs w [.blk ag 124 [.slice c6 p0.Race.Starts.length de,.slice da p0.Race.Splits.length df,.slice db p0.Race.Clocks.length dg,.slice dd p0.Race.Readings.length dh,.map (some aa),.slice aY p0.edges.length aZ],.obj aa (.map ac ae)] U (fun U_ L_ v=>∃ (fC:Option Addr) (gX:Nat) (fD:Option Addr) (gY:Nat),v=.tuple #[.agg #[.slice fC r.1.far.length gX,.slice fD r.1.by_.length gY],jV r.2.1,.bool r.2.2]/\L_=[.row fC gX 3 1 (hD KL.encI r.1.far),.row fD gY 3 1 (hD KL.encI r.1.by_),.blk ag 124 [.slice c6 p0.Race.Starts.length de,.slice da p0.Race.Splits.length df,.slice db p0.Race.Clocks.length dg,.slice dd p0.Race.Readings.length dh,.map (some aa),.slice aY p0.edges.length aZ],.obj aa (.map ac ae)])):=by
 unfold wAb at hm
 refine Gv.of Try.func57 Z Try.ntmps57 Try.results57 Z (sR gCg Z ?_)
 let B0:List Value:=[.slice none 0 0,.slice none 0 0]
 refine zR (cs:=B0) Z Z Z Z Z Zl Z hS ?_
 intro W3 b4 tz
 refine oA Z Z (oA Z Z (eN ?_))
 have q:=bnd hm
 obtain ⟨⟨l9,a9⟩,u9,k6⟩:=q
 try dsimp only at k6
 let B1:Res:=.blk ag 124 [.slice c6 p0.Race.Starts.length de,.slice da p0.Race.Splits.length df,.slice db p0.Race.Clocks.length dg,.slice dd p0.Race.Readings.length dh,.map (some aa),.slice aY p0.edges.length aZ]
 refine yP (fun σ_ w_=>∃ (U_:PHeap) (b8:Nat) (am:Option Addr) (an:Nat) (ao:Option Addr) (ap:Nat),σ_ 0=.pointer (some ⟨ag,0,none⟩)/\σ_ 1=jV p1/\σ_ 2=.bool p2/\σ_ 6=.pointer (some ⟨b4,0,none⟩)/\σ_ 9=.pointer (some ⟨b8,0,none⟩)/\PHeap.Le U U_/\SW w [B1,.obj aa (.map ac ae)] U U_ [.blk b4 118 B0,B1,.obj aa (.map ac ae),.blk b8 118 [.slice am l9.length an,.slice ao a9.length ap],.row am an 3 1 (hD KL.encI l9),.row ao ap 3 1 (hD KL.encI a9)] w_) ?_ ?_
 refine bnK u9 fun aq dV u3=>bnK u3 fun aJ dW u4=>ZG ZH [2,3,3,3,1,1,2,2,3,3,3,1,1,2,3,2,0] (fC1_5 (wHk (.fx 0 (.fx 6 (.fl 12 (.fx 7 gCx (.fx 15 gCr .stop))) (.fx 7 gDi (.fx 15 gDj .stop))) (.fx 7 (.fx 0 gDi (.fx 15 gDc .stop)) (.fx 15 (.fx 0 gDj (.fx 7 gDc .stop)) .stop))))) (by kernel_rfl) ?_
 have bH:=tz.drew
 generalize hw_W74:({ W3 with drawn:=W3.drawn + 1 }:World)=wg at bH ⊢
 refine ZS (s:=.nil) (M:=fun σ_ w_=>∃ (U_:PHeap) (dE:Nat) (bK:Option Addr) (bX:Nat) (bL:Option Addr) (bY:Nat) (d9:Option Addr) (eA:Nat) (ec:Option Addr) (eB:Nat),σ_ 0=.pointer (some ⟨ag,0,none⟩)/\σ_ 1=jV p1/\σ_ 2=.bool p2/\σ_ 6=.pointer (some ⟨b4,0,none⟩)/\σ_ 9=.pointer (some ⟨dE,0,none⟩)/\σ_ 16=.slice d9 ([1125899906842624].length) eA/\σ_ 17=.pointer (some ⟨ag,0,none⟩)/\σ_ 18=.pointer (some ⟨ag,0,none⟩)/\σ_ 19=.pointer (some ⟨ag,4,none⟩)/\σ_ 20=.map (some aa)/\σ_ 21=jV (↑(p0.number.length):Int)/\σ_ 22=.slice bK aq.length bX/\σ_ 23=.slice ec ([-1].length) eB/\σ_ 24=.pointer (some ⟨ag,0,none⟩)/\σ_ 25=.pointer (some ⟨ag,0,none⟩)/\σ_ 26=.pointer (some ⟨ag,4,none⟩)/\σ_ 27=.map (some aa)/\σ_ 28=jV (↑(p0.number.length):Int)/\σ_ 29=.slice bL aJ.length bY/\σ_ 30=.agg #[.slice bK aq.length bX,.slice bL aJ.length bY]/\PHeap.Le U U_/\SW w [B1,.obj aa (.map ac ae)] U U_ [.blk b4 118 B0,B1,.obj aa (.map ac ae),.blk dE 118 [.slice bK aq.length bX,.slice bL aJ.length bY],.row bK bX 3 1 (hD KL.encI aq),.row bL bY 3 1 (hD KL.encI aJ)] w_/\Sl U_ 1 d9 eA [1125899906842624].length (hD KL.encI [1125899906842624])/\Sl U_ 1 ec eB [-1].length (hD KL.encI [-1])) ?_ fun lm=>?_
 rintro xu wa ⟨lQ,dE,bK,bX,bL,bY,d9,eA,ec,eB,oo,oq,ot,ou,ov,wy,wz,wA,wB,wC,wD,wE,wG,wH,wI,wJ,wK,wL,wM,wN,vl,tw,wQ,wR⟩
 refine zc ?_
 cases u4
 exact zI ⟨Z,⟨lQ,dE,bK,bX,bL,bY,oo,oq,ot,ou,ov,vl,tw⟩⟩
 refine ZS (s:=.fx 16 .nil .stop) (M:=fun σ_ w_=>∃ (U_:PHeap) (cG:Nat) (dk:Option Addr) (dG:Nat) (bn:Option Addr) (bx:Nat) (dl:Option Addr) (dH:Nat) (bo:Option Addr) (bz:Nat),σ_ 0=.pointer (some ⟨ag,0,none⟩)/\σ_ 1=jV p1/\σ_ 2=.bool p2/\σ_ 6=.pointer (some ⟨b4,0,none⟩)/\σ_ 9=.pointer (some ⟨cG,0,none⟩)/\σ_ 16=.slice dk ([1125899906842624].length) dG/\σ_ 17=.pointer (some ⟨ag,0,none⟩)/\σ_ 18=.pointer (some ⟨ag,0,none⟩)/\σ_ 19=.pointer (some ⟨ag,4,none⟩)/\σ_ 20=.map (some aa)/\σ_ 21=jV (↑(p0.number.length):Int)/\σ_ 22=.slice bn aq.length bx/\σ_ 23=.slice dl ([-1].length) dH/\σ_ 24=.pointer (some ⟨ag,0,none⟩)/\σ_ 25=.pointer (some ⟨ag,0,none⟩)/\σ_ 26=.pointer (some ⟨ag,4,none⟩)/\σ_ 27=.map (some aa)/\σ_ 28=jV (↑(p0.number.length):Int)/\σ_ 29=.slice bo aJ.length bz/\σ_ 30=.agg #[.slice bn aq.length bx,.slice bo aJ.length bz]/\PHeap.Le U U_/\SW w [B1,.obj aa (.map ac ae)] U U_ [.blk b4 118 B0,B1,.obj aa (.map ac ae),.blk cG 118 B0,.row bn bx 3 1 (hD KL.encI aq),.row bo bz 3 1 (hD KL.encI aJ)] w_/\Sl U_ 1 dk dG [1125899906842624].length (hD KL.encI [1125899906842624])/\Sl U_ 1 dl dH [-1].length (hD KL.encI [-1])) ?_ fun va=>?_
 rintro xv wb ⟨f9,cG,dk,dG,bn,bx,dl,dH,bo,bz,ow,ox,oy,oz,iW,oB,oC,oD,oE,oG,oH,oI,oJ,oK,oO,oP,oQ,oS,oU,iX,vm,tx,rD,rE⟩
 let B2:List Value:=[.slice bn aq.length bx,.slice bo aJ.length bz]
 refine zV (j:=3) (vs:=B2) Z Z Z Z tx Z iW iX Z yE (zA Z) Z Z Z ?_
 intro ma tA
 have tB:SW w [B1,.obj aa (.map ac ae)] U f9 [.blk b4 118 B0,B1,.obj aa (.map ac ae),.blk cG 118 B2,.row bn bx 3 1 (hD KL.encI aq),.row bo bz 3 1 (hD KL.encI aJ)] ma:=tA
 exact lm _ _ ⟨f9,cG,bn,bx,bo,bz,dk,dG,dl,dH,ow,ox,oy,oz,iW,oB,oC,oD,oE,oG,oH,oI,oJ,oK,oO,oP,oQ,oS,oU,iX,vm,tB,rD,rE⟩
 refine ZS (s:=gBv) (M:=fun σ_ w_=>∃ (U_:PHeap) (cH:Nat) (dm:Option Addr) (dI:Nat) (bp:Option Addr) (bA:Nat) (dq:Option Addr) (dJ:Nat) (bq:Option Addr) (bB:Nat),σ_ 0=.pointer (some ⟨ag,0,none⟩)/\σ_ 1=jV p1/\σ_ 2=.bool p2/\σ_ 6=.pointer (some ⟨b4,0,none⟩)/\σ_ 9=.pointer (some ⟨cH,0,none⟩)/\σ_ 16=.slice dm ([1125899906842624].length) dI/\σ_ 17=.pointer (some ⟨ag,0,none⟩)/\σ_ 18=.pointer (some ⟨ag,0,none⟩)/\σ_ 19=.pointer (some ⟨ag,4,none⟩)/\σ_ 20=.map (some aa)/\σ_ 21=jV (↑(p0.number.length):Int)/\σ_ 22=.slice bp aq.length bA/\σ_ 23=.slice dq ([-1].length) dJ/\σ_ 24=.pointer (some ⟨ag,0,none⟩)/\σ_ 25=.pointer (some ⟨ag,0,none⟩)/\σ_ 26=.pointer (some ⟨ag,4,none⟩)/\σ_ 27=.map (some aa)/\σ_ 28=jV (↑(p0.number.length):Int)/\σ_ 29=.slice bq aJ.length bB/\PHeap.Le U U_/\SW w [B1,.obj aa (.map ac ae)] U U_ [.blk b4 118 B0,B1,.obj aa (.map ac ae),.blk cH 118 B0,.row bp bA 3 1 (hD KL.encI aq),.row bq bB 3 1 (hD KL.encI aJ)] w_/\Sl U_ 1 dm dI [1125899906842624].length (hD KL.encI [1125899906842624])/\Sl U_ 1 dq dJ [-1].length (hD KL.encI [-1])) ?_ fun ln=>?_
 rintro xw wc ⟨ga,cH,dm,dI,bp,bA,dq,dJ,bq,bB,oV,oW,oX,oY,iY,oZ,o0,o3,o5,o6,o7,iZ,o8,o9,pd,pe,pf,pg,i2,vn,tC,rF,rG⟩
 let B3:List Value:=[.slice bp aq.length bA,.slice bq aJ.length bB]
 refine oR Z (zl (pv:=[(0,.slice bp aq.length bA),(1,.slice bq aJ.length bB)]) (z:=B0) (cs:=B3) Z (wAH iZ (wAH i2 wAP)) Zl wHW Z Z) (zV (j:=3) (vs:=B3) Z Z Z Z tC Z iY Z Z yE (zA Z) Z Z Z ?_)
 intro mb tD
 have tE:SW w [B1,.obj aa (.map ac ae)] U ga [.blk b4 118 B0,B1,.obj aa (.map ac ae),.blk cH 118 B3,.row bp bA 3 1 (hD KL.encI aq),.row bq bB 3 1 (hD KL.encI aJ)] mb:=tD
 exact lm _ _ ⟨ga,cH,bp,bA,bq,bB,dm,dI,dq,dJ,oV,oW,oX,oY,iY,oZ,o0,o3,o5,o6,o7,iZ,o8,o9,pd,pe,pf,pg,i2,Z,vn,tE,rF,rG⟩
 refine ZS (s:=gCi) (M:=fun σ_ w_=>∃ (U_:PHeap) (bS:Nat) (dr:Option Addr) (dK:Nat) (cq:Option Addr) (cK:Nat) (cr:Option Addr) (cL:Nat),σ_ 0=.pointer (some ⟨ag,0,none⟩)/\σ_ 1=jV p1/\σ_ 2=.bool p2/\σ_ 6=.pointer (some ⟨b4,0,none⟩)/\σ_ 9=.pointer (some ⟨bS,0,none⟩)/\σ_ 16=.slice dr ([1125899906842624].length) dK/\σ_ 17=.pointer (some ⟨ag,0,none⟩)/\σ_ 18=.pointer (some ⟨ag,0,none⟩)/\σ_ 19=.pointer (some ⟨ag,4,none⟩)/\σ_ 20=.map (some aa)/\σ_ 21=jV (↑(p0.number.length):Int)/\σ_ 22=.slice cq aq.length cK/\σ_ 23=.slice cr ([-1].length) cL/\σ_ 24=.pointer (some ⟨ag,0,none⟩)/\σ_ 25=.pointer (some ⟨ag,0,none⟩)/\σ_ 26=.pointer (some ⟨ag,4,none⟩)/\σ_ 27=.map (some aa)/\σ_ 28=jV (↑(p0.number.length):Int)/\PHeap.Le U U_/\SW w [B1,.obj aa (.map ac ae)] U U_ [.blk b4 118 B0,B1,.obj aa (.map ac ae),.blk bS 118 B0,.row cq cK 3 1 (hD KL.encI aq),.row cr cL 3 1 (hD KL.encI [-1])] w_/\Sl U_ 1 dr dK [1125899906842624].length (hD KL.encI [1125899906842624])) ?_ fun dY=>?_
 rintro xx gJ ⟨vI,bS,dr,dK,cq,cK,cr,cL,ph,pj,pk,pm,pn,po,pp,pq,pu,py,pz,pB,i3,pC,pD,pE,pF,i4,vo,tF,rH⟩
 have q:=tF.freezeR (k:=5) (n:=[-1].length) rfl (wAE (f:=KL.encI) (sz:=1) (fun _=>rfl) [-1]) (by decide)
 obtain ⟨gb,lA,lb,tG⟩:=q
 let B4:Res:=.row cq cK 3 1 (hD KL.encI aq)
 have tH:SW w [B1,.obj aa (.map ac ae)] U gb [.blk b4 118 B0,B1,.obj aa (.map ac ae),.blk bS 118 B0,B4] gJ:=tG
 refine zE 0 Z Z Z Z (zD Z Z Try.call88 (zB i3 (zB i4 zM)) Z) tH (fun hs=>wAe [-1] cr cL (↑(p0.number.length):Int) gJ gb hs lb dW) (.inr Z) ?_
 rintro ge vE w9 mc fz tI ⟨fI,ic,rfl,rfl⟩
 have tJ:SW w [B1,.obj aa (.map ac ae)] U ge [.row fI ic 3 1 (hD KL.encI aJ),.blk b4 118 B0,B1,.obj aa (.map ac ae),.blk bS 118 B0,B4] mc:=tI
 have rI:=rH.le lA
 have rJ:=rI.le fz
 have rK:=lb.le fz
 exact ln _ _ ⟨ge,bS,dr,dK,cq,cK,cr,cL,fI,ic,ph,pj,pk,pm,pn,po,pp,pq,pu,py,pz,pB,i3,pC,pD,pE,pF,i4,rfl,((vo.trans lA).trans fz),(tJ.pick [1,2,3,4,5,0] _ (by decide) rfl),rJ,rK⟩
 refine ZS (s:=gCh) (M:=fun σ_ w_=>∃ (U_:PHeap) (dt:Option Addr) (dL:Nat) (bM:Option Addr) (bZ:Nat) (du:Option Addr) (dM:Nat) (bN:Option Addr) (ca:Nat),σ_ 0=.pointer (some ⟨ag,0,none⟩)/\σ_ 1=jV p1/\σ_ 2=.bool p2/\σ_ 6=.pointer (some ⟨b4,0,none⟩)/\σ_ 16=.slice dt ([1125899906842624].length) dL/\σ_ 17=.pointer (some ⟨ag,0,none⟩)/\σ_ 18=.pointer (some ⟨ag,0,none⟩)/\σ_ 19=.pointer (some ⟨ag,4,none⟩)/\σ_ 20=.map (some aa)/\σ_ 21=jV (↑(p0.number.length):Int)/\σ_ 22=.slice bM aq.length bZ/\σ_ 23=.slice du ([-1].length) dM/\σ_ 24=.pointer (some ⟨ag,0,none⟩)/\σ_ 25=.pointer (some ⟨ag,0,none⟩)/\σ_ 26=.pointer (some ⟨ag,4,none⟩)/\σ_ 27=.map (some aa)/\σ_ 28=jV (↑(p0.number.length):Int)/\σ_ 29=.slice bN aJ.length ca/\PHeap.Le U U_/\SW w [B1,.obj aa (.map ac ae)] U U_ [.blk b4 118 B0,B1,.obj aa (.map ac ae),.row bM bZ 3 1 (hD KL.encI aq),.row bN ca 3 1 (hD KL.encI aJ)] w_/\Sl U_ 1 dt dL [1125899906842624].length (hD KL.encI [1125899906842624])/\Sl U_ 1 du dM [-1].length (hD KL.encI [-1])) ?_ fun lp=>?_
 rintro xz wd ⟨lR,dt,dL,bM,bZ,du,dM,bN,ca,pG,pH,pI,pJ,pK,pL,pM,pN,pO,pP,i5,pQ,pR,pS,pT,pU,pV,i6,vp,tK,rL,rM⟩
 refine oR Z (zl (pv:=[(0,.slice bM aq.length bZ),(1,.slice bN aJ.length ca)]) (z:=B0) (cs:=[.slice bM aq.length bZ,.slice bN aJ.length ca]) Z (wAH i5 (wAH i6 wAP)) Zl wHW Z Z) (zR (cs:=B0) Z Z Z Z Z Zl Z tK ?_)
 intro we mn tL
 exact va _ _ ⟨lR,mn,dt,dL,bM,bZ,du,dM,bN,ca,pG,pH,pI,pJ,rfl,pK,pL,pM,pN,pO,pP,i5,pQ,pR,pS,pT,pU,pV,i6,rfl,vp,(tL.pick [1,2,3,0,4,5] _ (by decide) rfl),rL,rM⟩
 refine ZS (s:=.fl 12 gCi) (M:=fun σ_ w_=>∃ (U_:PHeap) (bT:Nat) (dv:Option Addr) (dN:Nat) (ct:Option Addr) (cM:Nat) (cu:Option Addr) (cN:Nat),σ_ 0=.pointer (some ⟨ag,0,none⟩)/\σ_ 1=jV p1/\σ_ 2=.bool p2/\σ_ 6=.pointer (some ⟨b4,0,none⟩)/\σ_ 9=.pointer (some ⟨bT,0,none⟩)/\σ_ 16=.slice dv ([1125899906842624].length) dN/\σ_ 17=.pointer (some ⟨ag,0,none⟩)/\σ_ 18=.pointer (some ⟨ag,0,none⟩)/\σ_ 19=.pointer (some ⟨ag,4,none⟩)/\σ_ 20=.map (some aa)/\σ_ 21=jV (↑(p0.number.length):Int)/\σ_ 22=.slice ct aq.length cM/\σ_ 23=.slice cu ([-1].length) cN/\σ_ 24=.pointer (some ⟨ag,0,none⟩)/\σ_ 25=.pointer (some ⟨ag,0,none⟩)/\σ_ 26=.pointer (some ⟨ag,4,none⟩)/\σ_ 27=.map (some aa)/\PHeap.Le U U_/\SW w [B1,.obj aa (.map ac ae)] U U_ [.blk b4 118 B0,B1,.obj aa (.map ac ae),.blk bT 118 B0,.row ct cM 3 1 (hD KL.encI aq),.row cu cN 3 1 (hD KL.encI [-1])] w_/\Sl U_ 1 dv dN [1125899906842624].length (hD KL.encI [1125899906842624])) ?_ fun vb=>?_
 rintro xA gK ⟨vJ,bT,dv,dN,ct,cM,cu,cN,pW,pX,pY,pZ,p4,p5,p6,p7,p8,p9,qa,qb,i7,qc,qd,qe,i8,vq,j1,rO⟩
 refine oL Z (j1.lenM (j:=2) (mk:=wBC) (mv:=wBJ) Z Z i8 (wBh ZQ) co) ?_
 have q:=j1.freezeR (k:=5) (n:=[-1].length) rfl (wAE (f:=KL.encI) (sz:=1) (fun _=>rfl) [-1]) (by decide)
 obtain ⟨gf,lB,lc,tM⟩:=q
 let B5:Res:=.row ct cM 3 1 (hD KL.encI aq)
 have tN:SW w [B1,.obj aa (.map ac ae)] U gf [.blk b4 118 B0,B1,.obj aa (.map ac ae),.blk bT 118 B0,B5] gK:=tM
 refine zE 0 Z Z Z Z (zD Z Z Try.call88 (zB i7 (zB Z zM)) Z) tN (fun hs=>wAe [-1] cu cN (↑(p0.number.length):Int) gK gf hs lc dW) (.inr Z) ?_
 rintro gg vF xa md fA tO ⟨fJ,ie,rfl,rfl⟩
 have tP:SW w [B1,.obj aa (.map ac ae)] U gg [.row fJ ie 3 1 (hD KL.encI aJ),.blk b4 118 B0,B1,.obj aa (.map ac ae),.blk bT 118 B0,B5] md:=tO
 have rP:=rO.le lB
 have rQ:=rP.le fA
 have rS:=lc.le fA
 exact ln _ _ ⟨gg,bT,dv,dN,ct,cM,cu,cN,fJ,ie,pW,pX,pY,pZ,p4,p5,p6,p7,p8,p9,qa,qb,i7,qc,qd,qe,i8,rfl,rfl,((vq.trans lB).trans fA),(tP.pick [1,2,3,4,5,0] _ (by decide) rfl),rQ,rS⟩
 refine ZS (s:=.fl 12 gCr) (M:=fun σ_ w_=>∃ (U_:PHeap) (cI:Nat) (dw:Option Addr) (dO:Nat) (cw:Option Addr) (cO:Nat),σ_ 0=.pointer (some ⟨ag,0,none⟩)/\σ_ 1=jV p1/\σ_ 2=.bool p2/\σ_ 6=.pointer (some ⟨b4,0,none⟩)/\σ_ 9=.pointer (some ⟨cI,0,none⟩)/\σ_ 16=.slice dw ([1125899906842624].length) dO/\σ_ 17=.pointer (some ⟨ag,0,none⟩)/\σ_ 18=.pointer (some ⟨ag,0,none⟩)/\σ_ 19=.pointer (some ⟨ag,4,none⟩)/\σ_ 20=.map (some aa)/\σ_ 21=jV (↑(p0.number.length):Int)/\σ_ 22=.slice cw aq.length cO/\σ_ 24=.pointer (some ⟨ag,0,none⟩)/\σ_ 25=.pointer (some ⟨ag,0,none⟩)/\σ_ 26=.pointer (some ⟨ag,4,none⟩)/\σ_ 27=.map (some aa)/\PHeap.Le U U_/\SW w [B1,.obj aa (.map ac ae)] U U_ [.blk b4 118 B0,B1,.obj aa (.map ac ae),.blk cI 118 B0,.row cw cO 3 1 (hD KL.encI aq)] w_/\Sl U_ 1 dw dO [1125899906842624].length (hD KL.encI [1125899906842624])) ?_ fun vc=>?_
 rintro xB wh ⟨gh,cI,dw,dO,cw,cO,qf,qh,qi,qj,qk,qm,qn,qo,qp,qq,qr,qs,qt,qu,qv,i9,vr,j2,rT⟩
 refine oL Z (j2.lenM (j:=2) (mk:=wBC) (mv:=wBJ) Z Z i9 (wBh ZQ) co) (zq (pv:=[(0,jV (-1))]) (zs:=[jV 0]) (cs:=[jV (-1)]) Z Z Z Z Z (wAH Z wAP) zH zC ZB Z Z Z Z Z j2 ?_)
 intro me gV tQ
 have tR:SW w [B1,.obj aa (.map ac ae)] U gh [.row (some ⟨gV,0,none⟩) 1 3 1 (hD KL.encI [-1]),.blk b4 118 B0,B1,.obj aa (.map ac ae),.blk cI 118 B0,.row cw cO 3 1 (hD KL.encI aq)] me:=tQ
 exact dY _ _ ⟨gh,cI,dw,dO,cw,cO,(some ⟨gV,0,none⟩),1,qf,qh,qi,qj,qk,qm,qn,qo,qp,qq,qr,qs,rfl,qt,qu,qv,i9,rfl,vr,(tR.pick [1,2,3,4,5,0] _ (by decide) rfl),rT⟩
 refine ZS (s:=gCy) (M:=fun σ_ w_=>∃ (U_:PHeap) (bU:Nat) (cx:Option Addr) (cP:Nat) (cy:Option Addr) (cQ:Nat),σ_ 0=.pointer (some ⟨ag,0,none⟩)/\σ_ 1=jV p1/\σ_ 2=.bool p2/\σ_ 6=.pointer (some ⟨b4,0,none⟩)/\σ_ 9=.pointer (some ⟨bU,0,none⟩)/\σ_ 16=.slice cx ([1125899906842624].length) cP/\σ_ 17=.pointer (some ⟨ag,0,none⟩)/\σ_ 18=.pointer (some ⟨ag,0,none⟩)/\σ_ 19=.pointer (some ⟨ag,4,none⟩)/\σ_ 20=.map (some aa)/\σ_ 21=jV (↑(p0.number.length):Int)/\σ_ 23=.slice cy ([-1].length) cQ/\σ_ 24=.pointer (some ⟨ag,0,none⟩)/\σ_ 25=.pointer (some ⟨ag,0,none⟩)/\σ_ 26=.pointer (some ⟨ag,4,none⟩)/\σ_ 27=.map (some aa)/\PHeap.Le U U_/\SW w [B1,.obj aa (.map ac ae)] U U_ [.blk b4 118 B0,B1,.obj aa (.map ac ae),.blk bU 118 B0,.row cx cP 3 1 (hD KL.encI [1125899906842624]),.row cy cQ 3 1 (hD KL.encI [-1])] w_) ?_ fun fm=>?_
 rintro xC gL ⟨vK,bU,cx,cP,cy,cQ,qw,qx,qy,qz,qA,ja,qB,qC,qD,qE,jb,qF,qG,qH,qI,qJ,vt,tS⟩
 have q:=tS.freezeR (k:=4) (n:=[1125899906842624].length) rfl (wAE (f:=KL.encI) (sz:=1) (fun _=>rfl) [1125899906842624]) (by decide)
 obtain ⟨gi,vu,lf,tT⟩:=q
 let B6:Res:=.row cy cQ 3 1 (hD KL.encI [-1])
 have tU:SW w [B1,.obj aa (.map ac ae)] U gi [.blk b4 118 B0,B1,.obj aa (.map ac ae),.blk bU 118 B0,B6] gL:=tT
 refine zE 0 Z Z Z Z (zD Z Z Try.call88 (zB ja (zB jb zM)) Z) tU (fun hs=>wAe [1125899906842624] cx cP (↑(p0.number.length):Int) gL gi hs lf dV) (.inr Z) ?_
 rintro gj vG xb mf lC tV ⟨fK,ig,rfl,rfl⟩
 have tW:SW w [B1,.obj aa (.map ac ae)] U gj [.row fK ig 3 1 (hD KL.encI aq),.blk b4 118 B0,B1,.obj aa (.map ac ae),.blk bU 118 B0,B6] mf:=tV
 have rV:=lf.le lC
 exact vb _ _ ⟨gj,bU,cx,cP,fK,ig,cy,cQ,qw,qx,qy,qz,qA,ja,qB,qC,qD,qE,jb,rfl,qF,qG,qH,qI,qJ,((vt.trans vu).trans lC),(tW.pick [1,2,3,4,0,5] _ (by decide) rfl),rV⟩
 refine ZS (s:=.fl 12 gCx) (M:=fun σ_ w_=>∃ (U_:PHeap) (cz:Option Addr) (cR:Nat) (bO:Option Addr) (cb:Nat) (bP:Option Addr) (cc:Nat),σ_ 0=.pointer (some ⟨ag,0,none⟩)/\σ_ 1=jV p1/\σ_ 2=.bool p2/\σ_ 6=.pointer (some ⟨b4,0,none⟩)/\σ_ 16=.slice cz ([1125899906842624].length) cR/\σ_ 17=.pointer (some ⟨ag,0,none⟩)/\σ_ 18=.pointer (some ⟨ag,0,none⟩)/\σ_ 19=.pointer (some ⟨ag,4,none⟩)/\σ_ 20=.map (some aa)/\σ_ 21=jV (↑(p0.number.length):Int)/\σ_ 22=.slice bO aq.length cb/\σ_ 23=.slice bP ([-1].length) cc/\σ_ 24=.pointer (some ⟨ag,0,none⟩)/\σ_ 25=.pointer (some ⟨ag,0,none⟩)/\σ_ 26=.pointer (some ⟨ag,4,none⟩)/\σ_ 27=.map (some aa)/\PHeap.Le U U_/\SW w [B1,.obj aa (.map ac ae)] U U_ [.blk b4 118 B0,B1,.obj aa (.map ac ae),.row bO cb 3 1 (hD KL.encI aq),.row bP cc 3 1 (hD KL.encI [-1])] w_/\Sl U_ 1 cz cR [1125899906842624].length (hD KL.encI [1125899906842624])) ?_ fun vd=>?_
 rintro xD gM ⟨lS,cz,cR,bO,cb,bP,cc,jc,jd,je,jf,jg,jh,ji,jj,jk,jl,jm,eJ,jo,jp,jq,eK,lD,eZ,jH⟩
 refine oL Z (eZ.lenM (j:=2) (mk:=wBC) (mv:=wBJ) Z Z eK (wBh ZQ) co) (zn ?_ ?_)
 have q:=eZ.freezeR (k:=4) (n:=[-1].length) rfl (wAE (f:=KL.encI) (sz:=1) (fun _=>rfl) [-1]) (by decide)
 obtain ⟨gm,lE,lg,tX⟩:=q
 let B7:Res:=.row bO cb 3 1 (hD KL.encI aq)
 have tY:SW w [B1,.obj aa (.map ac ae)] U gm [.blk b4 118 B0,B1,.obj aa (.map ac ae),B7] gM:=tX
 refine zE 0 Z Z Z Z (zD Z Z Try.call88 (zB eJ (zB Z zM)) Z) tY (fun hs=>wAe [-1] bP cc (↑(p0.number.length):Int) gM gm hs lg dW) (.inr Z) ?_
 rintro gp vH xc mg fB tZ ⟨fL,ii,rfl,rfl⟩
 have t4:SW w [B1,.obj aa (.map ac ae)] U gp [.row fL ii 3 1 (hD KL.encI aJ),.blk b4 118 B0,B1,.obj aa (.map ac ae),B7] mg:=tZ
 have rW:=jH.le lE
 have rX:=rW.le fB
 have rY:=lg.le fB
 exact lp _ _ ⟨gp,cz,cR,bO,cb,bP,cc,fL,ii,jc,jd,je,jf,jg,jh,ji,jj,jk,jl,jm,eJ,jo,jp,jq,eK,rfl,rfl,((lD.trans lE).trans fB),(t4.pick [1,2,3,4,0] _ (by decide) rfl),rX,rY⟩
 refine zR (cs:=B0) Z Z Z Z Z Zl Z eZ ?_
 intro wi mo t5
 exact dY _ _ ⟨lS,mo,cz,cR,bO,cb,bP,cc,jc,jd,je,jf,rfl,jg,jh,ji,jj,jk,jl,jm,eJ,jo,jp,jq,eK,rfl,lD,(t5.pick [1,2,3,0,4,5] _ (by decide) rfl),jH⟩
 refine ZS (s:=gDc) (M:=fun σ_ w_=>∃ (U_:PHeap) (cJ:Nat) (cA:Option Addr) (cS:Nat),σ_ 0=.pointer (some ⟨ag,0,none⟩)/\σ_ 1=jV p1/\σ_ 2=.bool p2/\σ_ 6=.pointer (some ⟨b4,0,none⟩)/\σ_ 9=.pointer (some ⟨cJ,0,none⟩)/\σ_ 17=.pointer (some ⟨ag,0,none⟩)/\σ_ 18=.pointer (some ⟨ag,0,none⟩)/\σ_ 19=.pointer (some ⟨ag,4,none⟩)/\σ_ 20=.map (some aa)/\σ_ 21=jV (↑(p0.number.length):Int)/\σ_ 23=.slice cA ([-1].length) cS/\σ_ 24=.pointer (some ⟨ag,0,none⟩)/\σ_ 25=.pointer (some ⟨ag,0,none⟩)/\σ_ 26=.pointer (some ⟨ag,4,none⟩)/\σ_ 27=.map (some aa)/\PHeap.Le U U_/\SW w [B1,.obj aa (.map ac ae)] U U_ [.blk b4 118 B0,B1,.obj aa (.map ac ae),.blk cJ 118 B0,.row cA cS 3 1 (hD KL.encI [-1])] w_) ?_ fun lq=>?_
 rintro xE wj ⟨gq,cJ,cA,cS,qK,qL,qM,qN,qO,qP,qQ,qR,qS,qT,qU,qV,qW,qX,qY,vv,t6⟩
 refine zq (pv:=[(0,jV 1125899906842624)]) (zs:=[jV 0]) (cs:=[jV 1125899906842624]) Z Z Z Z Z (wAH Z wAP) zH zC ZB Z Z Z Z Z t6 ?_
 intro mh gW t7
 have t8:SW w [B1,.obj aa (.map ac ae)] U gq [.row (some ⟨gW,0,none⟩) 1 3 1 (hD KL.encI [1125899906842624]),.blk b4 118 B0,B1,.obj aa (.map ac ae),.blk cJ 118 B0,.row cA cS 3 1 (hD KL.encI [-1])] mh:=t7
 exact fm _ _ ⟨gq,cJ,(some ⟨gW,0,none⟩),1,cA,cS,qK,qL,qM,qN,qO,rfl,qP,qQ,qR,qS,qT,qU,qV,qW,qX,qY,vv,(t8.pick [1,2,3,4,0,5] _ (by decide) rfl)⟩
 refine ZS (s:=gDj) (M:=fun σ_ w_=>∃ (U_:PHeap) (bj:Nat) (br:Option Addr) (bC:Nat),σ_ 0=.pointer (some ⟨ag,0,none⟩)/\σ_ 1=jV p1/\σ_ 2=.bool p2/\σ_ 6=.pointer (some ⟨b4,0,none⟩)/\σ_ 9=.pointer (some ⟨bj,0,none⟩)/\σ_ 16=.slice br ([1125899906842624].length) bC/\σ_ 17=.pointer (some ⟨ag,0,none⟩)/\σ_ 18=.pointer (some ⟨ag,0,none⟩)/\σ_ 19=.pointer (some ⟨ag,4,none⟩)/\σ_ 20=.map (some aa)/\σ_ 21=jV (↑(p0.number.length):Int)/\σ_ 24=.pointer (some ⟨ag,0,none⟩)/\σ_ 25=.pointer (some ⟨ag,0,none⟩)/\σ_ 26=.pointer (some ⟨ag,4,none⟩)/\σ_ 27=.map (some aa)/\PHeap.Le U U_/\SW w [B1,.obj aa (.map ac ae)] U U_ [.blk b4 118 B0,B1,.obj aa (.map ac ae),.blk bj 118 B0,.row br bC 3 1 (hD KL.encI [1125899906842624])] w_) ?_ fun ls=>?_
 rintro xF gN ⟨gt,bj,br,bC,jr,jt,ju,jv,jw,eL,jx,jy,jz,jA,eM,jB,jC,jD,jE,lF,j3⟩
 refine zn ?_ ?_
 have q:=j3.freezeR (k:=4) (n:=[1125899906842624].length) rfl (wAE (f:=KL.encI) (sz:=1) (fun _=>rfl) [1125899906842624]) (by decide)
 obtain ⟨gu,vw,lh,t9⟩:=q
 have ua:SW w [B1,.obj aa (.map ac ae)] U gu [.blk b4 118 B0,B1,.obj aa (.map ac ae),.blk bj 118 B0] gN:=t9
 refine zE 0 Z Z Z Z (zD Z Z Try.call88 (zB eL (zB eM zM)) Z) ua (fun hs=>wAe [1125899906842624] br bC (↑(p0.number.length):Int) gN gu hs lh dV) (.inr Z) ?_
 rintro fU vA w5 lT lu r7 ⟨fE,gZ,rfl,rfl⟩
 have r8:SW w [B1,.obj aa (.map ac ae)] U fU [.row fE gZ 3 1 (hD KL.encI aq),.blk b4 118 B0,B1,.obj aa (.map ac ae),.blk bj 118 B0] lT:=r7
 have q7:=lh.le lu
 exact vc _ _ ⟨fU,bj,br,bC,fE,gZ,jr,jt,ju,jv,jw,eL,jx,jy,jz,jA,eM,rfl,jB,jC,jD,jE,((lF.trans vw).trans lu),(r8.pick [1,2,3,4,0] _ (by decide) rfl),q7⟩
 refine zq (pv:=[(0,jV (-1))]) (zs:=[jV 0]) (cs:=[jV (-1)]) Z Z Z Z Z (wAH Z wAP) zH zC ZB Z Z Z Z Z j3 ?_
 intro lU gO r9
 have sa:SW w [B1,.obj aa (.map ac ae)] U gt [.row (some ⟨gO,0,none⟩) 1 3 1 (hD KL.encI [-1]),.blk b4 118 B0,B1,.obj aa (.map ac ae),.blk bj 118 B0,.row br bC 3 1 (hD KL.encI [1125899906842624])] lU:=r9
 exact fm _ _ ⟨gt,bj,br,bC,(some ⟨gO,0,none⟩),1,jr,jt,ju,jv,jw,eL,jx,jy,jz,jA,eM,rfl,jB,jC,jD,jE,lF,(sa.pick [1,2,3,4,5,0] _ (by decide) rfl)⟩
 refine ZS (s:=gDi) (M:=fun σ_ w_=>∃ (U_:PHeap) (bI:Option Addr) (bV:Nat) (bJ:Option Addr) (bW:Nat),σ_ 0=.pointer (some ⟨ag,0,none⟩)/\σ_ 1=jV p1/\σ_ 2=.bool p2/\σ_ 6=.pointer (some ⟨b4,0,none⟩)/\σ_ 16=.slice bI ([1125899906842624].length) bV/\σ_ 17=.pointer (some ⟨ag,0,none⟩)/\σ_ 18=.pointer (some ⟨ag,0,none⟩)/\σ_ 19=.pointer (some ⟨ag,4,none⟩)/\σ_ 20=.map (some aa)/\σ_ 21=jV (↑(p0.number.length):Int)/\σ_ 23=.slice bJ ([-1].length) bW/\σ_ 24=.pointer (some ⟨ag,0,none⟩)/\σ_ 25=.pointer (some ⟨ag,0,none⟩)/\σ_ 26=.pointer (some ⟨ag,4,none⟩)/\σ_ 27=.map (some aa)/\PHeap.Le U U_/\SW w [B1,.obj aa (.map ac ae)] U U_ [.blk b4 118 B0,B1,.obj aa (.map ac ae),.row bI bV 3 1 (hD KL.encI [1125899906842624]),.row bJ bW 3 1 (hD KL.encI [-1])] w_) ?_ fun ll=>?_
 rintro xi gv ⟨lM,bI,bV,bJ,bW,ij,ik,il,im,eD,io,ip,iq,ir,eE,it,iu,iv,iw,iy,lv,jO⟩
 refine zn ?_ ?_
 have q:=jO.freezeR (k:=3) (n:=[1125899906842624].length) rfl (wAE (f:=KL.encI) (sz:=1) (fun _=>rfl) [1125899906842624]) (by decide)
 obtain ⟨fV,ve,k8,sb⟩:=q
 let B8:Res:=.row bJ bW 3 1 (hD KL.encI [-1])
 have sc:SW w [B1,.obj aa (.map ac ae)] U fV [.blk b4 118 B0,B1,.obj aa (.map ac ae),B8] gv:=sb
 refine zE 0 Z Z Z Z (zD Z Z Try.call88 (zB eD (zB eE zM)) Z) sc (fun hs=>wAe [1125899906842624] bI bV (↑(p0.number.length):Int) gv fV hs k8 dV) (.inr Z) ?_
 rintro fW vB w6 lV lw sd ⟨fG,g6,rfl,rfl⟩
 have sf:SW w [B1,.obj aa (.map ac ae)] U fW [.row fG g6 3 1 (hD KL.encI aq),.blk b4 118 B0,B1,.obj aa (.map ac ae),B8] lV:=sd
 have q8:=k8.le lw
 exact vd _ _ ⟨fW,bI,bV,fG,g6,bJ,bW,ij,ik,il,im,eD,io,ip,iq,ir,eE,rfl,it,iu,iv,iw,iy,((lv.trans ve).trans lw),(sf.pick [1,2,3,0,4] _ (by decide) rfl),q8⟩
 refine zR (cs:=B0) Z Z Z Z Z Zl Z jO ?_
 intro vL mi sg
 exact fm _ _ ⟨lM,mi,bI,bV,bJ,bW,ij,ik,il,im,rfl,eD,io,ip,iq,ir,eE,it,iu,iv,iw,iy,lv,(sg.pick [1,2,3,0,4,5] _ (by decide) rfl)⟩
 refine oM Z Z (oR Z (Ze Z Z) (oR Z (zG Z Z ZN Z yD) (oL Z (bH.ldB (j:=1) Z Z Z yH (v:=.map (some aa)) Z) (oL Z (bH.lenM (j:=2) (mk:=wBC) (mv:=wBJ) Z Z Z (wBh ZQ) co) (oM Z Z (oR Z (Ze Z Z) (oR Z (zG Z Z ZN Z yD) (oL Z (bH.ldB (j:=1) Z Z Z yH (v:=.map (some aa)) Z) (zn ?_ ?_)))))))))
 refine zq (pv:=[(0,jV 1125899906842624)]) (zs:=[jV 0]) (cs:=[jV 1125899906842624]) Z Z Z Z Z (wAH Z wAP) zH zC ZB Z Z Z Z Z bH ?_
 intro ek bw sj
 let B9:Res:=.row (some ⟨bw,0,none⟩) 1 3 1 (hD KL.encI [1125899906842624])
 have eQ:SW w [B1,.obj aa (.map ac ae)] U U [B9,.blk b4 118 B0,B1,.obj aa (.map ac ae)] ek:=sj
 refine zn ?_ ?_
 have q:=eQ.freezeR (k:=0) (n:=[1125899906842624].length) rfl (wAE (f:=KL.encI) (sz:=1) (fun _=>rfl) [1125899906842624]) (by decide)
 obtain ⟨fY,fu,dX,sk⟩:=q
 have sm:SW w [B1,.obj aa (.map ac ae)] U fY [.blk b4 118 B0,B1,.obj aa (.map ac ae)] ek:=sk
 refine zE 0 Z Z Z Z (zD Z Z Try.call88 (zB Z (zB Z zM)) Z) sm (fun hs=>wAe [1125899906842624] (some ⟨bw,0,none⟩) 1 (↑(p0.number.length):Int) ek fY hs dX dV) (.inr Z) ?_
 rintro cE vC w7 lW cp sn ⟨di,dF,rfl,rfl⟩
 let cB:Res:=.row di dF 3 1 (hD KL.encI aq)
 have eU:SW w [B1,.obj aa (.map ac ae)] U cE [cB,.blk b4 118 B0,B1,.obj aa (.map ac ae)] lW:=sn
 refine oL Z (eU.lenM (j:=3) (mk:=wBC) (mv:=wBJ) Z Z Z (wBh ZQ) co) (zn ?_ ?_)
 refine zq (pv:=[(0,jV (-1))]) (zs:=[jV 0]) (cs:=[jV (-1)]) Z Z Z Z Z (wAH Z wAP) zH zC ZB Z Z Z Z Z eU ?_
 intro en dC so
 have jP:SW w [B1,.obj aa (.map ac ae)] U cE [.row (some ⟨dC,0,none⟩) 1 3 1 (hD KL.encI [-1]),cB,.blk b4 118 B0,B1,.obj aa (.map ac ae)] en:=so
 refine zn ?_ ?_
 have q:=jP.freezeR (k:=0) (n:=[-1].length) rfl (wAE (f:=KL.encI) (sz:=1) (fun _=>rfl) [-1]) (by decide)
 obtain ⟨fZ,lx,k9,sq⟩:=q
 have sr:SW w [B1,.obj aa (.map ac ae)] U fZ [cB,.blk b4 118 B0,B1,.obj aa (.map ac ae)] en:=sq
 refine zE 0 Z Z Z Z (zD Z Z Try.call88 (zB Z (zB Z zM)) Z) sr (fun hs=>wAe [-1] (some ⟨dC,0,none⟩) 1 (↑(p0.number.length):Int) en fZ hs k9 dW) (.inr Z) ?_
 rintro f4 vD w8 lX fw ss ⟨fH,g7,rfl,rfl⟩
 have su:SW w [B1,.obj aa (.map ac ae)] U f4 [.row fH g7 3 1 (hD KL.encI aJ),cB,.blk b4 118 B0,B1,.obj aa (.map ac ae)] lX:=ss
 have q9:=dX.le cp
 have re:=q9.le lx
 have rf:=re.le fw
 have rh:=k9.le fw
 exact lp _ _ ⟨f4,(some ⟨bw,0,none⟩),1,di,dF,(some ⟨dC,0,none⟩),1,fH,g7,rfl,rfl,rfl,rfl,rfl,rfl,rfl,rfl,rfl,rfl,rfl,rfl,rfl,rfl,rfl,rfl,rfl,rfl,(((fu.trans cp).trans lx).trans fw),(su.pick [2,3,4,1,0] _ (by decide) rfl),rf,rh⟩
 refine zR (cs:=B0) Z Z Z Z Z Zl Z jP ?_
 intro vM mj sv
 have ri:=dX.le cp
 exact dY _ _ ⟨cE,mj,(some ⟨bw,0,none⟩),1,di,dF,(some ⟨dC,0,none⟩),1,rfl,rfl,rfl,rfl,rfl,rfl,rfl,rfl,rfl,rfl,rfl,rfl,rfl,rfl,rfl,rfl,rfl,rfl,(fu.trans cp),(sv.pick [3,4,5,0,2,1] _ (by decide) rfl),ri⟩
 refine zR (cs:=B0) Z Z Z Z Z Zl Z eU ?_
 intro vN gP sw
 refine zq (pv:=[(0,jV (-1))]) (zs:=[jV 0]) (cs:=[jV (-1)]) Z Z Z Z Z (wAH Z wAP) zH zC ZB Z Z Z Z Z sw ?_
 intro lY gQ sA
 have sB:SW w [B1,.obj aa (.map ac ae)] U cE [.row (some ⟨gQ,0,none⟩) 1 3 1 (hD KL.encI [-1]),.blk gP 118 B0,cB,.blk b4 118 B0,B1,.obj aa (.map ac ae)] lY:=sA
 have rj:=dX.le cp
 exact dY _ _ ⟨cE,gP,(some ⟨bw,0,none⟩),1,di,dF,(some ⟨gQ,0,none⟩),1,rfl,rfl,rfl,rfl,rfl,rfl,rfl,rfl,rfl,rfl,rfl,rfl,rfl,rfl,rfl,rfl,rfl,rfl,(fu.trans cp),(sB.pick [3,4,5,1,2,0] _ (by decide) rfl),rj⟩
 refine zn ?_ ?_
 refine zq (pv:=[(0,jV (-1))]) (zs:=[jV 0]) (cs:=[jV (-1)]) Z Z Z Z Z (wAH Z wAP) zH zC ZB Z Z Z Z Z eQ ?_
 intro lZ gR sC
 have sD:SW w [B1,.obj aa (.map ac ae)] U U [.row (some ⟨gR,0,none⟩) 1 3 1 (hD KL.encI [-1]),B9,.blk b4 118 B0,B1,.obj aa (.map ac ae)] lZ:=sC
 exact ll _ _ ⟨U,(some ⟨bw,0,none⟩),1,(some ⟨gR,0,none⟩),1,rfl,rfl,rfl,rfl,rfl,rfl,rfl,rfl,rfl,rfl,rfl,rfl,rfl,rfl,rfl,(zO _),(sD.pick [2,3,4,1,0] _ (by decide) rfl)⟩
 refine zR (cs:=B0) Z Z Z Z Z Zl Z eQ ?_
 intro vO ml sE
 exact ls _ _ ⟨U,ml,(some ⟨bw,0,none⟩),1,rfl,rfl,rfl,rfl,rfl,rfl,rfl,rfl,rfl,rfl,rfl,rfl,rfl,rfl,rfl,(zO _),(sE.pick [2,3,4,0,1] _ (by decide) rfl)⟩
 refine zn ?_ ?_
 refine zq (pv:=[(0,jV (-1))]) (zs:=[jV 0]) (cs:=[jV (-1)]) Z Z Z Z Z (wAH Z wAP) zH zC ZB Z Z Z Z Z bH ?_
 intro l3 ep sF
 let fM:Res:=.row (some ⟨ep,0,none⟩) 1 3 1 (hD KL.encI [-1])
 have jQ:SW w [B1,.obj aa (.map ac ae)] U U [fM,.blk b4 118 B0,B1,.obj aa (.map ac ae)] l3:=sF
 refine zn ?_ ?_
 refine zq (pv:=[(0,jV 1125899906842624)]) (zs:=[jV 0]) (cs:=[jV 1125899906842624]) Z Z Z Z Z (wAH Z wAP) zH zC ZB Z Z Z Z Z jQ ?_
 intro l4 gS sG
 have sH:SW w [B1,.obj aa (.map ac ae)] U U [.row (some ⟨gS,0,none⟩) 1 3 1 (hD KL.encI [1125899906842624]),fM,.blk b4 118 B0,B1,.obj aa (.map ac ae)] l4:=sG
 exact ll _ _ ⟨U,(some ⟨gS,0,none⟩),1,(some ⟨ep,0,none⟩),1,rfl,rfl,rfl,rfl,rfl,rfl,rfl,rfl,rfl,rfl,rfl,rfl,rfl,rfl,rfl,(zO _),(sH.pick [2,3,4,0,1] _ (by decide) rfl)⟩
 refine zR (cs:=B0) Z Z Z Z Z Zl Z jQ ?_
 intro vP mm sI
 exact lq _ _ ⟨U,mm,(some ⟨ep,0,none⟩),1,rfl,rfl,rfl,rfl,rfl,rfl,rfl,rfl,rfl,rfl,rfl,rfl,rfl,rfl,rfl,(zO _),(sI.pick [2,3,4,0,1] _ (by decide) rfl)⟩
 refine zR (cs:=B0) Z Z Z Z Z Zl Z bH ?_
 intro vQ dD jR
 refine zn ?_ ?_
 refine zq (pv:=[(0,jV 1125899906842624)]) (zs:=[jV 0]) (cs:=[jV 1125899906842624]) Z Z Z Z Z (wAH Z wAP) zH zC ZB Z Z Z Z Z jR ?_
 intro l5 gT sJ
 have sK:SW w [B1,.obj aa (.map ac ae)] U U [.row (some ⟨gT,0,none⟩) 1 3 1 (hD KL.encI [1125899906842624]),.blk dD 118 B0,.blk b4 118 B0,B1,.obj aa (.map ac ae)] l5:=sJ
 exact ls _ _ ⟨U,dD,(some ⟨gT,0,none⟩),1,rfl,rfl,rfl,rfl,rfl,rfl,rfl,rfl,rfl,rfl,rfl,rfl,rfl,rfl,rfl,(zO _),(sK.pick [2,3,4,1,0] _ (by decide) rfl)⟩
 refine zq (pv:=[(0,jV (-1))]) (zs:=[jV 0]) (cs:=[jV (-1)]) Z Z Z Z Z (wAH Z wAP) zH zC ZB Z Z Z Z Z jR ?_
 intro l6 gU sL
 have sM:SW w [B1,.obj aa (.map ac ae)] U U [.row (some ⟨gU,0,none⟩) 1 3 1 (hD KL.encI [-1]),.blk dD 118 B0,.blk b4 118 B0,B1,.obj aa (.map ac ae)] l6:=sL
 exact lq _ _ ⟨U,dD,(some ⟨gU,0,none⟩),1,rfl,rfl,rfl,rfl,rfl,rfl,rfl,rfl,rfl,rfl,rfl,rfl,rfl,rfl,rfl,(zO _),(sM.pick [2,3,4,1,0] _ (by decide) rfl)⟩
 rintro xj vR ⟨f5,b8,am,an,ao,ap,mu,mw,mx,my,iz,vf,jS⟩
 refine zL (sR fL4 Z (oR Z (zG Z iz Za Z ZD) (oL Z (jS.ldB (j:=3) Z Z Z ZL (v:=.slice am l9.length an) Z) (oR Z (zw Z Z zH) (oM Z Z (eN (zd (bnK k6 fun xg ue fk=>?_))))))))
 have q:=wAx ue
 obtain ⟨fg,uf⟩:=q
 replace fg:=zN fg
 let bs:Res:=.row ao ap 3 1 (hD KL.encI a9)
 refine CK.forN' (fun a7 aL σ_ w_=>∃ (U_:PHeap),σ_ 34=jV (↑a7:Int)/\σ_ 0=.pointer (some ⟨ag,0,none⟩)/\σ_ 1=jV p1/\σ_ 2=.bool p2/\σ_ 6=.pointer (some ⟨b4,0,none⟩)/\σ_ 9=.pointer (some ⟨b8,0,none⟩)/\σ_ 33=jV (↑l9.length:Int)/\PHeap.Le f5 U_/\SW w [B1,.obj aa (.map ac ae)] U U_ [.blk b4 118 B0,B1,.obj aa (.map ac ae),.row am an 3 1 (hD KL.encI aL),bs,.blk b8 118 [.slice am aL.length an,.slice ao a9.length ap]] w_/\aL.length=l9.length) uf ?_ ?_ ?_
 exact ⟨f5,rfl,mu,mw,mx,my,iz,rfl,(zO _),(jS.pick [0,1,2,4,5,3] _ (by decide) rfl),rfl⟩
 rintro a7 aL xd xk vS fc ⟨bv,cY,eF,cU,eG,eH,cV,dP,fy,bG,eO⟩ li
 have g8:Hid ((↑a7:Int) < (↑l9.length:Int)):=zN (wAs fc)
 replace fc:=zN fc
 have fb:Hid (w64 ((↑a7:Int) + 1)=(↑(a7 + 1):Int)):=zN (by have h1:=fg.out;have h2:=g8.out;rw [wAW] <;> omega)
 refine sR fL1 Z (oR Z (zi Z cY dP) (eN (zL (cT Z g8 (kN (zL (zd (sR fL2 Z (oM Z cY (oA Z Z (eN (sR fL7 Z (oM Z cU (oR Z (zi Z Z Z) (oM Z Z ?_)))))))))))))))
 by_cases aN:p1 < 0
 have j4:=li;rw [if_pos aN] at j4;replace aN:=zN aN
 refine oT Z aN (oT Z aN (oT Z aN (oR Z (zQ Z (Zk aN.out) Z) (eN (ZT Z (rR (wDl (.fx 4 .nil .stop)) Z (oR Z (zG Z cV Za Z ZD) (oL Z (bG.ldB (j:=5) Z Z Z ZL (v:=.slice am aL.length an) Z) (oM Z Z (bnK j4 fun _ dT uE=>?_))))))))))
 obtain ⟨wk,jI⟩:=bG.rowSome (j:=3) rfl (by rw [wAE (f:=KL.encI) (sz:=1) (fun _=>rfl) aL];have hz:=wAT dT;omega)
 refine oR Z (Zh Z Z jI Z zH zC (wAT dT)) ?_
 have uj:=wBA (xs:=aL) (wAT dT)
 refine yW (j:=3) (vs:=[jV 0]) (cs':=hD KL.encI (nH aL a7 0)) rfl rfl rfl rfl bG rfl jI rfl rfl rfl zC (by rw [wAE (f:=KL.encI) (sz:=1) (fun _=>rfl)];have hz:=wAT dT;show _ + 1 <= _;first | omega | (simp only [nB];omega) | (simp only [nA,hH,hJ];omega)) rfl (wBt (sz:=1) (fo:=0) (fun _=>rfl) _ _ _ _ uj (by first | omega | (simp only [nB];omega) | (simp only [nA,hH,hJ];omega)) (zA rfl) rfl) rfl ?_
 intro gw sN
 let ef:Res:=.row am an 3 1 (hD KL.encI (nH aL a7 0))
 have sO:SW w [B1,.obj aa (.map ac ae)] U bv [.blk b4 118 B0,B1,.obj aa (.map ac ae),ef,bs,.blk b8 118 [.slice am aL.length an,.slice ao a9.length ap]] gw:=sN
 have sP:SW w [B1,.obj aa (.map ac ae)] U bv [.blk b4 118 B0,B1,.obj aa (.map ac ae),ef,bs,.blk b8 118 [.slice am ((nH aL a7 0).length) an,.slice ao a9.length ap]] gw:=by simpa only [B0,B1,bs,ef,nD] using sO
 refine zc (ZA (zI (rR fL2 Z (oR Z (ZM (zb Z cY Z) (congrArg (jV) fb.out)) (oM Z Z (zc ?_))))))
 cases uE
 exact zI ⟨Z,⟨bv,Z,eF,cU,eG,eH,cV,dP,fy,sP,(nD.trans eO)⟩⟩
 have j5:=li;rw [if_neg aN] at j5;replace aN:=zN aN
 refine zo Z Z Z (wF Z aN) Z Z (zo Z Z Z (wF Z aN) Z cU (rU Z (wF Z aN) (yJ Z Z Z) (oR Z (ze Z (zt aN.out) Z) (eN (ifc j5 ?_ ?_)))))
 intro er uF
 refine cT Z er (rR (wDl (.fx 4 .nil .stop)) Z (oR Z (zG Z cV Za Z ZD) (oL Z (bG.ldB (j:=5) Z Z Z ZL (v:=.slice am aL.length an) Z) (oM Z Z (bnK uF fun _ dU uG=>?_)))))
 obtain ⟨wl,jJ⟩:=bG.rowSome (j:=3) rfl (by rw [wAE (f:=KL.encI) (sz:=1) (fun _=>rfl) aL];have hz:=wAT dU;omega)
 refine oR Z (Zh Z Z jJ Z zH zC (wAT dU)) ?_
 have uk:=wBA (xs:=aL) (wAT dU)
 refine yW (j:=3) (vs:=[jV 0]) (cs':=hD KL.encI (nH aL a7 0)) rfl rfl rfl rfl bG rfl jJ rfl rfl rfl zC (by rw [wAE (f:=KL.encI) (sz:=1) (fun _=>rfl)];have hz:=wAT dU;show _ + 1 <= _;first | omega | (simp only [nB];omega) | (simp only [nA,hH,hJ];omega)) rfl (wBt (sz:=1) (fo:=0) (fun _=>rfl) _ _ _ _ uk (by first | omega | (simp only [nB];omega) | (simp only [nA,hH,hJ];omega)) (zA rfl) rfl) rfl ?_
 intro gx sQ
 let eg:Res:=.row am an 3 1 (hD KL.encI (nH aL a7 0))
 have sS:SW w [B1,.obj aa (.map ac ae)] U bv [.blk b4 118 B0,B1,.obj aa (.map ac ae),eg,bs,.blk b8 118 [.slice am aL.length an,.slice ao a9.length ap]] gx:=sQ
 have sT:SW w [B1,.obj aa (.map ac ae)] U bv [.blk b4 118 B0,B1,.obj aa (.map ac ae),eg,bs,.blk b8 118 [.slice am ((nH aL a7 0).length) an,.slice ao a9.length ap]] gx:=by simpa only [B0,B1,bs,eg,nD] using sS
 refine zc (ZA (zI (rR fL2 Z (oR Z (ZM (zb Z cY Z) (congrArg (jV) fb.out)) (oM Z Z (zc ?_))))))
 cases uG
 exact zI ⟨Z,⟨bv,Z,eF,cU,eG,eH,cV,dP,fy,sT,(nD.trans eO)⟩⟩
 intro er uH
 refine cF Z er (Zp (ZA (zI (rR fL2 Z (oR Z (ZM (zb Z cY Z) (congrArg (jV) fb.out)) (oM Z Z (zc ?_)))))))
 cases uH
 exact zI ⟨Z,⟨bv,Z,eF,cU,eG,eH,cV,dP,fy,bG,eO⟩⟩
 rintro xl vT ⟨f6,qZ,iA,wt,mz,mA,mB,mC,vg,eV,rk⟩
 have mp:Hid (¬ ((↑(((↑l9.length:Int):Int) - 0).toNat:Int) < (↑l9.length:Int))):=zN (wAc)
 refine sR fL1 Z (oR Z (zi Z qZ mC) (eN (zL (cF Z mp (Zc (zm (zm (ZY (zI (sR fL1 Z (oA Z Z (eN (zL (sR fL7 Z (oM Z iA (oR Z (Ze Z Z) (oR Z (zG Z Z ZN Z yD) (oL Z (eV.ldB (j:=1) Z Z Z yH (v:=.map (some aa)) Z) (oL Z (eV.lenM (j:=2) (mk:=wBC) (mv:=wBJ) Z Z Z (wBh ZQ) co) (oR Z (zb Z Z Z) (oM Z Z (eN (zd ?_)))))))))))))))))))))))
 have q:=wCB fk
 obtain ⟨wZ,e0⟩:=q
 have q:=wCA e0
 obtain ⟨fh,ug⟩:=q
 replace fh:=zN fh
 refine yX (fun a8 (dZ,d7,lG) σ_ w_=>∃ (U_:PHeap),σ_ 55=jV (↑a8:Int)/\σ_ 0=.pointer (some ⟨ag,0,none⟩)/\σ_ 2=.bool p2/\σ_ 6=.pointer (some ⟨b4,0,none⟩)/\σ_ 9=.pointer (some ⟨b8,0,none⟩)/\σ_ 11=jV lG/\σ_ 54=jV (w64 ((↑(p0.number.length):Int) + 1))/\PHeap.Le f6 U_/\SW w [B1,.obj aa (.map ac ae)] U U_ [.blk b4 118 B0,B1,.obj aa (.map ac ae),.row am an 3 1 (hD KL.encI dZ),.row ao ap 3 1 (hD KL.encI d7),.blk b8 118 [.slice am dZ.length an,.slice ao d7.length ap]] w_/\dZ.length=l9.length/\d7.length=a9.length) ug ?_ ?_ ?_
 exact ⟨f6,Z,iA,mz,mA,mB,Z,Z,(zO _),eV,rk,Z⟩
 rintro a8 ⟨dZ,d7,lG⟩ xe xm vU fd ⟨f7,jF,iB,mD,mE,mF,wu,iC,ly,jT,ro,rp⟩ lj uc
 try dsimp only at lj
 have g9:Hid ((↑a8:Int) < (w64 ((↑(p0.number.length):Int) + 1))):=zN (wAs fd)
 replace fd:=zN fd
 have uC:Hid (w64 ((↑a8:Int) + 1)=(↑(a8 + 1):Int)):=zN (by have h1:=fh.out;have h2:=g9.out;rw [wAW] <;> omega)
 refine sR fL1 Z (oR Z (zi Z jF iC) (eN (zL (cT Z g9 (kN (zL (zd (sR fL1 Z (oA Z Z (eN (zL (sR fL6 Z (oM Z iB (oR Z (Ze Z Z) (oR Z (zG Z Z ZN Z yh) (oL Z (jT.ldB (j:=1) Z Z Z Try.isAgg122 (v:=.slice aY p0.edges.length aZ) Z) (oR Z (zw Z Z Try.runUnderlying122) (oM Z Z (eN (zd ?_))))))))))))))))))))
 have q:=bnd lj
 obtain ⟨⟨lI,lJ,xh⟩,uh,j6⟩:=q
 try dsimp only at j6
 have q:=wAx uh
 obtain ⟨fj,ui⟩:=q
 replace fj:=zN fj
 refine CK.forN' (fun aH (ak,ax,lH) σ_ w_=>∃ (U_:PHeap),σ_ 62=jV (↑aH:Int)/\σ_ 0=.pointer (some ⟨ag,0,none⟩)/\σ_ 2=.bool p2/\σ_ 6=.pointer (some ⟨b4,0,none⟩)/\σ_ 9=.pointer (some ⟨b8,0,none⟩)/\σ_ 11=jV lH/\σ_ 54=jV (w64 ((↑(p0.number.length):Int) + 1))/\σ_ 55=jV (↑a8:Int)/\σ_ 60=.slice aY p0.edges.length aZ/\σ_ 61=jV (↑p0.edges.length:Int)/\PHeap.Le f7 U_/\SW w [B1,.obj aa (.map ac ae)] U U_ [.blk b4 118 B0,B1,.obj aa (.map ac ae),.row am an 3 1 (hD KL.encI ak),.row ao ap 3 1 (hD KL.encI ax),.blk b8 118 [.slice am ak.length an,.slice ao ax.length ap]] w_/\ak.length=l9.length/\ax.length=a9.length) ui ?_ ?_ ?_
 exact ⟨f7,Z,iB,mD,mE,mF,Z,iC,jF,Z,Z,(zO _),jT,ro,rp⟩
 rintro aH ⟨ak,ax,lH⟩ xf xn vV ff ⟨az,bg,cd,bD,cf,aV,dQ,cg,ci,bE,bF,lz,jU,cm,cn⟩ lk
 try dsimp only at lk
 have ib:Hid ((↑aH:Int) < (↑p0.edges.length:Int)):=zN (wAs ff)
 replace ff:=zN ff
 have uD:Hid (w64 ((↑aH:Int) + 1)=(↑(aH + 1):Int)):=zN (by have h1:=fj.out;have h2:=ib.out;rw [wAW] <;> omega)
 refine sR fL1 Z (oR Z (zi Z bg bF) (eN (zL (cT Z ib (kN ?_)))))
 have q:=bnd lk
 obtain ⟨⟨fq,ft,vy⟩,u5,j7⟩:=q
 try dsimp only at j7
 refine yP (fun σ_ w_=>∃ (U_:PHeap),σ_ 0=.pointer (some ⟨ag,0,none⟩)/\σ_ 2=.bool p2/\σ_ 6=.pointer (some ⟨b4,0,none⟩)/\σ_ 9=.pointer (some ⟨b8,0,none⟩)/\σ_ 11=jV vy/\σ_ 54=jV (w64 ((↑(p0.number.length):Int) + 1))/\σ_ 55=jV (↑a8:Int)/\σ_ 60=.slice aY p0.edges.length aZ/\σ_ 61=jV (↑p0.edges.length:Int)/\σ_ 62=jV (↑aH:Int)/\PHeap.Le az U_/\SW w [B1,.obj aa (.map ac ae)] U U_ [.blk b4 118 B0,B1,.obj aa (.map ac ae),.row am an 3 1 (hD KL.encI fq),.row ao ap 3 1 (hD KL.encI ft),.blk b8 118 [.slice am fq.length an,.slice ao ft.length ap]] w_/\fq.length=l9.length/\ft.length=a9.length) ?_ ?_
 refine zd (sR (wCg (.fx 3 (.fl 4 (.fx 5 .nil .stop)) .stop)) Z (oM Z bg (bnK u5 fun aj jG uI=>?_)))
 have rq:=ub.le vf
 have rv:=rq.le vg
 have rx:=rv.le ly
 have ry:=rx.le lz
 have q:=ry.el (fun _=>rfl) (wAj jG)
 obtain ⟨wm,wY,rZ,r6⟩:=q
 refine oR Z (Zh Z bE rZ bg Try.runUnderlying122 Try.sizeOf130 (wCv jG)) (oL Z (jU.ldCA (f:=0) r6 Z Z Try.isAgg130 Try.sizeOf130 (us:=[jV aj.step.Kind,jV aj.step.Skier,jV aj.step.Index,.bool aj.step.Up,jV aj.from_,jV aj.to_,jV aj.count]) Z Z) (zR (cs:=[jV 0,jV 0,jV 0,.bool false,jV 0,jV 0,jV 0]) Z Z Z Z Z Try.zeroValue130 Z jU ?_))
 intro vW aK sU
 refine oA Z Z ?_
 let ay:List Value:=[jV aj.step.Kind,jV aj.step.Skier,jV aj.step.Index,.bool aj.step.Up,jV aj.from_,jV aj.to_,jV aj.count]
 refine zV (j:=0) (vs:=ay) Z Z Z Z sU Z Z Z Z Try.sizeOf130 (zA Z) Z Z Z ?_
 intro eo sV
 let aQ:Res:=.row ao ap 3 1 (hD KL.encI ax)
 let bf:Res:=.blk b8 118 [.slice am ak.length an,.slice ao ax.length ap]
 have sX:SW w [B1,.obj aa (.map ac ae)] U az [.blk aK 130 ay,.blk b4 118 B0,B1,.obj aa (.map ac ae),.row am an 3 1 (hD KL.encI ak),aQ,bf] eo:=sV
 refine eN (zL (ZG ZH [3,1,3,1,3,3] fL6 (by kernel_rfl) ?_))
 have cZ:=sX.drew
 generalize hw_W1431:({ eo with drawn:=eo.drawn + 1 }:World)=dB at cZ ⊢
 refine oR Z (zG Z Z yd Z zC) (oL Z (cZ.ldB (j:=0) Z Z Z zJ (v:=jV aj.from_) Z) (oR Z (zG Z Z yd Z zC) (oL Z (cZ.ldB (j:=0) Z Z Z zJ (v:=jV aj.to_) Z) (oA Z Z (oA Z Z (eN (zL (sR fL1 Z (oM Z bD (eN (ifc uI ?_ ?_)))))))))))
 intro eu uJ
 refine ZT (congrArg nJ eu.out) (rR fL4 rfl (zo rfl rfl rfl rfl rfl rfl (zo rfl rfl rfl rfl rfl rfl (yF rfl rfl rfl rfl rfl rfl (yF rfl rfl rfl rfl rfl rfl (eN (zL (ZG ZH [3,1,3,3,1,3,3,3,1,3,3,1,3,1,3,3,1,3,3,1,3,3] fL22 (by kernel_rfl) ?_))))))))
 have aW:=cZ.drew
 generalize hw_W1435:({ dB with drawn:=dB.drawn + 1 }:World)=gy at aW ⊢
 refine oR Z (zG Z aV Za Z ZD) (oL Z (aW.ldB (j:=6) Z Z Z ZL (v:=.slice am ak.length an) Z) (oM Z Z (bnK uJ fun _ bb uK=>?_)))
 obtain ⟨wn,a5⟩:=aW.rowSome (j:=4) rfl (by rw [wAE (f:=KL.encI) (sz:=1) (fun _=>rfl) ak];have hz:=wAT bb;omega)
 refine oR Z (Zb Z Z a5 Z zH zC (wBO bb) (wBP bb)) ?_
 have ul:=wBA (xs:=ak) (wAT bb)
 refine ZF rfl rfl rfl rfl (aW.ldR (j:=4) rfl a5 rfl rfl zJ (wAV (sz:=1) (fun _=>rfl) _ _ 0 _ ul (by first | omega | rfl | simp) rfl)) rfl (zY rfl rfl rfl rfl (fun _=>zi rfl rfl rfl) (zo rfl rfl rfl rfl rfl rfl (ifc uK ?_ ?_)))
 intro au uL
 refine rU Z (wT Z au) (zG Z aV Za Z ZD) (ZF Z Z Z (wT Z au) (aW.ldB (j:=6) Z Z Z ZL (v:=.slice am ak.length an) Z) Z (zo Z Z Z (wT Z au) Z Z (rU Z (wT Z au) (Zb Z Z a5 Z zH zC (wBO bb) (wBP bb)) ?_)))
 have um:=wBA (xs:=ak) (wAT bb)
 refine ZF rfl rfl rfl (zP rfl rfl (Zk au.out)) (aW.ldR (j:=4) rfl a5 rfl rfl zJ (wAV (sz:=1) (fun _=>rfl) _ _ 0 _ um (by first | omega | rfl | simp) rfl)) rfl (zY rfl rfl rfl (zP rfl rfl (Zk au.out)) (fun _=>zG rfl rfl yd rfl zC) (ZF rfl rfl rfl (zP rfl rfl (Zk au.out)) (aW.ldB (j:=0) rfl rfl rfl zJ (v:=jV aj.count) rfl) rfl (zY rfl rfl rfl (zP rfl rfl (Zk au.out)) (fun _=>zb rfl rfl rfl) (zY rfl rfl rfl (zP rfl rfl (Zk au.out)) (fun _=>zG rfl aV Za rfl ZD) (ZF rfl rfl rfl (zP rfl rfl (Zk au.out)) (aW.ldB (j:=6) rfl rfl rfl ZL (v:=.slice am ak.length an) rfl) rfl (zo rfl rfl rfl (zP rfl rfl (Zk au.out)) rfl rfl (bnK uL fun _ bh uM=>zY rfl rfl rfl (zP rfl rfl (Zk au.out)) (fun _=>Zb rfl rfl a5 rfl zH zC (wBO bh) (wBP bh)) ?_)))))))
 have un:=wBA (xs:=ak) (wAT bh)
 refine ZF rfl rfl rfl (zP rfl rfl (Zk au.out)) (aW.ldR (j:=4) rfl a5 rfl rfl zJ (wAV (sz:=1) (fun _=>rfl) _ _ 0 _ un (by first | omega | rfl | simp) rfl)) rfl (zY rfl rfl rfl (zP rfl rfl (Zk au.out)) (fun _=>zi rfl rfl rfl) (zY rfl rfl rfl rfl (fun _=>zQ rfl (Zk au.out) rfl) (eN (ifc uM ?_ ?_))))
 intro ew uN
 refine cT Z ew ?_
 have q:=bnd uN
 obtain ⟨⟨⟩,u6,j8⟩:=q
 try dsimp only at j8
 let aR:Res:=.row am an 3 1 (hD KL.encI (nH ak aj.from_.toNat (w64 ((gd ak aj.to_.toNat) + aj.count))))
 let cC:Res:=.blk b8 118 [.slice am ((nH ak aj.from_.toNat (w64 ((gd ak aj.to_.toNat) + aj.count))).length) an,.slice ao ((nH ax aj.from_.toNat (↑aH:Int)).length) ap]
 let bt:Res:=.row ao ap 3 1 (hD KL.encI (nH ax aj.from_.toNat (↑aH:Int)))
 refine yP (fun σ_ w_=>∃ (U_:PHeap),σ_ 0=.pointer (some ⟨ag,0,none⟩)/\σ_ 2=.bool p2/\σ_ 6=.pointer (some ⟨b4,0,none⟩)/\σ_ 9=.pointer (some ⟨b8,0,none⟩)/\σ_ 15=jV aj.from_/\σ_ 54=jV (w64 ((↑(p0.number.length):Int) + 1))/\σ_ 55=jV (↑a8:Int)/\σ_ 60=.slice aY p0.edges.length aZ/\σ_ 61=jV (↑p0.edges.length:Int)/\σ_ 62=jV (↑aH:Int)/\PHeap.Le az U_/\SW w [B1,.obj aa (.map ac ae)] U U_ [.blk aK 130 ay,.blk b4 118 B0,B1,.obj aa (.map ac ae),aR,bt,cC] w_) ?_ ?_
 refine CK.fresh fun aT aO=>?_
 have iD:aT 0=.pointer (some ⟨ag,0,none⟩):=(aO 0).trans cd
 have iE:aT 2=.bool p2:=(aO 2).trans bD
 have iF:aT 6=.pointer (some ⟨b4,0,none⟩):=(aO 6).trans cf
 have cW:aT 9=.pointer (some ⟨b8,0,none⟩):=(aO 9).trans aV
 have mG:aT 12=jV (↑aH:Int):=(aO 12).trans rfl
 have mH:aT 13=.pointer (some ⟨aK,0,none⟩):=(aO 13).trans rfl
 have mI:aT 14=jV aj.to_:=(aO 14).trans rfl
 have dR:aT 15=jV aj.from_:=(aO 15).trans rfl
 have iG:aT 54=jV (w64 ((↑(p0.number.length):Int) + 1)):=(aO 54).trans cg
 have iH:aT 55=jV (↑a8:Int):=(aO 55).trans ci
 have iI:aT 60=.slice aY p0.edges.length aZ:=(aO 60).trans bE
 have iJ:aT 61=jV (↑p0.edges.length:Int):=(aO 61).trans bF
 have iK:aT 62=jV (↑aH:Int):=(aO 62).trans bg
 clear aO
 refine bnK u6 fun _ bc j9=>ZG ZH [3,1,3,3,2,3,3,1,3,3,1,3,1,3,3,3,0,3,0] (wDl (wKu gCz)) (by kernel_rfl) ?_
 have bk:=aW.drew
 generalize hw_W1484:({ gy with drawn:=gy.drawn + 1 }:World)=vX at bk ⊢
 refine oR Z (zG Z cW Za Z ZD) (oL Z (bk.ldB (j:=6) Z Z Z ZL (v:=.slice am ak.length an) Z) (oM Z dR (oR Z (zG Z cW Za Z ZD) (oM Z dR (oR Z (zG Z cW Za Z ZD) (oL Z (bk.ldB (j:=6) Z Z Z ZL (v:=.slice am ak.length an) Z) (oM Z mI (oR Z (Zb Z Z a5 Z zH zC (wBO bb) (wBP bb)) ?_))))))))
 have uo:=wBA (xs:=ak) (wAT bb)
 refine ZF rfl rfl rfl rfl (bk.ldR (j:=4) rfl a5 rfl rfl zJ (wAV (sz:=1) (fun _=>rfl) _ _ 0 _ uo (by first | omega | rfl | simp) rfl)) rfl (zY rfl rfl rfl rfl (fun _=>zG rfl mH yd rfl zC) (ZF rfl rfl rfl rfl (bk.ldB (j:=0) rfl rfl rfl zJ (v:=jV aj.count) rfl) rfl (zY rfl rfl rfl rfl (fun _=>zb rfl rfl rfl) (zo rfl rfl rfl rfl rfl mG (zY rfl rfl rfl rfl (fun _=>Zb rfl rfl a5 rfl zH zC (wBO bh) (wBP bh)) (zn ?_ ?_))))))
 refine ZR Z Z Z Z (bk.ldB (j:=6) Z Z Z ZL (v:=.slice ao ax.length ap) Z) ?_
 have up:=wBA (xs:=ak) (wAT bh)
 refine yW (j:=4) (vs:=[jV (w64 ((gd ak aj.to_.toNat) + aj.count))]) (cs':=hD KL.encI (nH ak aj.from_.toNat (w64 ((gd ak aj.to_.toNat) + aj.count)))) rfl rfl rfl rfl bk rfl a5 rfl rfl rfl zC (by rw [wAE (f:=KL.encI) (sz:=1) (fun _=>rfl)];have hz:=wAT bh;show _ + 1 <= _;first | omega | (simp only [nB];omega) | (simp only [nA,hH,hJ];omega)) rfl (wBt (sz:=1) (fo:=0) (fun _=>rfl) _ _ _ _ up (by first | omega | (simp only [nB];omega) | (simp only [nA,hH,hJ];omega)) (zA rfl) rfl) rfl ?_
 intro gz sY
 have sZ:SW w [B1,.obj aa (.map ac ae)] U az [.blk aK 130 ay,.blk b4 118 B0,B1,.obj aa (.map ac ae),aR,aQ,bf] gz:=sY
 let dx:Res:=.blk b8 118 [.slice am ((nH ak aj.from_.toNat (w64 ((gd ak aj.to_.toNat) + aj.count))).length) an,.slice ao ax.length ap]
 have jW:SW w [B1,.obj aa (.map ac ae)] U az [.blk aK 130 ay,.blk b4 118 B0,B1,.obj aa (.map ac ae),aR,aQ,dx] gz:=by simpa only [B0,B1,ay,aQ,bf,aR,dx,nD] using sZ
 obtain ⟨wo,jK⟩:=jW.rowSome (j:=5) rfl (by rw [wAE (f:=KL.encI) (sz:=1) (fun _=>rfl) ax];have hz:=wAT bc;omega)
 refine oR Z (Zb Z Z jK Z zH zC (wBO bc) (wBP bc)) ?_
 have uq:=wBA (xs:=ax) (wAT bc)
 refine yW (j:=5) (vs:=[jV (↑aH:Int)]) (cs':=hD KL.encI (nH ax aj.from_.toNat (↑aH:Int))) rfl rfl rfl rfl jW rfl jK rfl rfl rfl zC (by rw [wAE (f:=KL.encI) (sz:=1) (fun _=>rfl)];have hz:=wAT bc;show _ + 1 <= _;first | omega | (simp only [nB];omega) | (simp only [nA,hH,hJ];omega)) rfl (wBt (sz:=1) (fo:=0) (fun _=>rfl) _ _ _ _ uq (by first | omega | (simp only [nB];omega) | (simp only [nA,hH,hJ];omega)) (zA rfl) rfl) rfl ?_
 intro gA s3
 have s4:SW w [B1,.obj aa (.map ac ae)] U az [.blk aK 130 ay,.blk b4 118 B0,B1,.obj aa (.map ac ae),aR,bt,dx] gA:=s3
 have s5:SW w [B1,.obj aa (.map ac ae)] U az [.blk aK 130 ay,.blk b4 118 B0,B1,.obj aa (.map ac ae),aR,bt,cC] gA:=by simpa only [B0,B1,ay,aR,cC,bt,dx,nD] using s4
 refine zc ?_
 cases j9
 exact zI ⟨Z,⟨az,iD,iE,iF,cW,dR,iG,iH,iI,iJ,iK,(zO _),s5⟩⟩
 have ur:=wBA (xs:=ak) (wAT bh)
 refine yW (j:=4) (vs:=[jV (w64 ((gd ak aj.to_.toNat) + aj.count))]) (cs':=hD KL.encI (nH ak aj.from_.toNat (w64 ((gd ak aj.to_.toNat) + aj.count)))) rfl rfl rfl rfl bk rfl a5 rfl rfl rfl zC (by rw [wAE (f:=KL.encI) (sz:=1) (fun _=>rfl)];have hz:=wAT bh;show _ + 1 <= _;first | omega | (simp only [nB];omega) | (simp only [nA,hH,hJ];omega)) rfl (wBt (sz:=1) (fo:=0) (fun _=>rfl) _ _ _ _ ur (by first | omega | (simp only [nB];omega) | (simp only [nA,hH,hJ];omega)) (zA rfl) rfl) rfl ?_
 intro gB s6
 have s7:SW w [B1,.obj aa (.map ac ae)] U az [.blk aK 130 ay,.blk b4 118 B0,B1,.obj aa (.map ac ae),aR,aQ,bf] gB:=s6
 let dy:Res:=.blk b8 118 [.slice am ((nH ak aj.from_.toNat (w64 ((gd ak aj.to_.toNat) + aj.count))).length) an,.slice ao ax.length ap]
 have eW:SW w [B1,.obj aa (.map ac ae)] U az [.blk aK 130 ay,.blk b4 118 B0,B1,.obj aa (.map ac ae),aR,aQ,dy] gB:=by simpa only [B0,B1,ay,aQ,bf,aR,dy,nD] using s7
 refine ZR Z Z Z Z (eW.ldB (j:=6) Z Z Z ZL (v:=.slice ao ax.length ap) Z) ?_
 obtain ⟨wp,jL⟩:=eW.rowSome (j:=5) rfl (by rw [wAE (f:=KL.encI) (sz:=1) (fun _=>rfl) ax];have hz:=wAT bc;omega)
 refine oR Z (Zb Z Z jL Z zH zC (wBO bc) (wBP bc)) ?_
 have ut:=wBA (xs:=ax) (wAT bc)
 refine yW (j:=5) (vs:=[jV (↑aH:Int)]) (cs':=hD KL.encI (nH ax aj.from_.toNat (↑aH:Int))) rfl rfl rfl rfl eW rfl jL rfl rfl rfl zC (by rw [wAE (f:=KL.encI) (sz:=1) (fun _=>rfl)];have hz:=wAT bc;show _ + 1 <= _;first | omega | (simp only [nB];omega) | (simp only [nA,hH,hJ];omega)) rfl (wBt (sz:=1) (fo:=0) (fun _=>rfl) _ _ _ _ ut (by first | omega | (simp only [nB];omega) | (simp only [nA,hH,hJ];omega)) (zA rfl) rfl) rfl ?_
 intro gC s8
 have s9:SW w [B1,.obj aa (.map ac ae)] U az [.blk aK 130 ay,.blk b4 118 B0,B1,.obj aa (.map ac ae),aR,bt,dy] gC:=s8
 have ta:SW w [B1,.obj aa (.map ac ae)] U az [.blk aK 130 ay,.blk b4 118 B0,B1,.obj aa (.map ac ae),aR,bt,cC] gC:=by simpa only [B0,B1,ay,aR,cC,bt,dy,nD] using s9
 refine zc ?_
 cases j9
 exact zI ⟨Z,⟨az,iD,iE,iF,cW,dR,iG,iH,iI,iJ,iK,(zO _),ta⟩⟩
 rintro xo vY ⟨lN,mJ,mK,mL,mM,mN,mO,mP,mQ,mR,mS,vh,tb⟩
 refine rR fL2 Z (oM Z mN (oA Z Z (zc (ZA ?_))))
 cases j8
 exact zI ⟨rfl,⟨lN,mJ,mK,mL,mM,rfl,mO,mP,mQ,mR,mS,vh,(tb.pick [1,2,3,4,5,6] _ (by decide) rfl),(nD.trans cm),(nD.trans cn)⟩⟩
 intro ew uO
 refine cF Z ew (Zp (ZA ?_))
 cases uO
 exact zI ⟨rfl,⟨az,cd,bD,cf,aV,dQ,cg,ci,bE,bF,bg,(zO _),(aW.pick [1,2,3,4,5,6] _ (by decide) rfl),cm,cn⟩⟩
 intro au uP
 refine oF Z au (oF Z au (oF Z au (oF Z au (oF Z au (oF Z au (oF Z au (oF Z au (oF Z au (oF Z au (oF Z au (oF Z au (oF Z au (oF Z au (oR Z (ze Z (zt au.out) Z) (eN (ZI Z (Zp (ZA ?_))))))))))))))))))
 cases uP
 exact zI ⟨rfl,⟨az,cd,bD,cf,aV,dQ,cg,ci,bE,bF,bg,(zO _),(aW.pick [1,2,3,4,5,6] _ (by decide) rfl),cm,cn⟩⟩
 intro eu uQ
 refine ZI (congrArg nJ (nK.2 eu.out)) (kN (zL (ZG ZH [3,1,3,3,1,3,3,3,1,3,3,1,3,1,3,3,1,3,3,1,3,3] fL22 (by kernel_rfl) ?_)))
 have aX:=cZ.drew
 generalize hw_W1538:({ dB with drawn:=dB.drawn + 1 }:World)=gD at aX ⊢
 refine oR Z (zG Z aV Za Z ZD) (oL Z (aX.ldB (j:=6) Z Z Z ZL (v:=.slice am ak.length an) Z) (oM Z Z (bnK uQ fun _ bd uR=>?_)))
 obtain ⟨wq,a6⟩:=aX.rowSome (j:=4) rfl (by rw [wAE (f:=KL.encI) (sz:=1) (fun _=>rfl) ak];have hz:=wAT bd;omega)
 refine oR Z (Zb Z Z a6 Z zH zC (wBO bd) (wBP bd)) ?_
 have uu:=wBA (xs:=ak) (wAT bd)
 refine ZF rfl rfl rfl rfl (aX.ldR (j:=4) rfl a6 rfl rfl zJ (wAV (sz:=1) (fun _=>rfl) _ _ 0 _ uu (by first | omega | rfl | simp) rfl)) rfl (zY rfl rfl rfl rfl (fun _=>zi rfl rfl rfl) (zo rfl rfl rfl rfl rfl rfl (ifc uR ?_ ?_)))
 intro av uS
 refine rU Z (wT Z av) (zG Z aV Za Z ZD) (ZF Z Z Z (wT Z av) (aX.ldB (j:=6) Z Z Z ZL (v:=.slice am ak.length an) Z) Z (zo Z Z Z (wT Z av) Z Z (rU Z (wT Z av) (Zb Z Z a6 Z zH zC (wBO bd) (wBP bd)) ?_)))
 have uv:=wBA (xs:=ak) (wAT bd)
 refine ZF rfl rfl rfl (zP rfl rfl (Zk av.out)) (aX.ldR (j:=4) rfl a6 rfl rfl zJ (wAV (sz:=1) (fun _=>rfl) _ _ 0 _ uv (by first | omega | rfl | simp) rfl)) rfl (zY rfl rfl rfl (zP rfl rfl (Zk av.out)) (fun _=>zG rfl rfl yd rfl zC) (ZF rfl rfl rfl (zP rfl rfl (Zk av.out)) (aX.ldB (j:=0) rfl rfl rfl zJ (v:=jV aj.count) rfl) rfl (zY rfl rfl rfl (zP rfl rfl (Zk av.out)) (fun _=>zb rfl rfl rfl) (zY rfl rfl rfl (zP rfl rfl (Zk av.out)) (fun _=>zG rfl aV Za rfl ZD) (ZF rfl rfl rfl (zP rfl rfl (Zk av.out)) (aX.ldB (j:=6) rfl rfl rfl ZL (v:=.slice am ak.length an) rfl) rfl (zo rfl rfl rfl (zP rfl rfl (Zk av.out)) rfl rfl (bnK uS fun _ bi uT=>zY rfl rfl rfl (zP rfl rfl (Zk av.out)) (fun _=>Zb rfl rfl a6 rfl zH zC (wBO bi) (wBP bi)) ?_)))))))
 have uw:=wBA (xs:=ak) (wAT bi)
 refine ZF rfl rfl rfl (zP rfl rfl (Zk av.out)) (aX.ldR (j:=4) rfl a6 rfl rfl zJ (wAV (sz:=1) (fun _=>rfl) _ _ 0 _ uw (by first | omega | rfl | simp) rfl)) rfl (zY rfl rfl rfl (zP rfl rfl (Zk av.out)) (fun _=>zi rfl rfl rfl) (zY rfl rfl rfl rfl (fun _=>zQ rfl (Zk av.out) rfl) (eN (ifc uT ?_ ?_))))
 intro ey uU
 refine cT Z ey ?_
 have q:=bnd uU
 obtain ⟨⟨⟩,u7,k3⟩:=q
 try dsimp only at k3
 let aS:Res:=.row am an 3 1 (hD KL.encI (nH ak aj.to_.toNat (w64 ((gd ak aj.from_.toNat) + aj.count))))
 let cD:Res:=.blk b8 118 [.slice am ((nH ak aj.to_.toNat (w64 ((gd ak aj.from_.toNat) + aj.count))).length) an,.slice ao ((nH ax aj.to_.toNat (↑aH:Int)).length) ap]
 let bu:Res:=.row ao ap 3 1 (hD KL.encI (nH ax aj.to_.toNat (↑aH:Int)))
 refine yP (fun σ_ w_=>∃ (U_:PHeap),σ_ 0=.pointer (some ⟨ag,0,none⟩)/\σ_ 2=.bool p2/\σ_ 6=.pointer (some ⟨b4,0,none⟩)/\σ_ 9=.pointer (some ⟨b8,0,none⟩)/\σ_ 15=jV aj.to_/\σ_ 54=jV (w64 ((↑(p0.number.length):Int) + 1))/\σ_ 55=jV (↑a8:Int)/\σ_ 60=.slice aY p0.edges.length aZ/\σ_ 61=jV (↑p0.edges.length:Int)/\σ_ 62=jV (↑aH:Int)/\PHeap.Le az U_/\SW w [B1,.obj aa (.map ac ae)] U U_ [.blk aK 130 ay,.blk b4 118 B0,B1,.obj aa (.map ac ae),aS,bu,cD] w_) ?_ ?_
 refine CK.fresh fun aU aP=>?_
 have iL:aU 0=.pointer (some ⟨ag,0,none⟩):=(aP 0).trans cd
 have iM:aU 2=.bool p2:=(aP 2).trans bD
 have iN:aU 6=.pointer (some ⟨b4,0,none⟩):=(aP 6).trans cf
 have cX:aU 9=.pointer (some ⟨b8,0,none⟩):=(aP 9).trans aV
 have mT:aU 12=jV (↑aH:Int):=(aP 12).trans rfl
 have mU:aU 13=.pointer (some ⟨aK,0,none⟩):=(aP 13).trans rfl
 have mV:aU 14=jV aj.from_:=(aP 14).trans rfl
 have dS:aU 15=jV aj.to_:=(aP 15).trans rfl
 have iO:aU 54=jV (w64 ((↑(p0.number.length):Int) + 1)):=(aP 54).trans cg
 have iP:aU 55=jV (↑a8:Int):=(aP 55).trans ci
 have iQ:aU 60=.slice aY p0.edges.length aZ:=(aP 60).trans bE
 have iR:aU 61=jV (↑p0.edges.length:Int):=(aP 61).trans bF
 have iS:aU 62=jV (↑aH:Int):=(aP 62).trans bg
 clear aP
 refine bnK u7 fun _ be k5=>ZG ZH [3,1,3,3,2,3,3,1,3,3,1,3,1,3,3,3,0,3,0] (wDl (wKu gCz)) (by kernel_rfl) ?_
 have bm:=aX.drew
 generalize hw_W1587:({ gD with drawn:=gD.drawn + 1 }:World)=vZ at bm ⊢
 refine oR Z (zG Z cX Za Z ZD) (oL Z (bm.ldB (j:=6) Z Z Z ZL (v:=.slice am ak.length an) Z) (oM Z dS (oR Z (zG Z cX Za Z ZD) (oM Z dS (oR Z (zG Z cX Za Z ZD) (oL Z (bm.ldB (j:=6) Z Z Z ZL (v:=.slice am ak.length an) Z) (oM Z mV (oR Z (Zb Z Z a6 Z zH zC (wBO bd) (wBP bd)) ?_))))))))
 have ux:=wBA (xs:=ak) (wAT bd)
 refine ZF rfl rfl rfl rfl (bm.ldR (j:=4) rfl a6 rfl rfl zJ (wAV (sz:=1) (fun _=>rfl) _ _ 0 _ ux (by first | omega | rfl | simp) rfl)) rfl (zY rfl rfl rfl rfl (fun _=>zG rfl mU yd rfl zC) (ZF rfl rfl rfl rfl (bm.ldB (j:=0) rfl rfl rfl zJ (v:=jV aj.count) rfl) rfl (zY rfl rfl rfl rfl (fun _=>zb rfl rfl rfl) (zo rfl rfl rfl rfl rfl mT (zY rfl rfl rfl rfl (fun _=>Zb rfl rfl a6 rfl zH zC (wBO bi) (wBP bi)) (zn ?_ ?_))))))
 refine ZR Z Z Z Z (bm.ldB (j:=6) Z Z Z ZL (v:=.slice ao ax.length ap) Z) ?_
 have uy:=wBA (xs:=ak) (wAT bi)
 refine yW (j:=4) (vs:=[jV (w64 ((gd ak aj.from_.toNat) + aj.count))]) (cs':=hD KL.encI (nH ak aj.to_.toNat (w64 ((gd ak aj.from_.toNat) + aj.count)))) rfl rfl rfl rfl bm rfl a6 rfl rfl rfl zC (by rw [wAE (f:=KL.encI) (sz:=1) (fun _=>rfl)];have hz:=wAT bi;show _ + 1 <= _;first | omega | (simp only [nB];omega) | (simp only [nA,hH,hJ];omega)) rfl (wBt (sz:=1) (fo:=0) (fun _=>rfl) _ _ _ _ uy (by first | omega | (simp only [nB];omega) | (simp only [nA,hH,hJ];omega)) (zA rfl) rfl) rfl ?_
 intro gE tc
 have te:SW w [B1,.obj aa (.map ac ae)] U az [.blk aK 130 ay,.blk b4 118 B0,B1,.obj aa (.map ac ae),aS,aQ,bf] gE:=tc
 let dz:Res:=.blk b8 118 [.slice am ((nH ak aj.to_.toNat (w64 ((gd ak aj.from_.toNat) + aj.count))).length) an,.slice ao ax.length ap]
 have jX:SW w [B1,.obj aa (.map ac ae)] U az [.blk aK 130 ay,.blk b4 118 B0,B1,.obj aa (.map ac ae),aS,aQ,dz] gE:=by simpa only [B0,B1,ay,aQ,bf,aS,dz,nD] using te
 obtain ⟨wr,jM⟩:=jX.rowSome (j:=5) rfl (by rw [wAE (f:=KL.encI) (sz:=1) (fun _=>rfl) ax];have hz:=wAT be;omega)
 refine oR Z (Zb Z Z jM Z zH zC (wBO be) (wBP be)) ?_
 have uz:=wBA (xs:=ax) (wAT be)
 refine yW (j:=5) (vs:=[jV (↑aH:Int)]) (cs':=hD KL.encI (nH ax aj.to_.toNat (↑aH:Int))) rfl rfl rfl rfl jX rfl jM rfl rfl rfl zC (by rw [wAE (f:=KL.encI) (sz:=1) (fun _=>rfl)];have hz:=wAT be;show _ + 1 <= _;first | omega | (simp only [nB];omega) | (simp only [nA,hH,hJ];omega)) rfl (wBt (sz:=1) (fo:=0) (fun _=>rfl) _ _ _ _ uz (by first | omega | (simp only [nB];omega) | (simp only [nA,hH,hJ];omega)) (zA rfl) rfl) rfl ?_
 intro gF tg
 have th:SW w [B1,.obj aa (.map ac ae)] U az [.blk aK 130 ay,.blk b4 118 B0,B1,.obj aa (.map ac ae),aS,bu,dz] gF:=tg
 have tj:SW w [B1,.obj aa (.map ac ae)] U az [.blk aK 130 ay,.blk b4 118 B0,B1,.obj aa (.map ac ae),aS,bu,cD] gF:=by simpa only [B0,B1,ay,aS,cD,bu,dz,nD] using th
 refine zc ?_
 cases k5
 exact zI ⟨Z,⟨az,iL,iM,iN,cX,dS,iO,iP,iQ,iR,iS,(zO _),tj⟩⟩
 have uA:=wBA (xs:=ak) (wAT bi)
 refine yW (j:=4) (vs:=[jV (w64 ((gd ak aj.from_.toNat) + aj.count))]) (cs':=hD KL.encI (nH ak aj.to_.toNat (w64 ((gd ak aj.from_.toNat) + aj.count)))) rfl rfl rfl rfl bm rfl a6 rfl rfl rfl zC (by rw [wAE (f:=KL.encI) (sz:=1) (fun _=>rfl)];have hz:=wAT bi;show _ + 1 <= _;first | omega | (simp only [nB];omega) | (simp only [nA,hH,hJ];omega)) rfl (wBt (sz:=1) (fo:=0) (fun _=>rfl) _ _ _ _ uA (by first | omega | (simp only [nB];omega) | (simp only [nA,hH,hJ];omega)) (zA rfl) rfl) rfl ?_
 intro gG tk
 have tm:SW w [B1,.obj aa (.map ac ae)] U az [.blk aK 130 ay,.blk b4 118 B0,B1,.obj aa (.map ac ae),aS,aQ,bf] gG:=tk
 let dA:Res:=.blk b8 118 [.slice am ((nH ak aj.to_.toNat (w64 ((gd ak aj.from_.toNat) + aj.count))).length) an,.slice ao ax.length ap]
 have eX:SW w [B1,.obj aa (.map ac ae)] U az [.blk aK 130 ay,.blk b4 118 B0,B1,.obj aa (.map ac ae),aS,aQ,dA] gG:=by simpa only [B0,B1,ay,aQ,bf,aS,dA,nD] using tm
 refine ZR Z Z Z Z (eX.ldB (j:=6) Z Z Z ZL (v:=.slice ao ax.length ap) Z) ?_
 obtain ⟨ws,jN⟩:=eX.rowSome (j:=5) rfl (by rw [wAE (f:=KL.encI) (sz:=1) (fun _=>rfl) ax];have hz:=wAT be;omega)
 refine oR Z (Zb Z Z jN Z zH zC (wBO be) (wBP be)) ?_
 have uB:=wBA (xs:=ax) (wAT be)
 refine yW (j:=5) (vs:=[jV (↑aH:Int)]) (cs':=hD KL.encI (nH ax aj.to_.toNat (↑aH:Int))) rfl rfl rfl rfl eX rfl jN rfl rfl rfl zC (by rw [wAE (f:=KL.encI) (sz:=1) (fun _=>rfl)];have hz:=wAT be;show _ + 1 <= _;first | omega | (simp only [nB];omega) | (simp only [nA,hH,hJ];omega)) rfl (wBt (sz:=1) (fo:=0) (fun _=>rfl) _ _ _ _ uB (by first | omega | (simp only [nB];omega) | (simp only [nA,hH,hJ];omega)) (zA rfl) rfl) rfl ?_
 intro gH tn
 have tp:SW w [B1,.obj aa (.map ac ae)] U az [.blk aK 130 ay,.blk b4 118 B0,B1,.obj aa (.map ac ae),aS,bu,dA] gH:=tn
 have tq:SW w [B1,.obj aa (.map ac ae)] U az [.blk aK 130 ay,.blk b4 118 B0,B1,.obj aa (.map ac ae),aS,bu,cD] gH:=by simpa only [B0,B1,ay,aS,cD,bu,dA,nD] using tp
 refine zc ?_
 cases k5
 exact zI ⟨Z,⟨az,iL,iM,iN,cX,dS,iO,iP,iQ,iR,iS,(zO _),tq⟩⟩
 rintro xp v4 ⟨lO,mW,mX,mY,mZ,m3,m4,m5,m6,m7,m8,vi,tr⟩
 refine rR fL2 Z (oM Z m3 (oA Z Z (zc (ZA ?_))))
 cases k3
 exact zI ⟨rfl,⟨lO,mW,mX,mY,mZ,rfl,m4,m5,m6,m7,m8,vi,(tr.pick [1,2,3,4,5,6] _ (by decide) rfl),(nD.trans cm),(nD.trans cn)⟩⟩
 intro ey uV
 refine cF Z ey (Zp (ZA ?_))
 cases uV
 exact zI ⟨rfl,⟨az,cd,bD,cf,aV,dQ,cg,ci,bE,bF,bg,(zO _),(aX.pick [1,2,3,4,5,6] _ (by decide) rfl),cm,cn⟩⟩
 intro av uW
 refine oF Z av (oF Z av (oF Z av (oF Z av (oF Z av (oF Z av (oF Z av (oF Z av (oF Z av (oF Z av (oF Z av (oF Z av (oF Z av (oF Z av (oR Z (ze Z (zt av.out) Z) (eN (ZI Z (Zp (ZA ?_))))))))))))))))))
 cases uW
 exact zI ⟨rfl,⟨az,cd,bD,cf,aV,dQ,cg,ci,bE,bF,bg,(zO _),(aX.pick [1,2,3,4,5,6] _ (by decide) rfl),cm,cn⟩⟩
 rintro xq v5 ⟨lP,m9,n3,n4,n5,n6,n7,n8,n9,oa,oc,vj,tt,rz,rA⟩
 refine rR fL2 Z (oR Z (ZM (zb Z oc Z) (congrArg (jV) uD.out)) (oM Z Z (zc ?_)))
 cases j7
 exact zI ⟨Z,⟨lP,Z,m9,n3,n4,n5,n6,n7,n8,n9,oa,(lz.trans vj),tt,rz,rA⟩⟩
 rintro xr v7 ⟨ej,q5,od,oe,eI,iT,iU,og,oh,wv,oi,vk,eY,rB,rC⟩
 have mq:Hid (¬ ((↑(((↑p0.edges.length:Int):Int) - 0).toNat:Int) < (↑p0.edges.length:Int))):=zN (wAc)
 refine sR fL1 Z (oR Z (zi Z q5 oi) (eN (zL (cF Z mq (Zc (zm (zm (ZY (zI (sR fL2 Z (oM Z iU (oR Z (zi Z Z Z) (eN (ifc j6 ?_ ?_))))))))))))))
 intro ez uX
 refine cT Z ez (sR (.fl 0 gBz) Z ?_)
 let bQ:List Value:=[.slice am lI.length an,.slice ao lJ.length ap]
 refine oL Z (eY.ldBA (j:=5) Z Z iT Try.isAgg118 yE (vs:=bQ) Z Z) (zV (j:=0) (vs:=bQ) Z Z Z Z eY Z eI Z Z yE (zA Z) Z Z Z ?_)
 intro l7 tu
 have jY:SW w [B1,.obj aa (.map ac ae)] U ej [.blk b4 118 bQ,B1,.obj aa (.map ac ae),.row am an 3 1 (hD KL.encI lI),.row ao ap 3 1 (hD KL.encI lJ),.blk b8 118 bQ] l7:=tu
 refine oA Z Z (oA Z Z (eN (zU (zx (za ?_)))))
 have q:=wAh uX
 obtain ⟨vx,uY,ms⟩:=q
 have q:=wBw fk e0 (uc vx ms)
 obtain rfl:=q
 refine za (zx (za ?_))
 cases uY
 exact ⟨rfl,_,(wDf (rs:=[.cell 6 118,.tmp 7,.tmp 8]) (vs:=[.agg bQ.toArray,jV 0,.bool true]) ⟨⟨_,eI,(wAq Try.isAgg118 yE (jY.blkAt (k:=0) rfl) (vs:=bQ) rfl rfl)⟩,⟨rfl,⟨rfl,trivial⟩⟩⟩ rfl),ej,_,(jY.pick [3,4,1,2] _ (by decide) rfl),am,an,ao,ap,rfl,rfl⟩
 intro ez uZ
 refine cF Z ez (Zp (ZA (zI (rR fL2 Z (oR Z (ZM (zb Z oh Z) (congrArg (jV) uC.out)) (oM Z Z (zc ?_)))))))
 have q:=nE uZ
 obtain rfl:=q
 exact zI ⟨Z,_,Z,⟨ej,Z,od,oe,eI,iT,iU,og,(ly.trans vk),eY,rB,rC⟩⟩
 rintro ⟨lK,lL,vz⟩ xt v9 ⟨f8,q6,ww,wx,iV,oj,ol,om,wX,jZ,wO,wP⟩ ud
 have k7:=wCx fk e0 ud
 try dsimp only at k7
 have mr:Hid (¬ ((↑((w64 ((↑(p0.number.length):Int) + 1):Int) - 0).toNat:Int) < (w64 ((↑(p0.number.length):Int) + 1)))):=zN (wAc)
 refine sR fL1 Z (oR Z (zi Z q6 om) (eN (zL (cF Z mr (Zc (zm (zm (ZY (zI (sR (.fl 0 (.fl 1 (.fx 2 (.fl 3 (.fl 4 .nil)) .stop))) Z ?_))))))))))
 let bR:List Value:=[.slice am lK.length an,.slice ao lL.length ap]
 refine oL Z (jZ.ldBA (j:=5) Z Z oj Try.isAgg118 yE (vs:=bR) Z Z) (oM Z ol (zV (j:=0) (vs:=bR) Z Z Z Z jZ Z iV Z Z yE (zA Z) Z Z Z ?_))
 intro l8 tv
 have j0:SW w [B1,.obj aa (.map ac ae)] U f8 [.blk b4 118 bR,B1,.obj aa (.map ac ae),.row am an 3 1 (hD KL.encI lK),.row ao ap 3 1 (hD KL.encI lL),.blk b8 118 bR] l8:=tv
 refine oA Z Z (oA Z Z (eN (zU ?_)))
 cases k7
 exact ⟨rfl,_,(wDf (rs:=[.cell 6 118,.tmp 7,.tmp 8]) (vs:=[.agg bR.toArray,jV vz,.bool false]) ⟨⟨_,iV,(wAq Try.isAgg118 yE (j0.blkAt (k:=0) rfl) (vs:=bR) rfl rfl)⟩,⟨rfl,⟨rfl,trivial⟩⟩⟩ rfl),f8,_,(j0.pick [3,4,1,2] _ (by decide) rfl),am,an,ao,ap,rfl,rfl⟩
end Go.Proofs.Ytlnfbjphfoipaaa
