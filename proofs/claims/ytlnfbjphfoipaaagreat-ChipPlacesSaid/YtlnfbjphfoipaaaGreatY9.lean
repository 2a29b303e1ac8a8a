import Derived.Test.YtlnfbjphfoipaaaGreatY7
import Derived.Test.YtlnfbjphfoipaaaGreatY6
import Derived.Test.YtlnfbjphfoipaaaGreatY8
set_option linter.all false
open List renaming flatMap->hH,set->nE,length_set->nH,getElem_cons_succ->nI,getElem_cons_zero->nJ,replicate->nK,getElem_toArray->nL
open Option.some renaming inj->nA
open Go.Value renaming bool->nB
open Bool renaming eq_false_iff->nD
open Int renaming toNat_natCast->nG
namespace Go.Proofs.YtlnfbjphfoipaaaGreat
open Go.KL
def gDc:Sch:=.fx 0 (.fl 1 .nil) .stop
def gDd:Sch:=.fx 1 (.fl 2 .nil) .stop
def gDe:Sch:=.fl 0 (.fx 1 .nil .stop)
def gDf:Sch:=.fx 3 (.fl 4 .nil) .stop
def gDg:Sch:=.fx 8 (.fl 9 .nil) .stop
def gDh:Sch:=.fx 6 (.fx 7 .nil .stop) .stop
def gDi:Sch:=.fl 0 gDd
def gDj:Sch:=.fx 0 (.fl 1 (.fl 2 .nil)) .stop
def gDk:Sch:=.fx 16 (.fl 17 (.fl 18 .nil)) .stop
def gDl:Sch:=.fx 0 gDd .stop
def gDm:Sch:=.fx 5 gDh .stop
def gDn:Sch:=.fx 4 gDh .stop
def gDo:Sch:=.fx 3 gDh .stop
def gDp:Sch:=.fx 15 gDk .stop
def gDq:Sch:=.fx 1 gDo .stop
def gDr:Sch:=.fl 0 (.fl 1 (.fx 2 gDf .stop))
def gDs:Sch:=.fl 0 (.fl 1 (.fx 2 (.fx 3 (.fx 4 .nil .stop) .stop) .stop))
def gDt:Sch:=.fx 3 gDm (.fx 5 gDo .stop)
def gDu:Sch:=.fx 3 gDn (.fx 4 gDo .stop)
def gDv:Sch:=.fl 0 (.fl 1 (.fx 2 (.fl 3 (.fx 4 (.fl 5 (.fl 6 .nil)) .stop)) .stop))
set_option maxHeartbeats 4000000
theorem wFg (p0:wAK) (ak:Option Addr) (au:Nat) (am:Option Addr) (av:Nat) (ap:Option Addr) (az:Nat) (aq:Option Addr) (aV:Nat) (w:World) (U:PHeap) (hS:St0 w U []) (bP:Sl U 1 ak au p0.Starts.length (hH KL.encI p0.Starts)) (bQ:Sl U 2 am av p0.Splits.length (hH wAB p0.Splits)) (bR:Sl U 3 ap az p0.Clocks.length (hH wAG p0.Clocks)) (bS:Sl U 4 aq aV p0.Readings.length (hH wAF p0.Readings)) {r:Bool} (hm:wBv p0=some r):Gv Tryz.prog 72 [.agg #[.slice ak p0.Starts.length au,.slice am p0.Splits.length av,.slice ap p0.Clocks.length az,.slice aq p0.Readings.length aV]] w (wCp w [] U (fun U_ L_ v=>v=.bool r/\L_=[])):=by
 unfold wBv at hm
 refine Gv.of Tryz.func72 Z Tryz.ntmps72 Tryz.results72 Z (sR gDc Z ?_)
 let B0:List Value:=[.slice ak p0.Starts.length au,.slice am p0.Splits.length av,.slice ap p0.Clocks.length az,.slice aq p0.Readings.length aV]
 refine ZE (cs:=B0) rfl rfl rfl rfl rfl rfl (by rfl) hS ?_
 intro W1 b2 bo
 refine oA Z Z (eN (sR gDi Z (oL Z (bo.ldBA (j:=0) Z Z Z ZY ZN (vs:=B0) Z Z) (bnK hm fun x5 h6 bf=>zK 0 Z Z Z Z (zL Z Z Tryz.call67 (zD Z zQ) Z) bo (fun hs=>wDG p0 ak au am av ap az aq aV W1 U hs bP bQ bR bS h6) (.inr Z) ?_))))
 rintro U8 L9 cy bh cr bK ⟨bg,bi,bk,rfl,rfl⟩
 have bL:sW w U U8 [.row bg bi 22 1 (hH wDO bk),inn 3 1 KL.encI bk x5,.blk b2 36 B0] bh:=bK
 have q:=St.freezeN (R:=wIM) bL (fun _ _ _ _ h=>⟨_,_,rfl,h⟩) (fun _=>rfl) (by decide) rfl
 obtain ⟨aW,ct,cf,bM⟩:=q
 have bN:sW w U aW [.blk b2 36 B0] bh:=bM
 refine oA Z Z (eN (zH (sR fL1 Z (oA Z Z (eN (zW ?_))))))
 have q:=wCH bf
 obtain ⟨cx,bb⟩:=q
 have q:=wCG bb
 obtain ⟨be,bV⟩:=q
 replace be:=zI be
 refine yG (fun ab _ σ_ w_=>∃ (U_:PHeap),σ_ 4=jV (↑ab:Int)/\σ_ 3=.slice bg x5.length bi/\PHeap.Le aW U_/\sW w U U_ [.blk b2 36 B0] w_) bV ?_ ?_ ?_
 exact ⟨aW,Z,Z,(zM _),bN⟩
 rintro ab ⟨⟩ cA cC cn bd ⟨aX,ai,a0,br,aj⟩ bq bT
 try dsimp only at bq
 have bj:Hid ((↑ab:Int) < (↑x5.length:Int)):=zI (wBJ bd)
 replace bd:=zI bd
 have bW:Hid (w64 ((↑ab:Int) + 1)=(↑(ab + 1):Int)):=zI (by have h1:=be.out;have h2:=bj.out;rw [wAX] <;> omega)
 refine zH (sR fL4 Z (oM Z ai (oM Z a0 (oR Z (zd Z Z zR) (oR Z (zX Z Z Z) (eN (cT Z bj (kN (zH (zW (sR fL8 Z (oM Z a0 (oM Z ai (bnK bq fun x44 bm bX=>?_))))))))))))))
 have bE:=cf.le br
 have q:=bE.el (wAS bm)
 obtain ⟨bz,cg,cz,bH,ba,cd⟩:=q
 obtain ⟨bs,bt,rfl,bF⟩:=cd
 replace ba:Cl aX bz (cg + ab * 1) [.slice bs x44.length bt]:=ba
 refine oR Z (ZL Z Z bH Z zR zS (wBk bm)) (oL Z (aj.ldC (f:=0) ba (v:=.slice bs x44.length bt) Z Z zY Z) (oM Z ai (bnK bX fun x57 bn bY=>?_)))
 have q:=bF.el (fun _=>rfl) (wAS bn)
 obtain ⟨cq,cw,bI,bJ⟩:=q
 refine oR Z (ZL Z Z bI Z zC zB (wBk bn)) (oL Z (aj.ldC (f:=0) bJ (v:=jV x57) Z Z zF Z) (oR Z (zX Z Z Z) (eN (ifc bY ?_ ?_))))
 intro aZ bZ
 refine cT Z aZ (sR fL1 Z (oA Z Z (eN (zP (zg (zN ?_))))))
 have q:=wAZ bZ
 obtain ⟨cj,b5,bB⟩:=q
 obtain rfl:=wCA bf bb (bT cj bB)
 refine zN (zg (zN ?_))
 have hE:=nA b5;first | subst r | cases hE
 exact ⟨rfl,_,(ZH rfl),aX,_,(aj.pick [] _ (by decide) rfl),rfl,rfl⟩
 intro aZ cb
 refine cF Z aZ (Zh (zq (zG (rR fL3 Z (oM Z ai (oR Z (ZP (zZ Z Z Z) (congrArg (jV) bW.out)) (oA Z Z (zh ?_))))))))
 obtain rfl:=nA cb
 exact zG ⟨Z,_,Z,⟨aX,Z,a0,br,aj⟩⟩
 rintro ⟨⟩ cD cp ⟨bu,bD,bC,cu,bO⟩ bU
 have bp:=wCu bf bb bU
 try dsimp only at bp
 have bA:Hid (¬ ((↑(((↑x5.length:Int):Int) - 0).toNat:Int) < (↑x5.length:Int))):=zI (wAj)
 refine zH (sR fL4 Z (oM Z bD (oM Z bC (oR Z (zd Z Z zR) (oR Z (zX Z Z Z) (eN (cF Z bA (ZT (zf (zf (ZK (zG (sR fL1 Z (oA Z Z (eN (zP ?_))))))))))))))))
 have hE:=nA bp;first | subst r | cases hE
 exact ⟨rfl,_,(ZH rfl),bu,_,(bO.pick [] _ (by decide) rfl),rfl,rfl⟩
theorem wFU (p0:wAK) (ae:Option Addr) (ak:Nat) (ah:Option Addr) (am:Nat) (ai:Option Addr) (ap:Nat) (aj:Option Addr) (aq:Nat) (w:World) (U:PHeap) (hS:St0 w U []) (bb:Sl U 1 ae ak p0.Starts.length (hH KL.encI p0.Starts)) (bd:Sl U 2 ah am p0.Splits.length (hH wAB p0.Splits)) (be:Sl U 3 ai ap p0.Clocks.length (hH wAG p0.Clocks)) (bf:Sl U 4 aj aq p0.Readings.length (hH wAF p0.Readings)) {r:Int} (hm:wBm p0=some r):Gv Tryz.prog 38 [.agg #[.slice ae p0.Starts.length ak,.slice ah p0.Splits.length am,.slice ai p0.Clocks.length ap,.slice aj p0.Readings.length aq]] w (wCp w [] U (fun U_ L_ v=>v=jV r/\L_=[])):=by
 unfold wBm at hm
 refine Gv.of Tryz.func38 Z Tryz.ntmps38 Tryz.results38 Z (sR gDc Z ?_)
 let B0:List Value:=[.slice ae p0.Starts.length ak,.slice ah p0.Splits.length am,.slice ai p0.Clocks.length ap,.slice aj p0.Readings.length aq]
 refine ZE (cs:=B0) rfl rfl rfl rfl rfl rfl (by rfl) hS ?_
 intro W1 b2 a0
 refine oA Z Z (eN (zH (sR gDi Z (oL Z (a0.ldBA (j:=0) Z Z Z ZY ZN (vs:=B0) Z Z) (bnK hm fun x5 h6 bw=>zK 0 Z Z Z Z (zL Z Z Tryz.call34 (zD Z zQ) Z) a0 (fun hs=>wDE p0 ae ak ah am ai ap aj aq W1 U hs bb bd be bf h6) (.inr Z) ?_)))))
 rintro U8 L9 bC aY au bp ⟨rfl,rfl⟩
 have aX:sW w U U8 [.blk b2 36 B0] aY:=bp
 refine oA Z Z (eN (sR fL2 Z (oM Z Z (oR Z (Zo Z Z Z) (eN (ifc bw ?_ ?_))))))
 intro aV br
 refine zx (Ze (fun h=>h aV.out)) (kN (zH (sR gDe Z (oL Z (aX.ldBA (j:=0) Z Z Z ZY ZN (vs:=B0) Z Z) ?_))))
 have bi:=bb.le au
 have bj:=bd.le au
 have bk:=be.le au
 have bm:=bf.le au
 refine bnK br fun bE bn bs=>zK 0 Z Z Z Z (zL Z Z Tryz.call72 (zD Z zQ) Z) aX (fun hs=>wFg p0 ae ak ah am ai ap aj aq aY U8 hs bi bj bk bm bn) (.inr Z) ?_
 rintro av bz bD bh bB bq ⟨rfl,rfl⟩
 have ba:sW w U av [.blk b2 36 B0] bh:=bq
 refine eN (ifc bs ?_ ?_)
 intro aW bt
 refine ZG (congrArg nB aW.out) (sR fL1 Z (oA Z Z (eN (zP (zN ?_)))))
 cases bt
 exact ⟨rfl,_,(ZH rfl),av,_,(ba.pick [] _ (by decide) rfl),rfl,rfl⟩
 intro aW bu
 refine zx (congrArg nB (nD.2 aW.out)) (kN (sR fL1 Z (oA Z Z (eN (zP ?_)))))
 cases bu
 exact ⟨rfl,_,(ZH rfl),av,_,(ba.pick [] _ (by decide) rfl),rfl,rfl⟩
 intro aV bv
 refine cT Z aV (sR fL2 Z (oM Z Z (oA Z Z (eN (zP (zN ?_))))))
 have hE:=nA bv;first | subst r | cases hE
 exact ⟨rfl,_,(ZH rfl),U8,_,(aX.pick [] _ (by decide) rfl),rfl,rfl⟩
theorem wEI (p0:wAK) (ah:Option Addr) (am:Nat) (ai:Option Addr) (ap:Nat) (aj:Option Addr) (aq:Nat) (ak:Option Addr) (au:Nat) (p1:wAW) (p2:wAW) (w:World) (U:PHeap) (hS:St0 w U []) (bB:Sl U 1 ah am p0.Starts.length (hH KL.encI p0.Starts)) (bC:Sl U 2 ai ap p0.Splits.length (hH wAB p0.Splits)) (bD:Sl U 3 aj aq p0.Clocks.length (hH wAG p0.Clocks)) (bE:Sl U 4 ak au p0.Readings.length (hH wAF p0.Readings)) {r:Int} (hm:wAu p0 p1 p2=some r):Gv Tryz.prog 46 [.agg #[.slice ah p0.Starts.length am,.slice ai p0.Splits.length ap,.slice aj p0.Clocks.length aq,.slice ak p0.Readings.length au],.agg #[jV p1.Skier,jV p1.Mat],.agg #[jV p2.Skier,jV p2.Mat]] w (wCp w [] U (fun U_ L_ v=>v=jV r/\L_=[])):=by
 unfold wAu at hm
 refine Gv.of Tryz.func46 Z Tryz.ntmps46 Tryz.results46 Z (sR (.fx 0 (.fx 1 (.fx 2 (.fl 3 .nil) .stop) .stop) .stop) Z ?_)
 let B0:List Value:=[.slice ah p0.Starts.length am,.slice ai p0.Splits.length ap,.slice aj p0.Clocks.length aq,.slice ak p0.Readings.length au]
 refine ZE (cs:=B0) rfl rfl rfl rfl rfl rfl (by rfl) hS ?_
 intro W1 b2 bQ
 let B1:List Value:=[jV p1.Skier,jV p1.Mat]
 refine ZE (cs:=B1) rfl rfl rfl rfl rfl rfl (by rfl) bQ ?_
 intro W5 b6 bT
 let B2:List Value:=[jV p2.Skier,jV p2.Mat]
 refine ZE (cs:=B2) rfl rfl rfl rfl rfl rfl (by rfl) bT ?_
 intro W9 aX bA
 refine oA Z Z (eN (zH (sR gDi Z (oL Z (bA.ldBA (j:=2) Z Z Z ZY ZN (vs:=B0) Z Z) (bnK hm fun cA bH bW=>zK 0 Z Z Z Z (zL Z Z Tryz.call34 (zD Z zQ) Z) bA (fun hs=>wDE p0 ah am ai ap aj aq ak au W9 U hs bB bC bD bE bH) (.inr Z) ?_)))))
 rintro bf cm cw bn bb bP ⟨rfl,rfl⟩
 have a0:sW w U bf [.blk aX 44 B2,.blk b6 44 B1,.blk b2 36 B0] bn:=bP
 refine oA Z Z (eN (sR fL2 Z (oM Z Z (oR Z (Zo Z Z Z) (eN (ifc bW ?_ ?_))))))
 intro bi bX
 refine zx (Ze (fun h=>h bi.out)) (kN (zH (sR (.fl 0 (.fl 1 (.fx 2 (wUr (.fx 6 (.fl 7 .nil) .stop)) .stop))) Z (oL Z (a0.ldBA (j:=2) Z Z Z ZY ZN (vs:=B0) Z Z) (oL Z (a0.ldBA (j:=1) Z Z Z Tryz.isAgg44 Tryz.sizeOf44 (vs:=B1) Z Z) ?_)))))
 have bq:=bB.le bb
 have br:=bC.le bb
 have bs:=bD.le bb
 have bt:=bE.le bb
 refine bnK bX fun cC bI bY=>zK 0 Z Z Z Z (zL Z Z Tryz.call110 (zD Z (zD Z zQ)) Z) a0 (fun hs=>wEW p0 ah am ai ap aj aq ak au p1 bn bf hs bq br bs bt bI) (.inr Z) ?_
 rintro bg cn cx bo bd bR ⟨rfl,rfl⟩
 have ba:sW w U bg [.blk aX 44 B2,.blk b6 44 B1,.blk b2 36 B0] bo:=bR
 refine oM Z Z (ifc bY ?_ ?_)
 intro ae bZ
 refine ZF Z Z Z (zi Z Z (congrArg nB ae.out) Z) (ZF Z Z Z (zi Z Z (congrArg nB ae.out) Z) (yJ Z Z Z (zi Z Z (congrArg nB ae.out) Z) (oR Z (zl Z (congrArg nB ae.out) Z) (eN (ZG Z (sR fL1 Z (oA Z Z (eN (zP (zN ?_))))))))))
 cases bZ
 exact ⟨rfl,_,(ZH rfl),bg,_,(ba.pick [] _ (by decide) rfl),rfl,rfl⟩
 intro ae b5
 refine ZI Z Z Z (zO Z Z (congrArg nB (nD.2 ae.out))) (ba.ldBA (j:=2) Z Z Z ZY ZN (vs:=B0) Z Z) Z (ZI Z Z Z (zO Z Z (congrArg nB (nD.2 ae.out))) (ba.ldBA (j:=0) Z Z Z Tryz.isAgg44 Tryz.sizeOf44 (vs:=B2) Z Z) Z ?_)
 have bu:=bq.le bd
 have bv:=br.le bd
 have bw:=bs.le bd
 have bz:=bt.le bd
 refine bnK b5 fun cD bJ cb=>zK 0 Z Z Z (zO Z Z (congrArg nB (nD.2 ae.out))) (zL Z Z Tryz.call110 (zD Z (zD Z zQ)) Z) ba (fun hs=>wEW p0 ah am ai ap aj aq ak au p2 bo bg hs bu bv bw bz bJ) (.inr Z) ?_
 rintro bh cp cy bp be bS ⟨rfl,rfl⟩
 have bk:sW w U bh [.blk aX 44 B2,.blk b6 44 B1,.blk b2 36 B0] bp:=bS
 refine oR Z (zt Z (congrArg nB (nD.2 ae.out)) Z) (eN (ifc cb ?_ ?_))
 intro bj cd
 refine ZG (congrArg nB bj.out) (sR fL1 Z (oA Z Z (eN (zP (zN ?_)))))
 cases cd
 exact ⟨rfl,_,(ZH rfl),bh,_,(bk.pick [] _ (by decide) rfl),rfl,rfl⟩
 intro bj cf
 refine zx (congrArg nB (nD.2 bj.out)) (kN (sR gDi Z (oL Z (bk.ldBA (j:=2) Z Z Z ZY ZN (vs:=B0) Z Z) ?_)))
 have bK:=bu.le be
 have bL:=bv.le be
 have bM:=bw.le be
 have bN:=bz.le be
 refine bnK cf fun x63 bO cg=>zK 0 Z Z Z Z (zL Z Z Tryz.call38 (zD Z zQ) Z) bk (fun hs=>wFU p0 ah am ai ap aj aq ak au bp bh hs bK bL bM bN bO) (.inr Z) ?_
 rintro bm cq cz bF cu bU ⟨rfl,rfl⟩
 have bV:sW w U bm [.blk aX 44 B2,.blk b6 44 B1,.blk b2 36 B0] bF:=bU
 refine oA Z Z (eN (zP ?_))
 have hE:=nA cg;first | subst r | cases hE
 exact ⟨rfl,_,(ZH rfl),bm,_,(bV.pick [] _ (by decide) rfl),rfl,rfl⟩
 intro bi cj
 refine cT Z bi (sR fL2 Z (oM Z Z (oA Z Z (eN (zP (zN ?_))))))
 have hE:=nA cj;first | subst r | cases hE
 exact ⟨rfl,_,(ZH rfl),bf,_,(a0.pick [] _ (by decide) rfl),rfl,rfl⟩
theorem wEJ (p0:wAK) (ak:Option Addr) (am:Nat) (aX:Option Addr) (a0:Nat) (aY:Option Addr) (ba:Nat) (aZ:Option Addr) (bb:Nat) (p1:Int) (w:World) (U:PHeap) (hS:St0 w U []) (cJ:Sl U 1 ak am p0.Starts.length (hH KL.encI p0.Starts)) (cK:Sl U 2 aX a0 p0.Splits.length (hH wAB p0.Splits)) (cL:Sl U 3 aY ba p0.Clocks.length (hH wAG p0.Clocks)) (cM:Sl U 4 aZ bb p0.Readings.length (hH wAF p0.Readings)) {r:(List (List Int)) × Int} (hm:wAv p0 p1=some r):Gv Tryz.prog 43 [.agg #[.slice ak p0.Starts.length am,.slice aX p0.Splits.length a0,.slice aY p0.Clocks.length ba,.slice aZ p0.Readings.length bb],jV p1] w (wCp w [] U (fun U_ L_ v=>∃ (A0:Option Addr) (c0:Nat) (cj:List Value),v=.tuple #[.slice A0 r.1.length c0,jV r.2]/\L_=[.row A0 c0 22 1 cj]/\RlL U_ wIM r.1 cj)):=by
 unfold wAv at hm
 refine Gv.of Tryz.func43 Z Tryz.ntmps43 Tryz.results43 Z (sR gDj Z ?_)
 let B0:List Value:=[.slice ak p0.Starts.length am,.slice aX p0.Splits.length a0,.slice aY p0.Clocks.length ba,.slice aZ p0.Readings.length bb]
 refine ZE (cs:=B0) rfl rfl rfl rfl rfl rfl (by rfl) hS ?_
 intro W1 b2 cI
 refine oA Z Z (oA Z Z (eN (zH (sR (wIc (.fx 5 (.fl 6 .nil) .stop)) Z (oL Z (cI.ldBA (j:=0) Z Z Z ZY ZN (vs:=B0) Z Z) (oM Z Z (oR Z (ZO (pv:=[(0,jV 0),(1,jV p1)]) (z:=[jV 0,jV 0]) (cs:=[jV 0,jV p1]) Z (wAH Z (wAH Z wAY)) Tryz.zeroValue44 wMV Z Z) (oM Z Z (oR Z (ZO (pv:=[(0,jV 0),(1,jV p1)]) (z:=[jV 0,jV 0]) (cs:=[jV 0,jV p1]) Z (wAH Z (wAH Z wAY)) Tryz.zeroValue44 wMV Z Z) (bnK hm fun x5 h6 eZ=>zK 0 Z Z Z Z (zL Z Z Tryz.call46 (zD Z (zD Z (zD Z zQ))) Z) cI (fun hs=>wEI p0 ak am aX a0 aY ba aZ bb (⟨0,p1⟩:wAW) (⟨0,p1⟩:wAW) W1 U hs cJ cK cL cM h6) (.inr Z) ?_))))))))))
 rintro U8 L9 fA bZ bs d6 ⟨rfl,rfl⟩
 have bN:sW w U U8 [.blk b2 36 B0] bZ:=d6
 refine oA Z Z (eN (sR fL2 Z (oM Z Z (oR Z (Zo Z Z Z) (eN (ifc eZ ?_ ?_))))))
 intro bE eL
 refine zx (Ze (fun h=>h bE.out)) (kN (sR gDi Z (oL Z (bN.ldBA (j:=0) Z Z Z ZY ZN (vs:=B0) Z Z) ?_)))
 have cx:=cJ.le bs
 have cy:=cK.le bs
 have cz:=cL.le bs
 have cA:=cM.le bs
 refine bnK eL fun bT dT eV=>zK 0 Z Z Z Z (zL Z Z Tryz.call67 (zD Z zQ) Z) bN (fun hs=>wDG p0 ak am aX a0 aY ba aZ bb bZ U8 hs cx cy cz cA dT) (.inr Z) ?_
 rintro cZ ft fD cb bt eC ⟨bv,bG,cC,rfl,rfl⟩
 have eD:sW w U cZ [.row bv bG 22 1 (hH wDO cC),inn 3 1 KL.encI cC bT,.blk b2 36 B0] cb:=eC
 have q:=St.freezeN (R:=wIM) eD (fun _ _ _ _ h=>⟨_,_,rfl,h⟩) (fun _=>rfl) (by decide) rfl
 obtain ⟨bA,bu,fc,eE⟩:=q
 have eF:sW w U bA [.blk b2 36 B0] cb:=eE
 refine oA Z Z (eN (sR fL1 Z (oA Z Z (eN (zH (sR fL1 Z (oA Z Z (eN (zW (yh (fun (bn,x63) σ_ w_=>∃ (U_:PHeap) (bd:Option Addr) (be:Nat) (bj:List Value),σ_ 1=jV p1/\σ_ 2=.pointer (some ⟨b2,0,none⟩)/\σ_ 7=.slice bv bT.length bG/\σ_ 8=.slice bd bn.length be/\σ_ 9=jV x63/\PHeap.Le bA U_/\sW w U U_ [.blk b2 36 B0,.row bd be 22 1 bj] w_/\RlL U_ wIM bn bj) eV ?_ ?_))))))))))
 have eG:=eF.nilrow 22 1
 exact ⟨bA,none,0,[],rfl,rfl,rfl,rfl,rfl,(zM _),(eG.pick [1,0] _ (by decide) rfl),RlL.nil⟩
 rintro ⟨bn,x63⟩ fK fM fw ⟨bB,bd,be,bj,dt,cn,du,cp,cq,bg,bP,cD⟩ bR eI
 try dsimp only at bR
 refine zH (sR fL5 Z (oM Z cq (oR Z (zE Z cn zV Z zS) (oL Z (bP.ldB (j:=0) Z Z Z zY (v:=.slice ak p0.Starts.length am) Z) (oR Z (zd Z Z zC) (oR Z (zX Z Z Z) (eN ?_)))))))
 by_cases az:x63 < (↑p0.Starts.length:Int)
 have cQ:=bR;rw [if_pos az] at cQ;replace az:=zI az
 refine cT Z az (kN (zH (zW (sR fL1 Z (oA Z Z (eN (zH (sR fL1 Z (oA Z Z (eN (zW ?_)))))))))))
 let B1:Res:=.row bd be 22 1 bj
 refine yh (fun (ah,ap) σ_ w_=>∃ (U_:PHeap) (aq:Option Addr) (au:Nat),σ_ 1=jV p1/\σ_ 2=.pointer (some ⟨b2,0,none⟩)/\σ_ 7=.slice bv bT.length bG/\σ_ 8=.slice bd bn.length be/\σ_ 9=jV x63/\σ_ 10=.slice aq ah.length au/\σ_ 11=jV ap/\PHeap.Le bB U_/\sW w U U_ [.blk b2 36 B0,B1,.row aq au 3 1 (hH KL.encI ah)] w_) cQ ?_ ?_
 have d5:=bP.nilrow 3 1
 exact ⟨bB,none,0,dt,cn,du,cp,cq,rfl,rfl,(zM _),(d5.pick [1,2,0] _ (by decide) rfl)⟩
 rintro ⟨ah,ap⟩ fJ fL bD ⟨cY,aq,au,bk,bf,bp,bH,bq,bI,bm,aj,bM⟩ bQ eH
 try dsimp only at bQ
 refine zH (sR fL5 Z (oM Z bm (oR Z (zE Z bf zV Z zS) (oL Z (bM.ldB (j:=0) Z Z Z zY (v:=.slice ak p0.Starts.length am) Z) (oR Z (zd Z Z zC) (oR Z (zX Z Z Z) (eN ?_)))))))
 by_cases av:ap < (↑p0.Starts.length:Int)
 have cN:=bQ;rw [if_pos av] at cN;replace av:=zI av
 refine cT Z av (kN (zH (zW (zH (ZD zy [3,1,3,3,2,3,1,1,3,3,2,3,1,3] (wEZ (wVA (.fx 4 (.fl 5 (.fl 6 (.fx 10 (wPq (.nil)) .stop))) .stop))) (by kernel_rfl) ?_)))))
 have br:=bM.drew
 generalize hw_W125:({ bD with drawn:=bD.drawn + 1 }:World)=db at br ⊢
 refine oM Z bp (oL Z (br.ldBA (j:=0) Z Z bf ZY ZN (vs:=B0) Z Z) (oM Z bq (oM Z bk (oL Z (br.ldBA (j:=0) Z Z bf ZY ZN (vs:=B0) Z Z) (oM Z bm (oM Z bk ?_))))))
 have dv:=cx.le bt
 have dw:=dv.le bu
 have dx:=dw.le bg
 have cr:=dx.le aj
 have dy:=cy.le bt
 have dz:=dy.le bu
 have dA:=dz.le bg
 have ct:=dA.le aj
 have dB:=cz.le bt
 have dC:=dB.le bu
 have dD:=dC.le bg
 have cu:=dD.le aj
 have dE:=cA.le bt
 have dF:=dE.le bu
 have dG:=dF.le bg
 have cw:=dG.le aj
 refine bnK cN fun x142 dH eJ=>zK 0 Z Z Z Z (zL Z Z yn (zD Z (zD Z (zD Z zQ))) Z) br (fun hs=>wAo p0 ak am aX a0 aY ba aZ bb x63 p1 db cY hs cr ct cu cw dH) (.inr Z) ?_
 rintro bz fm fB b5 aW d7 ⟨rfl,rfl⟩
 let B2:Res:=.row aq au 3 1 (hH KL.encI ah)
 have cE:sW w U bz [.blk b2 36 B0,B1,B2] b5:=d7
 refine bnK eJ fun cW bJ eK=>?_
 have dI:=fc.le bg
 have dJ:=dI.le aj
 have dK:=dJ.le aW
 have q:=dK.el (wAS bJ)
 obtain ⟨dl,fd,fE,dY,bL,e8⟩:=q
 obtain ⟨cU,cV,rfl,dL⟩:=e8
 replace bL:Cl bz dl (fd + x142.toNat * 1) [.slice cU cW.length cV]:=bL
 refine oR Z (ZC Z Z dY Z zR zS (wAx bJ) (wBA bJ)) (oL Z (cE.ldC (f:=0) bL (v:=.slice cU cW.length cV) Z Z zY Z) ?_)
 have dM:=cr.le aW
 have dN:=ct.le aW
 have dO:=cu.le aW
 have dP:=cw.le aW
 refine bnK eK fun fG dQ eM=>zK 0 Z Z Z Z (zL Z Z yn (zD Z (zD Z (zD Z zQ))) Z) cE (fun hs=>wAo p0 ak am aX a0 aY ba aZ bb ap p1 b5 bz hs dM dN dO dP dQ) (.inr Z) ?_
 rintro bh fq fC de bS d8 ⟨rfl,rfl⟩
 have bO:sW w U bh [.blk b2 36 B0,B1,B2] de:=d8
 refine bnK eM fun fh bK eO=>?_
 have dR:=dL.le bS
 have q:=dR.el (fun _=>rfl) (wAS bK)
 obtain ⟨fy,fz,dZ,d4⟩:=q
 refine oR Z (ZC Z Z dZ Z zC zB (wAx bK) (wBA bK)) (oL Z (bO.ldC (f:=0) d4 (v:=jV fh) Z Z zF Z) (oR Z (zX Z Z Z) (eN (ifc eO ?_ ?_))))
 intro bF eQ
 refine cT Z bF (rR gDr Z (oM Z bI (oM Z bm (ZW (pv:=[(0,jV ap)]) (zs:=[jV 0]) (cs:=[jV ap]) Z Z Z Z Z (wAH Z wAY) zC zB Za Z Z Z Z Z bO ?_))))
 intro df dm d9
 let B3:Res:=.row (some ⟨dm,0,none⟩) 1 3 1 (hH KL.encI [ap])
 have cG:sW w U bh [B3,.blk b2 36 B0,B1,B2] df:=d9
 refine bnK eQ fun cX dS eR=>yH (j:=3) (enc:=KL.encI) (xs:=ah) (ys:=[ap]) (zs:=cX) rfl rfl rfl rfl rfl Tryz.underlying22 wLg rfl rfl rfl rfl rfl rfl cG rfl rfl rfl (cG.srcR (j:=0) rfl (by decide) (wAI (f:=KL.encI) (sz:=1) (fun _=>rfl) [ap])) (fun _=>rfl) (fun _=>rfl) dS rfl ?_
 intro bV cf dg ef
 have eg:sW w U bh [B3,.blk b2 36 B0,B1,.row bV cf 3 1 (hH KL.encI cX)] dg:=ef
 refine oA Z Z (zh (zq (zG (rR fL3 Z (oM Z bm (oR Z (zZ Z Z Z) (oA Z Z (zh ?_))))))))
 obtain rfl:=nA eR
 exact zG ⟨rfl,_,rfl,⟨bh,bV,cf,bk,bf,bp,bH,bq,rfl,rfl,((aj.trans aW).trans bS),(eg.pick [1,2,3] _ (by decide) rfl)⟩⟩
 intro bF eS
 refine cF Z bF (Zh (zq (zG (rR fL3 Z (oM Z bm (oR Z (zZ Z Z Z) (oA Z Z (zh ?_))))))))
 obtain rfl:=nA eS
 exact zG ⟨Z,_,Z,⟨bh,aq,au,bk,bf,bp,bH,bq,bI,Z,((aj.trans aW).trans bS),bO⟩⟩
 have cO:=bQ;rw [if_neg av] at cO;replace av:=zI av
 refine cF Z av (ZT (zf ?_))
 have q:=wAZ cO
 obtain ⟨ff,eU,dq⟩:=q
 obtain rfl:=eH ff dq
 refine zf (ZK (zG (rR gDr Z (oM Z bH (oM Z bI ?_)))))
 have q:=bM.freezeR (k:=2) (n:=ah.length) rfl (wAI (f:=KL.encI) (sz:=1) (fun _=>rfl) ah) (by decide)
 obtain ⟨bi,cS,fb,ej⟩:=q
 have en:sW w U bi [.blk b2 36 B0,B1] bD:=ej
 let B4:List Value:=[.slice aq ah.length au]
 refine ZW (pv:=[(0,.slice aq ah.length au)]) (zs:=[.slice none 0 0]) (cs:=B4) Z Z Z Z Z (wAH Z wAY) zR zS Tryz.zeroValue22 Z Z Z Z Z en ?_
 intro dh dp eh
 have cR:RlL bi wIM [ah] B4:=(RlL.cons (R:=wIM) (x:=ah) (vs:=B4) ⟨aq,au,rfl,fb⟩ RlL.nil)
 let B5:Res:=.row (some ⟨dp,0,none⟩) 1 22 1 B4
 have cH:sW w U bi [B5,.blk b2 36 B0,B1] dh:=eh
 refine bnK eU fun fj dU eW=>?_
 have dV:=cD.le aj
 have dW:=dV.le cS
 refine OKS.appendR (R:=wIM) (j:=2) (xs:=bn) (ys:=[ah]) (zs:=fj) rfl rfl rfl rfl rfl Tryz.underlying49 wMW rfl rfl rfl rfl rfl rfl rfl cH rfl rfl rfl dW cR (cH.srcR (j:=0) rfl (by decide) (RlL.len cR)) dU rfl ?_
 intro bW cg cm dk eu e9
 have ey:sW w U bi [B5,.blk b2 36 B0,.row bW cg 22 1 cm] dk:=eu
 refine oA Z Z (zh (zq (zG (rR fL3 Z (oM Z bq (oR Z (zZ Z Z Z) (oA Z Z (zh ?_))))))))
 obtain rfl:=nA eW
 exact zG ⟨rfl,_,rfl,⟨bi,bW,cg,cm,bk,bf,bp,rfl,rfl,((bg.trans aj).trans cS),(ey.pick [1,2] _ (by decide) rfl),e9⟩⟩
 have cP:=bR;rw [if_neg az] at cP;replace az:=zI az
 refine cF Z az (ZT (zf ?_))
 have q:=wAZ cP
 obtain ⟨fg,eX,dr⟩:=q
 obtain rfl:=eI fg dr
 refine zf (ZK (zG (sR fL3 Z (oM Z cp (oA Z Z (oA Z Z (eN (zP ?_))))))))
 cases eX
 exact ⟨rfl,_,(wFJ rfl rfl),bB,_,(bP.pick [1] _ (by decide) rfl),bd,be,bj,rfl,rfl,cD⟩
 intro bE eY
 refine cT Z bE (sR fL3 Z (oM Z Z (oA Z Z (oA Z Z (eN (zP (zN ?_)))))))
 have eA:=bN.nilrow 22 1
 cases eY
 exact ⟨rfl,_,(wFJ rfl rfl),U8,_,(eA.pick [0] _ (by decide) rfl),none,0,[],rfl,rfl,RlL.nil⟩
theorem wFV (p0:wAK) (aq:Option Addr) (aV:Nat) (au:Option Addr) (aW:Nat) (av:Option Addr) (aX:Nat) (az:Option Addr) (aY:Nat) (p1:Int) (w:World) (U:PHeap) (hS:St0 w U []) (cJ:Sl U 1 aq aV p0.Starts.length (hH KL.encI p0.Starts)) (cK:Sl U 2 au aW p0.Splits.length (hH wAB p0.Splits)) (cL:Sl U 3 av aX p0.Clocks.length (hH wAG p0.Clocks)) (cM:Sl U 4 az aY p0.Readings.length (hH wAF p0.Readings)) {r:(List wAP) × Int} (hm:wBB p0 p1=some r):Gv Tryz.prog 41 [.agg #[.slice aq p0.Starts.length aV,.slice au p0.Splits.length aW,.slice av p0.Clocks.length aX,.slice az p0.Readings.length aY],jV p1] w (wCp w [] U (fun U_ L_ v=>∃ (A0:Option Addr) (c0:Nat),v=.tuple #[.slice A0 r.1.length c0,jV r.2]/\L_=[.row A0 c0 39 2 (hH wAB r.1)])):=by
 unfold wBB at hm
 refine Gv.of Tryz.func41 Z Tryz.ntmps41 Tryz.results41 Z (sR gDj Z ?_)
 let B0:List Value:=[.slice aq p0.Starts.length aV,.slice au p0.Splits.length aW,.slice av p0.Clocks.length aX,.slice az p0.Readings.length aY]
 refine ZE (cs:=B0) rfl rfl rfl rfl rfl rfl (by rfl) hS ?_
 intro W1 b2 cI
 refine oA Z Z (oA Z Z (eN (sR (.fl 0 (.fl 1 (.fx 2 (wSv (.nil)) .stop))) Z (oL Z (cI.ldBA (j:=0) Z Z Z ZY ZN (vs:=B0) Z Z) (oM Z Z ?_)))))
 have q:=bnd hm
 obtain ⟨⟨x5,x6⟩,h7,cO⟩:=q
 try dsimp only at cO
 refine zK 0 Z Z Z Z (zL Z Z Tryz.call43 (zD Z (zD Z zQ)) Z) cI (fun hs=>wEJ p0 aq aV au aW av aX az aY p1 W1 U hs cJ cK cL cM h7) (.inr Z) ?_
 rintro U9 fU gq bZ br eM ⟨bi,bm,dr,rfl,rfl,en⟩
 let B1:Res:=.row bi bm 22 1 dr
 have bO:sW w U U9 [B1,.blk b2 36 B0] bZ:=eM
 refine oM Z Z (oR Z (zu Z Z (v:=.slice bi x5.length bm) Z) (oR Z (zu Z Z (v:=jV x6) Z) (oA Z Z (oA Z Z (eN (zH (sR fL2 Z (oM Z Z (oR Z (Zo Z Z Z) (eN (ifc cO ?_ ?_)))))))))))
 intro bD fB
 refine zx (Ze (fun h=>h bD.out)) (kN (sR gDi Z (oL Z (bO.ldBA (j:=1) Z Z Z ZY ZN (vs:=B0) Z Z) ?_)))
 have cy:=cJ.le br
 have cz:=cK.le br
 have cA:=cL.le br
 have cC:=cM.le br
 refine bnK fB fun x27 eD fG=>zK 0 Z Z Z Z (zL Z Z Tryz.call67 (zD Z zQ) Z) bO (fun hs=>wDG p0 aq aV au aW av aX az aY bZ U9 hs cy cz cA cC eD) (.inr Z) ?_
 rintro db fY gv bB be eX ⟨bs,bE,cD,rfl,rfl⟩
 have eY:sW w U db [.row bs bE 22 1 (hH wDO cD),inn 3 1 KL.encI cD x27,B1,.blk b2 36 B0] bB:=eX
 have q:=St.freezeN (R:=wIM) eY (fun _ _ _ _ h=>⟨_,_,rfl,h⟩) (fun _=>rfl) (by decide) rfl
 obtain ⟨de,bf,fL,eZ⟩:=q
 have e8:sW w U de [B1,.blk b2 36 B0] bB:=eZ
 refine oA Z Z (eN (sR fL1 Z (oA Z Z (eN (zH (sR fL1 Z (oA Z Z (eN (zW ?_)))))))))
 have eE:=en.le be
 have eF:=eE.le bf
 have q:=e8.freezeRR (R:=wIM) (k:=0) rfl eF rfl (by decide)
 obtain ⟨bz,bg,fM,e9⟩:=q
 have fb:sW w U bz [.blk b2 36 B0] bB:=e9
 refine bnK fG fun gB fh fH=>?_
 have q:=wBc fh
 obtain ⟨bS,fj⟩:=q
 replace bS:=zI bS
 refine CK.forN' (fun ai ba σ_ w_=>∃ (U_:PHeap) (bb:Option Addr) (bd:Nat),σ_ 10=jV (↑ai:Int)/\σ_ 1=jV p1/\σ_ 2=.pointer (some ⟨b2,0,none⟩)/\σ_ 6=.slice bi x5.length bm/\σ_ 8=.slice bs x27.length bE/\σ_ 9=.slice bb ba.length bd/\PHeap.Le bz U_/\sW w U U_ [.blk b2 36 B0,.row bb bd 39 2 (hH wAB ba)] w_) fj ?_ ?_ ?_
 have fc:=fb.nilrow 39 2
 exact ⟨bz,none,0,rfl,rfl,rfl,rfl,rfl,rfl,(zM _),(fc.pick [1,0] _ (by decide) rfl)⟩
 rintro ai ba gA gG gb bQ ⟨bX,bb,bd,cq,dD,dE,cp,dF,dG,am,fd⟩ fO
 have cg:Hid ((↑ai:Int) < (↑x5.length:Int)):=zI (wBJ bQ)
 replace bQ:=zI bQ
 have fm:Hid (w64 ((↑ai:Int) + 1)=(↑(ai + 1):Int)):=zI (by have h1:=bS.out;have h2:=cg.out;rw [wAX] <;> omega)
 refine zH (sR fL4 Z (oM Z cq (oM Z cp (oR Z (zd Z Z zR) (oR Z (zX Z Z Z) (eN (cT Z cg (kN (zH (zW (sR fL1 Z (oA Z Z (eN (zH (sR fL1 Z (oA Z Z (eN (zW (bnK fO fun bh ff fq=>?_)))))))))))))))))))
 have q:=wBc ff
 obtain ⟨bR,fg⟩:=q
 replace bR:=zI bR
 let B2:Res:=.row bb bd 39 2 (hH wAB ba)
 refine CK.forN' (fun a0 cV σ_ w_=>∃ (U_:PHeap),σ_ 12=jV (↑a0:Int)/\σ_ 1=jV p1/\σ_ 2=.pointer (some ⟨b2,0,none⟩)/\σ_ 6=.slice bi x5.length bm/\σ_ 8=.slice bs x27.length bE/\σ_ 9=.slice bb ba.length bd/\σ_ 10=jV (↑ai:Int)/\σ_ 11=jV cV/\PHeap.Le bX U_/\sW w U U_ [.blk b2 36 B0,B2] w_) fg ?_ ?_ ?_
 exact ⟨bX,Z,dD,dE,cp,dF,dG,cq,Z,(zM _),fd⟩
 rintro a0 cV gz gC bY bP ⟨cZ,bp,bn,bo,bF,bG,cj,bH,cm,aj,eL⟩ fN
 have cd:Hid ((↑a0:Int) < (↑x5.length:Int)):=zI (wBJ bP)
 replace bP:=zI bP
 have cN:Hid (w64 ((↑a0:Int) + 1)=(↑(a0 + 1):Int)):=zI (by have h1:=bR.out;have h2:=cd.out;rw [wAX] <;> omega)
 refine zH (sR fL4 rfl (zz rfl rfl rfl rfl rfl bp (zz rfl rfl rfl rfl rfl bF (zk rfl rfl rfl rfl (fun _=>zd rfl rfl zR) (zk rfl rfl rfl rfl (fun _=>zX rfl rfl rfl) (eN (cT Z cd (kN (zH (zW (zH (ZD zy [3,1,3,3,2,3,1,1,3,3,2,3,1,3] (wEZ (wVA (.fx 4 (.fl 5 (.fl 6 (.fx 10 (wPq (.nil)) .stop))) .stop))) (by kernel_rfl) ?_))))))))))))
 have bq:=eL.drew
 generalize hw_W129:({ bY with drawn:=bY.drawn + 1 }:World)=dg at bq ⊢
 refine oM Z bG (oL Z (bq.ldBA (j:=0) Z Z bo ZY ZN (vs:=B0) Z Z) (oM Z bp (oM Z bn (oL Z (bq.ldBA (j:=0) Z Z bo ZY ZN (vs:=B0) Z Z) (oM Z bH (oM Z bn ?_))))))
 have dJ:=cy.le be
 have dK:=dJ.le bf
 have dL:=dK.le bg
 have dM:=dL.le am
 have cr:=dM.le aj
 have dN:=cz.le be
 have dO:=dN.le bf
 have dP:=dO.le bg
 have dQ:=dP.le am
 have ct:=dQ.le aj
 have dR:=cA.le be
 have dS:=dR.le bf
 have dT:=dS.le bg
 have dU:=dT.le am
 have cu:=dU.le aj
 have dV:=cC.le be
 have dW:=dV.le bf
 have dX:=dW.le bg
 have dY:=dX.le am
 have cw:=dY.le aj
 refine bnK fN fun fR dZ ft=>zK 0 Z Z Z Z (zL Z Z yn (zD Z (zD Z (zD Z zQ))) Z) bq (fun hs=>wAo p0 aq aV au aW av aX az aY (↑a0:Int) p1 dg cZ hs cr ct cu cw dZ) (.inr Z) ?_
 rintro bv fV gt b5 ak eO ⟨rfl,rfl⟩
 have cE:sW w U bv [.blk b2 36 B0,B2] b5:=eO
 refine bnK ft fun cW bJ fu=>?_
 have d4:=fL.le bg
 have d5:=d4.le am
 have d6:=d5.le aj
 have d7:=d6.le ak
 have q:=d7.el (wAS bJ)
 obtain ⟨dm,fP,gw,eH,bL,fJ⟩:=q
 obtain ⟨cQ,cS,rfl,d8⟩:=fJ
 replace bL:Cl bv dm (fP + fR.toNat * 1) [.slice cQ cW.length cS]:=bL
 refine oR Z (ZC Z Z eH Z zR zS (wAx bJ) (wBA bJ)) (oL Z (cE.ldC (f:=0) bL (v:=.slice cQ cW.length cS) Z Z zY Z) ?_)
 have d9:=cr.le ak
 have ef:=ct.le ak
 have eg:=cu.le ak
 have eh:=cw.le ak
 refine bnK fu fun gy ej fw=>zK 0 Z Z Z Z (zL Z Z yn (zD Z (zD Z (zD Z zQ))) Z) cE (fun hs=>wAo p0 aq aV au aW av aX az aY (↑ai:Int) p1 b5 bv hs d9 ef eg eh ej) (.inr Z) ?_
 rintro bw fW gu dh bT eQ ⟨rfl,rfl⟩
 have bN:sW w U bw [.blk b2 36 B0,B2] dh:=eQ
 refine bnK fw fun fS bK fy=>?_
 have eu:=d8.le bT
 have q:=eu.el (fun _=>rfl) (wAS bK)
 obtain ⟨ge,gm,eI,eK⟩:=q
 refine oR Z (ZC Z Z eI Z zC zB (wAx bK) (wBA bK)) (oL Z (bN.ldC (f:=0) eK (v:=jV fS) Z Z zF Z) (oR Z (yN Z Z Z) (eN (ifc fy ?_ ?_))))
 intro bC fz
 refine cT Z bC (rR fL3 Z (oM Z cm (oR Z (zZ Z Z Z) (oA Z Z (zh (zq (zG (rR fL3 Z (oM Z bp (oR Z (ZP (zZ Z Z Z) (congrArg (jV) cN.out)) (oA Z Z (zh ?_))))))))))))
 cases fz
 exact zG ⟨Z,⟨bw,Z,bn,bo,bF,bG,cj,bH,Z,((aj.trans ak).trans bT),bN⟩⟩
 intro bC fA
 refine cF Z bC (Zh (zq (zG (rR fL3 Z (oM Z bp (oR Z (ZP (zZ Z Z Z) (congrArg (jV) cN.out)) (oA Z Z (zh ?_))))))))
 cases fA
 exact zG ⟨Z,⟨bw,Z,bn,bo,bF,bG,cj,bH,cm,((aj.trans ak).trans bT),bN⟩⟩
 rintro gD fZ ⟨bk,dH,dw,dx,bI,dy,dz,cn,dA,cP,cG⟩
 have dt:Hid (¬ ((↑(((↑x5.length:Int):Int) - 0).toNat:Int) < (↑x5.length:Int))):=zI (wAj)
 refine zH (sR fL4 Z (oM Z dH (oM Z bI (oR Z (zd Z Z zR) (oR Z (zX Z Z Z) (eN (cF Z dt (ZT (zf (zf (ZK (zG (rR (wUi (.fx 10 (.fx 11 (.fl 12 .nil) .stop) .stop)) Z (oM Z dz (oM Z bI (oM Z cn (bnK fq fun aZ cx fC=>?_)))))))))))))))))
 have ey:=fM.le am
 have eA:=ey.le cP
 have q:=eA.el (wAS cx)
 obtain ⟨dp,fQ,gx,eJ,bM,fK⟩:=q
 obtain ⟨cR,cU,rfl,gi⟩:=fK
 replace bM:Cl bk dp (fQ + ai * 1) [.slice cR aZ.length cU]:=bM
 refine oR Z (ZL Z Z eJ Z zR zS (wBk cx)) (oL Z (cG.ldC (f:=0) bM (v:=.slice cR aZ.length cU) Z Z zY Z) (oR Z (zd Z Z zC) (oR Z (zZ Z Z Z) (oM Z dA (oR Z (zZ Z Z Z) ?_)))))
 let B3:List Value:=[jV (w64 (1 + (↑aZ.length:Int))),jV (w64 (1 + bh))]
 refine oR Z (ZO (pv:=[(0,jV (w64 (1 + (↑aZ.length:Int)))),(1,jV (w64 (1 + bh)))]) (z:=[jV 0,jV 0]) (cs:=B3) Z (wAH Z (wAH Z wAY)) yo wMU Z Z) (ZW (pv:=[(0,.agg B3.toArray)]) (zs:=[jV 0,jV 0]) (cs:=B3) Z Z Z Z Z (wAH Z wAY) zr ZR yo Z Z Z Z Z cG ?_)
 intro dk dq eR
 let B4:Res:=.row (some ⟨dq,0,none⟩) 1 39 2 (hH wAB [(⟨w64 (1 + (↑aZ.length:Int)),w64 (1 + bh)⟩:wAP)])
 have cH:sW w U bk [B4,.blk b2 36 B0,B2] dk:=eR
 refine bnK fC fun cX eC fD=>yH (j:=2) (enc:=wAB) (xs:=ba) (ys:=[(⟨w64 (1 + (↑aZ.length:Int)),w64 (1 + bh)⟩:wAP)]) (zs:=cX) rfl rfl rfl rfl rfl Tryz.underlying23 wPO rfl rfl rfl rfl rfl rfl cH rfl rfl rfl (cH.srcR (j:=0) rfl (by decide) (wAI (f:=wAB) (sz:=2) (fun _=>rfl) [(⟨w64 (1 + (↑aZ.length:Int)),w64 (1 + bh)⟩:wAP)])) (fun _=>rfl) (fun _=>rfl) eC rfl ?_
 intro bV cf dl eS
 have eU:sW w U bk [B4,.blk b2 36 B0,.row bV cf 39 2 (hH wAB cX)] dl:=eS
 refine oA Z Z (zh (zq (zG (rR fL3 Z (oM Z cn (oR Z (ZP (zZ Z Z Z) (congrArg (jV) fm.out)) (oA Z Z (zh ?_))))))))
 cases fD
 exact zG ⟨rfl,⟨bk,bV,cf,rfl,dw,dx,bI,dy,rfl,(am.trans cP),(eU.pick [1,2] _ (by decide) rfl)⟩⟩
 rintro gF ga ⟨da,cY,du,dI,gf,gg,dB,gh,dC,gj,eV⟩
 have dv:Hid (¬ ((↑(((↑x5.length:Int):Int) - 0).toNat:Int) < (↑x5.length:Int))):=zI (wAj)
 refine zH (sR fL4 Z (oM Z dI (oM Z dB (oR Z (zd Z Z zR) (oR Z (zX Z Z Z) (eN (cF Z dv (ZT (zf (zf (ZK (zG (sR fL3 Z (oM Z dC (oA Z Z (oA Z Z (eN (zP ?_))))))))))))))))))
 cases fH
 exact ⟨rfl,_,(wFJ rfl rfl),da,_,(eV.pick [1] _ (by decide) rfl),cY,du,rfl,rfl⟩
 intro bD fE
 refine cT Z bD (sR fL3 Z (oM Z Z (oA Z Z (oA Z Z (eN (zP (zN ?_)))))))
 have eW:=bO.nilrow 39 2
 cases fE
 exact ⟨rfl,_,(wFJ rfl rfl),U9,_,(eW.pick [0] _ (by decide) rfl),none,0,rfl,rfl⟩
end Go.Proofs.YtlnfbjphfoipaaaGreat
namespace Go.Proofs.YtlnfbjphfoipaaaGreat
open Go.KL
set_option maxHeartbeats 4000000
theorem wKY (p0:wAA) (bj:Option Addr) (bk:Nat) (br:Option Addr) (bu:Nat) (bs:Option Addr) (bv:Nat) (bt:Option Addr) (bw:Nat) (p1:Int) (w:World) (U:PHeap) (hS:St0 w U []) (d6:Sl U 1 bj bk p0.Starts.length (hH KL.encI p0.Starts)) (d7:Sl U 2 br bu p0.Splits.length (hH wAB p0.Splits)) (d8:Sl U 3 bs bv p0.Clocks.length (hH wAD p0.Clocks)) (d9:Sl U 4 bt bw p0.Readings.length (hH wAC p0.Readings)) {r:(List (List Int)) × Int} (hm:wCx p0 p1=some r):Gv Tryz.prog 42 [.agg #[.slice bj p0.Starts.length bk,.slice br p0.Splits.length bu,.slice bs p0.Clocks.length bv,.slice bt p0.Readings.length bw],jV p1] w (wCp w [] U (fun U_ L_ v=>∃ (A0:Option Addr) (c0:Nat) (cI:List Hd),v=.tuple #[.slice A0 r.1.length c0,jV r.2]/\L_=[.row A0 c0 22 1 (hH wDO cI),inn 3 1 KL.encI cI r.1])):=by
 unfold wCx at hm
 refine Gv.of Tryz.func42 Z Tryz.ntmps42 Tryz.results42 Z (sR gDj Z ?_)
 let B0:List Value:=[.slice bj p0.Starts.length bk,.slice br p0.Splits.length bu,.slice bs p0.Clocks.length bv,.slice bt p0.Readings.length bw]
 refine ZE (cs:=B0) rfl rfl rfl rfl rfl rfl (by rfl) hS ?_
 intro W1 b2 cA
 refine oA Z Z (oA Z Z (eN (sR (.fl 0 (.fl 1 (.fx 2 (wSv (.nil)) .stop))) Z (oL Z (cA.ldBA (j:=0) Z Z Z ZB zo (vs:=B0) Z Z) (oM Z Z ?_)))))
 have q:=bnd hm
 obtain ⟨⟨x5,x6⟩,h7,bi⟩:=q
 try dsimp only at bi
 refine zK 0 Z Z Z Z (zL Z Z Tryz.call108 (zD Z (zD Z zQ)) Z) cA (fun hs=>wGX p0 bj bk br bu bs bv bt bw p1 W1 U hs d6 d7 d8 d9 h7) (.inr Z) ?_
 rintro U9 eZ fm bf fg cx cw
 rcases x5 with _ | bd
 try dsimp only at bi
 obtain ⟨rfl,rfl⟩:=cw
 have dP:sW w U U9 [.blk b2 27 B0] bf:=cx
 refine oM Z Z (oR Z (zu Z Z (v:=.pointer none) Z) (oR Z (zu Z Z (v:=jV x6) Z) (oA Z Z (oA Z Z (eN (zH (sR fL2 Z (oM Z Z (oR Z (Zo Z Z Z) (eN (ifc bi ?_ ?_)))))))))))
 intro bE eK
 refine zx (Ze (fun h=>h bE.out)) (kN (sR gDs Z (oM Z Z (oM Z Z ?_))))
 cases eK
 intro bE eL
 refine cT Z bE (sR fL3 Z (oM Z Z (oA Z Z (oA Z Z (eN (zP (zN ?_)))))))
 have dQ:=dP.nilrow 22 1
 have dR:=dQ.innNil 3 1 KL.encI
 have dS:sW w U U9 [inn 3 1 KL.encI ([]:List Hd) ([]:List (List Int)),.row none 0 22 1 [],.blk b2 27 B0] bf:=dR
 cases eL
 exact ⟨rfl,_,(wFJ rfl rfl),U9,_,(dS.pick [1,0] _ (by decide) rfl),none,0,([]:List Hd),rfl,rfl⟩
 try dsimp only at bi
 obtain ⟨bC,bQ,cf,bR,cg,bS,cj,bT,cm,aj,am,ak,bU,cn,rfl,rfl,dq,dr,dt,du,dv,dw⟩:=cw
 let B1:Res:=.blk bC 139 [.slice bQ bd.Race.Starts.length cf,.slice bR bd.Race.Splits.length cg,.slice bS bd.Race.Clocks.length cj,.slice bT bd.Race.Readings.length cm,.map (some aj),.slice bU bd.edges.length cn]
 have cC:sW w U U9 [B1,.obj aj (.map am ak),.blk b2 27 B0] bf:=cx
 refine oM Z Z (oR Z (zu Z Z (v:=.pointer (some ⟨bC,0,none⟩)) Z) (oR Z (zu Z Z (v:=jV x6) Z) (oA Z Z (oA Z Z (eN (zH (sR fL2 Z (oM Z Z (oR Z (Zo Z Z Z) (eN (ifc bi ?_ ?_)))))))))))
 intro bF eM
 refine zx (Ze (fun h=>h bF.out)) (kN (sR gDs Z (oM Z Z (oM Z Z (bnK eM fun x51 dx eO=>zK 2 Z Z Z Z (zL Z Z Tryz.call109 (zD Z (zD Z zQ)) Z) cC (fun hs=>wEH bd bC bQ cf bR cg bS cj bT cm aj am ak bU cn p1 bf U9 hs dq dr dt du dv dw dx) (.inl Z) ?_)))))
 rintro aX e8 fq cQ fj dT ⟨rfl,rfl⟩
 have dU:sW w U aX [B1,.obj aj (.map am ak),.blk b2 27 B0] cQ:=dT
 refine ze (cs:=hH KL.encI (Arr.fill 64 0).l) Z Z Z Z Z Tryz.zeroValue169 Z dU ?_
 intro cR aq dV
 have dW:sW w U aX [.blk aq 169 (hH KL.encI (Arr.fill 64 0).l),B1,.obj aj (.map am ak),.blk b2 27 B0] cR:=dV
 refine zm (j:=0) (vs:=hH KL.encI x51.l) rfl rfl rfl rfl dW rfl rfl rfl rfl (fun w=>by rw [wBe (f:=KL.encI) (sz:=1) (N:=64) x51 (fun _=>rfl) rfl];exact Tryz.sizeOf169 w) (by rw [wBe (f:=KL.encI) (sz:=1) (N:=64) x51 (fun _=>rfl) rfl,wBe (f:=KL.encI) (sz:=1) (N:=64) (Arr.fill 64 0) (fun _=>rfl) rfl];exact zA rfl) (wFN (fun _=>rfl) _) (wJX _ _ (by rw [wBe (f:=KL.encI) (sz:=1) (N:=64) x51 (fun _=>rfl) rfl,wBe (f:=KL.encI) (sz:=1) (N:=64) (Arr.fill 64 0) (fun _=>rfl) rfl])) rfl ?_
 intro cS dX
 have cD:sW w U aX [.blk aq 169 (hH KL.encI x51.l),B1,.obj aj (.map am ak),.blk b2 27 B0] cS:=dX
 refine eN (sR (wEG gDf) Z (oR Z (zE Z Z zU Z zS) (oL Z (cD.ldB (j:=3) Z Z Z zY (v:=.slice bj p0.Starts.length bk) Z) (oR Z (zd Z Z zC) (bnK eO fun x69 cu eQ=>OKS.makeSliceN Z Z Z Z Z (wCI zR) wMW Z Z Z Z Z cu cD ?_)))))
 intro bZ az dY
 let B2:Res:=.row (some ⟨az,0,none⟩) x69.length 22 1 (hH wDO (nK x69.length (⟨none,0,0⟩:Hd)))
 have d4:sW w U aX [B2,.blk aq 169 (hH KL.encI x51.l),B1,.obj aj (.map am ak),.blk b2 27 B0] bZ:=dY
 have dZ:=d4.innMade 3 1 KL.encI cu
 have d5:sW w U aX [inn 3 1 KL.encI (nK x69.length (⟨none,0,0⟩:Hd)) x69,B2,.blk aq 169 (hH KL.encI x51.l),B1,.obj aj (.map am ak),.blk b2 27 B0] bZ:=dZ
 refine oA Z Z (eN (zH (sR fL3 Z (oM Z Z (oR Z (zd Z Z zR) (oM Z Z (eN (zW (bnK eQ fun fy eh eR=>?_)))))))))
 have q:=wBc eh
 obtain ⟨bO,ej⟩:=q
 replace bO:=zI bO
 refine CK.forN' (fun aa a0 σ_ w_=>∃ (U_:PHeap) (bp:List Hd),σ_ 30=jV (↑aa:Int)/\σ_ 8=.pointer (some ⟨aq,0,none⟩)/\σ_ 9=.slice (some ⟨az,0,none⟩) a0.length x69.length/\σ_ 29=jV (↑x69.length:Int)/\PHeap.Le aX U_/\sW w U U_ [.blk aq 169 (hH KL.encI x51.l),B1,.obj aj (.map am ak),.blk b2 27 B0,.row (some ⟨az,0,none⟩) x69.length 22 1 (hH wDO bp),inn 3 1 KL.encI bp a0] w_) ej ?_ ?_ ?_
 exact ⟨aX,(nK x69.length (⟨none,0,0⟩:Hd)),rfl,rfl,rfl,rfl,(zM _),(d5.pick [2,3,4,5,1,0] _ (by decide) rfl)⟩
 rintro aa a0 fu fC fc bL ⟨bX,bp,bI,cX,cp,cq,eW,dz⟩ eU
 have cb:Hid ((↑aa:Int) < (↑x69.length:Int)):=zI (wBJ bL)
 replace bL:=zI bL
 have eA:Hid (w64 ((↑aa:Int) + 1)=(↑(aa + 1):Int)):=zI (by have h1:=bO.out;have h2:=cb.out;rw [wAX] <;> omega)
 refine sR fL1 Z (oR Z (zX Z bI cq) (eN (zH (cT Z cb (kN (zH (zW (sR fL2 Z (oM Z bI (oA Z Z (eN (sR fL3 Z (oM Z cp (oR Z (zd Z Z zR) (oM Z Z (eN (zW (bnK eU fun fw ef eC=>?_))))))))))))))))))
 have q:=wBc ef
 obtain ⟨bN,eg⟩:=q
 replace bN:=zI bN
 refine CK.forN' (fun av au σ_ w_=>∃ (U_:PHeap) (ab:List Hd),σ_ 35=jV (↑av:Int)/\σ_ 8=.pointer (some ⟨aq,0,none⟩)/\σ_ 9=.slice (some ⟨az,0,none⟩) au.length x69.length/\σ_ 10=jV (↑aa:Int)/\σ_ 29=jV (↑x69.length:Int)/\σ_ 30=jV (↑aa:Int)/\σ_ 34=jV (↑a0.length:Int)/\PHeap.Le bX U_/\sW w U U_ [.blk aq 169 (hH KL.encI x51.l),B1,.obj aj (.map am ak),.blk b2 27 B0,.row (some ⟨az,0,none⟩) x69.length 22 1 (hH wDO ab),inn 3 1 KL.encI ab au] w_) eg ?_ ?_ ?_
 exact ⟨bX,bp,Z,cX,cp,Z,cq,bI,Z,(zM _),dz⟩
 rintro av au ft fz bY bM ⟨aV,ab,bo,bG,bn,bg,cr,ct,bH,cJ,bh⟩ eV
 have cd:Hid ((↑av:Int) < (↑a0.length:Int)):=zI (wBJ bM)
 replace bM:=zI bM
 have cH:Hid (w64 ((↑av:Int) + 1)=(↑(av + 1):Int)):=zI (by have h1:=bN.out;have h2:=cd.out;rw [wAX] <;> omega)
 refine sR fL1 Z (oR Z (zX Z bo bH) (eN (zH (cT Z cd (kN (zH (zW (sR fL2 Z (oM Z bo (oA Z Z (eN (sR fL6 Z (oM Z bg (oM Z Z (bnK eV fun _ bJ eD=>oR Z (Runs.iaA Z bG Z yi Tryz.sizeOf168 (wBo bJ) (wBp bJ)) (bnK eD fun _ bK eE=>oR Z (Runs.iaA Z Z Z yj zB (wBo bK) (wBp bK)) ?_))))))))))))))))
 have en:=Arr.at_ x51 (k:=(aa * 8 + av)) (by have hz0:=wAN bJ;have hz1:=wAN bK;omega)
 refine ZI rfl rfl rfl rfl (bh.ldB (j:=0) rfl rfl rfl zF (wAT (sz:=1) (fun _=>rfl) _ _ 0 _ en (by first | omega | rfl | simp) rfl)) rfl (zk rfl rfl rfl rfl (fun _=>zX rfl rfl rfl) (eN (ifc eE ?_ ?_)))
 intro bD eF
 refine cT Z bD (rR (wNc (.fx 7 (.fx 8 (.fl 9 (.fx 10 .nil .stop)) .stop) .stop)) Z (oM Z bn (oM Z bg (oM Z bn (oM Z bg (bnK eF fun _ aZ eG=>oR Z (ZL Z Z Z Z zR zS (wAN aZ)) ?_))))))
 have cE:=bh.innFit (j:=5) rfl
 have eu:=wBK (xs:=ab) (k:=aa) (by rw [cE.len];exact (wAN aZ))
 have eS:Value.slice (gd ab aa).A (gd ab aa).n (gd ab aa).c=.slice ((gd ab aa).A) ((gd au aa).length) ((gd ab aa).c):=by rw [cE.at_ (k:=aa) (wAN aZ)]
 refine ZI rfl rfl rfl rfl (ym (bh.ldR (j:=4) rfl rfl rfl rfl zY (wAT (sz:=1) (fun _=>rfl) _ _ 0 _ eu (by first | omega | rfl | simp) rfl)) eS) rfl ?_
 let B3:Res:=.row (some ⟨az,0,none⟩) x69.length 22 1 (hH wDO ab)
 have dA:sW w U aV [inn 3 1 KL.encI ab au,.blk aq 169 (hH KL.encI x51.l),B1,.obj aj (.map am ak),.blk b2 27 B0,B3] bY:=bh.pick [5,0,1,2,3,4] _ (by decide) rfl
 have dB:=dA.innTake (k:=aa) (wAN aZ)
 let B4:Res:=.row ((gd ab aa).A) ((gd ab aa).c) 3 1 (hH KL.encI (gd au aa))
 have dC:sW w U aV [B4,wIe 3 1 KL.encI ab au aa,.blk aq 169 (hH KL.encI x51.l),B1,.obj aj (.map am ak),.blk b2 27 B0,B3] bY:=dB
 refine oM Z Z (ZW (pv:=[(0,jV (↑av:Int))]) (zs:=[jV 0]) (cs:=[jV (↑av:Int)]) Z Z Z Z Z (wAH Z wAY) zC zB Za Z Z Z Z Z dC ?_)
 intro cO cU dD
 let B5:Res:=.row (some ⟨cU,0,none⟩) 1 3 1 (hH KL.encI [(↑av:Int)])
 have cy:sW w U aV [B5,B4,wIe 3 1 KL.encI ab au aa,.blk aq 169 (hH KL.encI x51.l),B1,.obj aj (.map am ak),.blk b2 27 B0,B3] cO:=dD
 refine bnK eG fun aW dl eH=>yH (j:=1) (enc:=KL.encI) (xs:=(gd au aa)) (ys:=[(↑av:Int)]) (zs:=aW) rfl rfl rfl rfl rfl Tryz.underlying22 wLg rfl rfl rfl rfl rfl rfl cy rfl rfl rfl (cy.srcR (j:=0) rfl (by decide) (wAI (f:=KL.encI) (sz:=1) (fun _=>rfl) [(↑av:Int)])) (fun _=>rfl) (fun _=>rfl) dl rfl ?_
 intro ba bb cP dE
 let B6:Res:=.row ba bb 3 1 (hH KL.encI aW)
 have cz:sW w U aV [B5,B6,wIe 3 1 KL.encI ab au aa,.blk aq 169 (hH KL.encI x51.l),B1,.obj aj (.map am ak),.blk b2 27 B0,B3] cP:=dE
 refine oR Z (ZL Z Z Z Z zR zS (wAN aZ)) ?_
 have cG:=(cz.innHFit (j:=2) rfl).1
 have ey:=wBK (xs:=ab) (k:=aa) (by rw [cG.len];exact wAN aZ)
 refine ye (j:=7) (vs:=wDO (⟨ba,aW.length,bb⟩:Hd)) (cs':=hH wDO (nE ab aa (⟨ba,aW.length,bb⟩:Hd))) rfl rfl rfl rfl cz rfl rfl rfl rfl rfl zS (by rw [wAI (f:=wDO) (sz:=1) (fun _=>rfl),cG.len];have hz:=wAN aZ;show _ + 1 <= _;first | omega | (simp only [nG];omega)) rfl (wCv (sz:=1) (fo:=0) (fun _=>rfl) _ _ _ _ ey (by first | omega | (simp only [nG];omega)) (zA rfl) rfl) rfl ?_
 intro bB dF
 let B7:Res:=.row (some ⟨az,0,none⟩) x69.length 22 1 (hH wDO (nE ab aa (⟨ba,aW.length,bb⟩:Hd)))
 have dG:sW w U aV [B5,B6,wIe 3 1 KL.encI ab au aa,.blk aq 169 (hH KL.encI x51.l),B1,.obj aj (.map am ak),.blk b2 27 B0,B7] bB:=dF
 have dH:sW w U aV [B6,wIe 3 1 KL.encI ab au aa,B5,.blk aq 169 (hH KL.encI x51.l),B1,.obj aj (.map am ak),.blk b2 27 B0,B7] bB:=dG.pick [1,2,0,3,4,5,6,7] _ (by decide) rfl
 have dI:=dH.innPut
 have dJ:sW w U aV [inn 3 1 KL.encI (nE ab aa (⟨ba,aW.length,bb⟩:Hd)) (nE au aa aW),B5,.blk aq 169 (hH KL.encI x51.l),B1,.obj aj (.map am ak),.blk b2 27 B0,B7] bB:=dI
 refine zh (zq (zG (rR fL2 Z (oR Z (ZP (zZ Z bo Z) (congrArg (jV) cH.out)) (oM Z Z (zh ?_))))))
 cases eH
 exact zG ⟨rfl,⟨aV,(nE ab aa (⟨ba,aW.length,bb⟩:Hd)),rfl,bG,(Eq.trans (b:=(.slice (some ⟨az,0,none⟩) au.length x69.length:Value)) (c:=(.slice (some ⟨az,0,none⟩) ((nE au aa aW).length) x69.length:Value)) bn (by simp only [nH])),bg,cr,ct,bH,cJ,(dJ.pick [2,3,4,5,6,0] _ (by decide) rfl)⟩⟩
 intro bD eI
 refine cF Z bD (Zh (zq (zG (rR fL2 Z (oR Z (ZP (zZ Z bo Z) (congrArg (jV) cH.out)) (oM Z Z (zh ?_)))))))
 cases eI
 exact zG ⟨Z,⟨aV,ab,Z,bG,bn,bg,cr,ct,bH,cJ,bh⟩⟩
 rintro fA e9 ⟨cL,dm,dh,cY,cZ,fd,da,db,de,eX,dK⟩
 have cV:Hid (¬ ((↑(((↑a0.length:Int):Int) - 0).toNat:Int) < (↑a0.length:Int))):=zI (wAj)
 refine sR fL1 Z (oR Z (zX Z dh de) (eN (zH (cF Z cV (ZT (zf (zf (ZK (zq (zG (rR fL2 Z (oR Z (ZP (zZ Z db Z) (congrArg (jV) eA.out)) (oM Z Z (zh ?_))))))))))))))
 cases eC
 exact zG ⟨Z,⟨cL,dm,Z,cY,cZ,da,(eW.trans eX),dK⟩⟩
 rintro fB fb ⟨cM,dp,dk,ff,df,dg,fh,dL⟩
 have cW:Hid (¬ ((↑(((↑x69.length:Int):Int) - 0).toNat:Int) < (↑x69.length:Int))):=zI (wAj)
 refine sR fL1 Z (oR Z (zX Z dk dg) (eN (zH (cF Z cW (ZT (zf (zf (ZK (zG (sR fL3 Z (oM Z df (oA Z Z (oA Z Z (eN (zP ?_)))))))))))))))
 cases eR
 exact ⟨rfl,_,(wFJ rfl rfl),cM,_,(dL.pick [4,5] _ (by decide) rfl),(some ⟨az,0,none⟩),x69.length,dp,rfl,rfl⟩
 intro bF eJ
 refine cT Z bF (sR fL3 Z (oM Z Z (oA Z Z (oA Z Z (eN (zP (zN ?_)))))))
 have dM:=cC.nilrow 22 1
 have dN:=dM.innNil 3 1 KL.encI
 have dO:sW w U U9 [inn 3 1 KL.encI ([]:List Hd) ([]:List (List Int)),.row none 0 22 1 [],B1,.obj aj (.map am ak),.blk b2 27 B0] bf:=dN
 cases eJ
 exact ⟨rfl,_,(wFJ rfl rfl),U9,_,(dO.pick [1,0] _ (by decide) rfl),none,0,([]:List Hd),rfl,rfl⟩
theorem wCy (p0:List wAP) (az:Option Addr) (aW:Nat) (p1:List wAP) (aV:Option Addr) (aX:Nat) (w:World) (U:PHeap) (hS:St0 w U []) (bA:Sl U 2 az aW p0.length (hH wAB p0)) (bB:Sl U 2 aV aX p1.length (hH wAB p1)) {r:Bool} (hm:wAg p0 p1=some r):Gv Tryz.prog 44 [.slice az p0.length aW,.slice aV p1.length aX] w (wCp w [] U (fun U_ L_ v=>v=.bool r/\L_=[])):=by
 unfold wAg at hm
 refine Gv.of Tryz.func44 Z Tryz.ntmps44 Tryz.results44 Z (sR fL1 Z (oA Z Z (eN (zH (sR fL5 Z (oM Z Z (oR Z (zd Z Z zr) (oM Z Z (oR Z (zd Z Z zr) (oR Z (Zo Z Z Z) (eN ?_)))))))))))
 by_cases c1:(↑p0.length:Int)=(↑p1.length:Int)
 have aj:=hm;rw [if_pos c1] at aj;replace c1:=zI c1
 refine zx (Ze (fun h=>h c1.out)) (kN (zH (sR fL3 Z (oM Z Z (oR Z (zd Z Z zr) (oM Z Z (eN (zW ?_))))))))
 have q:=wCH aj
 obtain ⟨r5,ap⟩:=q
 have q:=wCG ap
 obtain ⟨au,bE⟩:=q
 replace au:=zI au
 refine yG (fun k4 _ σ_ w_=>∃ (U_:PHeap),σ_ 13=jV (↑k4:Int)/\σ_ 0=.slice az p0.length aW/\σ_ 1=.slice aV p1.length aX/\σ_ 12=jV (↑p0.length:Int)/\PHeap.Le U U_/\sW w U U_ [] w_) bE ?_ ?_ ?_
 exact ⟨U,Z,Z,Z,Z,(zM _),hS⟩
 rintro k4 ⟨⟩ bW bY a0 aq ⟨aZ,am,bb,bd,be,av,bw⟩ bj bC
 try dsimp only at bj
 have ba:Hid ((↑k4:Int) < (↑p0.length:Int)):=zI (wBJ aq)
 replace aq:=zI aq
 have bF:Hid (w64 ((↑k4:Int) + 1)=(↑(k4 + 1):Int)):=zI (by have h1:=au.out;have h2:=ba.out;rw [wAX] <;> omega)
 refine sR fL1 rfl (zk rfl rfl rfl rfl (fun _=>zX rfl am be) (eN (zH (cT Z ba (kN (zH (zW (sR fL2 rfl (zz rfl rfl rfl rfl rfl am (yX rfl rfl rfl rfl rfl rfl (eN (zH (ZD zy [3,3,3,1,3,3,3,1,3] fL9 (by kernel_rfl) ?_)))))))))))))
 have ah:=bw.drew
 generalize hw_W25:({ a0 with drawn:=a0.drawn + 1 }:World)=bM at ah ⊢
 refine oM Z bb (oM Z Z (bnK bj fun x26 bf bG=>?_))
 have bq:=bA.le av
 have q:=bq.el (fun _=>rfl) (wAS bf)
 obtain ⟨bO,bT,bs,bu⟩:=q
 refine oR Z (ZL Z Z bs Z zr ZR (wBk bf)) (oL Z (ah.ldCA (f:=0) bu Z Z yf ZR (us:=[jV x26.Lo,jV x26.Hi]) Z Z) (oM Z bd (oM Z Z (bnK bG fun aY bg bH=>?_))))
 have br:=bB.le av
 have q:=br.el (fun _=>rfl) (wAS bg)
 obtain ⟨bP,bU,bt,bv⟩:=q
 refine oR Z (ZL Z Z bt Z zr ZR (wBk bg)) (oL Z (ah.ldCA (f:=0) bv Z Z yf ZR (us:=[jV aY.Lo,jV aY.Hi]) Z Z) (oR Z (ZP (Runs.neS (enc:=wAB) (a:=x26) (b:=aY) Z Z Z eqT39 eqG39) (congrArg nB (decide_not).symm)) (eN (ifc bH ?_ ?_))))
 intro ak bI
 refine zx (Ze (fun h=>h ak.out)) (Zh (zq (zG (rR fL2 Z (oR Z (ZP (zZ Z am Z) (congrArg (jV) bF.out)) (oM Z Z (zh ?_)))))))
 obtain rfl:=nA bI
 exact zG ⟨Z,_,Z,⟨aZ,Z,bb,bd,be,av,ah⟩⟩
 intro ak bJ
 refine cT Z ak (sR fL1 Z (oA Z Z (eN (zP (zg (zN ?_))))))
 have q:=wAZ bJ
 obtain ⟨bL,bK,bn⟩:=q
 obtain rfl:=wCA aj ap (bC bL bn)
 refine zN (zg (zN ?_))
 have hE:=nA bK;first | subst r | cases hE
 exact ⟨Z,_,(ZH Z),aZ,_,ah,Z,Z⟩
 rintro ⟨⟩ bX bN ⟨bk,bp,bQ,bR,bo,bS,bz⟩ bD
 have bh:=wCu aj ap bD
 try dsimp only at bh
 have bm:Hid (¬ ((↑(((↑p0.length:Int):Int) - 0).toNat:Int) < (↑p0.length:Int))):=zI (wAj)
 refine sR fL1 Z (oR Z (zX Z bp bo) (eN (zH (cF Z bm (ZT (zf (zf (ZK (zG (sR fL1 Z (oA Z Z (eN (zP ?_)))))))))))))
 have hE:=nA bh;first | subst r | cases hE
 exact ⟨Z,_,(ZH Z),bk,_,bz,Z,Z⟩
 have bi:=hm;rw [if_neg c1] at bi;replace c1:=zI c1
 refine cT Z c1 (sR fL1 Z (oA Z Z (eN (zP (zN ?_)))))
 have hE:=nA bi;first | subst r | cases hE
 exact ⟨Z,_,(ZH Z),U,_,hS,Z,Z⟩
theorem wDi (p0:List Int) (az:Option Addr) (aW:Nat) (p1:List Int) (aV:Option Addr) (aX:Nat) (w:World) (U:PHeap) (hS:St0 w U []) (bz:Sl U 1 az aW p0.length (hH KL.encI p0)) (bA:Sl U 1 aV aX p1.length (hH KL.encI p1)) {r:Bool} (hm:wAw p0 p1=some r):Gv Tryz.prog 26 [.slice az p0.length aW,.slice aV p1.length aX] w (wCp w [] U (fun U_ L_ v=>v=.bool r/\L_=[])):=by
 unfold wAw at hm
 refine Gv.of Tryz.func26 Z Tryz.ntmps26 Tryz.results26 Z (sR fL1 Z (oA Z Z (eN (zH (sR fL5 Z (oM Z Z (oR Z (zd Z Z zC) (oM Z Z (oR Z (zd Z Z zC) (oR Z (Zo Z Z Z) (eN ?_)))))))))))
 by_cases c1:(↑p0.length:Int)=(↑p1.length:Int)
 have aj:=hm;rw [if_pos c1] at aj;replace c1:=zI c1
 refine zx (Ze (fun h=>h c1.out)) (kN (zH (sR fL3 Z (oM Z Z (oR Z (zd Z Z zC) (oM Z Z (eN (zW ?_))))))))
 have q:=wCH aj
 obtain ⟨r5,ap⟩:=q
 have q:=wCG ap
 obtain ⟨au,bD⟩:=q
 replace au:=zI au
 refine yG (fun k4 _ σ_ w_=>∃ (U_:PHeap),σ_ 13=jV (↑k4:Int)/\σ_ 0=.slice az p0.length aW/\σ_ 1=.slice aV p1.length aX/\σ_ 12=jV (↑p0.length:Int)/\PHeap.Le U U_/\sW w U U_ [] w_) bD ?_ ?_ ?_
 exact ⟨U,Z,Z,Z,Z,(zM _),hS⟩
 rintro k4 ⟨⟩ bW bY aZ aq ⟨aY,am,ba,bb,bd,av,bv⟩ bi bB
 try dsimp only at bi
 have a0:Hid ((↑k4:Int) < (↑p0.length:Int)):=zI (wBJ aq)
 replace aq:=zI aq
 have bE:Hid (w64 ((↑k4:Int) + 1)=(↑(k4 + 1):Int)):=zI (by have h1:=au.out;have h2:=a0.out;rw [wAX] <;> omega)
 refine sR fL1 rfl (zk rfl rfl rfl rfl (fun _=>zX rfl am bd) (eN (zH (cT Z a0 (kN (zH (zW (sR fL2 rfl (zz rfl rfl rfl rfl rfl am (yX rfl rfl rfl rfl rfl rfl (eN (zH (ZD zy [3,3,3,1,3,3,3,1,3] fL9 (by kernel_rfl) ?_)))))))))))))
 have ah:=bv.drew
 generalize hw_W25:({ aZ with drawn:=aZ.drawn + 1 }:World)=bM at ah ⊢
 refine oM Z ba (oM Z Z (bnK bi fun x26 be bF=>?_))
 have bp:=bz.le av
 have q:=bp.el (fun _=>rfl) (wAS be)
 obtain ⟨bO,bT,br,bt⟩:=q
 refine oR Z (ZL Z Z br Z zC zB (wBk be)) (oL Z (ah.ldC (f:=0) bt (v:=jV x26) Z Z zF Z) (oM Z bb (oM Z Z (bnK bF fun bL bf bG=>?_))))
 have bq:=bA.le av
 have q:=bq.el (fun _=>rfl) (wAS bf)
 obtain ⟨bP,bU,bs,bu⟩:=q
 refine oR Z (ZL Z Z bs Z zC zB (wBk bf)) (oL Z (ah.ldC (f:=0) bu (v:=jV bL) Z Z zF Z) (oR Z (Zo Z Z Z) (eN (ifc bG ?_ ?_))))
 intro ak bH
 refine zx (Ze (fun h=>h ak.out)) (Zh (zq (zG (rR fL2 Z (oR Z (ZP (zZ Z am Z) (congrArg (jV) bE.out)) (oM Z Z (zh ?_)))))))
 obtain rfl:=nA bH
 exact zG ⟨Z,_,Z,⟨aY,Z,ba,bb,bd,av,ah⟩⟩
 intro ak bI
 refine cT Z ak (sR fL1 Z (oA Z Z (eN (zP (zg (zN ?_))))))
 have q:=wAZ bI
 obtain ⟨bK,bJ,bm⟩:=q
 obtain rfl:=wCA aj ap (bB bK bm)
 refine zN (zg (zN ?_))
 have hE:=nA bJ;first | subst r | cases hE
 exact ⟨Z,_,(ZH Z),aY,_,ah,Z,Z⟩
 rintro ⟨⟩ bX bN ⟨bj,bo,bQ,bR,bn,bS,bw⟩ bC
 have bg:=wCu aj ap bC
 try dsimp only at bg
 have bk:Hid (¬ ((↑(((↑p0.length:Int):Int) - 0).toNat:Int) < (↑p0.length:Int))):=zI (wAj)
 refine sR fL1 Z (oR Z (zX Z bo bn) (eN (zH (cF Z bk (ZT (zf (zf (ZK (zG (sR fL1 Z (oA Z Z (eN (zP ?_)))))))))))))
 have hE:=nA bg;first | subst r | cases hE
 exact ⟨Z,_,(ZH Z),bj,_,bw,Z,Z⟩
 have bh:=hm;rw [if_neg c1] at bh;replace c1:=zI c1
 refine cT Z c1 (sR fL1 Z (oA Z Z (eN (zP (zN ?_)))))
 have hE:=nA bh;first | subst r | cases hE
 exact ⟨Z,_,(ZH Z),U,_,hS,Z,Z⟩
theorem wEk (p0:List (List Int)) (aY:Option Addr) (bb:Nat) (p1:List (List Int)) (aZ:Option Addr) (bd:Nat) (w:World) (U:PHeap) (hS:St0 w U []) (bO:SlR U wIM aY bb p0) (bP:SlR U wIM aZ bd p1) {r:Bool} (hm:wBP p0 p1=some r):Gv Tryz.prog 39 [.slice aY p0.length bb,.slice aZ p1.length bd] w (wCp w [] U (fun U_ L_ v=>v=.bool r/\L_=[])):=by
 unfold wBP at hm
 refine Gv.of Tryz.func39 Z Tryz.ntmps39 Tryz.results39 Z (sR fL1 Z (oA Z Z (eN (zH (sR fL5 Z (oM Z Z (oR Z (zd Z Z zR) (oM Z Z (oR Z (zd Z Z zR) (oR Z (Zo Z Z Z) (eN ?_)))))))))))
 by_cases c1:(↑p0.length:Int)=(↑p1.length:Int)
 have aj:=hm;rw [if_pos c1] at aj;replace c1:=zI c1
 refine zx (Ze (fun h=>h c1.out)) (kN (zH (sR fL3 Z (oM Z Z (oR Z (zd Z Z zR) (oM Z Z (eN (zW ?_))))))))
 have q:=wCH aj
 obtain ⟨r5,az⟩:=q
 have q:=wCG az
 obtain ⟨aW,bS⟩:=q
 replace aW:=zI aW
 refine yG (fun k4 _ σ_ w_=>∃ (U_:PHeap),σ_ 13=jV (↑k4:Int)/\σ_ 0=.slice aY p0.length bb/\σ_ 1=.slice aZ p1.length bd/\σ_ 12=jV (↑p0.length:Int)/\PHeap.Le U U_/\sW w U U_ [] w_) bS ?_ ?_ ?_
 exact ⟨U,Z,Z,Z,Z,(zM _),hS⟩
 rintro k4 ⟨⟩ cz cC bh aV ⟨ak,aq,bj,bk,bm,aX,bL⟩ bs bQ
 try dsimp only at bs
 have bi:Hid ((↑k4:Int) < (↑p0.length:Int)):=zI (wBJ aV)
 replace aV:=zI aV
 have bT:Hid (w64 ((↑k4:Int) + 1)=(↑(k4 + 1):Int)):=zI (by have h1:=aW.out;have h2:=bi.out;rw [wAX] <;> omega)
 refine sR fL1 rfl (zk rfl rfl rfl rfl (fun _=>zX rfl aq bm) (eN (zH (cT Z bi (kN (zH (zW (sR fL2 rfl (zz rfl rfl rfl rfl rfl aq (yX rfl rfl rfl rfl rfl rfl (eN (zH (ZD zy [3,3,3,1,3,3,3,1,2,3] (wUh gDg) (by kernel_rfl) ?_)))))))))))))
 have ai:=bL.drew
 generalize hw_W25:({ bh with drawn:=bh.drawn + 1 }:World)=bu at ai ⊢
 refine oM Z bj (oM Z Z (bnK bs fun x26 bn bU=>?_))
 have bE:=bO.le aX
 have q:=bE.el (wAS bn)
 obtain ⟨bw,cf,cw,bJ,au,b5⟩:=q
 obtain ⟨a0,be,rfl,bF⟩:=b5
 replace au:Cl ak bw (cf + k4 * 1) [.slice a0 x26.length be]:=au
 refine oR Z (ZL Z Z bJ Z zR zS (wBk bn)) (oL Z (ai.ldC (f:=0) au (v:=.slice a0 x26.length be) Z Z zY Z) (oM Z bk (oM Z Z (bnK bU fun bg bo bV=>?_))))
 have bG:=bP.le aX
 have q:=bG.el (wAS bo)
 obtain ⟨bz,cg,cx,bK,av,cb⟩:=q
 obtain ⟨ba,bf,rfl,bH⟩:=cb
 replace av:Cl ak bz (cg + k4 * 1) [.slice ba bg.length bf]:=av
 refine oR Z (ZL Z Z bK Z zR zS (wBk bo)) (oL Z (ai.ldC (f:=0) av (v:=.slice ba bg.length bf) Z Z zY Z) (bnK bV fun cy bI bW=>zK 0 Z Z Z Z (zL Z Z Tryz.call26 (zD Z (zD Z zQ)) Z) ai (fun hs=>wDi x26 a0 be bg ba bf bu ak hs bF bH bI) (.inr Z) ?_))
 rintro am cm cu bv cd bM ⟨rfl,rfl⟩
 have bp:sW w U am [] bv:=bM
 refine oR Z (Zf Z Z) (eN (ifc bW ?_ ?_))
 intro ap bX
 refine zx (nC ap.out) (Zh (zq (zG (rR fL2 Z (oR Z (ZP (zZ Z aq Z) (congrArg (jV) bT.out)) (oM Z Z (zh ?_)))))))
 obtain rfl:=nA bX
 exact zG ⟨Z,_,Z,⟨am,Z,bj,bk,bm,(aX.trans cd),bp⟩⟩
 intro ap bY
 refine ZG (nF (ap.out)) (sR fL1 Z (oA Z Z (eN (zP (zg (zN ?_))))))
 have q:=wAZ bY
 obtain ⟨cj,bZ,bB⟩:=q
 obtain rfl:=wCA aj az (bQ cj bB)
 refine zN (zg (zN ?_))
 have hE:=nA bZ;first | subst r | cases hE
 exact ⟨Z,_,(ZH Z),am,_,bp,Z,Z⟩
 rintro ⟨⟩ cA cn ⟨bt,bD,cp,cq,bC,cr,bN⟩ bR
 have bq:=wCu aj az bR
 try dsimp only at bq
 have bA:Hid (¬ ((↑(((↑p0.length:Int):Int) - 0).toNat:Int) < (↑p0.length:Int))):=zI (wAj)
 refine sR fL1 Z (oR Z (zX Z bD bC) (eN (zH (cF Z bA (ZT (zf (zf (ZK (zG (sR fL1 Z (oA Z Z (eN (zP ?_)))))))))))))
 have hE:=nA bq;first | subst r | cases hE
 exact ⟨Z,_,(ZH Z),bt,_,bN,Z,Z⟩
 have br:=hm;rw [if_neg c1] at br;replace c1:=zI c1
 refine cT Z c1 (sR fL1 Z (oA Z Z (eN (zP (zN ?_)))))
 have hE:=nA br;first | subst r | cases hE
 exact ⟨Z,_,(ZH Z),U,_,hS,Z,Z⟩
theorem wKZ (p0:wAM) (w:World) (U:PHeap) (hS:St0 w U [])  {r:wAE} (hm:wGQ p0=some r):Gv Tryz.prog 66 [.agg #[jV p0.Skier,jV p0.Mat]] w (wCp w [] U (fun U_ L_ v=>v=.agg #[jV r.skier,jV r.mat]/\L_=[])):=by
 unfold wGQ at hm
 refine Gv.of Tryz.func66 Z Tryz.ntmps66 Tryz.results66 Z (sR (.fx 0 (.fx 1 .nil .stop) .stop) Z ?_)
 let B0:List Value:=[jV p0.Skier,jV p0.Mat]
 refine ZE (cs:=B0) rfl rfl rfl rfl rfl rfl (by rfl) hS ?_
 intro W1 b2 ap
 refine ze (cs:=[jV 0,jV 0]) Z Z Z Z Z zj Z ap ?_
 intro W5 b6 ae
 refine eN (sR (wIc (.fx 5 .nil .stop)) Z (oR Z (zE Z Z ZU Z zB) (oL Z (ae.ldB (j:=1) Z Z Z zF (v:=jV p0.Skier) Z) (oR Z (zE Z Z ZU Z zB) (oL Z (ae.ldB (j:=1) Z Z Z zF (v:=jV p0.Mat) Z) (oR Z (ZO (pv:=[(0,jV p0.Skier),(1,jV p0.Mat)]) (z:=[jV 0,jV 0]) (cs:=B0) Z (wAH Z (wAH Z wAY)) zj wBX Z Z) (zm (j:=0) (vs:=B0) Z Z Z Z ae Z Z Z Z zJ (zA Z) Z Z Z ?_)))))))
 intro W9 am
 have ah:sW w U U [.blk b6 123 B0,.blk b2 29 B0] W9:=am
 refine eN (zP ?_)
 cases hm
 exact ⟨rfl,_,(wKE (v:=.agg B0.toArray) ⟨⟨_,rfl,(wBt zn zJ (ah.blkAt (k:=0) rfl) (vs:=B0) rfl rfl)⟩,trivial⟩),U,_,(ah.pick [] _ (by decide) rfl),rfl,rfl⟩
theorem wFC (p0:wAf) (ap:Nat) (az:Option Addr) (aX:Nat) (aV:Option Addr) (aY:Nat) (aW:Option Addr) (aZ:Nat) (bj:Option Addr) (bn:Nat) (ab:Nat) (ae:Array MapEntry) (ah:Nat) (bk:Option Addr) (bo:Nat) (p1:List Int) (bm:Option Addr) (bp:Nat) (w:World) (U:PHeap) (hS:St0 w U [.blk ap 139 [.slice az p0.Race.Starts.length aX,.slice aV p0.Race.Splits.length aY,.slice aW p0.Race.Clocks.length aZ,.slice bj p0.Race.Readings.length bn,.map (some ab),.slice bk p0.edges.length bo],.obj ab (.map ae ah)]) (gv:Sl U 1 az aX p0.Race.Starts.length (hH KL.encI p0.Race.Starts)) (gw:Sl U 2 aV aY p0.Race.Splits.length (hH wAB p0.Race.Splits)) (gx:Sl U 3 aW aZ p0.Race.Clocks.length (hH wAD p0.Race.Clocks)) (gy:Sl U 4 bj bn p0.Race.Readings.length (hH wAC p0.Race.Readings)) (cV:MpR ae wBW wBb p0.number) (gz:Sl U 7 bk bo p0.edges.length (hH wAa p0.edges)) (bN:Sl U 1 bm bp p1.length (hH KL.encI p1)) {r:(List (List Int)) × (List Int)} (hm:wCP p0 p1=some r):Gv Tryz.prog 75 [.pointer (some ⟨ap,0,none⟩),.slice bm p1.length bp] w (wCp w [.blk ap 139 [.slice az p0.Race.Starts.length aX,.slice aV p0.Race.Splits.length aY,.slice aW p0.Race.Clocks.length aZ,.slice bj p0.Race.Readings.length bn,.map (some ab),.slice bk p0.edges.length bo],.obj ab (.map ae ah)] U (fun U_ L_ v=>∃ (A0:Option Addr) (c0:Nat) (cy:List Value) (A1:Option Addr) (c1:Nat),v=.tuple #[.slice A0 r.1.length c0,.slice A1 r.2.length c1]/\L_=[.row A0 c0 22 1 cy,.row A1 c1 3 1 (hH KL.encI r.2),.blk ap 139 [.slice az p0.Race.Starts.length aX,.slice aV p0.Race.Splits.length aY,.slice aW p0.Race.Clocks.length aZ,.slice bj p0.Race.Readings.length bn,.map (some ab),.slice bk p0.edges.length bo],.obj ab (.map ae ah)]/\RlL U_ wIM r.1 cy)):=by
 unfold wCP at hm
 refine Gv.of Tryz.func75 Z Tryz.ntmps75 Tryz.results75 Z (sR fL2 Z (oA Z Z (oA Z Z (eN (sR fL4 Z (oM Z Z (bnK hm fun x3 h4 fM=>?_)))))))
 have q:=bN.el (fun _=>rfl) (wAS h4)
 obtain ⟨b6,gC,eK,eO⟩:=q
 refine oR Z (ZL Z Z eK Z zC zB (wBk h4)) (oL Z (hS.ldC (f:=0) eO (v:=jV x3) Z Z zF Z) (oA Z Z (eN (sR fL1 Z (oA Z Z (eN (zH (sR fL7 Z (oM Z Z (oR Z (Zu Z Z) (oR Z (zE Z Z ZJ Z zo) (oR Z (zE Z Z zU Z zS) (oL Z (hS.ldB (j:=0) Z Z Z zY (v:=.slice az p0.Race.Starts.length aX) Z) (oR Z (zd Z Z zC) (oM Z Z (eN (zW (bnK fM fun fY ft fL=>?_))))))))))))))))))
 have q:=wBc ft
 obtain ⟨bS,fu⟩:=q
 replace bS:=zI bS
 let B0:Res:=.blk ap 139 [.slice az p0.Race.Starts.length aX,.slice aV p0.Race.Splits.length aY,.slice aW p0.Race.Clocks.length aZ,.slice bj p0.Race.Readings.length bn,.map (some ab),.slice bk p0.edges.length bo]
 refine CK.forN' (fun ak bh σ_ w_=>∃ (U_:PHeap) (bb:Option Addr) (bf:Nat) (bz:List Value),σ_ 22=jV (↑ak:Int)/\σ_ 0=.pointer (some ⟨ap,0,none⟩)/\σ_ 1=.slice bm p1.length bp/\σ_ 6=jV x3/\σ_ 7=.slice bb bh.length bf/\σ_ 21=jV (↑p0.Race.Starts.length:Int)/\PHeap.Le U U_/\SW w [B0,.obj ab (.map ae ah)] U U_ [B0,.obj ab (.map ae ah),.row bb bf 22 1 bz] w_/\RlL U_ wIM bh bz) fu ?_ ?_ ?_
 have fh:=hS.nilrow 22 1
 exact ⟨U,none,0,[],rfl,rfl,rfl,rfl,rfl,rfl,(zM _),(fh.pick [1,2,0] _ (by decide) rfl),RlL.nil⟩
 rintro ak bh gG gN gf bP ⟨cg,bb,bf,bz,bH,cI,dW,dX,dY,cJ,db,cU,eH⟩ fR
 have cx:Hid ((↑ak:Int) < (↑p0.Race.Starts.length:Int)):=zI (wBJ bP)
 replace bP:=zI bP
 have fB:Hid (w64 ((↑ak:Int) + 1)=(↑(ak + 1):Int)):=zI (by have h1:=bS.out;have h2:=cx.out;rw [wAX] <;> omega)
 refine sR fL1 Z (oR Z (zX Z bH cJ) (eN (zH (cT Z cx (kN (zH (zW (sR fL2 Z (oM Z bH (oA Z Z (eN (sR fL1 Z (oA Z Z (eN (zH (sR fL8 Z (oM Z cI (oR Z (Zu Z Z) (oR Z (zE Z Z ZJ Z zo) (oR Z (zE Z Z zU Z Zd) (oL Z (cU.ldB (j:=0) Z Z Z Zi (v:=.slice aV p0.Race.Splits.length aY) Z) (oR Z (zd Z Z zr) (oR Z (zZ Z Z Z) (oM Z Z (eN (zW (bnK fR fun au fw fN=>?_)))))))))))))))))))))))))))
 have q:=wBc fw
 obtain ⟨bT,fy⟩:=q
 replace bT:=zI bT
 let B1:Res:=.row bb bf 22 1 bz
 refine CK.forN' (fun am bi σ_ w_=>∃ (U_:PHeap) (br:Option Addr) (bw:Nat),σ_ 32=jV (↑am:Int)/\σ_ 0=.pointer (some ⟨ap,0,none⟩)/\σ_ 1=.slice bm p1.length bp/\σ_ 6=jV x3/\σ_ 7=.slice bb bh.length bf/\σ_ 8=jV (↑ak:Int)/\σ_ 9=.slice br bi.length bw/\σ_ 21=jV (↑p0.Race.Starts.length:Int)/\σ_ 22=jV (↑ak:Int)/\σ_ 31=jV (w64 ((↑p0.Race.Splits.length:Int) + 1))/\PHeap.Le cg U_/\SW w [B0,.obj ab (.map ae ah)] U U_ [B0,.obj ab (.map ae ah),B1,.row br bw 3 1 (hH KL.encI bi)] w_) fy ?_ ?_ ?_
 have fj:=cU.nilrow 3 1
 exact ⟨cg,none,0,rfl,cI,dW,dX,dY,rfl,rfl,cJ,bH,rfl,(zM _),(fj.pick [1,2,3,0] _ (by decide) rfl)⟩
 rintro am bi gH gO gg bQ ⟨bD,br,bw,bI,cK,cL,cM,dZ,cN,d4,d5,d6,cA,de,bA⟩ fS
 have cp:Hid ((↑am:Int) < (w64 ((↑p0.Race.Splits.length:Int) + 1))):=zI (wBJ bQ)
 replace bQ:=zI bQ
 have fz:Hid (w64 ((↑am:Int) + 1)=(↑(am + 1):Int)):=zI (by have h1:=bT.out;have h2:=cp.out;rw [wAX] <;> omega)
 refine sR fL1 Z (oR Z (zX Z bI cA) (eN (zH (cT Z cp (kN (zH (zW (sR fL2 Z (oM Z bI (oA Z Z (eN (rR (wUk (.fx 14 (.fx 15 (.fl 16 .nil) .stop) .stop)) Z (oM Z d4 (oM Z cL (oM Z cK (oR Z (Zu Z Z) (oR Z (zE Z Z ZJ Z Zz) (oL Z (bA.ldB (j:=0) Z Z Z yC (v:=.map (some ab)) Z) (oM Z cN (oM Z Z (oR Z (ZO (pv:=[(0,jV (↑ak:Int)),(1,jV (↑am:Int))]) (z:=[jV 0,jV 0]) (cs:=[jV (↑ak:Int),jV (↑am:Int)]) Z (wAH Z (wAH Z wAY)) zj wBX Z Z) (oL Z (bA.lookup1 (j:=1) (mk:=wBW) (mv:=wBb) (a:=(⟨(↑ak:Int),(↑am:Int)⟩:wAE)) (z:=0) Z Z Z Z (wCI ZQ) wDf Za cV) (bnK fS fun a0 bJ fC=>?_)))))))))))))))))))))))
 have ef:=bN.le db
 have eg:=ef.le de
 have q:=eg.el (fun _=>rfl) (wAS bJ)
 obtain ⟨gh,gA,eI,eL⟩:=q
 refine oR Z (ZC Z Z eI Z zC zB (wAx bJ) (wBA bJ)) (oL Z (bA.ldC (f:=0) eL (v:=jV a0) Z Z zF Z) (oM Z cM (oR Z (yg Z Z Z) (ZW (pv:=[(0,jV (w64 (a0 - x3)))]) (zs:=[jV 0]) (cs:=[jV (w64 (a0 - x3))]) Z Z Z Z Z (wAH Z wAY) zC zB Za Z Z Z Z Z bA ?_))))
 intro dm dy eQ
 let B2:Res:=.row (some ⟨dy,0,none⟩) 1 3 1 (hH KL.encI [w64 (a0 - x3)])
 have cP:SW w [B0,.obj ab (.map ae ah)] U bD [B2,B0,.obj ab (.map ae ah),B1,.row br bw 3 1 (hH KL.encI bi)] dm:=eQ
 refine bnK fC fun df eh fD=>yH (j:=4) (enc:=KL.encI) (xs:=bi) (ys:=[w64 (a0 - x3)]) (zs:=df) rfl rfl rfl rfl rfl Tryz.underlying22 wLg rfl rfl rfl rfl rfl rfl cP rfl rfl rfl (cP.srcR (j:=0) rfl (by decide) (wAI (f:=KL.encI) (sz:=1) (fun _=>rfl) [w64 (a0 - x3)])) (fun _=>rfl) (fun _=>rfl) eh rfl ?_
 intro bW cq dp eR
 have eS:SW w [B0,.obj ab (.map ae ah)] U bD [B2,B0,.obj ab (.map ae ah),B1,.row bW cq 3 1 (hH KL.encI df)] dp:=eR
 refine oA Z Z (zh (zq (zG (rR fL2 Z (oR Z (ZP (zZ Z bI Z) (congrArg (jV) fz.out)) (oM Z Z (zh ?_)))))))
 cases fD
 exact zG ⟨rfl,⟨bD,bW,cq,rfl,cK,cL,cM,dZ,cN,rfl,d5,d6,cA,de,(eS.pick [1,2,3,4] _ (by decide) rfl)⟩⟩
 rintro gJ dq ⟨ga,bB,bE,d7,dF,dG,dH,dI,gm,dJ,dK,dL,dM,cX,eU⟩
 have dB:Hid (¬ ((↑((w64 ((↑p0.Race.Splits.length:Int) + 1):Int) - 0).toNat:Int) < (w64 ((↑p0.Race.Splits.length:Int) + 1)))):=zI (wAj)
 refine sR fL1 Z (oR Z (zX Z d7 dM) (eN (zH (cF Z dB (ZT (zf (zf (ZK (zG (rR gDr Z (oM Z dI (oM Z dJ ?_))))))))))))
 have q:=eU.freezeR (k:=3) (n:=au.length) rfl (wAI (f:=KL.encI) (sz:=1) (fun _=>rfl) au) (by decide)
 obtain ⟨be,cY,fP,eW⟩:=q
 have eX:SW w [B0,.obj ab (.map ae ah)] U be [B0,.obj ab (.map ae ah),B1] dq:=eW
 let B3:List Value:=[.slice bB au.length bE]
 refine ZW (pv:=[(0,.slice bB au.length bE)]) (zs:=[.slice none 0 0]) (cs:=B3) Z Z Z Z Z (wAH Z wAY) zR zS Tryz.zeroValue22 Z Z Z Z Z eX ?_
 intro dr dz eV
 have cW:RlL be wIM [au] B3:=(RlL.cons (R:=wIM) (x:=au) (vs:=B3) ⟨bB,bE,rfl,fP⟩ RlL.nil)
 let B4:Res:=.row (some ⟨dz,0,none⟩) 1 22 1 B3
 have cQ:SW w [B0,.obj ab (.map ae ah)] U be [B4,B0,.obj ab (.map ae ah),B1] dr:=eV
 refine bnK fN fun fV ej fE=>?_
 have en:=eH.le cX
 have eu:=en.le cY
 refine OKS.appendR (R:=wIM) (j:=3) (xs:=bh) (ys:=[au]) (zs:=fV) rfl rfl rfl rfl rfl Tryz.underlying49 wMW rfl rfl rfl rfl rfl rfl rfl cQ rfl rfl rfl eu cW (cQ.srcR (j:=0) rfl (by decide) (RlL.len cW)) ej rfl ?_
 intro bX cr cz dt eY fO
 have eZ:SW w [B0,.obj ab (.map ae ah)] U be [B4,B0,.obj ab (.map ae ah),.row bX cr 22 1 cz] dt:=eY
 refine oA Z Z (zh (zq (zG (rR fL2 Z (oR Z (ZP (zZ Z dL Z) (congrArg (jV) fB.out)) (oM Z Z (zh ?_)))))))
 cases fE
 exact zG ⟨rfl,⟨be,bX,cr,cz,rfl,dF,dG,dH,rfl,dK,((db.trans cX).trans cY),(eZ.pick [1,2,3] _ (by decide) rfl),fO⟩⟩
 rintro gK gb ⟨cf,bC,bF,ct,d8,cC,dN,dO,dP,dQ,fT,cR,ey⟩
 have dC:Hid (¬ ((↑(((↑p0.Race.Starts.length:Int):Int) - 0).toNat:Int) < (↑p0.Race.Starts.length:Int))):=zI (wAj)
 refine sR fL1 Z (oR Z (zX Z d8 dQ) (eN (zH (cF Z dC (ZT (zf (zf (ZK (zG (sR fL1 Z (oA Z Z (eN (zH (sR fL7 Z (oM Z cC (oR Z (Zu Z Z) (oR Z (zE Z Z ZJ Z zo) (oR Z (zE Z Z zU Z Zy) (oL Z (cR.ldB (j:=0) Z Z Z yD (v:=.slice aW p0.Race.Clocks.length aZ) Z) (oR Z (zd Z Z ZX) (oM Z Z (eN (zW (bnK fL fun gI fm fG=>?_))))))))))))))))))))))))
 have q:=wBc fm
 obtain ⟨bR,fq⟩:=q
 replace bR:=zI bR
 let B5:Res:=.row bC bF 22 1 ct
 refine CK.forN' (fun av bg σ_ w_=>∃ (U_:PHeap) (bq:Option Addr) (bv:Nat),σ_ 63=jV (↑av:Int)/\σ_ 0=.pointer (some ⟨ap,0,none⟩)/\σ_ 1=.slice bm p1.length bp/\σ_ 6=jV x3/\σ_ 7=.slice bC fY.length bF/\σ_ 11=.slice bq bg.length bv/\σ_ 62=jV (↑p0.Race.Clocks.length:Int)/\PHeap.Le cf U_/\SW w [B0,.obj ab (.map ae ah)] U U_ [B0,.obj ab (.map ae ah),B5,.row bq bv 3 1 (hH KL.encI bg)] w_) fq ?_ ?_ ?_
 have e8:=cR.nilrow 3 1
 exact ⟨cf,none,0,rfl,cC,dN,dO,dP,rfl,rfl,(zM _),(e8.pick [1,2,3,0] _ (by decide) rfl)⟩
 rintro av bg gF gL cj bO ⟨dk,bq,bv,bG,cD,cE,cG,dR,dS,cH,cZ,e9⟩ fQ
 have cu:Hid ((↑av:Int) < (↑p0.Race.Clocks.length:Int)):=zI (wBJ bO)
 replace bO:=zI bO
 have fA:Hid (w64 ((↑av:Int) + 1)=(↑(av + 1):Int)):=zI (by have h1:=bR.out;have h2:=cu.out;rw [wAX] <;> omega)
 refine sR fL1 rfl (zk rfl rfl rfl rfl (fun _=>zX rfl bG cH) (eN (zH (cT Z cu (kN (zH (zW (sR fL2 rfl (zz rfl rfl rfl rfl rfl bG (yX rfl rfl rfl rfl rfl rfl (eN (ZD zy [3,3,3,3,3,3,1,3,2,1,3,1,3,2,0,3] (wUh (.fx 8 (wVD (.fx 13 (.fx 14 (.fl 15 .nil) .stop) .stop)) .stop)) (by kernel_rfl) ?_))))))))))))
 have bL:=e9.drew
 generalize hw_W242:({ cj with drawn:=cj.drawn + 1 }:World)=du at bL ⊢
 refine oM Z dS (oM Z cG (oM Z cE (oM Z cD (oR Z (Zu Z Z) (oR Z (zE Z Z ZJ Z Zz) (oL Z (bL.ldB (j:=0) Z Z Z yC (v:=.map (some ab)) Z) (oM Z Z (bnK fQ fun fW eA fH=>zK 0 Z Z Z Z (zL Z Z Tryz.call70 (zD Z zQ) Z) bL (fun hs=>wCn (↑av:Int) du dk hs eA) (.inr Z) ?_))))))))
 rintro bu fZ gD dv da fb ⟨rfl,rfl⟩
 let B6:Res:=.row bq bv 3 1 (hH KL.encI bg)
 have bM:SW w [B0,.obj ab (.map ae ah)] U bu [B0,.obj ab (.map ae ah),B5,B6] dv:=fb
 refine oL Z (bM.lookup1 (j:=1) (mk:=wBW) (mv:=wBb) (a:=fW) (z:=0) Z Z Z Z (wCI ZQ) wDf Za cV) (bnK fH fun ba bK fJ=>?_)
 have eC:=bN.le fT
 have eD:=eC.le cZ
 have eE:=eD.le da
 have q:=eE.el (fun _=>rfl) (wAS bK)
 obtain ⟨gi,gB,eJ,eM⟩:=q
 refine oR Z (ZC Z Z eJ Z zC zB (wAx bK) (wBA bK)) (oL Z (bM.ldC (f:=0) eM (v:=jV ba) Z Z zF Z) (oR Z (yg Z Z Z) (ZW (pv:=[(0,jV (w64 (x3 - ba)))]) (zs:=[jV 0]) (cs:=[jV (w64 (x3 - ba))]) Z Z Z Z Z (wAH Z wAY) zC zB Za Z Z Z Z Z bM ?_)))
 intro dw dA fc
 let B7:Res:=.row (some ⟨dA,0,none⟩) 1 3 1 (hH KL.encI [w64 (x3 - ba)])
 have cS:SW w [B0,.obj ab (.map ae ah)] U bu [B7,B0,.obj ab (.map ae ah),B5,B6] dw:=fc
 refine bnK fJ fun dg eF fK=>yH (j:=4) (enc:=KL.encI) (xs:=bg) (ys:=[w64 (x3 - ba)]) (zs:=dg) rfl rfl rfl rfl rfl Tryz.underlying22 wLg rfl rfl rfl rfl rfl rfl cS rfl rfl rfl (cS.srcR (j:=0) rfl (by decide) (wAI (f:=KL.encI) (sz:=1) (fun _=>rfl) [w64 (x3 - ba)])) (fun _=>rfl) (fun _=>rfl) eF rfl ?_
 intro bY cw dx fd
 have ff:SW w [B0,.obj ab (.map ae ah)] U bu [B7,B0,.obj ab (.map ae ah),B5,.row bY cw 3 1 (hH KL.encI dg)] dx:=fd
 refine oA Z Z (zh (zq (zG (rR fL2 Z (oR Z (ZP (zZ Z bG Z) (congrArg (jV) fA.out)) (oM Z Z (zh ?_)))))))
 cases fK
 exact zG ⟨rfl,⟨bu,bY,cw,rfl,cD,cE,cG,dR,rfl,cH,(cZ.trans da),(ff.pick [1,2,3,4] _ (by decide) rfl)⟩⟩
 rintro gM ge ⟨dl,dh,dD,d9,gq,gt,gu,dT,dU,dV,fU,fg⟩
 have dE:Hid (¬ ((↑(((↑p0.Race.Clocks.length:Int):Int) - 0).toNat:Int) < (↑p0.Race.Clocks.length:Int))):=zI (wAj)
 refine sR fL1 Z (oR Z (zX Z d9 dV) (eN (zH (cF Z dE (ZT (zf (zf (ZK (zG (sR fL4 Z (oM Z dT (oM Z dU (oA Z Z (oA Z Z (eN (zP ?_))))))))))))))))
 have eG:=ey.le fU
 cases fG
 exact ⟨rfl,_,(wFJ rfl rfl),dl,_,(fg.pick [2,3,0,1] _ (by decide) rfl),bC,bF,ct,dh,dD,rfl,rfl,eG⟩
end Go.Proofs.YtlnfbjphfoipaaaGreat
namespace Go.Proofs.YtlnfbjphfoipaaaGreat
open Go.KL
set_option maxHeartbeats 4000000
theorem wJq (p0:wAA) (cg:Option Addr) (cp:Nat) (cj:Option Addr) (cq:Nat) (cm:Option Addr) (cr:Nat) (cn:Option Addr) (ct:Nat) (p1:wAM) (p2:Bool) (w:World) (U:PHeap) (hS:St0 w U []) (gU:Sl U 1 cg cp p0.Starts.length (hH KL.encI p0.Starts)) (gW:Sl U 2 cj cq p0.Splits.length (hH wAB p0.Splits)) (gX:Sl U 3 cm cr p0.Clocks.length (hH wAD p0.Clocks)) (gZ:Sl U 4 cn ct p0.Readings.length (hH wAC p0.Readings)) {r:(List (List Int)) × (List Int) × Int} (hm:wDB p0 p1 p2=some r):Gv Tryz.prog 45 [.agg #[.slice cg p0.Starts.length cp,.slice cj p0.Splits.length cq,.slice cm p0.Clocks.length cr,.slice cn p0.Readings.length ct],.agg #[jV p1.Skier,jV p1.Mat],.bool p2] w (wCp w [] U (fun U_ L_ v=>∃ (A0:Option Addr) (c0:Nat) (dM:List Value) (A1:Option Addr) (c1:Nat),v=.tuple #[.slice A0 r.1.length c0,.slice A1 r.2.1.length c1,jV r.2.2]/\L_=[.row A0 c0 22 1 dM,.row A1 c1 3 1 (hH KL.encI r.2.1)]/\RlL U_ wIM r.1 dM)):=by
 unfold wDB at hm
 refine Gv.of Tryz.func45 Z Tryz.ntmps45 Tryz.results45 Z (sR (.fx 0 (.fx 1 (fC2_4 (.nil)) .stop) .stop) Z ?_)
 let B0:List Value:=[.slice cg p0.Starts.length cp,.slice cj p0.Splits.length cq,.slice cm p0.Clocks.length cr,.slice cn p0.Readings.length ct]
 refine ZE (cs:=B0) rfl rfl rfl rfl rfl rfl (by rfl) hS ?_
 intro W1 b2 gG
 let B1:List Value:=[jV p1.Skier,jV p1.Mat]
 refine ZE (cs:=B1) rfl rfl rfl rfl rfl rfl (by rfl) gG ?_
 intro W5 b6 cW
 refine oA Z Z (oA Z Z (oA Z Z (eN (sR (.fl 0 (.fl 1 (.fx 2 (.fx 3 (wLt (.nil)) .stop) .stop))) Z (oL Z (cW.ldBA (j:=1) Z Z Z ZB zo (vs:=B0) Z Z) (oL Z (cW.ldBA (j:=0) Z Z Z yq yK (vs:=B1) Z Z) (ZW (pv:=[(0,.agg B1.toArray)]) (zs:=[jV 0,jV 0]) (cs:=B1) Z Z Z Z Z (wAH Z wAY) Tryz.runUnderlying56 yK Tryz.zeroValue29 Z Z Z Z Z cW ?_)))))))
 intro W9 dF fU
 have fV:sW w U U [.row (some ⟨dF,0,none⟩) 1 29 2 (hH wCm [p1]),.blk b6 29 B1,.blk b2 27 B0] W9:=fU
 have q:=fV.freezeR (k:=0) (n:=[p1].length) rfl (wAI (f:=wCm) (sz:=2) (fun _=>rfl) [p1]) (by decide)
 obtain ⟨du,cf,iq,gf⟩:=q
 have gh:sW w U du [.blk b6 29 B1,.blk b2 27 B0] W9:=gf
 have eU:=gU.le cf
 have eV:=gW.le cf
 have eW:=gX.le cf
 have eZ:=gZ.le cf
 have q:=bnd hm
 obtain ⟨⟨iB,x24⟩,fc,bF⟩:=q
 try dsimp only at bF
 refine zK 0 Z Z Z Z (zL Z Z Tryz.call63 (zD Z (zD Z zQ)) Z) gh (fun hs=>wHJ p0 cg cp cj cq cm cr cn ct [p1] (some ⟨dF,0,none⟩) 1 W9 du hs eU eV eW eZ iq fc) (.inr Z) ?_
 rintro be iJ ja bn iW dT dR
 rcases iB with _ | x48
 try dsimp only at bF
 obtain ⟨rfl,rfl⟩:=dR
 have dV:sW w U be [.blk b6 29 B1,.blk b2 27 B0] bn:=dT
 refine oM Z Z (oR Z (zu Z Z (v:=.pointer none) Z) (oR Z (zu Z Z (v:=jV x24) Z) (oA Z Z (oA Z Z (eN (zH (sR fL2 Z (oM Z Z (oR Z (Zo Z Z Z) (eN (ifc bF ?_ ?_)))))))))))
 intro cP im
 refine zx (Ze (fun h=>h cP.out)) (kN (zH (ZD zy [3,3,3,3,1,1,2,1,3,3,0,3,3,3,3,2,0,3,3] (wId (.fl 8 (.fl 9 (.fx 6 (.fl 7 (.fx 10 (wHC gDp) (.fx 15 (.fx 10 (wHC gDk) (.stop)) (.stop)))) (.fx 15 (.fx 6 (.fl 7 (.fx 10 (wHC gDk) (.stop))) (.stop)) (.stop)))))) (by kernel_rfl) ?_)))
 have gQ:=dV.drew
 generalize hw_W53:({ bn with drawn:=bn.drawn + 1 }:World)=iR at gQ ⊢
 refine oM Z Z (oM Z Z ?_)
 cases im
 intro cP io
 refine cT Z cP (sR fL4 Z (oM Z Z (oA Z Z (oA Z Z (oA Z Z (eN (zP (zN ?_))))))))
 have gR:=dV.nilrow 22 1
 have gS:=gR.nilrow 3 1
 cases io
 exact ⟨rfl,_,(res3 rfl rfl rfl),be,_,(gS.pick [1,0] _ (by decide) rfl),none,0,[],none,0,rfl,rfl,RlL.nil⟩
 try dsimp only at bF
 obtain ⟨ba,bg,bo,bh,bp,bi,bq,bj,br,ab,ai,ah,bk,bs,rfl,rfl,bz,bA,bB,bC,bf,bD⟩:=dR
 let B2:Res:=.blk ba 139 [.slice bg x48.Race.Starts.length bo,.slice bh x48.Race.Splits.length bp,.slice bi x48.Race.Clocks.length bq,.slice bj x48.Race.Readings.length br,.map (some ab),.slice bk x48.edges.length bs]
 have dW:sW w U be [B2,.obj ab (.map ai ah),.blk b6 29 B1,.blk b2 27 B0] bn:=dT
 refine oM Z Z (oR Z (zu Z Z (v:=.pointer (some ⟨ba,0,none⟩)) Z) (oR Z (zu Z Z (v:=jV x24) Z) (oA Z Z (oA Z Z (eN (zH (sR fL2 Z (oM Z Z (oR Z (Zo Z Z Z) (eN (ifc bF ?_ ?_)))))))))))
 intro cQ ip
 refine zx (Ze (fun h=>h cQ.out)) (kN ?_)
 have q:=bnd ip
 obtain ⟨⟨az,bd⟩,iv,dZ⟩:=q
 try dsimp only at dZ
 refine yU (fun σ_ w_=>∃ (U_:PHeap) (bb:Nat) (aq:Option Addr) (au:Nat) (aY:Option Addr) (aZ:Nat),σ_ 2=.bool p2/\σ_ 9=.pointer (some ⟨ba,0,none⟩)/\σ_ 11=.pointer (some ⟨bb,0,none⟩)/\PHeap.Le be U_/\sW w U U_ [B2,.obj ab (.map ai ah),.blk b6 29 B1,.blk b2 27 B0,.blk bb 133 [.slice aq az.length au,.slice aY bd.length aZ],.row aq au 3 1 (hH KL.encI az),.row aY aZ 3 1 (hH KL.encI bd)] w_) ?_ ?_
 refine bnK iv fun x81 dQ ie=>?_
 have q:=bnd ie
 obtain ⟨⟨x96,x97,x98⟩,cU,cd⟩:=q
 try dsimp only at cd
 refine ZD zy [3,3,3,3,1,1,2,1,3,3,0,3,3,3,3,2,0,3,3] (wId (.fl 8 (.fl 9 (.fx 6 (.fl 7 (.fx 10 (wHC gDp) (.fx 15 (.fx 10 (wHC gDk) (.stop)) (.stop)))) (.fx 15 (.fx 6 (.fl 7 (.fx 10 (wHC gDk) (.stop))) (.stop)) (.stop)))))) (by kernel_rfl) ?_
 have bE:=dW.drew
 generalize hw_W124:({ bn with drawn:=bn.drawn + 1 }:World)=d6 at bE ⊢
 refine oM Z Z (oM Z Z (oR Z (Zu Z Z) (oR Z (zE Z Z ZJ Z Zz) (oL Z (bE.ldB (j:=0) Z Z Z yC (v:=.map (some ab)) Z) (oL Z (bE.ldBA (j:=2) Z Z Z yq yK (vs:=B1) Z Z) (oM Z Z (oR Z (Zf Z Z) (zw ?_ ?_))))))))
 refine zK 0 Z Z Z Z (zL Z Z Tryz.call66 (zD Z zQ) Z) bE (fun hs=>wKZ p1 d6 be hs dQ) (.inr Z) ?_
 rintro bR iE iY dA aW fW ⟨rfl,rfl⟩
 have cV:sW w U bR [B2,.obj ab (.map ai ah),.blk b6 29 B1,.blk b2 27 B0] dA:=fW
 refine oL Z (cV.lookup1 (j:=1) (mk:=wBW) (mv:=wBb) (a:=x81) (z:=0) Z Z Z Z (wCI ZQ) wDf Za bf) (zw ?_ ?_)
 have eH:=bz.le aW
 have eI:=bA.le aW
 have eJ:=bB.le aW
 have eK:=bC.le aW
 have eL:=bD.le aW
 refine zK 2 Z Z Z Z (zL Z Z Tryz.call74 (zD Z (zD Z (zD Z zQ))) Z) cV (fun hs=>wCR x48 ba bg bo bh bp bi bq bj br ab ai ah bk bs (wBD x48.number x81 0) (!p2) dA bR hs eH eI eJ eK bf eL cU) (.inl Z) ?_
 rintro cC iF iZ d7 iw fY ⟨bK,bT,bL,bU,rfl,rfl⟩
 let B3:Res:=.row bK bT 3 1 (hH KL.encI x96.far)
 let B4:Res:=.row bL bU 3 1 (hH KL.encI x96.by_)
 have fZ:sW w U cC [B3,B4,B2,.obj ab (.map ai ah),.blk b6 29 B1,.blk b2 27 B0] d7:=fY
 refine oM Z Z (oR Z (zu Z Z (v:=.agg #[.slice bK x96.far.length bT,.slice bL x96.by_.length bU]) Z) (oR Z (zu Z Z (v:=jV x97) Z) (oR Z (zu Z Z (v:=.bool x98) Z) (ze (cs:=[.slice none 0 0,.slice none 0 0]) Z Z Z Z Z Zm Z fZ ?_))))
 intro iO dG ga
 let B5:List Value:=[.slice bK x96.far.length bT,.slice bL x96.by_.length bU]
 refine zm (j:=0) (vs:=B5) Z Z Z Z ga Z Z Z Z yA (zA Z) Z Z Z ?_
 intro d8 gb
 have ge:sW w U cC [.blk dG 133 B5,B3,B4,B2,.obj ab (.map ai ah),.blk b6 29 B1,.blk b2 27 B0] d8:=gb
 refine oA Z Z (oA Z Z (zh ?_))
 cases cd
 exact zG ⟨rfl,⟨cC,dG,bK,bT,bL,bU,rfl,rfl,rfl,(aW.trans iw),(ge.pick [3,4,5,6,0,1,2] _ (by decide) rfl)⟩⟩
 let B6:List Value:=[.slice none 0 0,.slice none 0 0]
 refine ze (cs:=B6) Z Z Z Z Z Zm Z cV ?_
 intro dB bS gg
 have eM:=bz.le aW
 have eO:=bA.le aW
 have eQ:=bB.le aW
 have eR:=bC.le aW
 have eS:=bD.le aW
 have gi:sW w U bR [B2,.obj ab (.map ai ah),.blk bS 133 B6,.blk b6 29 B1,.blk b2 27 B0] dB:=gg.pick [1,2,0,3,4] _ (by decide) rfl
 refine zK 2 Z Z Z Z (zL Z Z Tryz.call74 (zD Z (zD Z (zD Z zQ))) Z) gi (fun hs=>wCR x48 ba bg bo bh bp bi bq bj br ab ai ah bk bs (wBD x48.number x81 0) (!p2) dB bR hs eM eO eQ eR bf eS cU) (.inl Z) ?_
 rintro cD iG i4 d9 iy gj ⟨bM,bV,bN,bW,rfl,rfl⟩
 let B7:Res:=.row bM bV 3 1 (hH KL.encI x96.far)
 let B8:Res:=.row bN bW 3 1 (hH KL.encI x96.by_)
 have gm:sW w U cD [B7,B8,B2,.obj ab (.map ai ah),.blk bS 133 B6,.blk b6 29 B1,.blk b2 27 B0] d9:=gj
 refine oM Z Z (oR Z (zu Z Z (v:=.agg #[.slice bM x96.far.length bV,.slice bN x96.by_.length bW]) Z) (oR Z (zu Z Z (v:=jV x97) Z) (oR Z (zu Z Z (v:=.bool x98) Z) ?_)))
 let B9:List Value:=[.slice bM x96.far.length bV,.slice bN x96.by_.length bW]
 refine zm (j:=4) (vs:=B9) Z Z Z Z gm Z Z Z Z yA (zA Z) Z Z Z ?_
 intro ef gq
 have gt:sW w U cD [B7,B8,B2,.obj ab (.map ai ah),.blk bS 133 B9,.blk b6 29 B1,.blk b2 27 B0] ef:=gq
 refine oA Z Z (oA Z Z (zh ?_))
 cases cd
 exact zG ⟨rfl,⟨cD,bS,bM,bV,bN,bW,rfl,rfl,rfl,(aW.trans iy),(gt.pick [2,3,5,6,4,0,1] _ (by decide) rfl)⟩⟩
 let bQ:List Value:=[.slice none 0 0,.slice none 0 0]
 refine ze (cs:=bQ) Z Z Z Z Z Zm Z bE ?_
 intro eg bw gu
 refine zK 0 Z Z Z Z (zL Z Z Tryz.call66 (zD Z zQ) Z) gu (fun hs=>wKZ p1 eg be hs dQ) (.inr Z) ?_
 rintro cE iH i6 cI bu gv ⟨rfl,rfl⟩
 have dS:sW w U cE [.blk bw 133 bQ,B2,.obj ab (.map ai ah),.blk b6 29 B1,.blk b2 27 B0] cI:=gv
 refine oL Z (dS.lookup1 (j:=2) (mk:=wBW) (mv:=wBb) (a:=x81) (z:=0) Z Z Z Z (wCI ZQ) wDf Za bf) ?_
 have eX:=bz.le bu
 have eY:=bA.le bu
 have e8:=bB.le bu
 have e9:=bC.le bu
 have fb:=bD.le bu
 have gw:sW w U cE [B2,.obj ab (.map ai ah),.blk bw 133 bQ,.blk b6 29 B1,.blk b2 27 B0] cI:=dS.pick [1,2,0,3,4] _ (by decide) rfl
 refine zK 2 Z Z Z Z (zL Z Z Tryz.call74 (zD Z (zD Z (zD Z zQ))) Z) gw (fun hs=>wCR x48 ba bg bo bh bp bi bq bj br ab ai ah bk bs (wBD x48.number x81 0) (!p2) cI cE hs eX eY e8 e9 bf fb cU) (.inl Z) ?_
 rintro cG iI i8 eh iz gx ⟨bO,bX,bP,bY,rfl,rfl⟩
 let db:Res:=.row bO bX 3 1 (hH KL.encI x96.far)
 let de:Res:=.row bP bY 3 1 (hH KL.encI x96.by_)
 have gy:sW w U cG [db,de,B2,.obj ab (.map ai ah),.blk bw 133 bQ,.blk b6 29 B1,.blk b2 27 B0] eh:=gx
 refine oM Z Z (oR Z (zu Z Z (v:=.agg #[.slice bO x96.far.length bX,.slice bP x96.by_.length bY]) Z) (oR Z (zu Z Z (v:=jV x97) Z) (oR Z (zu Z Z (v:=.bool x98) Z) ?_)))
 let df:List Value:=[.slice bO x96.far.length bX,.slice bP x96.by_.length bY]
 refine zm (j:=4) (vs:=df) Z Z Z Z gy Z Z Z Z yA (zA Z) Z Z Z ?_
 intro ej gz
 have gA:sW w U cG [db,de,B2,.obj ab (.map ai ah),.blk bw 133 df,.blk b6 29 B1,.blk b2 27 B0] ej:=gz
 refine oA Z Z (oA Z Z (zh ?_))
 cases cd
 exact zG ⟨rfl,⟨cG,bw,bO,bX,bP,bY,rfl,rfl,rfl,(bu.trans iz),(gA.pick [2,3,5,6,4,0,1] _ (by decide) rfl)⟩⟩
 rintro jd dC ⟨dv,bb,aq,au,aY,aZ,eA,dN,cR,a0,b5⟩
 refine zH (sR fL2 Z (oM Z eA (oR Z (Zf Z Z) (eN (ifc dZ ?_ ?_)))))
 intro cK ig
 refine zx (nC cK.out) (kN (sR (wEG (.fx 3 (wLt (.nil)) .stop)) Z (oM Z dN (oR Z (zE Z cR ZV Z zS) (oL Z (b5.ldB (j:=4) Z Z Z zY (v:=.slice aq az.length au) Z) ?_)))))
 have q:=b5.freezeR (k:=5) (n:=az.length) rfl (wAI (f:=KL.encI) (sz:=1) (fun _=>rfl) az) (by decide)
 obtain ⟨dw,bG,ir,gB⟩:=q
 let dg:Res:=.blk bb 133 [.slice aq az.length au,.slice aY bd.length aZ]
 let dh:Res:=.row aY aZ 3 1 (hH KL.encI bd)
 have gC:sW w U dw [B2,.obj ab (.map ai ah),.blk b6 29 B1,.blk b2 27 B0,dg,dh] dC:=gB
 have fd:=bz.le a0
 have ff:=fd.le bG
 have fg:=bA.le a0
 have fh:=fg.le bG
 have fj:=bB.le a0
 have fm:=fj.le bG
 have fq:=bC.le a0
 have ft:=fq.le bG
 have fu:=bD.le a0
 have fw:=fu.le bG
 have q:=bnd ig
 obtain ⟨⟨iC,d4⟩,fy,dX⟩:=q
 try dsimp only at dX
 refine zK 2 Z Z Z Z (zL Z Z Tryz.call75 (zD Z (zD Z zQ)) Z) gC (fun hs=>wFC x48 ba bg bo bh bp bi bq bj br ab ai ah bk bs az aq au dC dw hs ff fh fm ft bf fw ir fy) (.inl Z) ?_
 rintro dx iK i9 en iV gD ⟨cu,cL,dJ,cw,cM,rfl,rfl,fz⟩
 have gF:sW w U dx [.row cu cL 22 1 dJ,.row cw cM 3 1 (hH KL.encI d4),B2,.obj ab (.map ai ah),.blk b6 29 B1,.blk b2 27 B0,dg,dh] en:=gD
 refine oM Z Z (oR Z (zu Z Z (v:=.slice cu iC.length cL) Z) (oR Z (zu Z Z (v:=.slice cw d4.length cM) Z) (oA Z Z (oA Z Z (eN (sR fL5 Z (oM Z Z (oM Z Z (oA Z Z (oA Z Z (oA Z Z (eN (zP ?_)))))))))))))
 cases dX
 exact ⟨rfl,_,(res3 rfl rfl rfl),dx,_,(gF.pick [0,1] _ (by decide) rfl),cu,cL,dJ,cw,cM,rfl,rfl,fz⟩
 intro cK ii
 refine ZG (nF (cK.out)) (sR fL4 Z (oR Z (zE Z cR ZV Z zS) (oL Z (b5.ldB (j:=4) Z Z Z zY (v:=.slice aq az.length au) Z) (oR Z (zd Z Z zC) (oM Z Z (eN (zW (bnK ii fun bJ g7 ij=>?_))))))))
 have q:=wBc g7
 obtain ⟨cY,g8⟩:=q
 replace cY:=zI cY
 let bm:Res:=.row aY aZ 3 1 (hH KL.encI bd)
 refine CK.forN' (fun aV av σ_ w_=>∃ (U_:PHeap),σ_ 47=jV (↑aV:Int)/\σ_ 9=.pointer (some ⟨ba,0,none⟩)/\σ_ 11=.pointer (some ⟨bb,0,none⟩)/\σ_ 46=jV (↑az.length:Int)/\PHeap.Le dv U_/\sW w U U_ [B2,.obj ab (.map ai ah),.blk b6 29 B1,.blk b2 27 B0,.row aq au 3 1 (hH KL.encI av),bm,.blk bb 133 [.slice aq av.length au,.slice aY bd.length aZ]] w_/\av.length=az.length) g8 ?_ ?_ ?_
 exact ⟨dv,rfl,dN,cR,rfl,(zM _),(b5.pick [0,1,2,3,5,6,4] _ (by decide) rfl),rfl⟩
 rintro aV av jc je iP cX ⟨cH,cS,eC,dO,dP,iA,cb,fA⟩ iu
 have dK:Hid ((↑aV:Int) < (↑az.length:Int)):=zI (wBJ cX)
 replace cX:=zI cX
 have ic:Hid (w64 ((↑aV:Int) + 1)=(↑(aV + 1):Int)):=zI (by have h1:=cY.out;have h2:=dK.out;rw [wAX] <;> omega)
 refine sR fL1 Z (oR Z (zX Z cS dP) (eN (zH (cT Z dK (kN (zH (zW (sR fL2 Z (oM Z cS (oA Z Z (eN (rR (wNc (.fx 7 .nil .stop)) Z (oR Z (zE Z dO ZV Z zS) (oL Z (cb.ldB (j:=6) Z Z Z zY (v:=.slice aq av.length au) Z) (oM Z Z (bnK iu fun _ bt ik=>?_))))))))))))))))
 obtain ⟨iT,bZ⟩:=cb.rowSome (j:=4) rfl (by rw [wAI (f:=KL.encI) (sz:=1) (fun _=>rfl) av];have hz:=wAN bt;omega)
 refine oR Z (ZL Z Z bZ Z zC zB (wAN bt)) ?_
 have g9:=wBK (xs:=av) (wAN bt)
 refine ZI rfl rfl rfl rfl (cb.ldR (j:=4) rfl bZ rfl rfl zF (wAT (sz:=1) (fun _=>rfl) _ _ 0 _ g9 (by first | omega | rfl | simp) rfl)) rfl (zk rfl rfl rfl rfl (fun _=>Runs.mulw rfl rfl rfl) (zk rfl rfl rfl rfl (fun _=>ZL rfl rfl bZ rfl zC zB (wAN bt)) ?_))
 have ib:=wBK (xs:=av) (wAN bt)
 refine ye (j:=4) (vs:=[jV (w64 ((gd av aV) * (-1)))]) (cs':=hH KL.encI (nE av aV (w64 ((gd av aV) * (-1))))) rfl rfl rfl rfl cb rfl bZ rfl rfl rfl zB (by rw [wAI (f:=KL.encI) (sz:=1) (fun _=>rfl)];have hz:=wAN bt;show _ + 1 <= _;first | omega | (simp only [nG];omega) | (simp only [nL,nI,nJ];omega)) rfl (wCv (sz:=1) (fo:=0) (fun _=>rfl) _ _ _ _ ib (by first | omega | (simp only [nG];omega) | (simp only [nL,nI,nJ];omega)) (zA rfl) rfl) rfl ?_
 intro dD gH
 let cz:Res:=.row aq au 3 1 (hH KL.encI (nE av aV (w64 ((gd av aV) * (-1)))))
 have gI:sW w U cH [B2,.obj ab (.map ai ah),.blk b6 29 B1,.blk b2 27 B0,cz,bm,.blk bb 133 [.slice aq av.length au,.slice aY bd.length aZ]] dD:=gH
 have gJ:sW w U cH [B2,.obj ab (.map ai ah),.blk b6 29 B1,.blk b2 27 B0,cz,bm,.blk bb 133 [.slice aq ((nE av aV (w64 ((gd av aV) * (-1)))).length) au,.slice aY bd.length aZ]] dD:=by simpa only [B0,B1,bm,cz,B2,nH] using gI
 refine zh (zq (zG (rR fL2 Z (oR Z (ZP (zZ Z cS Z) (congrArg (jV) ic.out)) (oM Z Z (zh ?_))))))
 cases ik
 exact zG ⟨Z,⟨cH,Z,eC,dO,dP,iA,gJ,(nH.trans fA)⟩⟩
 rintro jf dE ⟨iM,eG,eD,eE,eF,bH,dU,iU⟩
 have ey:Hid (¬ ((↑(((↑az.length:Int):Int) - 0).toNat:Int) < (↑az.length:Int))):=zI (wAj)
 refine sR fL1 Z (oR Z (zX Z eG eF) (eN (zH (cF Z ey (ZT (zf (zf (ZK (zG (sR (wEG (.fx 3 (wLt (.nil)) .stop)) Z (oM Z eD (oR Z (zE Z eE ZV Z zS) (oL Z (dU.ldB (j:=6) Z Z Z zY (v:=.slice aq bJ.length au) Z) ?_)))))))))))))
 have q:=dU.freezeR (k:=4) (n:=bJ.length) rfl (wAI (f:=KL.encI) (sz:=1) (fun _=>rfl) bJ) (by decide)
 obtain ⟨dy,bI,it,gK⟩:=q
 let dk:Res:=.blk bb 133 [.slice aq bJ.length au,.slice aY bd.length aZ]
 have gL:sW w U dy [B2,.obj ab (.map ai ah),.blk b6 29 B1,.blk b2 27 B0,bm,dk] dE:=gK
 have fB:=bz.le a0
 have fC:=fB.le bH
 have fD:=fC.le bI
 have fE:=bA.le a0
 have fG:=fE.le bH
 have fH:=fG.le bI
 have fJ:=bB.le a0
 have fK:=fJ.le bH
 have fL:=fK.le bI
 have fM:=bC.le a0
 have fN:=fM.le bH
 have fO:=fN.le bI
 have fP:=bD.le a0
 have fQ:=fP.le bH
 have fR:=fQ.le bI
 have q:=bnd ij
 obtain ⟨⟨iD,d5⟩,fS,dY⟩:=q
 try dsimp only at dY
 refine zK 2 Z Z Z Z (zL Z Z Tryz.call75 (zD Z (zD Z zQ)) Z) gL (fun hs=>wFC x48 ba bg bo bh bp bi bq bj br ab ai ah bk bs bJ aq au dE dy hs fD fH fL fO bf fR it fS) (.inl Z) ?_
 rintro dz iL jb eu iX gM ⟨cx,cN,dL,cy,cO,rfl,rfl,fT⟩
 have gN:sW w U dz [.row cx cN 22 1 dL,.row cy cO 3 1 (hH KL.encI d5),B2,.obj ab (.map ai ah),.blk b6 29 B1,.blk b2 27 B0,bm,dk] eu:=gM
 refine oM Z Z (oR Z (zu Z Z (v:=.slice cx iD.length cN) Z) (oR Z (zu Z Z (v:=.slice cy d5.length cO) Z) (oA Z Z (oA Z Z (eN (sR fL5 Z (oM Z Z (oM Z Z (oA Z Z (oA Z Z (oA Z Z (eN (zP ?_)))))))))))))
 cases dY
 exact ⟨rfl,_,(res3 rfl rfl rfl),dz,_,(gN.pick [0,1] _ (by decide) rfl),cx,cN,dL,cy,cO,rfl,rfl,fT⟩
 intro cQ il
 refine cT Z cQ (sR fL4 Z (oM Z Z (oA Z Z (oA Z Z (oA Z Z (eN (zP (zN ?_))))))))
 have gO:=dW.nilrow 22 1
 have gP:=gO.nilrow 3 1
 cases il
 exact ⟨rfl,_,(res3 rfl rfl rfl),be,_,(gP.pick [1,0] _ (by decide) rfl),none,0,[],none,0,rfl,rfl,RlL.nil⟩
theorem wGE (p0:wAK) (br:Option Addr) (bt:Nat) (bd:Option Addr) (bf:Nat) (be:Option Addr) (bg:Nat) (bs:Option Addr) (bu:Nat) (p1:List (List Int)) (av:Option Addr) (aV:Nat) (p2:List Int) (az:Option Addr) (aW:Nat) (w:World) (U:PHeap) (hS:St0 w U []) (eX:Sl U 1 br bt p0.Starts.length (hH KL.encI p0.Starts)) (eY:Sl U 2 bd bf p0.Splits.length (hH wAB p0.Splits)) (dt:Sl U 3 be bg p0.Clocks.length (hH wAG p0.Clocks)) (eZ:Sl U 4 bs bu p0.Readings.length (hH wAF p0.Readings)) (bV:SlR U wIM av aV p1) (du:Sl U 1 az aW p2.length (hH KL.encI p2)) {r:Bool × Int} (hm:wCK p0 p1 p2=some r):Gv Tryz.prog 36 [.agg #[.slice br p0.Starts.length bt,.slice bd p0.Splits.length bf,.slice be p0.Clocks.length bg,.slice bs p0.Readings.length bu],.slice av p1.length aV,.slice az p2.length aW] w (wCp w [] U (fun U_ L_ v=>v=.tuple #[.bool r.1,jV r.2]/\L_=[])):=by
 unfold wCK at hm
 refine Gv.of Tryz.func36 Z Tryz.ntmps36 Tryz.results36 Z (sR gDj Z ?_)
 let B0:List Value:=[.slice br p0.Starts.length bt,.slice bd p0.Splits.length bf,.slice be p0.Clocks.length bg,.slice bs p0.Readings.length bu]
 refine ZE (cs:=B0) rfl rfl rfl rfl rfl rfl (by rfl) hS ?_
 intro W1 b2 eS
 refine oA Z Z (oA Z Z (eN (zH (sR gDi Z (oL Z (eS.ldBA (j:=0) Z Z Z ZY ZN (vs:=B0) Z Z) (bnK hm fun x5 h6 oG=>zK 0 Z Z Z Z (zL Z Z Tryz.call34 (zD Z zQ) Z) eS (fun hs=>wDE p0 br bt bd bf be bg bs bu W1 U hs eX eY dt eZ h6) (.inr Z) ?_))))))
 rintro U8 L9 qF gi am lP ⟨rfl,rfl⟩
 have bo:sW w U U8 [.blk b2 36 B0] gi:=lP
 refine oA Z Z (eN (sR fL2 Z (oM Z Z (oR Z (Zo Z Z Z) (eN (ifc oG ?_ ?_))))))
 intro cx mD
 refine zx (Ze (fun h=>h cx.out)) (kN (zH (sR fL14 Z (oM Z Z (oR Z (zd Z Z zR) (oR Z (zE Z Z zV Z zS) (oL Z (bo.ldB (j:=0) Z Z Z zY (v:=.slice br p0.Starts.length bt) Z) (oR Z (zd Z Z zC) (oR Z (Zo Z Z Z) (oM Z Z (ifc mD ?_ ?_)))))))))))
 intro aj mK
 refine zz Z Z Z (zO Z Z (Ze (fun h=>h aj.out))) Z Z (zk Z Z Z (zO Z Z (Ze (fun h=>h aj.out))) (fun _=>zd Z Z zC) (zk Z Z Z (zO Z Z (Ze (fun h=>h aj.out))) (fun _=>zE Z Z zV Z Zr) (ZI Z Z Z (zO Z Z (Ze (fun h=>h aj.out))) (bo.ldB (j:=0) Z Z Z yB (v:=.slice be p0.Clocks.length bg) Z) Z (zk Z Z Z (zO Z Z (Ze (fun h=>h aj.out))) (fun _=>zd Z Z Zj) (zk Z Z Z (zO Z Z (Ze (fun h=>h aj.out))) (fun _=>Zo Z Z Z) (oR Z (zt Z (Ze (fun h=>h aj.out)) Z) (eN (ifc mK ?_ ?_))))))))
 intro cz dF
 refine zx (Ze (fun h=>h cz.out)) (kN (zH (sR fL1 Z (oA Z Z (eN (zW ?_))))))
 have q:=wCH dF
 obtain ⟨qB,dp⟩:=q
 have q:=wCG dp
 obtain ⟨dB,mo⟩:=q
 replace dB:=zI dB
 refine yG (fun bp _ σ_ w_=>∃ (U_:PHeap),σ_ 9=jV (↑bp:Int)/\σ_ 1=.slice av p1.length aV/\σ_ 2=.slice az p2.length aW/\σ_ 3=.pointer (some ⟨b2,0,none⟩)/\PHeap.Le U8 U_/\sW w U U_ [.blk b2 36 B0] w_) mo ?_ ?_ ?_
 exact ⟨U8,Z,Z,Z,Z,(zM _),bo⟩
 rintro bp ⟨⟩ re rA dS dx ⟨cp,cQ,cL,ij,eg,fB,lV⟩ ft me
 try dsimp only at ft
 have dY:Hid ((↑bp:Int) < (↑p1.length:Int)):=zI (wBJ dx)
 replace dx:=zI dx
 have mu:Hid (w64 ((↑bp:Int) + 1)=(↑(bp + 1):Int)):=zI (by have h1:=dB.out;have h2:=dY.out;rw [wAX] <;> omega)
 refine zH (sR fL4 rfl (zz rfl rfl rfl rfl rfl cQ (zz rfl rfl rfl rfl rfl cL (zk rfl rfl rfl rfl (fun _=>zd rfl rfl zR) (zk rfl rfl rfl rfl (fun _=>zX rfl rfl rfl) (eN (cT Z dY (kN (zH (zW (zH (ZD zy [3,3,3,1,3,3,1,3,3,3] fL10 (by kernel_rfl) ?_))))))))))))
 have bB:=lV.drew
 generalize hw_W43:({ dS with drawn:=dS.drawn + 1 }:World)=pP at bB ⊢
 refine oM Z cL (oM Z cQ (bnK ft fun x44 eL n6=>?_))
 have jl:=bV.le am
 have jo:=jl.le fB
 have q:=jo.el (wAS eL)
 obtain ⟨gF,pg,qQ,ls,dh,oU⟩:=q
 obtain ⟨fK,fR,rfl,qi⟩:=oU
 replace dh:Cl cp gF (pg + bp * 1) [.slice fK x44.length fR]:=dh
 refine oR Z (ZL Z Z ls Z zR zS (wBk eL)) (oL Z (bB.ldC (f:=0) dh (v:=.slice fK x44.length fR) Z Z zY Z) (oR Z (zd Z Z zC) (oR Z (zE Z eg zV Z Zd) (oL Z (bB.ldB (j:=0) Z Z Z Zi (v:=.slice bd p0.Splits.length bf) Z) (oR Z (zd Z Z zr) (oR Z (zZ Z Z Z) (oR Z (Zo Z Z Z) (eN (ifc n6 ?_ ?_)))))))))
 intro cG oi
 refine zx (Ze (fun h=>h cG.out)) (Zh (zq (zG (rR fL3 Z (oM Z cQ (oR Z (ZP (zZ Z Z Z) (congrArg (jV) mu.out)) (oA Z Z (zh ?_))))))))
 obtain rfl:=nA oi
 exact zG ⟨Z,_,Z,⟨cp,Z,cL,ij,eg,fB,bB⟩⟩
 intro cG oj
 refine cT Z cG (sR fL2 Z (oA Z Z (oA Z Z (eN (zP (zg (zN ?_)))))))
 have q:=wAZ oj
 obtain ⟨pz,oy,g7⟩:=q
 obtain rfl:=wCA dF dp (me pz g7)
 refine zN (zg (zN ?_))
 cases oy
 exact ⟨rfl,_,(wFJ rfl rfl),cp,_,(bB.pick [] _ (by decide) rfl),rfl,rfl⟩
 rintro ⟨⟩ rH pT ⟨dP,iA,ey,iq,ir,ap,l8⟩ mi
 have bY:=wCu dF dp mi
 try dsimp only at bY
 have gL:Hid (¬ ((↑(((↑p1.length:Int):Int) - 0).toNat:Int) < (↑p1.length:Int))):=zI (wAj)
 refine zH (sR fL4 Z (oM Z iA (oM Z ey (oR Z (zd Z Z zR) (oR Z (zX Z Z Z) (eN (cF Z gL (ZT (zf (zf (ZK (zG (zH (sR fL1 Z (oA Z Z (eN (zW ?_)))))))))))))))))
 have q:=wCH bY
 obtain ⟨qE,dr⟩:=q
 have q:=wCG dr
 obtain ⟨dE,mq⟩:=q
 replace dE:=zI dE
 refine yG (fun bb _ σ_ w_=>∃ (U_:PHeap),σ_ 10=jV (↑bb:Int)/\σ_ 1=.slice av p1.length aV/\σ_ 2=.slice az p2.length aW/\σ_ 3=.pointer (some ⟨b2,0,none⟩)/\PHeap.Le dP U_/\sW w U U_ [.blk b2 36 B0] w_) mq ?_ ?_ ?_
 exact ⟨dP,Z,ey,iq,ir,(zM _),l8⟩
 rintro bb ⟨⟩ rn rI pU dz ⟨dQ,eC,eA,it,iu,fC,ma⟩ fz mj
 try dsimp only at fz
 have d4:Hid ((↑bb:Int) < (↑p1.length:Int)):=zI (wBJ dz)
 replace dz:=zI dz
 have my:Hid (w64 ((↑bb:Int) + 1)=(↑(bb + 1):Int)):=zI (by have h1:=dE.out;have h2:=d4.out;rw [wAX] <;> omega)
 refine zH (sR fL4 Z (oM Z eC (oM Z eA (oR Z (zd Z Z zR) (oR Z (zX Z Z Z) (eN (cT Z d4 (kN (zH (zW (sR fL1 Z (oA Z Z (eN (zW (yh (fun fT σ_ w_=>∃ (U_:PHeap),σ_ 1=.slice av p1.length aV/\σ_ 2=.slice az p2.length aW/\σ_ 3=.pointer (some ⟨b2,0,none⟩)/\σ_ 10=jV (↑bb:Int)/\σ_ 11=jV fT/\PHeap.Le dQ U_/\sW w U U_ [.blk b2 36 B0] w_) fz ?_ ?_)))))))))))))))
 exact ⟨dQ,eA,it,iu,eC,Z,(zM _),ma⟩
 rintro fT qY ro gh ⟨bH,bL,d5,d6,bM,cI,dG,bA⟩ oX e8
 refine zH (sR fL7 Z (oM Z cI (oM Z bL (oM Z bM (bnK oX fun cd bR mz=>?_)))))
 have iB:=bV.le am
 have iC:=iB.le ap
 have iD:=iC.le fC
 have eD:=iD.le dG
 have q:=eD.el (wAS bR)
 obtain ⟨gz,o7,qL,jZ,da,oH⟩:=q
 obtain ⟨fD,fM,rfl,qh⟩:=oH
 replace da:Cl bH gz (o7 + bb * 1) [.slice fD cd.length fM]:=da
 refine oR Z (ZL Z Z jZ Z zR zS (wBk bR)) (oL Z (bA.ldC (f:=0) da (v:=.slice fD cd.length fM) Z Z zY Z) (oR Z (zd Z Z zC) (oR Z (zX Z Z Z) (eN (ifc mz ?_ ?_)))))
 intro cw mA
 refine cT Z cw (kN (zH (zW (sR (wNc (.fx 7 .nil .stop)) Z (oM Z bL (oM Z bM ?_))))))
 have q:=eD.el (wAS bR)
 obtain ⟨gA,o8,qM,j0,db,oI⟩:=q
 obtain ⟨fE,fN,rfl,iE⟩:=oI
 replace db:Cl bH gA (o8 + bb * 1) [.slice fE cd.length fN]:=db
 refine oR Z (ZL Z Z j0 Z zR zS (wBk bR)) (oL Z (bA.ldC (f:=0) db (v:=.slice fE cd.length fN) Z Z zY Z) (oM Z cI (bnK mA fun x143 cR mB=>?_)))
 have q:=iE.el (fun _=>rfl) (wAS cR)
 obtain ⟨pV,qj,j5,lz⟩:=q
 refine oR Z (ZC Z Z j5 Z zC zB (wAx cR) (wBA cR)) (oL Z (bA.ldC (f:=0) lz (v:=jV x143) Z Z zF Z) (bnK mB fun qS iF mC=>zK 0 Z Z Z Z (zL Z Z yM (zD Z (zD Z (zD Z zQ))) Z) bA (fun hs=>wAc x143 (-100000000) 100000000 gh bH hs iF) (.inr Z) ?_))
 rintro cm pF qG gj oY lQ ⟨rfl,rfl⟩
 have eO:sW w U cm [.blk b2 36 B0] gj:=lQ
 refine eN (ifc mC ?_ ?_)
 intro cy mE
 refine ZG (congrArg nB cy.out) (sR fL2 Z (oA Z Z (oA Z Z (eN (zP (zg (zN ?_)))))))
 have q:=wAZ mE
 obtain ⟨pj,mF,gM⟩:=q
 obtain rfl:=e8 pj gM
 refine zN (zg (zg (zN ?_)))
 have q:=wAZ mF
 obtain ⟨pk,mG,gN⟩:=q
 obtain rfl:=wCA bY dr (mj pk gN)
 refine zN (zg (zN ?_))
 cases mG
 exact ⟨rfl,_,(wFJ rfl rfl),cm,_,(eO.pick [] _ (by decide) rfl),rfl,rfl⟩
 intro cy mH
 refine zx (congrArg nB (nD.2 cy.out)) (Zh (zq (zG (rR fL3 Z (oM Z cI (oR Z (zZ Z Z Z) (oA Z Z (zh ?_))))))))
 obtain rfl:=nA mH
 exact zG ⟨Z,_,Z,⟨cm,bL,d5,d6,bM,Z,(dG.trans oY),eO⟩⟩
 intro cw mI
 refine cF Z cw (ZT (zf ?_))
 have q:=wAZ mI
 obtain ⟨pm,mJ,gO⟩:=q
 obtain rfl:=e8 pm gO
 refine zf (ZK (zq (zG (rR fL3 Z (oM Z bM (oR Z (ZP (zZ Z Z Z) (congrArg (jV) my.out)) (oA Z Z (zh ?_))))))))
 obtain rfl:=nA mJ
 exact zG ⟨Z,_,Z,⟨bH,Z,bL,d5,d6,(fC.trans dG),bA⟩⟩
 rintro ⟨⟩ rp pL ⟨dL,iv,d7,g8,g9,au,lR⟩ mb
 have bW:=wCu bY dr mb
 try dsimp only at bW
 have gH:Hid (¬ ((↑(((↑p1.length:Int):Int) - 0).toNat:Int) < (↑p1.length:Int))):=zI (wAj)
 refine zH (sR fL4 Z (oM Z iv (oM Z d7 (oR Z (zd Z Z zR) (oR Z (zX Z Z Z) (eN (cF Z gH (ZT (zf (zf (ZK (zG (zH (sR fL1 Z (oA Z Z (eN (zW ?_)))))))))))))))))
 have q:=wCH bW
 obtain ⟨qA,dm⟩:=q
 have q:=wCG dm
 obtain ⟨dA,ml⟩:=q
 replace dA:=zI dA
 refine yG (fun bE _ σ_ w_=>∃ (U_:PHeap),σ_ 12=jV (↑bE:Int)/\σ_ 1=.slice av p1.length aV/\σ_ 2=.slice az p2.length aW/\σ_ 3=.pointer (some ⟨b2,0,none⟩)/\PHeap.Le dL U_/\sW w U U_ [.blk b2 36 B0] w_) ml ?_ ?_ ?_
 exact ⟨dL,Z,d7,g8,g9,(zM _),lR⟩
 rintro bE ⟨⟩ qZ rq gm dv ⟨ge,cP,ib,cJ,ic,fA,eQ⟩ fm mc
 try dsimp only at fm
 have dW:Hid ((↑bE:Int) < (↑p2.length:Int)):=zI (wBJ dv)
 replace dv:=zI dv
 have mr:Hid (w64 ((↑bE:Int) + 1)=(↑(bE + 1):Int)):=zI (by have h1:=dA.out;have h2:=dW.out;rw [wAX] <;> omega)
 refine zH (sR fL4 Z (oM Z cP (oM Z cJ (oR Z (zd Z Z zC) (oR Z (zX Z Z Z) (eN (cT Z dW (kN (zH (zW (sR (wEZ (.fx 4 .nil .stop)) Z (oM Z cJ (oM Z cP (bnK fm fun fU eE mL=>?_))))))))))))))
 have iG:=du.le am
 have iH:=iG.le ap
 have iI:=iH.le au
 have iJ:=iI.le fA
 have q:=iJ.el (fun _=>rfl) (wAS eE)
 obtain ⟨pW,qk,j6,lA⟩:=q
 refine oR Z (ZL Z Z j6 Z zC zB (wBk eE)) (oL Z (eQ.ldC (f:=0) lA (v:=jV fU) Z Z zF Z) (bnK mL fun qT iK mM=>zK 0 Z Z Z Z (zL Z Z yM (zD Z (zD Z (zD Z zQ))) Z) eQ (fun hs=>wAc fU (-100000000) 100000000 gm ge hs iK) (.inr Z) ?_))
 rintro cn pG qH gq o0 lS ⟨rfl,rfl⟩
 have eR:sW w U cn [.blk b2 36 B0] gq:=lS
 refine eN (ifc mM ?_ ?_)
 intro cA mN
 refine ZG (congrArg nB cA.out) (sR fL2 Z (oA Z Z (oA Z Z (eN (zP (zg (zN ?_)))))))
 have q:=wAZ mN
 obtain ⟨pn,mO,gP⟩:=q
 obtain rfl:=wCA bW dm (mc pn gP)
 refine zN (zg (zN ?_))
 cases mO
 exact ⟨rfl,_,(wFJ rfl rfl),cn,_,(eR.pick [] _ (by decide) rfl),rfl,rfl⟩
 intro cA mP
 refine zx (congrArg nB (nD.2 cA.out)) (Zh (zq (zG (rR fL3 Z (oM Z cP (oR Z (ZP (zZ Z Z Z) (congrArg (jV) mr.out)) (oA Z Z (zh ?_))))))))
 obtain rfl:=nA mP
 exact zG ⟨Z,_,Z,⟨cn,Z,ib,cJ,ic,(fA.trans o0),eR⟩⟩
 rintro ⟨⟩ rx pM ⟨dM,iw,ie,d8,ig,aZ,lT⟩ md
 have bD:=wCu bW dm md
 try dsimp only at bD
 have gI:Hid (¬ ((↑(((↑p2.length:Int):Int) - 0).toNat:Int) < (↑p2.length:Int))):=zI (wAj)
 refine zH (sR fL4 Z (oM Z iw (oM Z d8 (oR Z (zd Z Z zC) (oR Z (zX Z Z Z) (eN (cF Z gI (ZT (zf (zf (ZK (zG (zH (sR fL1 Z (oA Z Z (eN (zW ?_)))))))))))))))))
 have q:=wCH bD
 obtain ⟨qC,bU⟩:=q
 have q:=wCG bU
 obtain ⟨dC,mn⟩:=q
 replace dC:=zI dC
 refine yG (fun aY _ σ_ w_=>∃ (U_:PHeap),σ_ 13=jV (↑aY:Int)/\σ_ 1=.slice av p1.length aV/\σ_ 2=.slice az p2.length aW/\σ_ 3=.pointer (some ⟨b2,0,none⟩)/\PHeap.Le dM U_/\sW w U U_ [.blk b2 36 B0] w_) mn ?_ ?_ ?_
 exact ⟨dM,Z,ie,d8,ig,(zM _),lT⟩
 rintro aY ⟨⟩ rc ry dR dw ⟨bI,bQ,cK,ii,d9,bZ,lU⟩ fq e9
 try dsimp only at fq
 have dX:Hid ((↑aY:Int) < (↑p1.length:Int)):=zI (wBJ dw)
 replace dw:=zI dw
 have ms:Hid (w64 ((↑aY:Int) + 1)=(↑(aY + 1):Int)):=zI (by have h1:=dC.out;have h2:=dX.out;rw [wAX] <;> omega)
 refine zH (sR fL4 rfl (zz rfl rfl rfl rfl rfl bQ (zz rfl rfl rfl rfl rfl cK (zk rfl rfl rfl rfl (fun _=>zd rfl rfl zR) (zk rfl rfl rfl rfl (fun _=>zX rfl rfl rfl) (eN (cT Z dX (kN (zH (zW (zH (zH (ZD zy [3,3,3,1,3,1,3,1,3,3,1,3] fL12 (by kernel_rfl) ?_)))))))))))))
 have bh:=lU.drew
 generalize hw_W268:({ dR with drawn:=dR.drawn + 1 }:World)=pN at bh ⊢
 refine oM Z cK (oM Z bQ (bnK fq fun bv bm mQ=>?_))
 have iL:=bV.le am
 have iM:=iL.le ap
 have iN:=iM.le au
 have iO:=iN.le aZ
 have eF:=iO.le bZ
 have q:=eF.el (wAS bm)
 obtain ⟨gB,o9,qN,j7,de,oK⟩:=q
 obtain ⟨fG,fO,rfl,iP⟩:=oK
 replace de:Cl bI gB (o9 + aY * 1) [.slice fG bv.length fO]:=de
 refine oR Z (ZL Z Z j7 Z zR zS (wBk bm)) (oL Z (bh.ldC (f:=0) de (v:=.slice fG bv.length fO) Z Z zY Z) (bnK mQ fun pD eG mR=>?_))
 have q:=iP.el (fun _=>rfl) (wAS eG)
 obtain ⟨pX,qm,j8,lB⟩:=q
 refine oR Z (ZL Z Z j8 Z zC zB (wBk eG)) (oL Z (bh.ldC (f:=0) lB (v:=jV pD) Z Z zF Z) (oR Z (zE Z d9 zV Z zS) (oL Z (bh.ldB (j:=0) Z Z Z zY (v:=.slice br p0.Starts.length bt) Z) (oM Z bQ (bnK mR fun pE eH mS=>?_)))))
 have iQ:=eX.le am
 have iR:=iQ.le ap
 have iT:=iR.le au
 have iU:=iT.le aZ
 have iV:=iU.le bZ
 have q:=iV.el (fun _=>rfl) (wAS eH)
 obtain ⟨pY,qn,j9,lD⟩:=q
 refine oR Z (ZL Z Z j9 Z zC zB (wBk eH)) (oL Z (bh.ldC (f:=0) lD (v:=jV pE) Z Z zF Z) (oR Z (Zo Z Z Z) (eN (ifc mS ?_ ?_))))
 intro cC mT
 refine zx (Ze (fun h=>h cC.out)) (kN (sR fL1 Z (oA Z Z (eN (zW (yh (fun dI σ_ w_=>∃ (U_:PHeap),σ_ 1=.slice av p1.length aV/\σ_ 2=.slice az p2.length aW/\σ_ 3=.pointer (some ⟨b2,0,none⟩)/\σ_ 13=jV (↑aY:Int)/\σ_ 14=jV dI/\PHeap.Le bI U_/\sW w U U_ [.blk b2 36 B0] w_) mT ?_ ?_))))))
 exact ⟨bI,cK,ii,d9,bQ,Z,(zM _),bh⟩
 rintro dI ri rC dT ⟨bJ,bN,ef,bw,bO,bk,b5,dl⟩ fu fb
 refine zH (sR fL5 Z (oM Z bk (oR Z (zE Z bw zV Z Zd) (oL Z (dl.ldB (j:=0) Z Z Z Zi (v:=.slice bd p0.Splits.length bf) Z) (oR Z (zd Z Z zr) (oR Z (zX Z Z Z) (eN ?_)))))))
 by_cases a0:dI < (↑p0.Splits.length:Int)
 have fd:=fu;rw [if_pos a0] at fd;replace a0:=zI a0
 refine cT Z a0 (kN (zH (zW (zH (ZD zy [3,3,3,1,3,3,3,1,3,3,3,1,3,3,1,3,3,1,3,3,3,1,3,1,3,3,3,1,2] (wUp (.fx 28 .nil .stop)) (by kernel_rfl) ?_)))))
 have aq:=dl.drew
 generalize hw_W329:({ dT with drawn:=dT.drawn + 1 }:World)=gt at aq ⊢
 refine oM Z bN (oM Z bO ?_)
 have eI:=eF.le b5
 have q:=eI.el (wAS bm)
 obtain ⟨gC,pe,qO,k9,df,oO⟩:=q
 obtain ⟨fH,fP,rfl,iW⟩:=oO
 replace df:Cl bJ gC (pe + aY * 1) [.slice fH bv.length fP]:=df
 refine oR Z (ZL Z Z k9 Z zR zS (wBk bm)) (oL Z (aq.ldC (f:=0) df (v:=.slice fH bv.length fP) Z Z zY Z) (oM Z bk (oR Z (zZ Z Z Z) (bnK fd fun fV cS mU=>?_))))
 have q:=iW.el (fun _=>rfl) (wAS cS)
 obtain ⟨pZ,qo,lf,lE⟩:=q
 refine oR Z (ZC Z Z lf Z zC zB (wAx cS) (wBA cS)) (oL Z (aq.ldC (f:=0) lE (v:=jV fV) Z Z zF Z) (oM Z bN (oM Z bO ?_)))
 have q:=eI.el (wAS bm)
 obtain ⟨gD,pf,qP,lg,dg,oP⟩:=q
 obtain ⟨fJ,fQ,rfl,iX⟩:=oP
 replace dg:Cl bJ gD (pf + aY * 1) [.slice fJ bv.length fQ]:=dg
 refine oR Z (ZL Z Z lg Z zR zS (wBk bm)) (oL Z (aq.ldC (f:=0) dg (v:=.slice fJ bv.length fQ) Z Z zY Z) (oM Z bk (bnK mU fun fW cU mV=>?_)))
 have q:=iX.el (fun _=>rfl) (wAS cU)
 obtain ⟨p6,qp,lh,lF⟩:=q
 refine oR Z (ZC Z Z lh Z zC zB (wAx cU) (wBA cU)) (oL Z (aq.ldC (f:=0) lF (v:=jV fW) Z Z zF Z) (oR Z (yg Z Z Z) (oR Z (zE Z bw zV Z Zd) (oL Z (aq.ldB (j:=0) Z Z Z Zi (v:=.slice bd p0.Splits.length bf) Z) (oM Z bk (bnK mV fun cf bn mW=>?_))))))
 have iY:=eY.le am
 have iZ:=iY.le ap
 have i4:=iZ.le au
 have i6:=i4.le aZ
 have i8:=i6.le bZ
 have eJ:=i8.le b5
 have q:=eJ.el (fun _=>rfl) (wAS bn)
 obtain ⟨p7,qq,li,lG⟩:=q
 refine oR Z (ZC Z Z li Z zr ZR (wAx bn) (wBA bn)) (oR Z (zE Z Z ZA Z zB) (oL Z (aq.ldC (f:=0) lG (v:=jV cf.Lo) Z Z zF Z) (oR Z (zE Z bw zV Z Zd) (oL Z (aq.ldB (j:=0) Z Z Z Zi (v:=.slice bd p0.Splits.length bf) Z) (oM Z bk ?_)))))
 have q:=eJ.el (fun _=>rfl) (wAS bn)
 obtain ⟨p8,qr,lj,lH⟩:=q
 refine oR Z (ZC Z Z lj Z zr ZR (wAx bn) (wBA bn)) (oR Z (zE Z Z ZA Z zB) (oL Z (aq.ldC (f:=1) lH (v:=jV cf.Hi) Z Z zF Z) (bnK mW fun qU i9 mX=>zK 0 Z Z Z Z (zL Z Z yM (zD Z (zD Z (zD Z zQ))) Z) aq (fun hs=>wAc (w64 (fV - fW)) cf.Lo cf.Hi gt bJ hs i9) (.inr Z) ?_)))
 rintro cq pH qI gu o3 lW ⟨rfl,rfl⟩
 have eU:sW w U cq [.blk b2 36 B0] gu:=lW
 refine eN (ifc mX ?_ ?_)
 intro cD mY
 refine ZG (congrArg nB cD.out) (sR fL2 Z (oA Z Z (oA Z Z (eN (zP (zg (zN ?_)))))))
 have q:=wAZ mY
 obtain ⟨po,mZ,gQ⟩:=q
 obtain rfl:=fb po gQ
 refine zN (zg (zg (zN ?_)))
 have q:=wAZ mZ
 obtain ⟨pp,m4,gR⟩:=q
 obtain rfl:=wCA bD bU (e9 pp gR)
 refine zN (zg (zN ?_))
 cases m4
 exact ⟨rfl,_,(wFJ rfl rfl),cq,_,(eU.pick [] _ (by decide) rfl),rfl,rfl⟩
 intro cD m5
 refine zx (congrArg nB (nD.2 cD.out)) (Zh (zq (zG (rR fL3 Z (oM Z bk (oR Z (zZ Z Z Z) (oA Z Z (zh ?_))))))))
 obtain rfl:=nA m5
 exact zG ⟨Z,_,Z,⟨cq,bN,ef,bw,bO,Z,(b5.trans o3),eU⟩⟩
 have ff:=fu;rw [if_neg a0] at ff;replace a0:=zI a0
 refine cF Z a0 (ZT (zf ?_))
 have q:=wAZ ff
 obtain ⟨pq,m6,gS⟩:=q
 obtain rfl:=fb pq gS
 refine zf (ZK (zq (zG (rR fL3 Z (oM Z bO (oR Z (ZP (zZ Z Z Z) (congrArg (jV) ms.out)) (oA Z Z (zh ?_))))))))
 obtain rfl:=nA m6
 exact zG ⟨Z,_,Z,⟨bJ,Z,bN,ef,bw,(bZ.trans b5),dl⟩⟩
 intro cC m7
 refine cT Z cC (sR fL2 Z (oA Z Z (oA Z Z (eN (zP (zN (zg (zN ?_))))))))
 have q:=wAZ m7
 obtain ⟨pu,m8,gU⟩:=q
 obtain rfl:=wCA bD bU (e9 pu gU)
 refine zN (zg (zN ?_))
 cases m8
 exact ⟨rfl,_,(wFJ rfl rfl),bI,_,(bh.pick [] _ (by decide) rfl),rfl,rfl⟩
 rintro ⟨⟩ rD pO ⟨dN,iy,eh,ik,il,bq,lX⟩ mf
 have bX:=wCu bD bU mf
 try dsimp only at bX
 have gJ:Hid (¬ ((↑(((↑p1.length:Int):Int) - 0).toNat:Int) < (↑p1.length:Int))):=zI (wAj)
 refine zH (sR fL4 Z (oM Z iy (oM Z eh (oR Z (zd Z Z zR) (oR Z (zX Z Z Z) (eN (cF Z gJ (ZT (zf (zf (ZK (zG (zH (sR fL1 Z (oA Z Z (eN (zW ?_)))))))))))))))))
 have q:=wCH bX
 obtain ⟨qD,dq⟩:=q
 have q:=wCG dq
 obtain ⟨dD,mp⟩:=q
 replace dD:=zI dD
 refine yG (fun bF _ σ_ w_=>∃ (U_:PHeap),σ_ 15=jV (↑bF:Int)/\σ_ 1=.slice av p1.length aV/\σ_ 2=.slice az p2.length aW/\σ_ 3=.pointer (some ⟨b2,0,none⟩)/\PHeap.Le dN U_/\sW w U U_ [.blk b2 36 B0] w_) mp ?_ ?_ ?_
 exact ⟨dN,Z,eh,ik,il,(zM _),lX⟩
 rintro bF ⟨⟩ rj rE dU dy ⟨gf,bz,im,cM,cN,dH,lY⟩ fw mg
 try dsimp only at fw
 have dZ:Hid ((↑bF:Int) < (↑p2.length:Int)):=zI (wBJ dy)
 replace dy:=zI dy
 have mw:Hid (w64 ((↑bF:Int) + 1)=(↑(bF + 1):Int)):=zI (by have h1:=dD.out;have h2:=dZ.out;rw [wAX] <;> omega)
 refine zH (sR fL4 rfl (zz rfl rfl rfl rfl rfl bz (zz rfl rfl rfl rfl rfl cM (zk rfl rfl rfl rfl (fun _=>zd rfl rfl zC) (zk rfl rfl rfl rfl (fun _=>zX rfl rfl rfl) (eN (cT Z dZ (kN (zH (zW (zH (ZD zy [3,3,3,1,3,1,3,3,3,3,1,3,1,3,3,3,3,1,2] (wUm (.fx 18 .nil .stop)) (by kernel_rfl) ?_))))))))))))
 have bi:=lY.drew
 generalize hw_W442:({ dU with drawn:=dU.drawn + 1 }:World)=gv at bi ⊢
 refine oM Z cM (oM Z bz (bnK fw fun fY eK m9=>?_))
 have ja:=du.le am
 have jb:=ja.le ap
 have jc:=jb.le au
 have jd:=jc.le aZ
 have je:=jd.le bq
 have jf:=je.le dH
 have q:=jf.el (fun _=>rfl) (wAS eK)
 obtain ⟨p9,qt,lm,lI⟩:=q
 refine oR Z (ZL Z Z lm Z zC zB (wBk eK)) (oL Z (bi.ldC (f:=0) lI (v:=jV fY) Z Z zF Z) (oR Z (zE Z cN zV Z Zr) (oL Z (bi.ldB (j:=0) Z Z Z yB (v:=.slice be p0.Clocks.length bg) Z) (oM Z bz (bnK m9 fun cg bS n5=>?_)))))
 have jg:=dt.le am
 have jh:=jg.le ap
 have ji:=jh.le au
 have jj:=ji.le aZ
 have jk:=jj.le bq
 have eM:=jk.le dH
 have q:=eM.el (fun _=>rfl) (wAS bS)
 obtain ⟨qa,qu,ln,lJ⟩:=q
 refine oR Z (ZL Z Z ln Z Zj yV (wBk bS)) (oR Z (zE Z Z yF Z ZR) (oR Z (zE Z Z ZA Z zB) (oL Z (bi.ldC (f:=0) lJ (v:=jV cg.Offset.Lo) Z Z zF Z) (oR Z (zE Z cN zV Z Zr) (oL Z (bi.ldB (j:=0) Z Z Z yB (v:=.slice be p0.Clocks.length bg) Z) (oM Z bz ?_))))))
 have q:=eM.el (fun _=>rfl) (wAS bS)
 obtain ⟨qb,qv,lp,lK⟩:=q
 refine oR Z (ZL Z Z lp Z Zj yV (wBk bS)) (oR Z (zE Z Z yF Z ZR) (oR Z (zE Z Z ZA Z zB) (oL Z (bi.ldC (f:=1) lK (v:=jV cg.Offset.Hi) Z Z zF Z) (bnK n5 fun qV jm n7=>zK 0 Z Z Z Z (zL Z Z yM (zD Z (zD Z (zD Z zQ))) Z) bi (fun hs=>wAc fY cg.Offset.Lo cg.Offset.Hi gv gf hs jm) (.inr Z) ?_))))
 rintro cr pI qJ gw o5 lZ ⟨rfl,rfl⟩
 have eV:sW w U cr [.blk b2 36 B0] gw:=lZ
 refine eN (ifc n7 ?_ ?_)
 intro cE n8
 refine ZG (congrArg nB cE.out) (sR fL2 Z (oA Z Z (oA Z Z (eN (zP (zg (zN ?_)))))))
 have q:=wAZ n8
 obtain ⟨py,n9,gW⟩:=q
 obtain rfl:=wCA bX dq (mg py gW)
 refine zN (zg (zN ?_))
 cases n9
 exact ⟨rfl,_,(wFJ rfl rfl),cr,_,(eV.pick [] _ (by decide) rfl),rfl,rfl⟩
 intro cE oa
 refine zx (congrArg nB (nD.2 cE.out)) (Zh (zq (zG (rR fL3 Z (oM Z bz (oR Z (ZP (zZ Z Z Z) (congrArg (jV) mw.out)) (oA Z Z (zh ?_))))))))
 obtain rfl:=nA oa
 exact zG ⟨Z,_,Z,⟨cr,Z,im,cM,cN,(dH.trans o5),eV⟩⟩
 rintro ⟨⟩ rF pQ ⟨dO,iz,io,ej,ip,cb,l4⟩ mh
 have fg:=wCu bX dq mh
 try dsimp only at fg
 have gK:Hid (¬ ((↑(((↑p2.length:Int):Int) - 0).toNat:Int) < (↑p2.length:Int))):=zI (wAj)
 refine zH (sR fL4 Z (oM Z iz (oM Z ej (oR Z (zd Z Z zC) (oR Z (zX Z Z Z) (eN (cF Z gK (ZT (zf (zf (ZK (zG (zH (sR fL1 Z (oA Z Z (eN (zW (yh (fun dJ σ_ w_=>∃ (U_:PHeap),σ_ 1=.slice av p1.length aV/\σ_ 2=.slice az p2.length aW/\σ_ 3=.pointer (some ⟨b2,0,none⟩)/\σ_ 16=jV dJ/\PHeap.Le dO U_/\sW w U U_ [.blk b2 36 B0] w_) fg ?_ ?_))))))))))))))))))
 exact ⟨dO,io,ej,ip,Z,(zM _),l4⟩
 rintro dJ rk rG pR ⟨bK,en,eu,bP,cO,bG,bC⟩ fy fc
 refine zH (sR fL5 Z (oM Z cO (oR Z (zE Z bP zV Z yI) (oL Z (bC.ldB (j:=0) Z Z Z ya (v:=.slice bs p0.Readings.length bu) Z) (oR Z (zd Z Z Zw) (oR Z (zX Z Z Z) (eN ?_)))))))
 by_cases ba:dJ < (↑p0.Readings.length:Int)
 have fh:=fy;rw [if_pos ba] at fh;replace ba:=zI ba
 refine cT Z ba (kN (zH (zW (sR (wIc (.fx 5 (.fx 6 .nil .stop) .stop)) Z (oR Z (zE Z bP zV Z yI) (oL Z (bC.ldB (j:=0) Z Z Z ya (v:=.slice bs p0.Readings.length bu) Z) (oM Z cO (bnK fh fun ak cV oc=>?_))))))))
 have jp:=eZ.le am
 have jq:=jp.le ap
 have jr:=jq.le au
 have jt:=jr.le aZ
 have ju:=jt.le bq
 have jv:=ju.le cb
 have jw:=jv.le bG
 have q:=jw.el (fun _=>rfl) (wAS cV)
 obtain ⟨qc,qw,lu,lL⟩:=q
 refine oR Z (ZC Z Z lu Z Zw yL (wAx cV) (wBA cV)) (oL Z (bC.ldCA (f:=0) lL Z Z Tryz.isAgg117 yL (us:=[jV ak.Skier,jV ak.Mat,jV ak.Clock,jV ak.Time]) Z Z) (ze (cs:=[jV 0,jV 0,jV 0,jV 0]) Z Z Z Z Z Tryz.zeroValue117 Z bC ?_))
 intro pS dV l5
 let B1:List Value:=[jV ak.Skier,jV ak.Mat,jV ak.Clock,jV ak.Time]
 refine zm (j:=0) (vs:=B1) Z Z Z Z l5 Z Z Z Z yL (zA Z) Z Z Z ?_
 intro cu l6
 have bT:sW w U bK [.blk dV 117 B1,.blk b2 36 B0] cu:=l6
 refine eN (sR fL8 Z (oR Z (zE Z bP zV Z Zr) (oL Z (bT.ldB (j:=1) Z Z Z yB (v:=.slice be p0.Clocks.length bg) Z) (oR Z (zE Z Z Zg Z zB) (oL Z (bT.ldB (j:=0) Z Z Z zF (v:=jV ak.Clock) Z) (bnK oc fun dK cW od=>?_))))))
 have jx:=dt.le am
 have jy:=jx.le ap
 have jz:=jy.le au
 have jA:=jz.le aZ
 have jB:=jA.le bq
 have jC:=jB.le cb
 have jD:=jC.le bG
 have q:=jD.el (fun _=>rfl) (wAS cW)
 obtain ⟨qd,qx,lv,lM⟩:=q
 refine zk rfl rfl rfl rfl (fun _=>ZC rfl rfl lv rfl Zj yV (wAx cW) (wBA cW)) (zk rfl rfl rfl rfl (fun _=>zE rfl rfl yF rfl zB) (ZI rfl rfl rfl rfl (bT.ldC (f:=2) lM (v:=jV dK.Error) rfl rfl zF rfl) rfl (yX rfl rfl rfl rfl rfl rfl (eN (zH (ZD zy [3,1,3,3,1,3,1,3,1,3,1,3,3,3,1,3,1,3,3,3,3,2] (wUn (.fx 21 .nil .stop)) (by kernel_rfl) ?_))))))
 have aX:=bT.drew
 generalize hw_W557:({ cu with drawn:=cu.drawn + 1 }:World)=gx at aX ⊢
 refine oR Z (zE Z Z Zg Z zB) (oL Z (aX.ldB (j:=0) Z Z Z zF (v:=jV ak.Time) Z) (oM Z en (oR Z (zE Z Z Zg Z zB) (oL Z (aX.ldB (j:=0) Z Z Z zF (v:=jV ak.Skier) Z) (bnK od fun fZ cX oe=>?_)))))
 have jE:=bV.le am
 have jG:=jE.le ap
 have jH:=jG.le au
 have jJ:=jH.le aZ
 have jK:=jJ.le bq
 have jL:=jK.le cb
 have jM:=jL.le bG
 have q:=jM.el (wAS cX)
 obtain ⟨gG,ph,qR,lw,dk,oW⟩:=q
 obtain ⟨fL,fS,rfl,jN⟩:=oW
 replace dk:Cl bK gG (ph + ak.Skier.toNat * 1) [.slice fL fZ.length fS]:=dk
 refine oR Z (ZC Z Z lw Z zR zS (wAx cX) (wBA cX)) (oL Z (aX.ldC (f:=0) dk (v:=.slice fL fZ.length fS) Z Z zY Z) (oR Z (zE Z Z Zg Z zB) (oL Z (aX.ldB (j:=0) Z Z Z zF (v:=jV ak.Mat) Z) (bnK oe fun ga cY og=>?_))))
 have q:=jN.el (fun _=>rfl) (wAS cY)
 obtain ⟨qe,qy,lx,lN⟩:=q
 refine oR Z (ZC Z Z lx Z zC zB (wAx cY) (wBA cY)) (oL Z (aX.ldC (f:=0) lN (v:=jV ga) Z Z zF Z) (oR Z (yg Z Z Z) (oM Z eu (oR Z (zE Z Z Zg Z zB) (oL Z (aX.ldB (j:=0) Z Z Z zF (v:=jV ak.Clock) Z) (bnK og fun gb cZ oh=>?_))))))
 have jO:=du.le am
 have jP:=jO.le ap
 have jQ:=jP.le au
 have jR:=jQ.le aZ
 have jS:=jR.le bq
 have jU:=jS.le cb
 have jW:=jU.le bG
 have q:=jW.el (fun _=>rfl) (wAS cZ)
 obtain ⟨qf,qz,ly,lO⟩:=q
 refine oR Z (ZC Z Z ly Z zC zB (wAx cZ) (wBA cZ)) (oL Z (aX.ldC (f:=0) lO (v:=jV gb) Z Z zF Z) (oR Z (yg Z Z Z) (oM Z Z (oR Z (Runs.negw Z Z) (oM Z Z (bnK oh fun qX jX om=>zK 0 Z Z Z Z (zL Z Z yM (zD Z (zD Z (zD Z zQ))) Z) aX (fun hs=>wAc (w64 ((w64 (ak.Time - ga)) - gb)) (w64 (-dK.Error)) dK.Error gx bK hs jX) (.inr Z) ?_))))))
 rintro ct pJ qK gy o6 l7 ⟨rfl,rfl⟩
 have eW:sW w U ct [.blk dV 117 B1,.blk b2 36 B0] gy:=l7
 refine eN (ifc om ?_ ?_)
 intro cH oq
 refine ZG (congrArg nB cH.out) (sR fL2 Z (oA Z Z (oA Z Z (eN (zP (zg (zN ?_)))))))
 have q:=wAZ oq
 obtain ⟨pB,ot,gX⟩:=q
 obtain rfl:=fc pB gX
 refine zN (zg (zN ?_))
 cases ot
 exact ⟨rfl,_,(wFJ rfl rfl),ct,_,(eW.pick [] _ (by decide) rfl),rfl,rfl⟩
 intro cH ou
 refine zx (congrArg nB (nD.2 cH.out)) (Zh (zq (zG (rR fL3 Z (oM Z cO (oR Z (zZ Z Z Z) (oA Z Z (zh ?_))))))))
 obtain rfl:=nA ou
 exact zG ⟨rfl,_,rfl,⟨ct,en,eu,bP,rfl,(bG.trans o6),(eW.pick [1] _ (by decide) rfl)⟩⟩
 have fj:=fy;rw [if_neg ba] at fj;replace ba:=zI ba
 refine cF Z ba (ZT (zf ?_))
 have q:=wAZ fj
 obtain ⟨pC,ow,gZ⟩:=q
 obtain rfl:=fc pC gZ
 refine zf (ZK (zG (sR fL2 Z (oA Z Z (oA Z Z (eN (zP ?_)))))))
 cases ow
 exact ⟨rfl,_,(wFJ rfl rfl),bK,_,(bC.pick [] _ (by decide) rfl),rfl,rfl⟩
 intro cz ox
 refine cT Z cz (sR fL2 Z (oA Z Z (oA Z Z (eN (zP (zN ?_))))))
 cases ox
 exact ⟨rfl,_,(wFJ rfl rfl),U8,_,(bo.pick [] _ (by decide) rfl),rfl,rfl⟩
 intro aj oz
 refine oT Z aj (oT Z aj (oT Z aj (oT Z aj (oT Z aj (oT Z aj (oR Z (zl Z (Zl aj.out) Z) (eN (ZG Z (sR fL2 Z (oA Z Z (oA Z Z (eN (zP (zN ?_))))))))))))))
 cases oz
 exact ⟨rfl,_,(wFJ rfl rfl),U8,_,(bo.pick [] _ (by decide) rfl),rfl,rfl⟩
 intro cx oB
 refine cT Z cx (sR fL3 Z (oM Z Z (oA Z Z (oA Z Z (eN (zP (zN ?_)))))))
 cases oB
 exact ⟨rfl,_,(wFJ rfl rfl),U8,_,(bo.pick [] _ (by decide) rfl),rfl,rfl⟩
end Go.Proofs.YtlnfbjphfoipaaaGreat
namespace Go.Proofs.YtlnfbjphfoipaaaGreat
open Go.KL
set_option maxHeartbeats 4000000
theorem wFh (p0:wAA) (aV:Option Addr) (aZ:Nat) (aW:Option Addr) (a0:Nat) (aX:Option Addr) (ba:Nat) (aY:Option Addr) (bb:Nat) (p1:List (List Int)) (bj:Option Addr) (bm:Nat) (p2:List Int) (bk:Option Addr) (bn:Nat) (p3:Int) (p4:Int) (w:World) (U:PHeap) (hS:St0 w U []) (cz:Sl U 1 aV aZ p0.Starts.length (hH KL.encI p0.Starts)) (cA:Sl U 2 aW a0 p0.Splits.length (hH wAB p0.Splits)) (cC:Sl U 3 aX ba p0.Clocks.length (hH wAD p0.Clocks)) (cD:Sl U 4 aY bb p0.Readings.length (hH wAC p0.Readings)) (cE:SlR U wIM bj bm p1) (cG:Sl U 1 bk bn p2.length (hH KL.encI p2)) {r:Bool} (hm:wBN p0 p1 p2 p3 p4=some r):Gv Tryz.prog 19 [.agg #[.slice aV p0.Starts.length aZ,.slice aW p0.Splits.length a0,.slice aX p0.Clocks.length ba,.slice aY p0.Readings.length bb],.slice bj p1.length bm,.slice bk p2.length bn,jV p3,jV p4] w (wCp w [] U (fun U_ L_ v=>v=.bool r/\L_=[])):=by
 unfold wBN at hm
 refine Gv.of Tryz.func19 Z Tryz.ntmps19 Tryz.results19 Z (sR gDc Z ?_)
 let B0:List Value:=[.slice aV p0.Starts.length aZ,.slice aW p0.Splits.length a0,.slice aX p0.Clocks.length ba,.slice aY p0.Readings.length bb]
 refine ZE (cs:=B0) rfl rfl rfl rfl rfl rfl (by rfl) hS ?_
 intro W1 b2 am
 refine oA Z Z (eN (zH (sR fL3 Z (oM Z Z (oM Z Z (oR Z (Zo Z Z Z) (eN ?_)))))))
 by_cases c5:p3=p4
 have bB:=hm;rw [if_pos c5] at bB;replace c5:=zI c5
 refine zx (Ze (fun h=>h c5.out)) (kN (zH (sR fL2 Z (oM Z Z (oR Z (Zo Z Z Z) (eN (ifc bB ?_ ?_)))))))
 intro c7 cJ
 refine zx (Ze (fun h=>h c7.out)) (kN (sR (.fl 0 (.fx 1 (.fl 2 (.fl 3 (.fx 4 (wLu (.nil)) .stop))) .stop)) Z (oL Z (am.ldBA (j:=0) Z Z Z ZB zo (vs:=B0) Z Z) (bnK cJ fun x9 bN cH=>zK 0 Z Z Z Z (zL Z Z Tryz.call11 (zD Z zQ) Z) am (fun hs=>wCL p0 aV aZ aW a0 aX ba aY bb W1 U hs cz cA cC cD bN) (.inr Z) ?_))))
 rintro bH cU cX ai bF cj ⟨bo,bu,bp,bv,bq,bw,br,bz,rfl,rfl⟩
 let B1:Res:=.row br bz 117 4 (hH wAF x9.Readings)
 let B2:Res:=.row bq bw 116 3 (hH wAG x9.Clocks)
 let B3:Res:=.row bp bv 39 2 (hH wAB x9.Splits)
 have cm:sW w U bH [.row bo bu 3 1 (hH KL.encI x9.Starts),B3,B2,B1,.blk b2 27 B0] ai:=cj
 refine oM Z Z (oM Z Z ?_)
 have q:=cm.freezeR (k:=0) (n:=x9.Starts.length) rfl (wAI (f:=KL.encI) (sz:=1) (fun _=>rfl) x9.Starts) (by decide)
 obtain ⟨bI,bG,cN,cn⟩:=q
 have cp:sW w U bI [B3,B2,B1,.blk b2 27 B0] ai:=cn
 have q:=cp.freezeR (k:=0) (n:=x9.Splits.length) rfl (wAI (f:=wAB) (sz:=2) (fun _=>rfl) x9.Splits) (by decide)
 obtain ⟨bJ,bg,cO,cq⟩:=q
 have cr:sW w U bJ [B2,B1,.blk b2 27 B0] ai:=cq
 have q:=cr.freezeR (k:=0) (n:=x9.Clocks.length) rfl (wAI (f:=wAG) (sz:=3) (fun _=>rfl) x9.Clocks) (by decide)
 obtain ⟨bK,av,cP,ct⟩:=q
 have cu:sW w U bK [B1,.blk b2 27 B0] ai:=ct
 have q:=cu.freezeR (k:=0) (n:=x9.Readings.length) rfl (wAI (f:=wAF) (sz:=4) (fun _=>rfl) x9.Readings) (by decide)
 obtain ⟨bt,ap,cQ,cw⟩:=q
 have cx:sW w U bt [.blk b2 27 B0] ai:=cw
 have bO:=cN.le bg
 have bP:=bO.le av
 have bQ:=bP.le ap
 have bR:=cO.le av
 have bS:=bR.le ap
 have bT:=cP.le ap
 have bU:=cE.le bF
 have bV:=bU.le bG
 have bW:=bV.le bg
 have bX:=bW.le av
 have bY:=bX.le ap
 have bZ:=cG.le bF
 have b5:=bZ.le bG
 have cb:=b5.le bg
 have cd:=cb.le av
 have cf:=cd.le ap
 have q:=bnd cH
 obtain ⟨⟨cR,cS⟩,cg,bC⟩:=q
 try dsimp only at bC
 refine zK 0 Z Z Z Z (zL Z Z Tryz.call36 (zD Z (zD Z (zD Z zQ))) Z) cx (fun hs=>wGE x9 bo bu bp bv bq bw br bz p1 bj bm p2 bk bn ai bt hs bQ bS bT cQ bY cf cg) (.inr Z) ?_
 rintro be cV cY bM cW cy ⟨rfl,rfl⟩
 have bA:sW w U be [.blk b2 27 B0] bM:=cy
 refine oM Z Z (oR Z (zu Z Z (v:=.bool cR) Z) (oR Z (zu Z Z (v:=jV cS) Z) (oA Z Z (oA Z Z (eN (sR fL6 Z (oM Z Z (oR Z (Runs.eql Z Z Z) (oM Z Z (ifc bC ?_ ?_))))))))))
 intro ak cI
 refine zz Z Z Z (wT Z ak) Z Z (oR Z (zl Z (Zl ak.out) Z) (oA Z Z (eN (zP ?_))))
 have hE:=nA cI;first | subst r | cases hE
 exact ⟨rfl,_,(ZH rfl),be,_,(bA.pick [] _ (by decide) rfl),rfl,rfl⟩
 intro ak cK
 refine oF Z ak (oR Z (zt Z (Ze ak.out) Z) (oA Z Z (eN (zP ?_))))
 have hE:=nA cK;first | subst r | cases hE
 exact ⟨rfl,_,(ZH rfl),be,_,(bA.pick [] _ (by decide) rfl),rfl,rfl⟩
 intro c7 cL
 refine cT Z c7 (sR fL9 Z (oM Z Z (oR Z (zd Z Z zR) (oR Z (Runs.eql Z Z Z) (oM Z Z (ifc cL ?_ ?_))))))
 intro ab bD
 refine zz Z Z Z (wT Z ab) Z Z (rU Z (wT Z ab) (zd Z Z zC) (rU Z (wT Z ab) (Runs.eql Z Z Z) (oR Z (zl Z (Zl ab.out) Z) (oA Z Z (eN (zP (zN ?_)))))))
 first | (obtain rfl:=nA bD) | cases bD
 exact ⟨rfl,_,(ZH rfl),U,_,(am.pick [] _ (by decide) rfl),rfl,rfl⟩
 intro ab cM
 refine oF Z ab (oF Z ab (oF Z ab (oR Z (zt Z (Ze ab.out) Z) (oA Z Z (eN (zP (zN ?_)))))))
 have hE:=nA cM;first | subst r | cases hE
 exact ⟨rfl,_,(ZH rfl),U,_,(am.pick [] _ (by decide) rfl),rfl,rfl⟩
 have bE:=hm;rw [if_neg c5] at bE;replace c5:=zI c5
 refine cT Z c5 (sR fL1 Z (oA Z Z (eN (zP (zN ?_)))))
 have hE:=nA bE;first | subst r | cases hE
 exact ⟨rfl,_,(ZH rfl),U,_,(am.pick [] _ (by decide) rfl),rfl,rfl⟩
theorem wGv (p0:List (List Int)) (aZ:Option Addr) (bb:Nat) (p1:wAM) (w:World) (U:PHeap) (hS:St0 w U []) (aW:SlR U wIM aZ bb p0) {r:Int} (hm:wCE p0 p1=some r):Gv Tryz.prog 20 [.slice aZ p0.length bb,.agg #[jV p1.Skier,jV p1.Mat]] w (wCp w [] U (fun U_ L_ v=>v=jV r/\L_=[])):=by
 unfold wCE at hm
 refine Gv.of Tryz.func20 rfl Tryz.ntmps20 Tryz.results20 rfl (sR gDc rfl (ZE (cs:=[jV p1.Skier,jV p1.Mat]) rfl rfl rfl rfl rfl rfl (by rfl) hS ?_))
 intro W1 b2 bn
 refine yX rfl rfl rfl rfl rfl rfl (eN (zH (zH (ZD zy [3,1,3,3,3,1,3,3,3,3,3,3,1,3,3,3,3,1,3,3,1,3,1,3,3,3] fL26 (by kernel_rfl) ?_))))
 have ah:=bn.drew
 generalize hw_W6:({ W1 with drawn:=W1.drawn + 1 }:World)=W6 at ah ⊢
 refine oR Z (zE Z Z ZU Z zB) (oL Z (ah.ldB (j:=0) Z Z Z zF (v:=jV p1.Skier) Z) (oR Z (zX Z Z Z) (oM Z Z ?_)))
 by_cases c7:p1.Skier < 0
 have aX:=hm;rw [if_pos c7] at aX;replace c7:=zI c7
 refine oT Z c7 (oT Z c7 (oT Z c7 (oT Z c7 (oT Z c7 (oR Z (zl Z (Zl c7.out) Z) (oM Z Z (oN Z (oN Z (oN Z (oR Z (zl Z Z Z) (oM Z Z (oN Z (oN Z (oN Z (oN Z (oN Z (oN Z (oN Z (oN Z (oN Z (oR Z (zl Z Z Z) (eN (ZG Z (sR fL1 Z (oA Z Z (eN (zP (zN ?_))))))))))))))))))))))))))))
 cases aX
 exact ⟨rfl,_,(ZH rfl),U,_,(ah.pick [] _ (by decide) rfl),rfl,rfl⟩
 have aY:=hm;rw [if_neg c7] at aY;replace c7:=zI c7
 refine rU Z (wF Z c7) (zE Z Z ZU Z zB) (ZI Z Z Z (wF Z c7) (ah.ldB (j:=0) Z Z Z zF (v:=jV p1.Skier) Z) Z (zz Z Z Z (wF Z c7) Z Z (rU Z (wF Z c7) (zd Z Z zR) (rU Z (wF Z c7) (Runs.geq Z Z Z) (oR Z (zt Z (Ze c7.out) Z) (oM Z Z (ifc aY ?_ ?_)))))))
 intro ai bo
 refine oT Z ai (oT Z ai (oT Z ai (oR Z (zl Z (Zl ai.out) Z) (oM Z Z (oN Z (oN Z (oN Z (oN Z (oN Z (oN Z (oN Z (oN Z (oN Z (oR Z (zl Z Z Z) (eN (ZG Z (sR fL1 Z (oA Z Z (eN (zP (zN ?_)))))))))))))))))))))
 cases bo
 exact ⟨rfl,_,(ZH rfl),U,_,(ah.pick [] _ (by decide) rfl),rfl,rfl⟩
 intro ai bp
 refine rU Z (wF Z ai) (zE Z Z ZU Z zB) (ZI Z Z Z (wF Z ai) (ah.ldB (j:=0) Z Z Z zF (v:=jV p1.Mat) Z) Z (rU Z (wF Z ai) (zX Z Z Z) (oR Z (zt Z (Ze ai.out) Z) (oM Z Z (ifc bp ?_ ?_)))))
 intro aa bq
 refine oT Z aa (oT Z aa (oT Z aa (oT Z aa (oT Z aa (oT Z aa (oT Z aa (oT Z aa (oT Z aa (oR Z (zl Z (Zl aa.out) Z) (eN (ZG Z (sR fL1 Z (oA Z Z (eN (zP (zN ?_))))))))))))))))
 cases bq
 exact ⟨rfl,_,(ZH rfl),U,_,(ah.pick [] _ (by decide) rfl),rfl,rfl⟩
 intro aa br
 refine rU Z (wF Z aa) (zE Z Z ZU Z zB) (ZI Z Z Z (wF Z aa) (ah.ldB (j:=0) Z Z Z zF (v:=jV p1.Mat) Z) Z (zz Z Z Z (wF Z aa) Z Z (rU Z (wF Z aa) (zE Z Z ZU Z zB) (ZI Z Z Z (wF Z aa) (ah.ldB (j:=0) Z Z Z zF (v:=jV p1.Skier) Z) Z (bnK br fun x16 aj bs=>?_)))))
 have q:=aW.el (wAS aj)
 obtain ⟨bf,bA,bI,bi,aq,bw⟩:=q
 obtain ⟨a0,bd,rfl,bG⟩:=bw
 replace aq:Cl U bf (bA + p1.Skier.toNat * 1) [.slice a0 x16.length bd]:=aq
 refine rU Z (wF Z aa) (ZC Z Z bi Z zR zS (wAx aj) (wBA aj)) (ZI Z Z Z (wF Z aa) (ah.ldC (f:=0) aq (v:=.slice a0 x16.length bd) Z Z zY Z) Z (rU Z (wF Z aa) (zd Z Z zC) (rU Z (wF Z aa) (Runs.geq Z Z Z) (oR Z (zt Z (Ze aa.out) Z) (eN (ifc bs ?_ ?_))))))
 intro am bt
 refine cT Z am (sR fL1 Z (oA Z Z (eN (zP (zN ?_)))))
 cases bt
 exact ⟨rfl,_,(ZH rfl),U,_,(ah.pick [] _ (by decide) rfl),rfl,rfl⟩
 intro am bu
 refine cF Z am (kN (zH (ZD zy [3,3,1,3,1,3,1,3,1,3] fL10 (by kernel_rfl) ?_)))
 have ak:=ah.drew
 generalize hw_W32:({ W6 with drawn:=W6.drawn + 1 }:World)=bD at ak ⊢
 refine oM Z Z (oR Z (zE Z Z ZU Z zB) (oL Z (ak.ldB (j:=0) Z Z Z zF (v:=jV p1.Skier) Z) ?_))
 have q:=aW.el (wAS aj)
 obtain ⟨bg,bB,bJ,bj,au,bz⟩:=q
 obtain ⟨ba,be,rfl,bh⟩:=bz
 replace au:Cl U bg (bB + p1.Skier.toNat * 1) [.slice ba x16.length be]:=au
 refine oR Z (ZC Z Z bj Z zR zS (wAx aj) (wBA aj)) (oL Z (ak.ldC (f:=0) au (v:=.slice ba x16.length be) Z Z zY Z) (oR Z (zE Z Z ZU Z zB) (oL Z (ak.ldB (j:=0) Z Z Z zF (v:=jV p1.Mat) Z) (bnK bu fun bC ap bv=>?_))))
 have q:=bh.el (fun _=>rfl) (wAS ap)
 obtain ⟨bF,bH,bk,bm⟩:=q
 refine oR Z (ZC Z Z bk Z zC zB (wAx ap) (wBA ap)) (oL Z (ak.ldC (f:=0) bm (v:=jV bC) Z Z zF Z) (oA Z Z (eN (zP ?_))))
 have hE:=nA bv;first | subst r | cases hE
 exact ⟨rfl,_,(ZH rfl),U,_,(ak.pick [] _ (by decide) rfl),rfl,rfl⟩
theorem wEF (p0:List wAb) (aV:Option Addr) (aX:Nat) (p1:List wAb) (aW:Option Addr) (aY:Nat) (w:World) (U:PHeap) (hS:St0 w U []) (bA:Sl U 3 aV aX p0.length (hH wAD p0)) (bB:Sl U 3 aW aY p1.length (hH wAD p1)) {r:Bool} (hm:wBR p0 p1=some r):Gv Tryz.prog 76 [.slice aV p0.length aX,.slice aW p1.length aY] w (wCp w [] U (fun U_ L_ v=>v=.bool r/\L_=[])):=by
 unfold wBR at hm
 refine Gv.of Tryz.func76 Z Tryz.ntmps76 Tryz.results76 Z (sR fL1 Z (oA Z Z (eN (zH (sR fL5 Z (oM Z Z (oR Z (zd Z Z ZX) (oM Z Z (oR Z (zd Z Z ZX) (oR Z (Zo Z Z Z) (eN ?_)))))))))))
 by_cases c1:(↑p0.length:Int)=(↑p1.length:Int)
 have aj:=hm;rw [if_pos c1] at aj;replace c1:=zI c1
 refine zx (Ze (fun h=>h c1.out)) (kN (zH (sR fL3 Z (oM Z Z (oR Z (zd Z Z ZX) (oM Z Z (eN (zW ?_))))))))
 have q:=wCH aj
 obtain ⟨r5,aq⟩:=q
 have q:=wCG aq
 obtain ⟨av,bE⟩:=q
 replace av:=zI av
 refine yG (fun k4 _ σ_ w_=>∃ (U_:PHeap),σ_ 13=jV (↑k4:Int)/\σ_ 0=.slice aV p0.length aX/\σ_ 1=.slice aW p1.length aY/\σ_ 12=jV (↑p0.length:Int)/\PHeap.Le U U_/\sW w U U_ [] w_) bE ?_ ?_ ?_
 exact ⟨U,Z,Z,Z,Z,(zM _),hS⟩
 rintro k4 ⟨⟩ bW bY a0 au ⟨aZ,ap,bb,bd,be,az,bw⟩ bj bC
 try dsimp only at bj
 have ba:Hid ((↑k4:Int) < (↑p0.length:Int)):=zI (wBJ au)
 replace au:=zI au
 have bF:Hid (w64 ((↑k4:Int) + 1)=(↑(k4 + 1):Int)):=zI (by have h1:=av.out;have h2:=ba.out;rw [wAX] <;> omega)
 refine sR fL1 rfl (zk rfl rfl rfl rfl (fun _=>zX rfl ap be) (eN (zH (cT Z ba (kN (zH (zW (sR fL2 rfl (zz rfl rfl rfl rfl rfl ap (yX rfl rfl rfl rfl rfl rfl (eN (zH (ZD zy [3,3,3,1,3,3,3,1,3] fL9 (by kernel_rfl) ?_)))))))))))))
 have ah:=bw.drew
 generalize hw_W25:({ a0 with drawn:=a0.drawn + 1 }:World)=bM at ah ⊢
 refine oM Z bb (oM Z Z (bnK bj fun x26 bf bG=>?_))
 have bq:=bA.le az
 have q:=bq.el (fun _=>rfl) (wAS bf)
 obtain ⟨bO,bT,bs,bu⟩:=q
 refine oR Z (ZL Z Z bs Z ZX Zq (wBk bf)) (oL Z (ah.ldCA (f:=0) bu Z Z Tryz.isAgg112 Zq (us:=[jV x26.Offset.Lo,jV x26.Offset.Hi,jV x26.Error]) Z Z) (oM Z bd (oM Z Z (bnK bG fun ak bg bH=>?_))))
 have br:=bB.le az
 have q:=br.el (fun _=>rfl) (wAS bg)
 obtain ⟨bP,bU,bt,bv⟩:=q
 refine oR Z (ZL Z Z bt Z ZX Zq (wBk bg)) (oL Z (ah.ldCA (f:=0) bv Z Z Tryz.isAgg112 Zq (us:=[jV ak.Offset.Lo,jV ak.Offset.Hi,jV ak.Error]) Z Z) (oR Z (ZP (Runs.neS (enc:=wAD) (a:=x26) (b:=ak) Z Z Z wUO wUN) (congrArg nB (decide_not).symm)) (eN (ifc bH ?_ ?_))))
 intro am bI
 refine zx (Ze (fun h=>h am.out)) (Zh (zq (zG (rR fL2 Z (oR Z (ZP (zZ Z ap Z) (congrArg (jV) bF.out)) (oM Z Z (zh ?_)))))))
 obtain rfl:=nA bI
 exact zG ⟨Z,_,Z,⟨aZ,Z,bb,bd,be,az,ah⟩⟩
 intro am bJ
 refine cT Z am (sR fL1 Z (oA Z Z (eN (zP (zg (zN ?_))))))
 have q:=wAZ bJ
 obtain ⟨bL,bK,bn⟩:=q
 obtain rfl:=wCA aj aq (bC bL bn)
 refine zN (zg (zN ?_))
 have hE:=nA bK;first | subst r | cases hE
 exact ⟨Z,_,(ZH Z),aZ,_,ah,Z,Z⟩
 rintro ⟨⟩ bX bN ⟨bk,bp,bQ,bR,bo,bS,bz⟩ bD
 have bh:=wCu aj aq bD
 try dsimp only at bh
 have bm:Hid (¬ ((↑(((↑p0.length:Int):Int) - 0).toNat:Int) < (↑p0.length:Int))):=zI (wAj)
 refine sR fL1 Z (oR Z (zX Z bp bo) (eN (zH (cF Z bm (ZT (zf (zf (ZK (zG (sR fL1 Z (oA Z Z (eN (zP ?_)))))))))))))
 have hE:=nA bh;first | subst r | cases hE
 exact ⟨Z,_,(ZH Z),bk,_,bz,Z,Z⟩
 have bi:=hm;rw [if_neg c1] at bi;replace c1:=zI c1
 refine cT Z c1 (sR fL1 Z (oA Z Z (eN (zP (zN ?_)))))
 have hE:=nA bi;first | subst r | cases hE
 exact ⟨Z,_,(ZH Z),U,_,hS,Z,Z⟩
theorem wDq (p0:List wAU) (aV:Option Addr) (aX:Nat) (p1:List wAU) (aW:Option Addr) (aY:Nat) (w:World) (U:PHeap) (hS:St0 w U []) (bA:Sl U 4 aV aX p0.length (hH wAC p0)) (bB:Sl U 4 aW aY p1.length (hH wAC p1)) {r:Bool} (hm:wBI p0 p1=some r):Gv Tryz.prog 77 [.slice aV p0.length aX,.slice aW p1.length aY] w (wCp w [] U (fun U_ L_ v=>v=.bool r/\L_=[])):=by
 unfold wBI at hm
 refine Gv.of Tryz.func77 Z Tryz.ntmps77 Tryz.results77 Z (sR fL1 Z (oA Z Z (eN (zH (sR fL5 Z (oM Z Z (oR Z (zd Z Z Zk) (oM Z Z (oR Z (zd Z Z Zk) (oR Z (Zo Z Z Z) (eN ?_)))))))))))
 by_cases c1:(↑p0.length:Int)=(↑p1.length:Int)
 have ak:=hm;rw [if_pos c1] at ak;replace c1:=zI c1
 refine zx (Ze (fun h=>h c1.out)) (kN (zH (sR fL3 Z (oM Z Z (oR Z (zd Z Z Zk) (oM Z Z (eN (zW ?_))))))))
 have q:=wCH ak
 obtain ⟨r5,aq⟩:=q
 have q:=wCG aq
 obtain ⟨av,bE⟩:=q
 replace av:=zI av
 refine yG (fun k4 _ σ_ w_=>∃ (U_:PHeap),σ_ 13=jV (↑k4:Int)/\σ_ 0=.slice aV p0.length aX/\σ_ 1=.slice aW p1.length aY/\σ_ 12=jV (↑p0.length:Int)/\PHeap.Le U U_/\sW w U U_ [] w_) bE ?_ ?_ ?_
 exact ⟨U,Z,Z,Z,Z,(zM _),hS⟩
 rintro k4 ⟨⟩ bW bY a0 au ⟨aZ,ap,bb,bd,be,az,bw⟩ bj bC
 try dsimp only at bj
 have ba:Hid ((↑k4:Int) < (↑p0.length:Int)):=zI (wBJ au)
 replace au:=zI au
 have bF:Hid (w64 ((↑k4:Int) + 1)=(↑(k4 + 1):Int)):=zI (by have h1:=av.out;have h2:=ba.out;rw [wAX] <;> omega)
 refine sR fL1 rfl (zk rfl rfl rfl rfl (fun _=>zX rfl ap be) (eN (zH (cT Z ba (kN (zH (zW (sR fL2 rfl (zz rfl rfl rfl rfl rfl ap (yX rfl rfl rfl rfl rfl rfl (eN (zH (ZD zy [3,3,3,1,3,3,3,1,3] fL9 (by kernel_rfl) ?_)))))))))))))
 have ah:=bw.drew
 generalize hw_W25:({ a0 with drawn:=a0.drawn + 1 }:World)=bM at ah ⊢
 refine oM Z bb (oM Z Z (bnK bj fun x26 bf bG=>?_))
 have bq:=bA.le az
 have q:=bq.el (fun _=>rfl) (wAS bf)
 obtain ⟨bO,bT,bs,bu⟩:=q
 refine oR Z (ZL Z Z bs Z Zk Zn (wBk bf)) (oL Z (ah.ldCA (f:=0) bu Z Z yk Zn (us:=[jV x26.Skier,jV x26.Mat,jV x26.Clock,jV x26.Time]) Z Z) (oM Z bd (oM Z Z (bnK bG fun aj bg bH=>?_))))
 have br:=bB.le az
 have q:=br.el (fun _=>rfl) (wAS bg)
 obtain ⟨bP,bU,bt,bv⟩:=q
 refine oR Z (ZL Z Z bt Z Zk Zn (wBk bg)) (oL Z (ah.ldCA (f:=0) bv Z Z yk Zn (us:=[jV aj.Skier,jV aj.Mat,jV aj.Clock,jV aj.Time]) Z Z) (oR Z (ZP (Runs.neS (enc:=wAC) (a:=x26) (b:=aj) Z Z Z wUR wUQ) (congrArg nB (decide_not).symm)) (eN (ifc bH ?_ ?_))))
 intro am bI
 refine zx (Ze (fun h=>h am.out)) (Zh (zq (zG (rR fL2 Z (oR Z (ZP (zZ Z ap Z) (congrArg (jV) bF.out)) (oM Z Z (zh ?_)))))))
 obtain rfl:=nA bI
 exact zG ⟨Z,_,Z,⟨aZ,Z,bb,bd,be,az,ah⟩⟩
 intro am bJ
 refine cT Z am (sR fL1 Z (oA Z Z (eN (zP (zg (zN ?_))))))
 have q:=wAZ bJ
 obtain ⟨bL,bK,bn⟩:=q
 obtain rfl:=wCA ak aq (bC bL bn)
 refine zN (zg (zN ?_))
 have hE:=nA bK;first | subst r | cases hE
 exact ⟨Z,_,(ZH Z),aZ,_,ah,Z,Z⟩
 rintro ⟨⟩ bX bN ⟨bk,bp,bQ,bR,bo,bS,bz⟩ bD
 have bh:=wCu ak aq bD
 try dsimp only at bh
 have bm:Hid (¬ ((↑(((↑p0.length:Int):Int) - 0).toNat:Int) < (↑p0.length:Int))):=zI (wAj)
 refine sR fL1 Z (oR Z (zX Z bp bo) (eN (zH (cF Z bm (ZT (zf (zf (ZK (zG (sR fL1 Z (oA Z Z (eN (zP ?_)))))))))))))
 have hE:=nA bh;first | subst r | cases hE
 exact ⟨Z,_,(ZH Z),bk,_,bz,Z,Z⟩
 have bi:=hm;rw [if_neg c1] at bi;replace c1:=zI c1
 refine cT Z c1 (sR fL1 Z (oA Z Z (eN (zP (zN ?_)))))
 have hE:=nA bi;first | subst r | cases hE
 exact ⟨Z,_,(ZH Z),U,_,hS,Z,Z⟩
theorem wDQ (p0:wAA) (ap:Option Addr) (aY:Nat) (aq:Option Addr) (aZ:Nat) (au:Option Addr) (a0:Nat) (av:Option Addr) (ba:Nat) (p1:wAA) (az:Option Addr) (bb:Nat) (aV:Option Addr) (bd:Nat) (aW:Option Addr) (be:Nat) (aX:Option Addr) (bf:Nat) (w:World) (U:PHeap) (hS:St0 w U []) (bW:Sl U 1 ap aY p0.Starts.length (hH KL.encI p0.Starts)) (bX:Sl U 2 aq aZ p0.Splits.length (hH wAB p0.Splits)) (bY:Sl U 3 au a0 p0.Clocks.length (hH wAD p0.Clocks)) (bZ:Sl U 4 av ba p0.Readings.length (hH wAC p0.Readings)) (b5:Sl U 1 az bb p1.Starts.length (hH KL.encI p1.Starts)) (cb:Sl U 2 aV bd p1.Splits.length (hH wAB p1.Splits)) (cd:Sl U 3 aW be p1.Clocks.length (hH wAD p1.Clocks)) (cf:Sl U 4 aX bf p1.Readings.length (hH wAC p1.Readings)) {r:Bool} (hm:wBS p0 p1=some r):Gv Tryz.prog 21 [.agg #[.slice ap p0.Starts.length aY,.slice aq p0.Splits.length aZ,.slice au p0.Clocks.length a0,.slice av p0.Readings.length ba],.agg #[.slice az p1.Starts.length bb,.slice aV p1.Splits.length bd,.slice aW p1.Clocks.length be,.slice aX p1.Readings.length bf]] w (wCp w [] U (fun U_ L_ v=>v=.bool r/\L_=[])):=by
 unfold wBS at hm
 refine Gv.of Tryz.func21 Z Tryz.ntmps21 Tryz.results21 Z (sR gDl Z ?_)
 let B0:List Value:=[.slice ap p0.Starts.length aY,.slice aq p0.Splits.length aZ,.slice au p0.Clocks.length a0,.slice av p0.Readings.length ba]
 refine ZE (cs:=B0) rfl rfl rfl rfl rfl rfl (by rfl) hS ?_
 intro W1 b2 bR
 let B1:List Value:=[.slice az p1.Starts.length bb,.slice aV p1.Splits.length bd,.slice aW p1.Clocks.length be,.slice aX p1.Readings.length bf]
 refine ZE (cs:=B1) rfl rfl rfl rfl rfl rfl (by rfl) bR ?_
 intro W5 b6 bq
 refine oA Z Z (eN (sR (wEZ (.fx 4 (wLu (.fx 10 (wSy (.fx 17 (wTC (.fx 24 (.fl 25 (.fl 26 .nil)) .stop)) .stop)) .stop)) .stop)) Z (oR Z (zE Z Z zU Z zS) (oL Z (bq.ldB (j:=1) Z Z Z zY (v:=.slice ap p0.Starts.length aY) Z) (oR Z (zE Z Z zU Z zS) (oL Z (bq.ldB (j:=0) Z Z Z zY (v:=.slice az p1.Starts.length bb) Z) (bnK hm fun x9 bA cg=>zK 0 Z Z Z Z (zL Z Z Tryz.call26 (zD Z (zD Z zQ)) Z) bq (fun hs=>wDi p0.Starts ap aY p1.Starts az bb W5 U hs bW b5 bA) (.inr Z) ?_)))))))
 rintro bn cx cE bs aj bQ ⟨rfl,rfl⟩
 have bi:sW w U bn [.blk b6 27 B1,.blk b2 27 B0] bs:=bQ
 refine oM Z Z (ifc cg ?_ ?_)
 intro ae cj
 refine zk Z Z Z (zO Z Z (congrArg nB ae.out)) (fun _=>zE Z Z zU Z Zd) (ZI Z Z Z (zO Z Z (congrArg nB ae.out)) (bi.ldB (j:=1) Z Z Z Zi (v:=.slice aq p0.Splits.length aZ) Z) Z (zk Z Z Z (zO Z Z (congrArg nB ae.out)) (fun _=>zE Z Z zU Z Zd) (ZI Z Z Z (zO Z Z (congrArg nB ae.out)) (bi.ldB (j:=0) Z Z Z Zi (v:=.slice aV p1.Splits.length bd) Z) Z ?_)))
 have bB:=bX.le aj
 have bC:=cb.le aj
 refine bnK cj fun cJ bD cm=>zK 0 Z Z Z (zO Z Z (congrArg nB ae.out)) (zL Z Z Tryz.call44 (zD Z (zD Z zQ)) Z) bi (fun hs=>wCy p0.Splits aq aZ p1.Splits aV bd bs bn hs bB bC bD) (.inr Z) ?_
 rintro bo cy cG bt bm bS ⟨rfl,rfl⟩
 have bj:sW w U bo [.blk b6 27 B1,.blk b2 27 B0] bt:=bS
 refine oR Z (zl Z (congrArg nB ae.out) Z) (oM Z Z (ifc cm ?_ ?_))
 intro ah cn
 refine zk Z Z Z (zO Z Z (congrArg nB ah.out)) (fun _=>zE Z Z zU Z Zy) (ZI Z Z Z (zO Z Z (congrArg nB ah.out)) (bj.ldB (j:=1) Z Z Z yD (v:=.slice au p0.Clocks.length a0) Z) Z (zk Z Z Z (zO Z Z (congrArg nB ah.out)) (fun _=>zE Z Z zU Z Zy) (ZI Z Z Z (zO Z Z (congrArg nB ah.out)) (bj.ldB (j:=0) Z Z Z yD (v:=.slice aW p1.Clocks.length be) Z) Z ?_)))
 have bE:=bY.le aj
 have bF:=bE.le bm
 have bG:=cd.le aj
 have bH:=bG.le bm
 refine bnK cn fun cK bI cp=>zK 0 Z Z Z (zO Z Z (congrArg nB ah.out)) (zL Z Z Tryz.call76 (zD Z (zD Z zQ)) Z) bj (fun hs=>wEF p0.Clocks au a0 p1.Clocks aW be bt bo hs bF bH bI) (.inr Z) ?_
 rintro bp cz cH bu bv bT ⟨rfl,rfl⟩
 have bk:sW w U bp [.blk b6 27 B1,.blk b2 27 B0] bu:=bT
 refine oR Z (zl Z (congrArg nB ah.out) Z) (oM Z Z (ifc cp ?_ ?_))
 intro ai cq
 refine zk Z Z Z (zO Z Z (congrArg nB ai.out)) (fun _=>zE Z Z zU Z yO) (ZI Z Z Z (zO Z Z (congrArg nB ai.out)) (bk.ldB (j:=1) Z Z Z yQ (v:=.slice av p0.Readings.length ba) Z) Z (zk Z Z Z (zO Z Z (congrArg nB ai.out)) (fun _=>zE Z Z zU Z yO) (ZI Z Z Z (zO Z Z (congrArg nB ai.out)) (bk.ldB (j:=0) Z Z Z yQ (v:=.slice aX p1.Readings.length bf) Z) Z ?_)))
 have bJ:=bZ.le aj
 have bK:=bJ.le bm
 have bL:=bK.le bv
 have bM:=cf.le aj
 have bN:=bM.le bm
 have bO:=bN.le bv
 refine bnK cq fun x57 bP cr=>zK 0 Z Z Z (zO Z Z (congrArg nB ai.out)) (zL Z Z Tryz.call77 (zD Z (zD Z zQ)) Z) bk (fun hs=>wDq p0.Readings av ba p1.Readings aX bf bu bp hs bL bO bP) (.inr Z) ?_
 rintro br cA cI bz cD bU ⟨rfl,rfl⟩
 have bV:sW w U br [.blk b6 27 B1,.blk b2 27 B0] bz:=bU
 refine oR Z (zl Z (congrArg nB ai.out) Z) (oA Z Z (eN (zP ?_)))
 have hE:=nA cr;first | subst r | cases hE
 exact ⟨rfl,_,(ZH rfl),br,_,(bV.pick [] _ (by decide) rfl),rfl,rfl⟩
 intro ai ct
 refine ZF Z Z Z (zi Z Z (congrArg nB (nD.2 ai.out)) Z) (ZF Z Z Z (zi Z Z (congrArg nB (nD.2 ai.out)) Z) (ZF Z Z Z (zi Z Z (congrArg nB (nD.2 ai.out)) Z) (ZF Z Z Z (zi Z Z (congrArg nB (nD.2 ai.out)) Z) (yJ Z Z Z (zi Z Z (congrArg nB (nD.2 ai.out)) Z) (oR Z (zt Z (congrArg nB (nD.2 ai.out)) Z) (oA Z Z (eN (zP ?_))))))))
 have hE:=nA ct;first | subst r | cases hE
 exact ⟨rfl,_,(ZH rfl),bp,_,(bk.pick [] _ (by decide) rfl),rfl,rfl⟩
 intro ah cu
 refine ZF Z Z Z (zi Z Z (congrArg nB (nD.2 ah.out)) Z) (ZF Z Z Z (zi Z Z (congrArg nB (nD.2 ah.out)) Z) (ZF Z Z Z (zi Z Z (congrArg nB (nD.2 ah.out)) Z) (ZF Z Z Z (zi Z Z (congrArg nB (nD.2 ah.out)) Z) (yJ Z Z Z (zi Z Z (congrArg nB (nD.2 ah.out)) Z) (oR Z (zt Z (congrArg nB (nD.2 ah.out)) Z) (oM Z Z (oN Z (oN Z (oN Z (oN Z (yJ Z Z Z (zi Z Z Z Z) (oR Z (zt Z Z Z) (oA Z Z (eN (zP ?_)))))))))))))))
 have hE:=nA cu;first | subst r | cases hE
 exact ⟨rfl,_,(ZH rfl),bo,_,(bj.pick [] _ (by decide) rfl),rfl,rfl⟩
 intro ae cw
 refine ZF Z Z Z (zi Z Z (congrArg nB (nD.2 ae.out)) Z) (ZF Z Z Z (zi Z Z (congrArg nB (nD.2 ae.out)) Z) (ZF Z Z Z (zi Z Z (congrArg nB (nD.2 ae.out)) Z) (ZF Z Z Z (zi Z Z (congrArg nB (nD.2 ae.out)) Z) (yJ Z Z Z (zi Z Z (congrArg nB (nD.2 ae.out)) Z) (oR Z (zt Z (congrArg nB (nD.2 ae.out)) Z) (oM Z Z (oN Z (oN Z (oN Z (oN Z (yJ Z Z Z (zi Z Z Z Z) (oR Z (zt Z Z Z) (oM Z Z (oN Z (oN Z (oN Z (oN Z (yJ Z Z Z (zi Z Z Z Z) (oR Z (zt Z Z Z) (oA Z Z (eN (zP ?_))))))))))))))))))))))
 have hE:=nA cw;first | subst r | cases hE
 exact ⟨rfl,_,(ZH rfl),bn,_,(bi.pick [] _ (by decide) rfl),rfl,rfl⟩
theorem wEl (p0:wAA) (be:Option Addr) (bi:Nat) (bf:Option Addr) (bj:Nat) (bg:Option Addr) (bk:Nat) (bh:Option Addr) (bm:Nat) (p1:wAM) (p2:Bool) (w:World) (U:PHeap) (hS:St0 w U []) (cp:Sl U 1 be bi p0.Starts.length (hH KL.encI p0.Starts)) (cq:Sl U 2 bf bj p0.Splits.length (hH wAB p0.Splits)) (cr:Sl U 3 bg bk p0.Clocks.length (hH wAD p0.Clocks)) (ct:Sl U 4 bh bm p0.Readings.length (hH wAC p0.Readings)) {r:Bool} (hm:wBl p0 p1 p2=some r):Gv Tryz.prog 6 [.agg #[.slice be p0.Starts.length bi,.slice bf p0.Splits.length bj,.slice bg p0.Clocks.length bk,.slice bh p0.Readings.length bm],.agg #[jV p1.Skier,jV p1.Mat],.bool p2] w (wCp w [] U (fun U_ L_ v=>v=.bool r/\L_=[])):=by
 unfold wBl at hm
 refine Gv.of Tryz.func6 Z Tryz.ntmps6 Tryz.results6 Z (sR gDl Z ?_)
 let B0:List Value:=[.slice be p0.Starts.length bi,.slice bf p0.Splits.length bj,.slice bg p0.Clocks.length bk,.slice bh p0.Readings.length bm]
 refine ZE (cs:=B0) rfl rfl rfl rfl rfl rfl (by rfl) hS ?_
 intro W1 b2 CF
 let B1:List Value:=[jV p1.Skier,jV p1.Mat]
 refine ZE (cs:=B1) rfl rfl rfl rfl rfl rfl (by rfl) CF ?_
 intro W5 b6 oB
 refine oA Z Z (eN (zH (sR gDe Z (oL Z (oB.ldBA (j:=1) Z Z Z ZB zo (vs:=B0) Z Z) (bnK hm fun x9 se C5=>zK 0 Z Z Z Z (zL Z Z Tryz.call8 (zD Z zQ) Z) oB (fun hs=>wGC p0 be bi bf bj bg bk bh bm W5 U hs cp cq cr ct se) (.inr Z) ?_)))))
 rintro ba EI FR gj aq Cr ⟨rfl,rfl⟩
 have ou:sW w U ba [.blk b6 29 B1,.blk b2 27 B0] gj:=Cr
 refine eN (ifc C5 ?_ ?_)
 intro iU DJ
 refine ZG (congrArg nB iU.out) (sR gDc Z (bnK DJ fun Gq AM DW=>zK 0 Z Z Z Z (zL Z Z Tryz.call9 zQ Z) ou (fun hs=>wCU gj ba hs AM) (.inr Z) ?_))
 rintro lD EZ F9 p8 FF CE ⟨rfl,rfl⟩
 have CG:sW w U lD [.blk b6 29 B1,.blk b2 27 B0] p8:=CE
 refine oA Z Z (eN (zP (zN ?_)))
 have hE:=nA DW;first | subst r | cases hE
 exact ⟨rfl,_,(ZH rfl),lD,_,(CG.pick [] _ (by decide) rfl),rfl,rfl⟩
 intro iU DX
 refine zx (congrArg nB (nD.2 iU.out)) (kN ?_)
 have q:=bnd DX
 obtain ⟨⟨bO,bw,bz,bA,bS,bT,bU,bV⟩,Eg,oX⟩:=q
 try dsimp only at oX
 refine yU (fun σ_ w_=>∃ (U_:PHeap) (aj:Nat) (bQ:Option Addr) (bR:Nat) (bE:Option Addr) (bL:Nat) (bF:Option Addr) (bM:Nat) (bG:Option Addr) (bN:Nat) (eH:Nat) (bY:Option Addr) (cg:Nat) (bZ:Option Addr) (cj:Nat) (b5:Option Addr) (cm:Nat) (cb:Option Addr) (cn:Nat),σ_ 2=.bool p2/\σ_ 3=.pointer (some ⟨b2,0,none⟩)/\σ_ 4=.pointer (some ⟨b6,0,none⟩)/\σ_ 7=.pointer (some ⟨aj,0,none⟩)/\σ_ 8=.pointer (some ⟨eH,0,none⟩)/\PHeap.Le ba U_/\sW w U U_ [.blk b6 29 B1,.blk b2 27 B0,.blk aj 27 [.slice bQ bO.length bR,.slice bE bw.length bL,.slice bF bz.length bM,.slice bG bA.length bN],.row bQ bR 3 1 (hH KL.encI bO),.row bE bL 39 2 (hH wAB bw),.row bF bM 112 3 (hH wAD bz),.row bG bN 115 4 (hH wAC bA),.blk eH 36 [.slice bY bS.length cg,.slice bZ bT.length cj,.slice b5 bU.length cm,.slice cb bV.length cn],.row bY cg 3 1 (hH KL.encI bS),.row bZ cj 39 2 (hH wAB bT),.row b5 cm 116 3 (hH wAG bU),.row cb cn 117 4 (hH wAF bV)] w_) ?_ ?_
 refine bnK Eg fun aa ib C6=>bnK C6 fun x93 ic C7=>ZD zy [1,2,1,2,2,2,0,0] (.fl 0 (.fl 2 (.fx 1 (.fx 3 (.fx 4 gDm (.fx 5 gDn .stop)) (.fx 4 gDt (.fx 5 gDu .stop))) (.fx 4 (.fx 1 gDt (.fx 5 gDq .stop)) (.fx 5 (.fx 1 gDu (.fx 4 gDq .stop)) .stop))))) (by kernel_rfl) ?_
 have dM:=ou.drew
 generalize hw_W132:({ gj with drawn:=gj.drawn + 1 }:World)=pV at dM ⊢
 refine ZS (s:=.nil) (M:=fun σ_ w_=>∃ (U_:PHeap) (gq:Nat) (dY:Option Addr) (e8:Nat) (dZ:Option Addr) (e9:Nat) (d4:Option Addr) (fb:Nat) (d5:Option Addr) (fc:Nat) (gt:Nat) (d6:Option Addr) (fd:Nat) (d7:Option Addr) (ff:Nat) (d8:Option Addr) (fg:Nat) (d9:Option Addr) (fh:Nat),σ_ 2=.bool p2/\σ_ 3=.pointer (some ⟨b2,0,none⟩)/\σ_ 4=.pointer (some ⟨b6,0,none⟩)/\σ_ 7=.pointer (some ⟨gq,0,none⟩)/\σ_ 8=.pointer (some ⟨gt,0,none⟩)/\σ_ 25=.agg B0.toArray/\σ_ 26=.agg #[.slice dY aa.Starts.length e8,.slice dZ aa.Splits.length e9,.slice d4 aa.Clocks.length fb,.slice d5 aa.Readings.length fc]/\σ_ 27=.agg B0.toArray/\σ_ 28=.agg #[.slice d6 x93.Starts.length fd,.slice d7 x93.Splits.length ff,.slice d8 x93.Clocks.length fg,.slice d9 x93.Readings.length fh]/\PHeap.Le ba U_/\sW w U U_ [.blk b6 29 B1,.blk b2 27 B0,.blk gq 27 [.slice dY aa.Starts.length e8,.slice dZ aa.Splits.length e9,.slice d4 aa.Clocks.length fb,.slice d5 aa.Readings.length fc],.row dY e8 3 1 (hH KL.encI aa.Starts),.row dZ e9 39 2 (hH wAB aa.Splits),.row d4 fb 112 3 (hH wAD aa.Clocks),.row d5 fc 115 4 (hH wAC aa.Readings),.blk gt 36 [.slice d6 x93.Starts.length fd,.slice d7 x93.Splits.length ff,.slice d8 x93.Clocks.length fg,.slice d9 x93.Readings.length fh],.row d6 fd 3 1 (hH KL.encI x93.Starts),.row d7 ff 39 2 (hH wAB x93.Splits),.row d8 fg 116 3 (hH wAG x93.Clocks),.row d9 fh 117 4 (hH wAF x93.Readings)] w_) ?_ fun Eh=>?_
 rintro Gz Fd ⟨pJ,gq,dY,e8,dZ,e9,d4,fb,d5,fc,gt,d6,fd,d7,ff,d8,fg,d9,fh,qT,qU,qV,qW,qX,Fu,Fv,Fw,Fx,Em,CH⟩
 refine zh ?_
 cases C7
 exact zG ⟨Z,⟨pJ,gq,dY,e8,dZ,e9,d4,fb,d5,fc,gt,d6,fd,d7,ff,d8,fg,d9,fh,qT,qU,qV,qW,qX,Em,CH⟩⟩
 let B2:List Value:=[.slice none 0 0,.slice none 0 0,.slice none 0 0,.slice none 0 0]
 refine ZS (s:=.fx 7 .nil .stop) (M:=fun σ_ w_=>∃ (U_:PHeap) (eI:Nat) (cG:Option Addr) (cL:Nat) (cH:Option Addr) (cM:Nat) (cI:Option Addr) (cN:Nat) (cJ:Option Addr) (cO:Nat) (eJ:Nat) (cX:Option Addr) (dz:Nat) (cY:Option Addr) (dA:Nat) (cZ:Option Addr) (dB:Nat) (da:Option Addr) (dC:Nat),σ_ 2=.bool p2/\σ_ 3=.pointer (some ⟨b2,0,none⟩)/\σ_ 4=.pointer (some ⟨b6,0,none⟩)/\σ_ 7=.pointer (some ⟨eI,0,none⟩)/\σ_ 8=.pointer (some ⟨eJ,0,none⟩)/\σ_ 25=.agg B0.toArray/\σ_ 26=.agg #[.slice cG aa.Starts.length cL,.slice cH aa.Splits.length cM,.slice cI aa.Clocks.length cN,.slice cJ aa.Readings.length cO]/\σ_ 27=.agg B0.toArray/\σ_ 28=.agg #[.slice cX x93.Starts.length dz,.slice cY x93.Splits.length dA,.slice cZ x93.Clocks.length dB,.slice da x93.Readings.length dC]/\PHeap.Le ba U_/\sW w U U_ [.blk b6 29 B1,.blk b2 27 B0,.blk eI 27 [.slice cG aa.Starts.length cL,.slice cH aa.Splits.length cM,.slice cI aa.Clocks.length cN,.slice cJ aa.Readings.length cO],.row cG cL 3 1 (hH KL.encI aa.Starts),.row cH cM 39 2 (hH wAB aa.Splits),.row cI cN 112 3 (hH wAD aa.Clocks),.row cJ cO 115 4 (hH wAC aa.Readings),.blk eJ 36 B2,.row cX dz 3 1 (hH KL.encI x93.Starts),.row cY dA 39 2 (hH wAB x93.Splits),.row cZ dB 116 3 (hH wAG x93.Clocks),.row da dC 117 4 (hH wAF x93.Readings)] w_) ?_ fun Ei=>?_
 rintro GA Ff ⟨lE,eI,cG,cL,cH,cM,cI,cN,cJ,cO,eJ,cX,dz,cY,dA,cZ,dB,da,dC,qY,qZ,rc,re,mJ,ri,rj,rk,mK,En,CI⟩
 let B3:List Value:=[.slice cX x93.Starts.length dz,.slice cY x93.Splits.length dA,.slice cZ x93.Clocks.length dB,.slice da x93.Readings.length dC]
 refine zm (j:=7) (vs:=B3) Z Z Z Z CI Z mJ mK Z ZN (zA Z) Z Z Z ?_
 intro qa CJ
 have CL:sW w U lE [.blk b6 29 B1,.blk b2 27 B0,.blk eI 27 [.slice cG aa.Starts.length cL,.slice cH aa.Splits.length cM,.slice cI aa.Clocks.length cN,.slice cJ aa.Readings.length cO],.row cG cL 3 1 (hH KL.encI aa.Starts),.row cH cM 39 2 (hH wAB aa.Splits),.row cI cN 112 3 (hH wAD aa.Clocks),.row cJ cO 115 4 (hH wAC aa.Readings),.blk eJ 36 B3,.row cX dz 3 1 (hH KL.encI x93.Starts),.row cY dA 39 2 (hH wAB x93.Splits),.row cZ dB 116 3 (hH wAG x93.Clocks),.row da dC 117 4 (hH wAF x93.Readings)] qa:=CJ
 exact Eh _ _ ⟨lE,eI,cG,cL,cH,cM,cI,cN,cJ,cO,eJ,cX,dz,cY,dA,cZ,dB,da,dC,qY,qZ,rc,re,mJ,ri,rj,rk,mK,En,CL⟩
 refine ZS (s:=gDh) (M:=fun σ_ w_=>∃ (U_:PHeap) (eK:Nat) (eL:Nat) (db:Option Addr) (dD:Nat) (de:Option Addr) (dE:Nat) (df:Option Addr) (dF:Nat) (dg:Option Addr) (dG:Nat) (ef:Option Addr) (fj:Nat) (eg:Option Addr) (fm:Nat) (eh:Option Addr) (fq:Nat) (ej:Option Addr) (ft:Nat),σ_ 2=.bool p2/\σ_ 3=.pointer (some ⟨b2,0,none⟩)/\σ_ 4=.pointer (some ⟨b6,0,none⟩)/\σ_ 7=.pointer (some ⟨eK,0,none⟩)/\σ_ 8=.pointer (some ⟨eL,0,none⟩)/\σ_ 25=.agg B0.toArray/\σ_ 26=.agg #[.slice db aa.Starts.length dD,.slice de aa.Splits.length dE,.slice df aa.Clocks.length dF,.slice dg aa.Readings.length dG]/\σ_ 27=.agg B0.toArray/\σ_ 28=.agg #[.slice ef x93.Starts.length fj,.slice eg x93.Splits.length fm,.slice eh x93.Clocks.length fq,.slice ej x93.Readings.length ft]/\PHeap.Le ba U_/\sW w U U_ [.blk b6 29 B1,.blk b2 27 B0,.blk eK 27 B2,.blk eL 36 B2,.row db dD 3 1 (hH KL.encI aa.Starts),.row de dE 39 2 (hH wAB aa.Splits),.row df dF 112 3 (hH wAD aa.Clocks),.row dg dG 115 4 (hH wAC aa.Readings),.row ef fj 3 1 (hH KL.encI x93.Starts),.row eg fm 39 2 (hH wAB x93.Splits),.row eh fq 116 3 (hH wAG x93.Clocks),.row ej ft 117 4 (hH wAF x93.Readings)] w_) ?_ fun jv=>?_
 rintro GB Fg ⟨lF,eK,eL,db,dD,de,dE,df,dF,dg,dG,ef,fj,eg,fm,eh,fq,ej,ft,rn,ro,rp,mL,rq,rx,mM,ry,rA,Eo,CM⟩
 let B4:List Value:=[.slice db aa.Starts.length dD,.slice de aa.Splits.length dE,.slice df aa.Clocks.length dF,.slice dg aa.Readings.length dG]
 refine zm (j:=2) (vs:=B4) Z Z Z Z CM Z mL mM Z zo (zA Z) Z Z Z ?_
 intro qb CN
 have CO:sW w U lF [.blk b6 29 B1,.blk b2 27 B0,.blk eK 27 B4,.blk eL 36 B2,.row db dD 3 1 (hH KL.encI aa.Starts),.row de dE 39 2 (hH wAB aa.Splits),.row df dF 112 3 (hH wAD aa.Clocks),.row dg dG 115 4 (hH wAC aa.Readings),.row ef fj 3 1 (hH KL.encI x93.Starts),.row eg fm 39 2 (hH wAB x93.Splits),.row eh fq 116 3 (hH wAG x93.Clocks),.row ej ft 117 4 (hH wAF x93.Readings)] qb:=CN
 exact Ei _ _ ⟨lF,eK,db,dD,de,dE,df,dF,dg,dG,eL,ef,fj,eg,fm,eh,fq,ej,ft,rn,ro,rp,mL,rq,rx,mM,ry,rA,Eo,(CO.pick [0,1,2,4,5,6,7,3,8,9,10,11] _ (by decide) rfl)⟩
 refine ZS (s:=gDo) (M:=fun σ_ w_=>∃ (U_:PHeap) (eM:Nat) (eO:Nat) (en:Option Addr) (fu:Nat) (eu:Option Addr) (fw:Nat) (ey:Option Addr) (fy:Nat) (eA:Option Addr) (fz:Nat),σ_ 2=.bool p2/\σ_ 3=.pointer (some ⟨b2,0,none⟩)/\σ_ 4=.pointer (some ⟨b6,0,none⟩)/\σ_ 7=.pointer (some ⟨eM,0,none⟩)/\σ_ 8=.pointer (some ⟨eO,0,none⟩)/\σ_ 25=.agg B0.toArray/\σ_ 26=.agg #[.slice en aa.Starts.length fu,.slice eu aa.Splits.length fw,.slice ey aa.Clocks.length fy,.slice eA aa.Readings.length fz]/\σ_ 27=.agg B0.toArray/\PHeap.Le ba U_/\sW w U U_ [.blk b6 29 B1,.blk b2 27 B0,.blk eM 27 B2,.blk eO 36 B2,.row en fu 3 1 (hH KL.encI aa.Starts),.row eu fw 39 2 (hH wAB aa.Splits),.row ey fy 112 3 (hH wAD aa.Clocks),.row eA fz 115 4 (hH wAC aa.Readings)] w_) ?_ fun jw=>?_
 rintro GC qc ⟨pK,eM,eO,en,fu,eu,fw,ey,fy,eA,fz,rC,rD,rE,rF,rG,rH,rI,mN,fE,CP⟩
 have AN:=cp.le aq
 have AP:=AN.le fE
 have AQ:=cq.le aq
 have AS:=AQ.le fE
 have AT:=cr.le aq
 have AU:=AT.le fE
 have AW:=ct.le aq
 have AX:=AW.le fE
 refine zK 0 Z Z Z Z (zL Z Z Tryz.call11 (zD mN zQ) Z) CP (fun hs=>wCL p0 be bi bf bj bg bk bh bm qc pK hs AP AS AU AX ic) (.inr Z) ?_
 rintro lG E1 Ga qd Ep CQ ⟨jN,mc,jO,md,jP,me,jQ,mf,rfl,rfl⟩
 have CR:sW w U lG [.row jN mc 3 1 (hH KL.encI x93.Starts),.row jO md 39 2 (hH wAB x93.Splits),.row jP me 116 3 (hH wAG x93.Clocks),.row jQ mf 117 4 (hH wAF x93.Readings),.blk b6 29 B1,.blk b2 27 B0,.blk eM 27 B2,.blk eO 36 B2,.row en fu 3 1 (hH KL.encI aa.Starts),.row eu fw 39 2 (hH wAB aa.Splits),.row ey fy 112 3 (hH wAD aa.Clocks),.row eA fz 115 4 (hH wAC aa.Readings)] qd:=CQ
 exact jv _ _ ⟨lG,eM,eO,en,fu,eu,fw,ey,fy,eA,fz,jN,mc,jO,md,jP,me,jQ,mf,rC,rD,rE,rF,rG,rH,rI,mN,rfl,(fE.trans Ep),(CR.pick [4,5,6,7,8,9,10,11,0,1,2,3] _ (by decide) rfl)⟩
 refine ZS (s:=gDn) (M:=fun σ_ w_=>∃ (U_:PHeap) (gu:Nat) (fM:Option Addr) (gz:Nat) (fN:Option Addr) (gA:Nat) (fO:Option Addr) (gB:Nat) (fP:Option Addr) (gC:Nat) (fQ:Option Addr) (gD:Nat) (fR:Option Addr) (gF:Nat) (fS:Option Addr) (gG:Nat) (fT:Option Addr) (gH:Nat),σ_ 2=.bool p2/\σ_ 3=.pointer (some ⟨b2,0,none⟩)/\σ_ 4=.pointer (some ⟨b6,0,none⟩)/\σ_ 8=.pointer (some ⟨gu,0,none⟩)/\σ_ 25=.agg B0.toArray/\σ_ 26=.agg #[.slice fM aa.Starts.length gz,.slice fN aa.Splits.length gA,.slice fO aa.Clocks.length gB,.slice fP aa.Readings.length gC]/\σ_ 27=.agg B0.toArray/\σ_ 28=.agg #[.slice fQ x93.Starts.length gD,.slice fR x93.Splits.length gF,.slice fS x93.Clocks.length gG,.slice fT x93.Readings.length gH]/\PHeap.Le ba U_/\sW w U U_ [.blk b6 29 B1,.blk b2 27 B0,.blk gu 36 B2,.row fM gz 3 1 (hH KL.encI aa.Starts),.row fN gA 39 2 (hH wAB aa.Splits),.row fO gB 112 3 (hH wAD aa.Clocks),.row fP gC 115 4 (hH wAC aa.Readings),.row fQ gD 3 1 (hH KL.encI x93.Starts),.row fR gF 39 2 (hH wAB x93.Splits),.row fS gG 116 3 (hH wAG x93.Clocks),.row fT gH 117 4 (hH wAF x93.Readings)] w_) ?_ fun o5=>?_
 rintro GD Fh ⟨pL,gu,fM,gz,fN,gA,fO,gB,fP,gC,fQ,gD,fR,gF,fS,gG,fT,gH,rJ,rK,rL,rM,rN,rO,rP,rQ,Er,CT⟩
 refine ze (cs:=B2) Z Z Z Z Z yS Z CT ?_
 intro Fi qt CU
 exact jv _ _ ⟨pL,qt,gu,fM,gz,fN,gA,fO,gB,fP,gC,fQ,gD,fR,gF,fS,gG,fT,gH,rJ,rK,rL,rfl,rM,rN,rO,rP,rQ,Er,(CU.pick [1,2,0,3,4,5,6,7,8,9,10,11] _ (by decide) rfl)⟩
 refine ZS (s:=gDm) (M:=fun σ_ w_=>∃ (U_:PHeap) (gv:Nat) (fU:Option Addr) (gI:Nat) (fV:Option Addr) (gJ:Nat) (fW:Option Addr) (gK:Nat) (fY:Option Addr) (gL:Nat) (fZ:Option Addr) (gM:Nat) (ga:Option Addr) (gN:Nat) (gb:Option Addr) (gO:Nat) (ge:Option Addr) (gP:Nat),σ_ 2=.bool p2/\σ_ 3=.pointer (some ⟨b2,0,none⟩)/\σ_ 4=.pointer (some ⟨b6,0,none⟩)/\σ_ 7=.pointer (some ⟨gv,0,none⟩)/\σ_ 25=.agg B0.toArray/\σ_ 26=.agg #[.slice fU aa.Starts.length gI,.slice fV aa.Splits.length gJ,.slice fW aa.Clocks.length gK,.slice fY aa.Readings.length gL]/\σ_ 27=.agg B0.toArray/\σ_ 28=.agg #[.slice fZ x93.Starts.length gM,.slice ga x93.Splits.length gN,.slice gb x93.Clocks.length gO,.slice ge x93.Readings.length gP]/\PHeap.Le ba U_/\sW w U U_ [.blk b6 29 B1,.blk b2 27 B0,.blk gv 27 B2,.row fU gI 3 1 (hH KL.encI aa.Starts),.row fV gJ 39 2 (hH wAB aa.Splits),.row fW gK 112 3 (hH wAD aa.Clocks),.row fY gL 115 4 (hH wAC aa.Readings),.row fZ gM 3 1 (hH KL.encI x93.Starts),.row ga gN 39 2 (hH wAB x93.Splits),.row gb gO 116 3 (hH wAG x93.Clocks),.row ge gP 117 4 (hH wAF x93.Readings)] w_) ?_ fun o6=>?_
 rintro GE Fj ⟨pM,gv,fU,gI,fV,gJ,fW,gK,fY,gL,fZ,gM,ga,gN,gb,gO,ge,gP,rS,rT,rV,rW,rX,rY,rZ,r0,Es,CV⟩
 refine ze (cs:=B2) Z Z Z Z Z Zt Z CV ?_
 intro Fk qu CW
 exact jv _ _ ⟨pM,gv,qu,fU,gI,fV,gJ,fW,gK,fY,gL,fZ,gM,ga,gN,gb,gO,ge,gP,rS,rT,rV,rW,rfl,rX,rY,rZ,r0,Es,(CW.pick [1,2,3,0,4,5,6,7,8,9,10,11] _ (by decide) rfl)⟩
 refine ZS (s:=gDq) (M:=fun σ_ w_=>∃ (U_:PHeap) (eQ:Nat) (eR:Nat),σ_ 2=.bool p2/\σ_ 3=.pointer (some ⟨b2,0,none⟩)/\σ_ 4=.pointer (some ⟨b6,0,none⟩)/\σ_ 7=.pointer (some ⟨eQ,0,none⟩)/\σ_ 8=.pointer (some ⟨eR,0,none⟩)/\σ_ 25=.agg B0.toArray/\σ_ 27=.agg B0.toArray/\PHeap.Le ba U_/\sW w U U_ [.blk b6 29 B1,.blk b2 27 B0,.blk eQ 27 B2,.blk eR 36 B2] w_) ?_ fun o7=>?_
 rintro GF qe ⟨pN,eQ,eR,r6,r7,r8,r9,sb,mO,sc,fG,CX⟩
 have AY:=cp.le aq
 have AZ:=AY.le fG
 have A3:=cq.le aq
 have A4:=A3.le fG
 have A5:=cr.le aq
 have A6:=A5.le fG
 have A8:=ct.le aq
 have A9:=A8.le fG
 refine zK 0 Z Z Z Z (zL Z Z Tryz.call10 (zD mO zQ) Z) CX (fun hs=>wCV p0 be bi bf bj bg bk bh bm qe pN hs AZ A4 A6 A9 ib) (.inr Z) ?_
 rintro lH E2 Gb qf Et CY ⟨jR,mg,jS,mh,jU,mi,jW,mj,rfl,rfl⟩
 have CZ:sW w U lH [.row jR mg 3 1 (hH KL.encI aa.Starts),.row jS mh 39 2 (hH wAB aa.Splits),.row jU mi 112 3 (hH wAD aa.Clocks),.row jW mj 115 4 (hH wAC aa.Readings),.blk b6 29 B1,.blk b2 27 B0,.blk eQ 27 B2,.blk eR 36 B2] qf:=CY
 exact jw _ _ ⟨lH,eQ,eR,jR,mg,jS,mh,jU,mi,jW,mj,r6,r7,r8,r9,sb,mO,rfl,sc,(fG.trans Et),(CZ.pick [4,5,6,7,0,1,2,3] _ (by decide) rfl)⟩
 refine ZS (s:=gDu) (M:=fun σ_ w_=>∃ (U_:PHeap) (dt:Nat) (dh:Option Addr) (dH:Nat) (dk:Option Addr) (dI:Nat) (dl:Option Addr) (dJ:Nat) (dm:Option Addr) (dK:Nat),σ_ 2=.bool p2/\σ_ 3=.pointer (some ⟨b2,0,none⟩)/\σ_ 4=.pointer (some ⟨b6,0,none⟩)/\σ_ 8=.pointer (some ⟨dt,0,none⟩)/\σ_ 25=.agg B0.toArray/\σ_ 26=.agg #[.slice dh aa.Starts.length dH,.slice dk aa.Splits.length dI,.slice dl aa.Clocks.length dJ,.slice dm aa.Readings.length dK]/\σ_ 27=.agg B0.toArray/\PHeap.Le ba U_/\sW w U U_ [.blk b6 29 B1,.blk b2 27 B0,.blk dt 36 B2,.row dh dH 3 1 (hH KL.encI aa.Starts),.row dk dI 39 2 (hH wAB aa.Splits),.row dl dJ 112 3 (hH wAD aa.Clocks),.row dm dK 115 4 (hH wAC aa.Readings)] w_) ?_ fun o8=>?_
 rintro GG qh ⟨lI,dt,dh,dH,dk,dI,dl,dJ,dm,dK,mP,mQ,mR,mS,mT,mU,je,dS,oG⟩
 refine zw ?_ ?_
 have Ba:=cp.le aq
 have Bb:=Ba.le dS
 have Bc:=cq.le aq
 have Bd:=Bc.le dS
 have Be:=cr.le aq
 have Bf:=Be.le dS
 have Bg:=ct.le aq
 have Bh:=Bg.le dS
 refine zK 0 Z Z Z Z (zL Z Z Tryz.call11 (zD je zQ) Z) oG (fun hs=>wCL p0 be bi bf bj bg bk bh bm qh lI hs Bb Bd Bf Bh ic) (.inr Z) ?_
 rintro lJ E3 Gc qi Eu C0 ⟨jX,ml,jY,mn,jZ,mo,j0,mp,rfl,rfl⟩
 have C1:sW w U lJ [.row jX ml 3 1 (hH KL.encI x93.Starts),.row jY mn 39 2 (hH wAB x93.Splits),.row jZ mo 116 3 (hH wAG x93.Clocks),.row j0 mp 117 4 (hH wAF x93.Readings),.blk b6 29 B1,.blk b2 27 B0,.blk dt 36 B2,.row dh dH 3 1 (hH KL.encI aa.Starts),.row dk dI 39 2 (hH wAB aa.Splits),.row dl dJ 112 3 (hH wAD aa.Clocks),.row dm dK 115 4 (hH wAC aa.Readings)] qi:=C0
 exact o5 _ _ ⟨lJ,dt,dh,dH,dk,dI,dl,dJ,dm,dK,jX,ml,jY,mn,jZ,mo,j0,mp,mP,mQ,mR,mS,mT,mU,je,rfl,(dS.trans Eu),(C1.pick [4,5,6,7,8,9,10,0,1,2,3] _ (by decide) rfl)⟩
 refine ze (cs:=B2) Z Z Z Z Z yS Z oG ?_
 intro Fm qv C2
 exact jw _ _ ⟨lI,qv,dt,dh,dH,dk,dI,dl,dJ,dm,dK,mP,mQ,mR,rfl,mS,mT,mU,je,dS,(C2.pick [1,2,0,3,4,5,6,7] _ (by decide) rfl)⟩
 refine ZS (s:=gDt) (M:=fun σ_ w_=>∃ (U_:PHeap) (dr:Nat) (cR:Option Addr) (du:Nat) (cS:Option Addr) (dv:Nat) (cU:Option Addr) (dw:Nat) (cV:Option Addr) (dx:Nat),σ_ 2=.bool p2/\σ_ 3=.pointer (some ⟨b2,0,none⟩)/\σ_ 4=.pointer (some ⟨b6,0,none⟩)/\σ_ 7=.pointer (some ⟨dr,0,none⟩)/\σ_ 25=.agg B0.toArray/\σ_ 26=.agg #[.slice cR aa.Starts.length du,.slice cS aa.Splits.length dv,.slice cU aa.Clocks.length dw,.slice cV aa.Readings.length dx]/\σ_ 27=.agg B0.toArray/\PHeap.Le ba U_/\sW w U U_ [.blk b6 29 B1,.blk b2 27 B0,.blk dr 27 B2,.row cR du 3 1 (hH KL.encI aa.Starts),.row cS dv 39 2 (hH wAB aa.Splits),.row cU dw 112 3 (hH wAD aa.Clocks),.row cV dx 115 4 (hH wAC aa.Readings)] w_) ?_ fun o3=>?_
 rintro Gu pO ⟨lg,dr,cR,du,cS,dv,cU,dw,cV,dx,mq,mr,ms,mu,mw,my,iW,dQ,oi⟩
 refine zw ?_ ?_
 have sf:=cp.le aq
 have sg:=sf.le dQ
 have sh:=cq.le aq
 have sj:=sh.le dQ
 have sk:=cr.le aq
 have sm:=sk.le dQ
 have sn:=ct.le aq
 have so:=sn.le dQ
 refine zK 0 Z Z Z Z (zL Z Z Tryz.call11 (zD iW zQ) Z) oi (fun hs=>wCL p0 be bi bf bj bg bk bh bm pO lg hs sg sj sm so ic) (.inr Z) ?_
 rintro lh ED FK pP Ej Bp ⟨jz,lT,jA,lU,jB,lV,jC,lW,rfl,rfl⟩
 have Bq:sW w U lh [.row jz lT 3 1 (hH KL.encI x93.Starts),.row jA lU 39 2 (hH wAB x93.Splits),.row jB lV 116 3 (hH wAG x93.Clocks),.row jC lW 117 4 (hH wAF x93.Readings),.blk b6 29 B1,.blk b2 27 B0,.blk dr 27 B2,.row cR du 3 1 (hH KL.encI aa.Starts),.row cS dv 39 2 (hH wAB aa.Splits),.row cU dw 112 3 (hH wAD aa.Clocks),.row cV dx 115 4 (hH wAC aa.Readings)] pP:=Bp
 exact o6 _ _ ⟨lh,dr,cR,du,cS,dv,cU,dw,cV,dx,jz,lT,jA,lU,jB,lV,jC,lW,mq,mr,ms,mu,mw,my,iW,rfl,(dQ.trans Ej),(Bq.pick [4,5,6,7,8,9,10,0,1,2,3] _ (by decide) rfl)⟩
 refine ze (cs:=B2) Z Z Z Z Z Zt Z oi ?_
 intro E6 qj Br
 exact jw _ _ ⟨lg,dr,qj,cR,du,cS,dv,cU,dw,cV,dx,mq,mr,ms,mu,rfl,mw,my,iW,dQ,(Br.pick [1,2,3,0,4,5,6,7] _ (by decide) rfl)⟩
 refine oL Z (dM.ldBA (j:=1) Z Z Z ZB zo (vs:=B0) Z Z) (oL Z (dM.ldBA (j:=1) Z Z Z ZB zo (vs:=B0) Z Z) (zw ?_ ?_))
 have mV:=cp.le aq
 have mW:=cq.le aq
 have mX:=cr.le aq
 have mY:=ct.le aq
 refine zK 0 Z Z Z Z (zL Z Z Tryz.call10 (zD Z zQ) Z) dM (fun hs=>wCV p0 be bi bf bj bg bk bh bm pV ba hs mV mW mX mY ib) (.inr Z) ?_
 rintro gg EE FL lK cA Bs ⟨dU,eS,dV,eU,dW,eV,dX,eW,rfl,rfl⟩
 let B5:Res:=.row dX eW 115 4 (hH wAC aa.Readings)
 let B6:Res:=.row dW eV 112 3 (hH wAD aa.Clocks)
 let B7:Res:=.row dV eU 39 2 (hH wAB aa.Splits)
 let B8:Res:=.row dU eS 3 1 (hH KL.encI aa.Starts)
 have jj:sW w U gg [B8,B7,B6,B5,.blk b6 29 B1,.blk b2 27 B0] lK:=Bs
 refine zw ?_ ?_
 have sq:=mV.le cA
 have ss:=mW.le cA
 have su:=mX.le cA
 have sv:=mY.le cA
 refine zK 0 Z Z Z Z (zL Z Z Tryz.call11 (zD Z zQ) Z) jj (fun hs=>wCL p0 be bi bf bj bg bk bh bm lK gg hs sq ss su sv ic) (.inr Z) ?_
 rintro iw EF FM pQ o9 Bt ⟨im,iJ,io,iK,ip,iL,iq,iM,rfl,rfl⟩
 have oj:sW w U iw [.row im iJ 3 1 (hH KL.encI x93.Starts),.row io iK 39 2 (hH wAB x93.Splits),.row ip iL 116 3 (hH wAG x93.Clocks),.row iq iM 117 4 (hH wAF x93.Readings),B8,B7,B6,B5,.blk b6 29 B1,.blk b2 27 B0] pQ:=Bt
 refine zw ?_ ?_
 refine ze (cs:=B2) Z Z Z Z Z yS Z oj ?_
 intro E7 qk Bu
 exact o6 _ _ ⟨iw,qk,dU,eS,dV,eU,dW,eV,dX,eW,im,iJ,io,iK,ip,iL,iq,iM,rfl,rfl,rfl,rfl,rfl,rfl,rfl,rfl,(cA.trans o9),(Bu.pick [9,10,0,5,6,7,8,1,2,3,4] _ (by decide) rfl)⟩
 refine ze (cs:=B2) Z Z Z Z Z Zt Z oj ?_
 intro E8 qm Bv
 exact o5 _ _ ⟨iw,qm,dU,eS,dV,eU,dW,eV,dX,eW,im,iJ,io,iK,ip,iL,iq,iM,rfl,rfl,rfl,rfl,rfl,rfl,rfl,rfl,(cA.trans o9),(Bv.pick [9,10,0,5,6,7,8,1,2,3,4] _ (by decide) rfl)⟩
 refine zw ?_ ?_
 refine ze (cs:=B2) Z Z Z Z Z yS Z jj ?_
 intro E9 qn Bw
 exact o3 _ _ ⟨gg,qn,dU,eS,dV,eU,dW,eV,dX,eW,rfl,rfl,rfl,rfl,rfl,rfl,rfl,cA,(Bw.pick [5,6,0,1,2,3,4] _ (by decide) rfl)⟩
 refine ze (cs:=B2) Z Z Z Z Z Zt Z jj ?_
 intro Fa qo Bx
 exact o8 _ _ ⟨gg,qo,dU,eS,dV,eU,dW,eV,dX,eW,rfl,rfl,rfl,rfl,rfl,rfl,rfl,cA,(Bx.pick [5,6,0,1,2,3,4] _ (by decide) rfl)⟩
 refine zw ?_ ?_
 refine ze (cs:=B2) Z Z Z Z Z yS Z dM ?_
 intro pR iH om
 refine zw ?_ ?_
 have sw:=cp.le aq
 have sA:=cq.le aq
 have sB:=cr.le aq
 have sC:=ct.le aq
 refine zK 0 Z Z Z Z (zL Z Z Tryz.call10 (zD Z zQ) Z) om (fun hs=>wCV p0 be bi bf bj bg bk bh bm pR ba hs sw sA sB sC ib) (.inr Z) ?_
 rintro li EG FN pS Ek By ⟨jD,lX,jE,lY,jG,lZ,jH,l4,rfl,rfl⟩
 have Bz:sW w U li [.row jD lX 3 1 (hH KL.encI aa.Starts),.row jE lY 39 2 (hH wAB aa.Splits),.row jG lZ 112 3 (hH wAD aa.Clocks),.row jH l4 115 4 (hH wAC aa.Readings),.blk iH 27 B2,.blk b6 29 B1,.blk b2 27 B0] pS:=By
 exact o3 _ _ ⟨li,iH,jD,lX,jE,lY,jG,lZ,jH,l4,rfl,rfl,rfl,rfl,rfl,rfl,rfl,Ek,(Bz.pick [5,6,4,0,1,2,3] _ (by decide) rfl)⟩
 refine ze (cs:=B2) Z Z Z Z Z Zt Z om ?_
 intro Fb qp BA
 exact o7 _ _ ⟨ba,iH,qp,rfl,rfl,rfl,rfl,rfl,rfl,rfl,(zM _),(BA.pick [2,3,1,0] _ (by decide) rfl)⟩
 refine ze (cs:=B2) Z Z Z Z Z Zt Z dM ?_
 intro pT iI oq
 refine zw ?_ ?_
 have sD:=cp.le aq
 have sE:=cq.le aq
 have sF:=cr.le aq
 have sG:=ct.le aq
 refine zK 0 Z Z Z Z (zL Z Z Tryz.call10 (zD Z zQ) Z) oq (fun hs=>wCV p0 be bi bf bj bg bk bh bm pT ba hs sD sE sF sG ib) (.inr Z) ?_
 rintro lj EH FO pU El BB ⟨jJ,l5,jK,l6,jL,l7,jM,l8,rfl,rfl⟩
 have BC:sW w U lj [.row jJ l5 3 1 (hH KL.encI aa.Starts),.row jK l6 39 2 (hH wAB aa.Splits),.row jL l7 112 3 (hH wAD aa.Clocks),.row jM l8 115 4 (hH wAC aa.Readings),.blk iI 36 B2,.blk b6 29 B1,.blk b2 27 B0] pU:=BB
 exact o8 _ _ ⟨lj,iI,jJ,l5,jK,l6,jL,l7,jM,l8,rfl,rfl,rfl,rfl,rfl,rfl,rfl,El,(BC.pick [5,6,4,0,1,2,3] _ (by decide) rfl)⟩
 refine ze (cs:=B2) Z Z Z Z Z yS Z oq ?_
 intro Fc qq BD
 exact o7 _ _ ⟨ba,qq,iI,rfl,rfl,rfl,rfl,rfl,rfl,rfl,(zM _),(BD.pick [2,3,0,1] _ (by decide) rfl)⟩
 rintro Gw eG ⟨E4,aj,bQ,bR,bE,bL,bF,bM,bG,bN,eH,bY,cg,bZ,cj,b5,cm,cb,cn,qA,qB,fA,iX,iY,ij,jk⟩
 refine sR (wEG (.fx 3 (wLt (.nil)) .stop)) Z ?_
 let B9:List Value:=[.slice bQ bO.length bR,.slice bE bw.length bL,.slice bF bz.length bM,.slice bG bA.length bN]
 refine oL Z (jk.ldBA (j:=2) Z Z iX ZB zo (vs:=B9) Z Z) (oR Z (zE Z fA ZU Z zB) (oL Z (jk.ldB (j:=0) Z Z Z zF (v:=jV p1.Mat) Z) ?_))
 have q:=jk.freezeR (k:=3) (n:=bO.length) rfl (wAI (f:=KL.encI) (sz:=1) (fun _=>rfl) bO) (by decide)
 obtain ⟨pu,ik,DZ,BE⟩:=q
 let au:Res:=.blk eH 36 [.slice bY bS.length cg,.slice bZ bT.length cj,.slice b5 bU.length cm,.slice cb bV.length cn]
 let cx:Res:=.row cb cn 117 4 (hH wAF bV)
 let cK:Res:=.row b5 cm 116 3 (hH wAG bU)
 let dp:Res:=.row bZ cj 39 2 (hH wAB bT)
 let eC:Res:=.row bY cg 3 1 (hH KL.encI bS)
 let it:Res:=.row bG bN 115 4 (hH wAC bA)
 let j5:Res:=.row bF bM 112 3 (hH wAD bz)
 have BF:sW w U pu [.blk b6 29 B1,.blk b2 27 B0,.blk aj 27 B9,.row bE bL 39 2 (hH wAB bw),j5,it,au,eC,dp,cK,cx] eG:=BE
 have q:=BF.freezeR (k:=3) (n:=bw.length) rfl (wAI (f:=wAB) (sz:=2) (fun _=>rfl) bw) (by decide)
 obtain ⟨py,fD,D0,BG⟩:=q
 have BH:sW w U py [.blk b6 29 B1,.blk b2 27 B0,.blk aj 27 B9,j5,it,au,eC,dp,cK,cx] eG:=BG
 have q:=BH.freezeR (k:=3) (n:=bz.length) rfl (wAI (f:=wAD) (sz:=3) (fun _=>rfl) bz) (by decide)
 obtain ⟨pz,dR,D5,BI⟩:=q
 have BJ:sW w U pz [.blk b6 29 B1,.blk b2 27 B0,.blk aj 27 B9,it,au,eC,dp,cK,cx] eG:=BI
 have q:=BJ.freezeR (k:=3) (n:=bA.length) rfl (wAI (f:=wAC) (sz:=4) (fun _=>rfl) bA) (by decide)
 obtain ⟨lm,cP,oY,BK⟩:=q
 have BL:sW w U lm [.blk b6 29 B1,.blk b2 27 B0,.blk aj 27 B9,au,eC,dp,cK,cx] eG:=BK
 have sH:=DZ.le fD
 have sI:=sH.le dR
 have mZ:=sI.le cP
 have sJ:=D0.le dR
 have m4:=sJ.le cP
 have m5:=D5.le cP
 have q:=bnd oX
 obtain ⟨⟨dT,ph⟩,sK,oK⟩:=q
 try dsimp only at oK
 refine zK 0 Z Z Z Z (zL Z Z Tryz.call40 (zD Z (zD Z zQ)) Z) BL (fun hs=>wJp (⟨bO,bw,bz,bA⟩:wAA) bQ bR bE bL bF bM bG bN p1.Mat eG lm hs mZ m4 m5 oY sK) (.inr Z) ?_
 rintro pB EJ FP dq cC BM ⟨fJ,gw,rfl,rfl⟩
 let cd:Res:=.row fJ gw 39 2 (hH wAB dT)
 have jl:sW w U pB [cd,.blk b6 29 B1,.blk b2 27 B0,.blk aj 27 B9,au,eC,dp,cK,cx] dq:=BM
 refine oM Z Z (oR Z (zu Z Z (v:=.slice fJ dT.length gw) Z) (oR Z (zu Z Z (v:=jV ph) Z) (oA Z Z (oA Z Z (eN (sR (wEG (.fx 3 (wLt (.nil)) .stop)) Z ?_))))))
 let iu:List Value:=[.slice bY bS.length cg,.slice bZ bT.length cj,.slice b5 bU.length cm,.slice cb bV.length cn]
 refine oL Z (jl.ldBA (j:=4) Z Z iY ZY ZN (vs:=iu) Z Z) (oR Z (zE Z fA ZU Z zB) (oL Z (jl.ldB (j:=1) Z Z Z zF (v:=jV p1.Mat) Z) ?_))
 have q:=jl.freezeR (k:=5) (n:=bS.length) rfl (wAI (f:=KL.encI) (sz:=1) (fun _=>rfl) bS) (by decide)
 obtain ⟨pC,cD,D6,BN⟩:=q
 have BO:sW w U pC [cd,.blk b6 29 B1,.blk b2 27 B0,.blk aj 27 B9,au,dp,cK,cx] dq:=BN
 have q:=BO.freezeR (k:=5) (n:=bT.length) rfl (wAI (f:=wAB) (sz:=2) (fun _=>rfl) bT) (by decide)
 obtain ⟨pD,cu,D7,BP⟩:=q
 have BQ:sW w U pD [cd,.blk b6 29 B1,.blk b2 27 B0,.blk aj 27 B9,au,cK,cx] dq:=BP
 have q:=BQ.freezeR (k:=5) (n:=bU.length) rfl (wAI (f:=wAG) (sz:=3) (fun _=>rfl) bU) (by decide)
 obtain ⟨pE,bW,D8,BR⟩:=q
 have BS:sW w U pE [cd,.blk b6 29 B1,.blk b2 27 B0,.blk aj 27 B9,au,cx] dq:=BR
 have q:=BS.freezeR (k:=5) (n:=bV.length) rfl (wAI (f:=wAF) (sz:=4) (fun _=>rfl) bV) (by decide)
 obtain ⟨ln,bP,o0,BT⟩:=q
 have BU:sW w U ln [cd,.blk b6 29 B1,.blk b2 27 B0,.blk aj 27 B9,au] dq:=BT
 have sL:=D6.le cu
 have sM:=sL.le bW
 have m6:=sM.le bP
 have sN:=D7.le bW
 have m7:=sN.le bP
 have m8:=D8.le bP
 have q:=bnd oK
 obtain ⟨⟨cE,pj⟩,sP,oO⟩:=q
 try dsimp only at oO
 refine zK 0 Z Z Z Z (zL Z Z Tryz.call41 (zD Z (zD Z zQ)) Z) BU (fun hs=>wFV (⟨bS,bT,bU,bV⟩:wAK) bY cg bZ cj b5 cm cb cn p1.Mat dq ln hs m6 m7 m8 o0 sP) (.inr Z) ?_
 rintro lp EK FQ lL bB BV ⟨cW,dy,rfl,rfl⟩
 let eD:Res:=.row cW dy 39 2 (hH wAB cE)
 have jm:sW w U lp [eD,cd,.blk b6 29 B1,.blk b2 27 B0,.blk aj 27 B9,au] lL:=BV
 refine oM Z Z (oR Z (zu Z Z (v:=.slice cW cE.length dy) Z) (oR Z (zu Z Z (v:=jV pj) Z) (oA Z Z (oA Z Z (eN (sR (wEG (.fx 3 (wLt (.nil)) .stop)) Z (oL Z (jm.ldBA (j:=4) Z Z iX ZB zo (vs:=B9) Z Z) (oR Z (zE Z fA ZU Z zB) (oL Z (jm.ldB (j:=2) Z Z Z zF (v:=jV p1.Mat) Z) ?_)))))))))
 have sQ:=mZ.le cC
 have sS:=sQ.le cD
 have sU:=sS.le cu
 have sV:=sU.le bW
 have sX:=sV.le bP
 have m9:=sX.le bB
 have sY:=m4.le cC
 have sZ:=sY.le cD
 have s5:=sZ.le cu
 have s6:=s5.le bW
 have s7:=s6.le bP
 have n5:=s7.le bB
 have s8:=m5.le cC
 have s9:=s8.le cD
 have tc:=s9.le cu
 have td:=tc.le bW
 have te:=td.le bP
 have n6:=te.le bB
 have tf:=oY.le cC
 have tg:=tf.le cD
 have th:=tg.le cu
 have tj:=th.le bW
 have tl:=tj.le bP
 have n7:=tl.le bB
 have q:=bnd oO
 obtain ⟨⟨il,pk⟩,tm,oP⟩:=q
 try dsimp only at oP
 refine zK 0 Z Z Z Z (zL Z Z Tryz.call42 (zD Z (zD Z zQ)) Z) jm (fun hs=>wKY (⟨bO,bw,bz,bA⟩:wAA) bQ bR bE bL bF bM bG bN p1.Mat lL lp hs m9 n5 n6 n7 tm) (.inr Z) ?_
 rintro pF EL FS iE bC BW ⟨fK,gx,n8,rfl,rfl⟩
 have BX:sW w U pF [.row fK gx 22 1 (hH wDO n8),inn 3 1 KL.encI n8 il,eD,cd,.blk b6 29 B1,.blk b2 27 B0,.blk aj 27 B9,au] iE:=BW
 have q:=St.freezeN (R:=wIM) BX (fun _ _ _ _ h=>⟨_,_,rfl,h⟩) (fun _=>rfl) (by decide) rfl
 obtain ⟨ls,bD,D9,BY⟩:=q
 have jo:sW w U ls [eD,cd,.blk b6 29 B1,.blk b2 27 B0,.blk aj 27 B9,au] iE:=BY
 refine oM Z Z (oR Z (zu Z Z (v:=.slice fK il.length gx) Z) (oR Z (zu Z Z (v:=jV pk) Z) (oA Z Z (oA Z Z (eN (sR (wEG (.fx 3 (wLt (.nil)) .stop)) Z (oL Z (jo.ldBA (j:=5) Z Z iY ZY ZN (vs:=iu) Z Z) (oR Z (zE Z fA ZU Z zB) (oL Z (jo.ldB (j:=2) Z Z Z zF (v:=jV p1.Mat) Z) ?_)))))))))
 have tn:=m6.le bB
 have tp:=tn.le bC
 have n9:=tp.le bD
 have tq:=m7.le bB
 have tr:=tq.le bC
 have oa:=tr.le bD
 have tu:=m8.le bB
 have tv:=tu.le bC
 have oc:=tv.le bD
 have tw:=o0.le bB
 have tz:=tw.le bC
 have od:=tz.le bD
 have q:=bnd oP
 obtain ⟨⟨jy,pm⟩,tA,oU⟩:=q
 try dsimp only at oU
 refine zK 0 Z Z Z Z (zL Z Z Tryz.call43 (zD Z (zD Z zQ)) Z) jo (fun hs=>wEJ (⟨bS,bT,bU,bV⟩:wAK) bY cg bZ cj b5 cm cb cn p1.Mat iE ls hs n9 oa oc od tA) (.inr Z) ?_
 rintro iy EM FT gi bu BZ ⟨fL,gy,qw,rfl,rfl,tB⟩
 let gf:Res:=.row fL gy 22 1 qw
 have jp:sW w U iy [gf,eD,cd,.blk b6 29 B1,.blk b2 27 B0,.blk aj 27 B9,au] gi:=BZ
 refine oM Z Z (oR Z (zu Z Z (v:=.slice fL jy.length gy) Z) (oR Z (zu Z Z (v:=jV pm) Z) (oA Z Z (oA Z Z (eN (zH (zH (yp fun bv bq=>?_))))))))
 have mz:bv 2=.bool p2:=(bq 2).trans qA
 have iZ:bv 3=.pointer (some ⟨b2,0,none⟩):=(bq 3).trans qB
 have gQ:bv 4=.pointer (some ⟨b6,0,none⟩):=(bq 4).trans fA
 have i4:bv 7=.pointer (some ⟨aj,0,none⟩):=(bq 7).trans iX
 have qC:bv 8=.pointer (some ⟨eH,0,none⟩):=(bq 8).trans iY
 have qD:bv 9=.slice fJ dT.length gw:=(bq 9).trans rfl
 have qE:bv 10=jV ph:=(bq 10).trans rfl
 have mA:bv 11=.slice cW cE.length dy:=(bq 11).trans rfl
 have qF:bv 12=jV pj:=(bq 12).trans rfl
 have qG:bv 13=.slice fK il.length gx:=(bq 13).trans rfl
 have qH:bv 14=jV pk:=(bq 14).trans rfl
 have qI:bv 15=.slice fL jy.length gy:=(bq 15).trans rfl
 have qJ:bv 16=jV pm:=(bq 16).trans rfl
 clear bq
 refine rR (wUj (.fx 11 (wTA (.fx 17 (.fl 18 (.fl 19 .nil)) .stop)) .stop)) Z (oM Z qE (oM Z qF (oR Z (Zo Z Z Z) (oM Z Z (ifc oU ?_ ?_)))))
 intro cf C8
 refine zz Z Z Z (zO Z Z (Ze (fun h=>h cf.out))) Z qH (zz Z Z Z (zO Z Z (Ze (fun h=>h cf.out))) Z qJ (zk Z Z Z (zO Z Z (Ze (fun h=>h cf.out))) (fun _=>Zo Z Z Z) (oR Z (zt Z (Ze (fun h=>h cf.out)) Z) (oM Z Z (ifc C8 ?_ ?_)))))
 intro bH C9
 refine zz Z Z Z (zO Z Z (Ze (fun h=>h bH.out))) Z qD (zz Z Z Z (zO Z Z (Ze (fun h=>h bH.out))) Z mA ?_)
 have q:=jp.freezeR (k:=2) (n:=dT.length) rfl (wAI (f:=wAB) (sz:=2) (fun _=>rfl) dT) (by decide)
 obtain ⟨pG,br,Ea,Ca⟩:=q
 have Cb:sW w U pG [gf,eD,.blk b6 29 B1,.blk b2 27 B0,.blk aj 27 B9,au] gi:=Ca
 have q:=Cb.freezeR (k:=1) (n:=cE.length) rfl (wAI (f:=wAB) (sz:=2) (fun _=>rfl) cE) (by decide)
 obtain ⟨lu,bn,jt,Cc⟩:=q
 have Cd:sW w U lu [gf,.blk b6 29 B1,.blk b2 27 B0,.blk aj 27 B9,au] gi:=Cc
 have tC:=Ea.le bn
 refine bnK C9 fun Ge tD Da=>zK 0 Z Z Z (zO Z Z (Ze (fun h=>h bH.out))) (zL Z Z Tryz.call44 (zD Z (zD Z zQ)) Z) Cd (fun hs=>wCy dT fJ gw cE cW dy gi lu hs tC jt tD) (.inr Z) ?_
 rintro lv EN FU iF bb Ce ⟨rfl,rfl⟩
 have ot:sW w U lv [gf,.blk b6 29 B1,.blk b2 27 B0,.blk aj 27 B9,au] iF:=Ce
 refine zk Z Z Z (zO Z Z (Ze (fun h=>h bH.out))) (fun _=>Zf Z Z) (oR Z (zt Z (Ze (fun h=>h bH.out)) Z) (oM Z Z (ifc Da ?_ ?_)))
 intro bI Db
 refine zz Z Z Z (zO Z Z (nC bI.out)) Z qG (zz Z Z Z (zO Z Z (nC bI.out)) Z qI ?_)
 have tE:=tB.le br
 have tF:=tE.le bn
 have tG:=tF.le bb
 have q:=ot.freezeRR (R:=wIM) (k:=0) rfl tG rfl (by decide)
 obtain ⟨lw,bo,Eb,Cf⟩:=q
 have Cg:sW w U lw [.blk b6 29 B1,.blk b2 27 B0,.blk aj 27 B9,au] iF:=Cf
 have tH:=D9.le bu
 have tI:=tH.le br
 have tJ:=tI.le bn
 have tK:=tJ.le bb
 have tL:=tK.le bo
 refine bnK Db fun Gf tM Dc=>zK 0 Z Z Z (zO Z Z (nC bI.out)) (zL Z Z Tryz.call39 (zD Z (zD Z zQ)) Z) Cg (fun hs=>wEk il fK gx jy fL gy iF lw hs tL Eb tM) (.inr Z) ?_
 rintro iz EO FV lM bs Ch ⟨rfl,rfl⟩
 have ie:sW w U iz [.blk b6 29 B1,.blk b2 27 B0,.blk aj 27 B9,au] lM:=Ch
 refine zk Z Z Z (zO Z Z (nC bI.out)) (fun _=>Zf Z Z) (oR Z (zt Z (nC bI.out) Z) (eN (ifc Dc ?_ ?_)))
 intro iN Dd
 refine zx (nC iN.out) (kN (sR (wEG (.fx 3 (wUt (.nil)) .stop)) Z (oL Z (ie.ldBA (j:=2) Z Z i4 ZB zo (vs:=B9) Z Z) (oL Z (ie.ldBA (j:=0) Z Z gQ yq yK (vs:=B1) Z Z) (oM Z mz ?_)))))
 have tO:=m9.le bC
 have tP:=tO.le bD
 have tQ:=tP.le bu
 have tR:=tQ.le br
 have tS:=tR.le bn
 have tT:=tS.le bb
 have tU:=tT.le bo
 have gS:=tU.le bs
 have tV:=n5.le bC
 have tW:=tV.le bD
 have tX:=tW.le bu
 have tY:=tX.le br
 have tZ:=tY.le bn
 have t7:=tZ.le bb
 have t8:=t7.le bo
 have gU:=t8.le bs
 have t9:=n6.le bC
 have ua:=t9.le bD
 have ub:=ua.le bu
 have ud:=ub.le br
 have ue:=ud.le bn
 have uf:=ue.le bb
 have ug:=uf.le bo
 have gW:=ug.le bs
 have uh:=n7.le bC
 have ui:=uh.le bD
 have uj:=ui.le bu
 have uk:=uj.le br
 have ul:=uk.le bn
 have um:=ul.le bb
 have uo:=um.le bo
 have gX:=uo.le bs
 have q:=bnd Dd
 obtain ⟨⟨bX,fH,pn⟩,uq,oW⟩:=q
 try dsimp only at oW
 refine zK 0 Z Z Z Z (zL Z Z Tryz.call45 (zD Z (zD Z (zD Z zQ))) Z) ie (fun hs=>wJq (⟨bO,bw,bz,bA⟩:wAA) bQ bR bE bL bF bM bG bN p1 p2 lM iz hs gS gU gW gX uq) (.inr Z) ?_
 rintro lx EP FW iG aW Ci ⟨cw,cy,ma,ir,iO,rfl,rfl,ur⟩
 let iv:Res:=.row ir iO 3 1 (hH KL.encI fH)
 have Cj:sW w U lx [.row cw cy 22 1 ma,iv,.blk b6 29 B1,.blk b2 27 B0,.blk aj 27 B9,au] iG:=Ci
 refine zz rfl rfl rfl rfl rfl rfl (zk rfl rfl rfl rfl (fun _=>zu rfl rfl (v:=.slice cw bX.length cy) rfl) (zk rfl rfl rfl rfl (fun _=>zu rfl rfl (v:=.slice ir fH.length iO) rfl) (zk rfl rfl rfl rfl (fun _=>zu rfl rfl (v:=jV pn) rfl) (yX rfl rfl rfl rfl rfl rfl (yX rfl rfl rfl rfl rfl rfl (yX rfl rfl rfl rfl rfl rfl (eN (zH (zH (ZD zy [1,3,3,3,1,1,1,2,2,3] (wNc (.fx 7 gDg .stop)) (by kernel_rfl) ?_))))))))))
 have dN:=Cj.drew
 generalize hw_W1584:({ iG with drawn:=iG.drawn + 1 }:World)=pW at dN ⊢
 refine oL Z (dN.ldBA (j:=3) Z Z iZ ZB zo (vs:=B0) Z Z) (oM Z Z (oM Z Z (oM Z Z (oL Z (dN.ldBA (j:=5) Z Z qC ZY ZN (vs:=iu) Z Z) (oL Z (dN.ldBA (j:=2) Z Z gQ yq yK (vs:=B1) Z Z) (oL Z (dN.ldBA (j:=2) Z Z gQ yq yK (vs:=B1) Z Z) ?_))))))
 have uu:=n9.le bu
 have uv:=uu.le br
 have uw:=uv.le bn
 have ux:=uw.le bb
 have uy:=ux.le bo
 have uz:=uy.le bs
 have uA:=uz.le aW
 have uB:=oa.le bu
 have uC:=uB.le br
 have uD:=uC.le bn
 have uE:=uD.le bb
 have uF:=uE.le bo
 have uG:=uF.le bs
 have uH:=uG.le aW
 have uI:=oc.le bu
 have uJ:=uI.le br
 have uK:=uJ.le bn
 have uL:=uK.le bb
 have uM:=uL.le bo
 have uN:=uM.le bs
 have uO:=uN.le aW
 have uP:=od.le bu
 have uQ:=uP.le br
 have uR:=uQ.le bn
 have uS:=uR.le bb
 have uT:=uS.le bo
 have uU:=uT.le bs
 have uV:=uU.le aW
 refine bnK oW fun Ez uW De=>zK 0 Z Z Z Z (zL Z Z Tryz.call46 (zD Z (zD Z (zD Z zQ))) Z) dN (fun hs=>wEI (⟨bS,bT,bU,bV⟩:wAK) bY cg bZ cj b5 cm cb cn (⟨p1.Skier,p1.Mat⟩:wAW) (⟨p1.Skier,p1.Mat⟩:wAW) pW lx hs uA uH uO uV uW) (.inr Z) ?_
 rintro pH EQ FX gm aX Ck ⟨rfl,rfl⟩
 have Cm:sW w U pH [.row cw cy 22 1 ma,iv,.blk b6 29 B1,.blk b2 27 B0,.blk aj 27 B9,au] gm:=Ck
 have uX:=ur.le aX
 have q:=Cm.freezeRR (R:=wIM) (k:=0) rfl uX rfl (by decide)
 obtain ⟨pI,aZ,Ec,Cn⟩:=q
 have Co:sW w U pI [iv,.blk b6 29 B1,.blk b2 27 B0,.blk aj 27 B9,au] gm:=Cn
 have q:=Co.freezeR (k:=0) (n:=fH.length) rfl (wAI (f:=KL.encI) (sz:=1) (fun _=>rfl) fH) (by decide)
 obtain ⟨ly,aY,Ee,Cp⟩:=q
 have Cq:sW w U ly [.blk b6 29 B1,.blk b2 27 B0,.blk aj 27 B9,au] gm:=Cp
 have uY:=cp.le aq
 have uZ:=uY.le ij
 have u0:=uZ.le ik
 have u7:=u0.le fD
 have u9:=u7.le dR
 have va:=u9.le cP
 have vb:=va.le cC
 have vc:=vb.le cD
 have vd:=vc.le cu
 have ve:=vd.le bW
 have vg:=ve.le bP
 have vh:=vg.le bB
 have vi:=vh.le bC
 have vj:=vi.le bD
 have vk:=vj.le bu
 have vl:=vk.le br
 have vm:=vl.le bn
 have vn:=vm.le bb
 have vo:=vn.le bo
 have vp:=vo.le bs
 have vq:=vp.le aW
 have vr:=vq.le aX
 have vt:=vr.le aZ
 have gZ:=vt.le aY
 have vu:=cq.le aq
 have vv:=vu.le ij
 have vw:=vv.le ik
 have vx:=vw.le fD
 have vy:=vx.le dR
 have vz:=vy.le cP
 have vA:=vz.le cC
 have vB:=vA.le cD
 have vC:=vB.le cu
 have vD:=vC.le bW
 have vE:=vD.le bP
 have vG:=vE.le bB
 have vH:=vG.le bC
 have vJ:=vH.le bD
 have vK:=vJ.le bu
 have vL:=vK.le br
 have vM:=vL.le bn
 have vN:=vM.le bb
 have vO:=vN.le bo
 have vP:=vO.le bs
 have vQ:=vP.le aW
 have vR:=vQ.le aX
 have vS:=vR.le aZ
 have g7:=vS.le aY
 have vU:=cr.le aq
 have vV:=vU.le ij
 have vW:=vV.le ik
 have vX:=vW.le fD
 have vY:=vX.le dR
 have vZ:=vY.le cP
 have v4:=vZ.le cC
 have v5:=v4.le cD
 have v7:=v5.le cu
 have v8:=v7.le bW
 have v9:=v8.le bP
 have wa:=v9.le bB
 have wb:=wa.le bC
 have wc:=wb.le bD
 have wd:=wc.le bu
 have we:=wd.le br
 have wg:=we.le bn
 have wh:=wg.le bb
 have wi:=wh.le bo
 have wj:=wi.le bs
 have wk:=wj.le aW
 have wl:=wk.le aX
 have wn:=wl.le aZ
 have g8:=wn.le aY
 have wo:=ct.le aq
 have wp:=wo.le ij
 have wq:=wp.le ik
 have wt:=wq.le fD
 have wu:=wt.le dR
 have wv:=wu.le cP
 have ww:=wv.le cC
 have wx:=ww.le cD
 have wy:=wx.le cu
 have wz:=wy.le bW
 have wA:=wz.le bP
 have wB:=wA.le bB
 have wC:=wB.le bC
 have wD:=wC.le bD
 have wE:=wD.le bu
 have wG:=wE.le br
 have wH:=wG.le bn
 have wI:=wH.le bb
 have wJ:=wI.le bo
 have wK:=wJ.le bs
 have wL:=wK.le aW
 have wM:=wL.le aX
 have wN:=wM.le aZ
 have g9:=wN.le aY
 have oe:=Ec.le aY
 refine bnK De fun Gg wO Df=>zK 0 Z Z Z Z (zL Z Z Tryz.call19 (zD Z (zD Z (zD Z (zD Z (zD Z zQ))))) Z) Cq (fun hs=>wFh p0 be bi bf bj bg bk bh bm bX cw cy fH ir iO pn Ez gm ly hs gZ g7 g8 g9 oe Ee wO) (.inr Z) ?_
 rintro eE ER FZ lN az Cs ⟨rfl,rfl⟩
 have fB:sW w U eE [.blk b6 29 B1,.blk b2 27 B0,.blk aj 27 B9,au] lN:=Cs
 refine oR Z (Zf Z Z) (eN (ifc Df ?_ ?_))
 intro iP Dg
 refine zx (nC iP.out) (kN (zH (sR fL2 Z (oM Z Z (oR Z (Runs.eql Z Z Z) (eN (ifc Dg ?_ ?_)))))))
 intro iQ ii
 refine cT Z iQ (sR fL1 Z (oA Z Z (eN (zH (zH (yp fun cQ cz=>?_))))))
 have qK:cQ 2=.bool p2:=(cz 2).trans mz
 have qL:cQ 3=.pointer (some ⟨b2,0,none⟩):=(cz 3).trans iZ
 have qM:cQ 4=.pointer (some ⟨b6,0,none⟩):=(cz 4).trans gQ
 have qN:cQ 7=.pointer (some ⟨aj,0,none⟩):=(cz 7).trans i4
 have qO:cQ 11=.slice cW cE.length dy:=(cz 11).trans mA
 have mB:cQ 17=.slice cw bX.length cy:=(cz 17).trans rfl
 have qP:cQ 19=jV 1:=(cz 19).trans rfl
 clear cz
 refine rR fL3 Z (oM Z mB (oR Z (zd Z Z zR) (oM Z Z (eN (zW ?_)))))
 have q:=wCH ii
 obtain ⟨FJ,ig⟩:=q
 have q:=wCG ig
 obtain ⟨jr,C4⟩:=q
 replace jr:=zI jr
 refine yG (fun dP po σ_ w_=>∃ (U_:PHeap),σ_ 99=jV (↑dP:Int)/\σ_ 2=.bool p2/\σ_ 3=.pointer (some ⟨b2,0,none⟩)/\σ_ 4=.pointer (some ⟨b6,0,none⟩)/\σ_ 7=.pointer (some ⟨aj,0,none⟩)/\σ_ 11=.slice cW cE.length dy/\σ_ 17=.slice cw bX.length cy/\σ_ 19=jV po/\σ_ 97=.slice cw bX.length cy/\σ_ 98=jV (↑bX.length:Int)/\PHeap.Le eE U_/\sW w U U_ [.blk b6 29 B1,.blk b2 27 B0,.blk aj 27 B9,au] w_) C4 ?_ ?_ ?_
 exact ⟨eE,Z,qK,qL,qM,qN,qO,mB,qP,Z,Z,(zM _),fB⟩
 rintro dP po Gr Gx lO jq ⟨gh,gR,mC,mD,dL,mE,i6,i8,mF,i9,ja,jx,dO⟩ Ef oH
 have mb:Hid ((↑dP:Int) < (↑bX.length:Int)):=zI (wBJ jq)
 replace jq:=zI jq
 have oI:Hid (w64 ((↑dP:Int) + 1)=(↑(dP + 1):Int)):=zI (by have h1:=jr.out;have h2:=mb.out;rw [wAX] <;> omega)
 refine sR fL1 Z (oR Z (zX Z gR ja) (eN (zH (cT Z mb (kN (zH (zW (sR fL3 Z (bnK Ef fun pp og Dh=>?_)))))))))
 have wP:=oe.le az
 have oh:=wP.le jx
 have q:=oh.el (wAS og)
 obtain ⟨qr,Ev,Gd,Bi,ji,DY⟩:=q
 obtain ⟨pf,pg,rfl,wQ⟩:=DY
 replace ji:Cl gh qr (Ev + dP * 1) [.slice pf pp.length pg]:=ji
 refine oR Z (ZL Z i9 Bi gR zR zS (wBk og)) (oL Z (dO.ldC (f:=0) ji (v:=.slice pf pp.length pg) Z Z zY Z) (oA Z Z (eN (zH (sR fL12 Z (oR Z (zE Z dL ZU Z zB) (oL Z (dO.ldB (j:=0) Z Z Z zF (v:=jV p1.Mat) Z) (oM Z Z (oR Z (zd Z Z zC) (oR Z (Runs.geq Z Z Z) (oM Z Z (ifc Dh ?_ ?_))))))))))))
 intro bt Di
 refine oT Z bt (oT Z bt (oT Z bt (oT Z bt (oT Z bt (oR Z (zl Z (Zl bt.out) Z) (eN (ZG Z (sR fL1 Z (oA Z Z (eN (zP (zN (zg (zN ?_))))))))))))))
 have q:=wAZ Di
 obtain ⟨Ew,Dj,qy⟩:=q
 obtain rfl:=wCA ii ig (oH Ew qy)
 refine zN (zg (zN (zN ?_)))
 have hE:=nA Dj;first | subst r | cases hE
 exact ⟨rfl,_,(ZH rfl),gh,_,(dO.pick [] _ (by decide) rfl),rfl,rfl⟩
 intro bt Dk
 refine rU Z (wF Z bt) (zE Z dL ZU Z zB) (ZI Z Z Z (wF Z bt) (dO.ldB (j:=0) Z Z Z zF (v:=jV p1.Skier) Z) Z (zz Z Z Z (wF Z bt) Z i6 (rU Z (wF Z bt) (zd Z Z zr) (rU Z (wF Z bt) (Runs.geq Z Z Z) (oR Z (zt Z (Ze bt.out) Z) (eN (ifc Dk ?_ ?_)))))))
 intro iR Dl
 refine cT Z iR (sR fL1 Z (oA Z Z (eN (zP (zN (zg (zN ?_)))))))
 have q:=wAZ Dl
 obtain ⟨Ey,Dm,qz⟩:=q
 obtain rfl:=wCA ii ig (oH Ey qz)
 refine zN (zg (zN (zN ?_)))
 have hE:=nA Dm;first | subst r | cases hE
 exact ⟨rfl,_,(ZH rfl),gh,_,(dO.pick [] _ (by decide) rfl),rfl,rfl⟩
 intro iR Dn
 refine cF Z iR (kN (zH (ZD zy [3,3,1,3,1,3,1,2,3] (wNc (.fx 7 (.fl 8 .nil) .stop)) (by kernel_rfl) ?_)))
 have fC:=dO.drew
 generalize hw_W1813:({ lO with drawn:=lO.drawn + 1 }:World)=pX at fC ⊢
 refine oM Z Z (oR Z (zE Z dL ZU Z zB) (oL Z (fC.ldB (j:=0) Z Z Z zF (v:=jV p1.Mat) Z) (bnK Dn fun EA jf Do=>?_)))
 have q:=wQ.el (fun _=>rfl) (wAS jf)
 obtain ⟨Fo,FG,Bj,Bm⟩:=q
 refine oR Z (ZC Z Z Bj Z zC zB (wAx jf) (wBA jf)) (oL Z (fC.ldC (f:=0) Bm (v:=jV EA) Z Z zF Z) (oM Z i8 (oL Z (fC.ldBA (j:=0) Z Z dL yq yK (vs:=B1) Z Z) (bnK Do fun Gi wR Dp=>zK 0 Z Z Z Z (zL Z Z Tryz.call20 (zD Z (zD Z zQ)) Z) fC (fun hs=>wGv bX cw cy p1 pX gh hs oh wR) (.inr Z) ?_))))
 rintro iA ES F2 pY pe Ct ⟨rfl,rfl⟩
 have ow:sW w U iA [.blk b6 29 B1,.blk b2 27 B0,.blk aj 27 B9,au] pY:=Ct
 refine oR Z (zX Z Z Z) (eN (ifc Dp ?_ ?_))
 intro iT Dq
 refine cT Z iT (rR fL3 Z (oM Z mF (oR Z (zZ Z Z Z) (oA Z Z (zh (zq (zG (rR fL2 Z (oR Z (ZP (zZ Z gR Z) (congrArg (jV) oI.out)) (oM Z Z (zh ?_)))))))))))
 obtain rfl:=nA Dq
 exact zG ⟨Z,_,Z,⟨iA,Z,mC,mD,dL,mE,i6,i8,Z,i9,ja,(jx.trans pe),ow⟩⟩
 intro iT Dr
 refine cF Z iT (Zh (zq (zG (rR fL2 Z (oR Z (ZP (zZ Z gR Z) (congrArg (jV) oI.out)) (oM Z Z (zh ?_)))))))
 obtain rfl:=nA Dr
 exact zG ⟨Z,_,Z,⟨iA,Z,mC,mD,dL,mE,i6,i8,mF,i9,ja,(jx.trans pe),ow⟩⟩
 rintro Gs Gy lP ⟨eF,sd,jb,mG,jc,mH,jd,Fs,mI,Ft,qQ,a0,bp⟩ C3
 have Ds:=wCu ii ig C3
 have qx:Hid (¬ ((↑(((↑bX.length:Int):Int) - 0).toNat:Int) < (↑bX.length:Int))):=zI (wAj)
 refine sR fL1 Z (oR Z (zX Z sd qQ) (eN (zH (cF Z qx (ZT (zf (zf (ZK (zG (sR fL32 Z (oR Z (zE Z jc ZU Z zB) (oL Z (bp.ldB (j:=0) Z Z Z zF (v:=jV p1.Skier) Z) (oM Z jd (oR Z (zd Z Z zr) (oR Z (Runs.geq Z Z Z) (oM Z Z (ifc Ds ?_ ?_)))))))))))))))))
 intro bJ Dt
 refine oT Z bJ (oT Z bJ (ZF Z Z Z (wBx Z Z Z) (ZF Z Z Z (wBx Z Z Z) (ZF Z Z Z (wBx Z Z Z) (ZF Z Z Z (wBx Z Z Z) (ZF Z Z Z (wBx Z Z Z) (ZF Z Z Z (wBx Z Z Z) (ZF Z Z Z (wBx Z Z Z) (ZF Z Z Z (wBx Z Z Z) (oT Z bJ (oR Z (zl Z (Zl bJ.out) Z) (oM Z Z (oN Z (oN Z (oN Z (ZF Z Z Z (wBx Z Z Z) (ZF Z Z Z (wBx Z Z Z) (ZF Z Z Z (wBx Z Z Z) (ZF Z Z Z (wBx Z Z Z) (ZF Z Z Z (wBx Z Z Z) (ZF Z Z Z (wBx Z Z Z) (ZF Z Z Z (wBx Z Z Z) (ZF Z Z Z (wBx Z Z Z) (oN Z (oR Z (zl Z Z Z) (eN (ZG Z (sR fL1 Z (oA Z Z (eN (zP (zN ?_))))))))))))))))))))))))))))))))
 have hE:=nA Dt;first | subst r | cases hE
 exact ⟨rfl,_,(ZH rfl),eF,_,(bp.pick [] _ (by decide) rfl),rfl,rfl⟩
 intro bJ Du
 refine zz Z Z Z (wF Z bJ) Z jb (zz Z Z Z (wF Z bJ) Z Z (ifc Du ?_ ?_))
 intro am Dv
 refine zz Z Z Z (zO Z Z (congrArg nB am.out)) Z mI (zz Z Z Z (zO Z Z (congrArg nB am.out)) Z jd (zk Z Z Z (zO Z Z (congrArg nB am.out)) (fun _=>zE Z jc ZU Z zB) (ZI Z Z Z (zO Z Z (congrArg nB am.out)) (bp.ldB (j:=0) Z Z Z zF (v:=jV p1.Skier) Z) Z (bnK Dv fun EB jg Dw=>?_))))
 have wS:=jt.le bb
 have wU:=wS.le bo
 have wV:=wU.le bs
 have wW:=wV.le aW
 have wX:=wW.le aX
 have wY:=wX.le aZ
 have wZ:=wY.le aY
 have w5:=wZ.le az
 have w6:=w5.le a0
 have q:=w6.el (fun _=>rfl) (wAS jg)
 obtain ⟨Fp,FH,Bk,Bn⟩:=q
 refine zk Z Z Z (zO Z Z (congrArg nB am.out)) (fun _=>ZC Z Z Bk Z zr ZR (wAx jg) (wBA jg)) (zk Z Z Z (zO Z Z (congrArg nB am.out)) (fun _=>zE Z Z ZA Z zB) (ZI Z Z Z (zO Z Z (congrArg nB am.out)) (bp.ldC (f:=0) Bn (v:=jV EB.Lo) Z Z zF Z) Z (zk Z Z Z (zO Z Z (congrArg nB am.out)) (fun _=>Zo Z Z Z) (rU Z (wF Z bJ) (zl Z (congrArg nB am.out) Z) (oR Z (zt Z (Ze bJ.out) Z) (oM Z Z (ifc Dw ?_ ?_)))))))
 intro bK Dx
 refine zz Z Z Z (zO Z Z (Ze (fun h=>h bK.out))) Z jb (zk Z Z Z (zO Z Z (Ze (fun h=>h bK.out))) (fun _=>Zf Z Z) (zz Z Z Z (zO Z Z (Ze (fun h=>h bK.out))) Z Z (ZF Z Z Z (zi Z Z (nC am.out) Z) (ZF Z Z Z (zi Z Z (nC am.out) Z) (ZF Z Z Z (zi Z Z (nC am.out) Z) (ZF Z Z Z (zi Z Z (nC am.out) Z) (ZF Z Z Z (zi Z Z (nC am.out) Z) (ZF Z Z Z (zi Z Z (nC am.out) Z) (ZF Z Z Z (zi Z Z (nC am.out) Z) (ZF Z Z Z (zi Z Z (nC am.out) Z) (zk Z Z Z (zO Z Z (Ze (fun h=>h bK.out))) (fun _=>zt Z (nC am.out) Z) (oR Z (zt Z (Ze (fun h=>h bK.out)) Z) (eN (zx Z (kN (sR gDv Z (oL Z (bp.ldBA (j:=2) Z Z mH ZB zo (vs:=B9) Z Z) (oL Z (bp.ldBA (j:=1) Z Z mG ZB zo (vs:=B0) Z Z) ?_))))))))))))))))))
 have w7:=gS.le aW
 have w8:=w7.le aX
 have w9:=w8.le aZ
 have xa:=w9.le aY
 have xb:=xa.le az
 have xc:=xb.le a0
 have xd:=gU.le aW
 have xe:=xd.le aX
 have xf:=xe.le aZ
 have xg:=xf.le aY
 have xh:=xg.le az
 have xi:=xh.le a0
 have xj:=gW.le aW
 have xk:=xj.le aX
 have xl:=xk.le aZ
 have xm:=xl.le aY
 have xn:=xm.le az
 have xo:=xn.le a0
 have xp:=gX.le aW
 have xq:=xp.le aX
 have xr:=xq.le aZ
 have xt:=xr.le aY
 have xu:=xt.le az
 have xw:=xu.le a0
 have xx:=gZ.le az
 have xz:=xx.le a0
 have xA:=g7.le az
 have xB:=xA.le a0
 have xC:=g8.le az
 have xD:=xC.le a0
 have xE:=g9.le az
 have xF:=xE.le a0
 refine bnK Dx fun Gj xG Dy=>zK 0 Z Z Z Z (zL Z Z Tryz.call21 (zD Z (zD Z zQ)) Z) bp (fun hs=>wDQ (⟨bO,bw,bz,bA⟩:wAA) bQ bR bE bL bF bM bG bN p0 be bi bf bj bg bk bh bm lP eF hs xc xi xo xw xz xB xD xF xG) (.inr Z) ?_
 rintro iB ET F3 lQ Fy Cu ⟨rfl,rfl⟩
 have ox:sW w U iB [.blk b6 29 B1,.blk b2 27 B0,.blk aj 27 B9,au] lQ:=Cu
 refine oM Z Z (ifc Dy ?_ ?_)
 intro eX Dz
 refine bnK Dz fun Gk xH DA=>zK 0 Z Z Z (zO Z Z (congrArg nB eX.out)) (zL Z Z Tryz.call9 zQ Z) ox (fun hs=>wCU lQ iB hs xH) (.inr Z) ?_
 rintro lz EU F4 pZ Fz Cv ⟨rfl,rfl⟩
 have Cw:sW w U lz [.blk b6 29 B1,.blk b2 27 B0,.blk aj 27 B9,au] pZ:=Cv
 refine oR Z (zl Z (congrArg nB eX.out) Z) (oA Z Z (eN (zP ?_)))
 have hE:=nA DA;first | subst r | cases hE
 exact ⟨rfl,_,(ZH rfl),lz,_,(Cw.pick [] _ (by decide) rfl),rfl,rfl⟩
 intro eX DB
 refine yJ Z Z Z (zi Z Z (congrArg nB (nD.2 eX.out)) Z) (oR Z (zt Z (congrArg nB (nD.2 eX.out)) Z) (oA Z Z (eN (zP ?_))))
 have hE:=nA DB;first | subst r | cases hE
 exact ⟨rfl,_,(ZH rfl),iB,_,(ox.pick [] _ (by decide) rfl),rfl,rfl⟩
 intro bK DC
 refine oT Z bK (oT Z bK (oT Z bK (ZF Z Z Z (wBx Z Z Z) (ZF Z Z Z (wBx Z Z Z) (ZF Z Z Z (wBx Z Z Z) (ZF Z Z Z (wBx Z Z Z) (ZF Z Z Z (wBx Z Z Z) (ZF Z Z Z (wBx Z Z Z) (ZF Z Z Z (wBx Z Z Z) (ZF Z Z Z (wBx Z Z Z) (oT Z bK (oR Z (zl Z (Zl bK.out) Z) (eN (ZG Z (sR fL1 Z (oA Z Z (eN (zP (zN ?_)))))))))))))))))))
 have hE:=nA DC;first | subst r | cases hE
 exact ⟨rfl,_,(ZH rfl),eF,_,(bp.pick [] _ (by decide) rfl),rfl,rfl⟩
 intro am DD
 refine ZF Z Z Z (zi Z Z (congrArg nB (nD.2 am.out)) Z) (ZF Z Z Z (zi Z Z (congrArg nB (nD.2 am.out)) Z) (ZF Z Z Z (zi Z Z (congrArg nB (nD.2 am.out)) Z) (ZF Z Z Z (zi Z Z (congrArg nB (nD.2 am.out)) Z) (ZF Z Z Z (zi Z Z (congrArg nB (nD.2 am.out)) Z) (ZF Z Z Z (zi Z Z (congrArg nB (nD.2 am.out)) Z) (ZF Z Z Z (zi Z Z (congrArg nB (nD.2 am.out)) Z) (ZF Z Z Z (zi Z Z (congrArg nB (nD.2 am.out)) Z) (rU Z (wF Z bJ) (zt Z (congrArg nB (nD.2 am.out)) Z) (oR Z (zt Z (Ze bJ.out) Z) (oM Z Z (zz Z Z Z (zO Z Z Z) Z jb (zk Z Z Z (zO Z Z Z) (fun _=>Zf Z Z) (zz Z Z Z (zO Z Z Z) Z Z (zz Z Z Z (zO Z Z (nF (am.out))) Z mI (zz Z Z Z (zO Z Z (nF (am.out))) Z jd (zk Z Z Z (zO Z Z (nF (am.out))) (fun _=>zE Z jc ZU Z zB) (ZI Z Z Z (zO Z Z (nF (am.out))) (bp.ldB (j:=0) Z Z Z zF (v:=jV p1.Skier) Z) Z (bnK DD fun EC jh DE=>?_))))))))))))))))))
 have xI:=jt.le bb
 have xJ:=xI.le bo
 have xK:=xJ.le bs
 have xL:=xK.le aW
 have xM:=xL.le aX
 have xN:=xM.le aZ
 have xO:=xN.le aY
 have xP:=xO.le az
 have xR:=xP.le a0
 have q:=xR.el (fun _=>rfl) (wAS jh)
 obtain ⟨Fq,FI,Bl,Bo⟩:=q
 refine zk Z Z Z (zO Z Z (nF (am.out))) (fun _=>ZC Z Z Bl Z zr ZR (wAx jh) (wBA jh)) (zk Z Z Z (zO Z Z (nF (am.out))) (fun _=>zE Z Z ZA Z zB) (ZI Z Z Z (zO Z Z (nF (am.out))) (bp.ldC (f:=1) Bo (v:=jV EC.Hi) Z Z zF Z) Z (zk Z Z Z (zO Z Z (nF (am.out))) (fun _=>Zo Z Z Z) (zk Z Z Z (zO Z Z Z) (fun _=>zl Z (nF (am.out)) Z) (oR Z (zt Z Z Z) (eN (ifc DE ?_ ?_)))))))
 intro iV DF
 refine zx (Ze (fun h=>h iV.out)) (kN (sR gDv Z (oL Z (bp.ldBA (j:=2) Z Z mH ZB zo (vs:=B9) Z Z) (oL Z (bp.ldBA (j:=1) Z Z mG ZB zo (vs:=B0) Z Z) ?_))))
 have xS:=gS.le aW
 have xT:=xS.le aX
 have xU:=xT.le aZ
 have xV:=xU.le aY
 have xW:=xV.le az
 have xX:=xW.le a0
 have xY:=gU.le aW
 have xZ:=xY.le aX
 have x7:=xZ.le aZ
 have x8:=x7.le aY
 have yt:=x8.le az
 have yu:=yt.le a0
 have yv:=gW.le aW
 have yw:=yv.le aX
 have yy:=yw.le aZ
 have yz:=yy.le aY
 have y4:=yz.le az
 have y5:=y4.le a0
 have y6:=gX.le aW
 have y7:=y6.le aX
 have y8:=y7.le aZ
 have y9:=y8.le aY
 have z4:=y9.le az
 have z5:=z4.le a0
 have z6:=gZ.le az
 have z7:=z6.le a0
 have z8:=g7.le az
 have z9:=z8.le a0
 have Aa:=g8.le az
 have Ab:=Aa.le a0
 have Ac:=g9.le az
 have Ad:=Ac.le a0
 refine bnK DF fun Gl Ae DG=>zK 0 Z Z Z Z (zL Z Z Tryz.call21 (zD Z (zD Z zQ)) Z) bp (fun hs=>wDQ (⟨bO,bw,bz,bA⟩:wAA) bQ bR bE bL bF bM bG bN p0 be bi bf bj bg bk bh bm lP eF hs xX yu y5 z5 z7 z9 Ab Ad Ae) (.inr Z) ?_
 rintro iC EV F5 lR FA Cx ⟨rfl,rfl⟩
 have oy:sW w U iC [.blk b6 29 B1,.blk b2 27 B0,.blk aj 27 B9,au] lR:=Cx
 refine oM Z Z (ifc DG ?_ ?_)
 intro eY DH
 refine bnK DH fun Gm Af DI=>zK 0 Z Z Z (zO Z Z (congrArg nB eY.out)) (zL Z Z Tryz.call9 zQ Z) oy (fun hs=>wCU lR iC hs Af) (.inr Z) ?_
 rintro lA EW F6 p6 FB Cy ⟨rfl,rfl⟩
 have Cz:sW w U lA [.blk b6 29 B1,.blk b2 27 B0,.blk aj 27 B9,au] p6:=Cy
 refine oR Z (zl Z (congrArg nB eY.out) Z) (oA Z Z (eN (zP ?_)))
 have hE:=nA DI;first | subst r | cases hE
 exact ⟨rfl,_,(ZH rfl),lA,_,(Cz.pick [] _ (by decide) rfl),rfl,rfl⟩
 intro eY DK
 refine yJ Z Z Z (zi Z Z (congrArg nB (nD.2 eY.out)) Z) (oR Z (zt Z (congrArg nB (nD.2 eY.out)) Z) (oA Z Z (eN (zP ?_))))
 have hE:=nA DK;first | subst r | cases hE
 exact ⟨rfl,_,(ZH rfl),iC,_,(oy.pick [] _ (by decide) rfl),rfl,rfl⟩
 intro iV DL
 refine cT Z iV (sR fL1 Z (oA Z Z (eN (zP (zN ?_)))))
 have hE:=nA DL;first | subst r | cases hE
 exact ⟨rfl,_,(ZH rfl),eF,_,(bp.pick [] _ (by decide) rfl),rfl,rfl⟩
 intro iQ DM
 refine cF Z iQ (kN (zH (yp fun pq ju=>?_)))
 have qR:pq 3=.pointer (some ⟨b2,0,none⟩):=(ju 3).trans iZ
 have qS:pq 7=.pointer (some ⟨aj,0,none⟩):=(ju 7).trans i4
 clear ju
 refine rR gDv Z (oL Z (fB.ldBA (j:=2) Z Z qS ZB zo (vs:=B9) Z Z) (oL Z (fB.ldBA (j:=1) Z Z qR ZB zo (vs:=B0) Z Z) ?_))
 have Ag:=gS.le aW
 have Ah:=Ag.le aX
 have Ai:=Ah.le aZ
 have Aj:=Ai.le aY
 have Ak:=Aj.le az
 have Al:=gU.le aW
 have Am:=Al.le aX
 have An:=Am.le aZ
 have Ao:=An.le aY
 have Ap:=Ao.le az
 have Aq:=gW.le aW
 have Ar:=Aq.le aX
 have As:=Ar.le aZ
 have Au:=As.le aY
 have Av:=Au.le az
 have Aw:=gX.le aW
 have Ax:=Aw.le aX
 have Ay:=Ax.le aZ
 have Az:=Ay.le aY
 have AA:=Az.le az
 have AD:=gZ.le az
 have AE:=g7.le az
 have AG:=g8.le az
 have AI:=g9.le az
 refine bnK DM fun Gn AJ DN=>zK 0 Z Z Z Z (zL Z Z Tryz.call21 (zD Z (zD Z zQ)) Z) fB (fun hs=>wDQ (⟨bO,bw,bz,bA⟩:wAA) bQ bR bE bL bF bM bG bN p0 be bi bf bj bg bk bh bm lN eE hs Ak Ap Av AA AD AE AG AI AJ) (.inr Z) ?_
 rintro iD EX F7 lS FC CA ⟨rfl,rfl⟩
 have oz:sW w U iD [.blk b6 29 B1,.blk b2 27 B0,.blk aj 27 B9,au] lS:=CA
 refine oM Z Z (ifc DN ?_ ?_)
 intro eZ DO
 refine bnK DO fun Gp AL DP=>zK 0 Z Z Z (zO Z Z (congrArg nB eZ.out)) (zL Z Z Tryz.call9 zQ Z) oz (fun hs=>wCU lS iD hs AL) (.inr Z) ?_
 rintro lB EY F8 p7 FD CB ⟨rfl,rfl⟩
 have CD:sW w U lB [.blk b6 29 B1,.blk b2 27 B0,.blk aj 27 B9,au] p7:=CB
 refine oR Z (zl Z (congrArg nB eZ.out) Z) (oA Z Z (eN (zP ?_)))
 have hE:=nA DP;first | subst r | cases hE
 exact ⟨rfl,_,(ZH rfl),lB,_,(CD.pick [] _ (by decide) rfl),rfl,rfl⟩
 intro eZ DQ
 refine yJ Z Z Z (zi Z Z (congrArg nB (nD.2 eZ.out)) Z) (oR Z (zt Z (congrArg nB (nD.2 eZ.out)) Z) (oA Z Z (eN (zP ?_))))
 have hE:=nA DQ;first | subst r | cases hE
 exact ⟨rfl,_,(ZH rfl),iD,_,(oz.pick [] _ (by decide) rfl),rfl,rfl⟩
 intro iP DR
 refine ZG (nF (iP.out)) (sR fL1 Z (oA Z Z (eN (zP (zN ?_)))))
 have hE:=nA DR;first | subst r | cases hE
 exact ⟨rfl,_,(ZH rfl),eE,_,(fB.pick [] _ (by decide) rfl),rfl,rfl⟩
 intro iN DS
 refine ZG (nF (iN.out)) (sR fL1 Z (oA Z Z (eN (zP (zN ?_)))))
 have hE:=nA DS;first | subst r | cases hE
 exact ⟨rfl,_,(ZH rfl),iz,_,(ie.pick [] _ (by decide) rfl),rfl,rfl⟩
 intro bI DT
 refine ZF Z Z Z (zi Z Z (nF (bI.out)) Z) (ZF Z Z Z (zi Z Z (nF (bI.out)) Z) (yJ Z Z Z (zi Z Z (nF (bI.out)) Z) (ZF Z Z Z (zi Z Z (nF (bI.out)) Z) (oR Z (zl Z (nF (bI.out)) Z) (eN (ZG Z (sR fL1 Z (oA Z Z (eN (zP (zN ?_)))))))))))
 have hE:=nA DT;first | subst r | cases hE
 exact ⟨rfl,_,(ZH rfl),lv,_,(ot.pick [] _ (by decide) rfl),rfl,rfl⟩
 intro bH DU
 refine oT Z bH (oT Z bH (yJ Z Z Z (zi Z Z (Zl bH.out) Z) (oT Z bH (oR Z (zl Z (Zl bH.out) Z) (oM Z Z (oN Z (oN Z (yJ Z Z Z (zi Z Z Z Z) (oN Z (oR Z (zl Z Z Z) (eN (ZG Z (sR fL1 Z (oA Z Z (eN (zP (zN ?_)))))))))))))))))
 have hE:=nA DU;first | subst r | cases hE
 exact ⟨rfl,_,(ZH rfl),iy,_,(jp.pick [] _ (by decide) rfl),rfl,rfl⟩
 intro cf DV
 refine oT Z cf (oT Z cf (oT Z cf (oR Z (zl Z (Zl cf.out) Z) (oM Z Z (oN Z (oN Z (yJ Z Z Z (zi Z Z Z Z) (oN Z (oR Z (zl Z Z Z) (oM Z Z (oN Z (oN Z (yJ Z Z Z (zi Z Z Z Z) (oN Z (oR Z (zl Z Z Z) (eN (ZG Z (sR fL1 Z (oA Z Z (eN (zP (zN ?_))))))))))))))))))))))
 have hE:=nA DV;first | subst r | cases hE
 exact ⟨rfl,_,(ZH rfl),iy,_,(jp.pick [] _ (by decide) rfl),rfl,rfl⟩
end Go.Proofs.YtlnfbjphfoipaaaGreat
