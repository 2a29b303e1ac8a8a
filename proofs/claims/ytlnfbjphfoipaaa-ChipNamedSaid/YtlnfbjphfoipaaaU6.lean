import Derived.Test.YtlnfbjphfoipaaaU4
import Derived.Test.YtlnfbjphfoipaaaU3
import Derived.Test.YtlnfbjphfoipaaaU5
set_option linter.all false
open List renaming flatMap->hD,length_set->nB,getElem_cons_succ->nD,getElem_cons_zero->nE,set->nH,getElem_toArray->nI
open Go.Value renaming bool->hH
open Bool renaming eq_false_iff->hJ
open Option.some renaming inj->nA
namespace Go.Proofs.Ytlnfbjphfoipaaa
open Go.KL
def gDq:Sch:=.fx 0 (.fx 1 .nil .stop) .stop
def gDr:Sch:=.fx 1 (.fx 2 .nil .stop) .stop
def gDs:Sch:=.fx 2 (.fl 3 .nil) .stop
def gDt:Sch:=.fl 0 (.fx 1 .nil .stop)
def gDu:Sch:=.fx 3 (.fl 4 .nil) .stop
def gDv:Sch:=.fx 1 (.fl 2 .nil) .stop
def gDw:Sch:=.fx 0 (.fl 1 .nil) .stop
def gDx:Sch:=.fx 0 (.fl 1 (.fl 2 .nil)) .stop
def gDy:Sch:=.fx 3 (.fl 4 (.fl 5 .nil)) .stop
def gDz:Sch:=.fx 0 gDr .stop
def gEa:Sch:=.fx 13 (.fl 14 (.fl 15 .nil)) .stop
def gEb:Sch:=.fx 4 (.fx 5 (.fl 6 .nil) .stop) .stop
def gEc:Sch:=.fl 0 gDr
def gEd:Sch:=.fx 2 gDu .stop
def gEe:Sch:=.fx 0 gDv .stop
def gEf:Sch:=.fx 2 (.fl 3 (.fl 4 .nil)) .stop
def gEg:Sch:=.fl 0 gDv
def gEh:Sch:=.fx 10 (.fl 11 (.fl 12 .nil)) .stop
def gEi:Sch:=.fl 0 (.fl 1 (.fx 2 .nil .stop))
def gEj:Sch:=.fx 11 (.fx 12 (.fl 13 .nil) .stop) .stop
def gEk:Sch:=.fx 6 (.fx 7 (.fl 8 (.fl 9 .nil)) .stop) .stop
def gEl:Sch:=.fl 0 (.fx 1 (.fl 2 (.fl 3 .nil)) .stop)
def gEm:Sch:=.fx 12 gEa .stop
def gEn:Sch:=.fl 0 (.fl 1 gDs)
def gEo:Sch:=.fl 0 (.fl 1 (.fx 2 (.fx 3 .nil .stop) .stop))
def gEp:Sch:=.fx 10 gEj .stop
def gEq:Sch:=.fx 9 gEj .stop
def gEr:Sch:=.fl 0 (.fl 1 (.fx 2 (.fx 3 (.fx 4 .nil .stop) .stop) .stop))
def gEs:Sch:=.fl 0 (.fl 1 gEd)
def gEt:Sch:=.fl 0 (.fl 1 gEf)
def gEu:Sch:=.fx 0 (.fx 1 gEf .stop) .stop
def gEv:Sch:=.fl 0 (.fl 2 (.fx 1 (.fx 3 gEb .stop) .stop))
def gEw:Sch:=.fl 0 (.fl 1 (.fl 3 (.fx 2 (.fx 4 (.fx 5 (.fx 6 (.fl 7 .nil) .stop) .stop) .stop) .stop)))
def gEx:Sch:=.fl 0 (.fl 1 (.fx 2 (.fl 3 (.fl 5 (.fl 6 (.fl 9 (.fl 10 (.fx 4 (.fl 7 (.fl 8 (.fx 11 (.fl 12 (.fl 13 .nil)) .stop))) .stop)))))) .stop))
set_option maxHeartbeats 4000000
theorem wBi (p0:wAY) (ak:Nat) (af:Option Addr) (am:Nat) (ag:Option Addr) (an:Nat) (ah:Option Addr) (ao:Nat) (ai:Option Addr) (ap:Nat) (ab:Nat) (ac:Array MapEntry) (ae:Nat) (aj:Option Addr) (aq:Nat) (w:World) (U:PHeap) (hS:St0 w U [.blk ak 124 [.slice af p0.Race.Starts.length am,.slice ag p0.Race.Splits.length an,.slice ah p0.Race.Clocks.length ao,.slice ai p0.Race.Readings.length ap,.map (some ab),.slice aj p0.edges.length aq],.obj ab (.map ac ae)]) (aV:Sl U 1 af am p0.Race.Starts.length (hD KL.encI p0.Race.Starts)) (aW:Sl U 2 ag an p0.Race.Splits.length (hD wAC p0.Race.Splits)) (aX:Sl U 3 ah ao p0.Race.Clocks.length (hD wAB p0.Race.Clocks)) (aY:Sl U 4 ai ap p0.Race.Readings.length (hD wAA p0.Race.Readings)) (aZ:MpR ac wBC wBJ p0.number) (a5:Sl U 7 aj aq p0.edges.length (hD wAR p0.edges)) {r:Bool} (hm:wAn p0=some r):Gv Try.prog 63 [.pointer (some ⟨ak,0,none⟩)] w (wBs w [.blk ak 124 [.slice af p0.Race.Starts.length am,.slice ag p0.Race.Splits.length an,.slice ah p0.Race.Clocks.length ao,.slice ai p0.Race.Readings.length ap,.map (some ab),.slice aj p0.edges.length aq],.obj ab (.map ac ae)] U (fun U_ L_ v=>v=.bool r/\L_=[.blk ak 124 [.slice af p0.Race.Starts.length am,.slice ag p0.Race.Splits.length an,.slice ah p0.Race.Clocks.length ao,.slice ai p0.Race.Readings.length ap,.map (some ab),.slice aj p0.edges.length aq],.obj ab (.map ac ae)])):=by
 unfold wAn at hm
 refine Gv.of Try.func63 Z Try.ntmps63 Try.results63 Z (sR fL1 Z (oA Z Z (eN (sR (.fl 0 (.fx 1 (wLb gEk) .stop)) Z (oM Z Z ?_)))))
 have q:=bnd hm
 obtain ⟨⟨x3,x4,x5⟩,h6,aL⟩:=q
 try dsimp only at aL
 refine zE 2 Z Z Z Z (zD Z Z Try.call57 (zB Z (zB Z (zB Z zM))) Z) hS (fun hs=>wBM p0 ak af am ag an ah ao ai ap ab ac ae aj aq (-1) false w U hs aV aW aX aY aZ a5 h6) (.inl Z) ?_
 rintro U8 L9 bb aM ba aQ ⟨ax,aG,ay,aH,rfl,rfl⟩
 let B0:Res:=.blk ak 124 [.slice af p0.Race.Starts.length am,.slice ag p0.Race.Splits.length an,.slice ah p0.Race.Clocks.length ao,.slice ai p0.Race.Readings.length ap,.map (some ab),.slice aj p0.edges.length aq]
 let B1:Res:=.row ax aG 3 1 (hD KL.encI x3.far)
 let B2:Res:=.row ay aH 3 1 (hD KL.encI x3.by_)
 have aR:SW w [B0,.obj ab (.map ac ae)] U U8 [B1,B2,B0,.obj ab (.map ac ae)] aM:=aQ
 refine oM Z Z (oR Z (zT Z Z (v:=.agg #[.slice ax x3.far.length aG,.slice ay x3.by_.length aH]) Z) (oR Z (zT Z Z (v:=jV x4) Z) (oR Z (zT Z Z (v:=.bool x5) Z) (zR (cs:=[.slice none 0 0,.slice none 0 0]) Z Z Z Z Z Zl Z aR ?_))))
 intro a9 aO aS
 let B3:List Value:=[.slice ax x3.far.length aG,.slice ay x3.by_.length aH]
 refine zV (j:=0) (vs:=B3) Z Z Z Z aS Z Z Z Z yE (zA Z) Z Z Z ?_
 intro aN aT
 have aU:SW w [B0,.obj ab (.map ac ae)] U U8 [.blk aO 118 B3,B1,B2,B0,.obj ab (.map ac ae)] aN:=aT
 refine oA Z Z (oA Z Z (eN (sR fL2 Z (oM Z Z (oA Z Z (eN (zU ?_)))))))
 have hE:=nA aL;first | subst r | cases hE
 exact ⟨rfl,_,(ZV rfl),U8,_,(aU.pick [3,4] _ (by decide) rfl),rfl,rfl⟩
theorem wEY (p0:wAD) (am:Option Addr) (aq:Nat) (an:Option Addr) (au:Nat) (ao:Option Addr) (av:Nat) (ap:Option Addr) (ax:Nat) (p1:List wAO) (aN:Option Addr) (aO:Nat) (w:World) (U:PHeap) (hS:St0 w U []) (bc:Sl U 1 am aq p0.Starts.length (hD KL.encI p0.Starts)) (bd:Sl U 2 an au p0.Splits.length (hD wAC p0.Splits)) (be:Sl U 3 ao av p0.Clocks.length (hD wAB p0.Clocks)) (bf:Sl U 4 ap ax p0.Readings.length (hD wAA p0.Readings)) (bx:Sl U 2 aN aO p1.length (hD wAU p1)) {r:(Option wAY) × Int} (hm:wCa p0 p1=some r):Gv Try.prog 46 [.agg #[.slice am p0.Starts.length aq,.slice an p0.Splits.length au,.slice ao p0.Clocks.length av,.slice ap p0.Readings.length ax],.slice aN p1.length aO] w (wBs w [] U (fun U_ L_ v=>match r.1 with | none=>v=.tuple #[.pointer none,jV r.2]/\L_=[] | some d=>∃ (b0:Nat) (A0p00:Option Addr) (c0p00:Nat) (A0p01:Option Addr) (c0p01:Nat) (A0p02:Option Addr) (c0p02:Nat) (A0p03:Option Addr) (c0p03:Nat) (m0p1:Nat) (es0p1:Array MapEntry) (ck0p1:Nat) (A0p2:Option Addr) (c0p2:Nat),v=.tuple #[.pointer (some ⟨b0,0,none⟩),jV r.2]/\L_=[.blk b0 124 [.slice A0p00 d.Race.Starts.length c0p00,.slice A0p01 d.Race.Splits.length c0p01,.slice A0p02 d.Race.Clocks.length c0p02,.slice A0p03 d.Race.Readings.length c0p03,.map (some m0p1),.slice A0p2 d.edges.length c0p2],.obj m0p1 (.map es0p1 ck0p1)]/\Sl U_ 1 A0p00 c0p00 d.Race.Starts.length (hD KL.encI d.Race.Starts)/\Sl U_ 2 A0p01 c0p01 d.Race.Splits.length (hD wAC d.Race.Splits)/\Sl U_ 3 A0p02 c0p02 d.Race.Clocks.length (hD wAB d.Race.Clocks)/\Sl U_ 4 A0p03 c0p03 d.Race.Readings.length (hD wAA d.Race.Readings)/\MpR es0p1 wBC wBJ d.number/\Sl U_ 7 A0p2 c0p2 d.edges.length (hD wAR d.edges))):=by
 unfold wCa at hm
 refine Gv.of Try.func46 Z Try.ntmps46 Try.results46 Z (sR gDx Z ?_)
 let B0:List Value:=[.slice am p0.Starts.length aq,.slice an p0.Splits.length au,.slice ao p0.Clocks.length av,.slice ap p0.Readings.length ax]
 refine zu (cs:=B0) rfl rfl rfl rfl rfl rfl (by rfl) hS ?_
 intro W1 b2 bv
 refine oA Z Z (oA Z Z (eN (sR (.fl 0 (.fx 1 (wHJ (.nil)) .stop)) Z (oL Z (bv.ldBA (j:=0) Z Z Z zg zW (vs:=B0) Z Z) ?_))))
 have q:=bnd hm
 obtain ⟨⟨x5,x6⟩,h7,ay⟩:=q
 try dsimp only at ay
 refine zE 0 Z Z Z Z (zD Z Z Try.call60 (zB Z zM) Z) bv (fun hs=>wDr p0 am aq an au ao av ap ax W1 U hs bc bd be bf h7) (.inr Z) ?_
 rintro U9 cJ cP aI ac bu bs
 rcases x5 with _ | ae
 try dsimp only at ay
 obtain ⟨rfl,rfl⟩:=bs
 have ba:sW w U U9 [.blk b2 28 B0] aI:=bu
 refine oM Z Z (oR Z (zT Z Z (v:=.pointer none) Z) (oR Z (zT Z Z (v:=jV x6) Z) (oA Z Z (oA Z Z (eN (zL (zd (sR fL3 Z (oM Z Z (oR Z (Zg Z Z Z) (oA Z Z (eN (ifc ay ?_ ?_)))))))))))))
 intro a6 cy
 refine ZI (zt (fun h=>h a6.out)) (sR (wCg gDy) Z (oM Z Z (oL Z (ba.ldBA (j:=0) Z Z Z zg zW (vs:=B0) Z Z) (oR Z (Runs.mkf Z (zB Z zM) zM) ?_))))
 have bJ:=bx.le ac
 have bK:=bc.le ac
 have bL:=bd.le ac
 have bM:=be.le ac
 have bN:=bf.le ac
 have cg:FnOK Try.prog U9 (.func (.func 84) #[.agg B0.toArray] #[]) wLF wLG (fun x=>wAd p0 x):=⟨84,[.agg B0.toArray],[],rfl,Try.call84,fun U1 w1 x y vs le hs ha hm=>by obtain rfl:=ha;exact wCL p0 am aq an au ao av ap ax x w1 U1 hs (bK.le le) (bL.le le) (bM.le le) (bN.le le) hm⟩
 refine bnK cy fun cS bO cz=>zE 0 Z Z Z Z (zD Z Z Try.call85 (zB Z (zB Z zM)) Z) ba (fun hs=>wDF p1 aN aO (fun x=>wAd p0 x) (.func (.func 84) #[.agg B0.toArray] #[]) aI U9 hs bJ cg bO) (.inr Z) ?_
 rintro bi cL cQ bD cN cn ⟨rfl,rfl⟩
 have co:sW w U bi [.blk b2 28 B0] bD:=cn
 refine oR Z (Zd Z Z) (oA Z Z (eN (ifc cz ?_ ?_)))
 intro a7 cA
 refine ZI (nC a7.out) (sR gEl Z (oM Z Z ?_))
 cases cA
 intro a7 cB
 refine ZT (nF (a7.out)) (sR fL2 Z (oA Z Z (oA Z Z (eN (zU (zx (za ?_)))))))
 cases cB
 exact ⟨rfl,_,(wDm rfl rfl),bi,_,(co.pick [] _ (by decide) rfl),rfl,rfl⟩
 intro a6 cC
 refine cT Z a6 (sR fL3 Z (oM Z Z (oA Z Z (oA Z Z (eN (zU (zx (za ?_))))))))
 cases cC
 exact ⟨rfl,_,(wDm rfl rfl),U9,_,(ba.pick [] _ (by decide) rfl),rfl,rfl⟩
 try dsimp only at ay
 obtain ⟨aJ,aP,aX,aQ,aY,aR,aZ,aS,a5,ag,aj,ai,aG,aK,rfl,rfl,bP,bQ,bR,bS,bn⟩:=bs
 let B1:Res:=.blk aJ 124 [.slice aP ae.Race.Starts.length aX,.slice aQ ae.Race.Splits.length aY,.slice aR ae.Race.Clocks.length aZ,.slice aS ae.Race.Readings.length a5,.map (some ag),.slice aG ae.edges.length aK]
 let B2:Res:=.row aG aK 130 7 (hD wAR ae.edges)
 have bb:sW w U U9 [B1,.obj ag (.map aj ai),B2,.blk b2 28 B0] aI:=bu
 refine oM Z Z (oR Z (zT Z Z (v:=.pointer (some ⟨aJ,0,none⟩)) Z) (oR Z (zT Z Z (v:=jV x6) Z) (oA Z Z (oA Z Z (eN (zL (zd (sR fL3 Z (oM Z Z (oR Z (Zg Z Z Z) (oA Z Z (eN (ifc ay ?_ ?_)))))))))))))
 intro a8 cD
 refine ZI (zt (fun h=>h a8.out)) (sR (wCg gDy) Z (oM Z Z (oL Z (bb.ldBA (j:=3) Z Z Z zg zW (vs:=B0) Z Z) (oR Z (Runs.mkf Z (zB Z zM) zM) ?_))))
 have bT:=bx.le ac
 have bU:=bc.le ac
 have bV:=bd.le ac
 have bW:=be.le ac
 have bX:=bf.le ac
 have ci:FnOK Try.prog U9 (.func (.func 84) #[.agg B0.toArray] #[]) wLF wLG (fun x=>wAd p0 x):=⟨84,[.agg B0.toArray],[],rfl,Try.call84,fun U1 w1 x y vs le hs ha hm=>by obtain rfl:=ha;exact wCL p0 am aq an au ao av ap ax x w1 U1 hs (bU.le le) (bV.le le) (bW.le le) (bX.le le) hm⟩
 refine bnK cD fun cU bZ cE=>zE 0 Z Z Z Z (zD Z Z Try.call85 (zB Z (zB Z zM)) Z) bb (fun hs=>wDF p1 aN aO (fun x=>wAd p0 x) (.func (.func 84) #[.agg B0.toArray] #[]) aI U9 hs bT ci bZ) (.inr Z) ?_
 rintro bj cM cR aV aL cp ⟨rfl,rfl⟩
 have bw:sW w U bj [B1,.obj ag (.map aj ai),B2,.blk b2 28 B0] aV:=cp
 refine oR Z (Zd Z Z) (oA Z Z (eN (ifc cE ?_ ?_)))
 intro a9 cG
 refine ZI (nC a9.out) (sR gEl Z (oM Z Z ?_))
 have q:=bw.freezeR (k:=2) (n:=ae.edges.length) rfl (wAE (f:=wAR) (sz:=7) (fun _=>rfl) ae.edges) (by decide)
 obtain ⟨bk,aM,bz,cq⟩:=q
 have cr:sW w U bk [B1,.obj ag (.map aj ai),.blk b2 28 B0] aV:=cq
 have ca:=bP.le aL
 have bo:=ca.le aM
 have cb:=bQ.le aL
 have bp:=cb.le aM
 have cc:=bR.le aL
 have bq:=cc.le aM
 have cd:=bS.le aL
 have br:=cd.le aM
 refine bnK cG fun cV cf cH=>zE 2 Z Z Z Z (zD Z Z Try.call63 (zB Z zM) Z) cr (fun hs=>wBi ae aJ aP aX aQ aY aR aZ aS a5 ag aj ai aG aK aV bk hs bo bp bq br bn bz cf) (.inl Z) ?_
 rintro aU cK cO bC az cm ⟨rfl,rfl⟩
 have bt:sW w U aU [B1,.obj ag (.map aj ai),.blk b2 28 B0] bC:=cm
 refine oR Z (Zd Z Z) (oA Z Z (eN (ifc cH ?_ ?_)))
 intro aW ct
 refine ZI (nC aW.out) (Zp (ZA (zI (sR fL3 Z (oM Z Z (oA Z Z (oA Z Z (eN (zU ?_)))))))))
 have bE:=bo.le az
 have bF:=bp.le az
 have bG:=bq.le az
 have bH:=br.le az
 have bI:=bz.le az
 cases ct
 exact ⟨rfl,_,(wDm rfl rfl),aU,_,(bt.pick [0,1] _ (by decide) rfl),aJ,aP,aX,aQ,aY,aR,aZ,aS,a5,ag,aj,ai,aG,aK,rfl,rfl,bE,bF,bG,bH,bn,bI⟩
 intro aW cu
 refine ZT (nF (aW.out)) (sR fL2 Z (oA Z Z (oA Z Z (eN (zU (zx (za ?_)))))))
 cases cu
 exact ⟨rfl,_,(wDm rfl rfl),aU,_,(bt.pick [] _ (by decide) rfl),rfl,rfl⟩
 intro a9 cw
 refine ZT (nF (a9.out)) (sR fL2 Z (oA Z Z (oA Z Z (eN (zU (zx (za ?_)))))))
 cases cw
 exact ⟨rfl,_,(wDm rfl rfl),bj,_,(bw.pick [] _ (by decide) rfl),rfl,rfl⟩
 intro a8 cx
 refine cT Z a8 (sR fL3 Z (oM Z Z (oA Z Z (oA Z Z (eN (zU (zx (za ?_))))))))
 cases cx
 exact ⟨rfl,_,(wDm rfl rfl),U9,_,(bb.pick [] _ (by decide) rfl),rfl,rfl⟩
theorem wDG (p0:wAO) (w:World) (U:PHeap) (hS:St0 w U [])  {r:wAL} (hm:wCb p0=some r):Gv Try.prog 49 [.agg #[jV p0.Skier,jV p0.Mat]] w (wBs w [] U (fun U_ L_ v=>v=.agg #[jV r.skier,jV r.mat]/\L_=[])):=by
 unfold wCb at hm
 refine Gv.of Try.func49 Z Try.ntmps49 Try.results49 Z (sR gDq Z ?_)
 let B0:List Value:=[jV p0.Skier,jV p0.Mat]
 refine zu (cs:=B0) rfl rfl rfl rfl rfl rfl (by rfl) hS ?_
 intro W1 b2 aj
 refine zR (cs:=[jV 0,jV 0]) Z Z Z Z Z zZ Z aj ?_
 intro W5 b6 ac
 refine eN (sR (wHI (.fx 5 .nil .stop)) Z (oR Z (zG Z Z yM Z zC) (oL Z (ac.ldB (j:=1) Z Z Z zJ (v:=jV p0.Skier) Z) (oR Z (zG Z Z yM Z zC) (oL Z (ac.ldB (j:=1) Z Z Z zJ (v:=jV p0.Mat) Z) (oR Z (zl (pv:=[(0,jV p0.Skier),(1,jV p0.Mat)]) (z:=[jV 0,jV 0]) (cs:=B0) Z (wAH Z (wAH Z wAP)) zZ wBL Z Z) (zV (j:=0) (vs:=B0) Z Z Z Z ac Z Z Z Z zF (zA Z) Z Z Z ?_)))))))
 intro W9 ai
 have ae:sW w U U [.blk b6 104 B0,.blk b2 45 B0] W9:=ai
 refine eN (zU ?_)
 cases hm
 exact ⟨rfl,_,(wFg (v:=.agg B0.toArray) ⟨⟨_,rfl,(wAq zh zF (ae.blkAt (k:=0) rfl) (vs:=B0) rfl rfl)⟩,trivial⟩),U,_,(ae.pick [] _ (by decide) rfl),rfl,rfl⟩
theorem wDi (p0:wAY) (av:Nat) (aG:Option Addr) (aL:Nat) (aH:Option Addr) (aM:Nat) (aI:Option Addr) (aN:Nat) (aJ:Option Addr) (aO:Nat) (ab:Nat) (ac:Array MapEntry) (ae:Nat) (aK:Option Addr) (aP:Nat) (p1:wAL) (p2:wAL) (w:World) (U:PHeap) (hS:St0 w U [.blk av 124 [.slice aG p0.Race.Starts.length aL,.slice aH p0.Race.Splits.length aM,.slice aI p0.Race.Clocks.length aN,.slice aJ p0.Race.Readings.length aO,.map (some ab),.slice aK p0.edges.length aP],.obj ab (.map ac ae)]) (bA:Sl U 1 aG aL p0.Race.Starts.length (hD KL.encI p0.Race.Starts)) (bB:Sl U 2 aH aM p0.Race.Splits.length (hD wAC p0.Race.Splits)) (bC:Sl U 3 aI aN p0.Race.Clocks.length (hD wAB p0.Race.Clocks)) (bD:Sl U 4 aJ aO p0.Race.Readings.length (hD wAA p0.Race.Readings)) (aQ:MpR ac wBC wBJ p0.number) (bE:Sl U 7 aK aP p0.edges.length (hD wAR p0.edges)) {r:wAG} (hm:wBD p0 p1 p2=some r):Gv Try.prog 47 [.pointer (some ⟨av,0,none⟩),.agg #[jV p1.skier,jV p1.mat],.agg #[jV p2.skier,jV p2.mat]] w (wBs w [.blk av 124 [.slice aG p0.Race.Starts.length aL,.slice aH p0.Race.Splits.length aM,.slice aI p0.Race.Clocks.length aN,.slice aJ p0.Race.Readings.length aO,.map (some ab),.slice aK p0.edges.length aP],.obj ab (.map ac ae)] U (fun U_ L_ v=>v=.agg #[jV r.Lo,jV r.Hi]/\L_=[.blk av 124 [.slice aG p0.Race.Starts.length aL,.slice aH p0.Race.Splits.length aM,.slice aI p0.Race.Clocks.length aN,.slice aJ p0.Race.Readings.length aO,.map (some ab),.slice aK p0.edges.length aP],.obj ab (.map ac ae)])):=by
 unfold wBD at hm
 refine Gv.of Try.func47 Z Try.ntmps47 Try.results47 Z (sR gDz Z ?_)
 let B0:List Value:=[jV p1.skier,jV p1.mat]
 refine zu (cs:=B0) rfl rfl rfl rfl rfl rfl (by rfl) hS ?_
 intro W3 b4 dG
 let B1:List Value:=[jV p2.skier,jV p2.mat]
 refine zu (cs:=B1) rfl rfl rfl rfl rfl rfl (by rfl) dG ?_
 intro W7 b8 dO
 let B2:List Value:=[jV 0,jV 0]
 refine zR (cs:=B2) Z Z Z Z Z ZJ Z dO ?_
 intro cd ai dr
 refine eN ?_
 have q:=bnd hm
 obtain ⟨⟨az,bG⟩,dV,cD⟩:=q
 try dsimp only at cD
 let B3:Res:=.blk av 124 [.slice aG p0.Race.Starts.length aL,.slice aH p0.Race.Splits.length aM,.slice aI p0.Race.Clocks.length aN,.slice aJ p0.Race.Readings.length aO,.map (some ab),.slice aK p0.edges.length aP]
 refine yP (fun σ_ w_=>∃ (U_:PHeap) (a8:Nat) (aV:Option Addr) (aX:Nat) (a6:Option Addr) (ba:Nat),σ_ 0=.pointer (some ⟨av,0,none⟩)/\σ_ 4=.pointer (some ⟨b4,0,none⟩)/\σ_ 5=.pointer (some ⟨b8,0,none⟩)/\σ_ 6=.pointer (some ⟨ai,0,none⟩)/\σ_ 7=.pointer (some ⟨a8,0,none⟩)/\PHeap.Le U U_/\SW w [B3,.obj ab (.map ac ae)] U U_ [B3,.obj ab (.map ac ae),.blk ai 41 B2,.blk b8 104 B1,.blk b4 104 B0,.blk a8 118 [.slice aV az.length aX,.slice a6 bG.length ba],.row aV aX 3 1 (hD KL.encI az),.row a6 ba 3 1 (hD KL.encI bG)] w_) ?_ ?_
 have q:=bnd dV
 obtain ⟨⟨ap,cH,cI⟩,cy,bP⟩:=q
 try dsimp only at bP
 refine ZG ZH [3,3,3,3,1,1,1,0,3,3,3,3,2,0,3,3] (wKa (.fx 7 (wHk gEm) (.fx 12 (.fx 7 (wHk gEa) (.stop)) (.stop)))) (by kernel_rfl) ?_
 have aZ:=dr.drew
 generalize hw_W54:({ cd with drawn:=cd.drawn + 1 }:World)=cm at aZ ⊢
 refine oM Z Z (oM Z Z (oR Z (Ze Z Z) (oR Z (zG Z Z ZN Z yD) (oL Z (aZ.ldB (j:=3) Z Z Z yH (v:=.map (some ab)) Z) (oL Z (aZ.ldBA (j:=2) Z Z Z zh zF (vs:=B0) Z Z) (oL Z (aZ.lookup1 (j:=4) (mk:=wBC) (mv:=wBJ) (a:=p1) (z:=0) Z Z Z Z (wBh ZQ) wCi ZB aQ) (zn ?_ ?_)))))))
 have dH:SW w [B3,.obj ab (.map ac ae)] U U [B3,.obj ab (.map ac ae),.blk ai 41 B2,.blk b8 104 B1,.blk b4 104 B0] cm:=aZ.pick [3,4,0,1,2] _ (by decide) rfl
 refine zE 2 Z Z Z Z (zD Z Z Try.call57 (zB Z (zB Z (zB Z zM))) Z) dH (fun hs=>wBM p0 av aG aL aH aM aI aN aJ aO ab ac ae aK aP (wAw p0.number p1 0) false cm U hs bA bB bC bD aQ bE cy) (.inl Z) ?_
 rintro bL ec ey cQ dY dI ⟨bh,bu,bi,bv,rfl,rfl⟩
 let B4:Res:=.row bh bu 3 1 (hD KL.encI ap.far)
 let B5:Res:=.row bi bv 3 1 (hD KL.encI ap.by_)
 have dJ:SW w [B3,.obj ab (.map ac ae)] U bL [B4,B5,B3,.obj ab (.map ac ae),.blk ai 41 B2,.blk b8 104 B1,.blk b4 104 B0] cQ:=dI
 refine oM Z Z (oR Z (zT Z Z (v:=.agg #[.slice bh ap.far.length bu,.slice bi ap.by_.length bv]) Z) (oR Z (zT Z Z (v:=jV cH) Z) (oR Z (zT Z Z (v:=.bool cI) Z) (zR (cs:=[.slice none 0 0,.slice none 0 0]) Z Z Z Z Z Zl Z dJ ?_))))
 intro en cp dK
 let B6:List Value:=[.slice bh ap.far.length bu,.slice bi ap.by_.length bv]
 refine zV (j:=0) (vs:=B6) Z Z Z Z dK Z Z Z Z yE (zA Z) Z Z Z ?_
 intro cR dL
 have dM:SW w [B3,.obj ab (.map ac ae)] U bL [.blk cp 118 B6,B4,B5,B3,.obj ab (.map ac ae),.blk ai 41 B2,.blk b8 104 B1,.blk b4 104 B0] cR:=dL
 refine oA Z Z (oA Z Z (zc ?_))
 cases bP
 exact zI ⟨rfl,⟨bL,cp,bh,bu,bi,bv,rfl,rfl,rfl,rfl,rfl,dY,(dM.pick [3,4,5,6,7,0,1,2] _ (by decide) rfl)⟩⟩
 let B7:List Value:=[.slice none 0 0,.slice none 0 0]
 refine zR (cs:=B7) Z Z Z Z Z Zl Z aZ ?_
 intro cn bn dN
 have dP:SW w [B3,.obj ab (.map ac ae)] U U [B3,.obj ab (.map ac ae),.blk bn 118 B7,.blk ai 41 B2,.blk b8 104 B1,.blk b4 104 B0] cn:=dN.pick [4,5,0,1,2,3] _ (by decide) rfl
 refine zE 2 Z Z Z Z (zD Z Z Try.call57 (zB Z (zB Z (zB Z zM))) Z) dP (fun hs=>wBM p0 av aG aL aH aM aI aN aJ aO ab ac ae aK aP (wAw p0.number p1 0) false cn U hs bA bB bC bD aQ bE cy) (.inl Z) ?_
 rintro bM ef ez cS dZ di ⟨bb,bo,bc,bp,rfl,rfl⟩
 let B8:Res:=.row bb bo 3 1 (hD KL.encI ap.far)
 let B9:Res:=.row bc bp 3 1 (hD KL.encI ap.by_)
 have dk:SW w [B3,.obj ab (.map ac ae)] U bM [B8,B9,B3,.obj ab (.map ac ae),.blk bn 118 B7,.blk ai 41 B2,.blk b8 104 B1,.blk b4 104 B0] cS:=di
 refine oM Z Z (oR Z (zT Z Z (v:=.agg #[.slice bb ap.far.length bo,.slice bc ap.by_.length bp]) Z) (oR Z (zT Z Z (v:=jV cH) Z) (oR Z (zT Z Z (v:=.bool cI) Z) ?_)))
 let bQ:List Value:=[.slice bb ap.far.length bo,.slice bc ap.by_.length bp]
 refine zV (j:=4) (vs:=bQ) Z Z Z Z dk Z Z Z Z yE (zA Z) Z Z Z ?_
 intro cJ dl
 have dm:SW w [B3,.obj ab (.map ac ae)] U bM [B8,B9,B3,.obj ab (.map ac ae),.blk bn 118 bQ,.blk ai 41 B2,.blk b8 104 B1,.blk b4 104 B0] cJ:=dl
 refine oA Z Z (oA Z Z (zc ?_))
 cases bP
 exact zI ⟨rfl,⟨bM,bn,bb,bo,bc,bp,rfl,rfl,rfl,rfl,rfl,dZ,(dm.pick [2,3,5,6,7,4,0,1] _ (by decide) rfl)⟩⟩
 rintro eA cf ⟨bj,a8,aV,aX,a6,ba,bw,cq,bN,cr,ct,ax,dq⟩
 have q:=bnd cD
 obtain ⟨⟨ay,bF⟩,dU,cC⟩:=q
 try dsimp only at cC
 let aR:Res:=.blk a8 118 [.slice aV az.length aX,.slice a6 bG.length ba]
 let aS:Res:=.row aV aX 3 1 (hD KL.encI az)
 let aT:Res:=.row a6 ba 3 1 (hD KL.encI bG)
 refine yP (fun σ_ w_=>∃ (U_:PHeap) (bk:Nat) (aU:Option Addr) (aW:Nat) (a5:Option Addr) (a9:Nat),σ_ 0=.pointer (some ⟨av,0,none⟩)/\σ_ 4=.pointer (some ⟨b4,0,none⟩)/\σ_ 5=.pointer (some ⟨b8,0,none⟩)/\σ_ 6=.pointer (some ⟨ai,0,none⟩)/\σ_ 7=.pointer (some ⟨a8,0,none⟩)/\σ_ 10=.pointer (some ⟨bk,0,none⟩)/\PHeap.Le bj U_/\SW w [B3,.obj ab (.map ac ae)] U U_ [B3,.obj ab (.map ac ae),.blk ai 41 B2,.blk b8 104 B1,.blk b4 104 B0,aS,aT,aR,.blk bk 118 [.slice aU ay.length aW,.slice a5 bF.length a9],.row aU aW 3 1 (hD KL.encI ay),.row a5 a9 3 1 (hD KL.encI bF)] w_) ?_ ?_
 have q:=bnd dU
 obtain ⟨⟨ao,cE,cG⟩,cx,bO⟩:=q
 try dsimp only at bO
 refine ZG ZH [3,3,3,3,1,1,1,0,3,3,3,3,2,0,3,3] (wKa (.fx 7 (wHk gEm) (.fx 12 (.fx 7 (wHk gEa) (.stop)) (.stop)))) (by kernel_rfl) ?_
 have aY:=dq.drew
 generalize hw_W172:({ cf with drawn:=cf.drawn + 1 }:World)=cK at aY ⊢
 refine oM Z bw (oM Z bw (oR Z (Ze Z Z) (oR Z (zG Z Z ZN Z yD) (oL Z (aY.ldB (j:=0) Z Z Z yH (v:=.map (some ab)) Z) (oL Z (aY.ldBA (j:=3) Z Z bN zh zF (vs:=B1) Z Z) (oL Z (aY.lookup1 (j:=1) (mk:=wBC) (mv:=wBJ) (a:=p2) (z:=0) Z Z Z Z (wBh ZQ) wCi ZB aQ) (zn ?_ ?_)))))))
 have cY:=bA.le ax
 have cZ:=bB.le ax
 have c6:=bC.le ax
 have da:=bD.le ax
 have db:=bE.le ax
 refine zE 2 Z Z Z Z (zD Z Z Try.call57 (zB Z (zB Z (zB Z zM))) Z) aY (fun hs=>wBM p0 av aG aL aH aM aI aN aJ aO ab ac ae aK aP (wAw p0.number p2 0) false cK bj hs cY cZ c6 da aQ db cx) (.inl Z) ?_
 rintro bJ d7 eu cL dW dt ⟨bd,bq,be,br,rfl,rfl⟩
 let bR:Res:=.row bd bq 3 1 (hD KL.encI ao.far)
 let bS:Res:=.row be br 3 1 (hD KL.encI ao.by_)
 have du:SW w [B3,.obj ab (.map ac ae)] U bJ [bR,bS,B3,.obj ab (.map ac ae),.blk ai 41 B2,.blk b8 104 B1,.blk b4 104 B0,aR,aS,aT] cL:=dt
 refine oM Z Z (oR Z (zT Z Z (v:=.agg #[.slice bd ao.far.length bq,.slice be ao.by_.length br]) Z) (oR Z (zT Z Z (v:=jV cE) Z) (oR Z (zT Z Z (v:=.bool cG) Z) (zR (cs:=[.slice none 0 0,.slice none 0 0]) Z Z Z Z Z Zl Z du ?_))))
 intro eg co dv
 let bT:List Value:=[.slice bd ao.far.length bq,.slice be ao.by_.length br]
 refine zV (j:=0) (vs:=bT) Z Z Z Z dv Z Z Z Z yE (zA Z) Z Z Z ?_
 intro cM dw
 have dx:SW w [B3,.obj ab (.map ac ae)] U bJ [.blk co 118 bT,bR,bS,B3,.obj ab (.map ac ae),.blk ai 41 B2,.blk b8 104 B1,.blk b4 104 B0,aR,aS,aT] cM:=dw
 refine oA Z Z (oA Z Z (zc ?_))
 cases bO
 exact zI ⟨rfl,⟨bJ,co,bd,bq,be,br,bw,cq,bN,cr,ct,rfl,dW,(dx.pick [3,4,5,6,7,9,10,8,0,1,2] _ (by decide) rfl)⟩⟩
 let bH:List Value:=[.slice none 0 0,.slice none 0 0]
 refine zR (cs:=bH) Z Z Z Z Z Zl Z aY ?_
 intro cg bm dy
 have dd:=bA.le ax
 have de:=bB.le ax
 have df:=bC.le ax
 have dg:=bD.le ax
 have dh:=bE.le ax
 have dz:SW w [B3,.obj ab (.map ac ae)] U bj [B3,.obj ab (.map ac ae),.blk bm 118 bH,.blk ai 41 B2,.blk b8 104 B1,.blk b4 104 B0,aR,aS,aT] cg:=dy.pick [1,2,0,3,4,5,6,7,8] _ (by decide) rfl
 refine zE 2 Z Z Z Z (zD Z Z Try.call57 (zB Z (zB Z (zB Z zM))) Z) dz (fun hs=>wBM p0 av aG aL aH aM aI aN aJ aO ab ac ae aK aP (wAw p0.number p2 0) false cg bj hs dd de df dg aQ dh cx) (.inl Z) ?_
 rintro bK d9 ew cN dX dA ⟨bf,bs,bg,bt,rfl,rfl⟩
 let bU:Res:=.row bf bs 3 1 (hD KL.encI ao.far)
 let bV:Res:=.row bg bt 3 1 (hD KL.encI ao.by_)
 have dB:SW w [B3,.obj ab (.map ac ae)] U bK [bU,bV,B3,.obj ab (.map ac ae),.blk bm 118 bH,.blk ai 41 B2,.blk b8 104 B1,.blk b4 104 B0,aR,aS,aT] cN:=dA
 refine oM Z Z (oR Z (zT Z Z (v:=.agg #[.slice bf ao.far.length bs,.slice bg ao.by_.length bt]) Z) (oR Z (zT Z Z (v:=jV cE) Z) (oR Z (zT Z Z (v:=.bool cG) Z) ?_)))
 let bW:List Value:=[.slice bf ao.far.length bs,.slice bg ao.by_.length bt]
 refine zV (j:=4) (vs:=bW) Z Z Z Z dB Z Z Z Z yE (zA Z) Z Z Z ?_
 intro cO dC
 have dD:SW w [B3,.obj ab (.map ac ae)] U bK [bU,bV,B3,.obj ab (.map ac ae),.blk bm 118 bW,.blk ai 41 B2,.blk b8 104 B1,.blk b4 104 B0,aR,aS,aT] cO:=dC
 refine oA Z Z (oA Z Z (zc ?_))
 cases bO
 exact zI ⟨rfl,⟨bK,bm,bf,bs,bg,bt,bw,cq,bN,cr,ct,rfl,dX,(dD.pick [2,3,5,6,7,9,10,8,4,0,1] _ (by decide) rfl)⟩⟩
 rintro eB ci ⟨cc,bk,aU,aW,a5,a9,cu,cU,cV,cw,cW,cX,er,dE⟩
 refine zL (ZG ZH [3,1,3,3,3,1,1,1,3,1,3,3,1,3,3,3,1,1,1,3,1,3,0] (wMZ (.fx 22 .nil .stop)) (by kernel_rfl) ?_)
 have an:=dE.drew
 generalize hw_W258:({ ci with drawn:=ci.drawn + 1 }:World)=eh at an ⊢
 refine oR Z (zG Z cX Za Z ZD) (oL Z (an.ldB (j:=8) Z Z Z ZL (v:=.slice aU ay.length aW) Z) (oM Z cu (oR Z (Ze Z Z) (oR Z (zG Z Z ZN Z yD) (oL Z (an.ldB (j:=0) Z Z Z yH (v:=.map (some ab)) Z) (oL Z (an.ldBA (j:=4) Z Z cU zh zF (vs:=B0) Z Z) (oL Z (an.lookup1 (j:=1) (mk:=wBC) (mv:=wBJ) (a:=p1) (z:=0) Z Z Z Z (wBh ZQ) wCi ZB aQ) (bnK cC fun _ bx dS=>?_))))))))
 obtain ⟨eo,cz⟩:=an.rowSome (j:=9) rfl (by rw [wAE (f:=KL.encI) (sz:=1) (fun _=>rfl) ay];have hz:=wAT bx;omega)
 refine oR Z (Zb Z Z cz Z zH zC (wBO bx) (wBP bx)) ?_
 have dQ:=wBA (xs:=ay) (wAT bx)
 refine ZF rfl rfl rfl rfl (an.ldR (j:=9) rfl cz rfl rfl zJ (wAV (sz:=1) (fun _=>rfl) _ _ 0 _ dQ (by first | omega | rfl | simp) rfl)) rfl (zY rfl rfl rfl rfl (fun _=>Runs.negw rfl rfl) (zY rfl rfl rfl rfl (fun _=>zG rfl cW Za rfl ZD) (ZF rfl rfl rfl rfl (an.ldB (j:=7) rfl rfl rfl ZL (v:=.slice aV az.length aX) rfl) rfl (zo rfl rfl rfl rfl rfl cu (zY rfl rfl rfl rfl (fun _=>Ze rfl rfl) (zY rfl rfl rfl rfl (fun _=>zG rfl rfl ZN rfl yD) (ZF rfl rfl rfl rfl (an.ldB (j:=0) rfl rfl rfl yH (v:=.map (some ab)) rfl) rfl (ZF rfl rfl rfl rfl (an.ldBA (j:=3) rfl rfl cV zh zF (vs:=B1) rfl rfl) rfl (ZF rfl rfl rfl rfl (an.lookup1 (j:=1) (mk:=wBC) (mv:=wBJ) (a:=p2) (z:=0) rfl rfl rfl rfl (wBh ZQ) wCi ZB aQ) rfl (bnK dS fun _ bz dT=>?_))))))))))
 obtain ⟨ep,cA⟩:=an.rowSome (j:=5) rfl (by rw [wAE (f:=KL.encI) (sz:=1) (fun _=>rfl) az];have hz:=wAT bz;omega)
 refine oR Z (Zb Z Z cA Z zH zC (wBO bz) (wBP bz)) ?_
 have dR:=wBA (xs:=az) (wAT bz)
 refine ZF rfl rfl rfl rfl (an.ldR (j:=5) rfl cA rfl rfl zJ (wAV (sz:=1) (fun _=>rfl) _ _ 0 _ dR (by first | omega | rfl | simp) rfl)) rfl ?_
 let a7:List Value:=[jV (w64 (-(gd ay (wAw p0.number p1 0).toNat))),jV (gd az (wAw p0.number p2 0).toNat)]
 refine oR Z (zl (pv:=[(0,jV (w64 (-(gd ay (wAw p0.number p1 0).toNat)))),(1,jV (gd az (wAw p0.number p2 0).toNat))]) (z:=B2) (cs:=a7) Z (wAH Z (wAH Z wAP)) ZJ wBy Z Z) (zV (j:=2) (vs:=a7) Z Z Z Z an Z cw Z Z zf (zA Z) Z Z Z ?_)
 intro cP dF
 have cB:SW w [B3,.obj ab (.map ac ae)] U cc [B3,.obj ab (.map ac ae),.blk ai 41 a7,.blk b8 104 B1,.blk b4 104 B0,aS,aT,aR,.blk bk 118 [.slice aU ay.length aW,.slice a5 bF.length a9],.row aU aW 3 1 (hD KL.encI ay),.row a5 a9 3 1 (hD KL.encI bF)] cP:=dF
 refine eN (zU ?_)
 cases dT
 exact ⟨rfl,_,(wFg (v:=.agg a7.toArray) ⟨⟨_,cw,(wAq Zi zf (cB.blkAt (k:=2) rfl) (vs:=a7) rfl rfl)⟩,trivial⟩),cc,_,(cB.pick [0,1] _ (by decide) rfl),rfl,rfl⟩
theorem wCH (p0:wAD) (aG:Option Addr) (aK:Nat) (aH:Option Addr) (aL:Nat) (aI:Option Addr) (aM:Nat) (aJ:Option Addr) (aN:Nat) (p1:wAO) (w:World) (U:PHeap) (hS:St0 w U []) (cB:Sl U 1 aG aK p0.Starts.length (hD KL.encI p0.Starts)) (cC:Sl U 2 aH aL p0.Splits.length (hD wAC p0.Splits)) (cD:Sl U 3 aI aM p0.Clocks.length (hD wAB p0.Clocks)) (cE:Sl U 4 aJ aN p0.Readings.length (hD wAA p0.Readings)) {r:wAG × Int} (hm:wBH p0 p1=some r):Gv Try.prog 15 [.agg #[.slice aG p0.Starts.length aK,.slice aH p0.Splits.length aL,.slice aI p0.Clocks.length aM,.slice aJ p0.Readings.length aN],.agg #[jV p1.Skier,jV p1.Mat]] w (wBs w [] U (fun U_ L_ v=>v=.tuple #[.agg #[jV r.1.Lo,jV r.1.Hi],jV r.2]/\L_=[])):=by
 unfold wBH at hm
 refine Gv.of Try.func15 Z Try.ntmps15 Try.results15 Z (sR (.fx 0 (.fx 1 gDs .stop) .stop) Z ?_)
 let B0:List Value:=[.slice aG p0.Starts.length aK,.slice aH p0.Splits.length aL,.slice aI p0.Clocks.length aM,.slice aJ p0.Readings.length aN]
 refine zu (cs:=B0) rfl rfl rfl rfl rfl rfl (by rfl) hS ?_
 intro W1 b2 cu
 let B1:List Value:=[jV p1.Skier,jV p1.Mat]
 refine zu (cs:=B1) rfl rfl rfl rfl rfl rfl (by rfl) cu ?_
 intro W5 b6 cy
 let B2:List Value:=[jV 0,jV 0]
 refine zR (cs:=B2) Z Z Z Z Z ZJ Z cy ?_
 intro W9 af aU
 refine oA Z Z (eN (sR (.fl 0 (.fl 1 (.fx 2 (.fx 3 (wKA (.nil)) .stop) .stop))) Z (oL Z (aU.ldBA (j:=2) Z Z Z zg zW (vs:=B0) Z Z) (oL Z (aU.ldBA (j:=1) Z Z Z Zr ZZ (vs:=B1) Z Z) (zq (pv:=[(0,.agg B1.toArray)]) (zs:=B2) (cs:=B1) Z Z Z Z Z (wAH Z wAP) Zv ZZ Zy Z Z Z Z Z aU ?_)))))
 intro aQ be cp
 have cq:sW w U U [.row (some ⟨be,0,none⟩) 1 45 2 (hD wAU [p1]),.blk af 41 B2,.blk b6 45 B1,.blk b2 28 B0] aQ:=cp
 have q:=cq.freezeR (k:=0) (n:=[p1].length) rfl (wAE (f:=wAU) (sz:=2) (fun _=>rfl) [p1]) (by decide)
 obtain ⟨a8,az,cP,cr⟩:=q
 have ct:sW w U a8 [.blk af 41 B2,.blk b6 45 B1,.blk b2 28 B0] aQ:=cr
 have bO:=cB.le az
 have bP:=cC.le az
 have bQ:=cD.le az
 have bR:=cE.le az
 have q:=bnd hm
 obtain ⟨⟨cR,aO⟩,bS,au⟩:=q
 try dsimp only at au
 refine zE 0 Z Z Z Z (zD Z Z Try.call46 (zB Z (zB Z zM)) Z) ct (fun hs=>wEY p0 aG aK aH aL aI aM aJ aN [p1] (some ⟨be,0,none⟩) 1 aQ a8 hs bO bP bQ bR cP bS) (.inr Z) ?_
 rintro aj cW dm ap df bo bk
 rcases cR with _ | aq
 try dsimp only at au
 obtain ⟨rfl,rfl⟩:=bk
 have bp:sW w U aj [.blk af 41 B2,.blk b6 45 B1,.blk b2 28 B0] ap:=bo
 refine oM Z Z (oR Z (zT Z Z (v:=.pointer none) Z) (oR Z (zT Z Z (v:=jV aO) Z) (oA Z Z (oA Z Z (eN (zL (sR fL2 Z (oM Z Z (oR Z (Zg Z Z Z) (eN (ifc au ?_ ?_)))))))))))
 intro aS cJ
 refine ZI (zt (fun h=>h aS.out)) (kN (zL (ZG ZH [3,2,1,2,0,0,3] gEv (by kernel_rfl) ?_)))
 have aV:=bp.drew
 generalize hw_W57:({ ap with drawn:=ap.drawn + 1 }:World)=bx at aV ⊢
 refine oM Z Z (oL Z (aV.ldBA (j:=1) Z Z Z Zr ZZ (vs:=B1) Z Z) (bnK cJ fun dt bT cK=>zE 0 Z Z Z Z (zD Z Z yZ zM Z) aV (fun hs=>wBS bx aj hs bT) (.inr Z) ?_))
 rintro a9 cX dq bd dg cw ⟨rfl,rfl⟩
 have cx:sW w U a9 [.blk af 41 B2,.blk b6 45 B1,.blk b2 28 B0] bd:=cw
 refine bnK cK fun du bU cL=>zE 0 Z Z Z Z (zD Z Z yl (zB Z zM) Z) cx (fun hs=>wDG p1 bd a9 hs bU) (.inr Z) ?_
 rintro bt cY dr bz dh cz ⟨rfl,rfl⟩
 have dd:sW w U bt [.blk af 41 B2,.blk b6 45 B1,.blk b2 28 B0] bz:=cz
 cases cL
 intro aS cM
 refine cT Z aS (sR gEn Z (oR Z (zl (pv:=[]) (z:=B2) (cs:=B2) Z wAP ZJ wBy Z Z) (oM Z Z (zV (j:=0) (vs:=B2) Z Z Z Z bp Z Z Z Z zf (zA Z) Z Z Z ?_))))
 intro bA cA
 have bq:sW w U aj [.blk af 41 B2,.blk b6 45 B1,.blk b2 28 B0] bA:=cA
 refine oA Z Z (eN (zU (za ?_)))
 cases cM
 exact ⟨rfl,_,(wDf (rs:=[.cell 4 41,.tmp 5]) (vs:=[.agg B2.toArray,jV aO]) ⟨⟨_,rfl,(wAq Zi zf (bq.blkAt (k:=0) rfl) (vs:=B2) rfl rfl)⟩,⟨rfl,trivial⟩⟩ rfl),aj,_,(bq.pick [] _ (by decide) rfl),rfl,rfl⟩
 try dsimp only at au
 obtain ⟨aR,aX,bf,aY,bg,aZ,bh,a5,bi,ak,an,am,a6,bj,rfl,rfl,bV,bW,bX,bY,bZ,ca⟩:=bk
 let B3:Res:=.blk aR 124 [.slice aX aq.Race.Starts.length bf,.slice aY aq.Race.Splits.length bg,.slice aZ aq.Race.Clocks.length bh,.slice a5 aq.Race.Readings.length bi,.map (some ak),.slice a6 aq.edges.length bj]
 have br:sW w U aj [B3,.obj ak (.map an am),.blk af 41 B2,.blk b6 45 B1,.blk b2 28 B0] ap:=bo
 refine oM Z Z (oR Z (zT Z Z (v:=.pointer (some ⟨aR,0,none⟩)) Z) (oR Z (zT Z Z (v:=jV aO) Z) (oA Z Z (oA Z Z (eN (zL (sR fL2 Z (oM Z Z (oR Z (Zg Z Z Z) (eN (ifc au ?_ ?_)))))))))))
 intro aT cN
 refine ZI (zt (fun h=>h aT.out)) (kN (zL (ZG ZH [3,2,1,2,0,0,3] gEv (by kernel_rfl) ?_)))
 have aW:=br.drew
 generalize hw_W94:({ ap with drawn:=ap.drawn + 1 }:World)=bB at aW ⊢
 refine oM Z Z (oL Z (aW.ldBA (j:=3) Z Z Z Zr ZZ (vs:=B1) Z Z) (bnK cN fun cS cb cO=>zE 0 Z Z Z Z (zD Z Z yZ zM Z) aW (fun hs=>wBS bB aj hs cb) (.inr Z) ?_))
 rintro ba cZ di bb av cc ⟨rfl,rfl⟩
 have cd:sW w U ba [B3,.obj ak (.map an am),.blk af 41 B2,.blk b6 45 B1,.blk b2 28 B0] bb:=cc
 refine bnK cO fun cQ bC cG=>zE 0 Z Z Z Z (zD Z Z yl (zB Z zM) Z) cd (fun hs=>wDG p1 bb ba hs bC) (.inr Z) ?_
 rintro a7 cU dk bc ax cf ⟨rfl,rfl⟩
 have cg:sW w U a7 [B3,.obj ak (.map an am),.blk af 41 B2,.blk b6 45 B1,.blk b2 28 B0] bc:=cf
 have bD:=bV.le av
 have bE:=bD.le ax
 have bF:=bW.le av
 have bG:=bF.le ax
 have bH:=bX.le av
 have bI:=bH.le ax
 have bJ:=bY.le av
 have bK:=bJ.le ax
 have bL:=ca.le av
 have bM:=bL.le ax
 refine bnK cG fun bs bN cH=>zE 2 Z Z Z Z (zD Z Z Try.call47 (zB Z (zB Z (zB Z zM))) Z) cg (fun hs=>wDi aq aR aX bf aY bg aZ bh a5 bi ak an am a6 bj cS cQ bc a7 hs bE bG bI bK bZ bM bN) (.inl Z) ?_
 rintro aP cV dl bu de ci ⟨rfl,rfl⟩
 have cm:sW w U aP [B3,.obj ak (.map an am),.blk af 41 B2,.blk b6 45 B1,.blk b2 28 B0] bu:=ci
 let B4:List Value:=[jV bs.Lo,jV bs.Hi]
 refine zV (j:=2) (vs:=B4) Z Z Z Z cm Z Z Z Z zf (zA Z) Z Z Z ?_
 intro bv cn
 have bm:sW w U aP [B3,.obj ak (.map an am),.blk af 41 B4,.blk b6 45 B1,.blk b2 28 B0] bv:=cn
 refine oA Z Z (eN (zU ?_))
 cases cH
 exact ⟨rfl,_,(wDf (rs:=[.cell 4 41,.tmp 5]) (vs:=[.agg B4.toArray,jV 0]) ⟨⟨_,rfl,(wAq Zi zf (bm.blkAt (k:=2) rfl) (vs:=B4) rfl rfl)⟩,⟨rfl,trivial⟩⟩ rfl),aP,_,(bm.pick [] _ (by decide) rfl),rfl,rfl⟩
 intro aT cI
 refine cT Z aT (sR gEn Z (oR Z (zl (pv:=[]) (z:=B2) (cs:=B2) Z wAP ZJ wBy Z Z) (oM Z Z (zV (j:=2) (vs:=B2) Z Z Z Z br Z Z Z Z zf (zA Z) Z Z Z ?_))))
 intro bw co
 have bn:sW w U aj [B3,.obj ak (.map an am),.blk af 41 B2,.blk b6 45 B1,.blk b2 28 B0] bw:=co
 refine oA Z Z (eN (zU (za ?_)))
 cases cI
 exact ⟨rfl,_,(wDf (rs:=[.cell 4 41,.tmp 5]) (vs:=[.agg B2.toArray,jV aO]) ⟨⟨_,rfl,(wAq Zi zf (bn.blkAt (k:=2) rfl) (vs:=B2) rfl rfl)⟩,⟨rfl,trivial⟩⟩ rfl),aj,_,(bn.pick [] _ (by decide) rfl),rfl,rfl⟩
end Go.Proofs.Ytlnfbjphfoipaaa
namespace Go.Proofs.Ytlnfbjphfoipaaa
open Go.KL
set_option maxHeartbeats 4000000
theorem wHA (p0:wAD) (aj:Option Addr) (ao:Nat) (ak:Option Addr) (ap:Nat) (am:Option Addr) (aq:Nat) (an:Option Addr) (au:Nat) (p1:Int) (w:World) (U:PHeap) (hS:St0 w U []) (bn:Sl U 1 aj ao p0.Starts.length (hD KL.encI p0.Starts)) (bo:Sl U 2 ak ap p0.Splits.length (hD wAC p0.Splits)) (bp:Sl U 3 am aq p0.Clocks.length (hD wAB p0.Clocks)) (bq:Sl U 4 an au p0.Readings.length (hD wAA p0.Readings)) {r:(Option wAY) × Int} (hm:wDD p0 p1=some r):Gv Try.prog 50 [.agg #[.slice aj p0.Starts.length ao,.slice ak p0.Splits.length ap,.slice am p0.Clocks.length aq,.slice an p0.Readings.length au],jV p1] w (wBs w [] U (fun U_ L_ v=>match r.1 with | none=>v=.tuple #[.pointer none,jV r.2]/\L_=[] | some d=>∃ (b0:Nat) (A0p00:Option Addr) (c0p00:Nat) (A0p01:Option Addr) (c0p01:Nat) (A0p02:Option Addr) (c0p02:Nat) (A0p03:Option Addr) (c0p03:Nat) (m0p1:Nat) (es0p1:Array MapEntry) (ck0p1:Nat) (A0p2:Option Addr) (c0p2:Nat),v=.tuple #[.pointer (some ⟨b0,0,none⟩),jV r.2]/\L_=[.blk b0 124 [.slice A0p00 d.Race.Starts.length c0p00,.slice A0p01 d.Race.Splits.length c0p01,.slice A0p02 d.Race.Clocks.length c0p02,.slice A0p03 d.Race.Readings.length c0p03,.map (some m0p1),.slice A0p2 d.edges.length c0p2],.obj m0p1 (.map es0p1 ck0p1)]/\Sl U_ 1 A0p00 c0p00 d.Race.Starts.length (hD KL.encI d.Race.Starts)/\Sl U_ 2 A0p01 c0p01 d.Race.Splits.length (hD wAC d.Race.Splits)/\Sl U_ 3 A0p02 c0p02 d.Race.Clocks.length (hD wAB d.Race.Clocks)/\Sl U_ 4 A0p03 c0p03 d.Race.Readings.length (hD wAA d.Race.Readings)/\MpR es0p1 wBC wBJ d.number/\Sl U_ 7 A0p2 c0p2 d.edges.length (hD wAR d.edges))):=by
 unfold wDD at hm
 refine Gv.of Try.func50 Z Try.ntmps50 Try.results50 Z (sR gDx Z ?_)
 let B0:List Value:=[.slice aj p0.Starts.length ao,.slice ak p0.Splits.length ap,.slice am p0.Clocks.length aq,.slice an p0.Readings.length au]
 refine zu (cs:=B0) rfl rfl rfl rfl rfl rfl (by rfl) hS ?_
 intro W1 b2 aY
 refine oA Z Z (oA Z Z (eN (sR (wCg (.fx 3 (.fx 4 (wGg (.nil)) .stop) .stop)) Z (oL Z (aY.ldBA (j:=0) Z Z Z zg zW (vs:=B0) Z Z) (oM Z Z ?_)))))
 let B1:List Value:=[jV 0,jV p1]
 refine oR Z (zl (pv:=[(0,jV 0),(1,jV p1)]) (z:=[jV 0,jV 0]) (cs:=B1) Z (wAH Z (wAH Z wAP)) Zy wEf Z Z) (zq (pv:=[(0,.agg B1.toArray)]) (zs:=[jV 0,jV 0]) (cs:=B1) Z Z Z Z Z (wAH Z wAP) Zv ZZ Zy Z Z Z Z Z aY ?_)
 intro W5 b6 bk
 have bm:sW w U U [.row (some ⟨b6,0,none⟩) 1 45 2 (hD wAU [(⟨0,p1⟩:wAO)]),.blk b2 28 B0] W5:=bk
 have q:=bm.freezeR (k:=0) (n:=[(⟨0,p1⟩:wAO)].length) rfl (wAE (f:=wAU) (sz:=2) (fun _=>rfl) [(⟨0,p1⟩:wAO)]) (by decide)
 obtain ⟨aL,ai,br,bg⟩:=q
 have bh:sW w U aL [.blk b2 28 B0] W5:=bg
 have a5:=bn.le ai
 have a6:=bo.le ai
 have a7:=bp.le ai
 have a8:=bq.le ai
 have q:=bnd hm
 obtain ⟨⟨bs,aZ⟩,a9,ae⟩:=q
 try dsimp only at ae
 refine zE 0 Z Z Z Z (zD Z Z Try.call46 (zB Z (zB Z zM)) Z) bh (fun hs=>wEY p0 aj ao ak ap am aq an au [(⟨0,p1⟩:wAO)] (some ⟨b6,0,none⟩) 1 W5 aL hs a5 a6 a7 a8 br a9) (.inr Z) ?_
 rintro ag bt bw aM bv aX aW
 rcases bs with _ | af
 try dsimp only at ae
 obtain ⟨rfl,rfl⟩:=aW
 have bi:sW w U ag [.blk b2 28 B0] aM:=aX
 refine oR Z (zT Z Z (v:=.pointer none) Z) (oR Z (zT Z Z (v:=jV aZ) Z) (oA Z Z (oA Z Z (eN (zU ?_)))))
 cases ae
 exact ⟨rfl,_,(wDm rfl rfl),ag,_,(bi.pick [] _ (by decide) rfl),rfl,rfl⟩
 try dsimp only at ae
 obtain ⟨ay,aG,aP,aH,aQ,aI,aR,aJ,aS,az,aV,aT,aK,aU,rfl,rfl,ba,bb,bc,bd,be,bf⟩:=aW
 have bj:sW w U ag [.blk ay 124 [.slice aG af.Race.Starts.length aP,.slice aH af.Race.Splits.length aQ,.slice aI af.Race.Clocks.length aR,.slice aJ af.Race.Readings.length aS,.map (some az),.slice aK af.edges.length aU],.obj az (.map aV aT),.blk b2 28 B0] aM:=aX
 refine oR Z (zT Z Z (v:=.pointer (some ⟨ay,0,none⟩)) Z) (oR Z (zT Z Z (v:=jV aZ) Z) (oA Z Z (oA Z Z (eN (zU ?_)))))
 cases ae
 exact ⟨rfl,_,(wDm rfl rfl),ag,_,(bj.pick [0,1] _ (by decide) rfl),ay,aG,aP,aH,aQ,aI,aR,aJ,aS,az,aV,aT,aK,aU,rfl,rfl,ba,bb,bc,bd,be,bf⟩
theorem wEi (p0:wAY) (ap:Nat) (ao:Option Addr) (aq:Nat) (ay:Option Addr) (aI:Nat) (az:Option Addr) (aJ:Nat) (aG:Option Addr) (aK:Nat) (ab:Nat) (ac:Array MapEntry) (ae:Nat) (aH:Option Addr) (aL:Nat) (p1:Int) (w:World) (U:PHeap) (hS:St0 w U [.blk ap 124 [.slice ao p0.Race.Starts.length aq,.slice ay p0.Race.Splits.length aI,.slice az p0.Race.Clocks.length aJ,.slice aG p0.Race.Readings.length aK,.map (some ab),.slice aH p0.edges.length aL],.obj ab (.map ac ae)]) (cA:Sl U 1 ao aq p0.Race.Starts.length (hD KL.encI p0.Race.Starts)) (cB:Sl U 2 ay aI p0.Race.Splits.length (hD wAC p0.Race.Splits)) (cC:Sl U 3 az aJ p0.Race.Clocks.length (hD wAB p0.Race.Clocks)) (cD:Sl U 4 aG aK p0.Race.Readings.length (hD wAA p0.Race.Readings)) (a8:MpR ac wBC wBJ p0.number) (cE:Sl U 7 aH aL p0.edges.length (hD wAR p0.edges)) {r:(Arr Int 64)} (hm:wBe p0 p1=some r):Gv Try.prog 51 [.pointer (some ⟨ap,0,none⟩),jV p1] w (wBs w [.blk ap 124 [.slice ao p0.Race.Starts.length aq,.slice ay p0.Race.Splits.length aI,.slice az p0.Race.Clocks.length aJ,.slice aG p0.Race.Readings.length aK,.map (some ab),.slice aH p0.edges.length aL],.obj ab (.map ac ae)] U (fun U_ L_ v=>v=.agg (hD KL.encI r.l).toArray/\L_=[.blk ap 124 [.slice ao p0.Race.Starts.length aq,.slice ay p0.Race.Splits.length aI,.slice az p0.Race.Clocks.length aJ,.slice aG p0.Race.Readings.length aK,.map (some ab),.slice aH p0.edges.length aL],.obj ab (.map ac ae)])):=by
 unfold wBe at hm
 refine Gv.of Try.func51 Z Try.ntmps51 Try.results51 Z (sR (.fx 0 .nil .stop) Z (zR (cs:=hD KL.encI (Arr.fill 64 0).l) Z Z Z Z Z Try.zeroValue109 Z hS ?_))
 intro W3 b4 cq
 let B0:Res:=.blk ap 124 [.slice ao p0.Race.Starts.length aq,.slice ay p0.Race.Splits.length aI,.slice az p0.Race.Clocks.length aJ,.slice aG p0.Race.Readings.length aK,.map (some ab),.slice aH p0.edges.length aL]
 have cx:SW w [B0,.obj ab (.map ac ae)] U U [.blk b4 109 (hD KL.encI (Arr.fill 64 0).l),B0,.obj ab (.map ac ae)] W3:=cq
 refine eN (sR (.fx 0 .nil .stop) Z (zR (cs:=hD KL.encI (Arr.fill 64 0).l) Z Z Z Z Z Try.zeroValue109 Z cx ?_))
 intro W8 b9 ci
 have bv:SW w [B0,.obj ab (.map ac ae)] U U [.blk b9 109 (hD KL.encI (Arr.fill 64 0).l),.blk b4 109 (hD KL.encI (Arr.fill 64 0).l),B0,.obj ab (.map ac ae)] W8:=ci
 refine eN (zL (sR fL7 Z (oM Z Z (oR Z (Ze Z Z) (oR Z (zG Z Z ZN Z zW) (oR Z (zG Z Z zK Z ZD) (oL Z (bv.ldB (j:=2) Z Z Z ZL (v:=.slice ao p0.Race.Starts.length aq) Z) (oR Z (zw Z Z zH) (oM Z Z (eN (zd (bnK hm fun ak cG cR=>?_))))))))))))
 have q:=wAx cG
 obtain ⟨bb,cH⟩:=q
 replace bb:=zN bb
 refine CK.forN' (fun ag aM σ_ w_=>∃ (U_:PHeap),σ_ 17=jV (↑ag:Int)/\σ_ 0=.pointer (some ⟨ap,0,none⟩)/\σ_ 1=jV p1/\σ_ 4=.pointer (some ⟨b4,0,none⟩)/\σ_ 5=.pointer (some ⟨b9,0,none⟩)/\σ_ 16=jV (↑p0.Race.Starts.length:Int)/\PHeap.Le U U_/\SW w [B0,.obj ab (.map ac ae)] U U_ [.blk b9 109 (hD KL.encI aM.l),.blk b4 109 (hD KL.encI (Arr.fill 64 0).l),B0,.obj ab (.map ac ae)] w_) cH ?_ ?_ ?_
 exact ⟨U,Z,Z,Z,Z,Z,Z,(zO _),bv⟩
 rintro ag aM dr dx bg a9 ⟨be,a5,aU,bo,bV,bW,bp,ax,a7⟩ cU
 have bj:Hid ((↑ag:Int) < (↑p0.Race.Starts.length:Int)):=zN (wAs a9)
 replace a9:=zN a9
 have cN:Hid (w64 ((↑ag:Int) + 1)=(↑(ag + 1):Int)):=zN (by have h1:=bb.out;have h2:=bj.out;rw [wAW] <;> omega)
 refine sR fL1 Z (oR Z (zi Z a5 bp) (eN (zL (cT Z bj (kN (zL (zd (sR fL2 Z (oM Z a5 (oA Z Z (eN (sR (wMR (.fx 9 (wLc (.fx 14 (.fx 15 (.fl 16 (.fl 17 .nil)) .stop) .stop)) .stop)) Z (oM Z aU (oM Z aU (oR Z (Ze Z Z) (oR Z (zG Z Z ZN Z yD) (oL Z (a7.ldB (j:=2) Z Z Z yH (v:=.map (some ab)) Z) (oM Z Z (oM Z bo (oR Z (zl (pv:=[(0,jV (↑ag:Int)),(1,jV p1)]) (z:=[jV 0,jV 0]) (cs:=[jV (↑ag:Int),jV p1]) Z (wAH Z (wAH Z wAP)) zZ wBL Z Z) (oL Z (a7.lookup1 (j:=3) (mk:=wBC) (mv:=wBJ) (a:=(⟨(↑ag:Int),p1⟩:wAL)) (z:=0) Z Z Z Z (wBh ZQ) wCi ZB a8) ?_)))))))))))))))))))))
 have ca:=cA.le ax
 have cb:=cB.le ax
 have cc:=cC.le ax
 have cd:=cD.le ax
 have cf:=cE.le ax
 have q:=bnd cU
 obtain ⟨⟨aj,cZ,c6⟩,cg,bA⟩:=q
 try dsimp only at bA
 have cr:SW w [B0,.obj ab (.map ac ae)] U be [B0,.obj ab (.map ac ae),.blk b9 109 (hD KL.encI aM.l),.blk b4 109 (hD KL.encI (Arr.fill 64 0).l)] bg:=a7.pick [2,3,0,1] _ (by decide) rfl
 refine zE 2 Z Z Z Z (zD Z Z Try.call57 (zB Z (zB Z (zB Z zM))) Z) cr (fun hs=>wBM p0 ap ao aq ay aI az aJ aG aK ab ac ae aH aL (wAw p0.number (⟨(↑ag:Int),p1⟩:wAL) 0) false bg be hs ca cb cc cd a8 cf cg) (.inl Z) ?_
 rintro aR da dq bF cX ct ⟨aN,aT,aY,aZ,rfl,rfl⟩
 let B1:Res:=.row aN aT 3 1 (hD KL.encI aj.far)
 let B2:Res:=.row aY aZ 3 1 (hD KL.encI aj.by_)
 have cu:SW w [B0,.obj ab (.map ac ae)] U aR [B1,B2,B0,.obj ab (.map ac ae),.blk b9 109 (hD KL.encI aM.l),.blk b4 109 (hD KL.encI (Arr.fill 64 0).l)] bF:=ct
 refine oM Z Z (oR Z (zT Z Z (v:=.agg #[.slice aN aj.far.length aT,.slice aY aj.by_.length aZ]) Z) (oR Z (zT Z Z (v:=jV cZ) Z) (oR Z (zT Z Z (v:=.bool c6) Z) (zR (cs:=[.slice none 0 0,.slice none 0 0]) Z Z Z Z Z Zl Z cu ?_))))
 intro df aS cw
 let B3:List Value:=[.slice aN aj.far.length aT,.slice aY aj.by_.length aZ]
 refine zV (j:=0) (vs:=B3) Z Z Z Z cw Z Z Z Z yE (zA Z) Z Z Z ?_
 intro bG cy
 have bz:SW w [B0,.obj ab (.map ac ae)] U aR [.blk aS 118 B3,B1,B2,B0,.obj ab (.map ac ae),.blk b9 109 (hD KL.encI aM.l),.blk b4 109 (hD KL.encI (Arr.fill 64 0).l)] bG:=cy
 refine oA Z Z (oA Z Z (eN (sR fL7 Z (oM Z aU (oR Z (Ze Z Z) (oR Z (zG Z Z ZN Z zW) (oR Z (zG Z Z zK Z ZD) (oL Z (bz.ldB (j:=3) Z Z Z ZL (v:=.slice ao p0.Race.Starts.length aq) Z) (oR Z (zw Z Z zH) (oM Z Z (eN (zd (bnK bA fun du cI cS=>?_)))))))))))))
 have q:=wAx cI
 obtain ⟨bc,cJ⟩:=q
 replace bc:=zN bc
 refine CK.forN' (fun ah av σ_ w_=>∃ (U_:PHeap),σ_ 40=jV (↑ah:Int)/\σ_ 0=.pointer (some ⟨ap,0,none⟩)/\σ_ 1=jV p1/\σ_ 4=.pointer (some ⟨b4,0,none⟩)/\σ_ 5=.pointer (some ⟨b9,0,none⟩)/\σ_ 6=jV (↑ag:Int)/\σ_ 7=.pointer (some ⟨aS,0,none⟩)/\σ_ 16=jV (↑p0.Race.Starts.length:Int)/\σ_ 17=jV (↑ag:Int)/\σ_ 39=jV (↑p0.Race.Starts.length:Int)/\PHeap.Le aR U_/\SW w [B0,.obj ab (.map ac ae)] U U_ [B1,B2,.blk aS 118 B3,B0,.obj ab (.map ac ae),.blk b9 109 (hD KL.encI av.l),.blk b4 109 (hD KL.encI (Arr.fill 64 0).l)] w_) cJ ?_ ?_ ?_
 exact ⟨aR,rfl,aU,bo,bV,bW,rfl,rfl,bp,a5,rfl,(zO _),(bz.pick [1,2,0,3,4,5,6] _ (by decide) rfl)⟩
 rintro ah av dt dy bh ba ⟨bf,a6,bq,br,bX,bs,bt,bk,bK,bL,bm,cY,cz⟩ cV
 have bi:Hid ((↑ah:Int) < (↑p0.Race.Starts.length:Int)):=zN (wAs ba)
 replace ba:=zN ba
 have cM:Hid (w64 ((↑ah:Int) + 1)=(↑(ah + 1):Int)):=zN (by have h1:=bc.out;have h2:=bi.out;rw [wAW] <;> omega)
 refine sR fL1 rfl (zY rfl rfl rfl rfl (fun _=>zi rfl a6 bm) (eN (zL (cT Z bi (kN (zL (zd (sR fL2 rfl (zo rfl rfl rfl rfl rfl a6 (yF rfl rfl rfl rfl rfl rfl (eN (ZG ZH [3,3,3,1,3,3,3,1,3,3,3,1,3,1,3,3,0] (wMV (.fx 16 .nil .stop)) (by kernel_rfl) ?_))))))))))))
 have au:=cz.drew
 generalize hw_W107:({ bh with drawn:=bh.drawn + 1 }:World)=db at au ⊢
 refine oM Z bt (oM Z Z (oR Z (zG Z bk Za Z ZD) (oL Z (au.ldB (j:=2) Z Z Z ZL (v:=.slice aN aj.far.length aT) Z) (oM Z bq (oR Z (Ze Z Z) (oR Z (zG Z Z ZN Z yD) (oL Z (au.ldB (j:=3) Z Z Z yH (v:=.map (some ab)) Z) (oM Z Z (oM Z br (oR Z (zl (pv:=[(0,jV (↑ah:Int)),(1,jV p1)]) (z:=[jV 0,jV 0]) (cs:=[jV (↑ah:Int),jV p1]) Z (wAH Z (wAH Z wAP)) zZ wBL Z Z) (oL Z (au.lookup1 (j:=4) (mk:=wBC) (mv:=wBJ) (a:=(⟨(↑ah:Int),p1⟩:wAL)) (z:=0) Z Z Z Z (wBh ZQ) wCi ZB a8) (bnK cV fun _ aV cO=>?_))))))))))))
 obtain ⟨dg,bu⟩:=au.rowSome (j:=0) rfl (by rw [wAE (f:=KL.encI) (sz:=1) (fun _=>rfl) aj.far];have hz:=wAT aV;omega)
 refine oR Z (Zb Z Z bu Z zH zC (wBO aV) (wBP aV)) ?_
 have cK:=wBA (xs:=aj.far) (wAT aV)
 refine ZF rfl rfl rfl rfl (au.ldR (j:=0) rfl bu rfl rfl zJ (wAV (sz:=1) (fun _=>rfl) _ _ 0 _ cK (by first | omega | rfl | simp) rfl)) rfl (bnK cO fun _ aW cP=>zY rfl rfl rfl rfl (fun _=>Runs.iaA rfl bs rfl Try.runUnderlying109 Try.sizeOf108 (wBO aW) (wBP aW)) (bnK cP fun _ aX cQ=>zY rfl rfl rfl rfl (fun _=>Runs.iaA rfl rfl rfl Try.runUnderlying108 zC (wBO aX) (wBP aX)) ?_))
 have cL:=Arr.at_ av (k:=(ag * 8 + ah)) (by have hz0:=wAT aW;have hz1:=wAT aX;omega)
 refine zV (j:=5) (vs:=[jV (gd aj.far (wAw p0.number (⟨(↑ah:Int),p1⟩:wAL) 0).toNat)]) (cs':=hD KL.encI (av.set (ag * 8 + ah) (gd aj.far (wAw p0.number (⟨(↑ah:Int),p1⟩:wAL) 0).toNat)).l) rfl rfl rfl rfl au rfl rfl rfl rfl zC (by have hz0:=wAT aW;have hz1:=wAT aX;simp only [List.length_append,List.length_cons,List.length_nil,wCC (f:=KL.encI) (sz:=1) (N:=64) av (fun _=>rfl) rfl];omega) rfl (wBt (sz:=1) (fo:=0) (fun _=>rfl) _ _ _ _ cL (by first | omega | rfl | simp) (zA rfl) rfl) rfl ?_
 intro bC cm
 have cn:SW w [B0,.obj ab (.map ac ae)] U bf [B1,B2,.blk aS 118 B3,B0,.obj ab (.map ac ae),.blk b9 109 (hD KL.encI (av.set (ag * 8 + ah) (gd aj.far (wAw p0.number (⟨(↑ah:Int),p1⟩:wAL) 0).toNat)).l),.blk b4 109 (hD KL.encI (Arr.fill 64 0).l)] bC:=cm
 refine zc (ZA (zI (rR fL2 Z (oR Z (ZM (zb Z a6 Z) (congrArg (jV) cM.out)) (oM Z Z (zc ?_))))))
 cases cQ
 exact zI ⟨Z,⟨bf,Z,bq,br,bX,bs,bt,bk,bK,bL,bm,cY,cn⟩⟩
 rintro dv dd ⟨bB,bY,bM,bN,bO,bP,dh,di,bQ,bR,bS,cW,co⟩
 have bI:Hid (¬ ((↑(((↑p0.Race.Starts.length:Int):Int) - 0).toNat:Int) < (↑p0.Race.Starts.length:Int))):=zN (wAc)
 refine sR fL1 Z (oR Z (zi Z bY bS) (eN (zL (cF Z bI (Zc (zm (zm (ZY (ZA (zI (rR fL2 Z (oR Z (ZM (zb Z bR Z) (congrArg (jV) cN.out)) (oM Z Z (zc ?_))))))))))))))
 cases cS
 exact zI ⟨rfl,⟨bB,rfl,bM,bN,bO,bP,bQ,((ax.trans cX).trans cW),(co.pick [5,6,3,4] _ (by decide) rfl)⟩⟩
 rintro dw de ⟨bd,bZ,dk,dl,bn,bT,bU,dm,bw⟩
 have bJ:Hid (¬ ((↑(((↑p0.Race.Starts.length:Int):Int) - 0).toNat:Int) < (↑p0.Race.Starts.length:Int))):=zN (wAc)
 refine sR fL1 rfl (zY rfl rfl rfl rfl (fun _=>zi rfl bZ bU) (eN (zL (cF Z bJ (Zc (zm (zm (ZY (zI (sR gDt rfl (ZF rfl rfl rfl rfl (bw.ldBA (j:=0) rfl rfl bT Try.isAgg109 Try.sizeOf109 (vs:=hD KL.encI ak.l) (wLt ak (fun _=>rfl) rfl) (wCC ak (fun _=>rfl) rfl)) rfl (zV (j:=1) (vs:=hD KL.encI ak.l) rfl rfl rfl rfl bw rfl bn rfl rfl (fun w=>by rw [wCC (f:=KL.encI) (sz:=1) (N:=64) ak (fun _=>rfl) rfl];exact Try.sizeOf109 w) (by rw [wCC (f:=KL.encI) (sz:=1) (N:=64) ak (fun _=>rfl) rfl,wCC (f:=KL.encI) (sz:=1) (N:=64) (Arr.fill 64 0) (fun _=>rfl) rfl];exact zA rfl) (wFd (fun _=>rfl) _) (wIL _ _ (by rw [wCC (f:=KL.encI) (sz:=1) (N:=64) ak (fun _=>rfl) rfl,wCC (f:=KL.encI) (sz:=1) (N:=64) (Arr.fill 64 0) (fun _=>rfl) rfl])) rfl ?_))))))))))))
 intro bD cp
 have bx:SW w [B0,.obj ab (.map ac ae)] U bd [.blk b9 109 (hD KL.encI ak.l),.blk b4 109 (hD KL.encI ak.l),B0,.obj ab (.map ac ae)] bD:=cp
 refine eN (zU ?_)
 have hE:=nA cR;first | subst r | cases hE
 exact ⟨rfl,_,(wFg (v:=.agg (hD KL.encI ak.l).toArray) ⟨⟨_,bn,(wAq Try.isAgg109 Try.sizeOf109 (bx.blkAt (k:=1) rfl) (wLt ak (fun _=>rfl) rfl) (wCC ak (fun _=>rfl) rfl))⟩,trivial⟩),bd,_,(bx.pick [2,3] _ (by decide) rfl),rfl,rfl⟩
theorem wDc (p0:wAD) (aK:Option Addr) (aL:Nat) (a7:Option Addr) (ba:Nat) (a8:Option Addr) (bb:Nat) (a9:Option Addr) (bc:Nat) (p1:Int) (w:World) (U:PHeap) (hS:St0 w U []) (dx:Sl U 1 aK aL p0.Starts.length (hD KL.encI p0.Starts)) (dy:Sl U 2 a7 ba p0.Splits.length (hD wAC p0.Splits)) (dz:Sl U 3 a8 bb p0.Clocks.length (hD wAB p0.Clocks)) (dA:Sl U 4 a9 bc p0.Readings.length (hD wAA p0.Readings)) {r:(List wAG) × Int} (hm:wBU p0 p1=some r):Gv Try.prog 17 [.agg #[.slice aK p0.Starts.length aL,.slice a7 p0.Splits.length ba,.slice a8 p0.Clocks.length bb,.slice a9 p0.Readings.length bc],jV p1] w (wBs w [] U (fun U_ L_ v=>∃ (A0:Option Addr) (c0:Nat),v=.tuple #[.slice A0 r.1.length c0,jV r.2]/\L_=[.row A0 c0 41 2 (hD wAC r.1)])):=by
 unfold wBU at hm
 refine Gv.of Try.func17 Z Try.ntmps17 Try.results17 Z (sR gDx Z ?_)
 let B0:List Value:=[.slice aK p0.Starts.length aL,.slice a7 p0.Splits.length ba,.slice a8 p0.Clocks.length bb,.slice a9 p0.Readings.length bc]
 refine zu (cs:=B0) rfl rfl rfl rfl rfl rfl (by rfl) hS ?_
 intro W1 b2 bV
 refine oA Z Z (oA Z Z (eN (sR (.fl 0 (.fl 1 (.fx 2 (fC3_7 (.nil)) .stop))) Z (oL Z (bV.ldBA (j:=0) Z Z Z zg zW (vs:=B0) Z Z) (oM Z Z ?_)))))
 have q:=bnd hm
 obtain ⟨⟨x5,x6⟩,h7,aT⟩:=q
 try dsimp only at aT
 refine zE 0 Z Z Z Z (zD Z Z Try.call50 (zB Z (zB Z zM)) Z) bV (fun hs=>wHA p0 aK aL a7 ba a8 bb a9 bc p1 W1 U hs dx dy dz dA h7) (.inr Z) ?_
 rintro U9 ec ez bj eu bS bQ
 rcases x5 with _ | aM
 try dsimp only at aT
 obtain ⟨rfl,rfl⟩:=bQ
 have dl:sW w U U9 [.blk b2 28 B0] bj:=bS
 refine oM Z Z (oR Z (zT Z Z (v:=.pointer none) Z) (oR Z (zT Z Z (v:=jV x6) Z) (oA Z Z (oA Z Z (eN (zL (sR fL2 Z (oM Z Z (oR Z (Zg Z Z Z) (eN (ifc aT ?_ ?_)))))))))))
 intro bp dT
 refine ZI (zt (fun h=>h bp.out)) (kN (sR gEr Z (oM Z Z (oM Z Z ?_))))
 cases dT
 intro bp dU
 refine cT Z bp (sR fL3 Z (oM Z Z (oA Z Z (oA Z Z (eN (zU (za ?_)))))))
 have dm:=dl.nilrow 41 2
 cases dU
 exact ⟨rfl,_,(wDm rfl rfl),U9,_,(dm.pick [0] _ (by decide) rfl),none,0,rfl,rfl⟩
 try dsimp only at aT
 obtain ⟨bk,bx,bI,bz,bJ,bA,bK,bC,bM,af,ah,ag,bD,bN,rfl,rfl,cO,cP,cQ,cR,cS,cU⟩:=bQ
 let B1:Res:=.blk bk 124 [.slice bx aM.Race.Starts.length bI,.slice bz aM.Race.Splits.length bJ,.slice bA aM.Race.Clocks.length bK,.slice bC aM.Race.Readings.length bM,.map (some af),.slice bD aM.edges.length bN]
 have bW:sW w U U9 [B1,.obj af (.map ah ag),.blk b2 28 B0] bj:=bS
 refine oM Z Z (oR Z (zT Z Z (v:=.pointer (some ⟨bk,0,none⟩)) Z) (oR Z (zT Z Z (v:=jV x6) Z) (oA Z Z (oA Z Z (eN (zL (sR fL2 Z (oM Z Z (oR Z (Zg Z Z Z) (eN (ifc aT ?_ ?_)))))))))))
 intro bq dV
 refine ZI (zt (fun h=>h bq.out)) (kN (sR gEr Z (oM Z Z (oM Z Z (bnK dV fun ab cV dW=>zE 2 Z Z Z Z (zD Z Z Try.call51 (zB Z (zB Z zM)) Z) bW (fun hs=>wEi aM bk bx bI bz bJ bA bK bC bM af ah ag bD bN p1 bj U9 hs cO cP cQ cR cS cU cV) (.inl Z) ?_)))))
 rintro aP ef eA cq ey dq ⟨rfl,rfl⟩
 have dr:sW w U aP [B1,.obj af (.map ah ag),.blk b2 28 B0] cq:=dq
 refine zR (cs:=hD KL.encI (Arr.fill 64 0).l) Z Z Z Z Z Try.zeroValue109 Z dr ?_
 intro cr aj dt
 have du:sW w U aP [.blk aj 109 (hD KL.encI (Arr.fill 64 0).l),B1,.obj af (.map ah ag),.blk b2 28 B0] cr:=dt
 refine zV (j:=0) (vs:=hD KL.encI ab.l) rfl rfl rfl rfl du rfl rfl rfl rfl (fun w=>by rw [wCC (f:=KL.encI) (sz:=1) (N:=64) ab (fun _=>rfl) rfl];exact Try.sizeOf109 w) (by rw [wCC (f:=KL.encI) (sz:=1) (N:=64) ab (fun _=>rfl) rfl,wCC (f:=KL.encI) (sz:=1) (N:=64) (Arr.fill 64 0) (fun _=>rfl) rfl];exact zA rfl) (wFd (fun _=>rfl) _) (wIL _ _ (by rw [wCC (f:=KL.encI) (sz:=1) (N:=64) ab (fun _=>rfl) rfl,wCC (f:=KL.encI) (sz:=1) (N:=64) (Arr.fill 64 0) (fun _=>rfl) rfl])) rfl ?_
 intro ct dv
 have bX:sW w U aP [.blk aj 109 (hD KL.encI ab.l),B1,.obj af (.map ah ag),.blk b2 28 B0] ct:=dv
 refine eN (sR fL1 Z (oA Z Z (eN (zL (sR fL4 Z (oR Z (zG Z Z zK Z ZD) (oL Z (bX.ldB (j:=3) Z Z Z ZL (v:=.slice aK p0.Starts.length aL) Z) (oR Z (zw Z Z zH) (oM Z Z (eN (zd (bnK dW fun eE dD dX=>?_))))))))))))
 have q:=wAx dD
 obtain ⟨bv,dE⟩:=q
 replace bv:=zN bv
 refine CK.forN' (fun am aJ σ_ w_=>∃ (U_:PHeap) (aN:Option Addr) (aR:Nat),σ_ 28=jV (↑am:Int)/\σ_ 2=.pointer (some ⟨b2,0,none⟩)/\σ_ 8=.pointer (some ⟨aj,0,none⟩)/\σ_ 9=.slice aN aJ.length aR/\σ_ 27=jV (↑p0.Starts.length:Int)/\PHeap.Le aP U_/\sW w U U_ [.blk aj 109 (hD KL.encI ab.l),B1,.obj af (.map ah ag),.blk b2 28 B0,.row aN aR 41 2 (hD wAC aJ)] w_) dE ?_ ?_ ?_
 have dw:=bX.nilrow 41 2
 exact ⟨aP,none,0,rfl,rfl,rfl,rfl,rfl,(zO _),(dw.pick [1,2,3,4,0] _ (by decide) rfl)⟩
 rintro am aJ eD eI en bt ⟨bi,aN,aR,br,bO,cz,cA,bP,d7,cX⟩ dY
 have bG:Hid ((↑am:Int) < (↑p0.Starts.length:Int)):=zN (wAs bt)
 replace bt:=zN bt
 have dI:Hid (w64 ((↑am:Int) + 1)=(↑(am + 1):Int)):=zN (by have h1:=bv.out;have h2:=bG.out;rw [wAW] <;> omega)
 refine sR fL1 Z (oR Z (zi Z br bP) (eN (zL (cT Z bG (kN (zL (zd (sR fL2 Z (oM Z br (oA Z Z (eN (sR gEc Z ?_))))))))))))
 let B2:List Value:=[jV 0,jV 0]
 let B3:List Value:=[jV 1,jV 1]
 refine oR Z (zl (pv:=[(0,jV 1),(1,jV 1)]) (z:=B2) (cs:=B3) Z (wAH Z (wAH Z wAP)) ZJ wBy Z Z) (zR (cs:=B2) Z Z Z Z Z ZJ Z cX ?_)
 intro eg aq cY
 refine zV (j:=0) (vs:=B3) Z Z Z Z cY Z Z Z Z zf (zA Z) Z Z Z ?_
 intro cg cZ
 let B4:Res:=.row aN aR 41 2 (hD wAC aJ)
 have bR:sW w U bi [.blk aq 41 B3,.blk aj 109 (hD KL.encI ab.l),B1,.obj af (.map ah ag),.blk b2 28 B0,B4] cg:=cZ
 refine eN (zL (sR fL4 Z (oR Z (zG Z bO zK Z ZD) (oL Z (bR.ldB (j:=4) Z Z Z ZL (v:=.slice aK p0.Starts.length aL) Z) (oR Z (zw Z Z zH) (oM Z Z (eN (zd ?_))))))))
 have q:=bnd dY
 obtain ⟨⟨bd,be⟩,dB,bY⟩:=q
 try dsimp only at bY
 have q:=wAx dB
 obtain ⟨bu,dC⟩:=q
 replace bu:=zN bu
 refine CK.forN' (fun au (aG,ap) σ_ w_=>∃ (U_:PHeap),σ_ 35=jV (↑au:Int)/\σ_ 2=.pointer (some ⟨b2,0,none⟩)/\σ_ 8=.pointer (some ⟨aj,0,none⟩)/\σ_ 9=.slice aN aJ.length aR/\σ_ 10=jV (↑am:Int)/\σ_ 11=.pointer (some ⟨aq,0,none⟩)/\σ_ 27=jV (↑p0.Starts.length:Int)/\σ_ 28=jV (↑am:Int)/\σ_ 34=jV (↑p0.Starts.length:Int)/\PHeap.Le bi U_/\sW w U U_ [.blk aq 41 [jV aG,jV ap],.blk aj 109 (hD KL.encI ab.l),B1,.obj af (.map ah ag),.blk b2 28 B0,B4] w_) dC ?_ ?_ ?_
 exact ⟨bi,Z,bO,cz,cA,Z,Z,bP,br,Z,(zO _),bR⟩
 rintro au ⟨aG,ap⟩ eB eF eh bs ⟨av,aI,aU,ax,aV,ay,ak,aW,aX,aS,a5,az⟩ bZ
 try dsimp only at bZ
 have bH:Hid ((↑au:Int) < (↑p0.Starts.length:Int)):=zN (wAs bs)
 replace bs:=zN bs
 have aZ:Hid (w64 ((↑au:Int) + 1)=(↑(au + 1):Int)):=zN (by have h1:=bu.out;have h2:=bH.out;rw [wAW] <;> omega)
 refine sR fL1 Z (oR Z (zi Z aI aS) (eN (zL (cT Z bH (kN (zL (zd (sR fL2 Z (oM Z aI (oA Z Z (eN (zL (sR fL6 Z (oM Z ay (oM Z Z (bnK bZ fun _ an dJ=>oR Z (Runs.iaA Z ax Z Try.runUnderlying109 Try.sizeOf108 (wBO an) (wBP an)) (bnK dJ fun _ ao dK=>oR Z (Runs.iaA Z Z Z Try.runUnderlying108 zC (wBO ao) (wBP ao)) ?_)))))))))))))))))
 have dF:=Arr.at_ ab (k:=(am * 8 + au)) (by have hz0:=wAT an;have hz1:=wAT ao;omega)
 refine ZF rfl rfl rfl rfl (az.ldB (j:=1) rfl rfl rfl zJ (wAV (sz:=1) (fun _=>rfl) _ _ 0 _ dF (by first | omega | rfl | simp) rfl)) rfl (zY rfl rfl rfl rfl (fun _=>zi rfl rfl rfl) (eN (ifc dK ?_ ?_)))
 intro bm dL
 refine cT Z bm (rR (wDl (.fx 4 .nil .stop)) Z (oR Z (zG Z ak ZO Z zC) (oL Z (az.ldB (j:=0) Z Z Z zJ (v:=jV aG) Z) (oR Z (zb Z Z Z) (oR Z (zG Z ak ZO Z zC) (zV (j:=0) (vs:=[jV (w64 (aG + 1))]) Z Z Z Z az Z Z Z Z zC (zA Z) Z Z Z ?_))))))
 intro ci c6
 have aY:sW w U av [.blk aq 41 [jV (w64 (aG + 1)),jV ap],.blk aj 109 (hD KL.encI ab.l),B1,.obj af (.map ah ag),.blk b2 28 B0,B4] ci:=c6
 refine eN (sR fL6 Z (oM Z Z (oM Z ay (oR Z (Runs.iaA Z ax Z Try.runUnderlying109 Try.sizeOf108 (wBO ao) (wBP ao)) (oR Z (Runs.iaA Z Z Z Try.runUnderlying108 zC (wBO an) (wBP an)) ?_)))))
 have dG:=Arr.at_ ab (k:=(au * 8 + am)) (by have hz0:=wAT ao;have hz1:=wAT an;omega)
 refine ZF rfl rfl rfl rfl (aY.ldB (j:=1) rfl rfl rfl zJ (wAV (sz:=1) (fun _=>rfl) _ _ 0 _ dG (by first | omega | rfl | simp) rfl)) rfl (zY rfl rfl rfl rfl (fun _=>Runs.gtr rfl rfl rfl) (eN (ifc dL ?_ ?_)))
 intro bn dM
 refine cT Z bn (rR (wDl (.fx 4 .nil .stop)) Z (oR Z (zG Z ak ZO Z zC) (oL Z (aY.ldB (j:=0) Z Z Z zJ (v:=jV ap) Z) (oR Z (zb Z Z Z) (oR Z (zG Z ak ZO Z zC) (zV (j:=0) (vs:=[jV (w64 (ap + 1))]) Z Z Z Z aY Z Z Z Z zC (zA Z) Z Z Z ?_))))))
 intro cm da
 have db:sW w U av [.blk aq 41 [jV (w64 (aG + 1)),jV (w64 (ap + 1))],.blk aj 109 (hD KL.encI ab.l),B1,.obj af (.map ah ag),.blk b2 28 B0,B4] cm:=da
 refine zc (ZA (zI (rR fL2 Z (oR Z (ZM (zb Z aI Z) (congrArg (jV) aZ.out)) (oM Z Z (zc ?_))))))
 cases dM
 exact zI ⟨Z,⟨av,Z,aU,ax,aV,ay,ak,aW,aX,aS,a5,db⟩⟩
 intro bn dN
 refine cF Z bn (Zp (ZA (zI (rR fL2 Z (oR Z (ZM (zb Z aI Z) (congrArg (jV) aZ.out)) (oM Z Z (zc ?_)))))))
 cases dN
 exact zI ⟨Z,⟨av,Z,aU,ax,aV,ay,ak,aW,aX,aS,a5,aY⟩⟩
 intro bm dO
 refine cF Z bm (kN (sR fL6 Z (oM Z Z (oM Z ay (oR Z (Runs.iaA Z ax Z Try.runUnderlying109 Try.sizeOf108 (wBO ao) (wBP ao)) (oR Z (Runs.iaA Z Z Z Try.runUnderlying108 zC (wBO an) (wBP an)) ?_))))))
 have dH:=Arr.at_ ab (k:=(au * 8 + am)) (by have hz0:=wAT ao;have hz1:=wAT an;omega)
 refine ZF rfl rfl rfl rfl (az.ldB (j:=1) rfl rfl rfl zJ (wAV (sz:=1) (fun _=>rfl) _ _ 0 _ dH (by first | omega | rfl | simp) rfl)) rfl (zY rfl rfl rfl rfl (fun _=>Runs.gtr rfl rfl rfl) (eN (ifc dO ?_ ?_)))
 intro bo dP
 refine cT Z bo (rR (wDl (.fx 4 .nil .stop)) Z (oR Z (zG Z ak ZO Z zC) (oL Z (az.ldB (j:=0) Z Z Z zJ (v:=jV ap) Z) (oR Z (zb Z Z Z) (oR Z (zG Z ak ZO Z zC) (zV (j:=0) (vs:=[jV (w64 (ap + 1))]) Z Z Z Z az Z Z Z Z zC (zA Z) Z Z Z ?_))))))
 intro cn dd
 have de:sW w U av [.blk aq 41 [jV aG,jV (w64 (ap + 1))],.blk aj 109 (hD KL.encI ab.l),B1,.obj af (.map ah ag),.blk b2 28 B0,B4] cn:=dd
 refine zc (ZA (zI (rR fL2 Z (oR Z (ZM (zb Z aI Z) (congrArg (jV) aZ.out)) (oM Z Z (zc ?_))))))
 cases dP
 exact zI ⟨Z,⟨av,Z,aU,ax,aV,ay,ak,aW,aX,aS,a5,de⟩⟩
 intro bo dQ
 refine cF Z bo (Zp (ZA (zI (rR fL2 Z (oR Z (ZM (zb Z aI Z) (congrArg (jV) aZ.out)) (oM Z Z (zc ?_)))))))
 cases dQ
 exact zI ⟨Z,⟨av,Z,aU,ax,aV,ay,ak,aW,aX,aS,a5,az⟩⟩
 rintro eG ej ⟨bh,cL,cB,cC,cD,eo,cE,cG,cH,cI,dZ,bT⟩
 have cw:Hid (¬ ((↑(((↑p0.Starts.length:Int):Int) - 0).toNat:Int) < (↑p0.Starts.length:Int))):=zN (wAc)
 refine sR fL1 Z (oR Z (zi Z cL cI) (eN (zL (cF Z cw (Zc (zm (zm (ZY (zI (rR gEs Z (oM Z cD ?_)))))))))))
 let B5:List Value:=[jV bd,jV be]
 refine oL Z (bT.ldBA (j:=0) Z Z cE Zi zf (vs:=B5) Z Z) (zq (pv:=[(0,.agg B5.toArray)]) (zs:=B2) (cs:=B5) Z Z Z Z Z (wAH Z wAP) ZK zf ZJ Z Z Z Z Z bT ?_)
 intro co cu df
 let B6:Res:=.row (some ⟨cu,0,none⟩) 1 41 2 (hD wAC [(⟨bd,be⟩:wAG)])
 have bU:sW w U bh [B6,.blk aq 41 B5,.blk aj 109 (hD KL.encI ab.l),B1,.obj af (.map ah ag),.blk b2 28 B0,B4] co:=df
 refine bnK bY fun ca cN dR=>Zw (j:=6) (enc:=wAC) (xs:=aJ) (ys:=[(⟨bd,be⟩:wAG)]) (zs:=ca) rfl rfl rfl rfl rfl Try.underlying24 wJV rfl rfl rfl rfl rfl rfl bU rfl rfl rfl (bU.srcR (j:=0) rfl (by decide) (wAE (f:=wAC) (sz:=2) (fun _=>rfl) [(⟨bd,be⟩:wAG)])) (fun _=>rfl) (fun _=>rfl) cN rfl ?_
 intro bB bL cp dg
 have dh:sW w U bh [B6,.blk aq 41 B5,.blk aj 109 (hD KL.encI ab.l),B1,.obj af (.map ah ag),.blk b2 28 B0,.row bB bL 41 2 (hD wAC ca)] cp:=dg
 refine oA Z Z (zc (ZA (zI (rR fL2 Z (oR Z (ZM (zb Z cH Z) (congrArg (jV) dI.out)) (oM Z Z (zc ?_)))))))
 cases dR
 exact zI ⟨rfl,⟨bh,bB,bL,rfl,cB,cC,rfl,cG,(d7.trans dZ),(dh.pick [2,3,4,5,6] _ (by decide) rfl)⟩⟩
 rintro eH ek ⟨cd,cc,cx,cM,ep,er,cJ,cK,ew,di⟩
 have cy:Hid (¬ ((↑(((↑p0.Starts.length:Int):Int) - 0).toNat:Int) < (↑p0.Starts.length:Int))):=zN (wAc)
 refine sR fL1 Z (oR Z (zi Z cM cK) (eN (zL (cF Z cy (Zc (zm (zm (ZY (zI (sR fL3 Z (oM Z cJ (oA Z Z (oA Z Z (eN (zU ?_)))))))))))))))
 cases dX
 exact ⟨rfl,_,(wDm rfl rfl),cd,_,(di.pick [4] _ (by decide) rfl),cc,cx,rfl,rfl⟩
 intro bq dS
 refine cT Z bq (sR fL3 Z (oM Z Z (oA Z Z (oA Z Z (eN (zU (za ?_)))))))
 have dk:=bW.nilrow 41 2
 cases dS
 exact ⟨rfl,_,(wDm rfl rfl),U9,_,(dk.pick [0] _ (by decide) rfl),none,0,rfl,rfl⟩
end Go.Proofs.Ytlnfbjphfoipaaa
namespace Go.Proofs.Ytlnfbjphfoipaaa
open Go.KL
set_option maxHeartbeats 4000000
theorem wCc (p0:List wAG) (ao:Option Addr) (aq:Nat) (p1:List wAG) (ap:Option Addr) (au:Nat) (w:World) (U:PHeap) (hS:St0 w U []) (a7:Sl U 2 ao aq p0.length (hD wAC p0)) (a8:Sl U 2 ap au p1.length (hD wAC p1)) {r:Bool} (hm:wAi p0 p1=some r):Gv Try.prog 18 [.slice ao p0.length aq,.slice ap p1.length au] w (wBs w [] U (fun U_ L_ v=>v=.bool r/\L_=[])):=by
 unfold wAi at hm
 refine Gv.of Try.func18 Z Try.ntmps18 Try.results18 Z (sR fL1 Z (oA Z Z (eN (zL (sR fL5 Z (oM Z Z (oR Z (zw Z Z ZK) (oM Z Z (oR Z (zw Z Z ZK) (oR Z (Zg Z Z Z) (eN ?_)))))))))))
 by_cases c1:(↑p0.length:Int)=(↑p1.length:Int)
 have ag:=hm;rw [if_pos c1] at ag;replace c1:=zN c1
 refine ZI (zt (fun h=>h c1.out)) (kN (zL (sR fL3 Z (oM Z Z (oR Z (zw Z Z ZK) (oM Z Z (eN (zd ?_))))))))
 have q:=wCB ag
 obtain ⟨r5,aj⟩:=q
 have q:=wCA aj
 obtain ⟨am,bb⟩:=q
 replace am:=zN am
 refine yX (fun k4 _ σ_ w_=>∃ (U_:PHeap),σ_ 13=jV (↑k4:Int)/\σ_ 0=.slice ao p0.length aq/\σ_ 1=.slice ap p1.length au/\σ_ 12=jV (↑p0.length:Int)/\PHeap.Le U U_/\sW w U U_ [] w_) bb ?_ ?_ ?_
 exact ⟨U,Z,Z,Z,Z,(zO _),hS⟩
 rintro k4 ⟨⟩ bu bw az ak ⟨ay,ai,aH,aI,aJ,an,a5⟩ aO a9
 try dsimp only at aO
 have aG:Hid ((↑k4:Int) < (↑p0.length:Int)):=zN (wAs ak)
 replace ak:=zN ak
 have bc:Hid (w64 ((↑k4:Int) + 1)=(↑(k4 + 1):Int)):=zN (by have h1:=am.out;have h2:=aG.out;rw [wAW] <;> omega)
 refine sR fL1 rfl (zY rfl rfl rfl rfl (fun _=>zi rfl ai aJ) (eN (zL (cT Z aG (kN (zL (zd (sR fL2 rfl (zo rfl rfl rfl rfl rfl ai (yF rfl rfl rfl rfl rfl rfl (eN (zL (ZG ZH [3,3,3,1,3,3,3,1,3] fL9 (by kernel_rfl) ?_)))))))))))))
 have ae:=a5.drew
 generalize hw_W25:({ az with drawn:=az.drawn + 1 }:World)=bj at ae ⊢
 refine oM Z aH (oM Z Z (bnK aO fun av aK bd=>?_))
 have aU:=a7.le an
 have q:=aU.el (fun _=>rfl) (wAj aK)
 obtain ⟨bm,br,aW,aY⟩:=q
 refine oR Z (Zh Z Z aW Z ZK zf (wCv aK)) (oL Z (ae.ldCA (f:=0) aY Z Z Zi zf (us:=[jV av.Lo,jV av.Hi]) Z Z) (oM Z aI (oM Z Z (bnK bd fun ax aL be=>?_))))
 have aV:=a8.le an
 have q:=aV.el (fun _=>rfl) (wAj aL)
 obtain ⟨bn,bs,aX,aZ⟩:=q
 refine oR Z (Zh Z Z aX Z ZK zf (wCv aL)) (oL Z (ae.ldCA (f:=0) aZ Z Z Zi zf (us:=[jV ax.Lo,jV ax.Hi]) Z Z) (oR Z (ZM (yi (enc:=wAC) (a:=av) (b:=ax) Z Z Z wGz wGy) (congrArg hH (decide_not).symm)) (eN (ifc be ?_ ?_))))
 intro ah bf
 refine ZI (zt (fun h=>h ah.out)) (Zp (ZA (zI (rR fL2 Z (oR Z (ZM (zb Z ai Z) (congrArg (jV) bc.out)) (oM Z Z (zc ?_)))))))
 have q:=nA bf
 obtain rfl:=q
 exact zI ⟨Z,_,Z,⟨ay,Z,aH,aI,aJ,an,ae⟩⟩
 intro ah bg
 refine cT Z ah (sR fL1 Z (oA Z Z (eN (zU (zx (za ?_))))))
 have q:=wAh bg
 obtain ⟨bi,bh,aR⟩:=q
 have q:=wBw ag aj (a9 bi aR)
 obtain rfl:=q
 refine za (zx (za ?_))
 have hE:=nA bh;first | subst r | cases hE
 exact ⟨Z,_,(ZV Z),ay,_,ae,Z,Z⟩
 rintro ⟨⟩ bv bk ⟨aP,aT,bo,bp,aS,bq,a6⟩ ba
 have aM:=wCx ag aj ba
 try dsimp only at aM
 have aQ:Hid (¬ ((↑(((↑p0.length:Int):Int) - 0).toNat:Int) < (↑p0.length:Int))):=zN (wAc)
 refine sR fL1 Z (oR Z (zi Z aT aS) (eN (zL (cF Z aQ (Zc (zm (zm (ZY (zI (sR fL1 Z (oA Z Z (eN (zU ?_)))))))))))))
 have hE:=nA aM;first | subst r | cases hE
 exact ⟨Z,_,(ZV Z),aP,_,a6,Z,Z⟩
 have aN:=hm;rw [if_neg c1] at aN;replace c1:=zN c1
 refine cT Z c1 (sR fL1 Z (oA Z Z (eN (zU (za ?_)))))
 have hE:=nA aN;first | subst r | cases hE
 exact ⟨Z,_,(ZV Z),U,_,hS,Z,Z⟩
theorem wBN  (w:World) (U:PHeap) (hS:St0 w U [])  {r:wAD} (hm:wAp =some r):Gv Try.prog 52 [] w (wBs w [] U (fun U_ L_ v=>∃ (ap:Option Addr) (aI:Nat) (aq:Option Addr) (aJ:Nat) (au:Option Addr) (aK:Nat) (av:Option Addr) (aL:Nat),v=.agg #[.slice ap r.Starts.length aI,.slice aq r.Splits.length aJ,.slice au r.Clocks.length aK,.slice av r.Readings.length aL]/\L_=[.row ap aI 3 1 (hD KL.encI r.Starts),.row aq aJ 41 2 (hD wAC r.Splits),.row au aK 43 3 (hD wAB r.Clocks),.row av aL 39 4 (hD wAA r.Readings)])):=by
 unfold wAp at hm
 refine Gv.of Try.func52 Z Try.ntmps52 Try.results52 Z (sR (.fx 0 .nil .stop) Z ?_)
 let B0:List Value:=[.slice none 0 0,.slice none 0 0,.slice none 0 0,.slice none 0 0]
 refine zR (cs:=B0) Z Z Z Z Z Zs Z hS ?_
 intro W1 b2 aZ
 refine eN (sR (.fx 0 (.fl 1 (.fl 2 (.fx 3 (.fl 4 (.fl 5 (.fx 6 (fC7_9 (.fx 10 (.fl 11 (.fx 12 .nil .stop)) .stop)) .stop))) .stop))) .stop) Z (zq (pv:=[(0,jV 0),(1,jV 300)]) (zs:=[jV 0,jV 0]) (cs:=[jV 0,jV 300]) Z Z Z Z Z (wAH Z (wAH Z wAP)) zH zC ZB Z Z Z Z Z aZ ?_))
 intro W5 b6 a5
 let B1:Res:=.row (some ⟨b6,0,none⟩) 2 3 1 (hD KL.encI [0,300])
 have a6:sW w U U [B1,.blk b2 28 B0] W5:=a5
 let B2:List Value:=[jV 0,jV 0]
 refine oR Z (zl (pv:=[(0,jV 1000),(1,jV 1200)]) (z:=B2) (cs:=[jV 1000,jV 1200]) Z (wAH Z (wAH Z wAP)) ZJ wBy Z Z) (oR Z (zl (pv:=[(0,jV 900),(1,jV 1500)]) (z:=B2) (cs:=[jV 900,jV 1500]) Z (wAH Z (wAH Z wAP)) ZJ wBy Z Z) (zq (pv:=[(0,.agg #[jV 1000,jV 1200]),(1,.agg #[jV 900,jV 1500])]) (zs:=[jV 0,jV 0,jV 0,jV 0]) (cs:=[jV 1000,jV 1200,jV 900,jV 1500]) Z Z Z Z Z (wAH Z (wAH Z wAP)) ZK zf ZJ Z Z Z Z Z a6 ?_))
 intro aN ag aS
 let B3:Res:=.row (some ⟨ag,0,none⟩) 2 41 2 (hD wAC [(⟨1000,1200⟩:wAG),(⟨900,1500⟩:wAG)])
 have aT:sW w U U [B3,B1,.blk b2 28 B0] aN:=aS
 refine oR Z (zl (pv:=[(0,jV (-5)),(1,jV 5)]) (z:=B2) (cs:=[jV (-5),jV 5]) Z (wAH Z (wAH Z wAP)) ZJ wBy Z Z) ?_
 let B4:List Value:=[jV (-5),jV 5,jV 1]
 let B5:List Value:=[jV 0,jV 0,jV 0]
 refine oR Z (zl (pv:=[(0,.agg #[jV (-5),jV 5]),(1,jV 1)]) (z:=B5) (cs:=B4) Z (wAH Z (wAH Z wAP)) yY wIO Z Z) (zq (pv:=[(0,.agg B4.toArray)]) (zs:=B5) (cs:=B4) Z Z Z Z Z (wAH Z wAP) ZU Zt yY Z Z Z Z Z aT ?_)
 intro aO ah aU
 let B6:Res:=.row (some ⟨ah,0,none⟩) 1 43 3 (hD wAB [(⟨(⟨-5,5⟩:wAG),1⟩:wAK)])
 have aV:sW w U U [B6,B3,B1,.blk b2 28 B0] aO:=aU
 let B7:List Value:=[jV 0,jV 0,jV 0,jV 0]
 let B8:List Value:=[jV 0,jV 2,jV 0,jV 2250]
 refine oR Z (zl (pv:=[(1,jV 2),(3,jV 2250)]) (z:=B7) (cs:=B8) Z (wAH Z (wAH Z wAP)) Zj wEI Z Z) ?_
 let B9:List Value:=[jV 1,jV 1,jV 0,jV 1400]
 refine oR Z (zl (pv:=[(0,jV 1),(1,jV 1),(3,jV 1400)]) (z:=B7) (cs:=B9) Z (wAH Z (wAH Z (wAH Z wAP))) Zj wEI Z Z) ?_
 let ax:List Value:=[jV 1,jV 2,jV 0,jV 2499]
 refine oR Z (zl (pv:=[(0,jV 1),(1,jV 2),(3,jV 2499)]) (z:=B7) (cs:=ax) Z (wAH Z (wAH Z (wAH Z wAP))) Zj wEI Z Z) (zq (pv:=[(0,.agg B8.toArray),(1,.agg B9.toArray),(2,.agg ax.toArray)]) (zs:=[jV 0,jV 0,jV 0,jV 0,jV 0,jV 0,jV 0,jV 0,jV 0,jV 0,jV 0,jV 0]) (cs:=[jV 0,jV 2,jV 0,jV 2250,jV 1,jV 1,jV 0,jV 1400,jV 1,jV 2,jV 0,jV 2499]) Z Z Z Z Z (wAH Z (wAH Z (wAH Z wAP))) zy ZP Zj Z Z Z Z Z aV ?_)
 intro aP ai aW
 let ay:Res:=.row (some ⟨ai,0,none⟩) 3 39 4 (hD wAA [(⟨0,2,0,2250⟩:wAI),(⟨1,1,0,1400⟩:wAI),(⟨1,2,0,2499⟩:wAI)])
 have aX:sW w U U [ay,B6,B3,B1,.blk b2 28 B0] aP:=aW
 let ac:List Value:=[.slice (some ⟨b6,0,none⟩) 2 2,.slice (some ⟨ag,0,none⟩) 2 2,.slice (some ⟨ah,0,none⟩) 1 1,.slice (some ⟨ai,0,none⟩) 3 3]
 refine oR Z (zl (pv:=[(0,.slice (some ⟨b6,0,none⟩) 2 2),(1,.slice (some ⟨ag,0,none⟩) 2 2),(2,.slice (some ⟨ah,0,none⟩) 1 1),(3,.slice (some ⟨ai,0,none⟩) 3 3)]) (z:=B0) (cs:=ac) Z (wAH Z (wAH Z (wAH Z (wAH Z wAP)))) Zs wIN Z Z) (zV (j:=4) (vs:=ac) Z Z Z Z aX Z Z Z Z zW (zA Z) Z Z Z ?_)
 intro aQ aY
 have aM:sW w U U [ay,B6,B3,B1,.blk b2 28 ac] aQ:=aY
 refine eN (zU ?_)
 cases hm
 exact ⟨rfl,_,(wFg (v:=.agg ac.toArray) ⟨⟨_,rfl,(wAq zg zW (aM.blkAt (k:=4) rfl) (vs:=ac) rfl rfl)⟩,trivial⟩),U,_,(aM.pick [3,2,1,0] _ (by decide) rfl),(some ⟨b6,0,none⟩),2,(some ⟨ag,0,none⟩),2,(some ⟨ah,0,none⟩),1,(some ⟨ai,0,none⟩),3,rfl,rfl⟩
theorem wIn (p0:wAD) (aM:Option Addr) (aQ:Nat) (aN:Option Addr) (aR:Nat) (aO:Option Addr) (aS:Nat) (aP:Option Addr) (aT:Nat) (p1:wAO) (p2:wAO) (w:World) (U:PHeap) (hS:St0 w U []) (cG:Sl U 1 aM aQ p0.Starts.length (hD KL.encI p0.Starts)) (cH:Sl U 2 aN aR p0.Splits.length (hD wAC p0.Splits)) (cI:Sl U 3 aO aS p0.Clocks.length (hD wAB p0.Clocks)) (cJ:Sl U 4 aP aT p0.Readings.length (hD wAA p0.Readings)) {r:wAG × Int} (hm:wFZ p0 p1 p2=some r):Gv Try.prog 25 [.agg #[.slice aM p0.Starts.length aQ,.slice aN p0.Splits.length aR,.slice aO p0.Clocks.length aS,.slice aP p0.Readings.length aT],.agg #[jV p1.Skier,jV p1.Mat],.agg #[jV p2.Skier,jV p2.Mat]] w (wBs w [] U (fun U_ L_ v=>v=.tuple #[.agg #[jV r.1.Lo,jV r.1.Hi],jV r.2]/\L_=[])):=by
 unfold wFZ at hm
 refine Gv.of Try.func25 Z Try.ntmps25 Try.results25 Z (sR (.fx 0 (.fx 1 gEd .stop) .stop) Z ?_)
 let B0:List Value:=[.slice aM p0.Starts.length aQ,.slice aN p0.Splits.length aR,.slice aO p0.Clocks.length aS,.slice aP p0.Readings.length aT]
 refine zu (cs:=B0) rfl rfl rfl rfl rfl rfl (by rfl) hS ?_
 intro W1 b2 cz
 let B1:List Value:=[jV p1.Skier,jV p1.Mat]
 refine zu (cs:=B1) rfl rfl rfl rfl rfl rfl (by rfl) cz ?_
 intro W5 b6 cA
 let B2:List Value:=[jV p2.Skier,jV p2.Mat]
 refine zu (cs:=B2) rfl rfl rfl rfl rfl rfl (by rfl) cA ?_
 intro W9 ai cm
 let B3:List Value:=[jV 0,jV 0]
 refine zR (cs:=B3) Z Z Z Z Z ZJ Z cm ?_
 intro df aj aI
 refine oA Z Z (eN (sR (wCg (.fx 3 (.fx 4 (wID (.nil)) .stop) .stop)) Z (oL Z (aI.ldBA (j:=3) Z Z Z zg zW (vs:=B0) Z Z) (oL Z (aI.ldBA (j:=2) Z Z Z Zr ZZ (vs:=B1) Z Z) (oL Z (aI.ldBA (j:=1) Z Z Z Zr ZZ (vs:=B2) Z Z) (zq (pv:=[(0,.agg B1.toArray),(1,.agg B2.toArray)]) (zs:=[jV 0,jV 0,jV 0,jV 0]) (cs:=[jV p1.Skier,jV p1.Mat,jV p2.Skier,jV p2.Mat]) Z Z Z Z Z (wAH Z (wAH Z wAP)) Zv ZZ Zy Z Z Z Z Z aI ?_))))))
 intro aW bh cu
 have cw:sW w U U [.row (some ⟨bh,0,none⟩) 2 45 2 (hD wAU [p1,p2]),.blk aj 41 B3,.blk ai 45 B2,.blk b6 45 B1,.blk b2 28 B0] aW:=cu
 have q:=cw.freezeR (k:=0) (n:=[p1,p2].length) rfl (wAE (f:=wAU) (sz:=2) (fun _=>rfl) [p1,p2]) (by decide)
 obtain ⟨bc,aL,cU,cx⟩:=q
 have cy:sW w U bc [.blk aj 41 B3,.blk ai 45 B2,.blk b6 45 B1,.blk b2 28 B0] aW:=cx
 have bS:=cG.le aL
 have bT:=cH.le aL
 have bU:=cI.le aL
 have bV:=cJ.le aL
 have q:=bnd hm
 obtain ⟨⟨cW,aU⟩,bW,ay⟩:=q
 try dsimp only at ay
 refine zE 0 Z Z Z Z (zD Z Z Try.call46 (zB Z (zB Z zM)) Z) cy (fun hs=>wEY p0 aM aQ aN aR aO aS aP aT [p1,p2] (some ⟨bh,0,none⟩) 2 aW bc hs bS bT bU bV cU bW) (.inr Z) ?_
 rintro an da dv av dl br bo
 rcases cW with _ | ax
 try dsimp only at ay
 obtain ⟨rfl,rfl⟩:=bo
 have bs:sW w U an [.blk aj 41 B3,.blk ai 45 B2,.blk b6 45 B1,.blk b2 28 B0] av:=br
 refine oM Z Z (oR Z (zT Z Z (v:=.pointer none) Z) (oR Z (zT Z Z (v:=jV aU) Z) (oA Z Z (oA Z Z (eN (zL (sR fL2 Z (oM Z Z (oR Z (Zg Z Z Z) (eN (ifc ay ?_ ?_)))))))))))
 intro aY cO
 refine ZI (zt (fun h=>h aY.out)) (kN (zL (ZG ZH [3,1,2,1,2,0,0,3] gEw (by kernel_rfl) ?_)))
 have aJ:=bs.drew
 generalize hw_W61:({ av with drawn:=av.drawn + 1 }:World)=bB at aJ ⊢
 refine oM Z Z (oL Z (aJ.ldBA (j:=2) Z Z Z Zr ZZ (vs:=B1) Z Z) (oL Z (aJ.ldBA (j:=1) Z Z Z Zr ZZ (vs:=B2) Z Z) (bnK cO fun dy bX cP=>zE 0 Z Z Z Z (zD Z Z yl (zB Z zM) Z) aJ (fun hs=>wDG p1 bB an hs bX) (.inr Z) ?_)))
 rintro bd db dw bg dm cB ⟨rfl,rfl⟩
 have cC:sW w U bd [.blk aj 41 B3,.blk ai 45 B2,.blk b6 45 B1,.blk b2 28 B0] bg:=cB
 refine bnK cP fun dz bY cQ=>zE 0 Z Z Z Z (zD Z Z yl (zB Z zM) Z) cC (fun hs=>wDG p2 bg bd hs bY) (.inr Z) ?_
 rintro bw dd dx bC dq cD ⟨rfl,rfl⟩
 have di:sW w U bw [.blk aj 41 B3,.blk ai 45 B2,.blk b6 45 B1,.blk b2 28 B0] bC:=cD
 cases cQ
 intro aY cR
 refine cT Z aY (sR gEn Z (oR Z (zl (pv:=[]) (z:=B3) (cs:=B3) Z wAP ZJ wBy Z Z) (oM Z Z (zV (j:=0) (vs:=B3) Z Z Z Z bs Z Z Z Z zf (zA Z) Z Z Z ?_))))
 intro bD cE
 have bt:sW w U an [.blk aj 41 B3,.blk ai 45 B2,.blk b6 45 B1,.blk b2 28 B0] bD:=cE
 refine oA Z Z (eN (zU (za ?_)))
 cases cR
 exact ⟨rfl,_,(wDf (rs:=[.cell 6 41,.tmp 7]) (vs:=[.agg B3.toArray,jV aU]) ⟨⟨_,rfl,(wAq Zi zf (bt.blkAt (k:=0) rfl) (vs:=B3) rfl rfl)⟩,⟨rfl,trivial⟩⟩ rfl),an,_,(bt.pick [] _ (by decide) rfl),rfl,rfl⟩
 try dsimp only at ay
 obtain ⟨aX,a5,bi,a6,bj,a7,bk,a8,bm,ao,aq,ap,a9,bn,rfl,rfl,bZ,ca,cb,cc,cd,cf⟩:=bo
 let B4:Res:=.blk aX 124 [.slice a5 ax.Race.Starts.length bi,.slice a6 ax.Race.Splits.length bj,.slice a7 ax.Race.Clocks.length bk,.slice a8 ax.Race.Readings.length bm,.map (some ao),.slice a9 ax.edges.length bn]
 have bu:sW w U an [B4,.obj ao (.map aq ap),.blk aj 41 B3,.blk ai 45 B2,.blk b6 45 B1,.blk b2 28 B0] av:=br
 refine oM Z Z (oR Z (zT Z Z (v:=.pointer (some ⟨aX,0,none⟩)) Z) (oR Z (zT Z Z (v:=jV aU) Z) (oA Z Z (oA Z Z (eN (zL (sR fL2 Z (oM Z Z (oR Z (Zg Z Z Z) (eN (ifc ay ?_ ?_)))))))))))
 intro aZ cS
 refine ZI (zt (fun h=>h aZ.out)) (kN (zL (ZG ZH [3,1,2,1,2,0,0,3] gEw (by kernel_rfl) ?_)))
 have aK:=bu.drew
 generalize hw_W98:({ av with drawn:=av.drawn + 1 }:World)=bE at aK ⊢
 refine oM Z Z (oL Z (aK.ldBA (j:=4) Z Z Z Zr ZZ (vs:=B1) Z Z) (oL Z (aK.ldBA (j:=3) Z Z Z Zr ZZ (vs:=B2) Z Z) (bnK cS fun cX bF cK=>zE 0 Z Z Z Z (zD Z Z yl (zB Z zM) Z) aK (fun hs=>wDG p1 bE an hs bF) (.inr Z) ?_)))
 rintro ba cY dr be az cg ⟨rfl,rfl⟩
 have ci:sW w U ba [B4,.obj ao (.map aq ap),.blk aj 41 B3,.blk ai 45 B2,.blk b6 45 B1,.blk b2 28 B0] be:=cg
 refine bnK cK fun cV bG cL=>zE 0 Z Z Z Z (zD Z Z yl (zB Z zM) Z) ci (fun hs=>wDG p2 be ba hs bG) (.inr Z) ?_
 rintro bb cZ dt bf aG cn ⟨rfl,rfl⟩
 have co:sW w U bb [B4,.obj ao (.map aq ap),.blk aj 41 B3,.blk ai 45 B2,.blk b6 45 B1,.blk b2 28 B0] bf:=cn
 have bH:=bZ.le az
 have bI:=bH.le aG
 have bJ:=ca.le az
 have bK:=bJ.le aG
 have bL:=cb.le az
 have bM:=bL.le aG
 have bN:=cc.le az
 have bO:=bN.le aG
 have bP:=cf.le az
 have bQ:=bP.le aG
 refine bnK cL fun bv bR cM=>zE 2 Z Z Z Z (zD Z Z Try.call47 (zB Z (zB Z (zB Z zM))) Z) co (fun hs=>wDi ax aX a5 bi a6 bj a7 bk a8 bm ao aq ap a9 bn cX cV bf bb hs bI bK bM bO cd bQ bR) (.inl Z) ?_
 rintro aV c6 du bx dk cp ⟨rfl,rfl⟩
 have cq:sW w U aV [B4,.obj ao (.map aq ap),.blk aj 41 B3,.blk ai 45 B2,.blk b6 45 B1,.blk b2 28 B0] bx:=cp
 let B5:List Value:=[jV bv.Lo,jV bv.Hi]
 refine zV (j:=2) (vs:=B5) Z Z Z Z cq Z Z Z Z zf (zA Z) Z Z Z ?_
 intro bz cr
 have bp:sW w U aV [B4,.obj ao (.map aq ap),.blk aj 41 B5,.blk ai 45 B2,.blk b6 45 B1,.blk b2 28 B0] bz:=cr
 refine oA Z Z (eN (zU ?_))
 cases cM
 exact ⟨rfl,_,(wDf (rs:=[.cell 6 41,.tmp 7]) (vs:=[.agg B5.toArray,jV 0]) ⟨⟨_,rfl,(wAq Zi zf (bp.blkAt (k:=2) rfl) (vs:=B5) rfl rfl)⟩,⟨rfl,trivial⟩⟩ rfl),aV,_,(bp.pick [] _ (by decide) rfl),rfl,rfl⟩
 intro aZ cN
 refine cT Z aZ (sR gEn Z (oR Z (zl (pv:=[]) (z:=B3) (cs:=B3) Z wAP ZJ wBy Z Z) (oM Z Z (zV (j:=2) (vs:=B3) Z Z Z Z bu Z Z Z Z zf (zA Z) Z Z Z ?_))))
 intro bA ct
 have bq:sW w U an [B4,.obj ao (.map aq ap),.blk aj 41 B3,.blk ai 45 B2,.blk b6 45 B1,.blk b2 28 B0] bA:=ct
 refine oA Z Z (eN (zU (za ?_)))
 cases cN
 exact ⟨rfl,_,(wDf (rs:=[.cell 6 41,.tmp 7]) (vs:=[.agg B3.toArray,jV aU]) ⟨⟨_,rfl,(wAq Zi zf (bq.blkAt (k:=2) rfl) (vs:=B3) rfl rfl)⟩,⟨rfl,trivial⟩⟩ rfl),an,_,(bq.pick [] _ (by decide) rfl),rfl,rfl⟩
theorem wFN (p0:wAD) (ai:Option Addr) (an:Nat) (aj:Option Addr) (ao:Nat) (ak:Option Addr) (ap:Nat) (am:Option Addr) (aq:Nat) (p1:wAJ) (w:World) (U:PHeap) (hS:St0 w U []) (aT:Sl U 1 ai an p0.Starts.length (hD KL.encI p0.Starts)) (aU:Sl U 2 aj ao p0.Splits.length (hD wAC p0.Splits)) (aV:Sl U 3 ak ap p0.Clocks.length (hD wAB p0.Clocks)) (aW:Sl U 4 am aq p0.Readings.length (hD wAA p0.Readings)) {r:Bool} (hm:wBq p0 p1=some r):Gv Try.prog 101 [.agg #[.slice ai p0.Starts.length an,.slice aj p0.Splits.length ao,.slice ak p0.Clocks.length ap,.slice am p0.Readings.length aq],.agg #[jV p1.Kind,jV p1.Skier,jV p1.Index,.bool p1.Up]] w (wBs w [] U (fun U_ L_ v=>v=.bool r/\L_=[])):=by
 unfold wBq at hm
 refine Gv.of Try.func101 Z Try.ntmps101 Try.results101 Z ?_
 by_cases c1:p1.Kind=0
 have ca:=hm;rw [if_pos c1] at ca
 refine sR gEe Z ?_
 let B0:List Value:=[.slice ai p0.Starts.length an,.slice aj p0.Splits.length ao,.slice ak p0.Clocks.length ap,.slice am p0.Readings.length aq]
 refine zu (cs:=B0) rfl rfl rfl rfl rfl rfl (by rfl) hS ?_
 intro W6 b7 dZ
 let B1:List Value:=[jV p1.Kind,jV p1.Skier,jV p1.Index,.bool p1.Up]
 refine zu (cs:=B1) rfl rfl rfl rfl rfl rfl (by rfl) dZ ?_
 intro bD bg dA
 refine yF rfl rfl rfl rfl rfl rfl (eN (zL (ZG ZH [3,1,2,3,2,3,1,3,3,1,1,2,3,3] gEx (by kernel_rfl) ?_)))
 have bq:=dA.drew
 generalize hw_W15:({ bD with drawn:=bD.drawn + 1 }:World)=ci at bq ⊢
 refine oR Z (zG Z Z zj Z yK) (oL Z (bq.ldB (j:=0) Z Z Z yQ (v:=jV p1.Kind) Z) (bnK ca fun fM cH en=>zE 0 Z Z Z Z (zD Z Z yO (zB Z (zB Z (zB Z zM))) Z) bq (fun hs=>wBY p1.Kind 0 3 ci U hs cH) (.inr Z) ?_))
 rintro bc eM fC bL a6 dR ⟨rfl,rfl⟩
 have aO:sW w U bc [.blk bg 78 B1,.blk b7 28 B0] bL:=dR
 refine oM Z Z (ifc en ?_ ?_)
 intro af ez
 refine zY Z Z Z (zP Z Z (congrArg hH af.out)) (fun _=>zG Z Z zj Z yK) (ZF Z Z Z (zP Z Z (congrArg hH af.out)) (aO.ldB (j:=0) Z Z Z yQ (v:=jV p1.Kind) Z) Z (ZF Z Z Z (zP Z Z (congrArg hH af.out)) (aO.ldBA (j:=1) Z Z Z zg zW (vs:=B0) Z Z) Z (ZF Z Z Z (zP Z Z (congrArg hH af.out)) (aO.ldBA (j:=0) Z Z Z yA Zf (vs:=B1) Z Z) Z ?_)))
 have q:=bnd ez
 obtain ⟨⟨⟩,cW,bZ⟩:=q
 try dsimp only at bZ
 refine zE 0 Z Z Z (zP Z Z (congrArg hH af.out)) (zD Z Z yR zM Z) aO (fun hs=>wAr bL bc hs cW) (.inr Z) ?_
 rintro bz eV fG bN a7 dS ⟨rfl,rfl⟩
 have dT:sW w U bz [.blk bg 78 B1,.blk b7 28 B0] bN:=dS
 refine zY rfl rfl rfl (zP rfl rfl (congrArg hH af.out)) (fun _=>(ye (i:=0) rfl rfl (congrArg (jV) c1) Zo ZX (by decide) (by decide) (wCd yV ZX rfl))) (zY rfl rfl rfl (zP rfl rfl (congrArg hH af.out)) (fun _=>Runs.fld rfl rfl Zu rfl (wET Try.isAgg165 (v:=.func (.func 108) #[] #[]) rfl)) ?_)
 have cX:=aT.le a6
 have cY:=cX.le a7
 have cZ:=aU.le a6
 have c6:=cZ.le a7
 have da:=aV.le a6
 have db:=da.le a7
 have dd:=aW.le a6
 have de:=dd.le a7
 refine bnK bZ fun fQ df eA=>zE 0 Z Z Z (zP Z Z (congrArg hH af.out)) (zD Z Z Try.call108 (zB Z (zB Z zM)) Z) dT (fun hs=>wGR p0 ai an aj ao ak ap am aq p1 bN bz hs cY c6 db de df) (.inr Z) ?_
 rintro bA eW fH cr fq dU ⟨rfl,rfl⟩
 have dV:sW w U bA [.blk bg 78 B1,.blk b7 28 B0] cr:=dU
 refine oR Z (zQ Z (congrArg hH af.out) Z) (oA Z Z (eN (zU ?_)))
 have hE:=nA eA;first | subst r | cases hE
 exact ⟨rfl,_,(ZV rfl),bA,_,(dV.pick [] _ (by decide) rfl),rfl,rfl⟩
 intro af eB
 refine zX Z Z Z (zS Z Z (congrArg hH (hJ.2 af.out)) Z) (zX Z Z Z (zS Z Z (congrArg hH (hJ.2 af.out)) Z) (zX Z Z Z (zS Z Z (congrArg hH (hJ.2 af.out)) Z) (zX Z Z Z (zS Z Z (congrArg hH (hJ.2 af.out)) Z) (ZE Z Z Z (zS Z Z (congrArg hH (hJ.2 af.out)) Z) (zX Z Z Z (zS Z Z (congrArg hH (hJ.2 af.out)) Z) (zX Z Z Z (zS Z Z (congrArg hH (hJ.2 af.out)) Z) (ZE Z Z Z (zS Z Z (congrArg hH (hJ.2 af.out)) Z) (oR Z (ze Z (congrArg hH (hJ.2 af.out)) Z) (oA Z Z (eN (zU ?_)))))))))))
 have hE:=nA eB;first | subst r | cases hE
 exact ⟨rfl,_,(ZV rfl),bc,_,(aO.pick [] _ (by decide) rfl),rfl,rfl⟩
 by_cases c2:p1.Kind=1
 have cb:=hm;rw [if_neg c1,if_pos c2] at cb
 refine sR gEe Z ?_
 let B2:List Value:=[.slice ai p0.Starts.length an,.slice aj p0.Splits.length ao,.slice ak p0.Clocks.length ap,.slice am p0.Readings.length aq]
 refine zu (cs:=B2) rfl rfl rfl rfl rfl rfl (by rfl) hS ?_
 intro fc bk dW
 let B3:List Value:=[jV p1.Kind,jV p1.Skier,jV p1.Index,.bool p1.Up]
 refine zu (cs:=B3) rfl rfl rfl rfl rfl rfl (by rfl) dW ?_
 intro bO bm dX
 refine yF rfl rfl rfl rfl rfl rfl (eN (zL (ZG ZH [3,1,2,3,2,3,1,3,3,1,1,2,3,3] gEx (by kernel_rfl) ?_)))
 have bt:=dX.drew
 generalize hw_W66:({ bO with drawn:=bO.drawn + 1 }:World)=ct at bt ⊢
 refine oR Z (zG Z Z zj Z yK) (oL Z (bt.ldB (j:=0) Z Z Z yQ (v:=jV p1.Kind) Z) (bnK cb fun fR dg eD=>zE 0 Z Z Z Z (zD Z Z yO (zB Z (zB Z (zB Z zM))) Z) bt (fun hs=>wBY p1.Kind 0 3 ct U hs dg) (.inr Z) ?_))
 rintro be eX fI bP a8 dY ⟨rfl,rfl⟩
 have aP:sW w U be [.blk bm 78 B3,.blk bk 28 B2] bP:=dY
 refine oM Z Z (ifc eD ?_ ?_)
 intro ag eE
 refine zY Z Z Z (zP Z Z (congrArg hH ag.out)) (fun _=>zG Z Z zj Z yK) (ZF Z Z Z (zP Z Z (congrArg hH ag.out)) (aP.ldB (j:=0) Z Z Z yQ (v:=jV p1.Kind) Z) Z (ZF Z Z Z (zP Z Z (congrArg hH ag.out)) (aP.ldBA (j:=1) Z Z Z zg zW (vs:=B2) Z Z) Z (ZF Z Z Z (zP Z Z (congrArg hH ag.out)) (aP.ldBA (j:=0) Z Z Z yA Zf (vs:=B3) Z Z) Z ?_)))
 have q:=bnd eE
 obtain ⟨⟨⟩,dh,cc⟩:=q
 try dsimp only at cc
 refine zE 0 Z Z Z (zP Z Z (congrArg hH ag.out)) (zD Z Z yR zM Z) aP (fun hs=>wAr bP be hs dh) (.inr Z) ?_
 rintro bB eY fJ bQ a9 d7 ⟨rfl,rfl⟩
 have d9:sW w U bB [.blk bm 78 B3,.blk bk 28 B2] bQ:=d7
 refine zY rfl rfl rfl (zP rfl rfl (congrArg hH ag.out)) (fun _=>(ye (i:=1) rfl rfl (congrArg (jV) c2) Zo ZX (by decide) (by decide) (wCd yV ZX rfl))) (zY rfl rfl rfl (zP rfl rfl (congrArg hH ag.out)) (fun _=>Runs.fld rfl rfl Zu rfl (wET Try.isAgg165 (v:=.func (.func 111) #[] #[]) rfl)) ?_)
 have di:=aT.le a8
 have dk:=di.le a9
 have dl:=aU.le a8
 have dm:=dl.le a9
 have dq:=aV.le a8
 have dr:=dq.le a9
 have dt:=aW.le a8
 have du:=dt.le a9
 refine bnK cc fun fS dv eF=>zE 0 Z Z Z (zP Z Z (congrArg hH ag.out)) (zD Z Z Try.call111 (zB Z (zB Z zM)) Z) d9 (fun hs=>wGU p0 ai an aj ao ak ap am aq p1 bQ bB hs dk dm dr du dv) (.inr Z) ?_
 rintro bC eG ft cf fg dw ⟨rfl,rfl⟩
 have dx:sW w U bC [.blk bm 78 B3,.blk bk 28 B2] cf:=dw
 refine oR Z (zQ Z (congrArg hH ag.out) Z) (oA Z Z (eN (zU ?_)))
 have hE:=nA eF;first | subst r | cases hE
 exact ⟨rfl,_,(ZV rfl),bC,_,(dx.pick [] _ (by decide) rfl),rfl,rfl⟩
 intro ag ec
 refine zX Z Z Z (zS Z Z (congrArg hH (hJ.2 ag.out)) Z) (zX Z Z Z (zS Z Z (congrArg hH (hJ.2 ag.out)) Z) (zX Z Z Z (zS Z Z (congrArg hH (hJ.2 ag.out)) Z) (zX Z Z Z (zS Z Z (congrArg hH (hJ.2 ag.out)) Z) (ZE Z Z Z (zS Z Z (congrArg hH (hJ.2 ag.out)) Z) (zX Z Z Z (zS Z Z (congrArg hH (hJ.2 ag.out)) Z) (zX Z Z Z (zS Z Z (congrArg hH (hJ.2 ag.out)) Z) (ZE Z Z Z (zS Z Z (congrArg hH (hJ.2 ag.out)) Z) (oR Z (ze Z (congrArg hH (hJ.2 ag.out)) Z) (oA Z Z (eN (zU ?_)))))))))))
 have hE:=nA ec;first | subst r | cases hE
 exact ⟨rfl,_,(ZV rfl),be,_,(aP.pick [] _ (by decide) rfl),rfl,rfl⟩
 by_cases c3:p1.Kind=2
 have bT:=hm;rw [if_neg c1,if_neg c2,if_pos c3] at bT
 refine sR gEe Z ?_
 let B4:List Value:=[.slice ai p0.Starts.length an,.slice aj p0.Splits.length ao,.slice ak p0.Clocks.length ap,.slice am p0.Readings.length aq]
 refine zu (cs:=B4) rfl rfl rfl rfl rfl rfl (by rfl) hS ?_
 intro eZ bf dy
 let B5:List Value:=[jV p1.Kind,jV p1.Skier,jV p1.Index,.bool p1.Up]
 refine zu (cs:=B5) rfl rfl rfl rfl rfl rfl (by rfl) dy ?_
 intro bE bh dz
 refine yF rfl rfl rfl rfl rfl rfl (eN (zL (ZG ZH [3,1,2,3,2,3,1,3,3,1,1,2,3,3] gEx (by kernel_rfl) ?_)))
 have bp:=dz.drew
 generalize hw_W117:({ bE with drawn:=bE.drawn + 1 }:World)=cg at bp ⊢
 refine oR Z (zG Z Z zj Z yK) (oL Z (bp.ldB (j:=0) Z Z Z yQ (v:=jV p1.Kind) Z) (bnK bT fun fK cu ef=>zE 0 Z Z Z Z (zD Z Z yO (zB Z (zB Z (zB Z zM))) Z) bp (fun hs=>wBY p1.Kind 0 3 cg U hs cu) (.inr Z) ?_))
 rintro ba eH fu bF aX dB ⟨rfl,rfl⟩
 have aL:sW w U ba [.blk bh 78 B5,.blk bf 28 B4] bF:=dB
 refine oM Z Z (ifc ef ?_ ?_)
 intro ac eg
 refine zY Z Z Z (zP Z Z (congrArg hH ac.out)) (fun _=>zG Z Z zj Z yK) (ZF Z Z Z (zP Z Z (congrArg hH ac.out)) (aL.ldB (j:=0) Z Z Z yQ (v:=jV p1.Kind) Z) Z (ZF Z Z Z (zP Z Z (congrArg hH ac.out)) (aL.ldBA (j:=1) Z Z Z zg zW (vs:=B4) Z Z) Z (ZF Z Z Z (zP Z Z (congrArg hH ac.out)) (aL.ldBA (j:=0) Z Z Z yA Zf (vs:=B5) Z Z) Z ?_)))
 have q:=bnd eg
 obtain ⟨⟨⟩,cw,bU⟩:=q
 try dsimp only at bU
 refine zE 0 Z Z Z (zP Z Z (congrArg hH ac.out)) (zD Z Z yR zM Z) aL (fun hs=>wAr bF ba hs cw) (.inr Z) ?_
 rintro bu eI fw bG aY dC ⟨rfl,rfl⟩
 have dD:sW w U bu [.blk bh 78 B5,.blk bf 28 B4] bG:=dC
 refine zY rfl rfl rfl (zP rfl rfl (congrArg hH ac.out)) (fun _=>(ye (i:=2) rfl rfl (congrArg (jV) c3) Zo ZX (by decide) (by decide) (wCd yV ZX rfl))) (zY rfl rfl rfl (zP rfl rfl (congrArg hH ac.out)) (fun _=>Runs.fld rfl rfl Zu rfl (wET Try.isAgg165 (v:=.func (.func 114) #[] #[]) rfl)) ?_)
 have cx:=aT.le aX
 have cy:=cx.le aY
 have cz:=aU.le aX
 have cA:=cz.le aY
 have cB:=aV.le aX
 have cC:=cB.le aY
 have cD:=aW.le aX
 have cE:=cD.le aY
 refine bnK bU fun fL cG eh=>zE 0 Z Z Z (zP Z Z (congrArg hH ac.out)) (zD Z Z Try.call114 (zB Z (zB Z zM)) Z) dD (fun hs=>wGX p0 ai an aj ao ak ap am aq p1 bG bu hs cy cA cC cE cG) (.inr Z) ?_
 rintro bv eJ fy cm fh dE ⟨rfl,rfl⟩
 have dF:sW w U bv [.blk bh 78 B5,.blk bf 28 B4] cm:=dE
 refine oR Z (zQ Z (congrArg hH ac.out) Z) (oA Z Z (eN (zU ?_)))
 have hE:=nA eh;first | subst r | cases hE
 exact ⟨rfl,_,(ZV rfl),bv,_,(dF.pick [] _ (by decide) rfl),rfl,rfl⟩
 intro ac ej
 refine zX Z Z Z (zS Z Z (congrArg hH (hJ.2 ac.out)) Z) (zX Z Z Z (zS Z Z (congrArg hH (hJ.2 ac.out)) Z) (zX Z Z Z (zS Z Z (congrArg hH (hJ.2 ac.out)) Z) (zX Z Z Z (zS Z Z (congrArg hH (hJ.2 ac.out)) Z) (ZE Z Z Z (zS Z Z (congrArg hH (hJ.2 ac.out)) Z) (zX Z Z Z (zS Z Z (congrArg hH (hJ.2 ac.out)) Z) (zX Z Z Z (zS Z Z (congrArg hH (hJ.2 ac.out)) Z) (ZE Z Z Z (zS Z Z (congrArg hH (hJ.2 ac.out)) Z) (oR Z (ze Z (congrArg hH (hJ.2 ac.out)) Z) (oA Z Z (eN (zU ?_)))))))))))
 have hE:=nA ej;first | subst r | cases hE
 exact ⟨rfl,_,(ZV rfl),ba,_,(aL.pick [] _ (by decide) rfl),rfl,rfl⟩
 by_cases c4:p1.Kind=3
 have bV:=hm;rw [if_neg c1,if_neg c2,if_neg c3,if_pos c4] at bV
 refine sR gEe Z ?_
 let B6:List Value:=[.slice ai p0.Starts.length an,.slice aj p0.Splits.length ao,.slice ak p0.Clocks.length ap,.slice am p0.Readings.length aq]
 refine zu (cs:=B6) rfl rfl rfl rfl rfl rfl (by rfl) hS ?_
 intro e0 bi dG
 let B7:List Value:=[jV p1.Kind,jV p1.Skier,jV p1.Index,.bool p1.Up]
 refine zu (cs:=B7) rfl rfl rfl rfl rfl rfl (by rfl) dG ?_
 intro bH bj dH
 refine yF rfl rfl rfl rfl rfl rfl (eN (zL (ZG ZH [3,1,2,3,2,3,1,3,3,1,1,2,3,3] gEx (by kernel_rfl) ?_)))
 have br:=dH.drew
 generalize hw_W168:({ bH with drawn:=bH.drawn + 1 }:World)=cn at br ⊢
 refine oR Z (zG Z Z zj Z yK) (oL Z (br.ldB (j:=0) Z Z Z yQ (v:=jV p1.Kind) Z) (bnK bV fun fN cI ek=>zE 0 Z Z Z Z (zD Z Z yO (zB Z (zB Z (zB Z zM))) Z) br (fun hs=>wBY p1.Kind 0 3 cn U hs cI) (.inr Z) ?_))
 rintro bb eK fz bI aZ dI ⟨rfl,rfl⟩
 have aM:sW w U bb [.blk bj 78 B7,.blk bi 28 B6] bI:=dI
 refine oM Z Z (ifc ek ?_ ?_)
 intro ae eo
 refine zY Z Z Z (zP Z Z (congrArg hH ae.out)) (fun _=>zG Z Z zj Z yK) (ZF Z Z Z (zP Z Z (congrArg hH ae.out)) (aM.ldB (j:=0) Z Z Z yQ (v:=jV p1.Kind) Z) Z (ZF Z Z Z (zP Z Z (congrArg hH ae.out)) (aM.ldBA (j:=1) Z Z Z zg zW (vs:=B6) Z Z) Z (ZF Z Z Z (zP Z Z (congrArg hH ae.out)) (aM.ldBA (j:=0) Z Z Z yA Zf (vs:=B7) Z Z) Z ?_)))
 have q:=bnd eo
 obtain ⟨⟨⟩,cJ,bW⟩:=q
 try dsimp only at bW
 refine zE 0 Z Z Z (zP Z Z (congrArg hH ae.out)) (zD Z Z yR zM Z) aM (fun hs=>wAr bI bb hs cJ) (.inr Z) ?_
 rintro bw eL fA bJ a5 dJ ⟨rfl,rfl⟩
 have dK:sW w U bw [.blk bj 78 B7,.blk bi 28 B6] bJ:=dJ
 refine zY rfl rfl rfl (zP rfl rfl (congrArg hH ae.out)) (fun _=>(ye (i:=3) rfl rfl (congrArg (jV) c4) Zo ZX (by decide) (by decide) (wCd yV ZX rfl))) (zY rfl rfl rfl (zP rfl rfl (congrArg hH ae.out)) (fun _=>Runs.fld rfl rfl Zu rfl (wET Try.isAgg165 (v:=.func (.func 117) #[] #[]) rfl)) ?_)
 have cK:=aT.le aZ
 have cL:=cK.le a5
 have cM:=aU.le aZ
 have cN:=cM.le a5
 have cO:=aV.le aZ
 have cP:=cO.le a5
 have cQ:=aW.le aZ
 have cR:=cQ.le a5
 refine bnK bW fun fO cS ep=>zE 0 Z Z Z (zP Z Z (congrArg hH ae.out)) (zD Z Z Try.call117 (zB Z (zB Z zM)) Z) dK (fun hs=>wFz p0 ai an aj ao ak ap am aq p1 bJ bw hs cL cN cP cR cS) (.inr Z) ?_
 rintro bx eO fB co fj dL ⟨rfl,rfl⟩
 have dM:sW w U bx [.blk bj 78 B7,.blk bi 28 B6] co:=dL
 refine oR Z (zQ Z (congrArg hH ae.out) Z) (oA Z Z (eN (zU ?_)))
 have hE:=nA ep;first | subst r | cases hE
 exact ⟨rfl,_,(ZV rfl),bx,_,(dM.pick [] _ (by decide) rfl),rfl,rfl⟩
 intro ae er
 refine zX Z Z Z (zS Z Z (congrArg hH (hJ.2 ae.out)) Z) (zX Z Z Z (zS Z Z (congrArg hH (hJ.2 ae.out)) Z) (zX Z Z Z (zS Z Z (congrArg hH (hJ.2 ae.out)) Z) (zX Z Z Z (zS Z Z (congrArg hH (hJ.2 ae.out)) Z) (ZE Z Z Z (zS Z Z (congrArg hH (hJ.2 ae.out)) Z) (zX Z Z Z (zS Z Z (congrArg hH (hJ.2 ae.out)) Z) (zX Z Z Z (zS Z Z (congrArg hH (hJ.2 ae.out)) Z) (ZE Z Z Z (zS Z Z (congrArg hH (hJ.2 ae.out)) Z) (oR Z (ze Z (congrArg hH (hJ.2 ae.out)) Z) (oA Z Z (eN (zU ?_)))))))))))
 have hE:=nA er;first | subst r | cases hE
 exact ⟨rfl,_,(ZV rfl),bb,_,(aM.pick [] _ (by decide) rfl),rfl,rfl⟩
 have bX:=hm;rw [if_neg c1,if_neg c2,if_neg c3,if_neg c4] at bX
 refine sR gEe Z ?_
 let B8:List Value:=[.slice ai p0.Starts.length an,.slice aj p0.Splits.length ao,.slice ak p0.Clocks.length ap,.slice am p0.Readings.length aq]
 refine zu (cs:=B8) rfl rfl rfl rfl rfl rfl (by rfl) hS ?_
 intro fb bR dN
 let B9:List Value:=[jV p1.Kind,jV p1.Skier,jV p1.Index,.bool p1.Up]
 refine zu (cs:=B9) rfl rfl rfl rfl rfl rfl (by rfl) dN ?_
 intro bK bS dO
 refine yF rfl rfl rfl rfl rfl rfl (eN (zL (ZG ZH [3,1,2,3,2,3,1,3,3,1,1,2,3,3] gEx (by kernel_rfl) ?_)))
 have bs:=dO.drew
 generalize hw_W219:({ bK with drawn:=bK.drawn + 1 }:World)=cp at bs ⊢
 refine oR Z (zG Z Z zj Z yK) (oL Z (bs.ldB (j:=0) Z Z Z yQ (v:=jV p1.Kind) Z) (bnK bX fun fP cU eu=>zE 0 Z Z Z Z (zD Z Z yO (zB Z (zB Z (zB Z zM))) Z) bs (fun hs=>wBY p1.Kind 0 3 cp U hs cU) (.inr Z) ?_))
 rintro bd eQ fD bM fk dP ⟨rfl,rfl⟩
 have aN:sW w U bd [.blk bS 78 B9,.blk bR 28 B8] bM:=dP
 refine oM Z Z (ifc eu ?_ ?_)
 intro ah ew
 refine zY Z Z Z (zP Z Z (congrArg hH ah.out)) (fun _=>zG Z Z zj Z yK) (ZF Z Z Z (zP Z Z (congrArg hH ah.out)) (aN.ldB (j:=0) Z Z Z yQ (v:=jV p1.Kind) Z) Z (ZF Z Z Z (zP Z Z (congrArg hH ah.out)) (aN.ldBA (j:=1) Z Z Z zg zW (vs:=B8) Z Z) Z (ZF Z Z Z (zP Z Z (congrArg hH ah.out)) (aN.ldBA (j:=0) Z Z Z yA Zf (vs:=B9) Z Z) Z ?_)))
 have q:=bnd ew
 obtain ⟨⟨⟩,cV,bY⟩:=q
 try dsimp only at bY
 refine zE 0 Z Z Z (zP Z Z (congrArg hH ah.out)) (zD Z Z yR zM Z) aN (fun hs=>wAr bM bd hs cV) (.inr Z) ?_
 rintro cd eU fE cq fm dQ ⟨rfl,rfl⟩
 have ff:sW w U cd [.blk bS 78 B9,.blk bR 28 B8] cq:=dQ
 cases bY
 intro ah ey
 refine zX Z Z Z (zS Z Z (congrArg hH (hJ.2 ah.out)) Z) (zX Z Z Z (zS Z Z (congrArg hH (hJ.2 ah.out)) Z) (zX Z Z Z (zS Z Z (congrArg hH (hJ.2 ah.out)) Z) (zX Z Z Z (zS Z Z (congrArg hH (hJ.2 ah.out)) Z) (ZE Z Z Z (zS Z Z (congrArg hH (hJ.2 ah.out)) Z) (zX Z Z Z (zS Z Z (congrArg hH (hJ.2 ah.out)) Z) (zX Z Z Z (zS Z Z (congrArg hH (hJ.2 ah.out)) Z) (ZE Z Z Z (zS Z Z (congrArg hH (hJ.2 ah.out)) Z) (oR Z (ze Z (congrArg hH (hJ.2 ah.out)) Z) (oA Z Z (eN (zU ?_)))))))))))
 have hE:=nA ey;first | subst r | cases hE
 exact ⟨rfl,_,(ZV rfl),bd,_,(aN.pick [] _ (by decide) rfl),rfl,rfl⟩
end Go.Proofs.Ytlnfbjphfoipaaa
namespace Go.Proofs.Ytlnfbjphfoipaaa
open Go.KL
set_option maxHeartbeats 4000000
theorem wEJ (p0:List wAJ) (an:Option Addr) (ao:Nat) (p1:(wAJ->Option Bool)) (ap:Value) (w:World) (U:PHeap) (hS:St0 w U []) (a8:Sl U 4 an ao p0.length (hD wBV p0)) (a9:FnOK Try.prog U ap wKJ wMC p1) {r:Bool} (hm:wCI p0 p1=some r):Gv Try.prog 102 [.slice an p0.length ao,ap] w (wBs w [] U (fun U_ L_ v=>v=.bool r/\L_=[])):=by
 unfold wCI at hm
 refine Gv.of Try.func102 Z Try.ntmps102 Try.results102 Z (sR fL1 Z (oA Z Z (eN (zL (sR fL3 Z (oM Z Z (oR Z (zw Z Z yN) (oM Z Z (eN (zd ?_))))))))))
 have q:=wCB hm
 obtain ⟨r3,ai⟩:=q
 have q:=wCA ai
 obtain ⟨ak,bc⟩:=q
 replace ak:=zN ak
 refine yX (fun k2 _ σ_ w_=>∃ (U_:PHeap),σ_ 9=jV (↑k2:Int)/\σ_ 1=ap/\σ_ 7=.slice an p0.length ao/\σ_ 8=jV (↑p0.length:Int)/\PHeap.Le U U_/\sW w U U_ [] w_) bc ?_ ?_ ?_
 exact ⟨U,Z,Z,Z,Z,(zO _),hS⟩
 rintro k2 ⟨⟩ bz bB W8 aj ⟨aM,ah,av,ax,ay,am,aG⟩ aK ba
 try dsimp only at aK
 have au:Hid ((↑k2:Int) < (↑p0.length:Int)):=zN (wAs aj)
 replace aj:=zN aj
 have bd:Hid (w64 ((↑k2:Int) + 1)=(↑(k2 + 1):Int)):=zN (by have h1:=ak.out;have h2:=au.out;rw [wAW] <;> omega)
 refine sR fL1 Z (oR Z (zi Z ah ay) (eN (zL (cT Z au (kN (zL (zd (sR gEo Z (bnK aK fun ab az be=>?_)))))))))
 have aU:=a8.le am
 have q:=aU.el (fun _=>rfl) (wAj az)
 obtain ⟨bq,bu,aX,aY⟩:=q
 refine oR Z (Zh Z ax aX ah yN Zf (wCv az)) (oL Z (aG.ldCA (f:=0) aY Z Z yA Zf (us:=[jV ab.Kind,jV ab.Skier,jV ab.Index,.bool ab.Up]) Z Z) (zR (cs:=[jV 0,jV 0,jV 0,.bool false]) Z Z Z Z Z Zz Z aG ?_))
 intro bn aq aZ
 let B0:List Value:=[jV ab.Kind,jV ab.Skier,jV ab.Index,.bool ab.Up]
 refine zV (j:=0) (vs:=B0) Z Z Z Z aZ Z Z Z Z Zf (zA Z) Z Z Z ?_
 intro aO a5
 have aH:sW w U aM [.blk aq 78 B0] aO:=a5
 refine eN (sR gEn Z (oM Z av (oL Z (aH.ldBA (j:=0) Z Z Z yA Zf (vs:=B0) Z Z) (bnK be fun bx aV bf=>?_))))
 have aW:=a9.le am
 refine OKS.callV (a:=ab) Z Z Z Z Z Z (zB Z zM) aH aW Z aV ?_
 rintro af bm bw aP bj a6 ⟨rfl,rfl⟩
 have aI:sW w U af [.blk aq 78 B0] aP:=a6
 refine oR Z (Zd Z Z) (eN (ifc bf ?_ ?_))
 intro ag bg
 refine ZI (nC ag.out) (Zp (ZA (zI (rR fL2 Z (oR Z (ZM (zb Z ah Z) (congrArg (jV) bd.out)) (oM Z Z (zc ?_)))))))
 have q:=nA bg
 obtain rfl:=q
 exact zI ⟨rfl,_,rfl,⟨af,rfl,av,ax,ay,(am.trans bj),(aI.pick [] _ (by decide) rfl)⟩⟩
 intro ag bh
 refine ZT (nF (ag.out)) (sR fL1 Z (oA Z Z (eN (zU (zx (za ?_))))))
 have q:=wAh bh
 obtain ⟨bk,bi,aR⟩:=q
 have q:=wBw hm ai (ba bk aR)
 obtain rfl:=q
 refine za (zx (za ?_))
 have hE:=nA bi;first | subst r | cases hE
 exact ⟨rfl,_,(ZV rfl),af,_,(aI.pick [] _ (by decide) rfl),rfl,rfl⟩
 rintro ⟨⟩ bA bo ⟨aN,aT,br,bs,aS,bt,a7⟩ bb
 have aJ:=wCx hm ai bb
 try dsimp only at aJ
 have aQ:Hid (¬ ((↑(((↑p0.length:Int):Int) - 0).toNat:Int) < (↑p0.length:Int))):=zN (wAc)
 refine sR fL1 Z (oR Z (zi Z aT aS) (eN (zL (cF Z aQ (Zc (zm (zm (ZY (zI (sR fL1 Z (oA Z Z (eN (zU ?_)))))))))))))
 have hE:=nA aJ;first | subst r | cases hE
 exact ⟨Z,_,(ZV Z),aN,_,a7,Z,Z⟩
theorem wDj (p0:wAD) (af:Option Addr) (aj:Nat) (ag:Option Addr) (ak:Nat) (ah:Option Addr) (am:Nat) (ai:Option Addr) (an:Nat) (p1:List wAJ) (au:Option Addr) (av:Nat) (w:World) (U:PHeap) (hS:St0 w U []) (aN:Sl U 1 af aj p0.Starts.length (hD KL.encI p0.Starts)) (aO:Sl U 2 ag ak p0.Splits.length (hD wAC p0.Splits)) (aP:Sl U 3 ah am p0.Clocks.length (hD wAB p0.Clocks)) (aQ:Sl U 4 ai an p0.Readings.length (hD wAA p0.Readings)) (aR:Sl U 4 au av p1.length (hD wBV p1)) {r:Int} (hm:wCJ p0 p1=some r):Gv Try.prog 69 [.agg #[.slice af p0.Starts.length aj,.slice ag p0.Splits.length ak,.slice ah p0.Clocks.length am,.slice ai p0.Readings.length an],.slice au p1.length av] w (wBs w [] U (fun U_ L_ v=>v=jV r/\L_=[])):=by
 unfold wCJ at hm
 refine Gv.of Try.func69 Z Try.ntmps69 Try.results69 Z (sR gDw Z ?_)
 let B0:List Value:=[.slice af p0.Starts.length aj,.slice ag p0.Splits.length ak,.slice ah p0.Clocks.length am,.slice ai p0.Readings.length an]
 refine zu (cs:=B0) rfl rfl rfl rfl rfl rfl (by rfl) hS ?_
 intro W1 b2 aq
 refine oA Z Z (eN (sR fL3 Z (oL Z (aq.ldBA (j:=0) Z Z Z zg zW (vs:=B0) Z Z) (oR Z (Runs.mkf Z (zB Z zM) zM) (oA Z Z (eN (zL (zd (sR fL4 Z (oM Z Z (oR Z (zw Z Z yN) (oR Z (Runs.gtr Z Z Z) (oA Z Z (eN ?_))))))))))))))
 by_cases c5:80 < (↑p1.length:Int)
 have ay:=hm;rw [if_pos c5] at ay;replace c5:=zN c5
 refine cT Z c5 (sR fL1 Z (oA Z Z (eN (zU (zx (za ?_))))))
 cases ay
 exact ⟨rfl,_,(ZV rfl),U,_,(aq.pick [] _ (by decide) rfl),rfl,rfl⟩
 have az:=hm;rw [if_neg c5] at az;replace c5:=zN c5
 refine cF Z c5 (sR gEt Z (oM Z Z (oM Z Z ?_)))
 have aL:FnOK Try.prog U (.func (.func 101) #[.agg B0.toArray] #[]) wKJ wMC (fun x=>wBq p0 x):=⟨101,[.agg B0.toArray],[],rfl,Try.call101,fun U1 w1 x y vs le hs ha hm=>by obtain rfl:=ha;exact wFN p0 af aj ag ak ah am ai an x w1 U1 hs (aN.le le) (aO.le le) (aP.le le) (aQ.le le) hm⟩
 refine bnK az fun x9 aK aS=>zE 0 Z Z Z Z (zD Z Z Try.call102 (zB Z (zB Z zM)) Z) aq (fun hs=>wEJ p1 au av (fun x=>wBq p0 x) (.func (.func 101) #[.agg B0.toArray] #[]) W1 U hs aR aL aK) (.inr Z) ?_
 rintro ao aW aY aI aX aM ⟨rfl,rfl⟩
 have ax:sW w U ao [.blk b2 28 B0] aI:=aM
 refine oR Z (Zd Z Z) (oA Z Z (eN (ifc aS ?_ ?_)))
 intro ap aT
 refine ZI (nC ap.out) (Zp (ZA (zI (sR fL1 Z (oA Z Z (eN (zU ?_)))))))
 cases aT
 exact ⟨rfl,_,(ZV rfl),ao,_,(ax.pick [] _ (by decide) rfl),rfl,rfl⟩
 intro ap aU
 refine ZT (nF (ap.out)) (sR fL1 Z (oA Z Z (eN (zU (zx (za ?_))))))
 cases aU
 exact ⟨rfl,_,(ZV rfl),ao,_,(ax.pick [] _ (by decide) rfl),rfl,rfl⟩
theorem wCY (p0:wAD) (aJ:Option Addr) (aN:Nat) (aK:Option Addr) (aO:Nat) (aL:Option Addr) (aP:Nat) (aM:Option Addr) (aQ:Nat) (p1:wAL) (p2:List wAJ) (a6:Option Addr) (a7:Nat) (w:World) (U:PHeap) (hS:St0 w U []) (cc:Sl U 1 aJ aN p0.Starts.length (hD KL.encI p0.Starts)) (cd:Sl U 2 aK aO p0.Splits.length (hD wAC p0.Splits)) (cf:Sl U 3 aL aP p0.Clocks.length (hD wAB p0.Clocks)) (cg:Sl U 4 aM aQ p0.Readings.length (hD wAA p0.Readings)) (ci:Sl U 4 a6 a7 p2.length (hD wBV p2)) {r:wAL × Int × Bool} (hm:wCX p0 p1 p2=some r):Gv Try.prog 71 [.agg #[.slice aJ p0.Starts.length aN,.slice aK p0.Splits.length aO,.slice aL p0.Clocks.length aP,.slice aM p0.Readings.length aQ],.agg #[jV p1.skier,jV p1.mat],.slice a6 p2.length a7] w (wBs w [] U (fun U_ L_ v=>v=.tuple #[.agg #[jV r.1.skier,jV r.1.mat],jV r.2.1,.bool r.2.2]/\L_=[])):=by
 unfold wCX at hm
 refine Gv.of Try.func71 Z Try.ntmps71 Try.results71 Z (sR gEu Z ?_)
 let B0:List Value:=[.slice aJ p0.Starts.length aN,.slice aK p0.Splits.length aO,.slice aL p0.Clocks.length aP,.slice aM p0.Readings.length aQ]
 refine zu (cs:=B0) rfl rfl rfl rfl rfl rfl (by rfl) hS ?_
 intro W1 b2 bP
 refine zu (cs:=[jV p1.skier,jV p1.mat]) rfl rfl rfl rfl rfl rfl (by rfl) bP ?_
 intro W5 b6 bS
 let B1:List Value:=[jV 0,jV 0]
 refine zR (cs:=B1) Z Z Z Z Z zZ Z bS ?_
 intro W9 af bN
 refine oA Z Z (oA Z Z (eN (sR fL1 Z (oA Z Z (eN (zL (sR fL3 Z (oM Z Z (oR Z (zw Z Z yN) (oM Z Z (eN (zd ?_))))))))))))
 have q:=wCB hm
 obtain ⟨cR,aY⟩:=q
 have q:=wCA aY
 obtain ⟨a5,co⟩:=q
 replace a5:=zN a5
 refine yX (fun ax (aR,aS,bp) σ_ w_=>∃ (U_:PHeap),σ_ 17=jV (↑ax:Int)/\σ_ 3=.pointer (some ⟨b2,0,none⟩)/\σ_ 4=.pointer (some ⟨b6,0,none⟩)/\σ_ 6=.pointer (some ⟨af,0,none⟩)/\σ_ 9=jV bp/\σ_ 15=.slice a6 p2.length a7/\σ_ 16=jV (↑p2.length:Int)/\PHeap.Le U U_/\sW w U U_ [.blk af 104 B1,.blk b6 104 [jV aR,jV aS],.blk b2 28 B0] w_) co ?_ ?_ ?_
 exact ⟨U,Z,Z,Z,Z,Z,Z,Z,(zO _),bN⟩
 rintro ax ⟨aR,aS,bp⟩ cU cW cG aZ ⟨a9,aW,bd,aI,aV,bC,be,bf,av,bk⟩ bo cn
 try dsimp only at bo
 have bb:Hid ((↑ax:Int) < (↑p2.length:Int)):=zN (wAs aZ)
 replace aZ:=zN aZ
 have cp:Hid (w64 ((↑ax:Int) + 1)=(↑(ax + 1):Int)):=zN (by have h1:=a5.out;have h2:=bb.out;rw [wAW] <;> omega)
 refine sR fL1 Z (oR Z (zi Z aW bf) (eN (zL (cT Z bb (kN (zL (zd (sR gEo Z (bnK bo fun aj bg ct=>?_)))))))))
 have bE:=ci.le av
 have q:=bE.el (fun _=>rfl) (wAj bg)
 obtain ⟨cM,cQ,bK,bL⟩:=q
 refine oR Z (Zh Z be bK aW yN Zf (wCv bg)) (oL Z (bk.ldCA (f:=0) bL Z Z yA Zf (us:=[jV aj.Kind,jV aj.Skier,jV aj.Index,.bool aj.Up]) Z Z) (zR (cs:=[jV 0,jV 0,jV 0,.bool false]) Z Z Z Z Z Zz Z bk ?_))
 intro cI aq bQ
 let B2:List Value:=[jV aj.Kind,jV aj.Skier,jV aj.Index,.bool aj.Up]
 refine zV (j:=0) (vs:=B2) Z Z Z Z bQ Z Z Z Z Zf (zA Z) Z Z Z ?_
 intro ba bR
 let B3:List Value:=[jV aR,jV aS]
 have aX:sW w U a9 [.blk aq 78 B2,.blk af 104 B1,.blk b6 104 B3,.blk b2 28 B0] ba:=bR
 refine eN (sR (.fl 0 (.fl 1 (.fx 2 (wJz (.fx 7 (.fx 8 (.fx 9 (.fx 10 (.fl 11 .nil) .stop) .stop) .stop) .stop)) .stop))) Z (oL Z (aX.ldBA (j:=3) Z Z bd zg zW (vs:=B0) Z Z) (oL Z (aX.ldBA (j:=0) Z Z Z yA Zf (vs:=B2) Z Z) ?_)))
 have bF:=cc.le av
 have bG:=cd.le av
 have bH:=cf.le av
 have bI:=cg.le av
 have q:=bnd ct
 obtain ⟨⟨az,aT,cy⟩,bJ,bn⟩:=q
 try dsimp only at bn
 refine zE 0 Z Z Z Z (zD Z Z Try.call70 (zB Z (zB Z zM)) Z) aX (fun hs=>wBT p0 aJ aN aK aO aL aP aM aQ aj ba a9 hs bF bG bH bI bJ) (.inr Z) ?_
 rintro an cC cS bs cw bT ⟨rfl,rfl⟩
 have bU:sW w U an [.blk aq 78 B2,.blk af 104 B1,.blk b6 104 B3,.blk b2 28 B0] bs:=bT
 refine oM Z Z (oR Z (zT Z Z (v:=.agg #[jV az.skier,jV az.mat]) Z) (oR Z (zT Z Z (v:=.agg #[jV aT.skier,jV aT.mat]) Z) (oR Z (zT Z Z (v:=jV cy) Z) (zR (cs:=B1) Z Z Z Z Z zZ Z bU ?_))))
 intro cJ aG bV
 refine zR (cs:=B1) Z Z Z Z Z zZ Z bV ?_
 intro cK aH bW
 let B4:List Value:=[jV az.skier,jV az.mat]
 refine zV (j:=1) (vs:=B4) Z Z Z Z bW Z Z Z Z zF (zA Z) Z Z Z ?_
 intro bt bX
 have bY:sW w U an [.blk aH 104 B1,.blk aG 104 B4,.blk aq 78 B2,.blk af 104 B1,.blk b6 104 B3,.blk b2 28 B0] bt:=bX
 let B5:List Value:=[jV aT.skier,jV aT.mat]
 refine zV (j:=0) (vs:=B5) Z Z Z Z bY Z Z Z Z zF (zA Z) Z Z Z ?_
 intro bu bZ
 have au:sW w U an [.blk aH 104 B5,.blk aG 104 B4,.blk aq 78 B2,.blk af 104 B1,.blk b6 104 B3,.blk b2 28 B0] bu:=bZ
 refine oA Z Z (eN (zL (sR fL3 Z (oL Z (au.ldBA (j:=1) Z Z Z zh zF (vs:=B4) Z Z) (oL Z (au.ldBA (j:=4) Z Z aI zh zF (vs:=B3) Z Z) (oR Z (ZM (yi (enc:=wBX) (a:=az) (b:=(⟨aR,aS⟩:wAL)) Z Z Z wJX wJW) (congrArg hH (decide_not).symm)) (eN (ifc bn ?_ ?_))))))))
 intro aU cu
 refine ZI (zt (fun h=>h aU.out)) (kN (rR (wDl (.fx 4 (.fl 5 .nil) .stop)) Z (oL Z (au.ldBA (j:=0) Z Z Z zh zF (vs:=B5) Z Z) (oM Z bC (oM Z Z (oR Z (zb Z Z Z) (zV (j:=4) (vs:=B5) Z Z Z Z au Z aI Z Z zF (zA Z) Z Z Z ?_)))))))
 intro bv ca
 have cb:sW w U an [.blk aH 104 B5,.blk aG 104 B4,.blk aq 78 B2,.blk af 104 B1,.blk b6 104 B5,.blk b2 28 B0] bv:=ca
 refine oA Z Z (zc (ZA (zI (rR fL2 Z (oR Z (ZM (zb Z aW Z) (congrArg (jV) cp.out)) (oM Z Z (zc ?_)))))))
 have q:=nA cu
 obtain rfl:=q
 exact zI ⟨rfl,_,rfl,⟨an,rfl,bd,aI,aV,rfl,be,bf,(av.trans cw),(cb.pick [3,4,5] _ (by decide) rfl)⟩⟩
 intro aU cq
 refine cT Z aU (sR gEl Z (oL Z (au.ldBA (j:=4) Z Z aI zh zF (vs:=B3) Z Z) (zV (j:=3) (vs:=B3) Z Z Z Z au Z aV Z Z zF (zA Z) Z Z Z ?_)))
 intro bq bM
 have bh:sW w U an [.blk aH 104 B5,.blk aG 104 B4,.blk aq 78 B2,.blk af 104 B3,.blk b6 104 B3,.blk b2 28 B0] bq:=bM
 refine oA Z Z (oA Z Z (eN (zU (za (zx (za ?_))))))
 have q:=wAh cq
 obtain ⟨cx,cr,bx⟩:=q
 have q:=wBw hm aY (cn cx bx)
 obtain rfl:=q
 refine za (zx (za ?_))
 cases cr
 exact ⟨rfl,_,(wDf (rs:=[.cell 6 104,.tmp 7,.tmp 8]) (vs:=[.agg B3.toArray,jV 0,.bool false]) ⟨⟨_,aV,(wAq zh zF (bh.blkAt (k:=3) rfl) (vs:=B3) rfl rfl)⟩,⟨rfl,⟨rfl,trivial⟩⟩⟩ rfl),an,_,(bh.pick [] _ (by decide) rfl),rfl,rfl⟩
 rintro ⟨cz,cA,cB⟩ cV cE ⟨a8,bD,cN,bz,bc,bA,cO,bB,cP,bi⟩ cm
 have bm:=wCx hm aY cm
 try dsimp only at bm
 have bw:Hid (¬ ((↑(((↑p2.length:Int):Int) - 0).toNat:Int) < (↑p2.length:Int))):=zN (wAc)
 refine sR fL1 Z (oR Z (zi Z bD bB) (eN (zL (cF Z bw (Zc (zm (zm (ZY (zI (sR gEt Z ?_))))))))))
 let B6:List Value:=[jV cz,jV cA]
 refine oL Z (bi.ldBA (j:=1) Z Z bz zh zF (vs:=B6) Z Z) (oM Z bA (zV (j:=0) (vs:=B6) Z Z Z Z bi Z bc Z Z zF (zA Z) Z Z Z ?_))
 intro br bO
 have bj:sW w U a8 [.blk af 104 B6,.blk b6 104 B6,.blk b2 28 B0] br:=bO
 refine oA Z Z (oA Z Z (eN (zU ?_)))
 cases bm
 exact ⟨rfl,_,(wDf (rs:=[.cell 6 104,.tmp 7,.tmp 8]) (vs:=[.agg B6.toArray,jV cB,.bool true]) ⟨⟨_,bc,(wAq zh zF (bj.blkAt (k:=0) rfl) (vs:=B6) rfl rfl)⟩,⟨rfl,⟨rfl,trivial⟩⟩⟩ rfl),a8,_,(bj.pick [] _ (by decide) rfl),rfl,rfl⟩
theorem wHB (p0:wAD) (ao:Option Addr) (av:Nat) (ap:Option Addr) (ax:Nat) (aq:Option Addr) (ay:Nat) (au:Option Addr) (az:Nat) (p1:wAO) (p2:wAO) (p3:List wAJ) (aK:Option Addr) (aL:Nat) (w:World) (U:PHeap) (hS:St0 w U []) (bT:Sl U 1 ao av p0.Starts.length (hD KL.encI p0.Starts)) (bU:Sl U 2 ap ax p0.Splits.length (hD wAC p0.Splits)) (bV:Sl U 3 aq ay p0.Clocks.length (hD wAB p0.Clocks)) (bW:Sl U 4 au az p0.Readings.length (hD wAA p0.Readings)) (dQ:Sl U 4 aK aL p3.length (hD wBV p3)) {r:Int × Int} (hm:wEH p0 p1 p2 p3=some r):Gv Try.prog 41 [.agg #[.slice ao p0.Starts.length av,.slice ap p0.Splits.length ax,.slice aq p0.Clocks.length ay,.slice au p0.Readings.length az],.agg #[jV p1.Skier,jV p1.Mat],.agg #[jV p2.Skier,jV p2.Mat],.slice aK p3.length aL] w (wBs w [] U (fun U_ L_ v=>v=.tuple #[jV r.1,jV r.2]/\L_=[])):=by
 unfold wEH at hm
 refine Gv.of Try.func41 Z Try.ntmps41 Try.results41 Z (sR gEu Z ?_)
 let B0:List Value:=[.slice ao p0.Starts.length av,.slice ap p0.Splits.length ax,.slice aq p0.Clocks.length ay,.slice au p0.Readings.length az]
 refine zu (cs:=B0) rfl rfl rfl rfl rfl rfl (by rfl) hS ?_
 intro W1 b2 dL
 let B1:List Value:=[jV p1.Skier,jV p1.Mat]
 refine zu (cs:=B1) rfl rfl rfl rfl rfl rfl (by rfl) dL ?_
 intro W5 b6 dO
 let B2:List Value:=[jV p2.Skier,jV p2.Mat]
 refine zu (cs:=B2) rfl rfl rfl rfl rfl rfl (by rfl) dO ?_
 intro W9 af bP
 refine oA Z Z (oA Z Z (eN (sR gEg Z (oL Z (bP.ldBA (j:=2) Z Z Z zg zW (vs:=B0) Z Z) (bnK hm fun ff cC dS=>zE 0 Z Z Z Z (zD Z Z Try.call68 (zB Z zM) Z) bP (fun hs=>wDq p0 ao av ap ax aq ay au az W9 U hs bT bU bV bW cC) (.inr Z) ?_)))))
 rintro bb eB eW bA aP dC ⟨rfl,rfl⟩
 have aZ:sW w U bb [.blk af 45 B2,.blk b6 45 B1,.blk b2 28 B0] bA:=dC
 refine oA Z Z (eN (zL (zd (sR fL3 Z (oM Z Z (oR Z (Zg Z Z Z) (oA Z Z (eN (ifc dS ?_ ?_)))))))))
 intro bj dT
 refine ZI (zt (fun h=>h bj.out)) (sR (.fl 0 (.fl 1 (.fx 2 (wJz (.fx 7 (wKz (.nil)) .stop)) .stop))) Z (oL Z (aZ.ldBA (j:=2) Z Z Z zg zW (vs:=B0) Z Z) (oL Z (aZ.ldBA (j:=1) Z Z Z Zr ZZ (vs:=B1) Z Z) ?_)))
 have bG:=bT.le aP
 have bH:=bU.le aP
 have bI:=bV.le aP
 have bJ:=bW.le aP
 refine bnK dT fun fg dg ef=>zE 0 Z Z Z Z (zD Z Z Try.call84 (zB Z (zB Z zM)) Z) aZ (fun hs=>wCL p0 ao av ap ax aq ay au az p1 bA bb hs bG bH bI bJ dg) (.inr Z) ?_
 rintro bf eH fb bD aQ dM ⟨rfl,rfl⟩
 have a5:sW w U bf [.blk af 45 B2,.blk b6 45 B1,.blk b2 28 B0] bD:=dM
 refine oR Z (Zd Z Z) (oM Z Z (ifc ef ?_ ?_))
 intro an eg
 refine ZF Z Z Z (zP Z Z (nC an.out)) (a5.ldBA (j:=2) Z Z Z zg zW (vs:=B0) Z Z) Z (ZF Z Z Z (zP Z Z (nC an.out)) (a5.ldBA (j:=0) Z Z Z Zr ZZ (vs:=B2) Z Z) Z ?_)
 have bK:=bG.le aQ
 have bL:=bH.le aQ
 have bM:=bI.le aQ
 have bN:=bJ.le aQ
 refine bnK eg fun fh dh eh=>zE 0 Z Z Z (zP Z Z (nC an.out)) (zD Z Z Try.call84 (zB Z (zB Z zM)) Z) a5 (fun hs=>wCL p0 ao av ap ax aq ay au az p2 bD bf hs bK bL bM bN dh) (.inr Z) ?_
 rintro bg eI fc bE aR dN ⟨rfl,rfl⟩
 have bp:sW w U bg [.blk af 45 B2,.blk b6 45 B1,.blk b2 28 B0] bE:=dN
 refine zY Z Z Z (zP Z Z (nC an.out)) (fun _=>Zd Z Z) (oR Z (ze Z (nC an.out) Z) (oA Z Z (eN (ifc eh ?_ ?_))))
 intro bm ej
 refine ZI (nC bm.out) (Zp (ZA (zI (zL (sR gEn Z (oL Z (bp.ldBA (j:=2) Z Z Z zg zW (vs:=B0) Z Z) (oM Z Z ?_)))))))
 have aU:=bK.le aR
 have aV:=bL.le aR
 have aW:=bM.le aR
 have aX:=bN.le aR
 have di:=dQ.le aP
 have dk:=di.le aQ
 have aY:=dk.le aR
 refine bnK ej fun fj dl ek=>zE 0 Z Z Z Z (zD Z Z Try.call69 (zB Z (zB Z zM)) Z) bp (fun hs=>wDj p0 ao av ap ax aq ay au az p3 aK aL bE bg hs aU aV aW aX aY dl) (.inr Z) ?_
 rintro aM eJ fd bh ag dP ⟨rfl,rfl⟩
 have bS:sW w U aM [.blk af 45 B2,.blk b6 45 B1,.blk b2 28 B0] bh:=dP
 refine oA Z Z (eN (sR fL2 Z (oM Z Z (oR Z (Zg Z Z Z) (eN (ifc ek ?_ ?_))))))
 intro bn en
 refine ZI (zt (fun h=>h bn.out)) (kN ?_)
 have q:=bnd en
 obtain ⟨⟨bY,bZ,ey,cr⟩,eo,bX⟩:=q
 try dsimp only at bX
 let B3:List Value:=[jV bY,jV bZ]
 refine yP (fun σ_ w_=>∃ (U_:PHeap) (aT:Nat),σ_ 6=.pointer (some ⟨af,0,none⟩)/\σ_ 12=.pointer (some ⟨aT,0,none⟩)/\σ_ 13=jV ey/\σ_ 14=.bool cr/\PHeap.Le aM U_/\sW w U U_ [.blk af 45 B2,.blk b6 45 B1,.blk b2 28 B0,.blk aT 104 B3] w_) ?_ ?_
 refine bnK eo fun bs bO dR=>?_
 have q:=bnd dR
 obtain ⟨⟨ak,bq,br⟩,bo,a6⟩:=q
 try dsimp only at a6
 refine ZG ZH [1,1,2,3,2,3,3,3,3,2,0,3,3] (.fl 0 (.fl 1 (.fl 3 (.fx 2 (.fx 4 (wGg (.fx 9 gEh .stop)) (.fx 9 (.fx 4 (wGg gEh) (.stop)) (.stop))) (.fx 9 (.fx 2 (.fx 4 (wGg gEh) (.stop)) (.stop)) (.stop)))))) (by kernel_rfl) ?_
 have aN:=bS.drew
 generalize hw_W127:({ bh with drawn:=bh.drawn + 1 }:World)=ca at aN ⊢
 refine oL Z (aN.ldBA (j:=2) Z Z Z zg zW (vs:=B0) Z Z) (oL Z (aN.ldBA (j:=1) Z Z Z Zr ZZ (vs:=B1) Z Z) (oM Z Z (zn ?_ ?_)))
 refine zE 0 Z Z Z Z (zD Z Z yl (zB Z zM) Z) aN (fun hs=>wDG p1 ca aM hs bO) (.inr Z) ?_
 rintro a9 ez eU bz aj dm ⟨rfl,rfl⟩
 have bQ:sW w U a9 [.blk af 45 B2,.blk b6 45 B1,.blk b2 28 B0] bz:=dm
 refine zn ?_ ?_
 have cy:=aU.le ag
 have cz:=cy.le aj
 have cA:=aV.le ag
 have cB:=cA.le aj
 have cD:=aW.le ag
 have cE:=cD.le aj
 have cG:=aX.le ag
 have cH:=cG.le aj
 have cI:=aY.le ag
 have cJ:=cI.le aj
 refine zE 0 Z Z Z Z (zD Z Z Try.call71 (zB Z (zB Z (zB Z zM))) Z) bQ (fun hs=>wCY p0 ao av ap ax aq ay au az bs p3 aK aL bz a9 hs cz cB cE cH cJ bo) (.inr Z) ?_
 rintro ba eA eV cb ep dq ⟨rfl,rfl⟩
 have dr:sW w U ba [.blk af 45 B2,.blk b6 45 B1,.blk b2 28 B0] cb:=dq
 refine oM Z Z (oR Z (zT Z Z (v:=.agg #[jV ak.skier,jV ak.mat]) Z) (oR Z (zT Z Z (v:=jV bq) Z) (oR Z (zT Z Z (v:=.bool br) Z) (zR (cs:=[jV 0,jV 0]) Z Z Z Z Z zZ Z dr ?_))))
 intro eL bF dt
 let B4:List Value:=[jV ak.skier,jV ak.mat]
 refine zV (j:=0) (vs:=B4) Z Z Z Z dt Z Z Z Z zF (zA Z) Z Z Z ?_
 intro cc du
 have dv:sW w U ba [.blk bF 104 B4,.blk af 45 B2,.blk b6 45 B1,.blk b2 28 B0] cc:=du
 refine oA Z Z (oA Z Z (zc ?_))
 cases a6
 exact zI ⟨rfl,⟨ba,bF,rfl,rfl,rfl,rfl,(aj.trans ep),(dv.pick [1,2,3,0] _ (by decide) rfl)⟩⟩
 refine zR (cs:=[jV 0,jV 0]) Z Z Z Z Z zZ Z bQ ?_
 intro cd bi dw
 have cK:=aU.le ag
 have cL:=cK.le aj
 have cM:=aV.le ag
 have cN:=cM.le aj
 have cO:=aW.le ag
 have cP:=cO.le aj
 have cQ:=aX.le ag
 have cR:=cQ.le aj
 have cS:=aY.le ag
 have cU:=cS.le aj
 refine zE 0 Z Z Z Z (zD Z Z Try.call71 (zB Z (zB Z (zB Z zM))) Z) dw (fun hs=>wCY p0 ao av ap ax aq ay au az bs p3 aK aL cd a9 hs cL cN cP cR cU bo) (.inr Z) ?_
 rintro bc eD eX cf er dx ⟨rfl,rfl⟩
 have dy:sW w U bc [.blk bi 104 [jV 0,jV 0],.blk af 45 B2,.blk b6 45 B1,.blk b2 28 B0] cf:=dx
 refine oM Z Z (oR Z (zT Z Z (v:=.agg #[jV ak.skier,jV ak.mat]) Z) (oR Z (zT Z Z (v:=jV bq) Z) (oR Z (zT Z Z (v:=.bool br) Z) ?_)))
 let B5:List Value:=[jV ak.skier,jV ak.mat]
 refine zV (j:=0) (vs:=B5) Z Z Z Z dy Z Z Z Z zF (zA Z) Z Z Z ?_
 intro cg dz
 have dA:sW w U bc [.blk bi 104 B5,.blk af 45 B2,.blk b6 45 B1,.blk b2 28 B0] cg:=dz
 refine oA Z Z (oA Z Z (zc ?_))
 cases a6
 exact zI ⟨rfl,⟨bc,bi,rfl,rfl,rfl,rfl,(aj.trans er),(dA.pick [1,2,3,0] _ (by decide) rfl)⟩⟩
 let B6:List Value:=[jV 0,jV 0]
 refine zR (cs:=B6) Z Z Z Z Z zZ Z aN ?_
 intro ci aS dB
 refine zE 0 Z Z Z Z (zD Z Z yl (zB Z zM) Z) dB (fun hs=>wDG p1 ci aM hs bO) (.inr Z) ?_
 rintro bw eE eY bB aJ dD ⟨rfl,rfl⟩
 have dE:sW w U bw [.blk aS 104 B6,.blk af 45 B2,.blk b6 45 B1,.blk b2 28 B0] bB:=dD
 have cV:=aU.le ag
 have cW:=cV.le aJ
 have cX:=aV.le ag
 have cY:=cX.le aJ
 have cZ:=aW.le ag
 have c6:=cZ.le aJ
 have da:=aX.le ag
 have db:=da.le aJ
 have dd:=aY.le ag
 have de:=dd.le aJ
 refine zE 0 Z Z Z Z (zD Z Z Try.call71 (zB Z (zB Z (zB Z zM))) Z) dE (fun hs=>wCY p0 ao av ap ax aq ay au az bs p3 aK aL bB bw hs cW cY c6 db de bo) (.inr Z) ?_
 rintro bd eF eZ cm eu dF ⟨rfl,rfl⟩
 have dG:sW w U bd [.blk aS 104 B6,.blk af 45 B2,.blk b6 45 B1,.blk b2 28 B0] cm:=dF
 refine oM Z Z (oR Z (zT Z Z (v:=.agg #[jV ak.skier,jV ak.mat]) Z) (oR Z (zT Z Z (v:=jV bq) Z) (oR Z (zT Z Z (v:=.bool br) Z) ?_)))
 let B7:List Value:=[jV ak.skier,jV ak.mat]
 refine zV (j:=0) (vs:=B7) Z Z Z Z dG Z Z Z Z zF (zA Z) Z Z Z ?_
 intro cn dH
 have dI:sW w U bd [.blk aS 104 B7,.blk af 45 B2,.blk b6 45 B1,.blk b2 28 B0] cn:=dH
 refine oA Z Z (oA Z Z (zc ?_))
 cases a6
 exact zI ⟨rfl,⟨bd,aS,rfl,rfl,rfl,rfl,(aJ.trans eu),(dI.pick [1,2,3,0] _ (by decide) rfl)⟩⟩
 rintro fk bC ⟨bx,aT,ct,cu,cw,cx,eO,dJ⟩
 refine zL (zL (ZG ZH [3,3,3,1,1,2,3,3] (wHI (.fx 5 (.fl 6 (.fl 7 .nil)) .stop)) (by kernel_rfl) ?_))
 have aO:=dJ.drew
 generalize hw_W253:({ bC with drawn:=bC.drawn + 1 }:World)=co at aO ⊢
 refine oM Z cx (oR Z (Zd Z Z) (oM Z Z (ifc bX ?_ ?_)))
 intro am dU
 refine ZF Z Z Z (zP Z Z (nC am.out)) (aO.ldBA (j:=3) Z Z cu zh zF (vs:=B3) Z Z) Z (ZF Z Z Z (zP Z Z (nC am.out)) (aO.ldBA (j:=0) Z Z ct Zr ZZ (vs:=B2) Z Z) Z (bnK dU fun ew df dV=>zE 0 Z Z Z (zP Z Z (nC am.out)) (zD Z Z yl (zB Z zM) Z) aO (fun hs=>wDG p2 co bx hs df) (.inr Z) ?_))
 rintro be eG e0 cp eQ dK ⟨rfl,rfl⟩
 have bR:sW w U be [.blk af 45 B2,.blk b6 45 B1,.blk b2 28 B0,.blk aT 104 B3] cp:=dK
 refine zY Z Z Z (zP Z Z (nC am.out)) (fun _=>ZM (yi (enc:=wBX) (a:=(⟨bY,bZ⟩:wAL)) (b:=ew) Z Z Z wJX wJW) (congrArg hH (decide_not).symm)) (oR Z (ze Z (nC am.out) Z) (eN (ifc dV ?_ ?_)))
 intro bk dW
 refine ZI (zt (fun h=>h bk.out)) (kN (sR fL3 Z (oM Z cw (oA Z Z (oA Z Z (eN (zU ?_)))))))
 cases dW
 exact ⟨rfl,_,(wDm rfl rfl),be,_,(bR.pick [] _ (by decide) rfl),rfl,rfl⟩
 intro bk dX
 refine cT Z bk (sR fL2 Z (oA Z Z (oA Z Z (eN (zU (za ?_))))))
 cases dX
 exact ⟨rfl,_,(wDm rfl rfl),be,_,(bR.pick [] _ (by decide) rfl),rfl,rfl⟩
 intro am dY
 refine zX Z Z Z (zS Z Z (nF (am.out)) Z) (zX Z Z Z (zS Z Z (nF (am.out)) Z) (ZE Z Z Z (zS Z Z (nF (am.out)) Z) (zX Z Z Z (zS Z Z (nF (am.out)) Z) (oR Z (zQ Z (nF (am.out)) Z) (eN (ZT Z (sR fL2 Z (oA Z Z (oA Z Z (eN (zU (za ?_))))))))))))
 cases dY
 exact ⟨rfl,_,(wDm rfl rfl),bx,_,(aO.pick [] _ (by decide) rfl),rfl,rfl⟩
 intro bn dZ
 refine cT Z bn (sR fL3 Z (oM Z Z (oA Z Z (oA Z Z (eN (zU (za ?_)))))))
 cases dZ
 exact ⟨rfl,_,(wDm rfl rfl),aM,_,(bS.pick [] _ (by decide) rfl),rfl,rfl⟩
 intro bm d7
 refine ZT (nF (bm.out)) (sR fL2 Z (oA Z Z (oA Z Z (eN (zU (zx (za ?_)))))))
 cases d7
 exact ⟨rfl,_,(wDm rfl rfl),bg,_,(bp.pick [] _ (by decide) rfl),rfl,rfl⟩
 intro an d9
 refine zX Z Z Z (zS Z Z (nF (an.out)) Z) (zX Z Z Z (zS Z Z (nF (an.out)) Z) (ZE Z Z Z (zS Z Z (nF (an.out)) Z) (zX Z Z Z (zS Z Z (nF (an.out)) Z) (oR Z (zQ Z (nF (an.out)) Z) (oA Z Z (eN (ZT Z (sR fL2 Z (oA Z Z (oA Z Z (eN (zU (zx (za ?_))))))))))))))
 cases d9
 exact ⟨rfl,_,(wDm rfl rfl),bf,_,(a5.pick [] _ (by decide) rfl),rfl,rfl⟩
 intro bj ec
 refine cT Z bj (sR fL3 Z (oM Z Z (oA Z Z (oA Z Z (eN (zU (zx (za ?_))))))))
 cases ec
 exact ⟨rfl,_,(wDm rfl rfl),bb,_,(aZ.pick [] _ (by decide) rfl),rfl,rfl⟩
theorem wFh (p0:wAI) (p1:Int) (af:Nat) (p2:Int) (ag:Nat) (w:World) (U:PHeap) (hS:St0 w U []) (ah:Cl U af 0 [jV p1]) (ai:Cl U ag 0 [jV p2]) {r:Bool} (hm:wCK p0 p1 p2=some r):Gv Try.prog 87 [.agg #[jV p0.Skier,jV p0.Mat,jV p0.Clock,jV p0.Time],.pointer (some ⟨af,0,none⟩),.pointer (some ⟨ag,0,none⟩)] w (wBs w [] U (fun U_ L_ v=>v=.bool r/\L_=[])):=by
 unfold wCK at hm
 refine Gv.of Try.func87 rfl Try.ntmps87 Try.results87 rfl (sR gDw rfl (zu (cs:=[jV p0.Skier,jV p0.Mat,jV p0.Clock,jV p0.Time]) rfl rfl rfl rfl rfl rfl (by rfl) hS ?_))
 intro W1 b2 ae
 refine oA Z Z (eN (sR fL10 Z (oR Z (zG Z Z ZC Z zC) (oL Z (ae.ldB (j:=0) Z Z Z zJ (v:=jV p0.Skier) Z) (oR Z (zG Z Z ZC Z zC) (oL Z (ae.ldB (j:=0) Z Z Z zJ (v:=jV p0.Mat) Z) (oR Z (zl (pv:=[(0,jV p0.Skier),(1,jV p0.Mat)]) (z:=[jV 0,jV 0]) (cs:=[jV p0.Skier,jV p0.Mat]) Z (wAH Z (wAH Z wAP)) Zy wEf Z Z) (oL Z (ae.ldC (f:=0) ah (v:=jV p1) Z Z zJ Z) (oL Z (ae.ldC (f:=0) ai (v:=jV p2) Z Z zJ Z) (oR Z (zl (pv:=[(0,jV p1),(1,jV p2)]) (z:=[jV 0,jV 0]) (cs:=[jV p1,jV p2]) Z (wAH Z (wAH Z wAP)) Zy wEf Z Z) (oR Z (Runs.eqS (enc:=wAU) (a:=(⟨p0.Skier,p0.Mat⟩:wAO)) (b:=(⟨p1,p2⟩:wAO)) Z Z Z wMF wME) (oA Z Z (eN (zU ?_))))))))))))))
 first | (obtain rfl:=nA hm) | cases hm
 exact ⟨rfl,_,(ZV rfl),U,_,(ae.pick [] _ (by decide) rfl),rfl,rfl⟩
theorem wCF (p0:List wAI) (am:Option Addr) (an:Nat) (p1:(wAI->Option Bool)) (ao:Value) (w:World) (U:PHeap) (hS:St0 w U []) (aW:Sl U 4 am an p0.length (hD wAA p0)) (aX:FnOK Try.prog U ao wIl wIm p1) {r:Int} (hm:wAk p0 p1=some r):Gv Try.prog 106 [.slice am p0.length an,ao] w (wBs w [] U (fun U_ L_ v=>v=jV r/\L_=[])):=by
 unfold wAk at hm
 refine Gv.of Try.func106 Z Try.ntmps106 Try.results106 Z (sR fL1 Z (oA Z Z (eN (zL (sR fL3 Z (oM Z Z (oR Z (zw Z Z zy) (oM Z Z (eN (zd ?_))))))))))
 have q:=wCB hm
 obtain ⟨r3,ah⟩:=q
 have q:=wCA ah
 obtain ⟨aj,a5⟩:=q
 replace aj:=zN aj
 refine yX (fun k2 _ σ_ w_=>∃ (U_:PHeap),σ_ 8=jV (↑k2:Int)/\σ_ 0=.slice am p0.length an/\σ_ 1=ao/\σ_ 7=jV (↑p0.length:Int)/\PHeap.Le U U_/\sW w U U_ [] w_) a5 ?_ ?_ ?_
 exact ⟨U,Z,Z,Z,Z,(zO _),hS⟩
 rintro k2 ⟨⟩ br bt W8 ai ⟨bf,ag,aq,au,av,ak,ay⟩ aH aY
 try dsimp only at aH
 have ap:Hid ((↑k2:Int) < (↑p0.length:Int)):=zN (wAs ai)
 replace ai:=zN ai
 have a6:Hid (w64 ((↑k2:Int) + 1)=(↑(k2 + 1):Int)):=zN (by have h1:=aj.out;have h2:=ap.out;rw [wAW] <;> omega)
 refine sR fL1 Z (oR Z (zi Z ag av) (eN (zL (cT Z ap (kN (zL (zd (sR fL2 Z (oM Z ag (oA Z Z (eN (sR (wHI (.fx 5 .nil .stop)) Z (oM Z au (oM Z aq (oM Z Z (bnK aH fun ac ax a7=>?_))))))))))))))))
 have aP:=aW.le ak
 have q:=aP.el (fun _=>rfl) (wAj ax)
 obtain ⟨bi,bn,aS,aT⟩:=q
 refine oR Z (Zh Z Z aS Z zy ZP (wCv ax)) (oL Z (ay.ldCA (f:=0) aT Z Z yc ZP (us:=[jV ac.Skier,jV ac.Mat,jV ac.Clock,jV ac.Time]) Z Z) (bnK a7 fun bq aQ a8=>?_))
 have aR:=aX.le ak
 refine OKS.callV (a:=ac) Z Z Z Z Z Z (zB Z zM) ay aR Z aQ ?_
 rintro ae be bp aK bc aU ⟨rfl,rfl⟩
 have az:sW w U ae [] aK:=aU
 refine eN (ifc a8 ?_ ?_)
 intro af a9
 refine ZT (congrArg hH af.out) (sR fL2 Z (oM Z Z (oA Z Z (eN (zU (zx (za ?_)))))))
 have q:=wAh a9
 obtain ⟨bd,ba,aM⟩:=q
 have q:=wBw hm ah (aY bd aM)
 obtain rfl:=q
 refine za (zx (za ?_))
 cases ba
 exact ⟨Z,_,(ZV Z),ae,_,az,Z,Z⟩
 intro af bb
 refine ZI (congrArg hH (hJ.2 af.out)) (Zp (ZA (zI (rR fL2 Z (oR Z (ZM (zb Z ag Z) (congrArg (jV) a6.out)) (oM Z Z (zc ?_)))))))
 have q:=nA bb
 obtain rfl:=q
 exact zI ⟨Z,_,Z,⟨ae,Z,aq,au,av,(ak.trans bc),az⟩⟩
 rintro ⟨⟩ bs bg ⟨aJ,aO,bj,bk,aN,bm,aV⟩ aZ
 have aG:=wCx hm ah aZ
 try dsimp only at aG
 have aL:Hid (¬ ((↑(((↑p0.length:Int):Int) - 0).toNat:Int) < (↑p0.length:Int))):=zN (wAc)
 refine sR fL1 Z (oR Z (zi Z aO aN) (eN (zL (cF Z aL (Zc (zm (zm (ZY (zI (sR fL1 Z (oA Z Z (eN (zU ?_)))))))))))))
 cases aG
 exact ⟨Z,_,(ZV Z),aJ,_,aV,Z,Z⟩
end Go.Proofs.Ytlnfbjphfoipaaa
namespace Go.Proofs.Ytlnfbjphfoipaaa
open Go.KL
set_option maxHeartbeats 4000000
theorem wBv (p0:List wAI) (ac:Option Addr) (ae:Nat) (p1:(wAI->Option Bool)) (af:Value) (w:World) (U:PHeap) (hS:St0 w U []) (an:Sl U 4 ac ae p0.length (hD wAA p0)) (ao:FnOK Try.prog U af wIl wIm p1) {r:Bool} (hm:wAf p0 p1=some r):Gv Try.prog 86 [.slice ac p0.length ae,af] w (wBs w [] U (fun U_ L_ v=>v=.bool r/\L_=[])):=by
 unfold wAf at hm
 refine Gv.of Try.func86 Z Try.ntmps86 Try.results86 Z (sR fL1 Z (oA Z Z (eN (sR gEt Z (oM Z Z (oM Z Z (bnK hm fun x1 h2 ah=>zE 0 Z Z Z Z (zD Z Z Try.call106 (zB Z (zB Z zM)) Z) hS (fun hs=>wCF p0 ac ae p1 af w U hs an ao h2) (.inr Z) ?_)))))))
 rintro U4 L5 v6 W7 aq am ⟨rfl,rfl⟩
 have ak:sW w U U4 [] W7:=am
 refine oR Z (Runs.geq Z Z Z) (oA Z Z (eN (zU ?_)))
 first | (obtain rfl:=nA ah) | cases ah
 exact ⟨Z,_,(ZV Z),U4,_,ak,Z,Z⟩
theorem wGa (p0:wAD) (aL:Option Addr) (aN:Nat) (aM:Option Addr) (aO:Nat) (aX:Option Addr) (aY:Nat) (ao:Option Addr) (ap:Nat) (w:World) (U:PHeap) (hS:St0 w U []) (c6:Sl U 1 aL aN p0.Starts.length (hD KL.encI p0.Starts)) (da:Sl U 2 aM aO p0.Splits.length (hD wAC p0.Splits)) (db:Sl U 3 aX aY p0.Clocks.length (hD wAB p0.Clocks)) (bC:Sl U 4 ao ap p0.Readings.length (hD wAA p0.Readings)) {r:(List wAO) × Int} (hm:wDy p0=some r):Gv Try.prog 53 [.agg #[.slice aL p0.Starts.length aN,.slice aM p0.Splits.length aO,.slice aX p0.Clocks.length aY,.slice ao p0.Readings.length ap]] w (wBs w [] U (fun U_ L_ v=>∃ (A0:Option Addr) (c0:Nat),v=.tuple #[.slice A0 r.1.length c0,jV r.2]/\L_=[.row A0 c0 45 2 (hD wAU r.1)])):=by
 unfold wDy at hm
 refine Gv.of Try.func53 Z Try.ntmps53 Try.results53 Z (sR gDx Z ?_)
 let B0:List Value:=[.slice aL p0.Starts.length aN,.slice aM p0.Splits.length aO,.slice aX p0.Clocks.length aY,.slice ao p0.Readings.length ap]
 refine zu (cs:=B0) rfl rfl rfl rfl rfl rfl (by rfl) hS ?_
 intro W1 b2 bB
 refine oA Z Z (oA Z Z (eN (zL (sR gEg Z (oL Z (bB.ldBA (j:=0) Z Z Z zg zW (vs:=B0) Z Z) (bnK hm fun x5 h6 du=>zE 0 Z Z Z Z (zD Z Z Try.call68 (zB Z zM) Z) bB (fun hs=>wDq p0 aL aN aM aO aX aY ao ap W1 U hs c6 da db bC h6) (.inr Z) ?_))))))
 rintro U8 L9 dJ bN dw cA ⟨rfl,rfl⟩
 have bg:sW w U U8 [.blk b2 28 B0] bN:=cA
 refine oA Z Z (eN (sR fL2 Z (oM Z Z (oR Z (Zg Z Z Z) (eN (ifc du ?_ ?_))))))
 intro bb dl
 refine ZI (zt (fun h=>h bb.out)) (kN (sR fL1 Z (oA Z Z (eN (zL (sR fL4 Z (oR Z (zG Z Z zK Z ZD) (oL Z (bg.ldB (j:=0) Z Z Z ZL (v:=.slice aL p0.Starts.length aN) Z) (oR Z (zw Z Z zH) (oM Z Z (eN (zd (bnK dl fun dP de dt=>?_)))))))))))))
 have q:=wAx de
 obtain ⟨bi,df⟩:=q
 replace bi:=zN bi
 refine CK.forN' (fun af aV σ_ w_=>∃ (U_:PHeap) (aq:Option Addr) (av:Nat),σ_ 16=jV (↑af:Int)/\σ_ 1=.pointer (some ⟨b2,0,none⟩)/\σ_ 5=.slice aq aV.length av/\σ_ 15=jV (↑p0.Starts.length:Int)/\PHeap.Le U8 U_/\sW w U U_ [.blk b2 28 B0,.row aq av 45 2 (hD wAU aV)] w_) df ?_ ?_ ?_
 have cP:=bg.nilrow 45 2
 exact ⟨U8,none,0,rfl,rfl,rfl,rfl,(zO _),(cP.pick [1,0] _ (by decide) rfl)⟩
 rintro af aV dN dR dE bh ⟨bn,aq,av,bf,cc,cd,bt,bF,cQ⟩ dv
 have bs:Hid ((↑af:Int) < (↑p0.Starts.length:Int)):=zN (wAs bh)
 replace bh:=zN bh
 have dg:Hid (w64 ((↑af:Int) + 1)=(↑(af + 1):Int)):=zN (by have h1:=bi.out;have h2:=bs.out;rw [wAW] <;> omega)
 refine sR fL1 Z (oR Z (zi Z bf bt) (eN (zL (cT Z bs (kN (zL (zd (sR gEc Z (oM Z bf (zR (cs:=[jV 0]) Z Z Z Z Z ZB Z cQ ?_))))))))))
 intro dF ah cR
 let B1:List Value:=[jV (↑af:Int)]
 refine zV (j:=0) (vs:=B1) Z Z Z Z cR Z Z Z Z zC (zA Z) Z Z Z ?_
 intro bV cS
 let B2:Res:=.row aq av 45 2 (hD wAU aV)
 have cU:sW w U bn [.blk ah 3 B1,.blk b2 28 B0,B2] bV:=cS
 refine eN (sR gDq Z (zR (cs:=[jV 0]) Z Z Z Z Z ZB Z cU ?_))
 intro dG a9 cV
 refine zV (j:=0) (vs:=[jV 1]) Z Z Z Z cV Z Z Z Z zC (zA Z) Z Z Z ?_
 intro bo cW
 have cX:sW w U bn [.blk a9 3 [jV 1],.blk ah 3 B1,.blk b2 28 B0,B2] bo:=cW
 refine eN (zd ?_)
 have q:=cX.freeze (k:=1) rfl
 obtain ⟨aS,bG,az,cY⟩:=q
 replace az:=Cl.of az
 have cZ:sW w U aS [.blk a9 3 [jV 1],.blk b2 28 B0,B2] bo:=cY
 replace az:Cl aS ah 0 B1:=az
 refine CK.iter (fun (aI,ab) σ_ w_=>∃ (U_:PHeap) (am:Option Addr) (an:Nat) (ai:Nat),σ_ 1=.pointer (some ⟨b2,0,none⟩)/\σ_ 5=.slice am aI.length an/\σ_ 6=.pointer (some ⟨ah,0,none⟩)/\σ_ 7=.pointer (some ⟨ai,0,none⟩)/\σ_ 15=jV (↑p0.Starts.length:Int)/\σ_ 16=jV (↑af:Int)/\PHeap.Le aS U_/\sW w U U_ [.blk b2 28 B0,.row am an 45 2 (hD wAU aI),.blk ai 3 [jV ab]] w_) dv ?_ ?_
 exact ⟨aS,aq,av,a9,cc,cd,rfl,rfl,bt,bf,(zO _),(cZ.pick [1,2,0] _ (by decide) rfl)⟩
 rintro ⟨aI,ab⟩ dO dS bp ⟨bK,am,an,ai,ax,bc,aU,ay,bd,be,aJ,aG⟩ bj dd
 try dsimp only at bj
 refine zL (sR fL5 Z (oL Z (aG.ldB (j:=2) Z Z ay zJ (v:=jV ab) Z) (oR Z (zG Z ax zK Z yG) (oL Z (aG.ldB (j:=0) Z Z Z yS (v:=.slice aM p0.Splits.length aO) Z) (oR Z (zw Z Z ZK) (oR Z (Runs.leq Z Z Z) (eN ?_)))))))
 by_cases aj:ab <= (↑p0.Splits.length:Int)
 have bD:=bj;rw [if_pos aj] at bD;replace aj:=zN aj
 refine cT Z aj (kN (zL (zd (sR (wCg gDu) Z (oR Z (zG Z ax zK Z ZW) (oL Z (aG.ldB (j:=0) Z Z Z Zm (v:=.slice ao p0.Readings.length ap) Z) ?_))))))
 have q:=aG.freeze (k:=2) rfl
 obtain ⟨aR,aW,ak,cy⟩:=q
 replace ak:=Cl.of ak
 let B3:Res:=.row am an 45 2 (hD wAU aI)
 have cz:sW w U aR [.blk b2 28 B0,B3] bp:=cy
 replace ak:Cl aR ai 0 [jV ab]:=ak
 refine oR Z (Runs.mkf Z zM (zB aU (zB ay zM))) ?_
 have cg:=bC.le dw
 have ci:=cg.le bF
 have cm:=ci.le bG
 have cn:=cm.le aJ
 have co:=cn.le aW
 have cp:=az.le aJ
 have bu:=cp.le aW
 have cx:FnOK Try.prog aR (.func (.func 87) #[] #[.pointer (some ⟨ah,0,none⟩),.pointer (some ⟨ai,0,none⟩)]) wIl wIm (fun x=>wCK x (↑af:Int) ab):=⟨87,[],[.pointer (some ⟨ah,0,none⟩),.pointer (some ⟨ai,0,none⟩)],rfl,Try.call87,fun U1 w1 x y vs le hs ha hm=>by obtain rfl:=ha;exact wFh x (↑af:Int) ah ab ai w1 U1 hs (bu.le le) (ak.le le) hm⟩
 refine bnK bD fun dL cq dh=>zE 0 Z Z Z Z (zD Z Z Try.call86 (zB Z (zB Z zM)) Z) cz (fun hs=>wBv p0.Readings ao ap (fun x=>wCK x (↑af:Int) ab) (.func (.func 87) #[] #[.pointer (some ⟨ah,0,none⟩),.pointer (some ⟨ai,0,none⟩)]) bp aR hs co cx cq) (.inr Z) ?_
 rintro ag dz dK bO aK cB ⟨rfl,rfl⟩
 have aH:sW w U ag [.blk b2 28 B0,B3] bO:=cB
 refine oR Z (Zd Z Z) (eN (ifc dh ?_ ?_))
 intro ba di
 refine ZI (nC ba.out) (Zp (ZA (zI (zL (sR fL1 Z ?_)))))
 have cr:=ak.le aK
 refine oL Z (aH.ldC (f:=0) cr (v:=jV ab) Z ay zJ Z) (eN (rR gDq Z (zR (cs:=[jV 0]) Z Z Z Z Z ZB Z aH ?_)))
 intro dB a7 cC
 refine zV (j:=0) (vs:=[jV ab]) Z Z Z Z cC Z Z Z Z zC (zA Z) Z Z Z ?_
 intro bP cD
 have bw:sW w U ag [.blk a7 3 [jV ab],.blk b2 28 B0,B3] bP:=cD
 refine eN (rR gEi Z (oL Z (bw.ldB (j:=0) Z Z Z zJ (v:=jV ab) Z) (oR Z (zb Z Z Z) (zV (j:=0) (vs:=[jV (w64 (ab + 1))]) Z Z Z Z bw Z Z Z Z zC (zA Z) Z Z Z ?_))))
 intro bQ cE
 have cG:sW w U ag [.blk a7 3 [jV (w64 (ab + 1))],.blk b2 28 B0,B3] bQ:=cE
 refine zc ?_
 have q:=nA di
 obtain rfl:=q
 exact zI ⟨rfl,_,rfl,⟨ag,am,an,a7,ax,bc,aU,rfl,bd,be,((aJ.trans aW).trans aK),(cG.pick [1,2,0] _ (by decide) rfl)⟩⟩
 intro ba dk
 refine ZT (nF (ba.out)) (rR (wDl gEb) Z (oM Z bc ?_))
 have ct:=bu.le aK
 refine oL Z (aH.ldC (f:=0) ct (v:=jV (↑af:Int)) Z aU zJ Z) ?_
 have bv:=ak.le aK
 refine oL Z (aH.ldC (f:=0) bv (v:=jV ab) Z ay zJ Z) ?_
 let B4:List Value:=[jV (↑af:Int),jV ab]
 refine oR Z (zl (pv:=[(0,jV (↑af:Int)),(1,jV ab)]) (z:=[jV 0,jV 0]) (cs:=B4) Z (wAH Z (wAH Z wAP)) Zy wEf Z Z) (zq (pv:=[(0,.agg B4.toArray)]) (zs:=[jV 0,jV 0]) (cs:=B4) Z Z Z Z Z (wAH Z wAP) Zv ZZ Zy Z Z Z Z Z aH ?_)
 intro bR bW cH
 let B5:Res:=.row (some ⟨bW,0,none⟩) 1 45 2 (hD wAU [(⟨(↑af:Int),ab⟩:wAO)])
 have bx:sW w U ag [B5,.blk b2 28 B0,B3] bR:=cH
 refine bnK dk fun bH cu dm=>Zw (j:=2) (enc:=wAU) (xs:=aI) (ys:=[(⟨(↑af:Int),ab⟩:wAO)]) (zs:=bH) rfl rfl rfl rfl rfl Try.underlying112 wMD rfl rfl rfl rfl rfl rfl bx rfl rfl rfl (bx.srcR (j:=0) rfl (by decide) (wAE (f:=wAU) (sz:=2) (fun _=>rfl) [(⟨(↑af:Int),ab⟩:wAO)])) (fun _=>rfl) (fun _=>rfl) cu rfl ?_
 intro bm br bS cI
 let B6:Res:=.row bm br 45 2 (hD wAU bH)
 have bz:sW w U ag [B5,.blk b2 28 B0,B6] bS:=cI
 refine oA Z Z (zc (ZA (zI (zL (sR fL1 Z (oL Z (bz.ldC (f:=0) bv (v:=jV ab) Z ay zJ Z) (eN (rR gDq Z (zR (cs:=[jV 0]) Z Z Z Z Z ZB Z bz ?_)))))))))
 intro dC a8 cJ
 refine zV (j:=0) (vs:=[jV ab]) Z Z Z Z cJ Z Z Z Z zC (zA Z) Z Z Z ?_
 intro bT cK
 have bA:sW w U ag [.blk a8 3 [jV ab],B5,.blk b2 28 B0,B6] bT:=cK
 refine eN (rR gEi Z (oL Z (bA.ldB (j:=0) Z Z Z zJ (v:=jV ab) Z) (oR Z (zb Z Z Z) (zV (j:=0) (vs:=[jV (w64 (ab + 1))]) Z Z Z Z bA Z Z Z Z zC (zA Z) Z Z Z ?_))))
 intro bU cL
 have cM:sW w U ag [.blk a8 3 [jV (w64 (ab + 1))],B5,.blk b2 28 B0,B6] bU:=cL
 refine zc ?_
 have q:=nA dm
 obtain rfl:=q
 exact zI ⟨rfl,_,rfl,⟨ag,bm,br,a8,ax,rfl,aU,rfl,bd,be,((aJ.trans aW).trans aK),(cM.pick [2,3,0] _ (by decide) rfl)⟩⟩
 have bE:=bj;rw [if_neg aj] at bE;replace aj:=zN aj
 refine cF Z aj (Zc (zm ?_))
 have q:=wAh bE
 obtain ⟨dx,dq,bZ⟩:=q
 have q:=dd dx bZ
 obtain rfl:=q
 refine zm (ZY (ZA (zI (rR fL2 Z (oR Z (ZM (zb Z be Z) (congrArg (jV) dg.out)) (oM Z Z (zc ?_)))))))
 cases dq
 exact zI ⟨rfl,⟨bK,am,an,rfl,ax,bc,bd,((bF.trans bG).trans aJ),(aG.pick [0,1] _ (by decide) rfl)⟩⟩
 rintro dQ dD ⟨bL,bI,bX,cf,dH,ca,cb,dI,cN⟩
 have bY:Hid (¬ ((↑(((↑p0.Starts.length:Int):Int) - 0).toNat:Int) < (↑p0.Starts.length:Int))):=zN (wAc)
 refine sR fL1 Z (oR Z (zi Z cf cb) (eN (zL (cF Z bY (Zc (zm (zm (ZY (zI (sR fL3 Z (oM Z ca (oA Z Z (oA Z Z (eN (zU ?_)))))))))))))))
 cases dt
 exact ⟨rfl,_,(wDm rfl rfl),bL,_,(cN.pick [1] _ (by decide) rfl),bI,bX,rfl,rfl⟩
 intro bb dr
 refine cT Z bb (sR fL3 Z (oM Z Z (oA Z Z (oA Z Z (eN (zU (za ?_)))))))
 have cO:=bg.nilrow 45 2
 cases dr
 exact ⟨rfl,_,(wDm rfl rfl),U8,_,(cO.pick [0] _ (by decide) rfl),none,0,rfl,rfl⟩
theorem wDd (p0:List wAO) (ao:Option Addr) (aq:Nat) (p1:List wAO) (ap:Option Addr) (au:Nat) (w:World) (U:PHeap) (hS:St0 w U []) (a7:Sl U 2 ao aq p0.length (hD wAU p0)) (a8:Sl U 2 ap au p1.length (hD wAU p1)) {r:Bool} (hm:wBf p0 p1=some r):Gv Try.prog 54 [.slice ao p0.length aq,.slice ap p1.length au] w (wBs w [] U (fun U_ L_ v=>v=.bool r/\L_=[])):=by
 unfold wBf at hm
 refine Gv.of Try.func54 Z Try.ntmps54 Try.results54 Z (sR fL1 Z (oA Z Z (eN (zL (sR fL5 Z (oM Z Z (oR Z (zw Z Z Zv) (oM Z Z (oR Z (zw Z Z Zv) (oR Z (Zg Z Z Z) (eN ?_)))))))))))
 by_cases c1:(↑p0.length:Int)=(↑p1.length:Int)
 have ag:=hm;rw [if_pos c1] at ag;replace c1:=zN c1
 refine ZI (zt (fun h=>h c1.out)) (kN (zL (sR fL3 Z (oM Z Z (oR Z (zw Z Z Zv) (oM Z Z (eN (zd ?_))))))))
 have q:=wCB ag
 obtain ⟨r5,aj⟩:=q
 have q:=wCA aj
 obtain ⟨am,bb⟩:=q
 replace am:=zN am
 refine yX (fun k4 _ σ_ w_=>∃ (U_:PHeap),σ_ 13=jV (↑k4:Int)/\σ_ 0=.slice ao p0.length aq/\σ_ 1=.slice ap p1.length au/\σ_ 12=jV (↑p0.length:Int)/\PHeap.Le U U_/\sW w U U_ [] w_) bb ?_ ?_ ?_
 exact ⟨U,Z,Z,Z,Z,(zO _),hS⟩
 rintro k4 ⟨⟩ bu bw az ak ⟨ay,ai,aH,aI,aJ,an,a5⟩ aO a9
 try dsimp only at aO
 have aG:Hid ((↑k4:Int) < (↑p0.length:Int)):=zN (wAs ak)
 replace ak:=zN ak
 have bc:Hid (w64 ((↑k4:Int) + 1)=(↑(k4 + 1):Int)):=zN (by have h1:=am.out;have h2:=aG.out;rw [wAW] <;> omega)
 refine sR fL1 rfl (zY rfl rfl rfl rfl (fun _=>zi rfl ai aJ) (eN (zL (cT Z aG (kN (zL (zd (sR fL2 rfl (zo rfl rfl rfl rfl rfl ai (yF rfl rfl rfl rfl rfl rfl (eN (zL (ZG ZH [3,3,3,1,3,3,3,1,3] fL9 (by kernel_rfl) ?_)))))))))))))
 have ae:=a5.drew
 generalize hw_W25:({ az with drawn:=az.drawn + 1 }:World)=bj at ae ⊢
 refine oM Z aH (oM Z Z (bnK aO fun av aK bd=>?_))
 have aU:=a7.le an
 have q:=aU.el (fun _=>rfl) (wAj aK)
 obtain ⟨bm,br,aW,aY⟩:=q
 refine oR Z (Zh Z Z aW Z Zv ZZ (wCv aK)) (oL Z (ae.ldCA (f:=0) aY Z Z Zr ZZ (us:=[jV av.Skier,jV av.Mat]) Z Z) (oM Z aI (oM Z Z (bnK bd fun ax aL be=>?_))))
 have aV:=a8.le an
 have q:=aV.el (fun _=>rfl) (wAj aL)
 obtain ⟨bn,bs,aX,aZ⟩:=q
 refine oR Z (Zh Z Z aX Z Zv ZZ (wCv aL)) (oL Z (ae.ldCA (f:=0) aZ Z Z Zr ZZ (us:=[jV ax.Skier,jV ax.Mat]) Z Z) (oR Z (ZM (yi (enc:=wAU) (a:=av) (b:=ax) Z Z Z wMF wME) (congrArg hH (decide_not).symm)) (eN (ifc be ?_ ?_))))
 intro ah bf
 refine ZI (zt (fun h=>h ah.out)) (Zp (ZA (zI (rR fL2 Z (oR Z (ZM (zb Z ai Z) (congrArg (jV) bc.out)) (oM Z Z (zc ?_)))))))
 have q:=nA bf
 obtain rfl:=q
 exact zI ⟨Z,_,Z,⟨ay,Z,aH,aI,aJ,an,ae⟩⟩
 intro ah bg
 refine cT Z ah (sR fL1 Z (oA Z Z (eN (zU (zx (za ?_))))))
 have q:=wAh bg
 obtain ⟨bi,bh,aR⟩:=q
 have q:=wBw ag aj (a9 bi aR)
 obtain rfl:=q
 refine za (zx (za ?_))
 have hE:=nA bh;first | subst r | cases hE
 exact ⟨Z,_,(ZV Z),ay,_,ae,Z,Z⟩
 rintro ⟨⟩ bv bk ⟨aP,aT,bo,bp,aS,bq,a6⟩ ba
 have aM:=wCx ag aj ba
 try dsimp only at aM
 have aQ:Hid (¬ ((↑(((↑p0.length:Int):Int) - 0).toNat:Int) < (↑p0.length:Int))):=zN (wAc)
 refine sR fL1 Z (oR Z (zi Z aT aS) (eN (zL (cF Z aQ (Zc (zm (zm (ZY (zI (sR fL1 Z (oA Z Z (eN (zU ?_)))))))))))))
 have hE:=nA aM;first | subst r | cases hE
 exact ⟨Z,_,(ZV Z),aP,_,a6,Z,Z⟩
 have aN:=hm;rw [if_neg c1] at aN;replace c1:=zN c1
 refine cT Z c1 (sR fL1 Z (oA Z Z (eN (zU (za ?_)))))
 have hE:=nA aN;first | subst r | cases hE
 exact ⟨Z,_,(ZV Z),U,_,hS,Z,Z⟩
theorem wBr  (w:World) (U:PHeap) (hS:St0 w U [])  {r:wAD} (hm:wBI =some r):Gv Try.prog 55 [] w (wBs w [] U (fun U_ L_ v=>∃ (aH:Option Addr) (aN:Nat) (aI:Option Addr) (aO:Nat) (aJ:Option Addr) (aP:Nat) (aK:Option Addr) (aQ:Nat),v=.agg #[.slice aH r.Starts.length aN,.slice aI r.Splits.length aO,.slice aJ r.Clocks.length aP,.slice aK r.Readings.length aQ]/\L_=[.row aH aN 3 1 (hD KL.encI r.Starts),.row aI aO 41 2 (hD wAC r.Splits),.row aJ aP 43 3 (hD wAB r.Clocks),.row aK aQ 39 4 (hD wAA r.Readings)])):=by
 unfold wBI at hm
 refine Gv.of Try.func55 Z Try.ntmps55 Try.results55 Z (sR (.fx 0 .nil .stop) Z ?_)
 let B0:List Value:=[.slice none 0 0,.slice none 0 0,.slice none 0 0,.slice none 0 0]
 refine zR (cs:=B0) Z Z Z Z Z Zs Z hS ?_
 intro W1 b2 a7
 refine eN (sR gDz Z (bnK hm fun x5 h6 be=>zE 0 Z Z Z Z (zD Z Z Try.call52 zM Z) a7 (fun hs=>wBN W1 U hs h6) (.inr Z) ?_))
 rintro U8 L9 bj aV bi aZ ⟨am,av,an,ax,ao,ay,ae,aj,rfl,rfl⟩
 let B1:Res:=.row ao ay 43 3 (hD wAB x5.Clocks)
 let B2:Res:=.row an ax 41 2 (hD wAC x5.Splits)
 let B3:Res:=.row am av 3 1 (hD KL.encI x5.Starts)
 let B4:Res:=.row ae aj 39 4 (hD wAA x5.Readings)
 have a5:sW w U U8 [B3,B2,B1,B4,.blk b2 28 B0] aV:=aZ
 refine zR (cs:=B0) Z Z Z Z Z Zs Z a5 ?_
 intro bg au a6
 let B5:List Value:=[.slice am x5.Starts.length av,.slice an x5.Splits.length ax,.slice ao x5.Clocks.length ay,.slice ae x5.Readings.length aj]
 refine zV (j:=0) (vs:=B5) Z Z Z Z a6 Z Z Z Z zW (zA Z) Z Z Z ?_
 intro aW a8
 have aG:sW w U U8 [.blk au 28 B5,B3,B2,B1,B4,.blk b2 28 B0] aW:=a8
 refine eN (sR (wDl (.fx 4 .nil .stop)) Z (oR Z (zG Z Z zK Z ZW) (oL Z (aG.ldB (j:=0) Z Z Z Zm (v:=.slice ae x5.Readings.length aj) Z) (bnK be fun _ az bd=>?_))))
 obtain ⟨bh,aR⟩:=aG.rowSome (j:=4) rfl (by rw [wAE (f:=wAA) (sz:=4) (fun _=>rfl) x5.Readings];have hz:=wAT az;omega)
 refine oR Z (Zh Z Z aR Z zy ZP (wAT az)) (oR Z (zG Z Z ZC Z zC) ?_)
 have bc:=wBA (xs:=x5.Readings) (wAT az)
 refine yW (j:=4) (vs:=[jV 1700]) (cs':=hD wAA (nH x5.Readings 1 (⟨(gd x5.Readings 1).Skier,(gd x5.Readings 1).Mat,(gd x5.Readings 1).Clock,1700⟩:wAI))) rfl rfl rfl rfl aG rfl aR rfl rfl rfl zC (by rw [wAE (f:=wAA) (sz:=4) (fun _=>rfl)];try (have hz:=wAT az;show _ + 1 <= _;first | omega | (simp only [Int.toNat_natCast];omega) | (simp only [nI,nD,nE];omega))) rfl (wBt (sz:=4) (fo:=3) (fun _=>rfl) _ _ _ _ bc (by first | omega | rfl | (simp only [Int.toNat_natCast];omega) | (simp only [nI,nD,nE];omega)) (zA rfl) rfl) rfl ?_
 intro aM a9
 let B6:Res:=.row ae aj 39 4 (hD wAA (nH x5.Readings 1 (⟨(gd x5.Readings 1).Skier,(gd x5.Readings 1).Mat,(gd x5.Readings 1).Clock,1700⟩:wAI)))
 have ba:sW w U U8 [.blk au 28 B5,B3,B2,B1,B6,.blk b2 28 B0] aM:=a9
 let B7:List Value:=[.slice am x5.Starts.length av,.slice an x5.Splits.length ax,.slice ao x5.Clocks.length ay,.slice ae ((nH x5.Readings 1 (⟨(gd x5.Readings 1).Skier,(gd x5.Readings 1).Mat,(gd x5.Readings 1).Clock,1700⟩:wAI)).length) aj]
 have aS:sW w U U8 [.blk au 28 B7,B3,B2,B1,B6,.blk b2 28 B0] aM:=by simpa only [B0,B1,B2,B3,B5,B6,B7,nB] using ba
 refine eN (sR gDt Z (oL Z (aS.ldBA (j:=0) Z Z Z zg zW (vs:=B7) Z Z) (zV (j:=5) (vs:=B7) Z Z Z Z aS Z Z Z Z zW (zA Z) Z Z Z ?_)))
 intro aX bb
 have aT:sW w U U8 [.blk au 28 B7,B3,B2,B1,B6,.blk b2 28 B7] aX:=bb
 refine eN (zU ?_)
 cases bd
 exact ⟨rfl,_,(wFg (v:=.agg B7.toArray) ⟨⟨_,rfl,(wAq zg zW (aT.blkAt (k:=5) rfl) (vs:=B7) rfl rfl)⟩,trivial⟩),U8,_,(aT.pick [1,2,3,4] _ (by decide) rfl),am,av,an,ax,ao,ay,ae,aj,rfl,rfl⟩
theorem wFi (p0:wAY) (aj:Nat) (ao:Option Addr) (au:Nat) (ap:Option Addr) (av:Nat) (aq:Option Addr) (ax:Nat) (aN:Option Addr) (aQ:Nat) (ab:Nat) (ac:Array MapEntry) (ae:Nat) (aO:Option Addr) (aR:Nat) (p1:List Int) (aP:Option Addr) (aS:Nat) (w:World) (U:PHeap) (hS:St0 w U [.blk aj 124 [.slice ao p0.Race.Starts.length au,.slice ap p0.Race.Splits.length av,.slice aq p0.Race.Clocks.length ax,.slice aN p0.Race.Readings.length aQ,.map (some ab),.slice aO p0.edges.length aR],.obj ab (.map ac ae)]) (fB:Sl U 1 ao au p0.Race.Starts.length (hD KL.encI p0.Race.Starts)) (fC:Sl U 2 ap av p0.Race.Splits.length (hD wAC p0.Race.Splits)) (fD:Sl U 3 aq ax p0.Race.Clocks.length (hD wAB p0.Race.Clocks)) (fE:Sl U 4 aN aQ p0.Race.Readings.length (hD wAA p0.Race.Readings)) (cm:MpR ac wBC wBJ p0.number) (fG:Sl U 7 aO aR p0.edges.length (hD wAR p0.edges)) (bj:Sl U 1 aP aS p1.length (hD KL.encI p1)) {r:(List (List Int)) × (List Int)} (hm:wDX p0 p1=some r):Gv Try.prog 58 [.pointer (some ⟨aj,0,none⟩),.slice aP p1.length aS] w (wBs w [.blk aj 124 [.slice ao p0.Race.Starts.length au,.slice ap p0.Race.Splits.length av,.slice aq p0.Race.Clocks.length ax,.slice aN p0.Race.Readings.length aQ,.map (some ab),.slice aO p0.edges.length aR],.obj ab (.map ac ae)] U (fun U_ L_ v=>∃ (A0:Option Addr) (c0:Nat) (bN:List Value) (A1:Option Addr) (c1:Nat),v=.tuple #[.slice A0 r.1.length c0,.slice A1 r.2.length c1]/\L_=[.row A0 c0 23 1 bN,.row A1 c1 3 1 (hD KL.encI r.2),.blk aj 124 [.slice ao p0.Race.Starts.length au,.slice ap p0.Race.Splits.length av,.slice aq p0.Race.Clocks.length ax,.slice aN p0.Race.Readings.length aQ,.map (some ab),.slice aO p0.edges.length aR],.obj ab (.map ac ae)]/\RlL U_ wJE r.1 bN)):=by
 unfold wDX at hm
 refine Gv.of Try.func58 Z Try.ntmps58 Try.results58 Z (sR fL2 Z (oA Z Z (oA Z Z (eN (sR fL4 Z (oM Z Z (bnK hm fun x3 h4 eO=>?_)))))))
 have q:=bj.el (fun _=>rfl) (wAj h4)
 obtain ⟨b6,fJ,dP,dS⟩:=q
 refine oR Z (Zh Z Z dP Z zH zC (wCv h4)) (oL Z (hS.ldC (f:=0) dS (v:=jV x3) Z Z zJ Z) (oA Z Z (eN (sR fL1 Z (oA Z Z (eN (zL (sR fL7 Z (oM Z Z (oR Z (Ze Z Z) (oR Z (zG Z Z ZN Z zW) (oR Z (zG Z Z zK Z ZD) (oL Z (hS.ldB (j:=0) Z Z Z ZL (v:=.slice ao p0.Race.Starts.length au) Z) (oR Z (zw Z Z zH) (oM Z Z (eN (zd (bnK eO fun fd ew eM=>?_))))))))))))))))))
 have q:=wAx ew
 obtain ⟨bp,ey⟩:=q
 replace bp:=zN bp
 let B0:Res:=.blk aj 124 [.slice ao p0.Race.Starts.length au,.slice ap p0.Race.Splits.length av,.slice aq p0.Race.Clocks.length ax,.slice aN p0.Race.Readings.length aQ,.map (some ab),.slice aO p0.edges.length aR]
 refine CK.forN' (fun ah aL σ_ w_=>∃ (U_:PHeap) (aG:Option Addr) (aJ:Nat) (a5:List Value),σ_ 22=jV (↑ah:Int)/\σ_ 0=.pointer (some ⟨aj,0,none⟩)/\σ_ 1=.slice aP p1.length aS/\σ_ 6=jV x3/\σ_ 7=.slice aG aL.length aJ/\σ_ 21=jV (↑p0.Race.Starts.length:Int)/\PHeap.Le U U_/\SW w [B0,.obj ab (.map ac ae)] U U_ [B0,.obj ab (.map ac ae),.row aG aJ 23 1 a5] w_/\RlL U_ wJE aL a5) ey ?_ ?_ ?_
 have eo:=hS.nilrow 23 1
 exact ⟨U,none,0,[],rfl,rfl,rfl,rfl,rfl,rfl,(zO _),(eo.pick [1,2,0] _ (by decide) rfl),RlL.nil⟩
 rintro ah aL fM fT fk bm ⟨bC,aG,aJ,a5,bd,bV,dl,dm,dq,bW,ct,ci,dM⟩ eX
 have bM:Hid ((↑ah:Int) < (↑p0.Race.Starts.length:Int)):=zN (wAs bm)
 replace bm:=zN bm
 have eE:Hid (w64 ((↑ah:Int) + 1)=(↑(ah + 1):Int)):=zN (by have h1:=bp.out;have h2:=bM.out;rw [wAW] <;> omega)
 refine sR fL1 Z (oR Z (zi Z bd bW) (eN (zL (cT Z bM (kN (zL (zd (sR fL2 Z (oM Z bd (oA Z Z (eN (sR fL1 Z (oA Z Z (eN (zL (sR fL8 Z (oM Z bV (oR Z (Ze Z Z) (oR Z (zG Z Z ZN Z zW) (oR Z (zG Z Z zK Z yG) (oL Z (ci.ldB (j:=0) Z Z Z yS (v:=.slice ap p0.Race.Splits.length av) Z) (oR Z (zw Z Z ZK) (oR Z (zb Z Z Z) (oM Z Z (eN (zd (bnK eX fun am ez eQ=>?_)))))))))))))))))))))))))))
 have q:=wAx ez
 obtain ⟨bq,eA⟩:=q
 replace bq:=zN bq
 let B1:Res:=.row aG aJ 23 1 a5
 refine CK.forN' (fun ai aM σ_ w_=>∃ (U_:PHeap) (aU:Option Addr) (aZ:Nat),σ_ 32=jV (↑ai:Int)/\σ_ 0=.pointer (some ⟨aj,0,none⟩)/\σ_ 1=.slice aP p1.length aS/\σ_ 6=jV x3/\σ_ 7=.slice aG aL.length aJ/\σ_ 8=jV (↑ah:Int)/\σ_ 9=.slice aU aM.length aZ/\σ_ 21=jV (↑p0.Race.Starts.length:Int)/\σ_ 22=jV (↑ah:Int)/\σ_ 31=jV (w64 ((↑p0.Race.Splits.length:Int) + 1))/\PHeap.Le bC U_/\SW w [B0,.obj ab (.map ac ae)] U U_ [B0,.obj ab (.map ac ae),B1,.row aU aZ 3 1 (hD KL.encI aM)] w_) eA ?_ ?_ ?_
 have ep:=ci.nilrow 3 1
 exact ⟨bC,none,0,rfl,bV,dl,dm,dq,rfl,rfl,bW,bd,rfl,(zO _),(ep.pick [1,2,3,0] _ (by decide) rfl)⟩
 rintro ai aM fN fU fm bn ⟨a9,aU,aZ,be,bX,bY,bZ,dr,ca,dt,du,dv,bP,cu,a6⟩ eY
 have bG:Hid ((↑ai:Int) < (w64 ((↑p0.Race.Splits.length:Int) + 1))):=zN (wAs bn)
 replace bn:=zN bn
 have eB:Hid (w64 ((↑ai:Int) + 1)=(↑(ai + 1):Int)):=zN (by have h1:=bq.out;have h2:=bG.out;rw [wAW] <;> omega)
 refine sR fL1 Z (oR Z (zi Z be bP) (eN (zL (cT Z bG (kN (zL (zd (sR fL2 Z (oM Z be (oA Z Z (eN (rR (wMT (.fx 14 (.fx 15 (.fl 16 .nil) .stop) .stop)) Z (oM Z dt (oM Z bY (oM Z bX (oR Z (Ze Z Z) (oR Z (zG Z Z ZN Z yD) (oL Z (a6.ldB (j:=0) Z Z Z yH (v:=.map (some ab)) Z) (oM Z ca (oM Z Z (oR Z (zl (pv:=[(0,jV (↑ah:Int)),(1,jV (↑ai:Int))]) (z:=[jV 0,jV 0]) (cs:=[jV (↑ah:Int),jV (↑ai:Int)]) Z (wAH Z (wAH Z wAP)) zZ wBL Z Z) (oL Z (a6.lookup1 (j:=1) (mk:=wBC) (mv:=wBJ) (a:=(⟨(↑ah:Int),(↑ai:Int)⟩:wAL)) (z:=0) Z Z Z Z (wBh ZQ) wCi ZB cm) (bnK eY fun ay bf eF=>?_)))))))))))))))))))))))
 have dz:=bj.le ct
 have dA:=dz.le cu
 have q:=dA.el (fun _=>rfl) (wAj bf)
 obtain ⟨fq,fH,dN,dQ⟩:=q
 refine oR Z (Zb Z Z dN Z zH zC (wCk bf) (wCw bf)) (oL Z (a6.ldC (f:=0) dQ (v:=jV ay) Z Z zJ Z) (oM Z bZ (oR Z (yU Z Z Z) (zq (pv:=[(0,jV (w64 (ay - x3)))]) (zs:=[jV 0]) (cs:=[jV (w64 (ay - x3))]) Z Z Z Z Z (wAH Z wAP) zH zC ZB Z Z Z Z Z a6 ?_))))
 intro cB cL dT
 let B2:Res:=.row (some ⟨cL,0,none⟩) 1 3 1 (hD KL.encI [w64 (ay - x3)])
 have cc:SW w [B0,.obj ab (.map ac ae)] U a9 [B2,B0,.obj ab (.map ac ae),B1,.row aU aZ 3 1 (hD KL.encI aM)] cB:=dT
 refine bnK eF fun cw dB eG=>Zw (j:=4) (enc:=KL.encI) (xs:=aM) (ys:=[w64 (ay - x3)]) (zs:=cw) rfl rfl rfl rfl rfl ya wGx rfl rfl rfl rfl rfl rfl cc rfl rfl rfl (cc.srcR (j:=0) rfl (by decide) (wAE (f:=KL.encI) (sz:=1) (fun _=>rfl) [w64 (ay - x3)])) (fun _=>rfl) (fun _=>rfl) dB rfl ?_
 intro bt bH cC dU
 have dV:SW w [B0,.obj ab (.map ac ae)] U a9 [B2,B0,.obj ab (.map ac ae),B1,.row bt bH 3 1 (hD KL.encI cw)] cC:=dU
 refine oA Z Z (zc (ZA (zI (rR fL2 Z (oR Z (ZM (zb Z be Z) (congrArg (jV) eB.out)) (oM Z Z (zc ?_)))))))
 cases eG
 exact zI ⟨rfl,⟨a9,bt,bH,rfl,bX,bY,bZ,dr,ca,rfl,du,dv,bP,cu,(dV.pick [1,2,3,4] _ (by decide) rfl)⟩⟩
 rintro fP cD ⟨fg,a7,ba,dw,cS,cU,cV,cW,fw,cX,cY,cZ,c6,co,dW⟩
 have cO:Hid (¬ ((↑((w64 ((↑p0.Race.Splits.length:Int) + 1):Int) - 0).toNat:Int) < (w64 ((↑p0.Race.Splits.length:Int) + 1)))):=zN (wAc)
 refine sR fL1 Z (oR Z (zi Z dw c6) (eN (zL (cF Z cO (Zc (zm (zm (ZY (zI (rR gEs Z (oM Z cW (oM Z cX ?_))))))))))))
 have q:=dW.freezeR (k:=3) (n:=am.length) rfl (wAE (f:=KL.encI) (sz:=1) (fun _=>rfl) am) (by decide)
 obtain ⟨aI,cp,eV,dY⟩:=q
 have dZ:SW w [B0,.obj ab (.map ac ae)] U aI [B0,.obj ab (.map ac ae),B1] cD:=dY
 let B3:List Value:=[.slice a7 am.length ba]
 refine zq (pv:=[(0,.slice a7 am.length ba)]) (zs:=[.slice none 0 0]) (cs:=B3) Z Z Z Z Z (wAH Z wAP) Try.runUnderlying29 ZD Try.zeroValue23 Z Z Z Z Z dZ ?_
 intro cE cM dX
 have cn:RlL aI wJE [am] B3:=(RlL.cons (R:=wJE) (x:=am) (vs:=B3) ⟨a7,ba,rfl,eV⟩ RlL.nil)
 let B4:Res:=.row (some ⟨cM,0,none⟩) 1 23 1 B3
 have cd:SW w [B0,.obj ab (.map ac ae)] U aI [B4,B0,.obj ab (.map ac ae),B1] cE:=dX
 refine bnK eQ fun fb dC eH=>?_
 have dD:=dM.le co
 have dE:=dD.le cp
 refine OKS.appendR (R:=wJE) (j:=3) (xs:=aL) (ys:=[am]) (zs:=fb) rfl rfl rfl rfl rfl Try.underlying29 wKm rfl rfl rfl rfl rfl rfl rfl cd rfl rfl rfl dE cn (cd.srcR (j:=0) rfl (by decide) (RlL.len cn)) dC rfl ?_
 intro bu bI bO cG d7 eU
 have d9:SW w [B0,.obj ab (.map ac ae)] U aI [B4,B0,.obj ab (.map ac ae),.row bu bI 23 1 bO] cG:=d7
 refine oA Z Z (zc (ZA (zI (rR fL2 Z (oR Z (ZM (zb Z cZ Z) (congrArg (jV) eE.out)) (oM Z Z (zc ?_)))))))
 cases eH
 exact zI ⟨rfl,⟨aI,bu,bI,bO,rfl,cS,cU,cV,rfl,cY,((ct.trans co).trans cp),(d9.pick [1,2,3] _ (by decide) rfl),eU⟩⟩
 rintro fQ fh ⟨bB,a8,bb,bJ,dx,bQ,da,db,dd,de,eZ,cf,dF⟩
 have cP:Hid (¬ ((↑(((↑p0.Race.Starts.length:Int):Int) - 0).toNat:Int) < (↑p0.Race.Starts.length:Int))):=zN (wAc)
 refine sR fL1 Z (oR Z (zi Z dx de) (eN (zL (cF Z cP (Zc (zm (zm (ZY (zI (sR fL1 Z (oA Z Z (eN (zL (sR fL7 Z (oM Z bQ (oR Z (Ze Z Z) (oR Z (zG Z Z ZN Z zW) (oR Z (zG Z Z zK Z Zn) (oL Z (cf.ldB (j:=0) Z Z Z yI (v:=.slice aq p0.Race.Clocks.length ax) Z) (oR Z (zw Z Z ZU) (oM Z Z (eN (zd (bnK eM fun fO er eI=>?_))))))))))))))))))))))))
 have q:=wAx er
 obtain ⟨bo,eu⟩:=q
 replace bo:=zN bo
 let B5:Res:=.row a8 bb 23 1 bJ
 refine CK.forN' (fun an aK σ_ w_=>∃ (U_:PHeap) (aT:Option Addr) (aY:Nat),σ_ 63=jV (↑an:Int)/\σ_ 0=.pointer (some ⟨aj,0,none⟩)/\σ_ 1=.slice aP p1.length aS/\σ_ 6=jV x3/\σ_ 7=.slice a8 fd.length bb/\σ_ 11=.slice aT aK.length aY/\σ_ 62=jV (↑p0.Race.Clocks.length:Int)/\PHeap.Le bB U_/\SW w [B0,.obj ab (.map ac ae)] U U_ [B0,.obj ab (.map ac ae),B5,.row aT aY 3 1 (hD KL.encI aK)] w_) eu ?_ ?_ ?_
 have ec:=cf.nilrow 3 1
 exact ⟨bB,none,0,rfl,bQ,da,db,dd,rfl,rfl,(zO _),(ec.pick [1,2,3,0] _ (by decide) rfl)⟩
 rintro an aK fL fR bD bk ⟨cz,aT,aY,bc,bR,bS,bT,df,dg,bU,cq,ef⟩ eW
 have bK:Hid ((↑an:Int) < (↑p0.Race.Clocks.length:Int)):=zN (wAs bk)
 replace bk:=zN bk
 have eD:Hid (w64 ((↑an:Int) + 1)=(↑(an + 1):Int)):=zN (by have h1:=bo.out;have h2:=bK.out;rw [wAW] <;> omega)
 refine sR fL1 rfl (zY rfl rfl rfl rfl (fun _=>zi rfl bc bU) (eN (zL (cT Z bK (kN (zL (zd (sR fL2 rfl (zo rfl rfl rfl rfl rfl bc (yF rfl rfl rfl rfl rfl rfl (eN (ZG ZH [3,3,3,3,3,3,1,3,2,1,3,1,3,2,0,3] (wLa (.fx 8 (wMf (.fx 13 (.fx 14 (.fl 15 .nil) .stop) .stop)) .stop)) (by kernel_rfl) ?_))))))))))))
 have bh:=ef.drew
 generalize hw_W242:({ bD with drawn:=bD.drawn + 1 }:World)=cH at bh ⊢
 refine oM Z dg (oM Z bT (oM Z bS (oM Z bR (oR Z (Ze Z Z) (oR Z (zG Z Z ZN Z yD) (oL Z (bh.ldB (j:=0) Z Z Z yH (v:=.map (some ab)) Z) (oM Z Z (bnK eW fun fc dG eJ=>zE 0 Z Z Z Z (zD Z Z Try.call82 (zB Z zM) Z) bh (fun hs=>wCT (↑an:Int) cH cz hs dG) (.inr Z) ?_))))))))
 rintro aX ff fK cI cr eg ⟨rfl,rfl⟩
 let B6:Res:=.row aT aY 3 1 (hD KL.encI aK)
 have bi:SW w [B0,.obj ab (.map ac ae)] U aX [B0,.obj ab (.map ac ae),B5,B6] cI:=eg
 refine oL Z (bi.lookup1 (j:=1) (mk:=wBC) (mv:=wBJ) (a:=fc) (z:=0) Z Z Z Z (wBh ZQ) wCi ZB cm) (bnK eJ fun az bg eK=>?_)
 have dH:=bj.le eZ
 have dI:=dH.le cq
 have dJ:=dI.le cr
 have q:=dJ.el (fun _=>rfl) (wAj bg)
 obtain ⟨ft,fI,dO,dR⟩:=q
 refine oR Z (Zb Z Z dO Z zH zC (wCk bg) (wCw bg)) (oL Z (bi.ldC (f:=0) dR (v:=jV az) Z Z zJ Z) (oR Z (yU Z Z Z) (zq (pv:=[(0,jV (w64 (x3 - az)))]) (zs:=[jV 0]) (cs:=[jV (w64 (x3 - az))]) Z Z Z Z Z (wAH Z wAP) zH zC ZB Z Z Z Z Z bi ?_)))
 intro cJ cN eh
 let B7:Res:=.row (some ⟨cN,0,none⟩) 1 3 1 (hD KL.encI [w64 (x3 - az)])
 have cg:SW w [B0,.obj ab (.map ac ae)] U aX [B7,B0,.obj ab (.map ac ae),B5,B6] cJ:=eh
 refine bnK eK fun cx dK eL=>Zw (j:=4) (enc:=KL.encI) (xs:=aK) (ys:=[w64 (x3 - az)]) (zs:=cx) rfl rfl rfl rfl rfl ya wGx rfl rfl rfl rfl rfl rfl cg rfl rfl rfl (cg.srcR (j:=0) rfl (by decide) (wAE (f:=KL.encI) (sz:=1) (fun _=>rfl) [w64 (x3 - az)])) (fun _=>rfl) (fun _=>rfl) dK rfl ?_
 intro bv bL cK ej
 have ek:SW w [B0,.obj ab (.map ac ae)] U aX [B7,B0,.obj ab (.map ac ae),B5,.row bv bL 3 1 (hD KL.encI cx)] cK:=ej
 refine oA Z Z (zc (ZA (zI (rR fL2 Z (oR Z (ZM (zb Z bc Z) (congrArg (jV) eD.out)) (oM Z Z (zc ?_)))))))
 cases eL
 exact zI ⟨rfl,⟨aX,bv,bL,rfl,bR,bS,bT,df,rfl,bU,(cq.trans cr),(ek.pick [1,2,3,4] _ (by decide) rfl)⟩⟩
 rintro fS fj ⟨cA,cy,cQ,dy,fy,fz,fA,dh,di,dk,e0,en⟩
 have cR:Hid (¬ ((↑(((↑p0.Race.Clocks.length:Int):Int) - 0).toNat:Int) < (↑p0.Race.Clocks.length:Int))):=zN (wAc)
 refine sR fL1 Z (oR Z (zi Z dy dk) (eN (zL (cF Z cR (Zc (zm (zm (ZY (zI (sR fL4 Z (oM Z dh (oM Z di (oA Z Z (oA Z Z (eN (zU ?_))))))))))))))))
 have dL:=dF.le e0
 cases eI
 exact ⟨rfl,_,(wDm rfl rfl),cA,_,(en.pick [2,3,0,1] _ (by decide) rfl),a8,bb,bJ,cy,cQ,rfl,rfl,dL⟩
end Go.Proofs.Ytlnfbjphfoipaaa
namespace Go.Proofs.Ytlnfbjphfoipaaa
open Go.KL
set_option maxHeartbeats 4000000
theorem wHZ (p0:wAD) (aK:Option Addr) (aO:Nat) (aL:Option Addr) (aP:Nat) (aM:Option Addr) (aQ:Nat) (aN:Option Addr) (aR:Nat) (w:World) (U:PHeap) (hS:St0 w U []) (cA:Sl U 1 aK aO p0.Starts.length (hD KL.encI p0.Starts)) (cB:Sl U 2 aL aP p0.Splits.length (hD wAC p0.Splits)) (cC:Sl U 3 aM aQ p0.Clocks.length (hD wAB p0.Clocks)) (cD:Sl U 4 aN aR p0.Readings.length (hD wAA p0.Readings)) {r:(List (List Int)) × (List Int) × Int} (hm:wEV p0=some r):Gv Try.prog 27 [.agg #[.slice aK p0.Starts.length aO,.slice aL p0.Splits.length aP,.slice aM p0.Clocks.length aQ,.slice aN p0.Readings.length aR]] w (wBs w [] U (fun U_ L_ v=>∃ (A0:Option Addr) (c0:Nat) (bq:List Value) (A1:Option Addr) (c1:Nat),v=.tuple #[.slice A0 r.1.length c0,.slice A1 r.2.1.length c1,jV r.2.2]/\L_=[.row A0 c0 23 1 bq,.row A1 c1 3 1 (hD KL.encI r.2.1)]/\RlL U_ wJE r.1 bq)):=by
 unfold wEV at hm
 refine Gv.of Try.func27 Z Try.ntmps27 Try.results27 Z (sR (.fx 0 (fC1_3 (.nil)) .stop) Z ?_)
 let B0:List Value:=[.slice aK p0.Starts.length aO,.slice aL p0.Splits.length aP,.slice aM p0.Clocks.length aQ,.slice aN p0.Readings.length aR]
 refine zu (cs:=B0) rfl rfl rfl rfl rfl rfl (by rfl) hS ?_
 intro W1 b2 bz
 refine oA Z Z (oA Z Z (oA Z Z (eN (sR (.fl 0 (.fx 1 (wHJ (.nil)) .stop)) Z (oL Z (bz.ldBA (j:=0) Z Z Z zg zW (vs:=B0) Z Z) ?_)))))
 have q:=bnd hm
 obtain ⟨⟨x5,x6⟩,h7,ap⟩:=q
 try dsimp only at ap
 refine zE 0 Z Z Z Z (zD Z Z Try.call60 (zB Z zM) Z) bz (fun hs=>wDr p0 aK aO aL aP aM aQ aN aR W1 U hs cA cB cC cD h7) (.inr Z) ?_
 rintro U9 cQ cY ay cW bx bw
 rcases x5 with _ | ae
 try dsimp only at ap
 obtain ⟨rfl,rfl⟩:=bw
 have cn:sW w U U9 [.blk b2 28 B0] ay:=bx
 refine oM Z Z (oR Z (zT Z Z (v:=.pointer none) Z) (oR Z (zT Z Z (v:=jV x6) Z) (oA Z Z (oA Z Z (eN (zL (sR fL2 Z (oM Z Z (oR Z (Zg Z Z Z) (eN (ifc ap ?_ ?_)))))))))))
 intro bc cH
 refine ZI (zt (fun h=>h bc.out)) (kN (sR (.fl 0 (.fx 1 (wLb gEk) .stop)) Z (oM Z Z ?_)))
 cases cH
 intro bc cI
 refine cT Z bc (sR fL4 Z (oM Z Z (oA Z Z (oA Z Z (oA Z Z (eN (zU (za ?_))))))))
 have co:=cn.nilrow 23 1
 have cp:=co.nilrow 3 1
 cases cI
 exact ⟨rfl,_,(res3 rfl rfl rfl),U9,_,(cp.pick [1,0] _ (by decide) rfl),none,0,[],none,0,rfl,rfl,RlL.nil⟩
 try dsimp only at ap
 obtain ⟨aG,aU,a8,aV,a9,aW,ba,aX,bb,ac,ah,ag,av,aI,rfl,rfl,bM,bN,bO,bP,br⟩:=bw
 let B1:Res:=.blk aG 124 [.slice aU ae.Race.Starts.length a8,.slice aV ae.Race.Splits.length a9,.slice aW ae.Race.Clocks.length ba,.slice aX ae.Race.Readings.length bb,.map (some ac),.slice av ae.edges.length aI]
 have bA:sW w U U9 [B1,.obj ac (.map ah ag),.row av aI 130 7 (hD wAR ae.edges),.blk b2 28 B0] ay:=bx
 refine oM Z Z (oR Z (zT Z Z (v:=.pointer (some ⟨aG,0,none⟩)) Z) (oR Z (zT Z Z (v:=jV x6) Z) (oA Z Z (oA Z Z (eN (zL (sR fL2 Z (oM Z Z (oR Z (Zg Z Z Z) (eN (ifc ap ?_ ?_)))))))))))
 intro bd cJ
 refine ZI (zt (fun h=>h bd.out)) (kN (sR (.fl 0 (.fx 1 (wLb gEk) .stop)) Z (oM Z Z ?_)))
 have q:=bA.freezeR (k:=2) (n:=ae.edges.length) rfl (wAE (f:=wAR) (sz:=7) (fun _=>rfl) ae.edges) (by decide)
 obtain ⟨bm,aJ,bD,cq⟩:=q
 have cr:sW w U bm [B1,.obj ac (.map ah ag),.blk b2 28 B0] ay:=cq
 have bs:=bM.le aJ
 have bt:=bN.le aJ
 have bu:=bO.le aJ
 have bv:=bP.le aJ
 have q:=bnd cJ
 obtain ⟨⟨af,cO,cP⟩,bQ,bC⟩:=q
 try dsimp only at bC
 refine zE 2 Z Z Z Z (zD Z Z Try.call57 (zB Z (zB Z (zB Z zM))) Z) cr (fun hs=>wBM ae aG aU a8 aV a9 aW ba aX bb ac ah ag av aI (-1) false ay bm hs bs bt bu bv br bD bQ) (.inl Z) ?_
 rintro aZ cS cZ bI aq ct ⟨ak,ao,aY,be,rfl,rfl⟩
 let B2:Res:=.row aY be 3 1 (hD KL.encI af.by_)
 let B3:Res:=.row ak ao 3 1 (hD KL.encI af.far)
 have cu:sW w U aZ [B3,B2,B1,.obj ac (.map ah ag),.blk b2 28 B0] bI:=ct
 refine oM Z Z (oR Z (zT Z Z (v:=.agg #[.slice ak af.far.length ao,.slice aY af.by_.length be]) Z) (oR Z (zT Z Z (v:=jV cO) Z) (oR Z (zT Z Z (v:=.bool cP) Z) (zR (cs:=[.slice none 0 0,.slice none 0 0]) Z Z Z Z Z Zl Z cu ?_))))
 intro cU aH cw
 let B4:List Value:=[.slice ak af.far.length ao,.slice aY af.by_.length be]
 refine zV (j:=0) (vs:=B4) Z Z Z Z cw Z Z Z Z yE (zA Z) Z Z Z ?_
 intro az cx
 have bg:sW w U aZ [.blk aH 118 B4,B3,B2,B1,.obj ac (.map ah ag),.blk b2 28 B0] az:=cx
 refine oA Z Z (oA Z Z (eN (zL (sR fL2 Z (oM Z Z (oR Z (Zd Z Z) (eN (ifc bC ?_ ?_))))))))
 intro bf cK
 refine ZI (nC bf.out) (kN (sR (wCg (.fx 3 (wKA (.nil)) .stop)) Z (oM Z Z (oR Z (zG Z Z Za Z ZD) (oL Z (bg.ldB (j:=0) Z Z Z ZL (v:=.slice ak af.far.length ao) Z) ?_)))))
 have q:=bg.freezeR (k:=1) (n:=af.far.length) rfl (wAE (f:=KL.encI) (sz:=1) (fun _=>rfl) af.far) (by decide)
 obtain ⟨a5,au,cL,cy⟩:=q
 have cz:sW w U a5 [.blk aH 118 B4,B2,B1,.obj ac (.map ah ag),.blk b2 28 B0] az:=cy
 have bS:=bs.le aq
 have bT:=bS.le au
 have bU:=bt.le aq
 have bV:=bU.le au
 have bW:=bu.le aq
 have bX:=bW.le au
 have bY:=bv.le aq
 have bZ:=bY.le au
 have ca:=bD.le aq
 have bJ:=ca.le au
 have q:=bnd cK
 obtain ⟨⟨cM,bE⟩,bK,bB⟩:=q
 try dsimp only at bB
 have cb:sW w U a5 [B1,.obj ac (.map ah ag),.blk aH 118 B4,B2,.blk b2 28 B0] az:=cz.pick [2,3,0,1,4] _ (by decide) rfl
 refine zE 2 Z Z Z Z (zD Z Z Try.call58 (zB Z (zB Z zM)) Z) cb (fun hs=>wFi ae aG aU a8 aV a9 aW ba aX bb ac ah ag av aI af.far ak ao az a5 hs bT bV bX bZ br bJ cL bK) (.inl Z) ?_
 rintro bk cR cX bH cV cc ⟨aS,a6,bp,aT,a7,rfl,rfl,bL⟩
 have cd:sW w U bk [.row aS a6 23 1 bp,.row aT a7 3 1 (hD KL.encI bE),B1,.obj ac (.map ah ag),.blk aH 118 B4,B2,.blk b2 28 B0] bH:=cc
 refine oM Z Z (oR Z (zT Z Z (v:=.slice aS cM.length a6) Z) (oR Z (zT Z Z (v:=.slice aT bE.length a7) Z) (oA Z Z (oA Z Z (eN (sR fL5 Z (oM Z Z (oM Z Z (oA Z Z (oA Z Z (oA Z Z (eN (zU ?_)))))))))))))
 cases bB
 exact ⟨rfl,_,(res3 rfl rfl rfl),bk,_,(cd.pick [0,1] _ (by decide) rfl),aS,a6,bp,aT,a7,rfl,rfl,bL⟩
 intro bf cE
 refine ZT (nF (bf.out)) (sR fL3 Z (oA Z Z (oA Z Z (oA Z Z (eN (zU (za ?_)))))))
 have cf:=bg.nilrow 23 1
 have cg:=cf.nilrow 3 1
 cases cE
 exact ⟨rfl,_,(res3 rfl rfl rfl),aZ,_,(cg.pick [1,0] _ (by decide) rfl),none,0,[],none,0,rfl,rfl,RlL.nil⟩
 intro bd cG
 refine cT Z bd (sR fL4 Z (oM Z Z (oA Z Z (oA Z Z (oA Z Z (eN (zU (za ?_))))))))
 have ci:=bA.nilrow 23 1
 have cm:=ci.nilrow 3 1
 cases cG
 exact ⟨rfl,_,(res3 rfl rfl rfl),U9,_,(cm.pick [1,0] _ (by decide) rfl),none,0,[],none,0,rfl,rfl,RlL.nil⟩
theorem wGb (p0:wAD) (ah:Option Addr) (am:Nat) (ai:Option Addr) (an:Nat) (aj:Option Addr) (ao:Nat) (ak:Option Addr) (ap:Nat) (p1:List wAJ) (aX:Option Addr) (aY:Nat) (w:World) (U:PHeap) (hS:St0 w U []) (bS:Sl U 1 ah am p0.Starts.length (hD KL.encI p0.Starts)) (bT:Sl U 2 ai an p0.Splits.length (hD wAC p0.Splits)) (bU:Sl U 3 aj ao p0.Clocks.length (hD wAB p0.Clocks)) (bV:Sl U 4 ak ap p0.Readings.length (hD wAA p0.Readings)) (eH:Sl U 4 aX aY p1.length (hD wBV p1)) {r:Int × Int} (hm:wDz p0 p1=some r):Gv Try.prog 34 [.agg #[.slice ah p0.Starts.length am,.slice ai p0.Splits.length an,.slice aj p0.Clocks.length ao,.slice ak p0.Readings.length ap],.slice aX p1.length aY] w (wBs w [] U (fun U_ L_ v=>v=.tuple #[jV r.1,jV r.2]/\L_=[])):=by
 unfold wDz at hm
 refine Gv.of Try.func34 Z Try.ntmps34 Try.results34 Z (sR gDx Z ?_)
 let B0:List Value:=[.slice ah p0.Starts.length am,.slice ai p0.Splits.length an,.slice aj p0.Clocks.length ao,.slice ak p0.Readings.length ap]
 refine zu (cs:=B0) rfl rfl rfl rfl rfl rfl (by rfl) hS ?_
 intro W1 b2 bR
 refine oA Z Z (oA Z Z (eN (zL (sR gEg Z (oL Z (bR.ldBA (j:=0) Z Z Z zg zW (vs:=B0) Z Z) (bnK hm fun x5 h6 e0=>zE 0 Z Z Z Z (zD Z Z Try.call68 (zB Z zM) Z) bR (fun hs=>wDq p0 ah am ai an aj ao ak ap W1 U hs bS bT bU bV h6) (.inr Z) ?_))))))
 rintro U8 L9 fM bI aV dK ⟨rfl,rfl⟩
 have bw:sW w U U8 [.blk b2 28 B0] bI:=dK
 refine oA Z Z (eN (sR fL2 Z (oM Z Z (oR Z (Zg Z Z Z) (eN (ifc e0 ?_ ?_))))))
 intro br eI
 refine ZI (zt (fun h=>h br.out)) (kN (zL (sR gEn Z (oL Z (bw.ldBA (j:=0) Z Z Z zg zW (vs:=B0) Z Z) (oM Z Z ?_)))))
 have aI:=bS.le aV
 have aJ:=bT.le aV
 have aK:=bU.le aV
 have aL:=bV.le aV
 have bv:=eH.le aV
 refine bnK eI fun fU cY eJ=>zE 0 Z Z Z Z (zD Z Z Try.call69 (zB Z (zB Z zM)) Z) bw (fun hs=>wDj p0 ah am ai an aj ao ak ap p1 aX aY bI U8 hs aI aJ aK aL bv cY) (.inr Z) ?_
 rintro aq fw fS bm ab eG ⟨rfl,rfl⟩
 have bz:sW w U aq [.blk b2 28 B0] bm:=eG
 refine oA Z Z (eN (sR fL2 Z (oM Z Z (oR Z (Zg Z Z Z) (eN (ifc eJ ?_ ?_))))))
 intro bt eX
 refine ZI (zt (fun h=>h bt.out)) (kN (zL (sR fL3 Z (oM Z Z (oR Z (zw Z Z yN) (oR Z (yJ Z Z Z) (eN (ifc eX ?_ ?_))))))))
 intro bu eY
 refine cT Z bu (sR fL2 Z (oA Z Z (oA Z Z (eN (zU (za ?_))))))
 cases eY
 exact ⟨rfl,_,(wDm rfl rfl),aq,_,(bz.pick [] _ (by decide) rfl),rfl,rfl⟩
 intro bu eZ
 refine cF Z bu (kN ?_)
 have q:=bnd eZ
 obtain ⟨⟨bA,bB⟩,fc,bX⟩:=q
 try dsimp only at bX
 let B1:List Value:=[jV bA,jV bB]
 refine yP (fun σ_ w_=>∃ (U_:PHeap) (aT:Nat),σ_ 1=.slice aX p1.length aY/\σ_ 2=.pointer (some ⟨b2,0,none⟩)/\σ_ 8=.pointer (some ⟨aT,0,none⟩)/\PHeap.Le aq U_/\sW w U U_ [.blk b2 28 B0,.blk aT 104 B1] w_) ?_ ?_
 refine bnK fc fun av bN fb=>?_
 have q:=bnd fb
 obtain ⟨⟨af,ag,a5⟩,aU,aM⟩:=q
 try dsimp only at aM
 refine ZG ZH [1,3,3,1,2,3,3,3,3,2,2,0,0,3] (wDl (.fx 4 (wGg (.fx 9 gEp (.fx 10 gEq .stop))) (.fx 9 (.fx 4 (wGg gEp) (.fx 10 (.fx 4 (wGg gEj) (.stop)) (.stop))) (.fx 10 (.fx 4 (wGg gEq) (.fx 9 (.fx 4 (wGg gEj) (.stop)) (.stop))) (.stop))))) (by kernel_rfl) ?_
 have aR:=bz.drew
 generalize hw_W85:({ bm with drawn:=bm.drawn + 1 }:World)=cH at aR ⊢
 refine oL Z (aR.ldBA (j:=0) Z Z Z zg zW (vs:=B0) Z Z) (oM Z Z ?_)
 have du:=bv.le ab
 have q:=du.el (fun _=>rfl) (wAj bN)
 obtain ⟨fJ,fL,dz,dA⟩:=q
 refine oR Z (Zh Z Z dz Z yN Zf (wCv bN)) (oL Z (aR.ldCA (f:=0) dA Z Z yA Zf (us:=[jV av.Kind,jV av.Skier,jV av.Index,.bool av.Up]) Z Z) (zn ?_ ?_))
 have dv:=aI.le ab
 have dw:=aJ.le ab
 have dx:=aK.le ab
 have dy:=aL.le ab
 refine zE 0 Z Z Z Z (zD Z Z Try.call70 (zB Z (zB Z zM)) Z) aR (fun hs=>wBT p0 ah am ai an aj ao ak ap av cH aq hs dv dw dx dy aU) (.inr Z) ?_
 rintro aG fA fN cb bY dB ⟨rfl,rfl⟩
 have bO:sW w U aG [.blk b2 28 B0] cb:=dB
 refine oM Z Z (oR Z (zT Z Z (v:=.agg #[jV af.skier,jV af.mat]) Z) (oR Z (zT Z Z (v:=.agg #[jV ag.skier,jV ag.mat]) Z) (oR Z (zT Z Z (v:=jV a5) Z) (zn ?_ ?_))))
 let B2:List Value:=[jV 0,jV 0]
 refine zR (cs:=B2) Z Z Z Z Z zZ Z bO ?_
 intro fB bn dC
 refine zR (cs:=B2) Z Z Z Z Z zZ Z dC ?_
 intro fC bJ dD
 let B3:List Value:=[jV af.skier,jV af.mat]
 refine zV (j:=1) (vs:=B3) Z Z Z Z dD Z Z Z Z zF (zA Z) Z Z Z ?_
 intro cc dE
 have dF:sW w U aG [.blk bJ 104 B2,.blk bn 104 B3,.blk b2 28 B0] cc:=dE
 let B4:List Value:=[jV ag.skier,jV ag.mat]
 refine zV (j:=0) (vs:=B4) Z Z Z Z dF Z Z Z Z zF (zA Z) Z Z Z ?_
 intro cd dG
 have dH:sW w U aG [.blk bJ 104 B4,.blk bn 104 B3,.blk b2 28 B0] cd:=dG
 refine oA Z Z (zc ?_)
 cases aM
 exact zI ⟨rfl,⟨aG,bn,rfl,rfl,rfl,bY,(dH.pick [2,1] _ (by decide) rfl)⟩⟩
 let B5:List Value:=[jV 0,jV 0]
 refine zR (cs:=B5) Z Z Z Z Z zZ Z bO ?_
 intro fD bK dI
 refine zR (cs:=B5) Z Z Z Z Z zZ Z dI ?_
 intro fE bo dJ
 let B6:List Value:=[jV af.skier,jV af.mat]
 refine zV (j:=0) (vs:=B6) Z Z Z Z dJ Z Z Z Z zF (zA Z) Z Z Z ?_
 intro cf dL
 have dM:sW w U aG [.blk bo 104 B6,.blk bK 104 B5,.blk b2 28 B0] cf:=dL
 let B7:List Value:=[jV ag.skier,jV ag.mat]
 refine zV (j:=1) (vs:=B7) Z Z Z Z dM Z Z Z Z zF (zA Z) Z Z Z ?_
 intro cg dN
 have dO:sW w U aG [.blk bo 104 B6,.blk bK 104 B7,.blk b2 28 B0] cg:=dN
 refine oA Z Z (zc ?_)
 cases aM
 exact zI ⟨rfl,⟨aG,bo,rfl,rfl,rfl,bY,(dO.pick [2,0] _ (by decide) rfl)⟩⟩
 refine zn ?_ ?_
 let B8:List Value:=[jV 0,jV 0]
 refine zR (cs:=B8) Z Z Z Z Z zZ Z aR ?_
 intro ci az bP
 refine zn ?_ ?_
 have cL:=aI.le ab
 have cM:=aJ.le ab
 have cN:=aK.le ab
 have cO:=aL.le ab
 refine zE 0 Z Z Z Z (zD Z Z Try.call70 (zB Z (zB Z zM)) Z) bP (fun hs=>wBT p0 ah am ai an aj ao ak ap av ci aq hs cL cM cN cO aU) (.inr Z) ?_
 rintro a6 fm fO cm fd dP ⟨rfl,rfl⟩
 have dQ:sW w U a6 [.blk az 104 B8,.blk b2 28 B0] cm:=dP
 refine oM Z Z (oR Z (zT Z Z (v:=.agg #[jV af.skier,jV af.mat]) Z) (oR Z (zT Z Z (v:=.agg #[jV ag.skier,jV ag.mat]) Z) (oR Z (zT Z Z (v:=jV a5) Z) (zR (cs:=B8) Z Z Z Z Z zZ Z dQ ?_))))
 intro fG bL dR
 let B9:List Value:=[jV af.skier,jV af.mat]
 refine zV (j:=1) (vs:=B9) Z Z Z Z dR Z Z Z Z zF (zA Z) Z Z Z ?_
 intro cn dS
 have dT:sW w U a6 [.blk bL 104 B8,.blk az 104 B9,.blk b2 28 B0] cn:=dS
 let bC:List Value:=[jV ag.skier,jV ag.mat]
 refine zV (j:=0) (vs:=bC) Z Z Z Z dT Z Z Z Z zF (zA Z) Z Z Z ?_
 intro co dU
 have dV:sW w U a6 [.blk bL 104 bC,.blk az 104 B9,.blk b2 28 B0] co:=dU
 refine oA Z Z (zc ?_)
 cases aM
 exact zI ⟨rfl,⟨a6,az,rfl,rfl,rfl,fd,(dV.pick [2,1] _ (by decide) rfl)⟩⟩
 refine zR (cs:=B8) Z Z Z Z Z zZ Z bP ?_
 intro cp bp dW
 have cP:=aI.le ab
 have cQ:=aJ.le ab
 have cR:=aK.le ab
 have cS:=aL.le ab
 refine zE 0 Z Z Z Z (zD Z Z Try.call70 (zB Z (zB Z zM)) Z) dW (fun hs=>wBT p0 ah am ai an aj ao ak ap av cp aq hs cP cQ cR cS aU) (.inr Z) ?_
 rintro a7 fq fP cq ff dX ⟨rfl,rfl⟩
 have dY:sW w U a7 [.blk bp 104 B8,.blk az 104 B8,.blk b2 28 B0] cq:=dX
 refine oM Z Z (oR Z (zT Z Z (v:=.agg #[jV af.skier,jV af.mat]) Z) (oR Z (zT Z Z (v:=.agg #[jV ag.skier,jV ag.mat]) Z) (oR Z (zT Z Z (v:=jV a5) Z) ?_)))
 let bb:List Value:=[jV af.skier,jV af.mat]
 refine zV (j:=1) (vs:=bb) Z Z Z Z dY Z Z Z Z zF (zA Z) Z Z Z ?_
 intro cr dZ
 have d7:sW w U a7 [.blk bp 104 B8,.blk az 104 bb,.blk b2 28 B0] cr:=dZ
 let bD:List Value:=[jV ag.skier,jV ag.mat]
 refine zV (j:=0) (vs:=bD) Z Z Z Z d7 Z Z Z Z zF (zA Z) Z Z Z ?_
 intro ct d9
 have ec:sW w U a7 [.blk bp 104 bD,.blk az 104 bb,.blk b2 28 B0] ct:=d9
 refine oA Z Z (zc ?_)
 cases aM
 exact zI ⟨rfl,⟨a7,az,rfl,rfl,rfl,ff,(ec.pick [2,1] _ (by decide) rfl)⟩⟩
 let ax:List Value:=[jV 0,jV 0]
 refine zR (cs:=ax) Z Z Z Z Z zZ Z aR ?_
 intro cu aP bQ
 refine zn ?_ ?_
 have cU:=aI.le ab
 have cV:=aJ.le ab
 have cW:=aK.le ab
 have cX:=aL.le ab
 refine zE 0 Z Z Z Z (zD Z Z Try.call70 (zB Z (zB Z zM)) Z) bQ (fun hs=>wBT p0 ah am ai an aj ao ak ap av cu aq hs cU cV cW cX aU) (.inr Z) ?_
 rintro a8 ft fQ cw fg ef ⟨rfl,rfl⟩
 have eg:sW w U a8 [.blk aP 104 ax,.blk b2 28 B0] cw:=ef
 refine oM Z Z (oR Z (zT Z Z (v:=.agg #[jV af.skier,jV af.mat]) Z) (oR Z (zT Z Z (v:=.agg #[jV ag.skier,jV ag.mat]) Z) (oR Z (zT Z Z (v:=jV a5) Z) (zR (cs:=ax) Z Z Z Z Z zZ Z eg ?_))))
 intro fH bq eh
 let bc:List Value:=[jV af.skier,jV af.mat]
 refine zV (j:=0) (vs:=bc) Z Z Z Z eh Z Z Z Z zF (zA Z) Z Z Z ?_
 intro cx ej
 have ek:sW w U a8 [.blk bq 104 bc,.blk aP 104 ax,.blk b2 28 B0] cx:=ej
 let bE:List Value:=[jV ag.skier,jV ag.mat]
 refine zV (j:=1) (vs:=bE) Z Z Z Z ek Z Z Z Z zF (zA Z) Z Z Z ?_
 intro cy en
 have eo:sW w U a8 [.blk bq 104 bc,.blk aP 104 bE,.blk b2 28 B0] cy:=en
 refine oA Z Z (zc ?_)
 cases aM
 exact zI ⟨rfl,⟨a8,bq,rfl,rfl,rfl,fg,(eo.pick [2,0] _ (by decide) rfl)⟩⟩
 refine zR (cs:=ax) Z Z Z Z Z zZ Z bQ ?_
 intro cz ba ep
 have cZ:=aI.le ab
 have c6:=aJ.le ab
 have da:=aK.le ab
 have db:=aL.le ab
 refine zE 0 Z Z Z Z (zD Z Z Try.call70 (zB Z (zB Z zM)) Z) ep (fun hs=>wBT p0 ah am ai an aj ao ak ap av cz aq hs cZ c6 da db aU) (.inr Z) ?_
 rintro a9 fu fR cA fh er ⟨rfl,rfl⟩
 have eu:sW w U a9 [.blk ba 104 ax,.blk aP 104 ax,.blk b2 28 B0] cA:=er
 refine oM Z Z (oR Z (zT Z Z (v:=.agg #[jV af.skier,jV af.mat]) Z) (oR Z (zT Z Z (v:=.agg #[jV ag.skier,jV ag.mat]) Z) (oR Z (zT Z Z (v:=jV a5) Z) ?_)))
 let bd:List Value:=[jV af.skier,jV af.mat]
 refine zV (j:=0) (vs:=bd) Z Z Z Z eu Z Z Z Z zF (zA Z) Z Z Z ?_
 intro cB ew
 have ey:sW w U a9 [.blk ba 104 bd,.blk aP 104 ax,.blk b2 28 B0] cB:=ew
 let bF:List Value:=[jV ag.skier,jV ag.mat]
 refine zV (j:=1) (vs:=bF) Z Z Z Z ey Z Z Z Z zF (zA Z) Z Z Z ?_
 intro cC ez
 have eA:sW w U a9 [.blk ba 104 bd,.blk aP 104 bF,.blk b2 28 B0] cC:=ez
 refine oA Z Z (zc ?_)
 cases aM
 exact zI ⟨rfl,⟨a9,ba,rfl,rfl,rfl,fh,(eA.pick [2,0] _ (by decide) rfl)⟩⟩
 rintro fW cD ⟨bZ,aT,cJ,cK,bM,aW,bx⟩
 refine sR (wCg (.fx 3 (fC4_7 (.fx 8 (.fx 9 (.fl 10 (.fl 11 .nil)) .stop) .stop)) .stop)) Z (oL Z (bx.ldBA (j:=0) Z Z cK zg zW (vs:=B0) Z Z) (oL Z (bx.ldBA (j:=1) Z Z bM zh zF (vs:=B1) Z Z) (oM Z cJ ?_)))
 have dd:=aI.le ab
 have de:=dd.le aW
 have df:=aJ.le ab
 have dg:=df.le aW
 have dh:=aK.le ab
 have di:=dh.le aW
 have dk:=aL.le ab
 have dl:=dk.le aW
 have dm:=bv.le ab
 have dq:=dm.le aW
 have q:=bnd bX
 obtain ⟨⟨aZ,fj,fk⟩,dr,bW⟩:=q
 try dsimp only at bW
 refine zE 0 Z Z Z Z (zD Z Z Try.call71 (zB Z (zB Z (zB Z zM))) Z) bx (fun hs=>wCY p0 ah am ai an aj ao ak ap (⟨bA,bB⟩:wAL) p1 aX aY cD bZ hs de dg di dl dq dr) (.inr Z) ?_
 rintro aO fy fT cE fK eB ⟨rfl,rfl⟩
 have eD:sW w U aO [.blk b2 28 B0,.blk aT 104 B1] cE:=eB
 refine oM Z Z (oR Z (zT Z Z (v:=.agg #[jV aZ.skier,jV aZ.mat]) Z) (oR Z (zT Z Z (v:=jV fj) Z) (oR Z (zT Z Z (v:=.bool fk) Z) (zR (cs:=[jV 0,jV 0]) Z Z Z Z Z zZ Z eD ?_))))
 intro fI cI eE
 let be:List Value:=[jV aZ.skier,jV aZ.mat]
 refine zV (j:=0) (vs:=be) Z Z Z Z eE Z Z Z Z zF (zA Z) Z Z Z ?_
 intro cG eF
 have aQ:sW w U aO [.blk cI 104 be,.blk b2 28 B0,.blk aT 104 B1] cG:=eF
 refine oA Z Z (oA Z Z (eN (zL (sR wMQ Z (oM Z Z (oR Z (Zd Z Z) (oM Z Z (ifc bW ?_ ?_))))))))
 intro au eK
 refine ZF Z Z Z (zP Z Z (nC au.out)) (aQ.ldBA (j:=0) Z Z Z zh zF (vs:=be) Z Z) Z (ZF Z Z Z (zP Z Z (nC au.out)) (aQ.ldBA (j:=2) Z Z bM zh zF (vs:=B1) Z Z) Z (zY Z Z Z (zP Z Z (nC au.out)) (fun _=>ZM (yi (enc:=wBX) (a:=aZ) (b:=(⟨bA,bB⟩:wAL)) Z Z Z wJX wJW) (congrArg hH (decide_not).symm)) (oR Z (ze Z (nC au.out) Z) (oM Z Z (ifc eK ?_ ?_)))))
 intro aH eL
 refine zo Z Z Z (zP Z Z (zt (fun h=>h aH.out))) Z Z (zY Z Z Z (zP Z Z (zt (fun h=>h aH.out))) (fun _=>Runs.geq Z Z Z) (oR Z (ze Z (zt (fun h=>h aH.out)) Z) (eN (ifc eL ?_ ?_))))
 intro bs eM
 refine cT Z bs (sR fL2 Z (oA Z Z (oA Z Z (eN (zU (za ?_))))))
 cases eM
 exact ⟨rfl,_,(wDm rfl rfl),aO,_,(aQ.pick [] _ (by decide) rfl),rfl,rfl⟩
 intro bs eO
 refine cF Z bs (kN (sR fL3 Z (oM Z Z (oA Z Z (oA Z Z (eN (zU ?_)))))))
 cases eO
 exact ⟨rfl,_,(wDm rfl rfl),aO,_,(aQ.pick [] _ (by decide) rfl),rfl,rfl⟩
 intro aH eQ
 refine oT Z aH (oT Z aH (oR Z (zQ Z (Zk aH.out) Z) (eN (ZT Z (sR fL2 Z (oA Z Z (oA Z Z (eN (zU (za ?_))))))))))
 cases eQ
 exact ⟨rfl,_,(wDm rfl rfl),aO,_,(aQ.pick [] _ (by decide) rfl),rfl,rfl⟩
 intro au eU
 refine zX Z Z Z (zS Z Z (nF (au.out)) Z) (zX Z Z Z (zS Z Z (nF (au.out)) Z) (zX Z Z Z (zS Z Z (nF (au.out)) Z) (oR Z (zQ Z (nF (au.out)) Z) (oM Z Z (oN Z (oN Z (oR Z (zQ Z Z Z) (eN (ZT Z (sR fL2 Z (oA Z Z (oA Z Z (eN (zU (za ?_)))))))))))))))
 cases eU
 exact ⟨rfl,_,(wDm rfl rfl),aO,_,(aQ.pick [] _ (by decide) rfl),rfl,rfl⟩
 intro bt eV
 refine cT Z bt (sR fL3 Z (oM Z Z (oA Z Z (oA Z Z (eN (zU (za ?_)))))))
 cases eV
 exact ⟨rfl,_,(wDm rfl rfl),aq,_,(bz.pick [] _ (by decide) rfl),rfl,rfl⟩
 intro br eW
 refine cT Z br (sR fL3 Z (oM Z Z (oA Z Z (oA Z Z (eN (zU (za ?_)))))))
 cases eW
 exact ⟨rfl,_,(wDm rfl rfl),U8,_,(bw.pick [] _ (by decide) rfl),rfl,rfl⟩
theorem wGc (p0:Int) (p1:wAI) (p2:Int) (af:Nat) (w:World) (U:PHeap) (hS:St0 w U []) (ag:Cl U af 0 [jV p2]) {r:Bool} (hm:wCl p0 p1 p2=some r):Gv Try.prog 65 [jV p0,.agg #[jV p1.Skier,jV p1.Mat,jV p1.Clock,jV p1.Time],.pointer (some ⟨af,0,none⟩)] w (wBs w [] U (fun U_ L_ v=>v=.bool r/\L_=[])):=by
 unfold wCl at hm
 refine Gv.of Try.func65 rfl Try.ntmps65 Try.results65 rfl (sR gDw rfl (zu (cs:=[jV p1.Skier,jV p1.Mat,jV p1.Clock,jV p1.Time]) rfl rfl rfl rfl rfl rfl (by rfl) hS ?_))
 intro W1 b2 ac
 refine oA Z Z (eN (sR fL4 Z (oM Z Z (oL Z (ac.ldC (f:=0) ag (v:=jV p2) Z Z zJ Z) (oR Z (yJ Z Z Z) (oA Z Z (eN (zU ?_))))))))
 first | (obtain rfl:=nA hm) | cases hm
 exact ⟨rfl,_,(ZV rfl),U,_,(ac.pick [] _ (by decide) rfl),rfl,rfl⟩
theorem wCr (p0:wAD) (aj:Option Addr) (an:Nat) (ak:Option Addr) (ao:Nat) (am:Option Addr) (ap:Nat) (aG:Option Addr) (aH:Nat) (p1:((Int × wAI)->Option Bool)) (a9:Value) (w:World) (U:PHeap) (hS:St0 w U []) (cP:Sl U 1 aj an p0.Starts.length (hD KL.encI p0.Starts)) (cQ:Sl U 2 ak ao p0.Splits.length (hD wAC p0.Splits)) (cR:Sl U 3 am ap p0.Clocks.length (hD wAB p0.Clocks)) (cS:Sl U 4 aG aH p0.Readings.length (hD wAA p0.Readings)) (cU:FnOK Try.prog U a9 wKK wKL p1) {r:wAY} (hm:wBl p0 p1=some r):Gv Try.prog 64 [.agg #[.slice aj p0.Starts.length an,.slice ak p0.Splits.length ao,.slice am p0.Clocks.length ap,.slice aG p0.Readings.length aH],a9] w (wBs w [] U (fun U_ L_ v=>∃ (b0:Nat) (A0p00:Option Addr) (c0p00:Nat) (A0p01:Option Addr) (c0p01:Nat) (A0p02:Option Addr) (c0p02:Nat) (A0p03:Option Addr) (c0p03:Nat) (m0p1:Nat) (es0p1:Array MapEntry) (ck0p1:Nat) (A0p2:Option Addr) (c0p2:Nat),v=.pointer (some ⟨b0,0,none⟩)/\L_=[.blk b0 124 [.slice A0p00 r.Race.Starts.length c0p00,.slice A0p01 r.Race.Splits.length c0p01,.slice A0p02 r.Race.Clocks.length c0p02,.slice A0p03 r.Race.Readings.length c0p03,.map (some m0p1),.slice A0p2 r.edges.length c0p2],.obj m0p1 (.map es0p1 ck0p1),.row A0p2 c0p2 130 7 (hD wAR r.edges)]/\Sl U_ 1 A0p00 c0p00 r.Race.Starts.length (hD KL.encI r.Race.Starts)/\Sl U_ 2 A0p01 c0p01 r.Race.Splits.length (hD wAC r.Race.Splits)/\Sl U_ 3 A0p02 c0p02 r.Race.Clocks.length (hD wAB r.Race.Clocks)/\Sl U_ 4 A0p03 c0p03 r.Race.Readings.length (hD wAA r.Race.Readings)/\MpR es0p1 wBC wBJ r.number)):=by
 unfold wBl at hm
 refine Gv.of Try.func64 Z Try.ntmps64 Try.results64 Z (sR gDw Z ?_)
 let B0:List Value:=[.slice aj p0.Starts.length an,.slice ak p0.Splits.length ao,.slice am p0.Clocks.length ap,.slice aG p0.Readings.length aH]
 refine zu (cs:=B0) rfl rfl rfl rfl rfl rfl (by rfl) hS ?_
 intro W1 b2 bz
 refine yF rfl rfl rfl rfl rfl rfl (eN (sR (wCg gDu) rfl (zY rfl rfl rfl rfl (fun _=>zG rfl rfl zK rfl ZW) (ZF rfl rfl rfl rfl (bz.ldB (j:=0) rfl rfl rfl Zm (v:=.slice aG p0.Readings.length aH) rfl) rfl (zY rfl rfl rfl rfl (fun _=>zw rfl rfl zy) (bnK hm fun x5 h6 db=>OKS.makeSliceZ (sz:=4) (enc:=wAA) (z:=(⟨0,0,0,0⟩:wAI)) (v:=jV 0) rfl rfl rfl rfl rfl (wBh zy) wHX rfl rfl rfl rfl (by decide) (by decide) rfl rfl h6 bz ?_))))))
 intro W8 b9 cw
 have aW:sW w U U [.row (some ⟨b9,0,none⟩) x5.length 39 4 (hD wAA x5),.blk b2 28 B0] W8:=cw
 refine yF rfl rfl rfl rfl rfl rfl (eN (sR (wCg (.fx 3 .nil .stop)) rfl (zo rfl rfl rfl rfl rfl rfl (zY rfl rfl rfl rfl (fun _=>zG rfl rfl zK rfl ZW) (ZF rfl rfl rfl rfl (aW.ldB (j:=1) rfl rfl rfl Zm (v:=.slice aG p0.Readings.length aH) rfl) rfl (bnK db fun aq cg c6=>OKS.copyM (j:=0) (f:=wAA) (m:=x5) (ys:=p0.Readings) (z:=aq) (a:=0) (n:=x5.length) rfl rfl rfl rfl rfl rfl zy ZP aW rfl (fun _=>rfl) (fun _=>rfl) rfl cg rfl (by simp) (.inr (by simp)) rfl (aW.srcS cS) rfl ?_))))))
 intro bL cD aY
 let B1:Res:=.row (some ⟨b9,0,none⟩) x5.length 39 4 (hD wAA aq)
 have bx:sW w U U [B1,.blk b2 28 B0] bL:=cD
 refine eN (sR (wCg (.fx 3 .nil .stop)) rfl (zo rfl rfl rfl rfl rfl (Eq.trans (b:=(.slice (some ⟨b9,0,none⟩) x5.length x5.length:Value)) (c:=(.slice (some ⟨b9,0,none⟩) aq.length x5.length:Value)) rfl (by rw [aY])) ?_))
 have dh:=bx.rowCap (j:=0) rfl (by decide) (wAE (f:=wAA) (sz:=4) (fun _=>rfl) aq)
 refine zY (v:=.slice (some ⟨b9,0,none⟩) 0 x5.length) Z Z Z Z (fun _=>ZM (Runs.slc (sz:=4) (a:=0) (b:=0) Z Z (.inr ⟨Z,Z⟩) (.inl ⟨_,Z,Z⟩) zy ZP (Int.le_refl _) (Int.le_refl _) (Int.natCast_nonneg _) dh) slc0) (oR Z (zG Z Z zK Z ZW) (zV (j:=1) (vs:=[.slice (some ⟨b9,0,none⟩) 0 x5.length]) Z Z Z Z bx Z Z Z Z ZW (zA Z) Z Z Z ?_))
 intro bM cE
 have cG:sW w U U [B1,.blk b2 28 [.slice aj p0.Starts.length an,.slice ak p0.Splits.length ao,.slice am p0.Clocks.length ap,.slice (some ⟨b9,0,none⟩) 0 x5.length]] bM:=cE
 refine eN (zL (sR fL3 rfl (zo rfl rfl rfl rfl rfl (Eq.trans (b:=(.slice (some ⟨b9,0,none⟩) x5.length x5.length:Value)) (c:=(.slice (some ⟨b9,0,none⟩) aq.length x5.length:Value)) rfl (by rw [aY])) (zY rfl rfl rfl rfl (fun _=>zw rfl rfl zy) (zo rfl rfl rfl rfl rfl rfl (eN (zd ?_)))))))
 have q:=bnd c6
 obtain ⟨⟨dC,dk⟩,cV,bE⟩:=q
 try dsimp only at bE
 have q:=wAx cV
 obtain ⟨aZ,cW⟩:=q
 replace aZ:=zN aZ
 refine CK.forN' (fun af (ae,ai) σ_ w_=>∃ (U_:PHeap),σ_ 21=jV (↑af:Int)/\σ_ 1=a9/\σ_ 2=.pointer (some ⟨b2,0,none⟩)/\σ_ 19=.slice (some ⟨b9,0,none⟩) ae.length x5.length/\σ_ 20=jV (↑aq.length:Int)/\PHeap.Le U U_/\sW w U U_ [.row (some ⟨b9,0,none⟩) x5.length 39 4 (hD wAA ae),.blk b2 28 [.slice aj p0.Starts.length an,.slice ak p0.Splits.length ao,.slice am p0.Clocks.length ap,.slice (some ⟨b9,0,none⟩) ai x5.length]] w_/\ae.length=x5.length) cW ?_ ?_ ?_
 exact ⟨U,Z,Z,Z,Z,Z,(zO _),cG,aY⟩
 rintro af ⟨ae,ai⟩ dB dD dr aX ⟨bJ,az,aT,aK,aU,aV,a7,bA,bu⟩ bF
 try dsimp only at bF
 have br:Hid ((↑af:Int) < (↑aq.length:Int)):=zN (wAs aX)
 replace aX:=zN aX
 have bD:Hid (w64 ((↑af:Int) + 1)=(↑(af + 1):Int)):=zN (by have h1:=aZ.out;have h2:=br.out;rw [wAW] <;> omega)
 refine sR fL1 Z (oR Z (zi Z az aV) (eN (zL (cT Z br (kN (zL (zd (sR (wCg (.fx 3 (.fl 4 (.fx 5 .nil .stop)) .stop)) Z (oM Z az (bnK bF fun _ bv da=>oR Z (Zh Z aU Z az zy ZP (wAT bv)) ?_))))))))))
 have cX:=wBA (xs:=ae) (wAT bv)
 let B2:List Value:=[jV ((gd ae af).Skier),jV ((gd ae af).Mat),jV ((gd ae af).Clock),jV ((gd ae af).Time)]
 refine ZF rfl rfl rfl rfl (bA.ldRA (j:=0) rfl rfl rfl rfl yc ZP (vs:=B2) (wEs (sz:=4) (fun _=>rfl) _ _ _ cX (by first | omega | rfl | simp) rfl) rfl) rfl ?_
 let B3:List Value:=[jV 0,jV 0,jV 0,jV 0]
 refine zR (cs:=B3) Z Z Z Z Z Zj Z bA ?_
 intro dt ay cH
 refine oA Z Z (zV (j:=0) (vs:=B2) Z Z Z Z cH Z Z Z Z ZP (zA Z) Z Z Z ?_)
 intro bN cI
 let B4:Res:=.blk b2 28 [.slice aj p0.Starts.length an,.slice ak p0.Splits.length ao,.slice am p0.Clocks.length ap,.slice (some ⟨b9,0,none⟩) ai x5.length]
 let B5:Res:=.row (some ⟨b9,0,none⟩) x5.length 39 4 (hD wAA ae)
 have bB:sW w U bJ [.blk ay 39 B2,B5,B4] bN:=cI
 refine eN (sR (wCg gDu) Z (oM Z aT (oM Z Z (oL Z (bB.ldBA (j:=0) Z Z Z yc ZP (vs:=B2) Z Z) (bnK da fun dA cr dd=>?_)))))
 have ct:=cU.le a7
 refine OKS.callV (a:=((↑af:Int),(gd ae af))) Z Z Z Z Z Z (zB Z (zB Z zM)) bB ct Z cr ?_
 rintro au dm dz bO bG cJ ⟨rfl,rfl⟩
 have aL:sW w U au [.blk ay 39 B2,B5,B4] bO:=cJ
 refine oR Z (Zd Z Z) (eN (ifc dd ?_ ?_))
 intro aS de
 refine ZI (nC aS.out) (Zp (ZA (zI (rR fL2 Z (oR Z (ZM (zb Z az Z) (congrArg (jV) bD.out)) (oM Z Z (zc ?_)))))))
 cases de
 exact zI ⟨rfl,⟨au,rfl,aT,aK,aU,aV,(a7.trans bG),(aL.pick [1,2] _ (by decide) rfl),bu⟩⟩
 intro aS df
 refine ZT (nF (aS.out)) (rR (wCg (.fx 3 (.fx 4 (.fl 5 (.fx 6 .nil .stop)) .stop) .stop)) Z (oR Z (zG Z aK zK Z ZW) (oL Z (aL.ldB (j:=2) Z Z Z Zm (v:=.slice (some ⟨b9,0,none⟩) ai x5.length) Z) (oL Z (aL.ldBA (j:=0) Z Z Z yc ZP (vs:=B2) Z Z) (zq (pv:=[(0,.agg B2.toArray)]) (zs:=B3) (cs:=B2) Z Z Z Z Z (wAH Z wAP) zy ZP Zj Z Z Z Z Z aL ?_)))))
 intro bQ bT cK
 let B6:Res:=.row (some ⟨bT,0,none⟩) 1 39 4 (hD wAA [(gd ae af)])
 have bC:sW w U au [B6,.blk ay 39 B2,B5,B4] bQ:=cK
 refine bnK df fun _ cu dg=>OKS.appendP (j:=2) (k:=ai) (enc:=wAA) (m:=ae) (v:=(gd ae af)) rfl rfl rfl rfl rfl Try.underlying26 wHX rfl rfl bC rfl rfl rfl (bC.srcR (j:=0) rfl (by decide) (wAE (f:=wAA) (sz:=4) (fun _=>rfl) [(gd ae af)])) (fun _=>rfl) (fun _=>rfl) cu rfl ?_
 intro bR cL
 let B7:Res:=.row (some ⟨b9,0,none⟩) x5.length 39 4 (hD wAA (nH ae ai (gd ae af)))
 have cM:sW w U au [B6,.blk ay 39 B2,B7,B4] bR:=cL
 refine oR Z (zG Z aK zK Z ZW) (zV (j:=3) (vs:=[.slice (some ⟨b9,0,none⟩) (ai + 1) x5.length]) Z Z Z Z cM Z Z Z Z ZW (zA Z) Z Z Z ?_)
 intro bS cN
 have cO:sW w U au [B6,.blk ay 39 B2,B7,.blk b2 28 [.slice aj p0.Starts.length an,.slice ak p0.Splits.length ao,.slice am p0.Clocks.length ap,.slice (some ⟨b9,0,none⟩) (ai + 1) x5.length]] bS:=cN
 refine zc (ZA (zI (rR fL2 Z (oR Z (ZM (zb Z az Z) (congrArg (jV) bD.out)) (oM Z Z (zc ?_))))))
 cases dg
 exact zI ⟨rfl,⟨au,rfl,aT,aK,(Eq.trans (b:=(.slice (some ⟨b9,0,none⟩) ae.length x5.length:Value)) (c:=(.slice (some ⟨b9,0,none⟩) ((nH ae ai (gd ae af)).length) x5.length:Value)) aU (by simp only [nB])),aV,(a7.trans bG),(cO.pick [2,3] _ (by decide) rfl),(nB.trans bu)⟩⟩
 rintro dE aQ ⟨bI,bX,du,bV,dv,bW,a5,cx,dw⟩
 have bU:Hid (¬ ((↑(((↑aq.length:Int):Int) - 0).toNat:Int) < (↑aq.length:Int))):=zN (wAc)
 refine sR fL1 Z (oR Z (zi Z bX bW) (eN (zL (cF Z bU (Zc (zm (zm (ZY (zI (sR gEg Z (bnK bE fun av bt cY=>?_)))))))))))
 obtain rfl:av.length=dk:=wLu bt
 have cy:=cx.cutRowC (enc:=wAA) (k:=0) rfl bt
 let B8:List Value:=[.slice aj p0.Starts.length an,.slice ak p0.Splits.length ao,.slice am p0.Clocks.length ap,.slice (some ⟨b9,0,none⟩) av.length x5.length]
 have bw:sW w U bI [.row (some ⟨b9,0,none⟩) x5.length 39 4 (hD wAA av),.blk b2 28 B8] aQ:=cy
 refine oL Z (bw.ldBA (j:=1) Z Z bV zg zW (vs:=B8) Z Z) ?_
 have q:=bw.freezeR (k:=0) (n:=av.length) rfl (wAE (f:=wAA) (sz:=4) (fun _=>rfl) av) (by decide)
 obtain ⟨bh,a6,di,cz⟩:=q
 have cA:sW w U bh [.blk b2 28 B8] aQ:=cz
 have bY:=cP.le a5
 have bZ:=bY.le a6
 have ca:=cQ.le a5
 have cb:=ca.le a6
 have cc:=cR.le a5
 have cd:=cc.le a6
 refine bnK cY fun ax cf cZ=>zE 0 Z Z Z Z (zD Z Z Try.call89 (zB Z zM) Z) cA (fun hs=>wFM (⟨p0.Starts,p0.Splits,p0.Clocks,av⟩:wAD) aj an ak ao am ap (some ⟨b9,0,none⟩) x5.length aQ bh hs bZ cb cd di cf) (.inr Z) ?_
 rintro bi dl dy bK dx cB ⟨bk,ba,bm,bb,bn,bc,bo,bd,bp,a8,bs,bq,aM,aR,rfl,rfl,ci,cm,cn,co,cp⟩
 have cC:sW w U bi [.blk bk 124 [.slice ba ax.Race.Starts.length bm,.slice bb ax.Race.Splits.length bn,.slice bc ax.Race.Clocks.length bo,.slice bd ax.Race.Readings.length bp,.map (some a8),.slice aM ax.edges.length aR],.obj a8 (.map bs bq),.row aM aR 130 7 (hD wAR ax.edges),.blk b2 28 B8] bK:=cB
 refine oA Z Z (eN (zU ?_))
 have hE:=nA cZ;first | subst r | cases hE
 exact ⟨rfl,_,(ZV rfl),bi,_,(cC.pick [0,1,2] _ (by decide) rfl),bk,ba,bm,bb,bn,bc,bo,bd,bp,a8,bs,bq,aM,aR,rfl,rfl,ci,cm,cn,co,cp⟩
end Go.Proofs.Ytlnfbjphfoipaaa
namespace Go.Proofs.Ytlnfbjphfoipaaa
open Go.KL
set_option maxHeartbeats 4000000
theorem wGd (p0:Int) (p1:wAI) (p2:Int) (aj:Nat) (p3:Int) (ak:Nat) (w:World) (U:PHeap) (hS:St0 w U []) (am:Cl U aj 0 [jV p2]) (an:Cl U ak 0 [jV p3]) {r:Bool} (hm:wCm p0 p1 p2 p3=some r):Gv Try.prog 66 [jV p0,.agg #[jV p1.Skier,jV p1.Mat,jV p1.Clock,jV p1.Time],.pointer (some ⟨aj,0,none⟩),.pointer (some ⟨ak,0,none⟩)] w (wBs w [] U (fun U_ L_ v=>v=.bool r/\L_=[])):=by
 unfold wCm at hm
 refine Gv.of Try.func66 rfl Try.ntmps66 Try.results66 rfl (sR gDw rfl (zu (cs:=[jV p1.Skier,jV p1.Mat,jV p1.Clock,jV p1.Time]) rfl rfl rfl rfl rfl rfl (by rfl) hS ?_))
 intro W1 b2 ac
 refine oA Z Z (eN (sR fL9 Z (oM Z Z (oL Z (ac.ldC (f:=0) am (v:=jV p2) Z Z zJ Z) (oR Z (yJ Z Z Z) (oM Z Z ?_))))))
 by_cases c5:p0=p2
 have ai:=hm;rw [if_pos c5] at ai;replace c5:=zN c5
 refine oT Z c5 (oT Z c5 (oT Z c5 (oR Z (zQ Z (Zk c5.out) Z) (oA Z Z (eN (zU ?_))))))
 have hE:=nA ai;first | subst r | cases hE
 exact ⟨rfl,_,(ZV rfl),U,_,(ac.pick [] _ (by decide) rfl),rfl,rfl⟩
 have af:=hm;rw [if_neg c5] at af;replace c5:=zN c5
 refine zo Z Z Z (wF Z c5) Z Z (ZF Z Z Z (wF Z c5) (ac.ldC (f:=0) an (v:=jV p3) Z Z zJ Z) Z (rU Z (wF Z c5) (yJ Z Z Z) (oR Z (ze Z (zt c5.out) Z) (oA Z Z (eN (zU ?_))))))
 first | (obtain rfl:=nA af) | cases af
 exact ⟨rfl,_,(ZV rfl),U,_,(ac.pick [] _ (by decide) rfl),rfl,rfl⟩
theorem wHa (p0:wAD) (aU:Option Addr) (aX:Nat) (aV:Option Addr) (aY:Nat) (aW:Option Addr) (aZ:Nat) (an:Option Addr) (ao:Nat) (w:World) (U:PHeap) (hS:St0 w U []) (bX:Sl U 1 aU aX p0.Starts.length (hD KL.encI p0.Starts)) (bY:Sl U 2 aV aY p0.Splits.length (hD wAC p0.Splits)) (bZ:Sl U 3 aW aZ p0.Clocks.length (hD wAB p0.Clocks)) (ca:Sl U 4 an ao p0.Readings.length (hD wAA p0.Readings)) {r:(List Int) × Int} (hm:wEW p0=some r):Gv Try.prog 29 [.agg #[.slice aU p0.Starts.length aX,.slice aV p0.Splits.length aY,.slice aW p0.Clocks.length aZ,.slice an p0.Readings.length ao]] w (wBs w [] U (fun U_ L_ v=>∃ (A0:Option Addr) (c0:Nat),v=.tuple #[.slice A0 r.1.length c0,jV r.2]/\L_=[.row A0 c0 3 1 (hD KL.encI r.1)])):=by
 unfold wEW at hm
 refine Gv.of Try.func29 Z Try.ntmps29 Try.results29 Z (sR gDx Z ?_)
 let B0:List Value:=[.slice aU p0.Starts.length aX,.slice aV p0.Splits.length aY,.slice aW p0.Clocks.length aZ,.slice an p0.Readings.length ao]
 refine zu (cs:=B0) rfl rfl rfl rfl rfl rfl (by rfl) hS ?_
 intro W1 b2 du
 refine oA Z Z (oA Z Z (eN (CK.scope (sR (.fl 0 (.fx 1 (wHJ (.nil)) .stop)) Z (oL Z (du.ldBA (j:=0) Z Z Z zg zW (vs:=B0) Z Z) ?_)))))
 have q:=bnd hm
 obtain ⟨⟨x5,x6⟩,h7,ba⟩:=q
 try dsimp only at ba
 refine zE 0 Z Z Z Z (zD Z Z Try.call60 (zB Z zM) Z) du (fun hs=>wDr p0 aU aX aV aY aW aZ an ao W1 U hs bX bY bZ ca h7) (.inr Z) ?_
 rintro U9 je jy bp az dq dm
 rcases x5 with _ | aq
 try dsimp only at ba
 obtain ⟨rfl,rfl⟩:=dm
 have ic:sW w U U9 [.blk b2 28 B0] bp:=dq
 refine oM Z Z (oR Z (zT Z Z (v:=.pointer none) Z) (oR Z (zT Z Z (v:=jV x6) Z) (oA Z Z (oA Z Z (eN (zL (zd (sR fL3 Z (oM Z Z (oR Z (Zg Z Z Z) (oA Z Z (eN (ifc ba ?_ ?_)))))))))))))
 intro bL iS
 refine ZI (zt (fun h=>h bL.out)) (sR gEg Z (oM Z Z ?_))
 cases iS
 intro bL iT
 refine cT Z bL (sR fL3 Z (oM Z Z (oA Z Z (oA Z Z (eN (zU (zx (za (wEe ?_)))))))))
 have ik:=ic.nilrow 3 1
 cases iT
 exact ⟨rfl,_,(wDm rfl rfl),U9,_,(ik.pick [0] _ (by decide) rfl),none,0,rfl,rfl⟩
 try dsimp only at ba
 obtain ⟨bF,cr,cS,ct,cU,cu,cV,cw,cX,ae,ag,af,bx,bK,rfl,rfl,gz,gA,gB,gC,gD⟩:=dm
 let B1:Res:=.blk bF 124 [.slice cr aq.Race.Starts.length cS,.slice ct aq.Race.Splits.length cU,.slice cu aq.Race.Clocks.length cV,.slice cw aq.Race.Readings.length cX,.map (some ae),.slice bx aq.edges.length bK]
 have dw:sW w U U9 [B1,.obj ae (.map ag af),.row bx bK 130 7 (hD wAR aq.edges),.blk b2 28 B0] bp:=dq
 refine oM Z Z (oR Z (zT Z Z (v:=.pointer (some ⟨bF,0,none⟩)) Z) (oR Z (zT Z Z (v:=jV x6) Z) (oA Z Z (oA Z Z (eN (zL (zd (sR fL3 Z (oM Z Z (oR Z (Zg Z Z Z) (oA Z Z (eN (ifc ba ?_ ?_)))))))))))))
 intro bO i3
 refine ZI (zt (fun h=>h bO.out)) (sR gEg Z (oM Z Z ?_))
 have q:=dw.freezeR (k:=2) (n:=aq.edges.length) rfl (wAE (f:=wAR) (sz:=7) (fun _=>rfl) aq.edges) (by decide)
 obtain ⟨cG,am,i8,iy⟩:=q
 have iz:sW w U cG [B1,.obj ae (.map ag af),.blk b2 28 B0] bp:=iy
 have gE:=gz.le am
 have gF:=gA.le am
 have gG:=gB.le am
 have gH:=gC.le am
 refine bnK i3 fun jG gI i4=>zE 2 Z Z Z Z (zD Z Z Try.call63 (zB Z zM) Z) iz (fun hs=>wBi aq bF cr cS ct cU cu cV cw cX ae ag af bx bK bp cG hs gE gF gG gH gD i8 gI) (.inl Z) ?_
 rintro bn jj jD dW aH iA ⟨rfl,rfl⟩
 have bU:sW w U bn [B1,.obj ae (.map ag af),.blk b2 28 B0] dW:=iA
 refine oA Z Z (eN (ifc i4 ?_ ?_))
 intro bP i5
 refine ZT (congrArg hH bP.out) (sR fL2 Z (oA Z Z (oA Z Z (eN (zU (zx (za (wEe ?_))))))))
 have iB:=bU.nilrow 3 1
 cases i5
 exact ⟨rfl,_,(wDm rfl rfl),bn,_,(iB.pick [0] _ (by decide) rfl),none,0,rfl,rfl⟩
 intro bP cg
 refine ZI (congrArg hH (hJ.2 bP.out)) (Zp (ZA (zI (sR fL1 Z (oA Z Z (eN (zL (sR fL4 Z (oR Z (zG Z Z zK Z ZW) (oL Z (bU.ldB (j:=2) Z Z Z Zm (v:=.slice an p0.Readings.length ao) Z) (oR Z (zw Z Z zy) (oM Z Z (eN (zd ?_))))))))))))))
 have q:=wCB cg
 obtain ⟨jx,bW⟩:=q
 have q:=wCA bW
 obtain ⟨cf,iK⟩:=q
 replace cf:=zN cf
 refine yX (fun ak _ σ_ w_=>∃ (U_:PHeap),σ_ 25=jV (↑ak:Int)/\σ_ 1=.pointer (some ⟨b2,0,none⟩)/\σ_ 6=.slice none 0 0/\σ_ 24=jV (↑p0.Readings.length:Int)/\PHeap.Le bn U_/\sW w U U_ [B1,.obj ae (.map ag af),.blk b2 28 B0] w_) iK ?_ ?_ ?_
 exact ⟨bn,Z,Z,Z,Z,(zO _),bU⟩
 rintro ak ⟨⟩ jJ jO jr cc ⟨dN,bS,di,eo,dk,be,iC⟩ dF iI
 try dsimp only at dF
 have db:Hid ((↑ak:Int) < (↑p0.Readings.length:Int)):=zN (wAs cc)
 replace cc:=zN cc
 have iL:Hid (w64 ((↑ak:Int) + 1)=(↑(ak + 1):Int)):=zN (by have h1:=cf.out;have h2:=db.out;rw [wAW] <;> omega)
 refine sR fL1 Z (oR Z (zi Z bS dk) (eN (zL (cT Z db (kN (zL (zd (sR gEc Z (oM Z bS (zR (cs:=[jV 0]) Z Z Z Z Z ZB Z iC ?_))))))))))
 intro jt aP iD
 let B2:List Value:=[jV (↑ak:Int)]
 refine zV (j:=0) (vs:=B2) Z Z Z Z iD Z Z Z Z zC (zA Z) Z Z Z ?_
 intro bE iE
 have dx:sW w U dN [.blk aP 3 B2,B1,.obj ae (.map ag af),.blk b2 28 B0] bE:=iE
 refine eN (sR gEo Z (oL Z (dx.ldBA (j:=3) Z Z di zg zW (vs:=B0) Z Z) ?_))
 have q:=dx.freeze (k:=0) rfl
 obtain ⟨bi,bb,aQ,gM⟩:=q
 replace aQ:=Cl.of aQ
 have gN:sW w U bi [B1,.obj ae (.map ag af),.blk b2 28 B0] bE:=gM
 replace aQ:Cl bi aP 0 B2:=aQ
 refine oR Z (Runs.mkf Z zM (zB Z zM)) ?_
 have eu:=bX.le az
 have ew:=eu.le am
 have ey:=ew.le aH
 have ez:=ey.le be
 have eA:=ez.le bb
 have eB:=bY.le az
 have eD:=eB.le am
 have eE:=eD.le aH
 have eF:=eE.le be
 have eG:=eF.le bb
 have eH:=bZ.le az
 have eI:=eH.le am
 have eJ:=eI.le aH
 have eK:=eJ.le be
 have eL:=eK.le bb
 have eM:=ca.le az
 have eO:=eM.le am
 have eQ:=eO.le aH
 have eU:=eQ.le be
 have eV:=eU.le bb
 have gK:FnOK Try.prog bi (.func (.func 65) #[] #[.pointer (some ⟨aP,0,none⟩)]) wKK wKL (fun x=>wCl x.1 x.2 (↑ak:Int)):=⟨65,[],[.pointer (some ⟨aP,0,none⟩)],rfl,Try.call65,fun U1 w1 x y vs le hs ha hm=>by obtain rfl:=ha;exact wGc x.1 x.2 (↑ak:Int) aP w1 U1 hs (aQ.le le) hm⟩
 refine bnK dF fun ap eW iM=>zE 0 Z Z Z Z (zD Z Z Try.call64 (zB Z (zB Z zM)) Z) gN (fun hs=>wCr p0 aU aX aV aY aW aZ an ao (fun x=>wCl x.1 x.2 (↑ak:Int)) (.func (.func 65) #[] #[.pointer (some ⟨aP,0,none⟩)]) bE bi hs eA eG eL eV gK eW) (.inr Z) ?_
 rintro dJ jf jz bC dG gO ⟨cJ,cn,cO,co,cP,cp,cQ,cq,cR,aT,a6,a5,bw,bI,rfl,rfl,eX,eY,eZ,e0,fb⟩
 let B3:Res:=.blk cJ 124 [.slice cn ap.Race.Starts.length cO,.slice co ap.Race.Splits.length cP,.slice cp ap.Race.Clocks.length cQ,.slice cq ap.Race.Readings.length cR,.map (some aT),.slice bw ap.edges.length bI]
 have gP:sW w U dJ [B3,.obj aT (.map a6 a5),.row bw bI 130 7 (hD wAR ap.edges),B1,.obj ae (.map ag af),.blk b2 28 B0] bC:=gO
 have q:=gP.freezeR (k:=2) (n:=ap.edges.length) rfl (wAE (f:=wAR) (sz:=7) (fun _=>rfl) ap.edges) (by decide)
 obtain ⟨cB,aR,i6,gQ⟩:=q
 have gR:sW w U cB [B3,.obj aT (.map a6 a5),B1,.obj ae (.map ag af),.blk b2 28 B0] bC:=gQ
 have fc:=eX.le aR
 have fd:=eY.le aR
 have ff:=eZ.le aR
 have fg:=e0.le aR
 refine bnK iM fun jE fh iN=>zE 2 Z Z Z Z (zD Z Z Try.call63 (zB Z zM) Z) gR (fun hs=>wBi ap cJ cn cO co cP cp cQ cq cR aT a6 a5 bw bI bC cB hs fc fd ff fg fb i6 fh) (.inl Z) ?_
 rintro bj jg jA dP dH gS ⟨rfl,rfl⟩
 have bT:sW w U bj [B3,.obj aT (.map a6 a5),B1,.obj ae (.map ag af),.blk b2 28 B0] dP:=gS
 refine eN (ifc iN ?_ ?_)
 intro bJ iO
 refine ZT (congrArg hH bJ.out) (sR gEl Z ?_)
 have fj:=aQ.le dG
 have fk:=fj.le aR
 have fm:=fk.le dH
 refine oL Z (bT.ldC (f:=0) fm (v:=jV (↑ak:Int)) Z Z zJ Z) (zq (pv:=[(0,jV (↑ak:Int))]) (zs:=[jV 0]) (cs:=B2) Z Z Z Z Z (wAH Z wAP) zH zC ZB Z Z Z Z Z bT ?_)
 intro dQ cK gT
 have gU:sW w U bj [.row (some ⟨cK,0,none⟩) 1 3 1 (hD KL.encI [(↑ak:Int)]),B3,.obj aT (.map a6 a5),B1,.obj ae (.map ag af),.blk b2 28 B0] dQ:=gT
 refine oA Z Z (oA Z Z (eN (zU (zx (za ?_)))))
 have q:=wAh iO
 obtain ⟨i9,iP,dZ⟩:=q
 have q:=wBw cg bW (iI i9 dZ)
 obtain rfl:=q
 refine za (zx (za (wEe ?_)))
 cases iP
 exact ⟨rfl,_,(wDm rfl rfl),bj,_,(gU.pick [0] _ (by decide) rfl),(some ⟨cK,0,none⟩),1,rfl,rfl⟩
 intro bJ iQ
 refine ZI (congrArg hH (hJ.2 bJ.out)) (Zp (ZA (zI (rR fL2 Z (oR Z (ZM (zb Z bS Z) (congrArg (jV) iL.out)) (oM Z Z (zc ?_)))))))
 have q:=nA iQ
 obtain rfl:=q
 exact zI ⟨rfl,_,rfl,⟨bj,rfl,di,eo,dk,((((be.trans bb).trans dG).trans aR).trans dH),(bT.pick [2,3,4] _ (by decide) rfl)⟩⟩
 rintro ⟨⟩ jK jk ⟨cC,ep,dd,ef,eg,bt,dr⟩ iF
 have bs:=wCx cg bW iF
 try dsimp only at bs
 have dX:Hid (¬ ((↑(((↑p0.Readings.length:Int):Int) - 0).toNat:Int) < (↑p0.Readings.length:Int))):=zN (wAc)
 refine sR fL1 Z (oR Z (zi Z ep eg) (eN (zL (cF Z dX (Zc (zm (zm (ZY (zI (zL (CK.label (zI (zL (sR fL4 Z (oR Z (zG Z dd zK Z ZW) (oL Z (dr.ldB (j:=2) Z Z Z Zm (v:=.slice an p0.Readings.length ao) Z) (oR Z (zw Z Z zy) (oM Z Z (eN (zd ?_))))))))))))))))))))
 have q:=wCB bs
 obtain ⟨jw,bV⟩:=q
 have q:=wCA bV
 obtain ⟨cd,iJ⟩:=q
 replace cd:=zN cd
 refine yX (fun aj _ σ_ w_=>∃ (U_:PHeap),σ_ 38=jV (↑aj:Int)/\σ_ 1=.pointer (some ⟨b2,0,none⟩)/\σ_ 6=.slice none 0 0/\σ_ 37=jV (↑p0.Readings.length:Int)/\PHeap.Le cC U_/\sW w U U_ [B1,.obj ae (.map ag af),.blk b2 28 B0] w_) iJ ?_ ?_ ?_
 exact ⟨cC,Z,dd,ef,Z,(zO _),dr⟩
 rintro aj ⟨⟩ jH jL jl cb ⟨cD,bR,eh,ej,de,bc,gV⟩ dD iG
 try dsimp only at dD
 have cW:Hid ((↑aj:Int) < (↑p0.Readings.length:Int)):=zN (wAs cb)
 replace cb:=zN cb
 have dz:Hid (w64 ((↑aj:Int) + 1)=(↑(aj + 1):Int)):=zN (by have h1:=cd.out;have h2:=cW.out;rw [wAW] <;> omega)
 refine sR fL1 Z (oR Z (zi Z bR de) (eN (zL (cT Z cW (kN (zL (zd (sR gEc Z (oM Z bR (zR (cs:=[jV 0]) Z Z Z Z Z ZB Z gV ?_))))))))))
 intro jm av gW
 let B4:List Value:=[jV (↑aj:Int)]
 refine zV (j:=0) (vs:=B4) Z Z Z Z gW Z Z Z Z zC (zA Z) Z Z Z ?_
 intro dR gX
 have dt:sW w U cD [.blk av 3 B4,B1,.obj ae (.map ag af),.blk b2 28 B0] dR:=gX
 refine eN (sR gEo Z (oL Z (dt.ldB (j:=0) Z Z Z zJ (v:=jV (↑aj:Int)) Z) (oR Z (ZM (zb Z Z Z) (congrArg (jV) dz.out)) (zR (cs:=[jV 0]) Z Z Z Z Z ZB Z dt ?_))))
 intro jo bG gY
 let B5:List Value:=[jV (↑(aj + 1):Int)]
 refine zV (j:=0) (vs:=B5) Z Z Z Z gY Z Z Z Z zC (zA Z) Z Z Z ?_
 intro cH gZ
 have g6:sW w U cD [.blk bG 3 B5,.blk av 3 B4,B1,.obj ae (.map ag af),.blk b2 28 B0] cH:=gZ
 refine eN (zd ?_)
 have q:=g6.freeze (k:=1) rfl
 obtain ⟨bk,bd,a7,g7⟩:=q
 replace a7:=Cl.of a7
 have g8:sW w U bk [.blk bG 3 B5,B1,.obj ae (.map ag af),.blk b2 28 B0] cH:=g7
 replace a7:Cl bk av 0 B4:=a7
 refine CK.iter (fun ai σ_ w_=>∃ (U_:PHeap) (ax:Nat),σ_ 1=.pointer (some ⟨b2,0,none⟩)/\σ_ 6=.slice none 0 0/\σ_ 8=.pointer (some ⟨av,0,none⟩)/\σ_ 9=.pointer (some ⟨ax,0,none⟩)/\σ_ 37=jV (↑p0.Readings.length:Int)/\σ_ 38=jV (↑aj:Int)/\PHeap.Le bk U_/\sW w U U_ [B1,.obj ae (.map ag af),.blk b2 28 B0,.blk ax 3 [jV ai]] w_) dD ?_ ?_
 exact ⟨bk,bG,eh,ej,rfl,rfl,de,bR,(zO _),(g8.pick [1,2,3,0] _ (by decide) rfl)⟩
 rintro ai jI jM cI ⟨dK,ax,bq,df,bQ,br,dg,dh,aM,a8⟩ dE dy
 refine zL (sR fL5 Z (oL Z (a8.ldB (j:=3) Z Z br zJ (v:=jV ai) Z) (oR Z (zG Z bq zK Z ZW) (oL Z (a8.ldB (j:=2) Z Z Z Zm (v:=.slice an p0.Readings.length ao) Z) (oR Z (zw Z Z zy) (oR Z (zi Z Z Z) (eN ?_)))))))
 by_cases ay:ai < (↑p0.Readings.length:Int)
 have dA:=dE;rw [if_pos ay] at dA;replace ay:=zN ay
 refine cT Z ay (kN (zL (zd (sR gEo Z (oL Z (a8.ldBA (j:=2) Z Z bq zg zW (vs:=B0) Z Z) ?_)))))
 have q:=a8.freeze (k:=3) rfl
 obtain ⟨bm,aS,aL,g9⟩:=q
 replace aL:=Cl.of aL
 have ib:sW w U bm [B1,.obj ae (.map ag af),.blk b2 28 B0] cI:=g9
 replace aL:Cl bm ax 0 [jV ai]:=aL
 refine oR Z (Runs.mkf Z zM (zB bQ (zB br zM))) ?_
 have fq:=bX.le az
 have ft:=fq.le am
 have fu:=ft.le aH
 have fw:=fu.le bt
 have fy:=fw.le bc
 have fz:=fy.le bd
 have fA:=fz.le aM
 have fB:=fA.le aS
 have fC:=bY.le az
 have fD:=fC.le am
 have fE:=fD.le aH
 have fG:=fE.le bt
 have fH:=fG.le bc
 have fI:=fH.le bd
 have fJ:=fI.le aM
 have fK:=fJ.le aS
 have fL:=bZ.le az
 have fM:=fL.le am
 have fN:=fM.le aH
 have fO:=fN.le bt
 have fP:=fO.le bc
 have fQ:=fP.le bd
 have fR:=fQ.le aM
 have fS:=fR.le aS
 have fT:=ca.le az
 have fU:=fT.le am
 have fV:=fU.le aH
 have fW:=fV.le bt
 have fY:=fW.le bc
 have fZ:=fY.le bd
 have f4:=fZ.le aM
 have f5:=f4.le aS
 have f6:=a7.le aM
 have dl:=f6.le aS
 have gL:FnOK Try.prog bm (.func (.func 66) #[] #[.pointer (some ⟨av,0,none⟩),.pointer (some ⟨ax,0,none⟩)]) wKK wKL (fun x=>wCm x.1 x.2 (↑aj:Int) ai):=⟨66,[],[.pointer (some ⟨av,0,none⟩),.pointer (some ⟨ax,0,none⟩)],rfl,Try.call66,fun U1 w1 x y vs le hs ha hm=>by obtain rfl:=ha;exact wGd x.1 x.2 (↑aj:Int) av ai ax w1 U1 hs (dl.le le) (aL.le le) hm⟩
 refine bnK dA fun au f7 iR=>zE 0 Z Z Z Z (zD Z Z Try.call64 (zB Z (zB Z zM)) Z) ib (fun hs=>wCr p0 aU aX aV aY aW aZ an ao (fun x=>wCm x.1 x.2 (↑aj:Int) ai) (.func (.func 66) #[] #[.pointer (some ⟨av,0,none⟩),.pointer (some ⟨ax,0,none⟩)]) cI bm hs fB fK fS f5 gL f7) (.inr Z) ?_
 rintro dL jh jB bD bu ie ⟨cL,cx,cY,cy,cZ,cz,c6,cA,da,aI,aK,aJ,bz,bM,rfl,rfl,f8,f9,ga,gb,ge⟩
 let B6:Res:=.blk cL 124 [.slice cx au.Race.Starts.length cY,.slice cy au.Race.Splits.length cZ,.slice cz au.Race.Clocks.length c6,.slice cA au.Race.Readings.length da,.map (some aI),.slice bz au.edges.length bM]
 have ig:sW w U dL [B6,.obj aI (.map aK aJ),.row bz bM 130 7 (hD wAR au.edges),B1,.obj ae (.map ag af),.blk b2 28 B0] bD:=ie
 have q:=ig.freezeR (k:=2) (n:=au.edges.length) rfl (wAE (f:=wAR) (sz:=7) (fun _=>rfl) au.edges) (by decide)
 obtain ⟨cE,aG,i7,ii⟩:=q
 have ij:sW w U cE [B6,.obj aI (.map aK aJ),B1,.obj ae (.map ag af),.blk b2 28 B0] bD:=ii
 have gf:=f8.le aG
 have gg:=f9.le aG
 have gh:=ga.le aG
 have gi:=gb.le aG
 refine bnK iR fun jF gj iU=>zE 2 Z Z Z Z (zD Z Z Try.call63 (zB Z zM) Z) ij (fun hs=>wBi au cL cx cY cy cZ cz c6 cA da aI aK aJ bz bM bD cE hs gf gg gh gi ge i7 gj) (.inl Z) ?_
 rintro aO ji jC dS bv il ⟨rfl,rfl⟩
 have a9:sW w U aO [B6,.obj aI (.map aK aJ),B1,.obj ae (.map ag af),.blk b2 28 B0] dS:=il
 refine eN (ifc iU ?_ ?_)
 intro bN iV
 refine ZT (congrArg hH bN.out) (sR gEn Z ?_)
 have gm:=dl.le bu
 have gp:=gm.le aG
 have gq:=gp.le bv
 refine oL Z (a9.ldC (f:=0) gq (v:=jV (↑aj:Int)) Z bQ zJ Z) ?_
 have gt:=aL.le bu
 have gu:=gt.le aG
 have gv:=gu.le bv
 refine oL Z (a9.ldC (f:=0) gv (v:=jV ai) Z br zJ Z) (zq (pv:=[(0,jV (↑aj:Int)),(1,jV ai)]) (zs:=[jV 0,jV 0]) (cs:=[jV (↑aj:Int),jV ai]) Z Z Z Z Z (wAH Z (wAH Z wAP)) zH zC ZB Z Z Z Z Z a9 ?_)
 intro dT cM im
 have io:sW w U aO [.row (some ⟨cM,0,none⟩) 2 3 1 (hD KL.encI [(↑aj:Int),ai]),B6,.obj aI (.map aK aJ),B1,.obj ae (.map ag af),.blk b2 28 B0] dT:=im
 refine oA Z Z (eN (Zc (wGq (zm ?_))))
 have q:=wAh iV
 obtain ⟨ja,iW,d7⟩:=q
 have q:=dy ja d7
 obtain rfl:=q
 refine zm (wGq (wGq (zm ?_)))
 have q:=wAh iW
 obtain ⟨jb,iX,d9⟩:=q
 have q:=wBw bs bV (iG jb d9)
 obtain rfl:=q
 refine zm (ZY (zI (zL (sR fL3 rfl (zo rfl rfl rfl rfl rfl rfl (zY rfl rfl rfl rfl (fun _=>zw rfl rfl zH) (zY rfl rfl rfl rfl (fun _=>yJ rfl rfl rfl) (eN (ZI (zt (by decide)) (kN (sR fL3 rfl (zo rfl rfl rfl rfl rfl rfl (yF rfl rfl rfl rfl rfl rfl (yF rfl rfl rfl rfl rfl rfl (eN (zU (wEe ?_)))))))))))))))))
 cases iX
 exact ⟨rfl,_,(wDm rfl rfl),aO,_,(io.pick [0] _ (by decide) rfl),(some ⟨cM,0,none⟩),2,rfl,rfl⟩
 intro bN iY
 refine ZI (congrArg hH (hJ.2 bN.out)) (Zp (ZA (zI (zL (sR fL1 Z ?_)))))
 have gw:=aL.le bu
 have gx:=gw.le aG
 have gy:=gx.le bv
 refine oL Z (a9.ldC (f:=0) gy (v:=jV ai) Z br zJ Z) (eN (rR gDq Z (zR (cs:=[jV 0]) Z Z Z Z Z ZB Z a9 ?_)))
 intro jp bH ip
 refine zV (j:=0) (vs:=[jV ai]) Z Z Z Z ip Z Z Z Z zC (zA Z) Z Z Z ?_
 intro dU iq
 have dv:sW w U aO [.blk bH 3 [jV ai],B6,.obj aI (.map aK aJ),B1,.obj ae (.map ag af),.blk b2 28 B0] dU:=iq
 refine eN (rR gEi Z (oL Z (dv.ldB (j:=0) Z Z Z zJ (v:=jV ai) Z) (oR Z (zb Z Z Z) (zV (j:=0) (vs:=[jV (w64 (ai + 1))]) Z Z Z Z dv Z Z Z Z zC (zA Z) Z Z Z ?_))))
 intro dV ir
 have it:sW w U aO [.blk bH 3 [jV (w64 (ai + 1))],B6,.obj aI (.map aK aJ),B1,.obj ae (.map ag af),.blk b2 28 B0] dV:=ir
 refine zc ?_
 have q:=nA iY
 obtain rfl:=q
 exact zI ⟨rfl,_,rfl,⟨aO,bH,bq,df,bQ,rfl,dg,dh,((((aM.trans aS).trans bu).trans aG).trans bv),(it.pick [3,4,5,0] _ (by decide) rfl)⟩⟩
 have dB:=dE;rw [if_neg ay] at dB;replace ay:=zN ay
 refine cF Z ay (Zc (zm ?_))
 have q:=wAh dB
 obtain ⟨jc,iZ,ec⟩:=q
 have q:=dy jc ec
 obtain rfl:=q
 refine zm (ZY (ZA (zI (rR fL2 Z (oR Z (ZM (zb Z dh Z) (congrArg (jV) dz.out)) (oM Z Z (zc ?_)))))))
 have q:=nA iZ
 obtain rfl:=q
 exact zI ⟨rfl,_,rfl,⟨dK,rfl,bq,df,dg,((bc.trans bd).trans aM),(a8.pick [0,1,2] _ (by decide) rfl)⟩⟩
 rintro ⟨⟩ jN jq ⟨dM,er,ju,ek,en,jv,iu⟩ iH
 have dC:=wCx bs bV iH
 try dsimp only at dC
 have dY:Hid (¬ ((↑(((↑p0.Readings.length:Int):Int) - 0).toNat:Int) < (↑p0.Readings.length:Int))):=zN (wAc)
 refine sR fL1 rfl (zY rfl rfl rfl rfl (fun _=>zi rfl er en) (eN (zL (cF Z dY (Zc (zm (zm (ZY (zI (zL (sR fL3 rfl (zo rfl rfl rfl rfl rfl ek (zY rfl rfl rfl rfl (fun _=>zw rfl rfl zH) (zY rfl rfl rfl rfl (fun _=>yJ rfl rfl rfl) (eN (ZT (Zk (by decide)) (sR fL2 rfl (yF rfl rfl rfl rfl rfl rfl (yF rfl rfl rfl rfl rfl rfl (eN (zU (za (wEe ?_)))))))))))))))))))))))
 have iv:=iu.nilrow 3 1
 cases dC
 exact ⟨rfl,_,(wDm rfl rfl),dM,_,(iv.pick [0] _ (by decide) rfl),none,0,rfl,rfl⟩
 intro bO i2
 refine cT Z bO (sR fL3 Z (oM Z Z (oA Z Z (oA Z Z (eN (zU (zx (za (wEe ?_)))))))))
 have iw:=dw.nilrow 3 1
 cases i2
 exact ⟨rfl,_,(wDm rfl rfl),U9,_,(iw.pick [0] _ (by decide) rfl),none,0,rfl,rfl⟩
theorem wGe (p0:Int) (p1:wAI) (p2:Int) (af:Nat) (w:World) (U:PHeap) (hS:St0 w U []) (ag:Cl U af 0 [jV p2]) {r:Bool} (hm:wCn p0 p1 p2=some r):Gv Try.prog 67 [jV p0,.agg #[jV p1.Skier,jV p1.Mat,jV p1.Clock,jV p1.Time],.pointer (some ⟨af,0,none⟩)] w (wBs w [] U (fun U_ L_ v=>v=.bool r/\L_=[])):=by
 unfold wCn at hm
 refine Gv.of Try.func67 rfl Try.ntmps67 Try.results67 rfl (sR gDw rfl (zu (cs:=[jV p1.Skier,jV p1.Mat,jV p1.Clock,jV p1.Time]) rfl rfl rfl rfl rfl rfl (by rfl) hS ?_))
 intro W1 b2 ab
 refine oA Z Z (eN (sR fL5 Z (oR Z (zG Z Z ZC Z zC) (oL Z (ab.ldB (j:=0) Z Z Z zJ (v:=jV p1.Skier) Z) (oL Z (ab.ldC (f:=0) ag (v:=jV p2) Z Z zJ Z) (oR Z (yJ Z Z Z) (oA Z Z (eN (zU ?_)))))))))
 first | (obtain rfl:=nA hm) | cases hm
 exact ⟨rfl,_,(ZV rfl),U,_,(ab.pick [] _ (by decide) rfl),rfl,rfl⟩
theorem wHb (p0:wAD) (aG:Option Addr) (aH:Nat) (aO:Option Addr) (aR:Nat) (aP:Option Addr) (aS:Nat) (aQ:Option Addr) (aT:Nat) (w:World) (U:PHeap) (hS:St0 w U []) (bY:Sl U 1 aG aH p0.Starts.length (hD KL.encI p0.Starts)) (bZ:Sl U 2 aO aR p0.Splits.length (hD wAC p0.Splits)) (ca:Sl U 3 aP aS p0.Clocks.length (hD wAB p0.Clocks)) (cb:Sl U 4 aQ aT p0.Readings.length (hD wAA p0.Readings)) {r:(List Int) × Int} (hm:wEX p0=some r):Gv Try.prog 30 [.agg #[.slice aG p0.Starts.length aH,.slice aO p0.Splits.length aR,.slice aP p0.Clocks.length aS,.slice aQ p0.Readings.length aT]] w (wBs w [] U (fun U_ L_ v=>∃ (A0:Option Addr) (c0:Nat),v=.tuple #[.slice A0 r.1.length c0,jV r.2]/\L_=[.row A0 c0 3 1 (hD KL.encI r.1)])):=by
 unfold wEX at hm
 refine Gv.of Try.func30 Z Try.ntmps30 Try.results30 Z (sR gDx Z ?_)
 let B0:List Value:=[.slice aG p0.Starts.length aH,.slice aO p0.Splits.length aR,.slice aP p0.Clocks.length aS,.slice aQ p0.Readings.length aT]
 refine zu (cs:=B0) rfl rfl rfl rfl rfl rfl (by rfl) hS ?_
 intro W1 b2 bW
 refine oA Z Z (oA Z Z (eN (sR (.fl 0 (.fx 1 (wHJ (.nil)) .stop)) Z (oL Z (bW.ldBA (j:=0) Z Z Z zg zW (vs:=B0) Z Z) ?_))))
 have q:=bnd hm
 obtain ⟨⟨x5,x6⟩,h7,aM⟩:=q
 try dsimp only at aM
 refine zE 0 Z Z Z Z (zD Z Z Try.call60 (zB Z zM) Z) bW (fun hs=>wDr p0 aG aH aO aR aP aS aQ aT W1 U hs bY bZ ca cb h7) (.inr Z) ?_
 rintro U9 eF eQ aY a5 bU bS
 rcases x5 with _ | ak
 try dsimp only at aM
 obtain ⟨rfl,rfl⟩:=bS
 have dT:sW w U U9 [.blk b2 28 B0] aY:=bU
 refine oM Z Z (oR Z (zT Z Z (v:=.pointer none) Z) (oR Z (zT Z Z (v:=jV x6) Z) (oA Z Z (oA Z Z (eN (zL (zd (sR fL3 Z (oM Z Z (oR Z (Zg Z Z Z) (oA Z Z (eN (ifc aM ?_ ?_)))))))))))))
 intro bf en
 refine ZI (zt (fun h=>h bf.out)) (sR gEg Z (oM Z Z ?_))
 cases en
 intro bf eo
 refine cT Z bf (sR fL3 Z (oM Z Z (oA Z Z (oA Z Z (eN (zU (zx (za ?_))))))))
 have dU:=dT.nilrow 3 1
 cases eo
 exact ⟨rfl,_,(wDm rfl rfl),U9,_,(dU.pick [0] _ (by decide) rfl),none,0,rfl,rfl⟩
 try dsimp only at aM
 obtain ⟨bb,bv,bM,bx,bN,bz,bO,bB,bQ,af,ah,ag,a8,be,rfl,rfl,dr,dt,du,dv,dw⟩:=bS
 let B1:Res:=.blk bb 124 [.slice bv ak.Race.Starts.length bM,.slice bx ak.Race.Splits.length bN,.slice bz ak.Race.Clocks.length bO,.slice bB ak.Race.Readings.length bQ,.map (some af),.slice a8 ak.edges.length be]
 have bX:sW w U U9 [B1,.obj af (.map ah ag),.row a8 be 130 7 (hD wAR ak.edges),.blk b2 28 B0] aY:=bU
 refine oM Z Z (oR Z (zT Z Z (v:=.pointer (some ⟨bb,0,none⟩)) Z) (oR Z (zT Z Z (v:=jV x6) Z) (oA Z Z (oA Z Z (eN (zL (zd (sR fL3 Z (oM Z Z (oR Z (Zg Z Z Z) (oA Z Z (eN (ifc aM ?_ ?_)))))))))))))
 intro bg ep
 refine ZI (zt (fun h=>h bg.out)) (sR gEg Z (oM Z Z ?_))
 have q:=bX.freezeR (k:=2) (n:=ak.edges.length) rfl (wAE (f:=wAR) (sz:=7) (fun _=>rfl) ak.edges) (by decide)
 obtain ⟨bE,am,eA,dV⟩:=q
 have dW:sW w U bE [B1,.obj af (.map ah ag),.blk b2 28 B0] aY:=dV
 have dx:=dr.le am
 have dy:=dt.le am
 have dz:=du.le am
 have dA:=dv.le am
 refine bnK ep fun eY dB er=>zE 2 Z Z Z Z (zD Z Z Try.call63 (zB Z zM) Z) dW (fun hs=>wBi ak bb bv bM bx bN bz bO bB bQ af ah ag a8 be aY bE hs dx dy dz dA dw eA dB) (.inl Z) ?_
 rintro aW eI eW cu a6 dX ⟨rfl,rfl⟩
 have bm:sW w U aW [B1,.obj af (.map ah ag),.blk b2 28 B0] cu:=dX
 refine oA Z Z (eN (ifc er ?_ ?_))
 intro bh eu
 refine ZT (congrArg hH bh.out) (sR fL2 Z (oA Z Z (oA Z Z (eN (zU (zx (za ?_)))))))
 have dY:=bm.nilrow 3 1
 cases eu
 exact ⟨rfl,_,(wDm rfl rfl),aW,_,(dY.pick [0] _ (by decide) rfl),none,0,rfl,rfl⟩
 intro bh ew
 refine ZI (congrArg hH (hJ.2 bh.out)) (Zp (ZA (zI (sR fL1 Z (oA Z Z (eN (zL (sR fL4 Z (oR Z (zG Z Z zK Z ZD) (oL Z (bm.ldB (j:=2) Z Z Z ZL (v:=.slice aG p0.Starts.length aH) Z) (oR Z (zw Z Z zH) (oM Z Z (eN (zd (bnK ew fun e0 d7 ey=>?_)))))))))))))))
 have q:=wAx d7
 obtain ⟨bo,d9⟩:=q
 replace bo:=zN bo
 refine CK.forN' (fun ac aN σ_ w_=>∃ (U_:PHeap) (aI:Option Addr) (aL:Nat),σ_ 24=jV (↑ac:Int)/\σ_ 1=.pointer (some ⟨b2,0,none⟩)/\σ_ 6=.slice aI aN.length aL/\σ_ 23=jV (↑p0.Starts.length:Int)/\PHeap.Le aW U_/\sW w U U_ [B1,.obj af (.map ah ag),.blk b2 28 B0,.row aI aL 3 1 (hD KL.encI aN)] w_) d9 ?_ ?_ ?_
 have dZ:=bm.nilrow 3 1
 exact ⟨aW,none,0,rfl,rfl,rfl,rfl,(zO _),(dZ.pick [1,2,3,0] _ (by decide) rfl)⟩
 rintro ac aN eZ fc eL bn ⟨cm,aI,aL,aZ,bi,bR,bj,ay,dE⟩ eB
 have bH:Hid ((↑ac:Int) < (↑p0.Starts.length:Int)):=zN (wAs bn)
 replace bn:=zN bn
 have cc:Hid (w64 ((↑ac:Int) + 1)=(↑(ac + 1):Int)):=zN (by have h1:=bo.out;have h2:=bH.out;rw [wAW] <;> omega)
 refine sR fL1 Z (oR Z (zi Z aZ bj) (eN (zL (cT Z bH (kN (zL (zd (sR gEc Z (oM Z aZ (zR (cs:=[jV 0]) Z Z Z Z Z ZB Z dE ?_))))))))))
 intro eJ aq dF
 let B2:List Value:=[jV (↑ac:Int)]
 refine zV (j:=0) (vs:=B2) Z Z Z Z dF Z Z Z Z zC (zA Z) Z Z Z ?_
 intro a9 dG
 let B3:Res:=.row aI aL 3 1 (hD KL.encI aN)
 have bT:sW w U cm [.blk aq 3 B2,B1,.obj af (.map ah ag),.blk b2 28 B0,B3] a9:=dG
 refine eN (sR gEt Z (oL Z (bT.ldBA (j:=3) Z Z bi zg zW (vs:=B0) Z Z) ?_))
 have q:=bT.freeze (k:=0) rfl
 obtain ⟨aV,az,ax,dH⟩:=q
 replace ax:=Cl.of ax
 have dI:sW w U aV [B1,.obj af (.map ah ag),.blk b2 28 B0,B3] a9:=dH
 replace ax:Cl aV aq 0 B2:=ax
 refine oR Z (Runs.mkf Z zM (zB Z zM)) ?_
 have cC:=bY.le a5
 have cD:=cC.le am
 have cE:=cD.le a6
 have cG:=cE.le ay
 have cH:=cG.le az
 have cI:=bZ.le a5
 have cJ:=cI.le am
 have cK:=cJ.le a6
 have cL:=cK.le ay
 have cM:=cL.le az
 have cN:=ca.le a5
 have cO:=cN.le am
 have cP:=cO.le a6
 have cQ:=cP.le ay
 have cR:=cQ.le az
 have cS:=cb.le a5
 have cU:=cS.le am
 have cV:=cU.le a6
 have cW:=cV.le ay
 have cX:=cW.le az
 have dD:FnOK Try.prog aV (.func (.func 67) #[] #[.pointer (some ⟨aq,0,none⟩)]) wKK wKL (fun x=>wCn x.1 x.2 (↑ac:Int)):=⟨67,[],[.pointer (some ⟨aq,0,none⟩)],rfl,Try.call67,fun U1 w1 x y vs le hs ha hm=>by obtain rfl:=ha;exact wGe x.1 x.2 (↑ac:Int) aq w1 U1 hs (ax.le le) hm⟩
 refine bnK eB fun aj cY ec=>zE 0 Z Z Z Z (zD Z Z Try.call64 (zB Z (zB Z zM)) Z) dI (fun hs=>wCr p0 aG aH aO aR aP aS aQ aT (fun x=>wCn x.1 x.2 (↑ac:Int)) (.func (.func 67) #[] #[.pointer (some ⟨aq,0,none⟩)]) a9 aV hs cH cM cR cX dD cY) (.inr Z) ?_
 rintro cn eG eU ba bp dJ ⟨bF,bs,bI,bt,bJ,bu,bK,bw,bL,ao,av,au,a7,bc,rfl,rfl,cZ,c6,da,db,dd⟩
 let B4:Res:=.blk bF 124 [.slice bs aj.Race.Starts.length bI,.slice bt aj.Race.Splits.length bJ,.slice bu aj.Race.Clocks.length bK,.slice bw aj.Race.Readings.length bL,.map (some ao),.slice a7 aj.edges.length bc]
 have dK:sW w U cn [B4,.obj ao (.map av au),.row a7 bc 130 7 (hD wAR aj.edges),B1,.obj af (.map ah ag),.blk b2 28 B0,B3] ba:=dJ
 refine oR Z (Runs.mkf Z (zB Z zM) zM) (oA Z Z (eN (sR gDt Z (oM Z Z ?_))))
 have q:=dK.freezeR (k:=2) (n:=aj.edges.length) rfl (wAE (f:=wAR) (sz:=7) (fun _=>rfl) aj.edges) (by decide)
 obtain ⟨bD,an,ez,dL⟩:=q
 have dM:sW w U bD [B4,.obj ao (.map av au),B1,.obj af (.map ah ag),.blk b2 28 B0,B3] ba:=dL
 have de:=cZ.le an
 have df:=c6.le an
 have dg:=da.le an
 have dh:=db.le an
 refine bnK ec fun eX di ef=>zE 2 Z Z Z Z (zD Z Z Try.call63 zM Z) dM (fun hs=>wBi aj bF bs bI bt bJ bu bK bw bL ao av au a7 bc ba bD hs de df dg dh dd ez di) (.inl Z) ?_
 rintro aK eH eV cq bq dN ⟨rfl,rfl⟩
 have bk:sW w U aK [B4,.obj ao (.map av au),B1,.obj af (.map ah ag),.blk b2 28 B0,B3] cq:=dN
 refine eN (ifc ef ?_ ?_)
 intro bd eg
 refine ZT (congrArg hH bd.out) (rR gEs Z (oM Z bR ?_))
 have dk:=ax.le bp
 have dl:=dk.le an
 have dm:=dl.le bq
 refine oL Z (bk.ldC (f:=0) dm (v:=jV (↑ac:Int)) Z Z zJ Z) (zq (pv:=[(0,jV (↑ac:Int))]) (zs:=[jV 0]) (cs:=B2) Z Z Z Z Z (wAH Z wAP) zH zC ZB Z Z Z Z Z bk ?_)
 intro cr cw dO
 let B5:Res:=.row (some ⟨cw,0,none⟩) 1 3 1 (hD KL.encI [(↑ac:Int)])
 have bV:sW w U aK [B5,B4,.obj ao (.map av au),B1,.obj af (.map ah ag),.blk b2 28 B0,B3] cr:=dO
 refine bnK eg fun cd dq eh=>Zw (j:=6) (enc:=KL.encI) (xs:=aN) (ys:=[(↑ac:Int)]) (zs:=cd) rfl rfl rfl rfl rfl ya wGx rfl rfl rfl rfl rfl rfl bV rfl rfl rfl (bV.srcR (j:=0) rfl (by decide) (wAE (f:=KL.encI) (sz:=1) (fun _=>rfl) [(↑ac:Int)])) (fun _=>rfl) (fun _=>rfl) dq rfl ?_
 intro bA bP ct dP
 have dQ:sW w U aK [B5,B4,.obj ao (.map av au),B1,.obj af (.map ah ag),.blk b2 28 B0,.row bA bP 3 1 (hD KL.encI cd)] ct:=dP
 refine oA Z Z (zc (ZA (zI (rR fL2 Z (oR Z (ZM (zb Z aZ Z) (congrArg (jV) cc.out)) (oM Z Z (zc ?_)))))))
 cases eh
 exact zI ⟨rfl,⟨aK,bA,bP,rfl,bi,rfl,bj,((((ay.trans az).trans bp).trans an).trans bq),(dQ.pick [3,4,5,6] _ (by decide) rfl)⟩⟩
 intro bd ej
 refine ZI (congrArg hH (hJ.2 bd.out)) (Zp (ZA (zI (rR fL2 Z (oR Z (ZM (zb Z aZ Z) (congrArg (jV) cc.out)) (oM Z Z (zc ?_)))))))
 cases ej
 exact zI ⟨rfl,⟨aK,aI,aL,rfl,bi,bR,bj,((((ay.trans az).trans bp).trans an).trans bq),(bk.pick [2,3,4,5] _ (by decide) rfl)⟩⟩
 rintro fb eK ⟨co,cg,cx,cB,eM,cz,cA,eO,dR⟩
 have cy:Hid (¬ ((↑(((↑p0.Starts.length:Int):Int) - 0).toNat:Int) < (↑p0.Starts.length:Int))):=zN (wAc)
 refine sR fL1 Z (oR Z (zi Z cB cA) (eN (zL (cF Z cy (Zc (zm (zm (ZY (zI (sR fL3 Z (oM Z cz (oA Z Z (oA Z Z (eN (zU ?_)))))))))))))))
 cases ey
 exact ⟨rfl,_,(wDm rfl rfl),co,_,(dR.pick [3] _ (by decide) rfl),cg,cx,rfl,rfl⟩
 intro bg ek
 refine cT Z bg (sR fL3 Z (oM Z Z (oA Z Z (oA Z Z (eN (zU (zx (za ?_))))))))
 have dS:=bX.nilrow 3 1
 cases ek
 exact ⟨rfl,_,(wDm rfl rfl),U9,_,(dS.pick [0] _ (by decide) rfl),none,0,rfl,rfl⟩
end Go.Proofs.Ytlnfbjphfoipaaa
