import Derived.Test.YtlnfbjphfoipaaaGreatR7
import Derived.Test.YtlnfbjphfoipaaaGreatR6
import Derived.Test.YtlnfbjphfoipaaaGreatR8
set_option linter.all false
open List renaming flatMap->hH
open Go.Value renaming bool->nA
open Option.some renaming inj->nB
open Bool renaming eq_false_iff->nD
namespace Go.Proofs.YtlnfbjphfoipaaaGreat
open Go.KL
def gDe:Sch:=.fx 0 (.fl 1 .nil) .stop
def gDf:Sch:=.fx 1 (.fl 2 .nil) .stop
def gDg:Sch:=.fl 0 (.fx 1 .nil .stop)
def gDh:Sch:=.fx 2 (.fl 3 .nil) .stop
def gDi:Sch:=.fx 6 (.fl 7 .nil) .stop
def gDj:Sch:=.fx 3 (.fl 4 .nil) .stop
def gDk:Sch:=.fx 5 (.fl 6 .nil) .stop
def gDl:Sch:=.fx 14 (.fl 15 .nil) .stop
def gDm:Sch:=.fx 6 (.fx 7 .nil .stop) .stop
def gDn:Sch:=.fx 7 (.fl 8 .nil) .stop
def gDo:Sch:=.fl 0 gDf
def gDp:Sch:=.fx 0 gDf .stop
def gDq:Sch:=.fx 5 (.fl 6 (.fl 7 .nil)) .stop
def gDr:Sch:=.fx 2 gDj .stop
def gDs:Sch:=.fx 14 (.fl 15 (.fl 16 .nil)) .stop
def gDt:Sch:=.fx 5 gDm .stop
def gDu:Sch:=.fx 4 gDm .stop
def gDv:Sch:=.fx 3 gDm .stop
def gDw:Sch:=.fx 6 gDn .stop
def gDx:Sch:=.fx 0 (.fx 1 gDh .stop) .stop
def gDy:Sch:=.fl 0 (.fl 1 gDh)
def gDz:Sch:=.fx 13 gDs .stop
def gEa:Sch:=.fx 1 gDv .stop
def gEb:Sch:=.fx 0 (.fx 1 gDr .stop) .stop
def gEc:Sch:=.fx 3 gDt (.fx 5 gDv .stop)
def gEd:Sch:=.fx 3 gDu (.fx 4 gDv .stop)
def gEe:Sch:=.fl 0 (.fl 1 (.fx 2 (.fx 3 (.fx 4 gDk .stop) .stop) .stop))
def gEf:Sch:=.fl 0 (.fl 1 (.fx 2 (.fl 3 (.fx 4 (.fl 5 (.fl 6 .nil)) .stop)) .stop))
def gEg:Sch:=.fl 0 (.fl 1 (.fl 3 (.fx 2 (.fx 4 (.fx 5 gDi .stop) .stop) .stop)))
set_option maxHeartbeats 4000000
theorem wED (p0:wAJ) (ak:Option Addr) (au:Nat) (am:Option Addr) (av:Nat) (ap:Option Addr) (az:Nat) (aq:Option Addr) (aQ:Nat) (w:World) (U:PHeap) (hS:St0 w U []) (bL:Sl U 1 ak au p0.Starts.length (hH KL.encI p0.Starts)) (bM:Sl U 2 am av p0.Splits.length (hH wAB p0.Splits)) (bN:Sl U 3 ap az p0.Clocks.length (hH wAF p0.Clocks)) (bO:Sl U 4 aq aQ p0.Readings.length (hH wAE p0.Readings)) {r:Bool} (hm:wBZ p0=some r):Gv Tryz.prog 72 [.agg #[.slice ak p0.Starts.length au,.slice am p0.Splits.length av,.slice ap p0.Clocks.length az,.slice aq p0.Readings.length aQ]] w (wCq w [] U (fun U_ L_ v=>v=.bool r/\L_=[])):=by
 unfold wBZ at hm
 refine Gv.of Tryz.func72 Z Tryz.ntmps72 Tryz.results72 Z (sR gDe Z ?_)
 let B0:List Value:=[.slice ak p0.Starts.length au,.slice am p0.Splits.length av,.slice ap p0.Clocks.length az,.slice aq p0.Readings.length aQ]
 refine zy (cs:=B0) rfl rfl rfl rfl rfl rfl (by rfl) hS ?_
 intro W1 b2 bi
 refine oA Z Z (eN (sR gDo Z (oL Z (bi.ldBA (j:=0) Z Z Z ZS ZH (vs:=B0) Z Z) (bnK hm fun x5 h6 a0=>zG 0 Z Z Z Z (zH Z Z Tryz.call67 (zB Z zM) Z) bi (fun hs=>wCV p0 ak au am av ap az aq aQ W1 U hs bL bM bN bO h6) (.inr Z) ?_))))
 rintro U8 L9 cr bb cj bG ⟨ba,bd,bf,rfl,rfl⟩
 have bH:sW w U U8 [.row ba bd 22 1 (hH wEf bf),inn 3 1 KL.encI bf x5,.blk b2 36 B0] bb:=bG
 have q:=St.freezeN (R:=wMD) bH (fun _ _ _ _ h=>⟨_,_,rfl,h⟩) (fun _=>rfl) (by decide) rfl
 obtain ⟨aR,cm,bZ,bI⟩:=q
 have bJ:sW w U aR [.blk b2 36 B0] bb:=bI
 refine oA Z Z (eN (zJ (sR fL1 Z (oA Z Z (eN (zd ?_))))))
 have q:=wCQ a0
 obtain ⟨cq,aX⟩:=q
 have q:=wCP aX
 obtain ⟨aZ,bR⟩:=q
 replace aZ:=zL aZ
 refine yP (fun ab _ σ_ w_=>∃ (U_:PHeap),σ_ 4=jV (↑ab:Int)/\σ_ 3=.slice ba x5.length bd/\PHeap.Le aR U_/\sW w U U_ [.blk b2 36 B0] w_) bR ?_ ?_ ?_
 exact ⟨aR,Z,Z,(zQ _),bJ⟩
 rintro ab ⟨⟩ cu cw cd aY ⟨aS,ai,aV,bm,aj⟩ bk bP
 try dsimp only at bk
 have be:Hid ((↑ab:Int) < (↑x5.length:Int)):=zL (wBm aY)
 replace aY:=zL aY
 have bS:Hid (w64 ((↑ab:Int) + 1)=(↑(ab + 1):Int)):=zL (by have h1:=aZ.out;have h2:=be.out;rw [wAZ] <;> omega)
 refine zJ (sR fL4 Z (oM Z ai (oM Z aV (oR Z (zi Z Z zZ) (oR Z (zf Z Z Z) (eN (cT Z be (kN (zJ (zd (sR fL8 Z (oM Z aV (oM Z ai (bnK bk fun x44 bg bT=>?_))))))))))))))
 have bA:=bZ.le bm
 have q:=bA.el (wAR bg)
 obtain ⟨bs,b5,ct,bD,aW,bY⟩:=q
 obtain ⟨bn,bo,rfl,bB⟩:=bY
 replace aW:Cl aS bs (b5 + ab * 1) [.slice bn x44.length bo]:=aW
 refine oR Z (ZP Z Z bD Z zZ zW (wBi bg)) (oL Z (aj.ldC (f:=0) aW (v:=.slice bn x44.length bo) Z Z zX Z) (oM Z ai (bnK bT fun x57 bh bU=>?_)))
 have q:=bB.el (fun _=>rfl) (wAR bh)
 obtain ⟨cg,cp,bE,bF⟩:=q
 refine oR Z (ZP Z Z bE Z zD zC (wBi bh)) (oL Z (aj.ldC (f:=0) bF (v:=jV x57) Z Z zF Z) (oR Z (zf Z Z Z) (eN (ifc bU ?_ ?_))))
 intro aU bV
 refine cT Z aU (sR fL1 Z (oA Z Z (eN (zP (zg (zN ?_))))))
 have q:=wAa bV
 obtain ⟨b9,bW,bv⟩:=q
 obtain rfl:=wCK a0 aX (bP b9 bv)
 refine zN (zg (zN ?_))
 have hE:=nB bW;first | subst r | cases hE
 exact ⟨rfl,_,(ZL rfl),aS,_,(aj.pick [] _ (by decide) rfl),rfl,rfl⟩
 intro aU bX
 refine cF Z aU (Zr (ZE (zK (rR fL3 Z (oM Z ai (oR Z (Zd (zj Z Z Z) (congrArg (jV) bS.out)) (oA Z Z (zw ?_))))))))
 obtain rfl:=nB bX
 exact zK ⟨Z,_,Z,⟨aS,Z,aV,bm,aj⟩⟩
 rintro ⟨⟩ cx cf ⟨bp,bz,bw,cn,bK⟩ bQ
 have bj:=wDE a0 aX bQ
 try dsimp only at bj
 have bu:Hid (¬ ((↑(((↑x5.length:Int):Int) - 0).toNat:Int) < (↑x5.length:Int))):=zL (wBB)
 refine zJ (sR fL4 Z (oM Z bz (oM Z bw (oR Z (zi Z Z zZ) (oR Z (zf Z Z Z) (eN (cF Z bu (Zf (zo (zo (ZX (zK (sR fL1 Z (oA Z Z (eN (zP ?_))))))))))))))))
 have hE:=nB bj;first | subst r | cases hE
 exact ⟨rfl,_,(ZL rfl),bp,_,(bK.pick [] _ (by decide) rfl),rfl,rfl⟩
theorem wFP (p0:wAJ) (ae:Option Addr) (ak:Nat) (ah:Option Addr) (am:Nat) (ai:Option Addr) (ap:Nat) (aj:Option Addr) (aq:Nat) (w:World) (U:PHeap) (hS:St0 w U []) (aX:Sl U 1 ae ak p0.Starts.length (hH KL.encI p0.Starts)) (aY:Sl U 2 ah am p0.Splits.length (hH wAB p0.Splits)) (aZ:Sl U 3 ai ap p0.Clocks.length (hH wAF p0.Clocks)) (a0:Sl U 4 aj aq p0.Readings.length (hH wAE p0.Readings)) {r:Int} (hm:wBk p0=some r):Gv Tryz.prog 38 [.agg #[.slice ae p0.Starts.length ak,.slice ah p0.Splits.length am,.slice ai p0.Clocks.length ap,.slice aj p0.Readings.length aq]] w (wCq w [] U (fun U_ L_ v=>v=jV r/\L_=[])):=by
 unfold wBk at hm
 refine Gv.of Tryz.func38 Z Tryz.ntmps38 Tryz.results38 Z (sR gDe Z ?_)
 let B0:List Value:=[.slice ae p0.Starts.length ak,.slice ah p0.Splits.length am,.slice ai p0.Clocks.length ap,.slice aj p0.Readings.length aq]
 refine zy (cs:=B0) rfl rfl rfl rfl rfl rfl (by rfl) hS ?_
 intro W1 b2 aV
 refine oA Z Z (eN (zJ (sR gDo Z (oL Z (aV.ldBA (j:=0) Z Z Z ZS ZH (vs:=B0) Z Z) (bnK hm fun x5 h6 br=>zG 0 Z Z Z Z (zH Z Z Tryz.call34 (zB Z zM) Z) aV (fun hs=>wCU p0 ae ak ah am ai ap aj aq W1 U hs aX aY aZ a0 h6) (.inr Z) ?_)))))
 rintro U8 L9 bw aT au bj ⟨rfl,rfl⟩
 have aS:sW w U U8 [.blk b2 36 B0] aT:=bj
 refine oA Z Z (eN (sR fL2 Z (oM Z Z (oR Z (Zo Z Z Z) (eN (ifc br ?_ ?_))))))
 intro aQ bm
 refine zr (Za (fun h=>h aQ.out)) (kN (zJ (sR gDg Z (oL Z (aS.ldBA (j:=0) Z Z Z ZS ZH (vs:=B0) Z Z) ?_))))
 have bd:=aX.le au
 have be:=aY.le au
 have bf:=aZ.le au
 have bg:=a0.le au
 refine bnK bm fun bA bh bn=>zG 0 Z Z Z Z (zH Z Z Tryz.call72 (zB Z zM) Z) aS (fun hs=>wED p0 ae ak ah am ai ap aj aq aT U8 hs bd be bf bg bh) (.inr Z) ?_
 rintro av bs bz bb bv bk ⟨rfl,rfl⟩
 have aW:sW w U av [.blk b2 36 B0] bb:=bk
 refine eN (ifc bn ?_ ?_)
 intro aR bo
 refine ZG (congrArg nA aR.out) (sR fL1 Z (oA Z Z (eN (zP (zN ?_)))))
 cases bo
 exact ⟨rfl,_,(ZL rfl),av,_,(aW.pick [] _ (by decide) rfl),rfl,rfl⟩
 intro aR bp
 refine zr (congrArg nA (nD.2 aR.out)) (kN (sR fL1 Z (oA Z Z (eN (zP ?_)))))
 cases bp
 exact ⟨rfl,_,(ZL rfl),av,_,(aW.pick [] _ (by decide) rfl),rfl,rfl⟩
 intro aQ bq
 refine cT Z aQ (sR fL2 Z (oM Z Z (oA Z Z (eN (zP (zN ?_))))))
 have hE:=nB bq;first | subst r | cases hE
 exact ⟨rfl,_,(ZL rfl),U8,_,(aS.pick [] _ (by decide) rfl),rfl,rfl⟩
theorem wEE (p0:wAJ) (ah:Option Addr) (am:Nat) (ai:Option Addr) (ap:Nat) (aj:Option Addr) (aq:Nat) (ak:Option Addr) (au:Nat) (p1:wAP) (p2:wAP) (w:World) (U:PHeap) (hS:St0 w U []) (bv:Sl U 1 ah am p0.Starts.length (hH KL.encI p0.Starts)) (bw:Sl U 2 ai ap p0.Splits.length (hH wAB p0.Splits)) (bz:Sl U 3 aj aq p0.Clocks.length (hH wAF p0.Clocks)) (bA:Sl U 4 ak au p0.Readings.length (hH wAE p0.Readings)) {r:Int} (hm:wBa p0 p1 p2=some r):Gv Tryz.prog 46 [.agg #[.slice ah p0.Starts.length am,.slice ai p0.Splits.length ap,.slice aj p0.Clocks.length aq,.slice ak p0.Readings.length au],.agg #[jV p1.Skier,jV p1.Mat],.agg #[jV p2.Skier,jV p2.Mat]] w (wCq w [] U (fun U_ L_ v=>v=jV r/\L_=[])):=by
 unfold wBa at hm
 refine Gv.of Tryz.func46 Z Tryz.ntmps46 Tryz.results46 Z (sR gDx Z ?_)
 let B0:List Value:=[.slice ah p0.Starts.length am,.slice ai p0.Splits.length ap,.slice aj p0.Clocks.length aq,.slice ak p0.Readings.length au]
 refine zy (cs:=B0) rfl rfl rfl rfl rfl rfl (by rfl) hS ?_
 intro W1 b2 bM
 let B1:List Value:=[jV p1.Skier,jV p1.Mat]
 refine zy (cs:=B1) rfl rfl rfl rfl rfl rfl (by rfl) bM ?_
 intro W5 b6 bP
 let B2:List Value:=[jV p2.Skier,jV p2.Mat]
 refine zy (cs:=B2) rfl rfl rfl rfl rfl rfl (by rfl) bP ?_
 intro W9 aS bu
 refine oA Z Z (eN (zJ (sR gDo Z (oL Z (bu.ldBA (j:=2) Z Z Z ZS ZH (vs:=B0) Z Z) (bnK hm fun cu bD bS=>zG 0 Z Z Z Z (zH Z Z Tryz.call34 (zB Z zM) Z) bu (fun hs=>wCU p0 ah am ai ap aj aq ak au W9 U hs bv bw bz bA bD) (.inr Z) ?_)))))
 rintro a0 cb cp bh aX bL ⟨rfl,rfl⟩
 have aV:sW w U a0 [.blk aS 44 B2,.blk b6 44 B1,.blk b2 36 B0] bh:=bL
 refine oA Z Z (eN (sR fL2 Z (oM Z Z (oR Z (Zo Z Z Z) (eN (ifc bS ?_ ?_))))))
 intro bd bT
 refine zr (Za (fun h=>h bd.out)) (kN (zJ (sR (.fl 0 (.fl 1 (.fx 2 (wLe gDi) .stop))) Z (oL Z (aV.ldBA (j:=2) Z Z Z ZS ZH (vs:=B0) Z Z) (oL Z (aV.ldBA (j:=1) Z Z Z Tryz.isAgg44 Tryz.sizeOf44 (vs:=B1) Z Z) ?_)))))
 have bk:=bv.le aX
 have bm:=bw.le aX
 have bn:=bz.le aX
 have bo:=bA.le aX
 refine bnK bT fun cw bE bU=>zG 0 Z Z Z Z (zH Z Z Tryz.call110 (zB Z (zB Z zM)) Z) aV (fun hs=>wEQ p0 ah am ai ap aj aq ak au p1 bh a0 hs bk bm bn bo bE) (.inr Z) ?_
 rintro ba cd cq bi aY bN ⟨rfl,rfl⟩
 have aW:sW w U ba [.blk aS 44 B2,.blk b6 44 B1,.blk b2 36 B0] bi:=bN
 refine oM Z Z (ifc bU ?_ ?_)
 intro ae bV
 refine Zb Z Z Z (zu Z Z (congrArg nA ae.out) Z) (Zb Z Z Z (zu Z Z (congrArg nA ae.out) Z) (yU Z Z Z (zu Z Z (congrArg nA ae.out) Z) (oR Z (zm Z (congrArg nA ae.out) Z) (eN (ZG Z (sR fL1 Z (oA Z Z (eN (zP (zN ?_))))))))))
 cases bV
 exact ⟨rfl,_,(ZL rfl),ba,_,(aW.pick [] _ (by decide) rfl),rfl,rfl⟩
 intro ae bW
 refine ZI Z Z Z (zO Z Z (congrArg nA (nD.2 ae.out))) (aW.ldBA (j:=2) Z Z Z ZS ZH (vs:=B0) Z Z) Z (ZI Z Z Z (zO Z Z (congrArg nA (nD.2 ae.out))) (aW.ldBA (j:=0) Z Z Z Tryz.isAgg44 Tryz.sizeOf44 (vs:=B2) Z Z) Z ?_)
 have bp:=bk.le aY
 have bq:=bm.le aY
 have br:=bn.le aY
 have bs:=bo.le aY
 refine bnK bW fun cx bF bX=>zG 0 Z Z Z (zO Z Z (congrArg nA (nD.2 ae.out))) (zH Z Z Tryz.call110 (zB Z (zB Z zM)) Z) aW (fun hs=>wEQ p0 ah am ai ap aj aq ak au p2 bi ba hs bp bq br bs bF) (.inr Z) ?_
 rintro bb cf cr bj aZ bO ⟨rfl,rfl⟩
 have bf:sW w U bb [.blk aS 44 B2,.blk b6 44 B1,.blk b2 36 B0] bj:=bO
 refine oR Z (zz Z (congrArg nA (nD.2 ae.out)) Z) (eN (ifc bX ?_ ?_))
 intro be bY
 refine ZG (congrArg nA be.out) (sR fL1 Z (oA Z Z (eN (zP (zN ?_)))))
 cases bY
 exact ⟨rfl,_,(ZL rfl),bb,_,(bf.pick [] _ (by decide) rfl),rfl,rfl⟩
 intro be bZ
 refine zr (congrArg nA (nD.2 be.out)) (kN (sR gDo Z (oL Z (bf.ldBA (j:=2) Z Z Z ZS ZH (vs:=B0) Z Z) ?_)))
 have bG:=bp.le aZ
 have bH:=bq.le aZ
 have bI:=br.le aZ
 have bJ:=bs.le aZ
 refine bnK bZ fun x63 bK b5=>zG 0 Z Z Z Z (zH Z Z Tryz.call38 (zB Z zM) Z) bf (fun hs=>wFP p0 ah am ai ap aj aq ak au bj bb hs bG bH bI bJ bK) (.inr Z) ?_
 rintro bg cg ct bB cn bQ ⟨rfl,rfl⟩
 have bR:sW w U bg [.blk aS 44 B2,.blk b6 44 B1,.blk b2 36 B0] bB:=bQ
 refine oA Z Z (eN (zP ?_))
 have hE:=nB b5;first | subst r | cases hE
 exact ⟨rfl,_,(ZL rfl),bg,_,(bR.pick [] _ (by decide) rfl),rfl,rfl⟩
 intro bd b9
 refine cT Z bd (sR fL2 Z (oM Z Z (oA Z Z (eN (zP (zN ?_))))))
 have hE:=nB b9;first | subst r | cases hE
 exact ⟨rfl,_,(ZL rfl),a0,_,(aV.pick [] _ (by decide) rfl),rfl,rfl⟩
theorem wFf (p0:wAJ) (aq:Option Addr) (aQ:Nat) (au:Option Addr) (aR:Nat) (av:Option Addr) (aS:Nat) (az:Option Addr) (aT:Nat) (p1:wAP) (w:World) (U:PHeap) (hS:St0 w U []) (bB:Sl U 1 aq aQ p0.Starts.length (hH KL.encI p0.Starts)) (bC:Sl U 2 au aR p0.Splits.length (hH wAB p0.Splits)) (bD:Sl U 3 av aS p0.Clocks.length (hH wAF p0.Clocks)) (bE:Sl U 4 az aT p0.Readings.length (hH wAE p0.Readings)) {r:wAL × Int} (hm:wBs p0 p1=some r):Gv Tryz.prog 13 [.agg #[.slice aq p0.Starts.length aQ,.slice au p0.Splits.length aR,.slice av p0.Clocks.length aS,.slice az p0.Readings.length aT],.agg #[jV p1.Skier,jV p1.Mat]] w (wCq w [] U (fun U_ L_ v=>v=.tuple #[.agg #[jV r.1.Lo,jV r.1.Hi],jV r.2]/\L_=[])):=by
 unfold wBs at hm
 refine Gv.of Tryz.func13 Z Tryz.ntmps13 Tryz.results13 Z (sR gDx Z ?_)
 let B0:List Value:=[.slice aq p0.Starts.length aQ,.slice au p0.Splits.length aR,.slice av p0.Clocks.length aS,.slice az p0.Readings.length aT]
 refine zy (cs:=B0) rfl rfl rfl rfl rfl rfl (by rfl) hS ?_
 intro W1 b2 cu
 let B1:List Value:=[jV p1.Skier,jV p1.Mat]
 refine zy (cs:=B1) rfl rfl rfl rfl rfl rfl (by rfl) cu ?_
 intro W5 b6 cC
 let B2:List Value:=[jV 0,jV 0]
 refine zV (cs:=B2) Z Z Z Z Z ZQ Z cC ?_
 intro W9 aj aX
 refine oA Z Z (eN (zJ (sR (wEF gDj) Z (oL Z (aX.ldBA (j:=2) Z Z Z ZS ZH (vs:=B0) Z Z) (oL Z (aX.ldBA (j:=1) Z Z Z Tryz.isAgg44 Tryz.sizeOf44 (vs:=B1) Z Z) (oL Z (aX.ldBA (j:=1) Z Z Z Tryz.isAgg44 Tryz.sizeOf44 (vs:=B1) Z Z) (bnK hm fun cU bS cG=>zG 0 Z Z Z Z (zH Z Z Tryz.call46 (zB Z (zB Z (zB Z zM))) Z) aX (fun hs=>wEE p0 aq aQ au aR av aS az aT p1 p1 W9 U hs bB bC bD bE bS) (.inr Z) ?_)))))))
 rintro aW cW dk bn aZ ct ⟨rfl,rfl⟩
 have bj:sW w U aW [.blk aj 39 B2,.blk b6 44 B1,.blk b2 36 B0] bn:=ct
 refine oA Z Z (eN (sR fL2 Z (oM Z Z (oR Z (Zo Z Z Z) (eN (ifc cG ?_ ?_))))))
 intro be cH
 refine zr (Za (fun h=>h be.out)) (kN (sR gDo Z (oL Z (bj.ldBA (j:=2) Z Z Z ZS ZH (vs:=B0) Z Z) ?_)))
 have bo:=bB.le aZ
 have bp:=bC.le aZ
 have bq:=bD.le aZ
 have br:=bE.le aZ
 refine bnK cH fun cV bT cI=>zG 0 Z Z Z Z (zH Z Z Tryz.call67 (zB Z zM) Z) bj (fun hs=>wCV p0 aq aQ au aR av aS az aT bn aW hs bo bp bq br bT) (.inr Z) ?_
 rintro bK cX dl bb a0 cw ⟨bJ,bQ,bs,rfl,rfl⟩
 have cx:sW w U bK [.row bJ bQ 22 1 (hH wEf bs),inn 3 1 KL.encI bs cV,.blk aj 39 B2,.blk b6 44 B1,.blk b2 36 B0] bb:=cw
 have q:=St.freezeN (R:=wMD) cx (fun _ _ _ _ h=>⟨_,_,rfl,h⟩) (fun _=>rfl) (by decide) rfl
 obtain ⟨bm,ba,cP,cy⟩:=q
 have aY:sW w U bm [.blk aj 39 B2,.blk b6 44 B1,.blk b2 36 B0] bb:=cy
 refine oA Z Z (eN (sR (wGG gDk) Z (oL Z (aY.ldBA (j:=2) Z Z Z ZS ZH (vs:=B0) Z Z) (oR Z (zE Z Z yM Z zC) (oL Z (aY.ldB (j:=1) Z Z Z zF (v:=jV p1.Skier) Z) (oR Z (zE Z Z yM Z zC) (oL Z (aY.ldB (j:=1) Z Z Z zF (v:=jV p1.Mat) Z) ?_)))))))
 have bU:=bo.le a0
 have bV:=bU.le ba
 have bW:=bp.le a0
 have bX:=bW.le ba
 have bY:=bq.le a0
 have bZ:=bY.le ba
 have b5:=br.le a0
 have b9:=b5.le ba
 refine bnK cI fun x57 cb cJ=>zG 0 Z Z Z Z (zH Z Z Tryz.call68 (zB Z (zB Z (zB Z zM))) Z) aY (fun hs=>wAy p0 aq aQ au aR av aS az aT p1.Skier p1.Mat bb bm hs bV bX bZ b9 cb) (.inr Z) ?_
 rintro aV cY dm bd cQ cz ⟨rfl,rfl⟩
 have cA:sW w U aV [.blk aj 39 B2,.blk b6 44 B1,.blk b2 36 B0] bd:=cz
 refine yi rfl rfl rfl rfl rfl rfl (eN (zJ (zx zn [3,3,3,1,3,1,3,3,3,1,3,3,1,3,0,3] (wPK gDl) (by kernel_rfl) ?_)))
 have ap:=cA.drew
 generalize hw_W68:({ bd with drawn:=bd.drawn + 1 }:World)=db at ap ⊢
 refine oM Z Z (oM Z Z (bnK cJ fun x69 bg cK=>?_))
 have bu:=cP.le cQ
 have q:=bu.el (wAR bg)
 obtain ⟨bO,cR,dp,cg,bh,cN⟩:=q
 obtain ⟨bF,bH,rfl,cd⟩:=cN
 replace bh:Cl aV bO (cR + x57.toNat * 1) [.slice bF x69.length bH]:=bh
 refine oR Z (ZB Z Z cg Z zZ zW (wAv bg) (wAz bg)) (oL Z (ap.ldC (f:=0) bh (v:=.slice bF x69.length bH) Z Z zX Z) (bnK cK fun x82 bv cL=>?_))
 have q:=cd.el (fun _=>rfl) (wAR bv)
 obtain ⟨df,dh,cj,cp⟩:=q
 refine oR Z (ZP Z Z cj Z zD zC (wBi bv)) (oL Z (ap.ldC (f:=0) cp (v:=jV x82) Z Z zF Z) (oR Z (yo Z Z) (oM Z Z (bnK cL fun x89 bw cM=>?_))))
 have q:=bu.el (wAR bw)
 obtain ⟨bP,cS,dq,cm,bi,cO⟩:=q
 obtain ⟨bG,bI,rfl,bR⟩:=cO
 replace bi:Cl aV bP (cS + 0 * 1) [.slice bG x89.length bI]:=bi
 refine oR Z (ZP Z Z cm Z zZ zW (wBi bw)) (oL Z (ap.ldC (f:=0) bi (v:=.slice bG x89.length bI) Z Z zX Z) (oM Z Z (bnK cM fun bk bf cD=>?_)))
 have q:=bR.el (fun _=>rfl) (wAR bf)
 obtain ⟨de,dg,cf,cn⟩:=q
 refine oR Z (ZB Z Z cf Z zD zC (wAv bf) (wAz bf)) (oL Z (ap.ldC (f:=0) cn (v:=jV bk) Z Z zF Z) ?_)
 let B3:List Value:=[jV (w64 (-x82)),jV bk]
 refine oR Z (ZC (pv:=[(0,jV (w64 (-x82))),(1,jV bk)]) (z:=B2) (cs:=B3) Z (wAH Z (wAH Z wAU)) ZQ wCN Z Z) (zY (j:=0) (vs:=B3) Z Z Z Z ap Z Z Z Z zS (zA Z) Z Z Z ?_)
 intro bL cq
 have bz:sW w U aV [.blk aj 39 B3,.blk b6 44 B1,.blk b2 36 B0] bL:=cq
 refine oA Z Z (eN (zP ?_))
 cases cD
 exact ⟨rfl,_,(wCx (rs:=[.cell 4 39,.tmp 5]) (vs:=[.agg B3.toArray,jV 0]) ⟨⟨_,rfl,(wAs ZT zS (bz.blkAt (k:=0) rfl) (vs:=B3) rfl rfl)⟩,⟨rfl,trivial⟩⟩ rfl),aV,_,(bz.pick [] _ (by decide) rfl),rfl,rfl⟩
 intro be cE
 refine cT Z be (sR gDy Z (oR Z (ZC (pv:=[]) (z:=B2) (cs:=B2) Z wAU ZQ wCN Z Z) (oM Z Z (zY (j:=0) (vs:=B2) Z Z Z Z bj Z Z Z Z zS (zA Z) Z Z Z ?_))))
 intro bM cr
 have bA:sW w U aW [.blk aj 39 B2,.blk b6 44 B1,.blk b2 36 B0] bM:=cr
 refine oA Z Z (eN (zP (zN ?_)))
 cases cE
 exact ⟨rfl,_,(wCx (rs:=[.cell 4 39,.tmp 5]) (vs:=[.agg B2.toArray,jV cU]) ⟨⟨_,rfl,(wAs ZT zS (bA.blkAt (k:=0) rfl) (vs:=B2) rfl rfl)⟩,⟨rfl,trivial⟩⟩ rfl),aW,_,(bA.pick [] _ (by decide) rfl),rfl,rfl⟩
theorem wLU (p0:wAA) (aT:Option Addr) (aW:Nat) (aU:Option Addr) (aX:Nat) (au:Option Addr) (av:Nat) (aV:Option Addr) (aY:Nat) (p1:Int) (w:World) (U:PHeap) (hS:St0 w U []) (bU:Sl U 1 aT aW p0.Starts.length (hH KL.encI p0.Starts)) (bV:Sl U 2 aU aX p0.Splits.length (hH wAB p0.Splits)) (bW:Sl U 3 au av p0.Clocks.length (hH wAD p0.Clocks)) (bX:Sl U 4 aV aY p0.Readings.length (hH wAC p0.Readings)) {r:wAL × Int} (hm:wEN p0 p1=some r):Gv Tryz.prog 14 [.agg #[.slice aT p0.Starts.length aW,.slice aU p0.Splits.length aX,.slice au p0.Clocks.length av,.slice aV p0.Readings.length aY],jV p1] w (wCq w [] U (fun U_ L_ v=>v=.tuple #[.agg #[jV r.1.Lo,jV r.1.Hi],jV r.2]/\L_=[])):=by
 unfold wEN at hm
 refine Gv.of Tryz.func14 Z Tryz.ntmps14 Tryz.results14 Z (sR gDp Z ?_)
 let B0:List Value:=[.slice aT p0.Starts.length aW,.slice aU p0.Splits.length aX,.slice au p0.Clocks.length av,.slice aV p0.Readings.length aY]
 refine zy (cs:=B0) rfl rfl rfl rfl rfl rfl (by rfl) hS ?_
 intro W1 b2 dq
 let B1:List Value:=[jV 0,jV 0]
 refine zV (cs:=B1) Z Z Z Z Z ZQ Z dq ?_
 intro W5 b6 bS
 refine oA Z Z (eN (sR gDo Z (oL Z (bS.ldBA (j:=1) Z Z Z ZA zl (vs:=B0) Z Z) (bnK hm fun x9 cm dy=>zG 0 Z Z Z Z (zH Z Z Tryz.call33 (zB Z zM) Z) bS (fun hs=>wHK p0 aT aW aU aX au av aV aY W5 U hs bU bV bW bX cm) (.inr Z) ?_))))
 rintro a0 dQ d9 bC bd dm ⟨rfl,rfl⟩
 have bn:sW w U a0 [.blk b6 39 B1,.blk b2 27 B0] bC:=dm
 refine oA Z Z (eN (zJ (zd (sR fL3 Z (oM Z Z (oR Z (Zo Z Z Z) (oA Z Z (eN (ifc dy ?_ ?_)))))))))
 intro bj dE
 refine zr (Za (fun h=>h bj.out)) (sR (wGG gDq) Z (oM Z Z (oR Z (zE Z Z zU Z yE) (oL Z (bn.ldB (j:=1) Z Z Z yH (v:=.slice au p0.Clocks.length av) Z) (oR Z (zi Z Z ZW) (oR Z (yV Z Z Z) (bnK dE fun en cH dF=>zG 0 Z Z Z Z (zH Z Z Tryz.call69 (zB Z (zB Z (zB Z zM))) Z) bn (fun hs=>wDw p1 0 (w64 ((↑p0.Clocks.length:Int) - 1)) bC a0 hs cH) (.inr Z) ?_)))))))
 rintro ba dS ef bD be dp ⟨rfl,rfl⟩
 have bo:sW w U ba [.blk b6 39 B1,.blk b2 27 B0] bD:=dp
 refine oR Z (Zm Z Z) (oA Z Z (eN (ifc dF ?_ ?_)))
 intro bk dG
 refine zr (nC bk.out) (Zr (ZE (zK (sR (.fl 0 (.fx 1 (wUO (.nil)) .stop)) Z (oL Z (bo.ldBA (j:=1) Z Z Z ZA zl (vs:=B0) Z Z) ?_)))))
 have cI:=bU.le bd
 have cJ:=cI.le be
 have cK:=bV.le bd
 have cL:=cK.le be
 have cM:=bW.le bd
 have cN:=cM.le be
 have cO:=bX.le bd
 have cP:=cO.le be
 have q:=bnd dG
 obtain ⟨⟨dN,bf⟩,cQ,az⟩:=q
 try dsimp only at az
 refine zG 0 rfl rfl rfl rfl (zH rfl rfl Tryz.call63 (zB rfl (zB rfl zM)) rfl) bo (fun hs=>wEZ p0 aT aW aU aX au av aV aY [] none 0 bD ba hs cJ cL cN cP (by first | exact Sl.nil _ _ _ _ | exact SlR.nil) cQ) (.inr rfl) ?_
 rintro aj dT eg bb dZ bQ bK
 rcases dN with _ | x66
 try dsimp only at az
 obtain ⟨rfl,rfl⟩:=bK
 have bR:sW w U aj [.blk b6 39 B1,.blk b2 27 B0] bb:=bQ
 refine oM Z Z (oR Z (ze Z Z (v:=.pointer none) Z) (oR Z (ze Z Z (v:=jV bf) Z) (oA Z Z (oA Z Z (eN (zJ (sR fL2 Z (oM Z Z (oR Z (Zo Z Z Z) (eN (ifc az ?_ ?_)))))))))))
 intro bm dH
 refine zr (Za (fun h=>h bm.out)) (kN (sR gEe Z (oM Z Z (oM Z Z (bnK dH fun x70 cR dI=>zG 0 Z Z Z Z (zH Z Z Tryz.call70 (zB Z zM) Z) bR (fun hs=>wBy p1 bb aj hs cR) (.inr Z) ?_)))))
 rintro bz dU eh bE d5 dr ⟨rfl,rfl⟩
 have dt:sW w U bz [.blk b6 39 B1,.blk b2 27 B0] bE:=dr
 refine bnK dI fun x80 cS dJ=>zG 0 Z Z Z Z (zH Z Z yK zM Z) dt (fun hs=>wBQ bE bz hs cS) (.inr Z) ?_
 rintro bY dV ej cg d6 du ⟨rfl,rfl⟩
 have dX:sW w U bY [.blk b6 39 B1,.blk b2 27 B0] cg:=du
 cases dJ
 intro bm dK
 refine cT Z bm (sR gDy Z (oR Z (ZC (pv:=[]) (z:=B1) (cs:=B1) Z wAU ZQ wCN Z Z) (oM Z Z (zY (j:=0) (vs:=B1) Z Z Z Z bR Z Z Z Z zS (zA Z) Z Z Z ?_))))
 intro cj dv
 have bT:sW w U aj [.blk b6 39 B1,.blk b2 27 B0] cj:=dv
 refine oA Z Z (eN (zP (zN ?_)))
 cases dK
 exact ⟨rfl,_,(wCx (rs:=[.cell 4 39,.tmp 5]) (vs:=[.agg B1.toArray,jV bf]) ⟨⟨_,rfl,(wAs ZT zS (bT.blkAt (k:=0) rfl) (vs:=B1) rfl rfl)⟩,⟨rfl,trivial⟩⟩ rfl),aj,_,(bT.pick [] _ (by decide) rfl),rfl,rfl⟩
 try dsimp only at az
 obtain ⟨bh,bp,bF,bq,bG,br,bH,bs,bI,ak,ap,am,bu,bJ,rfl,rfl,cU,cV,cW,cX,cn,cp⟩:=bK
 let B2:Res:=.blk bh 139 [.slice bp x66.Race.Starts.length bF,.slice bq x66.Race.Splits.length bG,.slice br x66.Race.Clocks.length bH,.slice bs x66.Race.Readings.length bI,.map (some ak),.slice bu x66.edges.length bJ]
 have bL:sW w U aj [B2,.obj ak (.map ap am),.blk b6 39 B1,.blk b2 27 B0] bb:=bQ
 refine oM Z Z (oR Z (ze Z Z (v:=.pointer (some ⟨bh,0,none⟩)) Z) (oR Z (ze Z Z (v:=jV bf) Z) (oA Z Z (oA Z Z (eN (zJ (sR fL2 Z (oM Z Z (oR Z (Zo Z Z Z) (eN (ifc az ?_ ?_)))))))))))
 intro bi dw
 refine zr (Za (fun h=>h bi.out)) (kN (sR gEe Z (oM Z Z (oM Z Z (bnK dw fun dL cq dx=>zG 0 Z Z Z Z (zH Z Z Tryz.call70 (zB Z zM) Z) bL (fun hs=>wBy p1 bb aj hs cq) (.inr Z) ?_)))))
 rintro bv dO d7 bA aQ cY ⟨rfl,rfl⟩
 have cZ:sW w U bv [B2,.obj ak (.map ap am),.blk b6 39 B1,.blk b2 27 B0] bA:=cY
 refine bnK dx fun dM cr dz=>zG 0 Z Z Z Z (zH Z Z yK zM Z) cZ (fun hs=>wBQ bA bv hs cr) (.inr Z) ?_
 rintro bw dP d8 bB aR da ⟨rfl,rfl⟩
 have db:sW w U bw [B2,.obj ak (.map ap am),.blk b6 39 B1,.blk b2 27 B0] bB:=da
 have ct:=cU.le aQ
 have cu:=ct.le aR
 have cw:=cV.le aQ
 have cx:=cw.le aR
 have cy:=cW.le aQ
 have cz:=cy.le aR
 have cA:=cX.le aQ
 have cC:=cA.le aR
 have cD:=cp.le aQ
 have cE:=cD.le aR
 refine bnK dz fun x135 cG dA=>zG 2 Z Z Z Z (zH Z Z Tryz.call64 (zB Z (zB Z (zB Z zM))) Z) db (fun hs=>wDK x66 bh bp bF bq bG br bH bs bI ak ap am bu bJ dL dM bB bw hs cu cx cz cC cn cE cG) (.inl Z) ?_
 rintro bg dR ec bZ dY de ⟨rfl,rfl⟩
 have df:sW w U bg [B2,.obj ak (.map ap am),.blk b6 39 B1,.blk b2 27 B0] bZ:=de
 let B3:List Value:=[jV x135.Lo,jV x135.Hi]
 refine zY (j:=2) (vs:=B3) Z Z Z Z df Z Z Z Z zS (zA Z) Z Z Z ?_
 intro b5 dg
 have bM:sW w U bg [B2,.obj ak (.map ap am),.blk b6 39 B3,.blk b2 27 B0] b5:=dg
 refine oA Z Z (eN (zP ?_))
 cases dA
 exact ⟨rfl,_,(wCx (rs:=[.cell 4 39,.tmp 5]) (vs:=[.agg B3.toArray,jV 0]) ⟨⟨_,rfl,(wAs ZT zS (bM.blkAt (k:=2) rfl) (vs:=B3) rfl rfl)⟩,⟨rfl,trivial⟩⟩ rfl),bg,_,(bM.pick [] _ (by decide) rfl),rfl,rfl⟩
 intro bi dB
 refine cT Z bi (sR gDy Z (oR Z (ZC (pv:=[]) (z:=B1) (cs:=B1) Z wAU ZQ wCN Z Z) (oM Z Z (zY (j:=2) (vs:=B1) Z Z Z Z bL Z Z Z Z zS (zA Z) Z Z Z ?_))))
 intro b9 dh
 have bN:sW w U aj [B2,.obj ak (.map ap am),.blk b6 39 B1,.blk b2 27 B0] b9:=dh
 refine oA Z Z (eN (zP (zN ?_)))
 cases dB
 exact ⟨rfl,_,(wCx (rs:=[.cell 4 39,.tmp 5]) (vs:=[.agg B1.toArray,jV bf]) ⟨⟨_,rfl,(wAs ZT zS (bN.blkAt (k:=2) rfl) (vs:=B1) rfl rfl)⟩,⟨rfl,trivial⟩⟩ rfl),aj,_,(bN.pick [] _ (by decide) rfl),rfl,rfl⟩
 intro bk dC
 refine ZG (nF (bk.out)) (sR gDo Z (oR Z (ZC (pv:=[]) (z:=B1) (cs:=B1) Z wAU ZQ wCN Z Z) (zY (j:=0) (vs:=B1) Z Z Z Z bo Z Z Z Z zS (zA Z) Z Z Z ?_)))
 intro cb dk
 have bO:sW w U ba [.blk b6 39 B1,.blk b2 27 B0] cb:=dk
 refine oA Z Z (eN (zP (zg (zN ?_))))
 cases dC
 exact ⟨rfl,_,(wCx (rs:=[.cell 4 39,.tmp 5]) (vs:=[.agg B1.toArray,jV 1]) ⟨⟨_,rfl,(wAs ZT zS (bO.blkAt (k:=0) rfl) (vs:=B1) rfl rfl)⟩,⟨rfl,trivial⟩⟩ rfl),ba,_,(bO.pick [] _ (by decide) rfl),rfl,rfl⟩
 intro bj dD
 refine cT Z bj (sR gDy Z (oR Z (ZC (pv:=[]) (z:=B1) (cs:=B1) Z wAU ZQ wCN Z Z) (oM Z Z (zY (j:=0) (vs:=B1) Z Z Z Z bn Z Z Z Z zS (zA Z) Z Z Z ?_))))
 intro cd dl
 have bP:sW w U a0 [.blk b6 39 B1,.blk b2 27 B0] cd:=dl
 refine oA Z Z (eN (zP (zg (zN ?_))))
 cases dD
 exact ⟨rfl,_,(wCx (rs:=[.cell 4 39,.tmp 5]) (vs:=[.agg B1.toArray,jV x9]) ⟨⟨_,rfl,(wAs ZT zS (bP.blkAt (k:=0) rfl) (vs:=B1) rfl rfl)⟩,⟨rfl,trivial⟩⟩ rfl),a0,_,(bP.pick [] _ (by decide) rfl),rfl,rfl⟩
theorem wGC (p0:wAJ) (am:Option Addr) (au:Nat) (ap:Option Addr) (av:Nat) (aj:Option Addr) (ak:Nat) (aq:Option Addr) (az:Nat) (p1:Int) (w:World) (U:PHeap) (hS:St0 w U []) (bW:Sl U 1 am au p0.Starts.length (hH KL.encI p0.Starts)) (bX:Sl U 2 ap av p0.Splits.length (hH wAB p0.Splits)) (bY:Sl U 3 aj ak p0.Clocks.length (hH wAF p0.Clocks)) (bZ:Sl U 4 aq az p0.Readings.length (hH wAE p0.Readings)) {r:wAL × Int} (hm:wCE p0 p1=some r):Gv Tryz.prog 15 [.agg #[.slice am p0.Starts.length au,.slice ap p0.Splits.length av,.slice aj p0.Clocks.length ak,.slice aq p0.Readings.length az],jV p1] w (wCq w [] U (fun U_ L_ v=>v=.tuple #[.agg #[jV r.1.Lo,jV r.1.Hi],jV r.2]/\L_=[])):=by
 unfold wCE at hm
 refine Gv.of Tryz.func15 Z Tryz.ntmps15 Tryz.results15 Z (sR gDp Z ?_)
 let B0:List Value:=[.slice am p0.Starts.length au,.slice ap p0.Splits.length av,.slice aj p0.Clocks.length ak,.slice aq p0.Readings.length az]
 refine zy (cs:=B0) rfl rfl rfl rfl rfl rfl (by rfl) hS ?_
 intro W1 b2 dt
 let B1:List Value:=[jV 0,jV 0]
 refine zV (cs:=B1) Z Z Z Z Z ZQ Z dt ?_
 intro W5 b6 bV
 refine oA Z Z (eN (zJ (sR gDo Z (oL Z (bV.ldBA (j:=1) Z Z Z ZS ZH (vs:=B0) Z Z) (bnK hm fun x9 cA dC=>zG 0 Z Z Z Z (zH Z Z Tryz.call34 (zB Z zM) Z) bV (fun hs=>wCU p0 am au ap av aj ak aq az W5 U hs bW bX bY bZ cA) (.inr Z) ?_)))))
 rintro aU dX ej bw aZ dq ⟨rfl,rfl⟩
 have bo:sW w U aU [.blk b6 39 B1,.blk b2 36 B0] bw:=dq
 refine oA Z Z (eN (sR fL2 Z (oM Z Z (oR Z (Zo Z Z Z) (eN (ifc dC ?_ ?_))))))
 intro bf dI
 refine zr (Za (fun h=>h bf.out)) (kN (zJ (sR (wGG (.fx 5 .nil .stop)) Z (oM Z Z (oR Z (zE Z Z zR Z Zt) (oL Z (bo.ldB (j:=1) Z Z Z yF (v:=.slice aj p0.Clocks.length ak) Z) (oR Z (zi Z Z Zi) (oR Z (yV Z Z Z) (bnK dI fun eD cQ dJ=>zG 0 Z Z Z Z (zH Z Z yL (zB Z (zB Z (zB Z zM))) Z) bo (fun hs=>wAc p1 0 (w64 ((↑p0.Clocks.length:Int) - 1)) bw aU hs cQ) (.inr Z) ?_)))))))))
 rintro aW dZ en bz a0 dr ⟨rfl,rfl⟩
 have bp:sW w U aW [.blk b6 39 B1,.blk b2 36 B0] bz:=dr
 refine eN (ifc dJ ?_ ?_)
 intro bg dK
 refine ZG (congrArg nA bg.out) (sR gDo Z (oR Z (ZC (pv:=[]) (z:=B1) (cs:=B1) Z wAU ZQ wCN Z Z) (zY (j:=0) (vs:=B1) Z Z Z Z bp Z Z Z Z zS (zA Z) Z Z Z ?_)))
 intro cr du
 have bT:sW w U aW [.blk b6 39 B1,.blk b2 36 B0] cr:=du
 refine oA Z Z (eN (zP (zN ?_)))
 cases dK
 exact ⟨rfl,_,(wCx (rs:=[.cell 4 39,.tmp 5]) (vs:=[.agg B1.toArray,jV 1]) ⟨⟨_,rfl,(wAs ZT zS (bT.blkAt (k:=0) rfl) (vs:=B1) rfl rfl)⟩,⟨rfl,trivial⟩⟩ rfl),aW,_,(bT.pick [] _ (by decide) rfl),rfl,rfl⟩
 intro bg dL
 refine zr (congrArg nA (nD.2 bg.out)) (kN (zJ (sR gDg Z (oL Z (bp.ldBA (j:=1) Z Z Z ZS ZH (vs:=B0) Z Z) ?_))))
 have cR:=bW.le aZ
 have bG:=cR.le a0
 have cS:=bX.le aZ
 have bH:=cS.le a0
 have cU:=bY.le aZ
 have bI:=cU.le a0
 have cV:=bZ.le aZ
 have bJ:=cV.le a0
 refine bnK dL fun eE cW dM=>zG 0 Z Z Z Z (zH Z Z Tryz.call72 (zB Z zM) Z) bp (fun hs=>wED p0 am au ap av aj ak aq az bz aW hs bG bH bI bJ cW) (.inr Z) ?_
 rintro aX d5 eu bA ba dv ⟨rfl,rfl⟩
 have bq:sW w U aX [.blk b6 39 B1,.blk b2 36 B0] bA:=dv
 refine eN (ifc dM ?_ ?_)
 intro bh dN
 refine ZG (congrArg nA bh.out) (sR gDo Z (oR Z (ZC (pv:=[]) (z:=B1) (cs:=B1) Z wAU ZQ wCN Z Z) (zY (j:=0) (vs:=B1) Z Z Z Z bq Z Z Z Z zS (zA Z) Z Z Z ?_)))
 intro cu dw
 have bU:sW w U aX [.blk b6 39 B1,.blk b2 36 B0] cu:=dw
 refine oA Z Z (eN (zP (zN ?_)))
 cases dN
 exact ⟨rfl,_,(wCx (rs:=[.cell 4 39,.tmp 5]) (vs:=[.agg B1.toArray,jV 7]) ⟨⟨_,rfl,(wAs ZT zS (bU.blkAt (k:=0) rfl) (vs:=B1) rfl rfl)⟩,⟨rfl,trivial⟩⟩ rfl),aX,_,(bU.pick [] _ (by decide) rfl),rfl,rfl⟩
 intro bh dO
 refine zr (congrArg nA (nD.2 bh.out)) (kN (sR gDo Z (oL Z (bq.ldBA (j:=1) Z Z Z ZS ZH (vs:=B0) Z Z) ?_)))
 have bK:=bG.le ba
 have bL:=bH.le ba
 have bM:=bI.le ba
 have bN:=bJ.le ba
 refine bnK dO fun x65 cX dP=>zG 0 Z Z Z Z (zH Z Z Tryz.call67 (zB Z zM) Z) bq (fun hs=>wCV p0 am au ap av aj ak aq az bA aX hs bK bL bM bN cX) (.inr Z) ?_
 rintro cm d6 ey aY bb dx ⟨cj,cz,bO,rfl,rfl⟩
 have dy:sW w U cm [.row cj cz 22 1 (hH wEf bO),inn 3 1 KL.encI bO x65,.blk b6 39 B1,.blk b2 36 B0] aY:=dx
 have q:=St.freezeN (R:=wMD) dy (fun _ _ _ _ h=>⟨_,_,rfl,h⟩) (fun _=>rfl) (by decide) rfl
 obtain ⟨be,bd,b5,dz⟩:=q
 have dA:sW w U be [.blk b6 39 B1,.blk b2 36 B0] aY:=dz
 refine yi rfl rfl rfl rfl rfl rfl (eN (zJ (zx zn [3,3,1,1,3,2,3,1,3,3,1,3,2,3,1,3,1,3,0,3] (wGG (wUX (.fx 5 (fC6_8 (.fx 12 (wSf (.fx 18 (.fl 19 .nil) .stop)) .stop)) .stop))) (by kernel_rfl) ?_)))
 have aS:=dA.drew
 generalize hw_W86:({ aY with drawn:=aY.drawn + 1 }:World)=cw at aS ⊢
 refine oM Z Z (bnK dP fun cg bP dQ=>?_)
 have q:=b5.el (wAR bP)
 obtain ⟨cy,dV,eC,df,bm,dS⟩:=q
 obtain ⟨cb,cf,rfl,cY⟩:=dS
 replace bm:Cl be cy (dV + 0 * 1) [.slice cb cg.length cf]:=bm
 refine oR Z (ZP Z Z df Z zZ zW (wBi bP)) (oL Z (aS.ldC (f:=0) bm (v:=.slice cb cg.length cf) Z Z zX Z) (oL Z (aS.ldBA (j:=1) Z Z Z ZS ZH (vs:=B0) Z Z) (oM Z Z (oM Z Z (oL Z (aS.ldBA (j:=1) Z Z Z ZS ZH (vs:=B0) Z Z) (oM Z Z ?_))))))
 have cZ:=bK.le bb
 have bB:=cZ.le bd
 have cC:=bL.le bb
 have bC:=cC.le bd
 have cD:=bM.le bb
 have bD:=cD.le bd
 have cE:=bN.le bb
 have bE:=cE.le bd
 refine bnK dQ fun x107 cG dB=>zG 0 Z Z Z Z (zH Z Z Tryz.call73 (zB Z (zB Z zM)) Z) aS (fun hs=>wBu p0 am au ap av aj ak aq az p1 cw be hs bB bC bD bE cG) (.inr Z) ?_
 rintro bu dW eg bv aQ dk ⟨rfl,rfl⟩
 have bQ:sW w U bu [.blk b6 39 B1,.blk b2 36 B0] bv:=dk
 refine bnK dB fun br bi dD=>?_
 have cH:=cY.le aQ
 have q:=cH.el (fun _=>rfl) (wAR bi)
 obtain ⟨d8,ec,da,dg⟩:=q
 refine oR Z (ZB Z Z da Z zD zC (wAv bi) (wAz bi)) (oL Z (bQ.ldC (f:=0) dg (v:=jV br) Z Z zF Z) (oR Z (yo Z Z) ?_))
 have cI:=bB.le aQ
 have cJ:=bC.le aQ
 have cK:=bD.le aQ
 have cL:=bE.le aQ
 refine bnK dD fun x129 cM dE=>zG 0 Z Z Z Z (zH Z Z Tryz.call73 (zB Z (zB Z zM)) Z) bQ (fun hs=>wBu p0 am au ap av aj ak aq az p1 bv bu hs cI cJ cK cL cM) (.inr Z) ?_
 rintro aV dY eh cn dT dl ⟨rfl,rfl⟩
 have bn:sW w U aV [.blk b6 39 B1,.blk b2 36 B0] cn:=dl
 refine bnK dE fun x139 bj dF=>?_
 have cN:=b5.le aQ
 have cO:=cN.le dT
 have q:=cO.el (wAR bj)
 obtain ⟨cx,dU,eA,db,bk,dR⟩:=q
 obtain ⟨b9,cd,rfl,cP⟩:=dR
 replace bk:Cl aV cx (dU + x129.toNat * 1) [.slice b9 x139.length cd]:=bk
 refine oR Z (ZB Z Z db Z zZ zW (wAv bj) (wAz bj)) (oL Z (bn.ldC (f:=0) bk (v:=.slice b9 x139.length cd) Z Z zX Z) (bnK dF fun bs bF dG=>?_))
 have q:=cP.el (fun _=>rfl) (wAR bF)
 obtain ⟨d9,ef,de,dh⟩:=q
 refine oR Z (ZP Z Z de Z zD zC (wBi bF)) (oL Z (bn.ldC (f:=0) dh (v:=jV bs) Z Z zF Z) ?_)
 let B2:List Value:=[jV (w64 (-br)),jV bs]
 refine oR Z (ZC (pv:=[(0,jV (w64 (-br))),(1,jV bs)]) (z:=B1) (cs:=B2) Z (wAH Z (wAH Z wAU)) ZQ wCN Z Z) (zY (j:=0) (vs:=B2) Z Z Z Z bn Z Z Z Z zS (zA Z) Z Z Z ?_)
 intro cp dm
 have bR:sW w U aV [.blk b6 39 B2,.blk b2 36 B0] cp:=dm
 refine oA Z Z (eN (zP ?_))
 cases dG
 exact ⟨rfl,_,(wCx (rs:=[.cell 4 39,.tmp 5]) (vs:=[.agg B2.toArray,jV 0]) ⟨⟨_,rfl,(wAs ZT zS (bR.blkAt (k:=0) rfl) (vs:=B2) rfl rfl)⟩,⟨rfl,trivial⟩⟩ rfl),aV,_,(bR.pick [] _ (by decide) rfl),rfl,rfl⟩
 intro bf dH
 refine cT Z bf (sR gDy Z (oR Z (ZC (pv:=[]) (z:=B1) (cs:=B1) Z wAU ZQ wCN Z Z) (oM Z Z (zY (j:=0) (vs:=B1) Z Z Z Z bo Z Z Z Z zS (zA Z) Z Z Z ?_))))
 intro cq dp
 have bS:sW w U aU [.blk b6 39 B1,.blk b2 36 B0] cq:=dp
 refine oA Z Z (eN (zP (zN ?_)))
 cases dH
 exact ⟨rfl,_,(wCx (rs:=[.cell 4 39,.tmp 5]) (vs:=[.agg B1.toArray,jV x9]) ⟨⟨_,rfl,(wAs ZT zS (bS.blkAt (k:=0) rfl) (vs:=B1) rfl rfl)⟩,⟨rfl,trivial⟩⟩ rfl),aU,_,(bS.pick [] _ (by decide) rfl),rfl,rfl⟩
end Go.Proofs.YtlnfbjphfoipaaaGreat
namespace Go.Proofs.YtlnfbjphfoipaaaGreat
open Go.KL
set_option maxHeartbeats 4000000
theorem wMo (p0:wAA) (bb:Option Addr) (bg:Nat) (bd:Option Addr) (bh:Nat) (be:Option Addr) (bi:Nat) (bf:Option Addr) (bj:Nat) (p1:wAM) (p2:wAM) (w:World) (U:PHeap) (hS:St0 w U []) (dh:Sl U 1 bb bg p0.Starts.length (hH KL.encI p0.Starts)) (dk:Sl U 2 bd bh p0.Splits.length (hH wAB p0.Splits)) (dl:Sl U 3 be bi p0.Clocks.length (hH wAD p0.Clocks)) (dm:Sl U 4 bf bj p0.Readings.length (hH wAC p0.Readings)) {r:wAL × Int} (hm:wEe p0 p1 p2=some r):Gv Tryz.prog 16 [.agg #[.slice bb p0.Starts.length bg,.slice bd p0.Splits.length bh,.slice be p0.Clocks.length bi,.slice bf p0.Readings.length bj],.agg #[jV p1.Skier,jV p1.Mat],.agg #[jV p2.Skier,jV p2.Mat]] w (wCq w [] U (fun U_ L_ v=>v=.tuple #[.agg #[jV r.1.Lo,jV r.1.Hi],jV r.2]/\L_=[])):=by
 unfold wEe at hm
 refine Gv.of Tryz.func16 Z Tryz.ntmps16 Tryz.results16 Z (sR gEb Z ?_)
 let B0:List Value:=[.slice bb p0.Starts.length bg,.slice bd p0.Splits.length bh,.slice be p0.Clocks.length bi,.slice bf p0.Readings.length bj]
 refine zy (cs:=B0) rfl rfl rfl rfl rfl rfl (by rfl) hS ?_
 intro W1 b2 cZ
 let B1:List Value:=[jV p1.Skier,jV p1.Mat]
 refine zy (cs:=B1) rfl rfl rfl rfl rfl rfl (by rfl) cZ ?_
 intro W5 b6 da
 let B2:List Value:=[jV p2.Skier,jV p2.Mat]
 refine zy (cs:=B2) rfl rfl rfl rfl rfl rfl (by rfl) da ?_
 intro W9 am cN
 let B3:List Value:=[jV 0,jV 0]
 refine zV (cs:=B3) Z Z Z Z Z ZQ Z cN ?_
 intro dI ap aY
 refine oA Z Z (eN (sR (wEF (.fx 3 (.fx 4 (wJj (.nil)) .stop) .stop)) Z (oL Z (aY.ldBA (j:=3) Z Z Z ZA zl (vs:=B0) Z Z) (oL Z (aY.ldBA (j:=2) Z Z Z Zh ZN (vs:=B1) Z Z) (oL Z (aY.ldBA (j:=1) Z Z Z Zh ZN (vs:=B2) Z Z) (Zk (pv:=[(0,.agg B1.toArray),(1,.agg B2.toArray)]) (zs:=[jV 0,jV 0,jV 0,jV 0]) (cs:=[jV p1.Skier,jV p1.Mat,jV p2.Skier,jV p2.Mat]) Z Z Z Z Z (wAH Z (wAH Z wAU)) Tryz.runUnderlying56 ZN Tryz.zeroValue29 Z Z Z Z Z aY ?_))))))
 intro bn bG cV
 have cW:sW w U U [.row (some ⟨bG,0,none⟩) 2 29 2 (hH wBx [p1,p2]),.blk ap 39 B3,.blk am 29 B2,.blk b6 29 B1,.blk b2 27 B0] bn:=cV
 have q:=cW.freezeR (k:=0) (n:=[p1,p2].length) rfl (wAI (f:=wBx) (sz:=2) (fun _=>rfl) [p1,p2]) (by decide)
 obtain ⟨bB,ba,dz,cX⟩:=q
 have cY:sW w U bB [.blk ap 39 B3,.blk am 29 B2,.blk b6 29 B1,.blk b2 27 B0] bn:=cX
 have cw:=dh.le ba
 have cx:=dk.le ba
 have cy:=dl.le ba
 have cz:=dm.le ba
 have q:=bnd hm
 obtain ⟨⟨dA,bk⟩,cA,aU⟩:=q
 try dsimp only at aU
 refine zG 0 Z Z Z Z (zH Z Z Tryz.call63 (zB Z (zB Z zM)) Z) cY (fun hs=>wEZ p0 bb bg bd bh be bi bf bj [p1,p2] (some ⟨bG,0,none⟩) 2 bn bB hs cw cx cy cz dz cA) (.inr Z) ?_
 rintro av dE dT aT dN bP bM
 rcases dA with _ | x56
 try dsimp only at aU
 obtain ⟨rfl,rfl⟩:=bM
 have bQ:sW w U av [.blk ap 39 B3,.blk am 29 B2,.blk b6 29 B1,.blk b2 27 B0] aT:=bP
 refine oM Z Z (oR Z (ze Z Z (v:=.pointer none) Z) (oR Z (ze Z Z (v:=jV bk) Z) (oA Z Z (oA Z Z (eN (zJ (sR fL2 Z (oM Z Z (oR Z (Zo Z Z Z) (eN (ifc aU ?_ ?_)))))))))))
 intro bp du
 refine zr (Za (fun h=>h bp.out)) (kN (zJ (zx zn [3,1,2,1,2,0,0,3] gEg (by kernel_rfl) ?_)))
 have aZ:=bQ.drew
 generalize hw_W61:({ aT with drawn:=aT.drawn + 1 }:World)=bX at aZ ⊢
 refine oM Z Z (oL Z (aZ.ldBA (j:=2) Z Z Z Zh ZN (vs:=B1) Z Z) (oL Z (aZ.ldBA (j:=1) Z Z Z Zh ZN (vs:=B2) Z Z) (bnK du fun dW cC dv=>zG 0 Z Z Z Z (zH Z Z yl (zB Z zM) Z) aZ (fun hs=>wDF p1 bX av hs cC) (.inr Z) ?_)))
 rintro bC dF dU bF dO db ⟨rfl,rfl⟩
 have de:sW w U bC [.blk ap 39 B3,.blk am 29 B2,.blk b6 29 B1,.blk b2 27 B0] bF:=db
 refine bnK dv fun dX cD dw=>zG 0 Z Z Z Z (zH Z Z yl (zB Z zM) Z) de (fun hs=>wDF p2 bF bC hs cD) (.inr Z) ?_
 rintro bT dG dV bY dP df ⟨rfl,rfl⟩
 have dL:sW w U bT [.blk ap 39 B3,.blk am 29 B2,.blk b6 29 B1,.blk b2 27 B0] bY:=df
 cases dw
 intro bp dx
 refine cT Z bp (sR gDy Z (oR Z (ZC (pv:=[]) (z:=B3) (cs:=B3) Z wAU ZQ wCN Z Z) (oM Z Z (zY (j:=0) (vs:=B3) Z Z Z Z bQ Z Z Z Z zS (zA Z) Z Z Z ?_))))
 intro bZ dg
 have bR:sW w U av [.blk ap 39 B3,.blk am 29 B2,.blk b6 29 B1,.blk b2 27 B0] bZ:=dg
 refine oA Z Z (eN (zP (zN ?_)))
 cases dx
 exact ⟨rfl,_,(wCx (rs:=[.cell 6 39,.tmp 7]) (vs:=[.agg B3.toArray,jV bk]) ⟨⟨_,rfl,(wAs ZT zS (bR.blkAt (k:=0) rfl) (vs:=B3) rfl rfl)⟩,⟨rfl,trivial⟩⟩ rfl),av,_,(bR.pick [] _ (by decide) rfl),rfl,rfl⟩
 try dsimp only at aU
 obtain ⟨bo,br,bH,bs,bI,bu,bJ,bv,bK,az,aR,aQ,bw,bL,rfl,rfl,cE,cG,cH,cI,cJ,cK⟩:=bM
 let B4:Res:=.blk bo 139 [.slice br x56.Race.Starts.length bH,.slice bs x56.Race.Splits.length bI,.slice bu x56.Race.Clocks.length bJ,.slice bv x56.Race.Readings.length bK,.map (some az),.slice bw x56.edges.length bL]
 have bS:sW w U av [B4,.obj az (.map aR aQ),.blk ap 39 B3,.blk am 29 B2,.blk b6 29 B1,.blk b2 27 B0] aT:=bP
 refine oM Z Z (oR Z (ze Z Z (v:=.pointer (some ⟨bo,0,none⟩)) Z) (oR Z (ze Z Z (v:=jV bk) Z) (oA Z Z (oA Z Z (eN (zJ (sR fL2 Z (oM Z Z (oR Z (Zo Z Z Z) (eN (ifc aU ?_ ?_)))))))))))
 intro bq dy
 refine zr (Za (fun h=>h bq.out)) (kN (zJ (zx zn [3,1,2,1,2,0,0,3] gEg (by kernel_rfl) ?_)))
 have a0:=bS.drew
 generalize hw_W98:({ aT with drawn:=aT.drawn + 1 }:World)=b5 at a0 ⊢
 refine oM Z Z (oL Z (a0.ldBA (j:=4) Z Z Z Zh ZN (vs:=B1) Z Z) (oL Z (a0.ldBA (j:=3) Z Z Z Zh ZN (vs:=B2) Z Z) (bnK dy fun x99 b9 dp=>zG 0 Z Z Z Z (zH Z Z yl (zB Z zM) Z) a0 (fun hs=>wDF p1 b5 av hs b9) (.inr Z) ?_)))
 rintro bz dB dQ bD aV cL ⟨rfl,rfl⟩
 have cM:sW w U bz [B4,.obj az (.map aR aQ),.blk ap 39 B3,.blk am 29 B2,.blk b6 29 B1,.blk b2 27 B0] bD:=cL
 refine bnK dp fun x109 cb dq=>zG 0 Z Z Z Z (zH Z Z yl (zB Z zM) Z) cM (fun hs=>wDF p2 bD bz hs cb) (.inr Z) ?_
 rintro bA dC dR bE aW cO ⟨rfl,rfl⟩
 have cP:sW w U bA [B4,.obj az (.map aR aQ),.blk ap 39 B3,.blk am 29 B2,.blk b6 29 B1,.blk b2 27 B0] bE:=cO
 have cd:=cE.le aV
 have cf:=cd.le aW
 have cg:=cG.le aV
 have cj:=cg.le aW
 have cm:=cH.le aV
 have cn:=cm.le aW
 have cp:=cI.le aV
 have cq:=cp.le aW
 have cr:=cK.le aV
 have ct:=cr.le aW
 refine bnK dq fun x129 cu dr=>zG 2 Z Z Z Z (zH Z Z Tryz.call64 (zB Z (zB Z (zB Z zM))) Z) cP (fun hs=>wDK x56 bo br bH bs bI bu bJ bv bK az aR aQ bw bL x99 x109 bE bA hs cf cj cn cq cJ ct cu) (.inl Z) ?_
 rintro bm dD dS bU dM cQ ⟨rfl,rfl⟩
 have cR:sW w U bm [B4,.obj az (.map aR aQ),.blk ap 39 B3,.blk am 29 B2,.blk b6 29 B1,.blk b2 27 B0] bU:=cQ
 let B5:List Value:=[jV x129.Lo,jV x129.Hi]
 refine zY (j:=2) (vs:=B5) Z Z Z Z cR Z Z Z Z zS (zA Z) Z Z Z ?_
 intro bV cS
 have bN:sW w U bm [B4,.obj az (.map aR aQ),.blk ap 39 B5,.blk am 29 B2,.blk b6 29 B1,.blk b2 27 B0] bV:=cS
 refine oA Z Z (eN (zP ?_))
 cases dr
 exact ⟨rfl,_,(wCx (rs:=[.cell 6 39,.tmp 7]) (vs:=[.agg B5.toArray,jV 0]) ⟨⟨_,rfl,(wAs ZT zS (bN.blkAt (k:=2) rfl) (vs:=B5) rfl rfl)⟩,⟨rfl,trivial⟩⟩ rfl),bm,_,(bN.pick [] _ (by decide) rfl),rfl,rfl⟩
 intro bq dt
 refine cT Z bq (sR gDy Z (oR Z (ZC (pv:=[]) (z:=B3) (cs:=B3) Z wAU ZQ wCN Z Z) (oM Z Z (zY (j:=2) (vs:=B3) Z Z Z Z bS Z Z Z Z zS (zA Z) Z Z Z ?_))))
 intro bW cU
 have bO:sW w U av [B4,.obj az (.map aR aQ),.blk ap 39 B3,.blk am 29 B2,.blk b6 29 B1,.blk b2 27 B0] bW:=cU
 refine oA Z Z (eN (zP (zN ?_)))
 cases dt
 exact ⟨rfl,_,(wCx (rs:=[.cell 6 39,.tmp 7]) (vs:=[.agg B3.toArray,jV bk]) ⟨⟨_,rfl,(wAs ZT zS (bO.blkAt (k:=2) rfl) (vs:=B3) rfl rfl)⟩,⟨rfl,trivial⟩⟩ rfl),av,_,(bO.pick [] _ (by decide) rfl),rfl,rfl⟩
theorem wGY (p0:wAJ) (az:Option Addr) (aT:Nat) (aQ:Option Addr) (aU:Nat) (aR:Option Addr) (aV:Nat) (aS:Option Addr) (aW:Nat) (p1:wAP) (p2:wAP) (w:World) (U:PHeap) (hS:St0 w U []) (bT:Sl U 1 az aT p0.Starts.length (hH KL.encI p0.Starts)) (bU:Sl U 2 aQ aU p0.Splits.length (hH wAB p0.Splits)) (bV:Sl U 3 aR aV p0.Clocks.length (hH wAF p0.Clocks)) (bW:Sl U 4 aS aW p0.Readings.length (hH wAE p0.Readings)) {r:wAL × Int} (hm:wCM p0 p1 p2=some r):Gv Tryz.prog 17 [.agg #[.slice az p0.Starts.length aT,.slice aQ p0.Splits.length aU,.slice aR p0.Clocks.length aV,.slice aS p0.Readings.length aW],.agg #[jV p1.Skier,jV p1.Mat],.agg #[jV p2.Skier,jV p2.Mat]] w (wCq w [] U (fun U_ L_ v=>v=.tuple #[.agg #[jV r.1.Lo,jV r.1.Hi],jV r.2]/\L_=[])):=by
 unfold wCM at hm
 refine Gv.of Tryz.func17 Z Tryz.ntmps17 Tryz.results17 Z (sR gEb Z ?_)
 let B0:List Value:=[.slice az p0.Starts.length aT,.slice aQ p0.Splits.length aU,.slice aR p0.Clocks.length aV,.slice aS p0.Readings.length aW]
 refine zy (cs:=B0) rfl rfl rfl rfl rfl rfl (by rfl) hS ?_
 intro W1 b2 cU
 let B1:List Value:=[jV p1.Skier,jV p1.Mat]
 refine zy (cs:=B1) rfl rfl rfl rfl rfl rfl (by rfl) cU ?_
 intro W5 b6 cZ
 let B2:List Value:=[jV p2.Skier,jV p2.Mat]
 refine zy (cs:=B2) rfl rfl rfl rfl rfl rfl (by rfl) cZ ?_
 intro W9 aq cP
 let B3:List Value:=[jV 0,jV 0]
 refine zV (cs:=B3) Z Z Z Z Z ZQ Z cP ?_
 intro cf am bf
 refine oA Z Z (eN (zJ (sR (wEF gDj) Z (oL Z (bf.ldBA (j:=3) Z Z Z ZS ZH (vs:=B0) Z Z) (oL Z (bf.ldBA (j:=2) Z Z Z Tryz.isAgg44 Tryz.sizeOf44 (vs:=B1) Z Z) (oL Z (bf.ldBA (j:=1) Z Z Z Tryz.isAgg44 Tryz.sizeOf44 (vs:=B2) Z Z) (bnK hm fun dB ct dm=>zG 0 Z Z Z Z (zH Z Z Tryz.call46 (zB Z (zB Z (zB Z zM))) Z) bf (fun hs=>wEE p0 az aT aQ aU aR aV aS aW p1 p2 cf U hs bT bU bV bW ct) (.inr Z) ?_)))))))
 rintro bd dC dP bA bg cS ⟨rfl,rfl⟩
 have bs:sW w U bd [.blk am 39 B3,.blk aq 44 B2,.blk b6 44 B1,.blk b2 36 B0] bA:=cS
 refine oA Z Z (eN (sR fL2 Z (oM Z Z (oR Z (Zo Z Z Z) (eN (ifc dm ?_ ?_))))))
 intro bk dp
 refine zr (Za (fun h=>h bk.out)) (kN (sR gDo Z (oL Z (bs.ldBA (j:=3) Z Z Z ZS ZH (vs:=B0) Z Z) ?_)))
 have bI:=bT.le bg
 have bJ:=bU.le bg
 have bK:=bV.le bg
 have bL:=bW.le bg
 refine bnK dp fun x33 cu dq=>zG 0 Z Z Z Z (zH Z Z Tryz.call67 (zB Z zM) Z) bs (fun hs=>wCV p0 az aT aQ aU aR aV aS aW bA bd hs bI bJ bK bL cu) (.inr Z) ?_
 rintro cd dD dQ be bh cV ⟨bv,bC,bM,rfl,rfl⟩
 have cW:sW w U cd [.row bv bC 22 1 (hH wEf bM),inn 3 1 KL.encI bM x33,.blk am 39 B3,.blk aq 44 B2,.blk b6 44 B1,.blk b2 36 B0] be:=cV
 have q:=St.freezeN (R:=wMD) cW (fun _ _ _ _ h=>⟨_,_,rfl,h⟩) (fun _=>rfl) (by decide) rfl
 obtain ⟨bw,bi,dx,cX⟩:=q
 have cY:sW w U bw [.blk am 39 B3,.blk aq 44 B2,.blk b6 44 B1,.blk b2 36 B0] be:=cX
 refine yi rfl rfl rfl rfl rfl rfl (eN (zJ (zx zn [1,3,1,3,1,2,1,3,1,3,1,2,3,3] (wGG (wQw (.fx 5 (.fx 11 (.fl 12 (.fl 13 .nil)) .stop) .stop))) (by kernel_rfl) ?_)))
 have ap:=cY.drew
 generalize hw_W54:({ be with drawn:=be.drawn + 1 }:World)=cm at ap ⊢
 refine oL Z (ap.ldBA (j:=3) Z Z Z ZS ZH (vs:=B0) Z Z) (oR Z (zE Z Z yM Z zC) (oL Z (ap.ldB (j:=2) Z Z Z zF (v:=jV p1.Skier) Z) (oR Z (zE Z Z yM Z zC) (oL Z (ap.ldB (j:=2) Z Z Z zF (v:=jV p1.Mat) Z) (oL Z (ap.ldBA (j:=3) Z Z Z ZS ZH (vs:=B0) Z Z) (oR Z (zE Z Z yM Z zC) (oL Z (ap.ldB (j:=1) Z Z Z zF (v:=jV p2.Skier) Z) (oR Z (zE Z Z yM Z zC) (oL Z (ap.ldB (j:=1) Z Z Z zF (v:=jV p2.Mat) Z) ?_)))))))))
 have cw:=bI.le bh
 have bN:=cw.le bi
 have cx:=bJ.le bh
 have bO:=cx.le bi
 have cy:=bK.le bh
 have bP:=cy.le bi
 have cz:=bL.le bh
 have bQ:=cz.le bi
 refine bnK dq fun x63 cA dr=>zG 0 Z Z Z Z (zH Z Z Tryz.call68 (zB Z (zB Z (zB Z zM))) Z) ap (fun hs=>wAy p0 az aT aQ aU aR aV aS aW p1.Skier p1.Mat cm bw hs bN bO bP bQ cA) (.inr Z) ?_
 rintro bz dE dR bB ba da ⟨rfl,rfl⟩
 have db:sW w U bz [.blk am 39 B3,.blk aq 44 B2,.blk b6 44 B1,.blk b2 36 B0] bB:=da
 have cC:=bN.le ba
 have cD:=bO.le ba
 have cE:=bP.le ba
 have cG:=bQ.le ba
 refine bnK dr fun cb cH dt=>zG 0 Z Z Z Z (zH Z Z Tryz.call68 (zB Z (zB Z (zB Z zM))) Z) db (fun hs=>wAy p0 az aT aQ aU aR aV aS aW p2.Skier p2.Mat bB bz hs cC cD cE cG cH) (.inr Z) ?_
 rintro a0 dF dS bj dy de ⟨rfl,rfl⟩
 have df:sW w U a0 [.blk am 39 B3,.blk aq 44 B2,.blk b6 44 B1,.blk b2 36 B0] bj:=de
 refine oA Z Z (oA Z Z (eN (zJ (yj fun bb aY=>?_))))
 have bD:bb 6=.pointer (some ⟨am,0,none⟩):=(aY 6).trans rfl
 have dM:bb 7=jV 0:=(aY 7).trans rfl
 have bE:bb 9=.slice bv x33.length bC:=(aY 9).trans rfl
 have bF:bb 10=jV x63:=(aY 10).trans rfl
 have bG:bb 11=jV cb:=(aY 11).trans rfl
 clear aY
 refine zx zn [3,3,3,1,3,3,1,3,3,3,3,1,3,3,1,3,0,3] (wUJ (.fx 16 (.fl 17 .nil) .stop)) (by kernel_rfl) ?_
 have aX:=df.drew
 generalize hw_W95:({ bj with drawn:=bj.drawn + 1 }:World)=dJ at aX ⊢
 refine oM Z bE (oM Z bG (bnK dt fun x96 bp du=>?_))
 have cI:=dx.le ba
 have bH:=cI.le dy
 have q:=bH.el (wAR bp)
 obtain ⟨cn,dz,dT,cJ,bq,dv⟩:=q
 obtain ⟨bX,bZ,rfl,cq⟩:=dv
 replace bq:Cl a0 cn (dz + cb.toNat * 1) [.slice bX x96.length bZ]:=bq
 refine oR Z (ZB Z Z cJ Z zZ zW (wAv bp) (wAz bp)) (oL Z (aX.ldC (f:=0) bq (v:=.slice bX x96.length bZ) Z Z zX Z) (oM Z bF (bnK du fun bu bm dg=>?_)))
 have q:=cq.el (fun _=>rfl) (wAR bm)
 obtain ⟨dK,dN,cK,cN⟩:=q
 refine oR Z (ZB Z Z cK Z zD zC (wAv bm) (wAz bm)) (oL Z (aX.ldC (f:=0) cN (v:=jV bu) Z Z zF Z) (oR Z (yo Z Z) (oM Z bE (oM Z bF (bnK dg fun b9 bn dh=>?_)))))
 have q:=bH.el (wAR bn)
 obtain ⟨cp,dA,dU,cL,br,dw⟩:=q
 obtain ⟨bY,b5,rfl,cr⟩:=dw
 replace br:Cl a0 cp (dA + x63.toNat * 1) [.slice bY b9.length b5]:=br
 refine oR Z (ZB Z Z cL Z zZ zW (wAv bn) (wAz bn)) (oL Z (aX.ldC (f:=0) br (v:=.slice bY b9.length b5) Z Z zX Z) (oM Z bG (bnK dh fun x129 bo dk=>?_)))
 have q:=cr.el (fun _=>rfl) (wAR bo)
 obtain ⟨dL,dO,cM,cO⟩:=q
 refine oR Z (ZB Z Z cM Z zD zC (wAv bo) (wAz bo)) (oL Z (aX.ldC (f:=0) cO (v:=jV x129) Z Z zF Z) ?_)
 let B4:List Value:=[jV (w64 (-bu)),jV x129]
 refine oR Z (ZC (pv:=[(0,jV (w64 (-bu))),(1,jV x129)]) (z:=B3) (cs:=B4) Z (wAH Z (wAH Z wAU)) ZQ wCN Z Z) (zY (j:=0) (vs:=B4) Z Z Z Z aX Z bD Z Z zS (zA Z) Z Z Z ?_)
 intro cg cQ
 have bR:sW w U a0 [.blk am 39 B4,.blk aq 44 B2,.blk b6 44 B1,.blk b2 36 B0] cg:=cQ
 refine oA Z Z (eN (zP ?_))
 cases dk
 exact ⟨rfl,_,(wCx (rs:=[.cell 6 39,.tmp 7]) (vs:=[.agg B4.toArray,jV 0]) ⟨⟨_,bD,(wAs ZT zS (bR.blkAt (k:=0) rfl) (vs:=B4) rfl rfl)⟩,⟨rfl,trivial⟩⟩ rfl),a0,_,(bR.pick [] _ (by decide) rfl),rfl,rfl⟩
 intro bk dl
 refine cT Z bk (sR gDy Z (oR Z (ZC (pv:=[]) (z:=B3) (cs:=B3) Z wAU ZQ wCN Z Z) (oM Z Z (zY (j:=0) (vs:=B3) Z Z Z Z bs Z Z Z Z zS (zA Z) Z Z Z ?_))))
 intro cj cR
 have bS:sW w U bd [.blk am 39 B3,.blk aq 44 B2,.blk b6 44 B1,.blk b2 36 B0] cj:=cR
 refine oA Z Z (eN (zP (zN ?_)))
 cases dl
 exact ⟨rfl,_,(wCx (rs:=[.cell 6 39,.tmp 7]) (vs:=[.agg B3.toArray,jV dB]) ⟨⟨_,rfl,(wAs ZT zS (bS.blkAt (k:=0) rfl) (vs:=B3) rfl rfl)⟩,⟨rfl,trivial⟩⟩ rfl),bd,_,(bS.pick [] _ (by decide) rfl),rfl,rfl⟩
theorem wEy (p0:wAk) (ap:Nat) (az:Option Addr) (aS:Nat) (aQ:Option Addr) (aT:Nat) (aR:Option Addr) (aU:Nat) (be:Option Addr) (bh:Nat) (ab:Nat) (ae:Array MapEntry) (ah:Nat) (bf:Option Addr) (bi:Nat) (p1:List Int) (bg:Option Addr) (bj:Nat) (w:World) (U:PHeap) (hS:St0 w U [.blk ap 139 [.slice az p0.Race.Starts.length aS,.slice aQ p0.Race.Splits.length aT,.slice aR p0.Race.Clocks.length aU,.slice be p0.Race.Readings.length bh,.map (some ab),.slice bf p0.edges.length bi],.obj ab (.map ae ah)]) (gj:Sl U 1 az aS p0.Race.Starts.length (hH KL.encI p0.Race.Starts)) (gk:Sl U 2 aQ aT p0.Race.Splits.length (hH wAB p0.Race.Splits)) (gm:Sl U 3 aR aU p0.Race.Clocks.length (hH wAD p0.Race.Clocks)) (gp:Sl U 4 be bh p0.Race.Readings.length (hH wAC p0.Race.Readings)) (cP:MpR ae wBP wBV p0.number) (gq:Sl U 7 bf bi p0.edges.length (hH wAY p0.edges)) (bJ:Sl U 1 bg bj p1.length (hH KL.encI p1)) {r:(List (List Int)) × (List Int)} (hm:wCJ p0 p1=some r):Gv Tryz.prog 75 [.pointer (some ⟨ap,0,none⟩),.slice bg p1.length bj] w (wCq w [.blk ap 139 [.slice az p0.Race.Starts.length aS,.slice aQ p0.Race.Splits.length aT,.slice aR p0.Race.Clocks.length aU,.slice be p0.Race.Readings.length bh,.map (some ab),.slice bf p0.edges.length bi],.obj ab (.map ae ah)] U (fun U_ L_ v=>∃ (A0:Option Addr) (c0:Nat) (cr:List Value) (A1:Option Addr) (c1:Nat),v=.tuple #[.slice A0 r.1.length c0,.slice A1 r.2.length c1]/\L_=[.row A0 c0 22 1 cr,.row A1 c1 3 1 (hH KL.encI r.2),.blk ap 139 [.slice az p0.Race.Starts.length aS,.slice aQ p0.Race.Splits.length aT,.slice aR p0.Race.Clocks.length aU,.slice be p0.Race.Readings.length bh,.map (some ab),.slice bf p0.edges.length bi],.obj ab (.map ae ah)]/\RlL U_ wMD r.1 cr)):=by
 unfold wCJ at hm
 refine Gv.of Tryz.func75 Z Tryz.ntmps75 Tryz.results75 Z (sR fL2 Z (oA Z Z (oA Z Z (eN (sR fL4 Z (oM Z Z (bnK hm fun x3 h4 fG=>?_)))))))
 have q:=bJ.el (fun _=>rfl) (wAR h4)
 obtain ⟨b6,gv,eF,eI⟩:=q
 refine oR Z (ZP Z Z eF Z zD zC (wBi h4)) (oL Z (hS.ldC (f:=0) eI (v:=jV x3) Z Z zF Z) (oA Z Z (eN (sR fL1 Z (oA Z Z (eN (zJ (sR fL7 Z (oM Z Z (oR Z (Zz Z Z) (oR Z (zE Z Z ZK Z zl) (oR Z (zE Z Z zU Z zW) (oL Z (hS.ldB (j:=0) Z Z Z zX (v:=.slice az p0.Race.Starts.length aS) Z) (oR Z (zi Z Z zD) (oM Z Z (eN (zd (bnK fG fun fS fg fE=>?_))))))))))))))))))
 have q:=wCw fg
 obtain ⟨bO,fh⟩:=q
 replace bO:=zL bO
 let B0:Res:=.blk ap 139 [.slice az p0.Race.Starts.length aS,.slice aQ p0.Race.Splits.length aT,.slice aR p0.Race.Clocks.length aU,.slice be p0.Race.Readings.length bh,.map (some ab),.slice bf p0.edges.length bi]
 refine CK.forN' (fun ak bb σ_ w_=>∃ (U_:PHeap) (aX:Option Addr) (a0:Nat) (bs:List Value),σ_ 22=jV (↑ak:Int)/\σ_ 0=.pointer (some ⟨ap,0,none⟩)/\σ_ 1=.slice bg p1.length bj/\σ_ 6=jV x3/\σ_ 7=.slice aX bb.length a0/\σ_ 21=jV (↑p0.Race.Starts.length:Int)/\PHeap.Le U U_/\SW w [B0,.obj ab (.map ae ah)] U U_ [B0,.obj ab (.map ae ah),.row aX a0 22 1 bs] w_/\RlL U_ wMD bb bs) fh ?_ ?_ ?_
 have fb:=hS.nilrow 22 1
 exact ⟨U,none,0,[],rfl,rfl,rfl,rfl,rfl,rfl,(zQ _),(fb.pick [1,2,0] _ (by decide) rfl),RlL.nil⟩
 rintro ak bb gy gF fY bL ⟨b5,aX,a0,bs,bD,cC,dR,dS,dT,cD,cW,cO,eC⟩ fM
 have cq:Hid ((↑ak:Int) < (↑p0.Race.Starts.length:Int)):=zL (wBm bL)
 replace bL:=zL bL
 have fu:Hid (w64 ((↑ak:Int) + 1)=(↑(ak + 1):Int)):=zL (by have h1:=bO.out;have h2:=cq.out;rw [wAZ] <;> omega)
 refine sR fL1 Z (oR Z (zf Z bD cD) (eN (zJ (cT Z cq (kN (zJ (zd (sR fL2 Z (oM Z bD (oA Z Z (eN (sR fL1 Z (oA Z Z (eN (zJ (sR fL8 Z (oM Z cC (oR Z (Zz Z Z) (oR Z (zE Z Z ZK Z zl) (oR Z (zE Z Z zU Z Zg) (oL Z (cO.ldB (j:=0) Z Z Z Zl (v:=.slice aQ p0.Race.Splits.length aT) Z) (oR Z (zi Z Z ZD) (oR Z (zj Z Z Z) (oM Z Z (eN (zd (bnK fM fun au fj fH=>?_)))))))))))))))))))))))))))
 have q:=wCw fj
 obtain ⟨bP,fm⟩:=q
 replace bP:=zL bP
 let B1:Res:=.row aX a0 22 1 bs
 refine CK.forN' (fun am bd σ_ w_=>∃ (U_:PHeap) (bm:Option Addr) (br:Nat),σ_ 32=jV (↑am:Int)/\σ_ 0=.pointer (some ⟨ap,0,none⟩)/\σ_ 1=.slice bg p1.length bj/\σ_ 6=jV x3/\σ_ 7=.slice aX bb.length a0/\σ_ 8=jV (↑ak:Int)/\σ_ 9=.slice bm bd.length br/\σ_ 21=jV (↑p0.Race.Starts.length:Int)/\σ_ 22=jV (↑ak:Int)/\σ_ 31=jV (w64 ((↑p0.Race.Splits.length:Int) + 1))/\PHeap.Le b5 U_/\SW w [B0,.obj ab (.map ae ah)] U U_ [B0,.obj ab (.map ae ah),B1,.row bm br 3 1 (hH KL.encI bd)] w_) fm ?_ ?_ ?_
 have fc:=cO.nilrow 3 1
 exact ⟨b5,none,0,rfl,cC,dR,dS,dT,rfl,rfl,cD,bD,rfl,(zQ _),(fc.pick [1,2,3,0] _ (by decide) rfl)⟩
 rintro am bd gz gG fZ bM ⟨bz,bm,br,bE,cE,cG,cH,dU,cI,dV,dW,dX,cu,cX,bu⟩ fN
 have cf:Hid ((↑am:Int) < (w64 ((↑p0.Race.Splits.length:Int) + 1))):=zL (wBm bM)
 replace bM:=zL bM
 have fq:Hid (w64 ((↑am:Int) + 1)=(↑(am + 1):Int)):=zL (by have h1:=bP.out;have h2:=cf.out;rw [wAZ] <;> omega)
 refine sR fL1 Z (oR Z (zf Z bE cu) (eN (zJ (cT Z cf (kN (zJ (zd (sR fL2 Z (oM Z bE (oA Z Z (eN (rR (wPK (.fx 14 (.fx 15 (.fl 16 .nil) .stop) .stop)) Z (oM Z dV (oM Z cG (oM Z cE (oR Z (Zz Z Z) (oR Z (zE Z Z ZK Z Zw) (oL Z (bu.ldB (j:=0) Z Z Z yB (v:=.map (some ab)) Z) (oM Z cI (oM Z Z (oR Z (ZC (pv:=[(0,jV (↑ak:Int)),(1,jV (↑am:Int))]) (z:=[jV 0,jV 0]) (cs:=[jV (↑ak:Int),jV (↑am:Int)]) Z (wAH Z (wAH Z wAU)) zk wBl Z Z) (oL Z (bu.lookup1 (j:=1) (mk:=wBP) (mv:=wBV) (a:=(⟨(↑ak:Int),(↑am:Int)⟩:wAG)) (z:=0) Z Z Z Z (wBn ZF) wCr ZV cP) (bnK fN fun aV bF fw=>?_)))))))))))))))))))))))
 have d6:=bJ.le cW
 have d7:=d6.le cX
 have q:=d7.el (fun _=>rfl) (wAR bF)
 obtain ⟨ga,gt,eD,eG⟩:=q
 refine oR Z (ZB Z Z eD Z zD zC (wAv bF) (wAz bF)) (oL Z (bu.ldC (f:=0) eG (v:=jV aV) Z Z zF Z) (oM Z cH (oR Z (yV Z Z Z) (Zk (pv:=[(0,jV (w64 (aV - x3)))]) (zs:=[jV 0]) (cs:=[jV (w64 (aV - x3))]) Z Z Z Z Z (wAH Z wAU) zD zC ZV Z Z Z Z Z bu ?_))))
 intro df dt eJ
 let B2:Res:=.row (some ⟨dt,0,none⟩) 1 3 1 (hH KL.encI [w64 (aV - x3)])
 have cK:SW w [B0,.obj ab (.map ae ah)] U bz [B2,B0,.obj ab (.map ae ah),B1,.row bm br 3 1 (hH KL.encI bd)] df:=eJ
 refine bnK fw fun cY d8 fy=>ye (j:=4) (enc:=KL.encI) (xs:=bd) (ys:=[w64 (aV - x3)]) (zs:=cY) rfl rfl rfl rfl rfl Tryz.underlying22 wOq rfl rfl rfl rfl rfl rfl cK rfl rfl rfl (cK.srcR (j:=0) rfl (by decide) (wAI (f:=KL.encI) (sz:=1) (fun _=>rfl) [w64 (aV - x3)])) (fun _=>rfl) (fun _=>rfl) d8 rfl ?_
 intro bS cg dg eK
 have eL:SW w [B0,.obj ab (.map ae ah)] U bz [B2,B0,.obj ab (.map ae ah),B1,.row bS cg 3 1 (hH KL.encI cY)] dg:=eK
 refine oA Z Z (zw (ZE (zK (rR fL2 Z (oR Z (Zd (zj Z bE Z) (congrArg (jV) fq.out)) (oM Z Z (zw ?_)))))))
 cases fy
 exact zK ⟨rfl,⟨bz,bS,cg,rfl,cE,cG,cH,dU,cI,rfl,dW,dX,cu,cX,(eL.pick [1,2,3,4] _ (by decide) rfl)⟩⟩
 rintro gB dh ⟨fU,bv,bA,dY,dA,dB,dC,dD,gf,dE,dF,dG,dH,cR,eM⟩
 have dw:Hid (¬ ((↑((w64 ((↑p0.Race.Splits.length:Int) + 1):Int) - 0).toNat:Int) < (w64 ((↑p0.Race.Splits.length:Int) + 1)))):=zL (wBB)
 refine sR fL1 Z (oR Z (zf Z dY dH) (eN (zJ (cF Z dw (Zf (zo (zo (ZX (zK (rR (.fl 0 (.fl 1 gDr)) Z (oM Z dD (oM Z dE ?_))))))))))))
 have q:=eM.freezeR (k:=3) (n:=au.length) rfl (wAI (f:=KL.encI) (sz:=1) (fun _=>rfl) au) (by decide)
 obtain ⟨aZ,cS,fK,eP⟩:=q
 have eQ:SW w [B0,.obj ab (.map ae ah)] U aZ [B0,.obj ab (.map ae ah),B1] dh:=eP
 let B3:List Value:=[.slice bv au.length bA]
 refine Zk (pv:=[(0,.slice bv au.length bA)]) (zs:=[.slice none 0 0]) (cs:=B3) Z Z Z Z Z (wAH Z wAU) zZ zW Tryz.zeroValue22 Z Z Z Z Z eQ ?_
 intro dk du eO
 have cQ:RlL aZ wMD [au] B3:=(RlL.cons (R:=wMD) (x:=au) (vs:=B3) ⟨bv,bA,rfl,fK⟩ RlL.nil)
 let B4:Res:=.row (some ⟨du,0,none⟩) 1 22 1 B3
 have cL:SW w [B0,.obj ab (.map ae ah)] U aZ [B4,B0,.obj ab (.map ae ah),B1] dk:=eO
 refine bnK fH fun fQ d9 fz=>?_
 have ec:=eC.le cR
 have ef:=ec.le cS
 refine OKS.appendR (R:=wMD) (j:=3) (xs:=bb) (ys:=[au]) (zs:=fQ) rfl rfl rfl rfl rfl Tryz.underlying49 wQn rfl rfl rfl rfl rfl rfl rfl cL rfl rfl rfl ef cQ (cL.srcR (j:=0) rfl (by decide) (RlL.len cQ)) d9 rfl ?_
 intro bT cj ct dl eS fJ
 have eU:SW w [B0,.obj ab (.map ae ah)] U aZ [B4,B0,.obj ab (.map ae ah),.row bT cj 22 1 ct] dl:=eS
 refine oA Z Z (zw (ZE (zK (rR fL2 Z (oR Z (Zd (zj Z dG Z) (congrArg (jV) fu.out)) (oM Z Z (zw ?_)))))))
 cases fz
 exact zK ⟨rfl,⟨aZ,bT,cj,ct,rfl,dA,dB,dC,rfl,dF,((cW.trans cR).trans cS),(eU.pick [1,2,3] _ (by decide) rfl),fJ⟩⟩
 rintro gC fV ⟨bZ,bw,bB,cm,dZ,cw,dI,dJ,dK,dL,fO,cM,eg⟩
 have dx:Hid (¬ ((↑(((↑p0.Race.Starts.length:Int):Int) - 0).toNat:Int) < (↑p0.Race.Starts.length:Int))):=zL (wBB)
 refine sR fL1 Z (oR Z (zf Z dZ dL) (eN (zJ (cF Z dx (Zf (zo (zo (ZX (zK (sR fL1 Z (oA Z Z (eN (zJ (sR fL7 Z (oM Z cw (oR Z (Zz Z Z) (oR Z (zE Z Z ZK Z zl) (oR Z (zE Z Z zU Z yE) (oL Z (cM.ldB (j:=0) Z Z Z yH (v:=.slice aR p0.Race.Clocks.length aU) Z) (oR Z (zi Z Z ZW) (oM Z Z (eN (zd (bnK fE fun gA fd fA=>?_))))))))))))))))))))))))
 have q:=wCw fd
 obtain ⟨bN,ff⟩:=q
 replace bN:=zL bN
 let B5:Res:=.row bw bB 22 1 cm
 refine CK.forN' (fun av ba σ_ w_=>∃ (U_:PHeap) (bk:Option Addr) (bq:Nat),σ_ 63=jV (↑av:Int)/\σ_ 0=.pointer (some ⟨ap,0,none⟩)/\σ_ 1=.slice bg p1.length bj/\σ_ 6=jV x3/\σ_ 7=.slice bw fS.length bB/\σ_ 11=.slice bk ba.length bq/\σ_ 62=jV (↑p0.Race.Clocks.length:Int)/\PHeap.Le bZ U_/\SW w [B0,.obj ab (.map ae ah)] U U_ [B0,.obj ab (.map ae ah),B5,.row bk bq 3 1 (hH KL.encI ba)] w_) ff ?_ ?_ ?_
 have eV:=cM.nilrow 3 1
 exact ⟨bZ,none,0,rfl,cw,dI,dJ,dK,rfl,rfl,(zQ _),(eV.pick [1,2,3,0] _ (by decide) rfl)⟩
 rintro av ba gx gD b9 bK ⟨db,bk,bq,bC,cx,cy,cz,dM,dN,cA,cU,eW⟩ fL
 have cn:Hid ((↑av:Int) < (↑p0.Race.Clocks.length:Int)):=zL (wBm bK)
 replace bK:=zL bK
 have ft:Hid (w64 ((↑av:Int) + 1)=(↑(av + 1):Int)):=zL (by have h1:=bN.out;have h2:=cn.out;rw [wAZ] <;> omega)
 refine sR fL1 rfl (zq rfl rfl rfl rfl (fun _=>zf rfl bC cA) (eN (zJ (cT Z cn (kN (zJ (zd (sR fL2 rfl (ZJ rfl rfl rfl rfl rfl bC (yi rfl rfl rfl rfl rfl rfl (eN (zx zn [3,3,3,3,3,3,1,3,2,1,3,1,3,2,0,3] (fC0_7 (.fx 8 (wEj (.fx 13 gDl .stop)) .stop)) (by kernel_rfl) ?_))))))))))))
 have bH:=eW.drew
 generalize hw_W242:({ b9 with drawn:=b9.drawn + 1 }:World)=dm at bH ⊢
 refine oM Z dN (oM Z cz (oM Z cy (oM Z cx (oR Z (Zz Z Z) (oR Z (zE Z Z ZK Z Zw) (oL Z (bH.ldB (j:=0) Z Z Z yB (v:=.map (some ab)) Z) (oM Z Z (bnK fL fun fR eh fB=>zG 0 Z Z Z Z (zH Z Z Tryz.call70 (zB Z zM) Z) bH (fun hs=>wBy (↑av:Int) dm db hs eh) (.inr Z) ?_))))))))
 rintro bp fT gw dp cV eX ⟨rfl,rfl⟩
 let B6:Res:=.row bk bq 3 1 (hH KL.encI ba)
 have bI:SW w [B0,.obj ab (.map ae ah)] U bp [B0,.obj ab (.map ae ah),B5,B6] dp:=eX
 refine oL Z (bI.lookup1 (j:=1) (mk:=wBP) (mv:=wBV) (a:=fR) (z:=0) Z Z Z Z (wBn ZF) wCr ZV cP) (bnK fB fun aW bG fC=>?_)
 have ej:=bJ.le fO
 have en:=ej.le cU
 have eu:=en.le cV
 have q:=eu.el (fun _=>rfl) (wAR bG)
 obtain ⟨gb,gu,eE,eH⟩:=q
 refine oR Z (ZB Z Z eE Z zD zC (wAv bG) (wAz bG)) (oL Z (bI.ldC (f:=0) eH (v:=jV aW) Z Z zF Z) (oR Z (yV Z Z Z) (Zk (pv:=[(0,jV (w64 (x3 - aW)))]) (zs:=[jV 0]) (cs:=[jV (w64 (x3 - aW))]) Z Z Z Z Z (wAH Z wAU) zD zC ZV Z Z Z Z Z bI ?_)))
 intro dq dv eY
 let B7:Res:=.row (some ⟨dv,0,none⟩) 1 3 1 (hH KL.encI [w64 (x3 - aW)])
 have cN:SW w [B0,.obj ab (.map ae ah)] U bp [B7,B0,.obj ab (.map ae ah),B5,B6] dq:=eY
 refine bnK fC fun cZ ey fD=>ye (j:=4) (enc:=KL.encI) (xs:=ba) (ys:=[w64 (x3 - aW)]) (zs:=cZ) rfl rfl rfl rfl rfl Tryz.underlying22 wOq rfl rfl rfl rfl rfl rfl cN rfl rfl rfl (cN.srcR (j:=0) rfl (by decide) (wAI (f:=KL.encI) (sz:=1) (fun _=>rfl) [w64 (x3 - aW)])) (fun _=>rfl) (fun _=>rfl) ey rfl ?_
 intro bU cp dr eZ
 have e8:SW w [B0,.obj ab (.map ae ah)] U bp [B7,B0,.obj ab (.map ae ah),B5,.row bU cp 3 1 (hH KL.encI cZ)] dr:=eZ
 refine oA Z Z (zw (ZE (zK (rR fL2 Z (oR Z (Zd (zj Z bC Z) (congrArg (jV) ft.out)) (oM Z Z (zw ?_)))))))
 cases fD
 exact zK ⟨rfl,⟨bp,bU,cp,rfl,cx,cy,cz,dM,rfl,cA,(cU.trans cV),(e8.pick [1,2,3,4] _ (by decide) rfl)⟩⟩
 rintro gE fW ⟨de,da,dy,d5,gg,gh,gi,dO,dP,dQ,fP,e9⟩
 have dz:Hid (¬ ((↑(((↑p0.Race.Clocks.length:Int):Int) - 0).toNat:Int) < (↑p0.Race.Clocks.length:Int))):=zL (wBB)
 refine sR fL1 Z (oR Z (zf Z d5 dQ) (eN (zJ (cF Z dz (Zf (zo (zo (ZX (zK (sR fL4 Z (oM Z dO (oM Z dP (oA Z Z (oA Z Z (eN (zP ?_))))))))))))))))
 have eA:=eg.le fP
 cases fA
 exact ⟨rfl,_,(wHO rfl rfl),de,_,(e9.pick [2,3,0,1] _ (by decide) rfl),bw,bB,cm,da,dy,rfl,rfl,eA⟩
end Go.Proofs.YtlnfbjphfoipaaaGreat
namespace Go.Proofs.YtlnfbjphfoipaaaGreat
open Go.KL
set_option maxHeartbeats 4000000
theorem wKN (p0:wAA) (cM:Option Addr) (cQ:Nat) (cN:Option Addr) (cR:Nat) (cO:Option Addr) (cS:Nat) (cP:Option Addr) (cU:Nat) (p1:wAM) (p2:wAM) (p3:Bool) (w:World) (U:PHeap) (hS:St0 w U []) (jt:Sl U 1 cM cQ p0.Starts.length (hH KL.encI p0.Starts)) (ju:Sl U 2 cN cR p0.Splits.length (hH wAB p0.Splits)) (jv:Sl U 3 cO cS p0.Clocks.length (hH wAD p0.Clocks)) (jw:Sl U 4 cP cU p0.Readings.length (hH wAC p0.Readings)) {r:(List (List Int)) × (List Int) × Int} (hm:wDS p0 p1 p2 p3=some r):Gv Tryz.prog 18 [.agg #[.slice cM p0.Starts.length cQ,.slice cN p0.Splits.length cR,.slice cO p0.Clocks.length cS,.slice cP p0.Readings.length cU],.agg #[jV p1.Skier,jV p1.Mat],.agg #[jV p2.Skier,jV p2.Mat],.bool p3] w (wCq w [] U (fun U_ L_ v=>∃ (A0:Option Addr) (c0:Nat) (eO:List Value) (A1:Option Addr) (c1:Nat),v=.tuple #[.slice A0 r.1.length c0,.slice A1 r.2.1.length c1,jV r.2.2]/\L_=[.row A0 c0 22 1 eO,.row A1 c1 3 1 (hH KL.encI r.2.1)]/\RlL U_ wMD r.1 eO)):=by
 unfold wDS at hm
 refine Gv.of Tryz.func18 Z Tryz.ntmps18 Tryz.results18 Z (sR (.fx 0 (.fx 1 (.fx 2 (wLe (.nil)) .stop) .stop) .stop) Z ?_)
 let B0:List Value:=[.slice cM p0.Starts.length cQ,.slice cN p0.Splits.length cR,.slice cO p0.Clocks.length cS,.slice cP p0.Readings.length cU]
 refine zy (cs:=B0) rfl rfl rfl rfl rfl rfl (by rfl) hS ?_
 intro W1 b2 iK
 let B1:List Value:=[jV p1.Skier,jV p1.Mat]
 refine zy (cs:=B1) rfl rfl rfl rfl rfl rfl (by rfl) iK ?_
 intro W5 b6 jr
 let B2:List Value:=[jV p2.Skier,jV p2.Mat]
 refine zy (cs:=B2) rfl rfl rfl rfl rfl rfl (by rfl) jr ?_
 intro W9 aj cD
 refine oA Z Z (oA Z Z (oA Z Z (eN (sR (wEF (.fx 3 (.fx 4 (wJj (.nil)) .stop) .stop)) Z (oL Z (cD.ldBA (j:=2) Z Z Z ZA zl (vs:=B0) Z Z) (oL Z (cD.ldBA (j:=1) Z Z Z Zh ZN (vs:=B1) Z Z) (oL Z (cD.ldBA (j:=0) Z Z Z Zh ZN (vs:=B2) Z Z) (Zk (pv:=[(0,.agg B1.toArray),(1,.agg B2.toArray)]) (zs:=[jV 0,jV 0,jV 0,jV 0]) (cs:=[jV p1.Skier,jV p1.Mat,jV p2.Skier,jV p2.Mat]) Z Z Z Z Z (wAH Z (wAH Z wAU)) Tryz.runUnderlying56 ZN Tryz.zeroValue29 Z Z Z Z Z cD ?_))))))))
 intro dp eG ii
 have il:sW w U U [.row (some ⟨eG,0,none⟩) 2 29 2 (hH wBx [p1,p2]),.blk aj 29 B2,.blk b6 29 B1,.blk b2 27 B0] dp:=ii
 have q:=il.freezeR (k:=0) (n:=[p1,p2].length) rfl (wAI (f:=wBx) (sz:=2) (fun _=>rfl) [p1,p2]) (by decide)
 obtain ⟨eg,cL,jJ,iv⟩:=q
 have iz:sW w U eg [.blk aj 29 B2,.blk b6 29 B1,.blk b2 27 B0] dp:=iv
 have ga:=jt.le cL
 have gi:=ju.le cL
 have gj:=jv.le cL
 have gk:=jw.le cL
 have q:=bnd hm
 obtain ⟨⟨x27,fd⟩,gB,bI⟩:=q
 try dsimp only at bI
 refine zG 0 Z Z Z Z (zH Z Z Tryz.call63 (zB Z (zB Z zM)) Z) iz (fun hs=>wEZ p0 cM cQ cN cR cO cS cP cU [p1,p2] (some ⟨eG,0,none⟩) 2 dp eg hs ga gi gj gk jJ gB) (.inr Z) ?_
 rintro aT j8 lI bs lz eW eS
 rcases x27 with _ | au
 try dsimp only at bI
 obtain ⟨rfl,rfl⟩:=eS
 have cE:sW w U aT [.blk aj 29 B2,.blk b6 29 B1,.blk b2 27 B0] bs:=eW
 refine oM Z Z (oR Z (ze Z Z (v:=.pointer none) Z) (oR Z (ze Z Z (v:=jV fd) Z) (oA Z Z (oA Z Z (eN (zJ (sR fL2 Z (oM Z Z (oR Z (Zo Z Z Z) (eN (ifc bI ?_ ?_)))))))))))
 intro dz jB
 refine zr (Za (fun h=>h dz.out)) (kN (zJ (sR fL2 Z (oM Z Z (oR Z (Zm Z Z) (eN (ifc jB ?_ ?_)))))))
 intro dA jC
 refine zr (nC dA.out) (kN (zJ (zx zn [3,3,3,3,1,1,2,1,0,3,3,3,3,2,0,3,3] (wHD (.fx 6 (.fl 7 (.fx 8 (wEj gDz) (.fx 13 (.fx 8 (wEj gDs) (.stop)) (.stop)))) (.fx 13 (.fx 6 (.fl 7 (.fx 8 (wEj gDs) (.stop))) (.stop)) (.stop)))) (by kernel_rfl) ?_)))
 have jk:=cE.drew
 generalize hw_W59:({ bs with drawn:=bs.drawn + 1 }:World)=lv at jk ⊢
 refine oM Z Z (oM Z Z ?_)
 cases jC
 intro dA jD
 refine ZG (nF (dA.out)) (rR gDg Z (oL Z (cE.ldBA (j:=0) Z Z Z Zh ZN (vs:=B2) Z Z) (zY (j:=1) (vs:=B2) Z Z Z Z cE Z Z Z Z ZN (zA Z) Z Z Z ?_)))
 intro du jl
 have jm:sW w U aT [.blk aj 29 B2,.blk b6 29 B2,.blk b2 27 B0] du:=jl
 refine eN (zJ (zx zn [3,3,3,3,1,1,2,1,0,3,3,3,3,2,0,3,3] (wHD (.fx 6 (.fl 7 (.fx 8 (wEj gDz) (.fx 13 (.fx 8 (wEj gDs) (.stop)) (.stop)))) (.fx 13 (.fx 6 (.fl 7 (.fx 8 (wEj gDs) (.stop))) (.stop)) (.stop)))) (by kernel_rfl) ?_))
 have jo:=jm.drew
 generalize hw_W65:({ du with drawn:=du.drawn + 1 }:World)=lw at jo ⊢
 refine oM Z Z (oM Z Z ?_)
 cases jD
 intro dz jE
 refine cT Z dz (sR fL4 Z (oM Z Z (oA Z Z (oA Z Z (oA Z Z (eN (zP (zN ?_))))))))
 have jp:=cE.nilrow 22 1
 have jq:=jp.nilrow 3 1
 cases jE
 exact ⟨rfl,_,(res3 rfl rfl rfl),aT,_,(jq.pick [1,0] _ (by decide) rfl),none,0,[],none,0,rfl,rfl,RlL.nil⟩
 try dsimp only at bI
 obtain ⟨aU,aY,bd,aZ,be,a0,bf,ba,bg,ab,ah,ae,bb,bh,rfl,rfl,bi,bj,bk,bm,aV,bn⟩:=eS
 let B3:Res:=.blk aU 139 [.slice aY au.Race.Starts.length bd,.slice aZ au.Race.Splits.length be,.slice a0 au.Race.Clocks.length bf,.slice ba au.Race.Readings.length bg,.map (some ab),.slice bb au.edges.length bh]
 have cG:sW w U aT [B3,.obj ab (.map ah ae),.blk aj 29 B2,.blk b6 29 B1,.blk b2 27 B0] bs:=eW
 refine oM Z Z (oR Z (ze Z Z (v:=.pointer (some ⟨aU,0,none⟩)) Z) (oR Z (ze Z Z (v:=jV fd) Z) (oA Z Z (oA Z Z (eN (zJ (sR fL2 Z (oM Z Z (oR Z (Zo Z Z Z) (eN (ifc bI ?_ ?_)))))))))))
 intro dB jG
 refine zr (Za (fun h=>h dB.out)) (kN (zJ (sR fL2 Z (oM Z Z (oR Z (Zm Z Z) (eN (ifc jG ?_ ?_)))))))
 intro dC jH
 refine zr (nC dC.out) (kN ?_)
 have q:=bnd jH
 obtain ⟨⟨bp,cK⟩,jN,fb⟩:=q
 try dsimp only at fb
 refine yQ (fun σ_ w_=>∃ (U_:PHeap) (cm:Nat) (br:Option Addr) (bv:Nat) (bB:Option Addr) (bF:Nat),σ_ 11=.pointer (some ⟨aU,0,none⟩)/\σ_ 13=.pointer (some ⟨cm,0,none⟩)/\PHeap.Le aT U_/\sW w U U_ [B3,.obj ab (.map ah ae),.blk aj 29 B2,.blk b6 29 B1,.blk b2 27 B0,.blk cm 133 [.slice br bp.length bv,.slice bB cK.length bF],.row br bv 3 1 (hH KL.encI bp),.row bB bF 3 1 (hH KL.encI cK)] w_) ?_ ?_
 refine bnK jN fun x95 eQ jx=>?_
 have q:=bnd jx
 obtain ⟨⟨az,x111,x112⟩,dD,cH⟩:=q
 try dsimp only at cH
 refine zx zn [3,3,3,3,1,1,2,1,0,3,3,3,3,2,0,3,3] (wHD (.fx 6 (.fl 7 (.fx 8 (wEj gDz) (.fx 13 (.fx 8 (wEj gDs) (.stop)) (.stop)))) (.fx 13 (.fx 6 (.fl 7 (.fx 8 (wEj gDs) (.stop))) (.stop)) (.stop)))) (by kernel_rfl) ?_
 have bG:=cG.drew
 generalize hw_W138:({ bs with drawn:=bs.drawn + 1 }:World)=fh at bG ⊢
 refine oM Z Z (oM Z Z (oR Z (Zz Z Z) (oR Z (zE Z Z ZK Z Zw) (oL Z (bG.ldB (j:=0) Z Z Z yB (v:=.map (some ab)) Z) (oL Z (bG.ldBA (j:=3) Z Z Z Zh ZN (vs:=B1) Z Z) (zt ?_ ?_))))))
 refine zG 0 Z Z Z Z (zH Z Z yl (zB Z zM) Z) bG (fun hs=>wDF p1 fh aT hs eQ) (.inr Z) ?_
 rintro cb jY lB ey aW ig ⟨rfl,rfl⟩
 have dF:sW w U cb [B3,.obj ab (.map ah ae),.blk aj 29 B2,.blk b6 29 B1,.blk b2 27 B0] ey:=ig
 refine oL Z (dF.lookup1 (j:=1) (mk:=wBP) (mv:=wBV) (a:=x95) (z:=0) Z Z Z Z (wBn ZF) wCr ZV aV) (zt ?_ ?_)
 have fP:=bi.le aW
 have fQ:=bj.le aW
 have fR:=bk.le aW
 have fS:=bm.le aW
 have fT:=bn.le aW
 refine zG 2 Z Z Z Z (zH Z Z yc (zB Z (zB Z (zB Z zM))) Z) dF (fun hs=>wAi au aU aY bd aZ be a0 bf ba bg ab ah ae bb bh (wAt au.number x95 0) false ey cb hs fP fQ fR fS aV fT dD) (.inl Z) ?_
 rintro db jZ lD fj jO ij ⟨bO,cn,bP,cp,rfl,rfl⟩
 let B4:Res:=.row bO cn 3 1 (hH KL.encI az.far)
 let B5:Res:=.row bP cp 3 1 (hH KL.encI az.by_)
 have ik:sW w U db [B4,B5,B3,.obj ab (.map ah ae),.blk aj 29 B2,.blk b6 29 B1,.blk b2 27 B0] fj:=ij
 refine oM Z Z (oR Z (ze Z Z (v:=.agg #[.slice bO az.far.length cn,.slice bP az.by_.length cp]) Z) (oR Z (ze Z Z (v:=jV x111) Z) (oR Z (ze Z Z (v:=.bool x112) Z) (zV (cs:=[.slice none 0 0,.slice none 0 0]) Z Z Z Z Z ZY Z ik ?_))))
 intro lp eH im
 let B6:List Value:=[.slice bO az.far.length cn,.slice bP az.by_.length cp]
 refine zY (j:=0) (vs:=B6) Z Z Z Z im Z Z Z Z Zq (zA Z) Z Z Z ?_
 intro fm io
 have ip:sW w U db [.blk eH 133 B6,B4,B5,B3,.obj ab (.map ah ae),.blk aj 29 B2,.blk b6 29 B1,.blk b2 27 B0] fm:=io
 refine oA Z Z (oA Z Z (zw ?_))
 cases cH
 exact zK ⟨rfl,⟨db,eH,bO,cn,bP,cp,rfl,rfl,(aW.trans jO),(ip.pick [3,4,5,6,7,0,1,2] _ (by decide) rfl)⟩⟩
 let B7:List Value:=[.slice none 0 0,.slice none 0 0]
 refine zV (cs:=B7) Z Z Z Z Z ZY Z dF ?_
 intro eA cf iq
 have fU:=bi.le aW
 have fV:=bj.le aW
 have fW:=bk.le aW
 have fY:=bm.le aW
 have fZ:=bn.le aW
 have ir:sW w U cb [B3,.obj ab (.map ah ae),.blk cf 133 B7,.blk aj 29 B2,.blk b6 29 B1,.blk b2 27 B0] eA:=iq.pick [1,2,0,3,4,5] _ (by decide) rfl
 refine zG 2 Z Z Z Z (zH Z Z yc (zB Z (zB Z (zB Z zM))) Z) ir (fun hs=>wAi au aU aY bd aZ be a0 bf ba bg ab ah ae bb bh (wAt au.number x95 0) false eA cb hs fU fV fW fY aV fZ dD) (.inl Z) ?_
 rintro de j0 lE fq jP it ⟨bQ,cq,bR,cr,rfl,rfl⟩
 let B8:Res:=.row bQ cq 3 1 (hH KL.encI az.far)
 let B9:Res:=.row bR cr 3 1 (hH KL.encI az.by_)
 have iu:sW w U de [B8,B9,B3,.obj ab (.map ah ae),.blk cf 133 B7,.blk aj 29 B2,.blk b6 29 B1,.blk b2 27 B0] fq:=it
 refine oM Z Z (oR Z (ze Z Z (v:=.agg #[.slice bQ az.far.length cq,.slice bR az.by_.length cr]) Z) (oR Z (ze Z Z (v:=jV x111) Z) (oR Z (ze Z Z (v:=.bool x112) Z) ?_)))
 let dL:List Value:=[.slice bQ az.far.length cq,.slice bR az.by_.length cr]
 refine zY (j:=4) (vs:=dL) Z Z Z Z iu Z Z Z Z Zq (zA Z) Z Z Z ?_
 intro ft iw
 have iy:sW w U de [B8,B9,B3,.obj ab (.map ah ae),.blk cf 133 dL,.blk aj 29 B2,.blk b6 29 B1,.blk b2 27 B0] ft:=iw
 refine oA Z Z (oA Z Z (zw ?_))
 cases cH
 exact zK ⟨rfl,⟨de,cf,bQ,cq,bR,cr,rfl,rfl,(aW.trans jP),(iy.pick [2,3,5,6,7,4,0,1] _ (by decide) rfl)⟩⟩
 let b5:List Value:=[.slice none 0 0,.slice none 0 0]
 refine zV (cs:=b5) Z Z Z Z Z ZY Z bG ?_
 intro fu bC iA
 refine zG 0 Z Z Z Z (zH Z Z yl (zB Z zM) Z) iA (fun hs=>wDF p1 fu aT hs eQ) (.inr Z) ?_
 rintro df j5 lF dq bw iB ⟨rfl,rfl⟩
 have eU:sW w U df [.blk bC 133 b5,B3,.obj ab (.map ah ae),.blk aj 29 B2,.blk b6 29 B1,.blk b2 27 B0] dq:=iB
 refine oL Z (eU.lookup1 (j:=2) (mk:=wBP) (mv:=wBV) (a:=x95) (z:=0) Z Z Z Z (wBn ZF) wCr ZV aV) ?_
 have gb:=bi.le bw
 have ge:=bj.le bw
 have gf:=bk.le bw
 have gg:=bm.le bw
 have gh:=bn.le bw
 have iC:sW w U df [B3,.obj ab (.map ah ae),.blk bC 133 b5,.blk aj 29 B2,.blk b6 29 B1,.blk b2 27 B0] dq:=eU.pick [1,2,0,3,4,5] _ (by decide) rfl
 refine zG 2 Z Z Z Z (zH Z Z yc (zB Z (zB Z (zB Z zM))) Z) iC (fun hs=>wAi au aU aY bd aZ be a0 bf ba bg ab ah ae bb bh (wAt au.number x95 0) false dq df hs gb ge gf gg aV gh dD) (.inl Z) ?_
 rintro dg j6 lG fw jQ iD ⟨bS,ct,bT,cu,rfl,rfl⟩
 let dM:Res:=.row bS ct 3 1 (hH KL.encI az.far)
 let dN:Res:=.row bT cu 3 1 (hH KL.encI az.by_)
 have iE:sW w U dg [dM,dN,B3,.obj ab (.map ah ae),.blk bC 133 b5,.blk aj 29 B2,.blk b6 29 B1,.blk b2 27 B0] fw:=iD
 refine oM Z Z (oR Z (ze Z Z (v:=.agg #[.slice bS az.far.length ct,.slice bT az.by_.length cu]) Z) (oR Z (ze Z Z (v:=jV x111) Z) (oR Z (ze Z Z (v:=.bool x112) Z) ?_)))
 let dO:List Value:=[.slice bS az.far.length ct,.slice bT az.by_.length cu]
 refine zY (j:=4) (vs:=dO) Z Z Z Z iE Z Z Z Z Zq (zA Z) Z Z Z ?_
 intro fy iF
 have iG:sW w U dg [dM,dN,B3,.obj ab (.map ah ae),.blk bC 133 dO,.blk aj 29 B2,.blk b6 29 B1,.blk b2 27 B0] fy:=iF
 refine oA Z Z (oA Z Z (zw ?_))
 cases cH
 exact zK ⟨rfl,⟨dg,bC,bS,ct,bT,cu,rfl,rfl,(bw.trans jQ),(iG.pick [2,3,5,6,7,4,0,1] _ (by decide) rfl)⟩⟩
 rintro lP eC ⟨lj,cm,br,bv,bB,bF,fL,fM,bJ,eV⟩
 refine sR (wEF (.fx 3 (wSb (.nil)) .stop)) Z (oM Z fL (oR Z (zE Z fM ZU Z zW) (oL Z (eV.ldB (j:=5) Z Z Z zX (v:=.slice br bp.length bv) Z) ?_)))
 have q:=eV.freezeR (k:=6) (n:=bp.length) rfl (wAI (f:=KL.encI) (sz:=1) (fun _=>rfl) bp) (by decide)
 obtain ⟨eh,bK,jK,iH⟩:=q
 let dP:Res:=.blk cm 133 [.slice br bp.length bv,.slice bB cK.length bF]
 let dQ:Res:=.row bB bF 3 1 (hH KL.encI cK)
 have iI:sW w U eh [B3,.obj ab (.map ah ae),.blk aj 29 B2,.blk b6 29 B1,.blk b2 27 B0,dP,dQ] eC:=iH
 have gm:=bi.le bJ
 have gp:=gm.le bK
 have gq:=bj.le bJ
 have gt:=gq.le bK
 have gu:=bk.le bJ
 have gv:=gu.le bK
 have gw:=bm.le bJ
 have gx:=gw.le bK
 have gy:=bn.le bJ
 have gz:=gy.le bK
 have q:=bnd fb
 obtain ⟨⟨jW,ff⟩,gA,eZ⟩:=q
 try dsimp only at eZ
 refine zG 2 Z Z Z Z (zH Z Z Tryz.call75 (zB Z (zB Z zM)) Z) iI (fun hs=>wEy au aU aY bd aZ be a0 bf ba bg ab ah ae bb bh bp br bv eC eh hs gp gt gv gx aV gz jK gA) (.inl Z) ?_
 rintro ej j7 lH fz ly iJ ⟨cV,dv,eL,cW,dw,rfl,rfl,gC⟩
 have iL:sW w U ej [.row cV dv 22 1 eL,.row cW dw 3 1 (hH KL.encI ff),B3,.obj ab (.map ah ae),.blk aj 29 B2,.blk b6 29 B1,.blk b2 27 B0,dP,dQ] fz:=iJ
 refine oM Z Z (oR Z (ze Z Z (v:=.slice cV jW.length dv) Z) (oR Z (ze Z Z (v:=.slice cW ff.length dw) Z) (oA Z Z (oA Z Z (eN (sR fL5 Z (oM Z Z (oM Z Z (oA Z Z (oA Z Z (oA Z Z (eN (zP ?_)))))))))))))
 cases eZ
 exact ⟨rfl,_,(res3 rfl rfl rfl),ej,_,(iL.pick [0,1] _ (by decide) rfl),cV,dv,eL,cW,dw,rfl,rfl,gC⟩
 intro dC jy
 refine ZG (nF (dC.out)) (rR gDg Z (oL Z (cG.ldBA (j:=2) Z Z Z Zh ZN (vs:=B2) Z Z) (zY (j:=3) (vs:=B2) Z Z Z Z cG Z Z Z Z ZN (zA Z) Z Z Z ?_)))
 intro dr iM
 have iN:sW w U aT [B3,.obj ab (.map ah ae),.blk aj 29 B2,.blk b6 29 B2,.blk b2 27 B0] dr:=iM
 refine eN ?_
 have q:=bnd jy
 obtain ⟨⟨bo,cJ⟩,jM,e8⟩:=q
 try dsimp only at e8
 refine yQ (fun σ_ w_=>∃ (U_:PHeap) (cg:Nat) (bq:Option Addr) (bu:Nat) (bA:Option Addr) (bE:Nat),σ_ 11=.pointer (some ⟨aU,0,none⟩)/\σ_ 13=.pointer (some ⟨cg,0,none⟩)/\PHeap.Le aT U_/\sW w U U_ [B3,.obj ab (.map ah ae),.blk aj 29 B2,.blk b6 29 B2,.blk b2 27 B0,.blk cg 133 [.slice bq bo.length bu,.slice bA cJ.length bE],.row bq bu 3 1 (hH KL.encI bo),.row bA bE 3 1 (hH KL.encI cJ)] w_) ?_ ?_
 refine bnK jM fun bN eP jz=>?_
 have q:=bnd jz
 obtain ⟨⟨aQ,dH,dI⟩,dE,cI⟩:=q
 try dsimp only at cI
 refine zx zn [3,3,3,3,1,1,2,1,0,3,3,3,3,2,0,3,3] (wHD (.fx 6 (.fl 7 (.fx 8 (wEj gDz) (.fx 13 (.fx 8 (wEj gDs) (.stop)) (.stop)))) (.fx 13 (.fx 6 (.fl 7 (.fx 8 (wEj gDs) (.stop))) (.stop)) (.stop)))) (by kernel_rfl) ?_
 have bH:=iN.drew
 generalize hw_W364:({ dr with drawn:=dr.drawn + 1 }:World)=fA at bH ⊢
 refine oM Z Z (oM Z Z (oR Z (Zz Z Z) (oR Z (zE Z Z ZK Z Zw) (oL Z (bH.ldB (j:=0) Z Z Z yB (v:=.map (some ab)) Z) (oL Z (bH.ldBA (j:=3) Z Z Z Zh ZN (vs:=B2) Z Z) (zt ?_ ?_))))))
 refine zG 0 Z Z Z Z (zH Z Z yl (zB Z zM) Z) bH (fun hs=>wDF p2 fA aT hs eP) (.inr Z) ?_
 rintro cd j9 lJ eD aX iO ⟨rfl,rfl⟩
 have dG:sW w U cd [B3,.obj ab (.map ah ae),.blk aj 29 B2,.blk b6 29 B2,.blk b2 27 B0] eD:=iO
 refine oL Z (dG.lookup1 (j:=1) (mk:=wBP) (mv:=wBV) (a:=bN) (z:=0) Z Z Z Z (wBn ZF) wCr ZV aV) (zt ?_ ?_)
 have gD:=bi.le aX
 have gE:=bj.le aX
 have gF:=bk.le aX
 have gG:=bm.le aX
 have gH:=bn.le aX
 refine zG 2 Z Z Z Z (zH Z Z yc (zB Z (zB Z (zB Z zM))) Z) dG (fun hs=>wAi au aU aY bd aZ be a0 bf ba bg ab ah ae bb bh (wAt au.number bN 0) false eD cd hs gD gE gF gG aV gH dE) (.inl Z) ?_
 rintro dh k9 lK fB jR iP ⟨bU,cw,bV,cx,rfl,rfl⟩
 let dR:Res:=.row bU cw 3 1 (hH KL.encI aQ.far)
 let dS:Res:=.row bV cx 3 1 (hH KL.encI aQ.by_)
 have iQ:sW w U dh [dR,dS,B3,.obj ab (.map ah ae),.blk aj 29 B2,.blk b6 29 B2,.blk b2 27 B0] fB:=iP
 refine oM Z Z (oR Z (ze Z Z (v:=.agg #[.slice bU aQ.far.length cw,.slice bV aQ.by_.length cx]) Z) (oR Z (ze Z Z (v:=jV dH) Z) (oR Z (ze Z Z (v:=.bool dI) Z) (zV (cs:=[.slice none 0 0,.slice none 0 0]) Z Z Z Z Z ZY Z iQ ?_))))
 intro ls eI iR
 let dT:List Value:=[.slice bU aQ.far.length cw,.slice bV aQ.by_.length cx]
 refine zY (j:=0) (vs:=dT) Z Z Z Z iR Z Z Z Z Zq (zA Z) Z Z Z ?_
 intro fC iT
 have iU:sW w U dh [.blk eI 133 dT,dR,dS,B3,.obj ab (.map ah ae),.blk aj 29 B2,.blk b6 29 B2,.blk b2 27 B0] fC:=iT
 refine oA Z Z (oA Z Z (zw ?_))
 cases cI
 exact zK ⟨rfl,⟨dh,eI,bU,cw,bV,cx,rfl,rfl,(aX.trans jR),(iU.pick [3,4,5,6,7,0,1,2] _ (by decide) rfl)⟩⟩
 let cZ:List Value:=[.slice none 0 0,.slice none 0 0]
 refine zV (cs:=cZ) Z Z Z Z Z ZY Z dG ?_
 intro eE cj iV
 have gI:=bi.le aX
 have gJ:=bj.le aX
 have gK:=bk.le aX
 have gL:=bm.le aX
 have gM:=bn.le aX
 have iW:sW w U cd [B3,.obj ab (.map ah ae),.blk cj 133 cZ,.blk aj 29 B2,.blk b6 29 B2,.blk b2 27 B0] eE:=iV.pick [1,2,0,3,4,5] _ (by decide) rfl
 refine zG 2 Z Z Z Z (zH Z Z yc (zB Z (zB Z (zB Z zM))) Z) iW (fun hs=>wAi au aU aY bd aZ be a0 bf ba bg ab ah ae bb bh (wAt au.number bN 0) false eE cd hs gI gJ gK gL aV gM dE) (.inl Z) ?_
 rintro dk lf lL fD jS iX ⟨bW,cy,bX,cz,rfl,rfl⟩
 let dU:Res:=.row bW cy 3 1 (hH KL.encI aQ.far)
 let dV:Res:=.row bX cz 3 1 (hH KL.encI aQ.by_)
 have iY:sW w U dk [dU,dV,B3,.obj ab (.map ah ae),.blk cj 133 cZ,.blk aj 29 B2,.blk b6 29 B2,.blk b2 27 B0] fD:=iX
 refine oM Z Z (oR Z (ze Z Z (v:=.agg #[.slice bW aQ.far.length cy,.slice bX aQ.by_.length cz]) Z) (oR Z (ze Z Z (v:=jV dH) Z) (oR Z (ze Z Z (v:=.bool dI) Z) ?_)))
 let dW:List Value:=[.slice bW aQ.far.length cy,.slice bX aQ.by_.length cz]
 refine zY (j:=4) (vs:=dW) Z Z Z Z iY Z Z Z Z Zq (zA Z) Z Z Z ?_
 intro fE iZ
 have i4:sW w U dk [dU,dV,B3,.obj ab (.map ah ae),.blk cj 133 dW,.blk aj 29 B2,.blk b6 29 B2,.blk b2 27 B0] fE:=iZ
 refine oA Z Z (oA Z Z (zw ?_))
 cases cI
 exact zK ⟨rfl,⟨dk,cj,bW,cy,bX,cz,rfl,rfl,(aX.trans jS),(i4.pick [2,3,5,6,7,4,0,1] _ (by decide) rfl)⟩⟩
 let b9:List Value:=[.slice none 0 0,.slice none 0 0]
 refine zV (cs:=b9) Z Z Z Z Z ZY Z bH ?_
 intro fG bD i6
 refine zG 0 Z Z Z Z (zH Z Z yl (zB Z zM) Z) i6 (fun hs=>wDF p2 fG aT hs eP) (.inr Z) ?_
 rintro dl lg lM dt bz i8 ⟨rfl,rfl⟩
 have eX:sW w U dl [.blk bD 133 b9,B3,.obj ab (.map ah ae),.blk aj 29 B2,.blk b6 29 B2,.blk b2 27 B0] dt:=i8
 refine oL Z (eX.lookup1 (j:=2) (mk:=wBP) (mv:=wBV) (a:=bN) (z:=0) Z Z Z Z (wBn ZF) wCr ZV aV) ?_
 have gN:=bi.le bz
 have gO:=bj.le bz
 have gP:=bk.le bz
 have gQ:=bm.le bz
 have gR:=bn.le bz
 have i9:sW w U dl [B3,.obj ab (.map ah ae),.blk bD 133 b9,.blk aj 29 B2,.blk b6 29 B2,.blk b2 27 B0] dt:=eX.pick [1,2,0,3,4,5] _ (by decide) rfl
 refine zG 2 Z Z Z Z (zH Z Z yc (zB Z (zB Z (zB Z zM))) Z) i9 (fun hs=>wAi au aU aY bd aZ be a0 bf ba bg ab ah ae bb bh (wAt au.number bN 0) false dt dl hs gN gO gP gQ aV gR dE) (.inl Z) ?_
 rintro dm lh lN fH jU ja ⟨bY,cA,bZ,cC,rfl,rfl⟩
 let dX:Res:=.row bY cA 3 1 (hH KL.encI aQ.far)
 let dY:Res:=.row bZ cC 3 1 (hH KL.encI aQ.by_)
 have jb:sW w U dm [dX,dY,B3,.obj ab (.map ah ae),.blk bD 133 b9,.blk aj 29 B2,.blk b6 29 B2,.blk b2 27 B0] fH:=ja
 refine oM Z Z (oR Z (ze Z Z (v:=.agg #[.slice bY aQ.far.length cA,.slice bZ aQ.by_.length cC]) Z) (oR Z (ze Z Z (v:=jV dH) Z) (oR Z (ze Z Z (v:=.bool dI) Z) ?_)))
 let dZ:List Value:=[.slice bY aQ.far.length cA,.slice bZ aQ.by_.length cC]
 refine zY (j:=4) (vs:=dZ) Z Z Z Z jb Z Z Z Z Zq (zA Z) Z Z Z ?_
 intro fJ jc
 have jd:sW w U dm [dX,dY,B3,.obj ab (.map ah ae),.blk bD 133 dZ,.blk aj 29 B2,.blk b6 29 B2,.blk b2 27 B0] fJ:=jc
 refine oA Z Z (oA Z Z (zw ?_))
 cases cI
 exact zK ⟨rfl,⟨dm,bD,bY,cA,bZ,cC,rfl,rfl,(bz.trans jU),(jd.pick [2,3,5,6,7,4,0,1] _ (by decide) rfl)⟩⟩
 rintro lQ eF ⟨lm,cg,bq,bu,bA,bE,fN,fO,bL,eY⟩
 refine sR (wEF (.fx 3 (wSb (.nil)) .stop)) Z (oM Z fN (oR Z (zE Z fO ZU Z zW) (oL Z (eY.ldB (j:=5) Z Z Z zX (v:=.slice bq bo.length bu) Z) ?_)))
 have q:=eY.freezeR (k:=6) (n:=bo.length) rfl (wAI (f:=KL.encI) (sz:=1) (fun _=>rfl) bo) (by decide)
 obtain ⟨en,bM,jL,je⟩:=q
 let d5:Res:=.blk cg 133 [.slice bq bo.length bu,.slice bA cJ.length bE]
 let d6:Res:=.row bA bE 3 1 (hH KL.encI cJ)
 have jf:sW w U en [B3,.obj ab (.map ah ae),.blk aj 29 B2,.blk b6 29 B2,.blk b2 27 B0,d5,d6] eF:=je
 have gS:=bi.le bL
 have gT:=gS.le bM
 have gU:=bj.le bL
 have gW:=gU.le bM
 have gX:=bk.le bL
 have gZ:=gX.le bM
 have g7:=bm.le bL
 have g8:=g7.le bM
 have g9:=bn.le bL
 have ib:=g9.le bM
 have q:=bnd e8
 obtain ⟨⟨jX,fg⟩,ic,e9⟩:=q
 try dsimp only at e9
 refine zG 2 Z Z Z Z (zH Z Z Tryz.call75 (zB Z (zB Z zM)) Z) jf (fun hs=>wEy au aU aY bd aZ be a0 bf ba bg ab ah ae bb bh bo bq bu eF en hs gT gW gZ g8 aV ib jL ic) (.inl Z) ?_
 rintro eu li lO fK lA jg ⟨cX,dx,eM,cY,dy,rfl,rfl,ie⟩
 have jh:sW w U eu [.row cX dx 22 1 eM,.row cY dy 3 1 (hH KL.encI fg),B3,.obj ab (.map ah ae),.blk aj 29 B2,.blk b6 29 B2,.blk b2 27 B0,d5,d6] fK:=jg
 refine oM Z Z (oR Z (ze Z Z (v:=.slice cX jX.length dx) Z) (oR Z (ze Z Z (v:=.slice cY fg.length dy) Z) (oA Z Z (oA Z Z (eN (sR fL5 Z (oM Z Z (oM Z Z (oA Z Z (oA Z Z (oA Z Z (eN (zP ?_)))))))))))))
 cases e9
 exact ⟨rfl,_,(res3 rfl rfl rfl),eu,_,(jh.pick [0,1] _ (by decide) rfl),cX,dx,eM,cY,dy,rfl,rfl,ie⟩
 intro dB jA
 refine cT Z dB (sR fL4 Z (oM Z Z (oA Z Z (oA Z Z (oA Z Z (eN (zP (zN ?_))))))))
 have ji:=cG.nilrow 22 1
 have jj:=ji.nilrow 3 1
 cases jA
 exact ⟨rfl,_,(res3 rfl rfl rfl),aT,_,(jj.pick [1,0] _ (by decide) rfl),none,0,[],none,0,rfl,rfl,RlL.nil⟩
theorem wGD (p0:wAJ) (bm:Option Addr) (bo:Nat) (aY:Option Addr) (a0:Nat) (aZ:Option Addr) (ba:Nat) (bn:Option Addr) (bp:Nat) (p1:List (List Int)) (av:Option Addr) (aQ:Nat) (p2:List Int) (az:Option Addr) (aR:Nat) (w:World) (U:PHeap) (hS:St0 w U []) (eQ:Sl U 1 bm bo p0.Starts.length (hH KL.encI p0.Starts)) (eS:Sl U 2 aY a0 p0.Splits.length (hH wAB p0.Splits)) (dl:Sl U 3 aZ ba p0.Clocks.length (hH wAF p0.Clocks)) (eU:Sl U 4 bn bp p0.Readings.length (hH wAE p0.Readings)) (bR:SlR U wMD av aQ p1) (dm:Sl U 1 az aR p2.length (hH KL.encI p2)) {r:Bool × Int} (hm:wCF p0 p1 p2=some r):Gv Tryz.prog 36 [.agg #[.slice bm p0.Starts.length bo,.slice aY p0.Splits.length a0,.slice aZ p0.Clocks.length ba,.slice bn p0.Readings.length bp],.slice av p1.length aQ,.slice az p2.length aR] w (wCq w [] U (fun U_ L_ v=>v=.tuple #[.bool r.1,jV r.2]/\L_=[])):=by
 unfold wCF at hm
 refine Gv.of Tryz.func36 Z Tryz.ntmps36 Tryz.results36 Z (sR (.fx 0 (.fl 1 (.fl 2 .nil)) .stop) Z ?_)
 let B0:List Value:=[.slice bm p0.Starts.length bo,.slice aY p0.Splits.length a0,.slice aZ p0.Clocks.length ba,.slice bn p0.Readings.length bp]
 refine zy (cs:=B0) rfl rfl rfl rfl rfl rfl (by rfl) hS ?_
 intro W1 b2 eL
 refine oA Z Z (oA Z Z (eN (zJ (sR gDo Z (oL Z (eL.ldBA (j:=0) Z Z Z ZS ZH (vs:=B0) Z Z) (bnK hm fun x5 h6 oq=>zG 0 Z Z Z Z (zH Z Z Tryz.call34 (zB Z zM) Z) eL (fun hs=>wCU p0 bm bo aY a0 aZ ba bn bp W1 U hs eQ eS dl eU h6) (.inr Z) ?_))))))
 rintro U8 L9 qx gb am lG ⟨rfl,rfl⟩
 have bi:sW w U U8 [.blk b2 36 B0] gb:=lG
 refine oA Z Z (eN (sR fL2 Z (oM Z Z (oR Z (Zo Z Z Z) (eN (ifc oq ?_ ?_))))))
 intro cq ms
 refine zr (Za (fun h=>h cq.out)) (kN (zJ (sR fL14 Z (oM Z Z (oR Z (zi Z Z zZ) (oR Z (zE Z Z zR Z zW) (oL Z (bi.ldB (j:=0) Z Z Z zX (v:=.slice bm p0.Starts.length bo) Z) (oR Z (zi Z Z zD) (oR Z (Zo Z Z Z) (oM Z Z (ifc ms ?_ ?_)))))))))))
 intro aj mC
 refine ZJ Z Z Z (zO Z Z (Za (fun h=>h aj.out))) Z Z (zq Z Z Z (zO Z Z (Za (fun h=>h aj.out))) (fun _=>zi Z Z zD) (zq Z Z Z (zO Z Z (Za (fun h=>h aj.out))) (fun _=>zE Z Z zR Z Zt) (ZI Z Z Z (zO Z Z (Za (fun h=>h aj.out))) (bi.ldB (j:=0) Z Z Z yF (v:=.slice aZ p0.Clocks.length ba) Z) Z (zq Z Z Z (zO Z Z (Za (fun h=>h aj.out))) (fun _=>zi Z Z Zi) (zq Z Z Z (zO Z Z (Za (fun h=>h aj.out))) (fun _=>Zo Z Z Z) (oR Z (zz Z (Za (fun h=>h aj.out)) Z) (eN (ifc mC ?_ ?_))))))))
 intro ct dA
 refine zr (Za (fun h=>h ct.out)) (kN (zJ (sR fL1 Z (oA Z Z (eN (zd ?_))))))
 have q:=wCQ dA
 obtain ⟨qt,dg⟩:=q
 have q:=wCP dg
 obtain ⟨dw,me⟩:=q
 replace dw:=zL dw
 refine yP (fun bj _ σ_ w_=>∃ (U_:PHeap),σ_ 9=jV (↑bj:Int)/\σ_ 1=.slice av p1.length aQ/\σ_ 2=.slice az p2.length aR/\σ_ 3=.pointer (some ⟨b2,0,none⟩)/\PHeap.Le U8 U_/\sW w U U_ [.blk b2 36 B0] w_) me ?_ ?_ ?_
 exact ⟨U8,Z,Z,Z,Z,(zQ _),bi⟩
 rintro bj ⟨⟩ qT rj dN dr ⟨cf,cL,cG,gZ,d7,fu,lM⟩ fg l5
 try dsimp only at fg
 have dT:Hid ((↑bj:Int) < (↑p1.length:Int)):=zL (wBm dr)
 replace dr:=zL dr
 have mj:Hid (w64 ((↑bj:Int) + 1)=(↑(bj + 1):Int)):=zL (by have h1:=dw.out;have h2:=dT.out;rw [wAZ] <;> omega)
 refine zJ (sR fL4 rfl (ZJ rfl rfl rfl rfl rfl cL (ZJ rfl rfl rfl rfl rfl cG (zq rfl rfl rfl rfl (fun _=>zi rfl rfl zZ) (zq rfl rfl rfl rfl (fun _=>zf rfl rfl rfl) (eN (cT Z dT (kN (zJ (zd (zJ (zx zn [3,3,3,1,3,3,1,3,3,3] fL10 (by kernel_rfl) ?_))))))))))))
 have bv:=lM.drew
 generalize hw_W43:({ dN with drawn:=dN.drawn + 1 }:World)=pH at bv ⊢
 refine oM Z cG (oM Z cL (bnK fg fun x44 eG mZ=>?_))
 have jc:=bR.le am
 have je:=jc.le fu
 have q:=je.el (wAR eG)
 obtain ⟨gx,o3,qI,k9,da,oz⟩:=q
 obtain ⟨fD,fM,rfl,p9⟩:=oz
 replace da:Cl cf gx (o3 + bj * 1) [.slice fD x44.length fM]:=da
 refine oR Z (ZP Z Z k9 Z zZ zW (wBi eG)) (oL Z (bv.ldC (f:=0) da (v:=.slice fD x44.length fM) Z Z zX Z) (oR Z (zi Z Z zD) (oR Z (zE Z d7 zR Z Zg) (oL Z (bv.ldB (j:=0) Z Z Z Zl (v:=.slice aY p0.Splits.length a0) Z) (oR Z (zi Z Z ZD) (oR Z (zj Z Z Z) (oR Z (Zo Z Z Z) (eN (ifc mZ ?_ ?_)))))))))
 intro cz n8
 refine zr (Za (fun h=>h cz.out)) (Zr (ZE (zK (rR fL3 Z (oM Z cL (oR Z (Zd (zj Z Z Z) (congrArg (jV) mj.out)) (oA Z Z (zw ?_))))))))
 obtain rfl:=nB n8
 exact zK ⟨Z,_,Z,⟨cf,Z,cG,gZ,d7,fu,bv⟩⟩
 intro cz n9
 refine cT Z cz (sR fL2 Z (oA Z Z (oA Z Z (eN (zP (zg (zN ?_)))))))
 have q:=wAa n9
 obtain ⟨pk,oi,gP⟩:=q
 obtain rfl:=wCK dA dg (l5 pk gP)
 refine zN (zg (zN ?_))
 cases oi
 exact ⟨rfl,_,(wHO rfl rfl),cf,_,(bv.pick [] _ (by decide) rfl),rfl,rfl⟩
 rintro ⟨⟩ rx pL ⟨dK,ip,eg,ie,ig,ap,lV⟩ ma
 have bU:=wDE dA dg ma
 try dsimp only at bU
 have gD:Hid (¬ ((↑(((↑p1.length:Int):Int) - 0).toNat:Int) < (↑p1.length:Int))):=zL (wBB)
 refine zJ (sR fL4 Z (oM Z ip (oM Z eg (oR Z (zi Z Z zZ) (oR Z (zf Z Z Z) (eN (cF Z gD (Zf (zo (zo (ZX (zK (zJ (sR fL1 Z (oA Z Z (eN (zd ?_)))))))))))))))))
 have q:=wCQ bU
 obtain ⟨qw,dk⟩:=q
 have q:=wCP dk
 obtain ⟨dz,mg⟩:=q
 replace dz:=zL dz
 refine yP (fun aX _ σ_ w_=>∃ (U_:PHeap),σ_ 10=jV (↑aX:Int)/\σ_ 1=.slice av p1.length aQ/\σ_ 2=.slice az p2.length aR/\σ_ 3=.pointer (some ⟨b2,0,none⟩)/\PHeap.Le dK U_/\sW w U U_ [.blk b2 36 B0] w_) mg ?_ ?_ ?_
 exact ⟨dK,Z,eg,ie,ig,(zQ _),lV⟩
 rintro aX ⟨⟩ qX ry pM du ⟨dL,ej,eh,ii,ij,fw,lW⟩ fq mb
 try dsimp only at fq
 have dV:Hid ((↑aX:Int) < (↑p1.length:Int)):=zL (wBm du)
 replace du:=zL du
 have mn:Hid (w64 ((↑aX:Int) + 1)=(↑(aX + 1):Int)):=zL (by have h1:=dz.out;have h2:=dV.out;rw [wAZ] <;> omega)
 refine zJ (sR fL4 Z (oM Z ej (oM Z eh (oR Z (zi Z Z zZ) (oR Z (zf Z Z Z) (eN (cT Z dV (kN (zJ (zd (sR fL1 Z (oA Z Z (eN (zd (yt (fun fO σ_ w_=>∃ (U_:PHeap),σ_ 1=.slice av p1.length aQ/\σ_ 2=.slice az p2.length aR/\σ_ 3=.pointer (some ⟨b2,0,none⟩)/\σ_ 10=jV (↑aX:Int)/\σ_ 11=jV fO/\PHeap.Le dL U_/\sW w U U_ [.blk b2 36 B0] w_) fq ?_ ?_)))))))))))))))
 exact ⟨dL,eh,ii,ij,ej,Z,(zQ _),lW⟩
 rintro fO qQ qY ga ⟨bD,bH,dW,dX,bI,cC,dB,bu⟩ oG eV
 refine zJ (sR fL7 Z (oM Z cC (oM Z bH (oM Z bI (bnK oG fun bY bN mo=>?_)))))
 have iq:=bR.le am
 have ir:=iq.le ap
 have it:=ir.le fw
 have en:=it.le dB
 have q:=en.el (wAR bN)
 obtain ⟨gq,oU,qD,jO,cV,ot⟩:=q
 obtain ⟨fy,fG,rfl,p8⟩:=ot
 replace cV:Cl bD gq (oU + aX * 1) [.slice fy bY.length fG]:=cV
 refine oR Z (ZP Z Z jO Z zZ zW (wBi bN)) (oL Z (bu.ldC (f:=0) cV (v:=.slice fy bY.length fG) Z Z zX Z) (oR Z (zi Z Z zD) (oR Z (zf Z Z Z) (eN (ifc mo ?_ ?_)))))
 intro cp mp
 refine cT Z cp (kN (zJ (zd (sR (wQP (.fx 7 .nil .stop)) Z (oM Z bH (oM Z bI ?_))))))
 have q:=en.el (wAR bN)
 obtain ⟨gt,oW,qE,jP,cW,ou⟩:=q
 obtain ⟨fz,fH,rfl,iu⟩:=ou
 replace cW:Cl bD gt (oW + aX * 1) [.slice fz bY.length fH]:=cW
 refine oR Z (ZP Z Z jP Z zZ zW (wBi bN)) (oL Z (bu.ldC (f:=0) cW (v:=.slice fz bY.length fH) Z Z zX Z) (oM Z cC (bnK mp fun x143 cM mq=>?_)))
 have q:=iu.el (fun _=>rfl) (wAR cM)
 obtain ⟨pN,qa,jQ,lm⟩:=q
 refine oR Z (ZB Z Z jQ Z zD zC (wAv cM) (wAz cM)) (oL Z (bu.ldC (f:=0) lm (v:=jV x143) Z Z zF Z) (bnK mq fun qK iv mr=>zG 0 Z Z Z Z (zH Z Z yL (zB Z (zB Z (zB Z zM))) Z) bu (fun hs=>wAc x143 (-100000000) 100000000 ga bD hs iv) (.inr Z) ?_))
 rintro cb pq qy ge oH lH ⟨rfl,rfl⟩
 have eI:sW w U cb [.blk b2 36 B0] ge:=lH
 refine eN (ifc mr ?_ ?_)
 intro cr mu
 refine ZG (congrArg nA cr.out) (sR fL2 Z (oA Z Z (oA Z Z (eN (zP (zg (zN ?_)))))))
 have q:=wAa mu
 obtain ⟨o6,mw,gE⟩:=q
 obtain rfl:=eV o6 gE
 refine zN (zg (zg (zN ?_)))
 have q:=wAa mw
 obtain ⟨o7,my,gF⟩:=q
 obtain rfl:=wCK bU dk (mb o7 gF)
 refine zN (zg (zN ?_))
 cases my
 exact ⟨rfl,_,(wHO rfl rfl),cb,_,(eI.pick [] _ (by decide) rfl),rfl,rfl⟩
 intro cr mz
 refine zr (congrArg nA (nD.2 cr.out)) (Zr (ZE (zK (rR fL3 Z (oM Z cC (oR Z (zj Z Z Z) (oA Z Z (zw ?_))))))))
 obtain rfl:=nB mz
 exact zK ⟨Z,_,Z,⟨cb,bH,dW,dX,bI,Z,(dB.trans oH),eI⟩⟩
 intro cp mA
 refine cF Z cp (Zf (zo ?_))
 have q:=wAa mA
 obtain ⟨o8,mB,gG⟩:=q
 obtain rfl:=eV o8 gG
 refine zo (ZX (ZE (zK (rR fL3 Z (oM Z bI (oR Z (Zd (zj Z Z Z) (congrArg (jV) mn.out)) (oA Z Z (zw ?_))))))))
 obtain rfl:=nB mB
 exact zK ⟨Z,_,Z,⟨bD,Z,bH,dW,dX,(fw.trans dB),bu⟩⟩
 rintro ⟨⟩ qZ pD ⟨dG,ik,dY,gQ,gR,au,lI⟩ lX
 have bS:=wDE bU dk lX
 try dsimp only at bS
 have gz:Hid (¬ ((↑(((↑p1.length:Int):Int) - 0).toNat:Int) < (↑p1.length:Int))):=zL (wBB)
 refine zJ (sR fL4 Z (oM Z ik (oM Z dY (oR Z (zi Z Z zZ) (oR Z (zf Z Z Z) (eN (cF Z gz (Zf (zo (zo (ZX (zK (zJ (sR fL1 Z (oA Z Z (eN (zd ?_)))))))))))))))))
 have q:=wCQ bS
 obtain ⟨qr,df⟩:=q
 have q:=wCP df
 obtain ⟨dv,mc⟩:=q
 replace dv:=zL dv
 refine yP (fun bA _ σ_ w_=>∃ (U_:PHeap),σ_ 12=jV (↑bA:Int)/\σ_ 1=.slice av p1.length aQ/\σ_ 2=.slice az p2.length aR/\σ_ 3=.pointer (some ⟨b2,0,none⟩)/\PHeap.Le dG U_/\sW w U U_ [.blk b2 36 B0] w_) mc ?_ ?_ ?_
 exact ⟨dG,Z,dY,gQ,gR,(zQ _),lI⟩
 rintro bA ⟨⟩ qR rc gf dp ⟨fW,cK,gS,cD,gT,ft,eJ⟩ fd lY
 try dsimp only at fd
 have dR:Hid ((↑bA:Int) < (↑p2.length:Int)):=zL (wBm dp)
 replace dp:=zL dp
 have mh:Hid (w64 ((↑bA:Int) + 1)=(↑(bA + 1):Int)):=zL (by have h1:=dv.out;have h2:=dR.out;rw [wAZ] <;> omega)
 refine zJ (sR fL4 Z (oM Z cK (oM Z cD (oR Z (zi Z Z zD) (oR Z (zf Z Z Z) (eN (cT Z dR (kN (zJ (zd (sR (wEu (.fx 4 .nil .stop)) Z (oM Z cD (oM Z cK (bnK fd fun fP eu mD=>?_))))))))))))))
 have iw:=dm.le am
 have iy:=iw.le ap
 have iz:=iy.le au
 have iA:=iz.le ft
 have q:=iA.el (fun _=>rfl) (wAR eu)
 obtain ⟨pO,qb,jR,ln⟩:=q
 refine oR Z (ZP Z Z jR Z zD zC (wBi eu)) (oL Z (eJ.ldC (f:=0) ln (v:=jV fP) Z Z zF Z) (bnK mD fun qL iB mE=>zG 0 Z Z Z Z (zH Z Z yL (zB Z (zB Z (zB Z zM))) Z) eJ (fun hs=>wAc fP (-100000000) 100000000 gf fW hs iB) (.inr Z) ?_))
 rintro cd pu qz gg oI lJ ⟨rfl,rfl⟩
 have eK:sW w U cd [.blk b2 36 B0] gg:=lJ
 refine eN (ifc mE ?_ ?_)
 intro cu mF
 refine ZG (congrArg nA cu.out) (sR fL2 Z (oA Z Z (oA Z Z (eN (zP (zg (zN ?_)))))))
 have q:=wAa mF
 obtain ⟨o9,mG,gH⟩:=q
 obtain rfl:=wCK bS df (lY o9 gH)
 refine zN (zg (zN ?_))
 cases mG
 exact ⟨rfl,_,(wHO rfl rfl),cd,_,(eK.pick [] _ (by decide) rfl),rfl,rfl⟩
 intro cu mH
 refine zr (congrArg nA (nD.2 cu.out)) (Zr (ZE (zK (rR fL3 Z (oM Z cK (oR Z (Zd (zj Z Z Z) (congrArg (jV) mh.out)) (oA Z Z (zw ?_))))))))
 obtain rfl:=nB mH
 exact zK ⟨Z,_,Z,⟨cd,Z,gS,cD,gT,(ft.trans oI),eK⟩⟩
 rintro ⟨⟩ re pE ⟨dH,il,gU,dZ,gW,aU,lK⟩ lZ
 have bz:=wDE bS df lZ
 try dsimp only at bz
 have gA:Hid (¬ ((↑(((↑p2.length:Int):Int) - 0).toNat:Int) < (↑p2.length:Int))):=zL (wBB)
 refine zJ (sR fL4 Z (oM Z il (oM Z dZ (oR Z (zi Z Z zD) (oR Z (zf Z Z Z) (eN (cF Z gA (Zf (zo (zo (ZX (zK (zJ (sR fL1 Z (oA Z Z (eN (zd ?_)))))))))))))))))
 have q:=wCQ bz
 obtain ⟨qu,bQ⟩:=q
 have q:=wCP bQ
 obtain ⟨dx,md⟩:=q
 replace dx:=zL dx
 refine yP (fun aT _ σ_ w_=>∃ (U_:PHeap),σ_ 13=jV (↑aT:Int)/\σ_ 1=.slice av p1.length aQ/\σ_ 2=.slice az p2.length aR/\σ_ 3=.pointer (some ⟨b2,0,none⟩)/\PHeap.Le dH U_/\sW w U U_ [.blk b2 36 B0] w_) md ?_ ?_ ?_
 exact ⟨dH,Z,gU,dZ,gW,(zQ _),lK⟩
 rintro aT ⟨⟩ qS ri dM dq ⟨bE,bM,cE,gX,d5,bV,lL⟩ ff eW
 try dsimp only at ff
 have dS:Hid ((↑aT:Int) < (↑p1.length:Int)):=zL (wBm dq)
 replace dq:=zL dq
 have mi:Hid (w64 ((↑aT:Int) + 1)=(↑(aT + 1):Int)):=zL (by have h1:=dx.out;have h2:=dS.out;rw [wAZ] <;> omega)
 refine zJ (sR fL4 rfl (ZJ rfl rfl rfl rfl rfl bM (ZJ rfl rfl rfl rfl rfl cE (zq rfl rfl rfl rfl (fun _=>zi rfl rfl zZ) (zq rfl rfl rfl rfl (fun _=>zf rfl rfl rfl) (eN (cT Z dS (kN (zJ (zd (zJ (zJ (zx zn [3,3,3,1,3,1,3,1,3,3,1,3] fL12 (by kernel_rfl) ?_)))))))))))))
 have bb:=lL.drew
 generalize hw_W268:({ dM with drawn:=dM.drawn + 1 }:World)=pF at bb ⊢
 refine oM Z cE (oM Z bM (bnK ff fun bq bg mI=>?_))
 have iC:=bR.le am
 have iD:=iC.le ap
 have iE:=iD.le au
 have iF:=iE.le aU
 have ey:=iF.le bV
 have q:=ey.el (wAR bg)
 obtain ⟨gu,oX,qF,jS,cX,ow⟩:=q
 obtain ⟨fA,fJ,rfl,iG⟩:=ow
 replace cX:Cl bE gu (oX + aT * 1) [.slice fA bq.length fJ]:=cX
 refine oR Z (ZP Z Z jS Z zZ zW (wBi bg)) (oL Z (bb.ldC (f:=0) cX (v:=.slice fA bq.length fJ) Z Z zX Z) (bnK mI fun po eA mJ=>?_))
 have q:=iG.el (fun _=>rfl) (wAR eA)
 obtain ⟨pP,qc,jU,lp⟩:=q
 refine oR Z (ZP Z Z jU Z zD zC (wBi eA)) (oL Z (bb.ldC (f:=0) lp (v:=jV po) Z Z zF Z) (oR Z (zE Z d5 zR Z zW) (oL Z (bb.ldB (j:=0) Z Z Z zX (v:=.slice bm p0.Starts.length bo) Z) (oM Z bM (bnK mJ fun pp eC mK=>?_)))))
 have iH:=eQ.le am
 have iI:=iH.le ap
 have iJ:=iI.le au
 have iK:=iJ.le aU
 have iL:=iK.le bV
 have q:=iL.el (fun _=>rfl) (wAR eC)
 obtain ⟨pQ,qd,jW,ls⟩:=q
 refine oR Z (ZP Z Z jW Z zD zC (wBi eC)) (oL Z (bb.ldC (f:=0) ls (v:=jV pp) Z Z zF Z) (oR Z (Zo Z Z Z) (eN (ifc mK ?_ ?_))))
 intro cw mL
 refine zr (Za (fun h=>h cw.out)) (kN (sR fL1 Z (oA Z Z (eN (zd (yt (fun dD σ_ w_=>∃ (U_:PHeap),σ_ 1=.slice av p1.length aQ/\σ_ 2=.slice az p2.length aR/\σ_ 3=.pointer (some ⟨b2,0,none⟩)/\σ_ 13=jV (↑aT:Int)/\σ_ 14=jV dD/\PHeap.Le bE U_/\sW w U U_ [.blk b2 36 B0] w_) mL ?_ ?_))))))
 exact ⟨bE,cE,gX,d5,bM,Z,(zQ _),bb⟩
 rintro dD qU rk dO ⟨bF,bJ,d6,br,bK,bf,bW,de⟩ fh eX
 refine zJ (sR fL5 Z (oM Z bf (oR Z (zE Z br zR Z Zg) (oL Z (de.ldB (j:=0) Z Z Z Zl (v:=.slice aY p0.Splits.length a0) Z) (oR Z (zi Z Z ZD) (oR Z (zf Z Z Z) (eN ?_)))))))
 by_cases aV:dD < (↑p0.Splits.length:Int)
 have eZ:=fh;rw [if_pos aV] at eZ;replace aV:=zL aV
 refine cT Z aV (kN (zJ (zd (zJ (zx zn [3,3,3,1,3,3,3,1,3,3,3,1,3,3,1,3,3,1,3,3,3,1,3,1,3,3,3,1,2] (wUM (.fx 28 .nil .stop)) (by kernel_rfl) ?_)))))
 have aq:=de.drew
 generalize hw_W329:({ dO with drawn:=dO.drawn + 1 }:World)=gh at aq ⊢
 refine oM Z bJ (oM Z bK ?_)
 have eD:=ey.le bW
 have q:=eD.el (wAR bg)
 obtain ⟨gv,oY,qG,jX,cY,ox⟩:=q
 obtain ⟨fB,fK,rfl,iM⟩:=ox
 replace cY:Cl bF gv (oY + aT * 1) [.slice fB bq.length fK]:=cY
 refine oR Z (ZP Z Z jX Z zZ zW (wBi bg)) (oL Z (aq.ldC (f:=0) cY (v:=.slice fB bq.length fK) Z Z zX Z) (oM Z bf (oR Z (zj Z Z Z) (bnK eZ fun fQ cN mM=>?_))))
 have q:=iM.el (fun _=>rfl) (wAR cN)
 obtain ⟨pR,qe,jY,lu⟩:=q
 refine oR Z (ZB Z Z jY Z zD zC (wAv cN) (wAz cN)) (oL Z (aq.ldC (f:=0) lu (v:=jV fQ) Z Z zF Z) (oM Z bJ (oM Z bK ?_)))
 have q:=eD.el (wAR bg)
 obtain ⟨gw,o0,qH,jZ,cZ,oy⟩:=q
 obtain ⟨fC,fL,rfl,iN⟩:=oy
 replace cZ:Cl bF gw (o0 + aT * 1) [.slice fC bq.length fL]:=cZ
 refine oR Z (ZP Z Z jZ Z zZ zW (wBi bg)) (oL Z (aq.ldC (f:=0) cZ (v:=.slice fC bq.length fL) Z Z zX Z) (oM Z bf (bnK mM fun fR cO mN=>?_)))
 have q:=iN.el (fun _=>rfl) (wAR cO)
 obtain ⟨pS,qf,j0,lv⟩:=q
 refine oR Z (ZB Z Z j0 Z zD zC (wAv cO) (wAz cO)) (oL Z (aq.ldC (f:=0) lv (v:=jV fR) Z Z zF Z) (oR Z (yV Z Z Z) (oR Z (zE Z br zR Z Zg) (oL Z (aq.ldB (j:=0) Z Z Z Zl (v:=.slice aY p0.Splits.length a0) Z) (oM Z bf (bnK mN fun bZ bh mO=>?_))))))
 have iO:=eS.le am
 have iP:=iO.le ap
 have iQ:=iP.le au
 have iR:=iQ.le aU
 have iT:=iR.le bV
 have eE:=iT.le bW
 have q:=eE.el (fun _=>rfl) (wAR bh)
 obtain ⟨pT,qh,j5,lw⟩:=q
 refine oR Z (ZB Z Z j5 Z ZD zS (wAv bh) (wAz bh)) (oR Z (zE Z Z ZO Z zC) (oL Z (aq.ldC (f:=0) lw (v:=jV bZ.Lo) Z Z zF Z) (oR Z (zE Z br zR Z Zg) (oL Z (aq.ldB (j:=0) Z Z Z Zl (v:=.slice aY p0.Splits.length a0) Z) (oM Z bf ?_)))))
 have q:=eE.el (fun _=>rfl) (wAR bh)
 obtain ⟨pU,qi,j6,lx⟩:=q
 refine oR Z (ZB Z Z j6 Z ZD zS (wAv bh) (wAz bh)) (oR Z (zE Z Z ZO Z zC) (oL Z (aq.ldC (f:=1) lx (v:=jV bZ.Hi) Z Z zF Z) (bnK mO fun qM iU mP=>zG 0 Z Z Z Z (zH Z Z yL (zB Z (zB Z (zB Z zM))) Z) aq (fun hs=>wAc (w64 (fQ - fR)) bZ.Lo bZ.Hi gh bF hs iU) (.inr Z) ?_)))
 rintro cg py qA gi oK lN ⟨rfl,rfl⟩
 have eM:sW w U cg [.blk b2 36 B0] gi:=lN
 refine eN (ifc mP ?_ ?_)
 intro cx mQ
 refine ZG (congrArg nA cx.out) (sR fL2 Z (oA Z Z (oA Z Z (eN (zP (zg (zN ?_)))))))
 have q:=wAa mQ
 obtain ⟨pe,mR,gI⟩:=q
 obtain rfl:=eX pe gI
 refine zN (zg (zg (zN ?_)))
 have q:=wAa mR
 obtain ⟨pf,mS,gJ⟩:=q
 obtain rfl:=wCK bz bQ (eW pf gJ)
 refine zN (zg (zN ?_))
 cases mS
 exact ⟨rfl,_,(wHO rfl rfl),cg,_,(eM.pick [] _ (by decide) rfl),rfl,rfl⟩
 intro cx mT
 refine zr (congrArg nA (nD.2 cx.out)) (Zr (ZE (zK (rR fL3 Z (oM Z bf (oR Z (zj Z Z Z) (oA Z Z (zw ?_))))))))
 obtain rfl:=nB mT
 exact zK ⟨Z,_,Z,⟨cg,bJ,d6,br,bK,Z,(bW.trans oK),eM⟩⟩
 have e8:=fh;rw [if_neg aV] at e8;replace aV:=zL aV
 refine cF Z aV (Zf (zo ?_))
 have q:=wAa e8
 obtain ⟨pg,mU,gK⟩:=q
 obtain rfl:=eX pg gK
 refine zo (ZX (ZE (zK (rR fL3 Z (oM Z bK (oR Z (Zd (zj Z Z Z) (congrArg (jV) mi.out)) (oA Z Z (zw ?_))))))))
 obtain rfl:=nB mU
 exact zK ⟨Z,_,Z,⟨bF,Z,bJ,d6,br,(bV.trans bW),de⟩⟩
 intro cw mV
 refine cT Z cw (sR fL2 Z (oA Z Z (oA Z Z (eN (zP (zN (zg (zN ?_))))))))
 have q:=wAa mV
 obtain ⟨ph,mW,gL⟩:=q
 obtain rfl:=wCK bz bQ (eW ph gL)
 refine zN (zg (zN ?_))
 cases mW
 exact ⟨rfl,_,(wHO rfl rfl),bE,_,(bb.pick [] _ (by decide) rfl),rfl,rfl⟩
 rintro ⟨⟩ rn pG ⟨dI,im,d8,g7,g8,bk,lO⟩ l6
 have bT:=wDE bz bQ l6
 try dsimp only at bT
 have gB:Hid (¬ ((↑(((↑p1.length:Int):Int) - 0).toNat:Int) < (↑p1.length:Int))):=zL (wBB)
 refine zJ (sR fL4 Z (oM Z im (oM Z d8 (oR Z (zi Z Z zZ) (oR Z (zf Z Z Z) (eN (cF Z gB (Zf (zo (zo (ZX (zK (zJ (sR fL1 Z (oA Z Z (eN (zd ?_)))))))))))))))))
 have q:=wCQ bT
 obtain ⟨qv,dh⟩:=q
 have q:=wCP dh
 obtain ⟨dy,mf⟩:=q
 replace dy:=zL dy
 refine yP (fun bB _ σ_ w_=>∃ (U_:PHeap),σ_ 15=jV (↑bB:Int)/\σ_ 1=.slice av p1.length aQ/\σ_ 2=.slice az p2.length aR/\σ_ 3=.pointer (some ⟨b2,0,none⟩)/\PHeap.Le dI U_/\sW w U U_ [.blk b2 36 B0] w_) mf ?_ ?_ ?_
 exact ⟨dI,Z,d8,g7,g8,(zQ _),lO⟩
 rintro bB ⟨⟩ qV ro dP dt ⟨fY,bs,g9,cH,cI,dC,lP⟩ fj l7
 try dsimp only at fj
 have dU:Hid ((↑bB:Int) < (↑p2.length:Int)):=zL (wBm dt)
 replace dt:=zL dt
 have ml:Hid (w64 ((↑bB:Int) + 1)=(↑(bB + 1):Int)):=zL (by have h1:=dy.out;have h2:=dU.out;rw [wAZ] <;> omega)
 refine zJ (sR fL4 rfl (ZJ rfl rfl rfl rfl rfl bs (ZJ rfl rfl rfl rfl rfl cH (zq rfl rfl rfl rfl (fun _=>zi rfl rfl zD) (zq rfl rfl rfl rfl (fun _=>zf rfl rfl rfl) (eN (cT Z dU (kN (zJ (zd (zJ (zx zn [3,3,3,1,3,1,3,3,3,3,1,3,1,3,3,3,3,1,2] (wUK (.fx 18 .nil .stop)) (by kernel_rfl) ?_))))))))))))
 have bd:=lP.drew
 generalize hw_W442:({ dP with drawn:=dP.drawn + 1 }:World)=gj at bd ⊢
 refine oM Z cH (oM Z bs (bnK fj fun fS eF mX=>?_))
 have iV:=dm.le am
 have iW:=iV.le ap
 have iX:=iW.le au
 have iY:=iX.le aU
 have iZ:=iY.le bk
 have i4:=iZ.le dC
 have q:=i4.el (fun _=>rfl) (wAR eF)
 obtain ⟨pV,qj,j7,ly⟩:=q
 refine oR Z (ZP Z Z j7 Z zD zC (wBi eF)) (oL Z (bd.ldC (f:=0) ly (v:=jV fS) Z Z zF Z) (oR Z (zE Z cI zR Z Zt) (oL Z (bd.ldB (j:=0) Z Z Z yF (v:=.slice aZ p0.Clocks.length ba) Z) (oM Z bs (bnK mX fun b5 bO mY=>?_)))))
 have i6:=dl.le am
 have i8:=i6.le ap
 have i9:=i8.le au
 have ja:=i9.le aU
 have jb:=ja.le bk
 have eH:=jb.le dC
 have q:=eH.el (fun _=>rfl) (wAR bO)
 obtain ⟨pW,qk,j8,lz⟩:=q
 refine oR Z (ZP Z Z j8 Z Zi yZ (wBi bO)) (oR Z (zE Z Z yJ Z zS) (oR Z (zE Z Z ZO Z zC) (oL Z (bd.ldC (f:=0) lz (v:=jV b5.Offset.Lo) Z Z zF Z) (oR Z (zE Z cI zR Z Zt) (oL Z (bd.ldB (j:=0) Z Z Z yF (v:=.slice aZ p0.Clocks.length ba) Z) (oM Z bs ?_))))))
 have q:=eH.el (fun _=>rfl) (wAR bO)
 obtain ⟨pX,qm,j9,lA⟩:=q
 refine oR Z (ZP Z Z j9 Z Zi yZ (wBi bO)) (oR Z (zE Z Z yJ Z zS) (oR Z (zE Z Z ZO Z zC) (oL Z (bd.ldC (f:=1) lA (v:=jV b5.Offset.Hi) Z Z zF Z) (bnK mY fun qN jd m4=>zG 0 Z Z Z Z (zH Z Z yL (zB Z (zB Z (zB Z zM))) Z) bd (fun hs=>wAc fS b5.Offset.Lo b5.Offset.Hi gj fY hs jd) (.inr Z) ?_))))
 rintro cj pz qB gk oO lQ ⟨rfl,rfl⟩
 have eO:sW w U cj [.blk b2 36 B0] gk:=lQ
 refine eN (ifc m4 ?_ ?_)
 intro cy m5
 refine ZG (congrArg nA cy.out) (sR fL2 Z (oA Z Z (oA Z Z (eN (zP (zg (zN ?_)))))))
 have q:=wAa m5
 obtain ⟨pj,m6,gM⟩:=q
 obtain rfl:=wCK bT dh (l7 pj gM)
 refine zN (zg (zN ?_))
 cases m6
 exact ⟨rfl,_,(wHO rfl rfl),cj,_,(eO.pick [] _ (by decide) rfl),rfl,rfl⟩
 intro cy m7
 refine zr (congrArg nA (nD.2 cy.out)) (Zr (ZE (zK (rR fL3 Z (oM Z bs (oR Z (Zd (zj Z Z Z) (congrArg (jV) ml.out)) (oA Z Z (zw ?_))))))))
 obtain rfl:=nB m7
 exact zK ⟨Z,_,Z,⟨cj,Z,g9,cH,cI,(dC.trans oO),eO⟩⟩
 rintro ⟨⟩ rp pI ⟨dJ,io,ib,d9,ic,bX,lR⟩ l8
 have e9:=wDE bT dh l8
 try dsimp only at e9
 have gC:Hid (¬ ((↑(((↑p2.length:Int):Int) - 0).toNat:Int) < (↑p2.length:Int))):=zL (wBB)
 refine zJ (sR fL4 Z (oM Z io (oM Z d9 (oR Z (zi Z Z zD) (oR Z (zf Z Z Z) (eN (cF Z gC (Zf (zo (zo (ZX (zK (zJ (sR fL1 Z (oA Z Z (eN (zd (yt (fun dE σ_ w_=>∃ (U_:PHeap),σ_ 1=.slice av p1.length aQ/\σ_ 2=.slice az p2.length aR/\σ_ 3=.pointer (some ⟨b2,0,none⟩)/\σ_ 16=jV dE/\PHeap.Le dJ U_/\sW w U U_ [.blk b2 36 B0] w_) e9 ?_ ?_))))))))))))))))))
 exact ⟨dJ,ib,d9,ic,Z,(zQ _),lR⟩
 rintro dE qW rq pJ ⟨bG,ec,ef,bL,cJ,bC,bw⟩ fm eY
 refine zJ (sR fL5 Z (oM Z cJ (oR Z (zE Z bL zR Z yN) (oL Z (bw.ldB (j:=0) Z Z Z yf (v:=.slice bn p0.Readings.length bp) Z) (oR Z (zi Z Z yD) (oR Z (zf Z Z Z) (eN ?_)))))))
 by_cases aW:dE < (↑p0.Readings.length:Int)
 have fb:=fm;rw [if_pos aW] at fb;replace aW:=zL aW
 refine cT Z aW (kN (zJ (zd (sR (wGG (.fx 5 (.fx 6 .nil .stop) .stop)) Z (oR Z (zE Z bL zR Z yN) (oL Z (bw.ldB (j:=0) Z Z Z yf (v:=.slice bn p0.Readings.length bp) Z) (oM Z cJ (bnK fb fun ak cP m8=>?_))))))))
 have jf:=eU.le am
 have jg:=jf.le ap
 have jh:=jg.le au
 have ji:=jh.le aU
 have jj:=ji.le bk
 have jk:=jj.le bX
 have jl:=jk.le bC
 have q:=jl.el (fun _=>rfl) (wAR cP)
 obtain ⟨pY,qn,lf,lB⟩:=q
 refine oR Z (ZB Z Z lf Z yD yO (wAv cP) (wAz cP)) (oL Z (bw.ldCA (f:=0) lB Z Z Tryz.isAgg117 yO (us:=[jV ak.Skier,jV ak.Mat,jV ak.Clock,jV ak.Time]) Z Z) (zV (cs:=[jV 0,jV 0,jV 0,jV 0]) Z Z Z Z Z Tryz.zeroValue117 Z bw ?_))
 intro pK dQ lS
 let B1:List Value:=[jV ak.Skier,jV ak.Mat,jV ak.Clock,jV ak.Time]
 refine zY (j:=0) (vs:=B1) Z Z Z Z lS Z Z Z Z yO (zA Z) Z Z Z ?_
 intro cn lT
 have bP:sW w U bG [.blk dQ 117 B1,.blk b2 36 B0] cn:=lT
 refine eN (sR fL8 Z (oR Z (zE Z bL zR Z Zt) (oL Z (bP.ldB (j:=1) Z Z Z yF (v:=.slice aZ p0.Clocks.length ba) Z) (oR Z (zE Z Z Zj Z zC) (oL Z (bP.ldB (j:=0) Z Z Z zF (v:=jV ak.Clock) Z) (bnK m8 fun dF cQ m9=>?_))))))
 have jm:=dl.le am
 have jo:=jm.le ap
 have jp:=jo.le au
 have jq:=jp.le aU
 have jr:=jq.le bk
 have jt:=jr.le bX
 have ju:=jt.le bC
 have q:=ju.el (fun _=>rfl) (wAR cQ)
 obtain ⟨pZ,qo,lg,lD⟩:=q
 refine zq rfl rfl rfl rfl (fun _=>ZB rfl rfl lg rfl Zi yZ (wAv cQ) (wAz cQ)) (zq rfl rfl rfl rfl (fun _=>zE rfl rfl yJ rfl zC) (ZI rfl rfl rfl rfl (bP.ldC (f:=2) lD (v:=jV dF.Error) rfl rfl zF rfl) rfl (yi rfl rfl rfl rfl rfl rfl (eN (zJ (zx zn [3,1,3,3,1,3,1,3,1,3,1,3,3,3,1,3,1,3,3,3,3,2] (wUL (.fx 21 .nil .stop)) (by kernel_rfl) ?_))))))
 have aS:=bP.drew
 generalize hw_W557:({ cn with drawn:=cn.drawn + 1 }:World)=gm at aS ⊢
 refine oR Z (zE Z Z Zj Z zC) (oL Z (aS.ldB (j:=0) Z Z Z zF (v:=jV ak.Time) Z) (oM Z ec (oR Z (zE Z Z Zj Z zC) (oL Z (aS.ldB (j:=0) Z Z Z zF (v:=jV ak.Skier) Z) (bnK m9 fun fT cR n5=>?_)))))
 have jv:=bR.le am
 have jw:=jv.le ap
 have jx:=jw.le au
 have jy:=jx.le aU
 have jz:=jy.le bk
 have jA:=jz.le bX
 have jB:=jA.le bC
 have q:=jB.el (wAR cR)
 obtain ⟨gy,o5,qJ,lh,db,oB⟩:=q
 obtain ⟨fE,fN,rfl,jC⟩:=oB
 replace db:Cl bG gy (o5 + ak.Skier.toNat * 1) [.slice fE fT.length fN]:=db
 refine oR Z (ZB Z Z lh Z zZ zW (wAv cR) (wAz cR)) (oL Z (aS.ldC (f:=0) db (v:=.slice fE fT.length fN) Z Z zX Z) (oR Z (zE Z Z Zj Z zC) (oL Z (aS.ldB (j:=0) Z Z Z zF (v:=jV ak.Mat) Z) (bnK n5 fun fU cS n6=>?_))))
 have q:=jC.el (fun _=>rfl) (wAR cS)
 obtain ⟨p6,qp,li,lE⟩:=q
 refine oR Z (ZB Z Z li Z zD zC (wAv cS) (wAz cS)) (oL Z (aS.ldC (f:=0) lE (v:=jV fU) Z Z zF Z) (oR Z (yV Z Z Z) (oM Z ef (oR Z (zE Z Z Zj Z zC) (oL Z (aS.ldB (j:=0) Z Z Z zF (v:=jV ak.Clock) Z) (bnK n6 fun fV cU n7=>?_))))))
 have jD:=dm.le am
 have jE:=jD.le ap
 have jG:=jE.le au
 have jH:=jG.le aU
 have jJ:=jH.le bk
 have jK:=jJ.le bX
 have jL:=jK.le bC
 have q:=jL.el (fun _=>rfl) (wAR cU)
 obtain ⟨p7,qq,lj,lF⟩:=q
 refine oR Z (ZB Z Z lj Z zD zC (wAv cU) (wAz cU)) (oL Z (aS.ldC (f:=0) lF (v:=jV fV) Z Z zF Z) (oR Z (yV Z Z Z) (oM Z Z (oR Z (yo Z Z) (oM Z Z (bnK n7 fun qP jM oa=>zG 0 Z Z Z Z (zH Z Z yL (zB Z (zB Z (zB Z zM))) Z) aS (fun hs=>wAc (w64 ((w64 (ak.Time - fU)) - fV)) (w64 (-dF.Error)) dF.Error gm bG hs jM) (.inr Z) ?_))))))
 rintro cm pB qC gp oP lU ⟨rfl,rfl⟩
 have eP:sW w U cm [.blk dQ 117 B1,.blk b2 36 B0] gp:=lU
 refine eN (ifc oa ?_ ?_)
 intro cA oc
 refine ZG (congrArg nA cA.out) (sR fL2 Z (oA Z Z (oA Z Z (eN (zP (zg (zN ?_)))))))
 have q:=wAa oc
 obtain ⟨pm,od,gN⟩:=q
 obtain rfl:=eY pm gN
 refine zN (zg (zN ?_))
 cases od
 exact ⟨rfl,_,(wHO rfl rfl),cm,_,(eP.pick [] _ (by decide) rfl),rfl,rfl⟩
 intro cA oe
 refine zr (congrArg nA (nD.2 cA.out)) (Zr (ZE (zK (rR fL3 Z (oM Z cJ (oR Z (zj Z Z Z) (oA Z Z (zw ?_))))))))
 obtain rfl:=nB oe
 exact zK ⟨rfl,_,rfl,⟨cm,ec,ef,bL,rfl,(bC.trans oP),(eP.pick [1] _ (by decide) rfl)⟩⟩
 have fc:=fm;rw [if_neg aW] at fc;replace aW:=zL aW
 refine cF Z aW (Zf (zo ?_))
 have q:=wAa fc
 obtain ⟨pn,og,gO⟩:=q
 obtain rfl:=eY pn gO
 refine zo (ZX (zK (sR fL2 Z (oA Z Z (oA Z Z (eN (zP ?_)))))))
 cases og
 exact ⟨rfl,_,(wHO rfl rfl),bG,_,(bw.pick [] _ (by decide) rfl),rfl,rfl⟩
 intro ct oh
 refine cT Z ct (sR fL2 Z (oA Z Z (oA Z Z (eN (zP (zN ?_))))))
 cases oh
 exact ⟨rfl,_,(wHO rfl rfl),U8,_,(bi.pick [] _ (by decide) rfl),rfl,rfl⟩
 intro aj oj
 refine oT Z aj (oT Z aj (oT Z aj (oT Z aj (oT Z aj (oT Z aj (oR Z (zm Z (Zp aj.out) Z) (eN (ZG Z (sR fL2 Z (oA Z Z (oA Z Z (eN (zP (zN ?_))))))))))))))
 cases oj
 exact ⟨rfl,_,(wHO rfl rfl),U8,_,(bi.pick [] _ (by decide) rfl),rfl,rfl⟩
 intro cq om
 refine cT Z cq (sR fL3 Z (oM Z Z (oA Z Z (oA Z Z (eN (zP (zN ?_)))))))
 cases om
 exact ⟨rfl,_,(wHO rfl rfl),U8,_,(bi.pick [] _ (by decide) rfl),rfl,rfl⟩
end Go.Proofs.YtlnfbjphfoipaaaGreat
namespace Go.Proofs.YtlnfbjphfoipaaaGreat
open Go.KL
set_option maxHeartbeats 4000000
theorem wFg (p0:wAA) (aQ:Option Addr) (aU:Nat) (aR:Option Addr) (aV:Nat) (aS:Option Addr) (aW:Nat) (aT:Option Addr) (aX:Nat) (p1:List (List Int)) (be:Option Addr) (bg:Nat) (p2:List Int) (bf:Option Addr) (bh:Nat) (p3:Int) (p4:Int) (w:World) (U:PHeap) (hS:St0 w U []) (ct:Sl U 1 aQ aU p0.Starts.length (hH KL.encI p0.Starts)) (cu:Sl U 2 aR aV p0.Splits.length (hH wAB p0.Splits)) (cw:Sl U 3 aS aW p0.Clocks.length (hH wAD p0.Clocks)) (cx:Sl U 4 aT aX p0.Readings.length (hH wAC p0.Readings)) (cy:SlR U wMD be bg p1) (cz:Sl U 1 bf bh p2.length (hH KL.encI p2)) {r:Bool} (hm:wBI p0 p1 p2 p3 p4=some r):Gv Tryz.prog 19 [.agg #[.slice aQ p0.Starts.length aU,.slice aR p0.Splits.length aV,.slice aS p0.Clocks.length aW,.slice aT p0.Readings.length aX],.slice be p1.length bg,.slice bf p2.length bh,jV p3,jV p4] w (wCq w [] U (fun U_ L_ v=>v=.bool r/\L_=[])):=by
 unfold wBI at hm
 refine Gv.of Tryz.func19 Z Tryz.ntmps19 Tryz.results19 Z (sR gDe Z ?_)
 let B0:List Value:=[.slice aQ p0.Starts.length aU,.slice aR p0.Splits.length aV,.slice aS p0.Clocks.length aW,.slice aT p0.Readings.length aX]
 refine zy (cs:=B0) rfl rfl rfl rfl rfl rfl (by rfl) hS ?_
 intro W1 b2 am
 refine oA Z Z (eN (zJ (sR fL3 Z (oM Z Z (oM Z Z (oR Z (Zo Z Z Z) (eN ?_)))))))
 by_cases c5:p3=p4
 have bv:=hm;rw [if_pos c5] at bv;replace c5:=zL c5
 refine zr (Za (fun h=>h c5.out)) (kN (zJ (sR fL2 Z (oM Z Z (oR Z (Zo Z Z Z) (eN (ifc bv ?_ ?_)))))))
 intro c7 cD
 refine zr (Za (fun h=>h c7.out)) (kN (sR (.fl 0 (.fx 1 (.fl 2 (.fl 3 (.fx 4 (wJj (.nil)) .stop))) .stop)) Z (oL Z (am.ldBA (j:=0) Z Z Z ZA zl (vs:=B0) Z Z) (bnK cD fun x9 bJ cA=>zG 0 Z Z Z Z (zH Z Z Tryz.call11 (zB Z zM) Z) am (fun hs=>wCG p0 aQ aU aR aV aS aW aT aX W1 U hs ct cu cw cx bJ) (.inr Z) ?_))))
 rintro bD cO cR ai bB b9 ⟨bi,bp,bj,bq,bk,br,bm,bs,rfl,rfl⟩
 let B1:Res:=.row bm bs 117 4 (hH wAE x9.Readings)
 let B2:Res:=.row bk br 116 3 (hH wAF x9.Clocks)
 let B3:Res:=.row bj bq 39 2 (hH wAB x9.Splits)
 have cb:sW w U bD [.row bi bp 3 1 (hH KL.encI x9.Starts),B3,B2,B1,.blk b2 27 B0] ai:=b9
 refine oM Z Z (oM Z Z ?_)
 have q:=cb.freezeR (k:=0) (n:=x9.Starts.length) rfl (wAI (f:=KL.encI) (sz:=1) (fun _=>rfl) x9.Starts) (by decide)
 obtain ⟨bE,bC,cI,cd⟩:=q
 have cf:sW w U bE [B3,B2,B1,.blk b2 27 B0] ai:=cd
 have q:=cf.freezeR (k:=0) (n:=x9.Splits.length) rfl (wAI (f:=wAB) (sz:=2) (fun _=>rfl) x9.Splits) (by decide)
 obtain ⟨bF,ba,cJ,cg⟩:=q
 have cj:sW w U bF [B2,B1,.blk b2 27 B0] ai:=cg
 have q:=cj.freezeR (k:=0) (n:=x9.Clocks.length) rfl (wAI (f:=wAF) (sz:=3) (fun _=>rfl) x9.Clocks) (by decide)
 obtain ⟨bG,av,cK,cm⟩:=q
 have cn:sW w U bG [B1,.blk b2 27 B0] ai:=cm
 have q:=cn.freezeR (k:=0) (n:=x9.Readings.length) rfl (wAI (f:=wAE) (sz:=4) (fun _=>rfl) x9.Readings) (by decide)
 obtain ⟨bo,ap,cL,cp⟩:=q
 have cq:sW w U bo [.blk b2 27 B0] ai:=cp
 have bK:=cI.le ba
 have bL:=bK.le av
 have bM:=bL.le ap
 have bN:=cJ.le av
 have bO:=bN.le ap
 have bP:=cK.le ap
 have bQ:=cy.le bB
 have bR:=bQ.le bC
 have bS:=bR.le ba
 have bT:=bS.le av
 have bU:=bT.le ap
 have bV:=cz.le bB
 have bW:=bV.le bC
 have bX:=bW.le ba
 have bY:=bX.le av
 have bZ:=bY.le ap
 have q:=bnd cA
 obtain ⟨⟨cM,cN⟩,b5,bw⟩:=q
 try dsimp only at bw
 refine zG 0 Z Z Z Z (zH Z Z Tryz.call36 (zB Z (zB Z (zB Z zM))) Z) cq (fun hs=>wGD x9 bi bp bj bq bk br bm bs p1 be bg p2 bf bh ai bo hs bM bO bP cL bU bZ b5) (.inr Z) ?_
 rintro aZ cP cS bI cQ cr ⟨rfl,rfl⟩
 have bu:sW w U aZ [.blk b2 27 B0] bI:=cr
 refine oM Z Z (oR Z (ze Z Z (v:=.bool cM) Z) (oR Z (ze Z Z (v:=jV cN) Z) (oA Z Z (oA Z Z (eN (sR fL6 Z (oM Z Z (oR Z (Runs.eql Z Z Z) (oM Z Z (ifc bw ?_ ?_))))))))))
 intro ak cC
 refine ZJ Z Z Z (wT Z ak) Z Z (oR Z (zm Z (Zp ak.out) Z) (oA Z Z (eN (zP ?_))))
 have hE:=nB cC;first | subst r | cases hE
 exact ⟨rfl,_,(ZL rfl),aZ,_,(bu.pick [] _ (by decide) rfl),rfl,rfl⟩
 intro ak cE
 refine oF Z ak (oR Z (zz Z (Za ak.out) Z) (oA Z Z (eN (zP ?_))))
 have hE:=nB cE;first | subst r | cases hE
 exact ⟨rfl,_,(ZL rfl),aZ,_,(bu.pick [] _ (by decide) rfl),rfl,rfl⟩
 intro c7 cG
 refine cT Z c7 (sR fL9 Z (oM Z Z (oR Z (zi Z Z zZ) (oR Z (Runs.eql Z Z Z) (oM Z Z (ifc cG ?_ ?_))))))
 intro ab bz
 refine ZJ Z Z Z (wT Z ab) Z Z (rU Z (wT Z ab) (zi Z Z zD) (rU Z (wT Z ab) (Runs.eql Z Z Z) (oR Z (zm Z (Zp ab.out) Z) (oA Z Z (eN (zP (zN ?_)))))))
 first | (obtain rfl:=nB bz) | cases bz
 exact ⟨rfl,_,(ZL rfl),U,_,(am.pick [] _ (by decide) rfl),rfl,rfl⟩
 intro ab cH
 refine oF Z ab (oF Z ab (oF Z ab (oR Z (zz Z (Za ab.out) Z) (oA Z Z (eN (zP (zN ?_)))))))
 have hE:=nB cH;first | subst r | cases hE
 exact ⟨rfl,_,(ZL rfl),U,_,(am.pick [] _ (by decide) rfl),rfl,rfl⟩
 have bA:=hm;rw [if_neg c5] at bA;replace c5:=zL c5
 refine cT Z c5 (sR fL1 Z (oA Z Z (eN (zP (zN ?_)))))
 have hE:=nB bA;first | subst r | cases hE
 exact ⟨rfl,_,(ZL rfl),U,_,(am.pick [] _ (by decide) rfl),rfl,rfl⟩
theorem wEh (p0:List (List Int)) (aU:Option Addr) (aX:Nat) (p1:wAM) (w:World) (U:PHeap) (hS:St0 w U []) (aR:SlR U wMD aU aX p0) {r:Int} (hm:wCB p0 p1=some r):Gv Tryz.prog 20 [.slice aU p0.length aX,.agg #[jV p1.Skier,jV p1.Mat]] w (wCq w [] U (fun U_ L_ v=>v=jV r/\L_=[])):=by
 unfold wCB at hm
 refine Gv.of Tryz.func20 rfl Tryz.ntmps20 Tryz.results20 rfl (sR gDe rfl (zy (cs:=[jV p1.Skier,jV p1.Mat]) rfl rfl rfl rfl rfl rfl (by rfl) hS ?_))
 intro W1 b2 bh
 refine yi rfl rfl rfl rfl rfl rfl (eN (zJ (zJ (zx zn [3,1,3,3,3,1,3,3,3,3,3,3,1,3,3,3,3,1,3,3,1,3,1,3,3,3] fL26 (by kernel_rfl) ?_))))
 have ah:=bh.drew
 generalize hw_W6:({ W1 with drawn:=W1.drawn + 1 }:World)=W6 at ah ⊢
 refine oR Z (zE Z Z Zy Z zC) (oL Z (ah.ldB (j:=0) Z Z Z zF (v:=jV p1.Skier) Z) (oR Z (zf Z Z Z) (oM Z Z ?_)))
 by_cases c7:p1.Skier < 0
 have aS:=hm;rw [if_pos c7] at aS;replace c7:=zL c7
 refine oT Z c7 (oT Z c7 (oT Z c7 (oT Z c7 (oT Z c7 (oR Z (zm Z (Zp c7.out) Z) (oM Z Z (oN Z (oN Z (oN Z (oR Z (zm Z Z Z) (oM Z Z (oN Z (oN Z (oN Z (oN Z (oN Z (oN Z (oN Z (oN Z (oN Z (oR Z (zm Z Z Z) (eN (ZG Z (sR fL1 Z (oA Z Z (eN (zP (zN ?_))))))))))))))))))))))))))))
 cases aS
 exact ⟨rfl,_,(ZL rfl),U,_,(ah.pick [] _ (by decide) rfl),rfl,rfl⟩
 have aT:=hm;rw [if_neg c7] at aT;replace c7:=zL c7
 refine rU Z (wF Z c7) (zE Z Z Zy Z zC) (ZI Z Z Z (wF Z c7) (ah.ldB (j:=0) Z Z Z zF (v:=jV p1.Skier) Z) Z (ZJ Z Z Z (wF Z c7) Z Z (rU Z (wF Z c7) (zi Z Z zZ) (rU Z (wF Z c7) (Runs.geq Z Z Z) (oR Z (zz Z (Za c7.out) Z) (oM Z Z (ifc aT ?_ ?_)))))))
 intro ai bi
 refine oT Z ai (oT Z ai (oT Z ai (oR Z (zm Z (Zp ai.out) Z) (oM Z Z (oN Z (oN Z (oN Z (oN Z (oN Z (oN Z (oN Z (oN Z (oN Z (oR Z (zm Z Z Z) (eN (ZG Z (sR fL1 Z (oA Z Z (eN (zP (zN ?_)))))))))))))))))))))
 cases bi
 exact ⟨rfl,_,(ZL rfl),U,_,(ah.pick [] _ (by decide) rfl),rfl,rfl⟩
 intro ai bj
 refine rU Z (wF Z ai) (zE Z Z Zy Z zC) (ZI Z Z Z (wF Z ai) (ah.ldB (j:=0) Z Z Z zF (v:=jV p1.Mat) Z) Z (rU Z (wF Z ai) (zf Z Z Z) (oR Z (zz Z (Za ai.out) Z) (oM Z Z (ifc bj ?_ ?_)))))
 intro aa bk
 refine oT Z aa (oT Z aa (oT Z aa (oT Z aa (oT Z aa (oT Z aa (oT Z aa (oT Z aa (oT Z aa (oR Z (zm Z (Zp aa.out) Z) (eN (ZG Z (sR fL1 Z (oA Z Z (eN (zP (zN ?_))))))))))))))))
 cases bk
 exact ⟨rfl,_,(ZL rfl),U,_,(ah.pick [] _ (by decide) rfl),rfl,rfl⟩
 intro aa bm
 refine rU Z (wF Z aa) (zE Z Z Zy Z zC) (ZI Z Z Z (wF Z aa) (ah.ldB (j:=0) Z Z Z zF (v:=jV p1.Mat) Z) Z (ZJ Z Z Z (wF Z aa) Z Z (rU Z (wF Z aa) (zE Z Z Zy Z zC) (ZI Z Z Z (wF Z aa) (ah.ldB (j:=0) Z Z Z zF (v:=jV p1.Skier) Z) Z (bnK bm fun x16 aj bn=>?_)))))
 have q:=aR.el (wAR aj)
 obtain ⟨a0,bu,bE,bd,aq,br⟩:=q
 obtain ⟨aV,aY,rfl,bC⟩:=br
 replace aq:Cl U a0 (bu + p1.Skier.toNat * 1) [.slice aV x16.length aY]:=aq
 refine rU Z (wF Z aa) (ZB Z Z bd Z zZ zW (wAv aj) (wAz aj)) (ZI Z Z Z (wF Z aa) (ah.ldC (f:=0) aq (v:=.slice aV x16.length aY) Z Z zX Z) Z (rU Z (wF Z aa) (zi Z Z zD) (rU Z (wF Z aa) (Runs.geq Z Z Z) (oR Z (zz Z (Za aa.out) Z) (eN (ifc bn ?_ ?_))))))
 intro am bo
 refine cT Z am (sR fL1 Z (oA Z Z (eN (zP (zN ?_)))))
 cases bo
 exact ⟨rfl,_,(ZL rfl),U,_,(ah.pick [] _ (by decide) rfl),rfl,rfl⟩
 intro am bp
 refine cF Z am (kN (zJ (zx zn [3,3,1,3,1,3,1,3,1,3] fL10 (by kernel_rfl) ?_)))
 have ak:=ah.drew
 generalize hw_W32:({ W6 with drawn:=W6.drawn + 1 }:World)=bz at ak ⊢
 refine oM Z Z (oR Z (zE Z Z Zy Z zC) (oL Z (ak.ldB (j:=0) Z Z Z zF (v:=jV p1.Skier) Z) ?_))
 have q:=aR.el (wAR aj)
 obtain ⟨ba,bv,bF,be,au,bs⟩:=q
 obtain ⟨aW,aZ,rfl,bb⟩:=bs
 replace au:Cl U ba (bv + p1.Skier.toNat * 1) [.slice aW x16.length aZ]:=au
 refine oR Z (ZB Z Z be Z zZ zW (wAv aj) (wAz aj)) (oL Z (ak.ldC (f:=0) au (v:=.slice aW x16.length aZ) Z Z zX Z) (oR Z (zE Z Z Zy Z zC) (oL Z (ak.ldB (j:=0) Z Z Z zF (v:=jV p1.Mat) Z) (bnK bp fun bw ap bq=>?_))))
 have q:=bb.el (fun _=>rfl) (wAR ap)
 obtain ⟨bB,bD,bf,bg⟩:=q
 refine oR Z (ZB Z Z bf Z zD zC (wAv ap) (wAz ap)) (oL Z (ak.ldC (f:=0) bg (v:=jV bw) Z Z zF Z) (oA Z Z (eN (zP ?_))))
 have hE:=nB bq;first | subst r | cases hE
 exact ⟨rfl,_,(ZL rfl),U,_,(ak.pick [] _ (by decide) rfl),rfl,rfl⟩
theorem wFF (p0:List Int) (az:Option Addr) (aR:Nat) (p1:List Int) (aQ:Option Addr) (aS:Nat) (w:World) (U:PHeap) (hS:St0 w U []) (bs:Sl U 1 az aR p0.length (hH KL.encI p0)) (bu:Sl U 1 aQ aS p1.length (hH KL.encI p1)) {r:Bool} (hm:wCH p0 p1=some r):Gv Tryz.prog 26 [.slice az p0.length aR,.slice aQ p1.length aS] w (wCq w [] U (fun U_ L_ v=>v=.bool r/\L_=[])):=by
 unfold wCH at hm
 refine Gv.of Tryz.func26 Z Tryz.ntmps26 Tryz.results26 Z (sR fL1 Z (oA Z Z (eN (zJ (sR fL5 Z (oM Z Z (oR Z (zi Z Z zD) (oM Z Z (oR Z (zi Z Z zD) (oR Z (Zo Z Z Z) (eN ?_)))))))))))
 by_cases c1:(↑p0.length:Int)=(↑p1.length:Int)
 have aj:=hm;rw [if_pos c1] at aj;replace c1:=zL c1
 refine zr (Za (fun h=>h c1.out)) (kN (zJ (sR fL3 Z (oM Z Z (oR Z (zi Z Z zD) (oM Z Z (eN (zd ?_))))))))
 have q:=wCQ aj
 obtain ⟨r5,ap⟩:=q
 have q:=wCP ap
 obtain ⟨au,bz⟩:=q
 replace au:=zL au
 refine yP (fun k4 _ σ_ w_=>∃ (U_:PHeap),σ_ 13=jV (↑k4:Int)/\σ_ 0=.slice az p0.length aR/\σ_ 1=.slice aQ p1.length aS/\σ_ 12=jV (↑p0.length:Int)/\PHeap.Le U U_/\sW w U U_ [] w_) bz ?_ ?_ ?_
 exact ⟨U,Z,Z,Z,Z,(zQ _),hS⟩
 rintro k4 ⟨⟩ bS bU aU aq ⟨aT,am,aW,aX,aY,av,bq⟩ bd bv
 try dsimp only at bd
 have aV:Hid ((↑k4:Int) < (↑p0.length:Int)):=zL (wBm aq)
 replace aq:=zL aq
 have bA:Hid (w64 ((↑k4:Int) + 1)=(↑(k4 + 1):Int)):=zL (by have h1:=au.out;have h2:=aV.out;rw [wAZ] <;> omega)
 refine sR fL1 rfl (zq rfl rfl rfl rfl (fun _=>zf rfl am aY) (eN (zJ (cT Z aV (kN (zJ (zd (sR fL2 rfl (ZJ rfl rfl rfl rfl rfl am (yi rfl rfl rfl rfl rfl rfl (eN (zJ (zx zn [3,3,3,1,3,3,3,1,3] fL9 (by kernel_rfl) ?_)))))))))))))
 have ah:=bq.drew
 generalize hw_W25:({ aU with drawn:=aU.drawn + 1 }:World)=bI at ah ⊢
 refine oM Z aW (oM Z Z (bnK bd fun x26 aZ bB=>?_))
 have bj:=bs.le av
 have q:=bj.el (fun _=>rfl) (wAR aZ)
 obtain ⟨bK,bP,bm,bo⟩:=q
 refine oR Z (ZP Z Z bm Z zD zC (wBi aZ)) (oL Z (ah.ldC (f:=0) bo (v:=jV x26) Z Z zF Z) (oM Z aX (oM Z Z (bnK bB fun bH a0 bC=>?_))))
 have bk:=bu.le av
 have q:=bk.el (fun _=>rfl) (wAR a0)
 obtain ⟨bL,bQ,bn,bp⟩:=q
 refine oR Z (ZP Z Z bn Z zD zC (wBi a0)) (oL Z (ah.ldC (f:=0) bp (v:=jV bH) Z Z zF Z) (oR Z (Zo Z Z Z) (eN (ifc bC ?_ ?_))))
 intro ak bD
 refine zr (Za (fun h=>h ak.out)) (Zr (ZE (zK (rR fL2 Z (oR Z (Zd (zj Z am Z) (congrArg (jV) bA.out)) (oM Z Z (zw ?_)))))))
 obtain rfl:=nB bD
 exact zK ⟨Z,_,Z,⟨aT,Z,aW,aX,aY,av,ah⟩⟩
 intro ak bE
 refine cT Z ak (sR fL1 Z (oA Z Z (eN (zP (zg (zN ?_))))))
 have q:=wAa bE
 obtain ⟨bG,bF,bg⟩:=q
 obtain rfl:=wCK aj ap (bv bG bg)
 refine zN (zg (zN ?_))
 have hE:=nB bF;first | subst r | cases hE
 exact ⟨Z,_,(ZL Z),aT,_,ah,Z,Z⟩
 rintro ⟨⟩ bT bJ ⟨be,bi,bM,bN,bh,bO,br⟩ bw
 have ba:=wDE aj ap bw
 try dsimp only at ba
 have bf:Hid (¬ ((↑(((↑p0.length:Int):Int) - 0).toNat:Int) < (↑p0.length:Int))):=zL (wBB)
 refine sR fL1 Z (oR Z (zf Z bi bh) (eN (zJ (cF Z bf (Zf (zo (zo (ZX (zK (sR fL1 Z (oA Z Z (eN (zP ?_)))))))))))))
 have hE:=nB ba;first | subst r | cases hE
 exact ⟨Z,_,(ZL Z),be,_,br,Z,Z⟩
 have bb:=hm;rw [if_neg c1] at bb;replace c1:=zL c1
 refine cT Z c1 (sR fL1 Z (oA Z Z (eN (zP (zN ?_)))))
 have hE:=nB bb;first | subst r | cases hE
 exact ⟨Z,_,(ZL Z),U,_,hS,Z,Z⟩
theorem wER (p0:List wAL) (az:Option Addr) (aR:Nat) (p1:List wAL) (aQ:Option Addr) (aS:Nat) (w:World) (U:PHeap) (hS:St0 w U []) (bu:Sl U 2 az aR p0.length (hH wAB p0)) (bv:Sl U 2 aQ aS p1.length (hH wAB p1)) {r:Bool} (hm:wBW p0 p1=some r):Gv Tryz.prog 44 [.slice az p0.length aR,.slice aQ p1.length aS] w (wCq w [] U (fun U_ L_ v=>v=.bool r/\L_=[])):=by
 unfold wBW at hm
 refine Gv.of Tryz.func44 Z Tryz.ntmps44 Tryz.results44 Z (sR fL1 Z (oA Z Z (eN (zJ (sR fL5 Z (oM Z Z (oR Z (zi Z Z ZD) (oM Z Z (oR Z (zi Z Z ZD) (oR Z (Zo Z Z Z) (eN ?_)))))))))))
 by_cases c1:(↑p0.length:Int)=(↑p1.length:Int)
 have aj:=hm;rw [if_pos c1] at aj;replace c1:=zL c1
 refine zr (Za (fun h=>h c1.out)) (kN (zJ (sR fL3 Z (oM Z Z (oR Z (zi Z Z ZD) (oM Z Z (eN (zd ?_))))))))
 have q:=wCQ aj
 obtain ⟨r5,ap⟩:=q
 have q:=wCP ap
 obtain ⟨au,bA⟩:=q
 replace au:=zL au
 refine yP (fun k4 _ σ_ w_=>∃ (U_:PHeap),σ_ 13=jV (↑k4:Int)/\σ_ 0=.slice az p0.length aR/\σ_ 1=.slice aQ p1.length aS/\σ_ 12=jV (↑p0.length:Int)/\PHeap.Le U U_/\sW w U U_ [] w_) bA ?_ ?_ ?_
 exact ⟨U,Z,Z,Z,Z,(zQ _),hS⟩
 rintro k4 ⟨⟩ bS bU aV aq ⟨aU,am,aX,aY,aZ,av,br⟩ be bw
 try dsimp only at be
 have aW:Hid ((↑k4:Int) < (↑p0.length:Int)):=zL (wBm aq)
 replace aq:=zL aq
 have bB:Hid (w64 ((↑k4:Int) + 1)=(↑(k4 + 1):Int)):=zL (by have h1:=au.out;have h2:=aW.out;rw [wAZ] <;> omega)
 refine sR fL1 rfl (zq rfl rfl rfl rfl (fun _=>zf rfl am aZ) (eN (zJ (cT Z aW (kN (zJ (zd (sR fL2 rfl (ZJ rfl rfl rfl rfl rfl am (yi rfl rfl rfl rfl rfl rfl (eN (zJ (zx zn [3,3,3,1,3,3,3,1,3] fL9 (by kernel_rfl) ?_)))))))))))))
 have ah:=br.drew
 generalize hw_W25:({ aV with drawn:=aV.drawn + 1 }:World)=bI at ah ⊢
 refine oM Z aX (oM Z Z (bnK be fun x26 a0 bC=>?_))
 have bk:=bu.le av
 have q:=bk.el (fun _=>rfl) (wAR a0)
 obtain ⟨bK,bP,bn,bp⟩:=q
 refine oR Z (ZP Z Z bn Z ZD zS (wBi a0)) (oL Z (ah.ldCA (f:=0) bp Z Z ZT zS (us:=[jV x26.Lo,jV x26.Hi]) Z Z) (oM Z aY (oM Z Z (bnK bC fun aT ba bD=>?_))))
 have bm:=bv.le av
 have q:=bm.el (fun _=>rfl) (wAR ba)
 obtain ⟨bL,bQ,bo,bq⟩:=q
 refine oR Z (ZP Z Z bo Z ZD zS (wBi ba)) (oL Z (ah.ldCA (f:=0) bq Z Z ZT zS (us:=[jV aT.Lo,jV aT.Hi]) Z Z) (oR Z (Zd (Runs.neS (enc:=wAB) (a:=x26) (b:=aT) Z Z Z wPt wPs) (congrArg nA (decide_not).symm)) (eN (ifc bD ?_ ?_))))
 intro ak bE
 refine zr (Za (fun h=>h ak.out)) (Zr (ZE (zK (rR fL2 Z (oR Z (Zd (zj Z am Z) (congrArg (jV) bB.out)) (oM Z Z (zw ?_)))))))
 obtain rfl:=nB bE
 exact zK ⟨Z,_,Z,⟨aU,Z,aX,aY,aZ,av,ah⟩⟩
 intro ak bF
 refine cT Z ak (sR fL1 Z (oA Z Z (eN (zP (zg (zN ?_))))))
 have q:=wAa bF
 obtain ⟨bH,bG,bh⟩:=q
 obtain rfl:=wCK aj ap (bw bH bh)
 refine zN (zg (zN ?_))
 have hE:=nB bG;first | subst r | cases hE
 exact ⟨Z,_,(ZL Z),aU,_,ah,Z,Z⟩
 rintro ⟨⟩ bT bJ ⟨bf,bj,bM,bN,bi,bO,bs⟩ bz
 have bb:=wDE aj ap bz
 try dsimp only at bb
 have bg:Hid (¬ ((↑(((↑p0.length:Int):Int) - 0).toNat:Int) < (↑p0.length:Int))):=zL (wBB)
 refine sR fL1 Z (oR Z (zf Z bj bi) (eN (zJ (cF Z bg (Zf (zo (zo (ZX (zK (sR fL1 Z (oA Z Z (eN (zP ?_)))))))))))))
 have hE:=nB bb;first | subst r | cases hE
 exact ⟨Z,_,(ZL Z),bf,_,bs,Z,Z⟩
 have bd:=hm;rw [if_neg c1] at bd;replace c1:=zL c1
 refine cT Z c1 (sR fL1 Z (oA Z Z (eN (zP (zN ?_)))))
 have hE:=nB bd;first | subst r | cases hE
 exact ⟨Z,_,(ZL Z),U,_,hS,Z,Z⟩
theorem wEB (p0:List wAb) (aQ:Option Addr) (aS:Nat) (p1:List wAb) (aR:Option Addr) (aT:Nat) (w:World) (U:PHeap) (hS:St0 w U []) (bu:Sl U 3 aQ aS p0.length (hH wAD p0)) (bv:Sl U 3 aR aT p1.length (hH wAD p1)) {r:Bool} (hm:wBN p0 p1=some r):Gv Tryz.prog 76 [.slice aQ p0.length aS,.slice aR p1.length aT] w (wCq w [] U (fun U_ L_ v=>v=.bool r/\L_=[])):=by
 unfold wBN at hm
 refine Gv.of Tryz.func76 Z Tryz.ntmps76 Tryz.results76 Z (sR fL1 Z (oA Z Z (eN (zJ (sR fL5 Z (oM Z Z (oR Z (zi Z Z ZW) (oM Z Z (oR Z (zi Z Z ZW) (oR Z (Zo Z Z Z) (eN ?_)))))))))))
 by_cases c1:(↑p0.length:Int)=(↑p1.length:Int)
 have aj:=hm;rw [if_pos c1] at aj;replace c1:=zL c1
 refine zr (Za (fun h=>h c1.out)) (kN (zJ (sR fL3 Z (oM Z Z (oR Z (zi Z Z ZW) (oM Z Z (eN (zd ?_))))))))
 have q:=wCQ aj
 obtain ⟨r5,aq⟩:=q
 have q:=wCP aq
 obtain ⟨av,bA⟩:=q
 replace av:=zL av
 refine yP (fun k4 _ σ_ w_=>∃ (U_:PHeap),σ_ 13=jV (↑k4:Int)/\σ_ 0=.slice aQ p0.length aS/\σ_ 1=.slice aR p1.length aT/\σ_ 12=jV (↑p0.length:Int)/\PHeap.Le U U_/\sW w U U_ [] w_) bA ?_ ?_ ?_
 exact ⟨U,Z,Z,Z,Z,(zQ _),hS⟩
 rintro k4 ⟨⟩ bS bU aV au ⟨aU,ap,aX,aY,aZ,az,br⟩ be bw
 try dsimp only at be
 have aW:Hid ((↑k4:Int) < (↑p0.length:Int)):=zL (wBm au)
 replace au:=zL au
 have bB:Hid (w64 ((↑k4:Int) + 1)=(↑(k4 + 1):Int)):=zL (by have h1:=av.out;have h2:=aW.out;rw [wAZ] <;> omega)
 refine sR fL1 rfl (zq rfl rfl rfl rfl (fun _=>zf rfl ap aZ) (eN (zJ (cT Z aW (kN (zJ (zd (sR fL2 rfl (ZJ rfl rfl rfl rfl rfl ap (yi rfl rfl rfl rfl rfl rfl (eN (zJ (zx zn [3,3,3,1,3,3,3,1,3] fL9 (by kernel_rfl) ?_)))))))))))))
 have ah:=br.drew
 generalize hw_W25:({ aV with drawn:=aV.drawn + 1 }:World)=bI at ah ⊢
 refine oM Z aX (oM Z Z (bnK be fun x26 a0 bC=>?_))
 have bk:=bu.le az
 have q:=bk.el (fun _=>rfl) (wAR a0)
 obtain ⟨bK,bP,bn,bp⟩:=q
 refine oR Z (ZP Z Z bn Z ZW Zv (wBi a0)) (oL Z (ah.ldCA (f:=0) bp Z Z Tryz.isAgg112 Zv (us:=[jV x26.Offset.Lo,jV x26.Offset.Hi,jV x26.Error]) Z Z) (oM Z aY (oM Z Z (bnK bC fun ak ba bD=>?_))))
 have bm:=bv.le az
 have q:=bm.el (fun _=>rfl) (wAR ba)
 obtain ⟨bL,bQ,bo,bq⟩:=q
 refine oR Z (ZP Z Z bo Z ZW Zv (wBi ba)) (oL Z (ah.ldCA (f:=0) bq Z Z Tryz.isAgg112 Zv (us:=[jV ak.Offset.Lo,jV ak.Offset.Hi,jV ak.Error]) Z Z) (oR Z (Zd (Runs.neS (enc:=wAD) (a:=x26) (b:=ak) Z Z Z wTs wTr) (congrArg nA (decide_not).symm)) (eN (ifc bD ?_ ?_))))
 intro am bE
 refine zr (Za (fun h=>h am.out)) (Zr (ZE (zK (rR fL2 Z (oR Z (Zd (zj Z ap Z) (congrArg (jV) bB.out)) (oM Z Z (zw ?_)))))))
 obtain rfl:=nB bE
 exact zK ⟨Z,_,Z,⟨aU,Z,aX,aY,aZ,az,ah⟩⟩
 intro am bF
 refine cT Z am (sR fL1 Z (oA Z Z (eN (zP (zg (zN ?_))))))
 have q:=wAa bF
 obtain ⟨bH,bG,bh⟩:=q
 obtain rfl:=wCK aj aq (bw bH bh)
 refine zN (zg (zN ?_))
 have hE:=nB bG;first | subst r | cases hE
 exact ⟨Z,_,(ZL Z),aU,_,ah,Z,Z⟩
 rintro ⟨⟩ bT bJ ⟨bf,bj,bM,bN,bi,bO,bs⟩ bz
 have bb:=wDE aj aq bz
 try dsimp only at bb
 have bg:Hid (¬ ((↑(((↑p0.length:Int):Int) - 0).toNat:Int) < (↑p0.length:Int))):=zL (wBB)
 refine sR fL1 Z (oR Z (zf Z bj bi) (eN (zJ (cF Z bg (Zf (zo (zo (ZX (zK (sR fL1 Z (oA Z Z (eN (zP ?_)))))))))))))
 have hE:=nB bb;first | subst r | cases hE
 exact ⟨Z,_,(ZL Z),bf,_,bs,Z,Z⟩
 have bd:=hm;rw [if_neg c1] at bd;replace c1:=zL c1
 refine cT Z c1 (sR fL1 Z (oA Z Z (eN (zP (zN ?_)))))
 have hE:=nB bd;first | subst r | cases hE
 exact ⟨Z,_,(ZL Z),U,_,hS,Z,Z⟩
theorem wDk (p0:List wAT) (aQ:Option Addr) (aS:Nat) (p1:List wAT) (aR:Option Addr) (aT:Nat) (w:World) (U:PHeap) (hS:St0 w U []) (bu:Sl U 4 aQ aS p0.length (hH wAC p0)) (bv:Sl U 4 aR aT p1.length (hH wAC p1)) {r:Bool} (hm:wBG p0 p1=some r):Gv Tryz.prog 77 [.slice aQ p0.length aS,.slice aR p1.length aT] w (wCq w [] U (fun U_ L_ v=>v=.bool r/\L_=[])):=by
 unfold wBG at hm
 refine Gv.of Tryz.func77 Z Tryz.ntmps77 Tryz.results77 Z (sR fL1 Z (oA Z Z (eN (zJ (sR fL5 Z (oM Z Z (oR Z (zi Z Z Zn) (oM Z Z (oR Z (zi Z Z Zn) (oR Z (Zo Z Z Z) (eN ?_)))))))))))
 by_cases c1:(↑p0.length:Int)=(↑p1.length:Int)
 have ak:=hm;rw [if_pos c1] at ak;replace c1:=zL c1
 refine zr (Za (fun h=>h c1.out)) (kN (zJ (sR fL3 Z (oM Z Z (oR Z (zi Z Z Zn) (oM Z Z (eN (zd ?_))))))))
 have q:=wCQ ak
 obtain ⟨r5,aq⟩:=q
 have q:=wCP aq
 obtain ⟨av,bA⟩:=q
 replace av:=zL av
 refine yP (fun k4 _ σ_ w_=>∃ (U_:PHeap),σ_ 13=jV (↑k4:Int)/\σ_ 0=.slice aQ p0.length aS/\σ_ 1=.slice aR p1.length aT/\σ_ 12=jV (↑p0.length:Int)/\PHeap.Le U U_/\sW w U U_ [] w_) bA ?_ ?_ ?_
 exact ⟨U,Z,Z,Z,Z,(zQ _),hS⟩
 rintro k4 ⟨⟩ bS bU aV au ⟨aU,ap,aX,aY,aZ,az,br⟩ be bw
 try dsimp only at be
 have aW:Hid ((↑k4:Int) < (↑p0.length:Int)):=zL (wBm au)
 replace au:=zL au
 have bB:Hid (w64 ((↑k4:Int) + 1)=(↑(k4 + 1):Int)):=zL (by have h1:=av.out;have h2:=aW.out;rw [wAZ] <;> omega)
 refine sR fL1 rfl (zq rfl rfl rfl rfl (fun _=>zf rfl ap aZ) (eN (zJ (cT Z aW (kN (zJ (zd (sR fL2 rfl (ZJ rfl rfl rfl rfl rfl ap (yi rfl rfl rfl rfl rfl rfl (eN (zJ (zx zn [3,3,3,1,3,3,3,1,3] fL9 (by kernel_rfl) ?_)))))))))))))
 have ah:=br.drew
 generalize hw_W25:({ aV with drawn:=aV.drawn + 1 }:World)=bI at ah ⊢
 refine oM Z aX (oM Z Z (bnK be fun x26 a0 bC=>?_))
 have bk:=bu.le az
 have q:=bk.el (fun _=>rfl) (wAR a0)
 obtain ⟨bK,bP,bn,bp⟩:=q
 refine oR Z (ZP Z Z bn Z Zn Zs (wBi a0)) (oL Z (ah.ldCA (f:=0) bp Z Z ym Zs (us:=[jV x26.Skier,jV x26.Mat,jV x26.Clock,jV x26.Time]) Z Z) (oM Z aY (oM Z Z (bnK bC fun aj ba bD=>?_))))
 have bm:=bv.le az
 have q:=bm.el (fun _=>rfl) (wAR ba)
 obtain ⟨bL,bQ,bo,bq⟩:=q
 refine oR Z (ZP Z Z bo Z Zn Zs (wBi ba)) (oL Z (ah.ldCA (f:=0) bq Z Z ym Zs (us:=[jV aj.Skier,jV aj.Mat,jV aj.Clock,jV aj.Time]) Z Z) (oR Z (Zd (Runs.neS (enc:=wAC) (a:=x26) (b:=aj) Z Z Z wTv wTu) (congrArg nA (decide_not).symm)) (eN (ifc bD ?_ ?_))))
 intro am bE
 refine zr (Za (fun h=>h am.out)) (Zr (ZE (zK (rR fL2 Z (oR Z (Zd (zj Z ap Z) (congrArg (jV) bB.out)) (oM Z Z (zw ?_)))))))
 obtain rfl:=nB bE
 exact zK ⟨Z,_,Z,⟨aU,Z,aX,aY,aZ,az,ah⟩⟩
 intro am bF
 refine cT Z am (sR fL1 Z (oA Z Z (eN (zP (zg (zN ?_))))))
 have q:=wAa bF
 obtain ⟨bH,bG,bh⟩:=q
 obtain rfl:=wCK ak aq (bw bH bh)
 refine zN (zg (zN ?_))
 have hE:=nB bG;first | subst r | cases hE
 exact ⟨Z,_,(ZL Z),aU,_,ah,Z,Z⟩
 rintro ⟨⟩ bT bJ ⟨bf,bj,bM,bN,bi,bO,bs⟩ bz
 have bb:=wDE ak aq bz
 try dsimp only at bb
 have bg:Hid (¬ ((↑(((↑p0.length:Int):Int) - 0).toNat:Int) < (↑p0.length:Int))):=zL (wBB)
 refine sR fL1 Z (oR Z (zf Z bj bi) (eN (zJ (cF Z bg (Zf (zo (zo (ZX (zK (sR fL1 Z (oA Z Z (eN (zP ?_)))))))))))))
 have hE:=nB bb;first | subst r | cases hE
 exact ⟨Z,_,(ZL Z),bf,_,bs,Z,Z⟩
 have bd:=hm;rw [if_neg c1] at bd;replace c1:=zL c1
 refine cT Z c1 (sR fL1 Z (oA Z Z (eN (zP (zN ?_)))))
 have hE:=nB bd;first | subst r | cases hE
 exact ⟨Z,_,(ZL Z),U,_,hS,Z,Z⟩
theorem wDL (p0:wAA) (ap:Option Addr) (aT:Nat) (aq:Option Addr) (aU:Nat) (au:Option Addr) (aV:Nat) (av:Option Addr) (aW:Nat) (p1:wAA) (az:Option Addr) (aX:Nat) (aQ:Option Addr) (aY:Nat) (aR:Option Addr) (aZ:Nat) (aS:Option Addr) (a0:Nat) (w:World) (U:PHeap) (hS:St0 w U []) (bS:Sl U 1 ap aT p0.Starts.length (hH KL.encI p0.Starts)) (bT:Sl U 2 aq aU p0.Splits.length (hH wAB p0.Splits)) (bU:Sl U 3 au aV p0.Clocks.length (hH wAD p0.Clocks)) (bV:Sl U 4 av aW p0.Readings.length (hH wAC p0.Readings)) (bW:Sl U 1 az aX p1.Starts.length (hH KL.encI p1.Starts)) (bX:Sl U 2 aQ aY p1.Splits.length (hH wAB p1.Splits)) (bY:Sl U 3 aR aZ p1.Clocks.length (hH wAD p1.Clocks)) (bZ:Sl U 4 aS a0 p1.Readings.length (hH wAC p1.Readings)) {r:Bool} (hm:wBO p0 p1=some r):Gv Tryz.prog 21 [.agg #[.slice ap p0.Starts.length aT,.slice aq p0.Splits.length aU,.slice au p0.Clocks.length aV,.slice av p0.Readings.length aW],.agg #[.slice az p1.Starts.length aX,.slice aQ p1.Splits.length aY,.slice aR p1.Clocks.length aZ,.slice aS p1.Readings.length a0]] w (wCq w [] U (fun U_ L_ v=>v=.bool r/\L_=[])):=by
 unfold wBO at hm
 refine Gv.of Tryz.func21 Z Tryz.ntmps21 Tryz.results21 Z (sR gDp Z ?_)
 let B0:List Value:=[.slice ap p0.Starts.length aT,.slice aq p0.Splits.length aU,.slice au p0.Clocks.length aV,.slice av p0.Readings.length aW]
 refine zy (cs:=B0) rfl rfl rfl rfl rfl rfl (by rfl) hS ?_
 intro W1 b2 bN
 let B1:List Value:=[.slice az p1.Starts.length aX,.slice aQ p1.Splits.length aY,.slice aR p1.Clocks.length aZ,.slice aS p1.Readings.length a0]
 refine zy (cs:=B1) rfl rfl rfl rfl rfl rfl (by rfl) bN ?_
 intro W5 b6 bk
 refine oA Z Z (eN (sR (wEu (.fx 4 (wJj (.fx 10 (wSd (.fx 17 (wSh (.fx 24 (.fl 25 (.fl 26 .nil)) .stop)) .stop)) .stop)) .stop)) Z (oR Z (zE Z Z zU Z zW) (oL Z (bk.ldB (j:=1) Z Z Z zX (v:=.slice ap p0.Starts.length aT) Z) (oR Z (zE Z Z zU Z zW) (oL Z (bk.ldB (j:=0) Z Z Z zX (v:=.slice az p1.Starts.length aX) Z) (bnK hm fun x9 bu b5=>zG 0 Z Z Z Z (zH Z Z Tryz.call26 (zB Z (zB Z zM)) Z) bk (fun hs=>wFF p0.Starts ap aT p1.Starts az aX W5 U hs bS bW bu) (.inr Z) ?_)))))))
 rintro bh cq cy bn aj bM ⟨rfl,rfl⟩
 have bd:sW w U bh [.blk b6 27 B1,.blk b2 27 B0] bn:=bM
 refine oM Z Z (ifc b5 ?_ ?_)
 intro ae b9
 refine zq Z Z Z (zO Z Z (congrArg nA ae.out)) (fun _=>zE Z Z zU Z Zg) (ZI Z Z Z (zO Z Z (congrArg nA ae.out)) (bd.ldB (j:=1) Z Z Z Zl (v:=.slice aq p0.Splits.length aU) Z) Z (zq Z Z Z (zO Z Z (congrArg nA ae.out)) (fun _=>zE Z Z zU Z Zg) (ZI Z Z Z (zO Z Z (congrArg nA ae.out)) (bd.ldB (j:=0) Z Z Z Zl (v:=.slice aQ p1.Splits.length aY) Z) Z ?_)))
 have bv:=bT.le aj
 have bw:=bX.le aj
 refine bnK b9 fun cD bz cb=>zG 0 Z Z Z (zO Z Z (congrArg nA ae.out)) (zH Z Z Tryz.call44 (zB Z (zB Z zM)) Z) bd (fun hs=>wER p0.Splits aq aU p1.Splits aQ aY bn bh hs bv bw bz) (.inr Z) ?_
 rintro bi cr cz bo bg bO ⟨rfl,rfl⟩
 have be:sW w U bi [.blk b6 27 B1,.blk b2 27 B0] bo:=bO
 refine oR Z (zm Z (congrArg nA ae.out) Z) (oM Z Z (ifc cb ?_ ?_))
 intro ah cd
 refine zq Z Z Z (zO Z Z (congrArg nA ah.out)) (fun _=>zE Z Z zU Z yE) (ZI Z Z Z (zO Z Z (congrArg nA ah.out)) (be.ldB (j:=1) Z Z Z yH (v:=.slice au p0.Clocks.length aV) Z) Z (zq Z Z Z (zO Z Z (congrArg nA ah.out)) (fun _=>zE Z Z zU Z yE) (ZI Z Z Z (zO Z Z (congrArg nA ah.out)) (be.ldB (j:=0) Z Z Z yH (v:=.slice aR p1.Clocks.length aZ) Z) Z ?_)))
 have bA:=bU.le aj
 have bB:=bA.le bg
 have bC:=bY.le aj
 have bD:=bC.le bg
 refine bnK cd fun cE bE cf=>zG 0 Z Z Z (zO Z Z (congrArg nA ah.out)) (zH Z Z Tryz.call76 (zB Z (zB Z zM)) Z) be (fun hs=>wEB p0.Clocks au aV p1.Clocks aR aZ bo bi hs bB bD bE) (.inr Z) ?_
 rintro bj ct cA bp bq bP ⟨rfl,rfl⟩
 have bf:sW w U bj [.blk b6 27 B1,.blk b2 27 B0] bp:=bP
 refine oR Z (zm Z (congrArg nA ah.out) Z) (oM Z Z (ifc cf ?_ ?_))
 intro ai cg
 refine zq Z Z Z (zO Z Z (congrArg nA ai.out)) (fun _=>zE Z Z zU Z yR) (ZI Z Z Z (zO Z Z (congrArg nA ai.out)) (bf.ldB (j:=1) Z Z Z yW (v:=.slice av p0.Readings.length aW) Z) Z (zq Z Z Z (zO Z Z (congrArg nA ai.out)) (fun _=>zE Z Z zU Z yR) (ZI Z Z Z (zO Z Z (congrArg nA ai.out)) (bf.ldB (j:=0) Z Z Z yW (v:=.slice aS p1.Readings.length a0) Z) Z ?_)))
 have bF:=bV.le aj
 have bG:=bF.le bg
 have bH:=bG.le bq
 have bI:=bZ.le aj
 have bJ:=bI.le bg
 have bK:=bJ.le bq
 refine bnK cg fun x57 bL cj=>zG 0 Z Z Z (zO Z Z (congrArg nA ai.out)) (zH Z Z Tryz.call77 (zB Z (zB Z zM)) Z) bf (fun hs=>wDk p0.Readings av aW p1.Readings aS a0 bp bj hs bH bK bL) (.inr Z) ?_
 rintro bm cu cC bs cx bQ ⟨rfl,rfl⟩
 have bR:sW w U bm [.blk b6 27 B1,.blk b2 27 B0] bs:=bQ
 refine oR Z (zm Z (congrArg nA ai.out) Z) (oA Z Z (eN (zP ?_)))
 have hE:=nB cj;first | subst r | cases hE
 exact ⟨rfl,_,(ZL rfl),bm,_,(bR.pick [] _ (by decide) rfl),rfl,rfl⟩
 intro ai cm
 refine Zb Z Z Z (zu Z Z (congrArg nA (nD.2 ai.out)) Z) (Zb Z Z Z (zu Z Z (congrArg nA (nD.2 ai.out)) Z) (Zb Z Z Z (zu Z Z (congrArg nA (nD.2 ai.out)) Z) (Zb Z Z Z (zu Z Z (congrArg nA (nD.2 ai.out)) Z) (yU Z Z Z (zu Z Z (congrArg nA (nD.2 ai.out)) Z) (oR Z (zz Z (congrArg nA (nD.2 ai.out)) Z) (oA Z Z (eN (zP ?_))))))))
 have hE:=nB cm;first | subst r | cases hE
 exact ⟨rfl,_,(ZL rfl),bj,_,(bf.pick [] _ (by decide) rfl),rfl,rfl⟩
 intro ah cn
 refine Zb Z Z Z (zu Z Z (congrArg nA (nD.2 ah.out)) Z) (Zb Z Z Z (zu Z Z (congrArg nA (nD.2 ah.out)) Z) (Zb Z Z Z (zu Z Z (congrArg nA (nD.2 ah.out)) Z) (Zb Z Z Z (zu Z Z (congrArg nA (nD.2 ah.out)) Z) (yU Z Z Z (zu Z Z (congrArg nA (nD.2 ah.out)) Z) (oR Z (zz Z (congrArg nA (nD.2 ah.out)) Z) (oM Z Z (oN Z (oN Z (oN Z (oN Z (yU Z Z Z (zu Z Z Z Z) (oR Z (zz Z Z Z) (oA Z Z (eN (zP ?_)))))))))))))))
 have hE:=nB cn;first | subst r | cases hE
 exact ⟨rfl,_,(ZL rfl),bi,_,(be.pick [] _ (by decide) rfl),rfl,rfl⟩
 intro ae cp
 refine Zb Z Z Z (zu Z Z (congrArg nA (nD.2 ae.out)) Z) (Zb Z Z Z (zu Z Z (congrArg nA (nD.2 ae.out)) Z) (Zb Z Z Z (zu Z Z (congrArg nA (nD.2 ae.out)) Z) (Zb Z Z Z (zu Z Z (congrArg nA (nD.2 ae.out)) Z) (yU Z Z Z (zu Z Z (congrArg nA (nD.2 ae.out)) Z) (oR Z (zz Z (congrArg nA (nD.2 ae.out)) Z) (oM Z Z (oN Z (oN Z (oN Z (oN Z (yU Z Z Z (zu Z Z Z Z) (oR Z (zz Z Z Z) (oM Z Z (oN Z (oN Z (oN Z (oN Z (yU Z Z Z (zu Z Z Z Z) (oR Z (zz Z Z Z) (oA Z Z (eN (zP ?_))))))))))))))))))))))
 have hE:=nB cp;first | subst r | cases hE
 exact ⟨rfl,_,(ZL rfl),bh,_,(bd.pick [] _ (by decide) rfl),rfl,rfl⟩
end Go.Proofs.YtlnfbjphfoipaaaGreat
namespace Go.Proofs.YtlnfbjphfoipaaaGreat
open Go.KL
set_option maxHeartbeats 4000000
theorem wEd (p0:wAA) (bb:Option Addr) (bg:Nat) (bd:Option Addr) (bh:Nat) (be:Option Addr) (bi:Nat) (bf:Option Addr) (bj:Nat) (p1:wAM) (p2:wAM) (p3:Int) (p4:Bool) (w:World) (U:PHeap) (hS:St0 w U []) (cn:Sl U 1 bb bg p0.Starts.length (hH KL.encI p0.Starts)) (cp:Sl U 2 bd bh p0.Splits.length (hH wAB p0.Splits)) (cq:Sl U 3 be bi p0.Clocks.length (hH wAD p0.Clocks)) (cr:Sl U 4 bf bj p0.Readings.length (hH wAC p0.Readings)) {r:Bool} (hm:wBj p0 p1 p2 p3 p4=some r):Gv Tryz.prog 3 [.agg #[.slice bb p0.Starts.length bg,.slice bd p0.Splits.length bh,.slice be p0.Clocks.length bi,.slice bf p0.Readings.length bj],.agg #[jV p1.Skier,jV p1.Mat],.agg #[jV p2.Skier,jV p2.Mat],jV p3,.bool p4] w (wCq w [] U (fun U_ L_ v=>v=.bool r/\L_=[])):=by
 unfold wBj at hm
 refine Gv.of Tryz.func3 Z Tryz.ntmps3 Tryz.results3 Z (sR gDx Z ?_)
 let B0:List Value:=[.slice bb p0.Starts.length bg,.slice bd p0.Splits.length bh,.slice be p0.Clocks.length bi,.slice bf p0.Readings.length bj]
 refine zy (cs:=B0) rfl rfl rfl rfl rfl rfl (by rfl) hS ?_
 intro W1 b2 An
 let B1:List Value:=[jV p1.Skier,jV p1.Mat]
 refine zy (cs:=B1) rfl rfl rfl rfl rfl rfl (by rfl) An ?_
 intro W5 b6 Ay
 let B2:List Value:=[jV p2.Skier,jV p2.Mat]
 refine zy (cs:=B2) rfl rfl rfl rfl rfl rfl (by rfl) Ay ?_
 intro W9 ah mR
 refine oA Z Z (eN (zJ (sR gDg Z (oL Z (mR.ldBA (j:=2) Z Z Z ZA zl (vs:=B0) Z Z) (bnK hm fun DB sc AX=>zG 0 Z Z Z Z (zH Z Z Tryz.call8 (zB Z zM) Z) mR (fun hs=>wGA p0 bb bg bd bh be bi bf bj W9 U hs cn cp cq cr sc) (.inr Z) ?_)))))
 rintro aV Cq Ds gh av Am ⟨rfl,rfl⟩
 have mZ:sW w U aV [.blk ah 29 B2,.blk b6 29 B1,.blk b2 27 B0] gh:=Am
 refine eN (ifc AX ?_ ?_)
 intro iG BB
 refine ZG (congrArg nA iG.out) (sR gDe Z (bnK BB fun DL wP BC=>zG 0 Z Z Z Z (zH Z Z Tryz.call9 zM Z) mZ (fun hs=>wCS gh aV hs wP) (.inr Z) ?_))
 rintro jX Cz Dx pn Da Ao ⟨rfl,rfl⟩
 have Ap:sW w U jX [.blk ah 29 B2,.blk b6 29 B1,.blk b2 27 B0] pn:=Ao
 refine oA Z Z (eN (zP (zN ?_)))
 have hE:=nB BC;first | subst r | cases hE
 exact ⟨rfl,_,(ZL rfl),jX,_,(Ap.pick [] _ (by decide) rfl),rfl,rfl⟩
 intro iG BD
 refine zr (congrArg nA (nD.2 iG.out)) (kN ?_)
 have q:=bnd BD
 obtain ⟨⟨bC,bp,bq,br,bP,bQ,bR,bS⟩,BM,n7⟩:=q
 try dsimp only at n7
 refine yQ (fun σ_ w_=>∃ (U_:PHeap) (ap:Nat) (bI:Option Addr) (bK:Nat) (bu:Option Addr) (bz:Nat) (bv:Option Addr) (bA:Nat) (bw:Option Addr) (bB:Nat) (eE:Nat) (bW:Option Addr) (cf:Nat) (bX:Option Addr) (cg:Nat) (bY:Option Addr) (cj:Nat) (bZ:Option Addr) (cm:Nat),σ_ 3=jV p3/\σ_ 4=.bool p4/\σ_ 5=.pointer (some ⟨b2,0,none⟩)/\σ_ 6=.pointer (some ⟨b6,0,none⟩)/\σ_ 7=.pointer (some ⟨ah,0,none⟩)/\σ_ 11=.pointer (some ⟨ap,0,none⟩)/\σ_ 12=.pointer (some ⟨eE,0,none⟩)/\PHeap.Le aV U_/\sW w U U_ [.blk ah 29 B2,.blk b6 29 B1,.blk b2 27 B0,.blk ap 27 [.slice bI bC.length bK,.slice bu bp.length bz,.slice bv bq.length bA,.slice bw br.length bB],.row bI bK 3 1 (hH KL.encI bC),.row bu bz 39 2 (hH wAB bp),.row bv bA 112 3 (hH wAD bq),.row bw bB 115 4 (hH wAC br),.blk eE 36 [.slice bW bP.length cf,.slice bX bQ.length cg,.slice bY bR.length cj,.slice bZ bS.length cm],.row bW cf 3 1 (hH KL.encI bP),.row bX cg 39 2 (hH wAB bQ),.row bY cj 116 3 (hH wAF bR),.row bZ cm 117 4 (hH wAE bS)] w_) ?_ ?_
 refine bnK BM fun aa gT AS=>bnK AS fun x97 gU AT=>zx zn [1,2,1,2,2,2,0,0] (.fl 0 (.fl 2 (.fx 1 (.fx 3 (.fx 4 gDt (.fx 5 gDu .stop)) (.fx 4 gEc (.fx 5 gEd .stop))) (.fx 4 (.fx 1 gEc (.fx 5 gEa .stop)) (.fx 5 (.fx 1 gEd (.fx 4 gEa .stop)) .stop))))) (by kernel_rfl) ?_
 have dL:=mZ.drew
 generalize hw_W136:({ gh with drawn:=gh.drawn + 1 }:World)=o6 at dL ⊢
 refine ZR (s:=.nil) (M:=fun σ_ w_=>∃ (U_:PHeap) (gi:Nat) (dW:Option Addr) (eX:Nat) (dX:Option Addr) (eY:Nat) (dY:Option Addr) (eZ:Nat) (dZ:Option Addr) (e8:Nat) (gj:Nat) (d5:Option Addr) (e9:Nat) (d6:Option Addr) (fb:Nat) (d7:Option Addr) (fc:Nat) (d8:Option Addr) (fd:Nat),σ_ 3=jV p3/\σ_ 4=.bool p4/\σ_ 5=.pointer (some ⟨b2,0,none⟩)/\σ_ 6=.pointer (some ⟨b6,0,none⟩)/\σ_ 7=.pointer (some ⟨ah,0,none⟩)/\σ_ 11=.pointer (some ⟨gi,0,none⟩)/\σ_ 12=.pointer (some ⟨gj,0,none⟩)/\σ_ 24=.agg B0.toArray/\σ_ 25=.agg #[.slice dW aa.Starts.length eX,.slice dX aa.Splits.length eY,.slice dY aa.Clocks.length eZ,.slice dZ aa.Readings.length e8]/\σ_ 26=.agg B0.toArray/\σ_ 27=.agg #[.slice d5 x97.Starts.length e9,.slice d6 x97.Splits.length fb,.slice d7 x97.Clocks.length fc,.slice d8 x97.Readings.length fd]/\PHeap.Le aV U_/\sW w U U_ [.blk ah 29 B2,.blk b6 29 B1,.blk b2 27 B0,.blk gi 27 [.slice dW aa.Starts.length eX,.slice dX aa.Splits.length eY,.slice dY aa.Clocks.length eZ,.slice dZ aa.Readings.length e8],.row dW eX 3 1 (hH KL.encI aa.Starts),.row dX eY 39 2 (hH wAB aa.Splits),.row dY eZ 112 3 (hH wAD aa.Clocks),.row dZ e8 115 4 (hH wAC aa.Readings),.blk gj 36 [.slice d5 x97.Starts.length e9,.slice d6 x97.Splits.length fb,.slice d7 x97.Clocks.length fc,.slice d8 x97.Readings.length fd],.row d5 e9 3 1 (hH KL.encI x97.Starts),.row d6 fb 39 2 (hH wAB x97.Splits),.row d7 fc 116 3 (hH wAF x97.Clocks),.row d8 fd 117 4 (hH wAE x97.Readings)] w_) ?_ fun BN=>?_
 rintro DO CT ⟨oH,gi,dW,eX,dX,eY,dY,eZ,dZ,e8,gj,d5,e9,d6,fb,d7,fc,d8,fd,qb,qc,qd,qe,qf,qh,qi,C0,C1,C2,C3,BS,Aq⟩
 refine zw ?_
 cases AT
 exact zK ⟨Z,⟨oH,gi,dW,eX,dX,eY,dY,eZ,dZ,e8,gj,d5,e9,d6,fb,d7,fc,d8,fd,qb,qc,qd,qe,qf,qh,qi,BS,Aq⟩⟩
 let B3:List Value:=[.slice none 0 0,.slice none 0 0,.slice none 0 0,.slice none 0 0]
 refine ZR (s:=.fx 7 .nil .stop) (M:=fun σ_ w_=>∃ (U_:PHeap) (eF:Nat) (cC:Option Addr) (cI:Nat) (cD:Option Addr) (cJ:Nat) (cE:Option Addr) (cK:Nat) (cG:Option Addr) (cL:Nat) (eG:Nat) (cU:Option Addr) (dz:Nat) (cV:Option Addr) (dA:Nat) (cW:Option Addr) (dB:Nat) (cX:Option Addr) (dC:Nat),σ_ 3=jV p3/\σ_ 4=.bool p4/\σ_ 5=.pointer (some ⟨b2,0,none⟩)/\σ_ 6=.pointer (some ⟨b6,0,none⟩)/\σ_ 7=.pointer (some ⟨ah,0,none⟩)/\σ_ 11=.pointer (some ⟨eF,0,none⟩)/\σ_ 12=.pointer (some ⟨eG,0,none⟩)/\σ_ 24=.agg B0.toArray/\σ_ 25=.agg #[.slice cC aa.Starts.length cI,.slice cD aa.Splits.length cJ,.slice cE aa.Clocks.length cK,.slice cG aa.Readings.length cL]/\σ_ 26=.agg B0.toArray/\σ_ 27=.agg #[.slice cU x97.Starts.length dz,.slice cV x97.Splits.length dA,.slice cW x97.Clocks.length dB,.slice cX x97.Readings.length dC]/\PHeap.Le aV U_/\sW w U U_ [.blk ah 29 B2,.blk b6 29 B1,.blk b2 27 B0,.blk eF 27 [.slice cC aa.Starts.length cI,.slice cD aa.Splits.length cJ,.slice cE aa.Clocks.length cK,.slice cG aa.Readings.length cL],.row cC cI 3 1 (hH KL.encI aa.Starts),.row cD cJ 39 2 (hH wAB aa.Splits),.row cE cK 112 3 (hH wAD aa.Clocks),.row cG cL 115 4 (hH wAC aa.Readings),.blk eG 36 B3,.row cU dz 3 1 (hH KL.encI x97.Starts),.row cV dA 39 2 (hH wAB x97.Splits),.row cW dB 116 3 (hH wAF x97.Clocks),.row cX dC 117 4 (hH wAE x97.Readings)] w_) ?_ fun BO=>?_
 rintro DP CU ⟨jY,eF,cC,cI,cD,cJ,cE,cK,cG,cL,eG,cU,dz,cV,dA,cW,dB,cX,dC,qj,qk,qm,qn,qo,qp,l8,qq,qr,qt,ma,BT,Ar⟩
 let B4:List Value:=[.slice cU x97.Starts.length dz,.slice cV x97.Splits.length dA,.slice cW x97.Clocks.length dB,.slice cX x97.Readings.length dC]
 refine zY (j:=8) (vs:=B4) Z Z Z Z Ar Z l8 ma Z ZH (zA Z) Z Z Z ?_
 intro po As
 have Au:sW w U jY [.blk ah 29 B2,.blk b6 29 B1,.blk b2 27 B0,.blk eF 27 [.slice cC aa.Starts.length cI,.slice cD aa.Splits.length cJ,.slice cE aa.Clocks.length cK,.slice cG aa.Readings.length cL],.row cC cI 3 1 (hH KL.encI aa.Starts),.row cD cJ 39 2 (hH wAB aa.Splits),.row cE cK 112 3 (hH wAD aa.Clocks),.row cG cL 115 4 (hH wAC aa.Readings),.blk eG 36 B4,.row cU dz 3 1 (hH KL.encI x97.Starts),.row cV dA 39 2 (hH wAB x97.Splits),.row cW dB 116 3 (hH wAF x97.Clocks),.row cX dC 117 4 (hH wAE x97.Readings)] po:=As
 exact BN _ _ ⟨jY,eF,cC,cI,cD,cJ,cE,cK,cG,cL,eG,cU,dz,cV,dA,cW,dB,cX,dC,qj,qk,qm,qn,qo,qp,l8,qq,qr,qt,ma,BT,Au⟩
 refine ZR (s:=gDm) (M:=fun σ_ w_=>∃ (U_:PHeap) (eH:Nat) (eI:Nat) (cY:Option Addr) (dD:Nat) (cZ:Option Addr) (dE:Nat) (da:Option Addr) (dF:Nat) (db:Option Addr) (dG:Nat) (d9:Option Addr) (ff:Nat) (ec:Option Addr) (fg:Nat) (ef:Option Addr) (fh:Nat) (eg:Option Addr) (fj:Nat),σ_ 3=jV p3/\σ_ 4=.bool p4/\σ_ 5=.pointer (some ⟨b2,0,none⟩)/\σ_ 6=.pointer (some ⟨b6,0,none⟩)/\σ_ 7=.pointer (some ⟨ah,0,none⟩)/\σ_ 11=.pointer (some ⟨eH,0,none⟩)/\σ_ 12=.pointer (some ⟨eI,0,none⟩)/\σ_ 24=.agg B0.toArray/\σ_ 25=.agg #[.slice cY aa.Starts.length dD,.slice cZ aa.Splits.length dE,.slice da aa.Clocks.length dF,.slice db aa.Readings.length dG]/\σ_ 26=.agg B0.toArray/\σ_ 27=.agg #[.slice d9 x97.Starts.length ff,.slice ec x97.Splits.length fg,.slice ef x97.Clocks.length fh,.slice eg x97.Readings.length fj]/\PHeap.Le aV U_/\sW w U U_ [.blk ah 29 B2,.blk b6 29 B1,.blk b2 27 B0,.blk eH 27 B3,.blk eI 36 B3,.row cY dD 3 1 (hH KL.encI aa.Starts),.row cZ dE 39 2 (hH wAB aa.Splits),.row da dF 112 3 (hH wAD aa.Clocks),.row db dG 115 4 (hH wAC aa.Readings),.row d9 ff 3 1 (hH KL.encI x97.Starts),.row ec fg 39 2 (hH wAB x97.Splits),.row ef fh 116 3 (hH wAF x97.Clocks),.row eg fj 117 4 (hH wAE x97.Readings)] w_) ?_ fun iZ=>?_
 rintro DQ CV ⟨jZ,eH,eI,cY,dD,cZ,dE,da,dF,db,dG,d9,ff,ec,fg,ef,fh,eg,fj,qu,qv,qw,qx,qy,mb,qz,qA,mc,qB,qC,BU,Av⟩
 let B5:List Value:=[.slice cY aa.Starts.length dD,.slice cZ aa.Splits.length dE,.slice da aa.Clocks.length dF,.slice db aa.Readings.length dG]
 refine zY (j:=3) (vs:=B5) Z Z Z Z Av Z mb mc Z zl (zA Z) Z Z Z ?_
 intro pp Aw
 have Ax:sW w U jZ [.blk ah 29 B2,.blk b6 29 B1,.blk b2 27 B0,.blk eH 27 B5,.blk eI 36 B3,.row cY dD 3 1 (hH KL.encI aa.Starts),.row cZ dE 39 2 (hH wAB aa.Splits),.row da dF 112 3 (hH wAD aa.Clocks),.row db dG 115 4 (hH wAC aa.Readings),.row d9 ff 3 1 (hH KL.encI x97.Starts),.row ec fg 39 2 (hH wAB x97.Splits),.row ef fh 116 3 (hH wAF x97.Clocks),.row eg fj 117 4 (hH wAE x97.Readings)] pp:=Aw
 exact BO _ _ ⟨jZ,eH,cY,dD,cZ,dE,da,dF,db,dG,eI,d9,ff,ec,fg,ef,fh,eg,fj,qu,qv,qw,qx,qy,mb,qz,qA,mc,qB,qC,BU,(Ax.pick [0,1,2,3,5,6,7,8,4,9,10,11,12] _ (by decide) rfl)⟩
 refine ZR (s:=gDv) (M:=fun σ_ w_=>∃ (U_:PHeap) (eJ:Nat) (eK:Nat) (eh:Option Addr) (fm:Nat) (ej:Option Addr) (fq:Nat) (en:Option Addr) (ft:Nat) (eu:Option Addr) (fu:Nat),σ_ 3=jV p3/\σ_ 4=.bool p4/\σ_ 5=.pointer (some ⟨b2,0,none⟩)/\σ_ 6=.pointer (some ⟨b6,0,none⟩)/\σ_ 7=.pointer (some ⟨ah,0,none⟩)/\σ_ 11=.pointer (some ⟨eJ,0,none⟩)/\σ_ 12=.pointer (some ⟨eK,0,none⟩)/\σ_ 24=.agg B0.toArray/\σ_ 25=.agg #[.slice eh aa.Starts.length fm,.slice ej aa.Splits.length fq,.slice en aa.Clocks.length ft,.slice eu aa.Readings.length fu]/\σ_ 26=.agg B0.toArray/\PHeap.Le aV U_/\sW w U U_ [.blk ah 29 B2,.blk b6 29 B1,.blk b2 27 B0,.blk eJ 27 B3,.blk eK 36 B3,.row eh fm 3 1 (hH KL.encI aa.Starts),.row ej fq 39 2 (hH wAB aa.Splits),.row en ft 112 3 (hH wAD aa.Clocks),.row eu fu 115 4 (hH wAC aa.Readings)] w_) ?_ fun i4=>?_
 rintro DR pq ⟨oI,eJ,eK,eh,fm,ej,fq,en,ft,eu,fu,qD,qE,qF,qG,qH,qI,qJ,qK,qL,md,fz,Az⟩
 have wQ:=cn.le av
 have wR:=wQ.le fz
 have wS:=cp.le av
 have wU:=wS.le fz
 have wV:=cq.le av
 have wW:=wV.le fz
 have wX:=cr.le av
 have wY:=wX.le fz
 refine zG 0 Z Z Z Z (zH Z Z Tryz.call11 (zB md zM) Z) Az (fun hs=>wCG p0 bb bg bd bh be bi bf bj pq oI hs wR wU wW wY gU) (.inr Z) ?_
 rintro j0 CA Dy pu BV AA ⟨jl,lF,jm,lG,jo,lH,jp,lI,rfl,rfl⟩
 have AD:sW w U j0 [.row jl lF 3 1 (hH KL.encI x97.Starts),.row jm lG 39 2 (hH wAB x97.Splits),.row jo lH 116 3 (hH wAF x97.Clocks),.row jp lI 117 4 (hH wAE x97.Readings),.blk ah 29 B2,.blk b6 29 B1,.blk b2 27 B0,.blk eJ 27 B3,.blk eK 36 B3,.row eh fm 3 1 (hH KL.encI aa.Starts),.row ej fq 39 2 (hH wAB aa.Splits),.row en ft 112 3 (hH wAD aa.Clocks),.row eu fu 115 4 (hH wAC aa.Readings)] pu:=AA
 exact iZ _ _ ⟨j0,eJ,eK,eh,fm,ej,fq,en,ft,eu,fu,jl,lF,jm,lG,jo,lH,jp,lI,qD,qE,qF,qG,qH,qI,qJ,qK,qL,md,rfl,(fz.trans BV),(AD.pick [4,5,6,7,8,9,10,11,12,0,1,2,3] _ (by decide) rfl)⟩
 refine ZR (s:=gDu) (M:=fun σ_ w_=>∃ (U_:PHeap) (gk:Nat) (fK:Option Addr) (gq:Nat) (fL:Option Addr) (gt:Nat) (fM:Option Addr) (gu:Nat) (fN:Option Addr) (gv:Nat) (fO:Option Addr) (gw:Nat) (fP:Option Addr) (gx:Nat) (fQ:Option Addr) (gy:Nat) (fR:Option Addr) (gz:Nat),σ_ 3=jV p3/\σ_ 4=.bool p4/\σ_ 5=.pointer (some ⟨b2,0,none⟩)/\σ_ 6=.pointer (some ⟨b6,0,none⟩)/\σ_ 7=.pointer (some ⟨ah,0,none⟩)/\σ_ 12=.pointer (some ⟨gk,0,none⟩)/\σ_ 24=.agg B0.toArray/\σ_ 25=.agg #[.slice fK aa.Starts.length gq,.slice fL aa.Splits.length gt,.slice fM aa.Clocks.length gu,.slice fN aa.Readings.length gv]/\σ_ 26=.agg B0.toArray/\σ_ 27=.agg #[.slice fO x97.Starts.length gw,.slice fP x97.Splits.length gx,.slice fQ x97.Clocks.length gy,.slice fR x97.Readings.length gz]/\PHeap.Le aV U_/\sW w U U_ [.blk ah 29 B2,.blk b6 29 B1,.blk b2 27 B0,.blk gk 36 B3,.row fK gq 3 1 (hH KL.encI aa.Starts),.row fL gt 39 2 (hH wAB aa.Splits),.row fM gu 112 3 (hH wAD aa.Clocks),.row fN gv 115 4 (hH wAC aa.Readings),.row fO gw 3 1 (hH KL.encI x97.Starts),.row fP gx 39 2 (hH wAB x97.Splits),.row fQ gy 116 3 (hH wAF x97.Clocks),.row fR gz 117 4 (hH wAE x97.Readings)] w_) ?_ fun oc=>?_
 rintro DS CW ⟨oK,gk,fK,gq,fL,gt,fM,gu,fN,gv,fO,gw,fP,gx,fQ,gy,fR,gz,qM,qN,qO,qP,qQ,qR,qS,qT,qU,qV,BW,AE⟩
 refine zV (cs:=B3) Z Z Z Z Z yY Z AE ?_
 intro CX pM AG
 exact iZ _ _ ⟨oK,pM,gk,fK,gq,fL,gt,fM,gu,fN,gv,fO,gw,fP,gx,fQ,gy,fR,gz,qM,qN,qO,qP,qQ,rfl,qR,qS,qT,qU,qV,BW,(AG.pick [1,2,3,0,4,5,6,7,8,9,10,11,12] _ (by decide) rfl)⟩
 refine ZR (s:=gDt) (M:=fun σ_ w_=>∃ (U_:PHeap) (gm:Nat) (fS:Option Addr) (gA:Nat) (fT:Option Addr) (gB:Nat) (fU:Option Addr) (gC:Nat) (fV:Option Addr) (gD:Nat) (fW:Option Addr) (gE:Nat) (fY:Option Addr) (gF:Nat) (fZ:Option Addr) (gG:Nat) (ga:Option Addr) (gH:Nat),σ_ 3=jV p3/\σ_ 4=.bool p4/\σ_ 5=.pointer (some ⟨b2,0,none⟩)/\σ_ 6=.pointer (some ⟨b6,0,none⟩)/\σ_ 7=.pointer (some ⟨ah,0,none⟩)/\σ_ 11=.pointer (some ⟨gm,0,none⟩)/\σ_ 24=.agg B0.toArray/\σ_ 25=.agg #[.slice fS aa.Starts.length gA,.slice fT aa.Splits.length gB,.slice fU aa.Clocks.length gC,.slice fV aa.Readings.length gD]/\σ_ 26=.agg B0.toArray/\σ_ 27=.agg #[.slice fW x97.Starts.length gE,.slice fY x97.Splits.length gF,.slice fZ x97.Clocks.length gG,.slice ga x97.Readings.length gH]/\PHeap.Le aV U_/\sW w U U_ [.blk ah 29 B2,.blk b6 29 B1,.blk b2 27 B0,.blk gm 27 B3,.row fS gA 3 1 (hH KL.encI aa.Starts),.row fT gB 39 2 (hH wAB aa.Splits),.row fU gC 112 3 (hH wAD aa.Clocks),.row fV gD 115 4 (hH wAC aa.Readings),.row fW gE 3 1 (hH KL.encI x97.Starts),.row fY gF 39 2 (hH wAB x97.Splits),.row fZ gG 116 3 (hH wAF x97.Clocks),.row ga gH 117 4 (hH wAE x97.Readings)] w_) ?_ fun od=>?_
 rintro DT CY ⟨oO,gm,fS,gA,fT,gB,fU,gC,fV,gD,fW,gE,fY,gF,fZ,gG,ga,gH,qW,qX,qY,qZ,rc,re,ri,rj,rk,rn,BX,AI⟩
 refine zV (cs:=B3) Z Z Z Z Z yA Z AI ?_
 intro CZ pN AJ
 exact iZ _ _ ⟨oO,gm,pN,fS,gA,fT,gB,fU,gC,fV,gD,fW,gE,fY,gF,fZ,gG,ga,gH,qW,qX,qY,qZ,rc,re,rfl,ri,rj,rk,rn,BX,(AJ.pick [1,2,3,4,0,5,6,7,8,9,10,11,12] _ (by decide) rfl)⟩
 refine ZR (s:=gEa) (M:=fun σ_ w_=>∃ (U_:PHeap) (eL:Nat) (eM:Nat),σ_ 3=jV p3/\σ_ 4=.bool p4/\σ_ 5=.pointer (some ⟨b2,0,none⟩)/\σ_ 6=.pointer (some ⟨b6,0,none⟩)/\σ_ 7=.pointer (some ⟨ah,0,none⟩)/\σ_ 11=.pointer (some ⟨eL,0,none⟩)/\σ_ 12=.pointer (some ⟨eM,0,none⟩)/\σ_ 24=.agg B0.toArray/\σ_ 26=.agg B0.toArray/\PHeap.Le aV U_/\sW w U U_ [.blk ah 29 B2,.blk b6 29 B1,.blk b2 27 B0,.blk eL 27 B3,.blk eM 36 B3] w_) ?_ fun oe=>?_
 rintro DU py ⟨oP,eL,eM,ro,rp,rq,rx,ry,rA,rC,me,rD,fA,AL⟩
 have wZ:=cn.le av
 have w5:=wZ.le fA
 have w6:=cp.le av
 have w7:=w6.le fA
 have w8:=cq.le av
 have w9:=w8.le fA
 have xa:=cr.le av
 have xb:=xa.le fA
 refine zG 0 Z Z Z Z (zH Z Z Tryz.call10 (zB me zM) Z) AL (fun hs=>wCT p0 bb bg bd bh be bi bf bj py oP hs w5 w7 w9 xb gT) (.inr Z) ?_
 rintro j5 CB Dz pB BY AM ⟨jq,lJ,jr,lK,jt,lL,ju,lM,rfl,rfl⟩
 have AN:sW w U j5 [.row jq lJ 3 1 (hH KL.encI aa.Starts),.row jr lK 39 2 (hH wAB aa.Splits),.row jt lL 112 3 (hH wAD aa.Clocks),.row ju lM 115 4 (hH wAC aa.Readings),.blk ah 29 B2,.blk b6 29 B1,.blk b2 27 B0,.blk eL 27 B3,.blk eM 36 B3] pB:=AM
 exact i4 _ _ ⟨j5,eL,eM,jq,lJ,jr,lK,jt,lL,ju,lM,ro,rp,rq,rx,ry,rA,rC,me,rfl,rD,(fA.trans BY),(AN.pick [4,5,6,7,8,0,1,2,3] _ (by decide) rfl)⟩
 refine ZR (s:=gEd) (M:=fun σ_ w_=>∃ (U_:PHeap) (dt:Nat) (de:Option Addr) (dH:Nat) (df:Option Addr) (dI:Nat) (dg:Option Addr) (dJ:Nat) (dh:Option Addr) (dK:Nat),σ_ 3=jV p3/\σ_ 4=.bool p4/\σ_ 5=.pointer (some ⟨b2,0,none⟩)/\σ_ 6=.pointer (some ⟨b6,0,none⟩)/\σ_ 7=.pointer (some ⟨ah,0,none⟩)/\σ_ 12=.pointer (some ⟨dt,0,none⟩)/\σ_ 24=.agg B0.toArray/\σ_ 25=.agg #[.slice de aa.Starts.length dH,.slice df aa.Splits.length dI,.slice dg aa.Clocks.length dJ,.slice dh aa.Readings.length dK]/\σ_ 26=.agg B0.toArray/\PHeap.Le aV U_/\sW w U U_ [.blk ah 29 B2,.blk b6 29 B1,.blk b2 27 B0,.blk dt 36 B3,.row de dH 3 1 (hH KL.encI aa.Starts),.row df dI 39 2 (hH wAB aa.Splits),.row dg dJ 112 3 (hH wAD aa.Clocks),.row dh dK 115 4 (hH wAC aa.Readings)] w_) ?_ fun og=>?_
 rintro DV pC ⟨j6,dt,de,dH,df,dI,dg,dJ,dh,dK,mf,mg,mh,mi,mj,ml,mn,mo,iT,dQ,m4⟩
 refine zt ?_ ?_
 have xc:=cn.le av
 have xd:=xc.le dQ
 have xe:=cp.le av
 have xf:=xe.le dQ
 have xg:=cq.le av
 have xh:=xg.le dQ
 have xi:=cr.le av
 have xj:=xi.le dQ
 refine zG 0 Z Z Z Z (zH Z Z Tryz.call11 (zB iT zM) Z) m4 (fun hs=>wCG p0 bb bg bd bh be bi bf bj pC j6 hs xd xf xh xj gU) (.inr Z) ?_
 rintro j7 CD DA pD BZ AP ⟨jv,lN,jw,lO,jx,lP,jy,lQ,rfl,rfl⟩
 have AQ:sW w U j7 [.row jv lN 3 1 (hH KL.encI x97.Starts),.row jw lO 39 2 (hH wAB x97.Splits),.row jx lP 116 3 (hH wAF x97.Clocks),.row jy lQ 117 4 (hH wAE x97.Readings),.blk ah 29 B2,.blk b6 29 B1,.blk b2 27 B0,.blk dt 36 B3,.row de dH 3 1 (hH KL.encI aa.Starts),.row df dI 39 2 (hH wAB aa.Splits),.row dg dJ 112 3 (hH wAD aa.Clocks),.row dh dK 115 4 (hH wAC aa.Readings)] pD:=AP
 exact oc _ _ ⟨j7,dt,de,dH,df,dI,dg,dJ,dh,dK,jv,lN,jw,lO,jx,lP,jy,lQ,mf,mg,mh,mi,mj,ml,mn,mo,iT,rfl,(dQ.trans BZ),(AQ.pick [4,5,6,7,8,9,10,11,0,1,2,3] _ (by decide) rfl)⟩
 refine zV (cs:=B3) Z Z Z Z Z yY Z m4 ?_
 intro CG pE xk
 exact i4 _ _ ⟨j6,pE,dt,de,dH,df,dI,dg,dJ,dh,dK,mf,mg,mh,mi,mj,rfl,ml,mn,mo,iT,dQ,(xk.pick [1,2,3,0,4,5,6,7,8] _ (by decide) rfl)⟩
 refine ZR (s:=gEc) (M:=fun σ_ w_=>∃ (U_:PHeap) (dr:Nat) (cO:Option Addr) (du:Nat) (cP:Option Addr) (dv:Nat) (cQ:Option Addr) (dw:Nat) (cR:Option Addr) (dx:Nat),σ_ 3=jV p3/\σ_ 4=.bool p4/\σ_ 5=.pointer (some ⟨b2,0,none⟩)/\σ_ 6=.pointer (some ⟨b6,0,none⟩)/\σ_ 7=.pointer (some ⟨ah,0,none⟩)/\σ_ 11=.pointer (some ⟨dr,0,none⟩)/\σ_ 24=.agg B0.toArray/\σ_ 25=.agg #[.slice cO aa.Starts.length du,.slice cP aa.Splits.length dv,.slice cQ aa.Clocks.length dw,.slice cR aa.Readings.length dx]/\σ_ 26=.agg B0.toArray/\PHeap.Le aV U_/\sW w U U_ [.blk ah 29 B2,.blk b6 29 B1,.blk b2 27 B0,.blk dr 27 B3,.row cO du 3 1 (hH KL.encI aa.Starts),.row cP dv 39 2 (hH wAB aa.Splits),.row cQ dw 112 3 (hH wAD aa.Clocks),.row cR dx 115 4 (hH wAC aa.Readings)] w_) ?_ fun oa=>?_
 rintro DM oU ⟨jJ,dr,cO,du,cP,dv,cQ,dw,cR,dx,lR,lS,lT,lU,lV,lW,lX,lY,iH,dO,mQ⟩
 refine zt ?_ ?_
 have rE:=cn.le av
 have rF:=rE.le dO
 have rG:=cp.le av
 have rH:=rG.le dO
 have rI:=cq.le av
 have rJ:=rI.le dO
 have rK:=cr.le av
 have rL:=rK.le dO
 refine zG 0 Z Z Z Z (zH Z Z Tryz.call11 (zB iH zM) Z) mQ (fun hs=>wCG p0 bb bg bd bh be bi bf bj oU jJ hs rF rH rJ rL gU) (.inr Z) ?_
 rintro jK Cc Db oW BP xl ⟨i9,lp,ja,ls,jb,lu,jc,lv,rfl,rfl⟩
 have xm:sW w U jK [.row i9 lp 3 1 (hH KL.encI x97.Starts),.row ja ls 39 2 (hH wAB x97.Splits),.row jb lu 116 3 (hH wAF x97.Clocks),.row jc lv 117 4 (hH wAE x97.Readings),.blk ah 29 B2,.blk b6 29 B1,.blk b2 27 B0,.blk dr 27 B3,.row cO du 3 1 (hH KL.encI aa.Starts),.row cP dv 39 2 (hH wAB aa.Splits),.row cQ dw 112 3 (hH wAD aa.Clocks),.row cR dx 115 4 (hH wAC aa.Readings)] oW:=xl
 exact od _ _ ⟨jK,dr,cO,du,cP,dv,cQ,dw,cR,dx,i9,lp,ja,ls,jb,lu,jc,lv,lR,lS,lT,lU,lV,lW,lX,lY,iH,rfl,(dO.trans BP),(xm.pick [4,5,6,7,8,9,10,11,0,1,2,3] _ (by decide) rfl)⟩
 refine zV (cs:=B3) Z Z Z Z Z yA Z mQ ?_
 intro CH pF xn
 exact i4 _ _ ⟨jJ,dr,pF,cO,du,cP,dv,cQ,dw,cR,dx,lR,lS,lT,lU,lV,lW,rfl,lX,lY,iH,dO,(xn.pick [1,2,3,4,0,5,6,7,8] _ (by decide) rfl)⟩
 refine oL Z (dL.ldBA (j:=2) Z Z Z ZA zl (vs:=B0) Z Z) (oL Z (dL.ldBA (j:=2) Z Z Z ZA zl (vs:=B0) Z Z) (zt ?_ ?_))
 have mp:=cn.le av
 have mq:=cp.le av
 have mr:=cq.le av
 have ms:=cr.le av
 refine zG 0 Z Z Z Z (zH Z Z Tryz.call10 (zB Z zM) Z) dL (fun hs=>wCT p0 bb bg bd bh be bi bf bj o6 aV hs mp mq mr ms gT) (.inr Z) ?_
 rintro gb Cd Dc j8 cx xo ⟨dS,eO,dT,eP,dU,eQ,dV,eS,rfl,rfl⟩
 let B6:Res:=.row dV eS 115 4 (hH wAC aa.Readings)
 let B7:Res:=.row dU eQ 112 3 (hH wAD aa.Clocks)
 let B8:Res:=.row dT eP 39 2 (hH wAB aa.Splits)
 let B9:Res:=.row dS eO 3 1 (hH KL.encI aa.Starts)
 have iU:sW w U gb [B9,B8,B7,B6,.blk ah 29 B2,.blk b6 29 B1,.blk b2 27 B0] j8:=xo
 refine zt ?_ ?_
 have rM:=mp.le cx
 have rN:=mq.le cx
 have rO:=mr.le cx
 have rP:=ms.le cx
 refine zG 0 Z Z Z Z (zH Z Z Tryz.call11 (zB Z zM) Z) iU (fun hs=>wCG p0 bb bg bd bh be bi bf bj j8 gb hs rM rN rO rP gU) (.inr Z) ?_
 rintro ij Ce Dd oX oh xp ⟨g9,iw,ib,iy,ic,iz,ie,iA,rfl,rfl⟩
 have mS:sW w U ij [.row g9 iw 3 1 (hH KL.encI x97.Starts),.row ib iy 39 2 (hH wAB x97.Splits),.row ic iz 116 3 (hH wAF x97.Clocks),.row ie iA 117 4 (hH wAE x97.Readings),B9,B8,B7,B6,.blk ah 29 B2,.blk b6 29 B1,.blk b2 27 B0] oX:=xp
 refine zt ?_ ?_
 refine zV (cs:=B3) Z Z Z Z Z yY Z mS ?_
 intro CI pG xq
 exact od _ _ ⟨ij,pG,dS,eO,dT,eP,dU,eQ,dV,eS,g9,iw,ib,iy,ic,iz,ie,iA,rfl,rfl,rfl,rfl,rfl,rfl,rfl,rfl,rfl,rfl,(cx.trans oh),(xq.pick [9,10,11,0,5,6,7,8,1,2,3,4] _ (by decide) rfl)⟩
 refine zV (cs:=B3) Z Z Z Z Z yA Z mS ?_
 intro CJ pH xr
 exact oc _ _ ⟨ij,pH,dS,eO,dT,eP,dU,eQ,dV,eS,g9,iw,ib,iy,ic,iz,ie,iA,rfl,rfl,rfl,rfl,rfl,rfl,rfl,rfl,rfl,rfl,(cx.trans oh),(xr.pick [9,10,11,0,5,6,7,8,1,2,3,4] _ (by decide) rfl)⟩
 refine zt ?_ ?_
 refine zV (cs:=B3) Z Z Z Z Z yY Z iU ?_
 intro CL pI xt
 exact oa _ _ ⟨gb,pI,dS,eO,dT,eP,dU,eQ,dV,eS,rfl,rfl,rfl,rfl,rfl,rfl,rfl,rfl,rfl,cx,(xt.pick [5,6,7,0,1,2,3,4] _ (by decide) rfl)⟩
 refine zV (cs:=B3) Z Z Z Z Z yA Z iU ?_
 intro CM pJ xu
 exact og _ _ ⟨gb,pJ,dS,eO,dT,eP,dU,eQ,dV,eS,rfl,rfl,rfl,rfl,rfl,rfl,rfl,rfl,rfl,cx,(xu.pick [5,6,7,0,1,2,3,4] _ (by decide) rfl)⟩
 refine zt ?_ ?_
 refine zV (cs:=B3) Z Z Z Z Z yY Z dL ?_
 intro oY iu mT
 refine zt ?_ ?_
 have rQ:=cn.le av
 have rS:=cp.le av
 have rT:=cq.le av
 have rV:=cr.le av
 refine zG 0 Z Z Z Z (zH Z Z Tryz.call10 (zB Z zM) Z) mT (fun hs=>wCT p0 bb bg bd bh be bi bf bj oY aV hs rQ rS rT rV gT) (.inr Z) ?_
 rintro jL Cf De o0 BQ xw ⟨jd,lw,je,lx,jf,ly,jg,lz,rfl,rfl⟩
 have xx:sW w U jL [.row jd lw 3 1 (hH KL.encI aa.Starts),.row je lx 39 2 (hH wAB aa.Splits),.row jf ly 112 3 (hH wAD aa.Clocks),.row jg lz 115 4 (hH wAC aa.Readings),.blk iu 27 B3,.blk ah 29 B2,.blk b6 29 B1,.blk b2 27 B0] o0:=xw
 exact oa _ _ ⟨jL,iu,jd,lw,je,lx,jf,ly,jg,lz,rfl,rfl,rfl,rfl,rfl,rfl,rfl,rfl,rfl,BQ,(xx.pick [5,6,7,4,0,1,2,3] _ (by decide) rfl)⟩
 refine zV (cs:=B3) Z Z Z Z Z yA Z mT ?_
 intro CN pK xz
 exact oe _ _ ⟨aV,iu,pK,rfl,rfl,rfl,rfl,rfl,rfl,rfl,rfl,rfl,(zQ _),(xz.pick [2,3,4,1,0] _ (by decide) rfl)⟩
 refine zV (cs:=B3) Z Z Z Z Z yA Z dL ?_
 intro o3 iv mU
 refine zt ?_ ?_
 have rW:=cn.le av
 have rX:=cp.le av
 have rY:=cq.le av
 have rZ:=cr.le av
 refine zG 0 Z Z Z Z (zH Z Z Tryz.call10 (zB Z zM) Z) mU (fun hs=>wCT p0 bb bg bd bh be bi bf bj o3 aV hs rW rX rY rZ gT) (.inr Z) ?_
 rintro jM Cg Df o5 BR xA ⟨jh,lA,ji,lB,jj,lD,jk,lE,rfl,rfl⟩
 have xB:sW w U jM [.row jh lA 3 1 (hH KL.encI aa.Starts),.row ji lB 39 2 (hH wAB aa.Splits),.row jj lD 112 3 (hH wAD aa.Clocks),.row jk lE 115 4 (hH wAC aa.Readings),.blk iv 36 B3,.blk ah 29 B2,.blk b6 29 B1,.blk b2 27 B0] o5:=xA
 exact og _ _ ⟨jM,iv,jh,lA,ji,lB,jj,lD,jk,lE,rfl,rfl,rfl,rfl,rfl,rfl,rfl,rfl,rfl,BR,(xB.pick [5,6,7,4,0,1,2,3] _ (by decide) rfl)⟩
 refine zV (cs:=B3) Z Z Z Z Z yY Z mU ?_
 intro CO pL xC
 exact oe _ _ ⟨aV,pL,iv,rfl,rfl,rfl,rfl,rfl,rfl,rfl,rfl,rfl,(zQ _),(xC.pick [2,3,4,0,1] _ (by decide) rfl)⟩
 rintro DN eD ⟨CE,ap,bI,bK,bu,bz,bv,bA,bw,bB,eE,bW,cf,bX,cg,bY,cj,bZ,cm,lZ,pP,pQ,iI,pR,iJ,iK,g7,iV⟩
 refine sR (.fl 0 (.fl 1 (.fx 2 (wLe gDw) .stop))) Z ?_
 let am:List Value:=[.slice bI bC.length bK,.slice bu bp.length bz,.slice bv bq.length bA,.slice bw br.length bB]
 refine oL Z (iV.ldBA (j:=3) Z Z iJ ZA zl (vs:=am) Z Z) (oL Z (iV.ldBA (j:=1) Z Z iI Zh ZN (vs:=B1) Z Z) ?_)
 have q:=iV.freezeR (k:=4) (n:=bC.length) rfl (wAI (f:=KL.encI) (sz:=1) (fun _=>rfl) bC) (by decide)
 obtain ⟨ou,g8,BE,xD⟩:=q
 let aq:Res:=.blk eE 36 [.slice bW bP.length cf,.slice bX bQ.length cg,.slice bY bR.length cj,.slice bZ bS.length cm]
 let b5:Res:=.row bZ cm 117 4 (hH wAE bS)
 let cu:Res:=.row bY cj 116 3 (hH wAF bR)
 let cH:Res:=.row bX cg 39 2 (hH wAB bQ)
 let dk:Res:=.row bW cf 3 1 (hH KL.encI bP)
 let ig:Res:=.row bw bB 115 4 (hH wAC br)
 let jz:Res:=.row bv bA 112 3 (hH wAD bq)
 have xE:sW w U ou [.blk ah 29 B2,.blk b6 29 B1,.blk b2 27 B0,.blk ap 27 am,.row bu bz 39 2 (hH wAB bp),jz,ig,aq,dk,cH,cu,b5] eD:=xD
 have q:=xE.freezeR (k:=4) (n:=bp.length) rfl (wAI (f:=wAB) (sz:=2) (fun _=>rfl) bp) (by decide)
 obtain ⟨ow,fy,BF,xF⟩:=q
 have xG:sW w U ow [.blk ah 29 B2,.blk b6 29 B1,.blk b2 27 B0,.blk ap 27 am,jz,ig,aq,dk,cH,cu,b5] eD:=xF
 have q:=xG.freezeR (k:=4) (n:=bq.length) rfl (wAI (f:=wAD) (sz:=3) (fun _=>rfl) bq) (by decide)
 obtain ⟨ox,dP,BG,xH⟩:=q
 have xI:sW w U ox [.blk ah 29 B2,.blk b6 29 B1,.blk b2 27 B0,.blk ap 27 am,ig,aq,dk,cH,cu,b5] eD:=xH
 have q:=xI.freezeR (k:=4) (n:=br.length) rfl (wAI (f:=wAC) (sz:=4) (fun _=>rfl) br) (by decide)
 obtain ⟨jN,cM,n8,xJ⟩:=q
 have xK:sW w U jN [.blk ah 29 B2,.blk b6 29 B1,.blk b2 27 B0,.blk ap 27 am,aq,dk,cH,cu,b5] eD:=xJ
 have r6:=BE.le fy
 have r7:=r6.le dP
 have mu:=r7.le cM
 have r8:=BF.le dP
 have mw:=r8.le cM
 have my:=BG.le cM
 have q:=bnd n7
 obtain ⟨⟨fB,Ca⟩,r9,m5⟩:=q
 try dsimp only at m5
 refine zG 0 Z Z Z Z (zH Z Z Tryz.call12 (zB Z (zB Z zM)) Z) xK (fun hs=>wKM (⟨bC,bp,bq,br⟩:wAA) bI bK bu bz bv bA bw bB p1 eD jN hs mu mw my n8 r9) (.inr Z) ?_
 rintro jO Ch Dg o7 cy xL ⟨rfl,rfl⟩
 have xM:sW w U jO [.blk ah 29 B2,.blk b6 29 B1,.blk b2 27 B0,.blk ap 27 am,aq,dk,cH,cu,b5] o7:=xL
 refine oM Z Z (oR Z (ze Z Z (v:=.agg #[jV fB.Lo,jV fB.Hi]) Z) (oR Z (ze Z Z (v:=jV Ca) Z) (zV (cs:=[jV 0,jV 0]) Z Z Z Z Z ZQ Z xM ?_)))
 intro CP aQ xN
 let bN:List Value:=[jV fB.Lo,jV fB.Hi]
 refine zY (j:=0) (vs:=bN) Z Z Z Z xN Z Z Z Z zS (zA Z) Z Z Z ?_
 intro dq xO
 have iW:sW w U jO [.blk aQ 39 bN,.blk ah 29 B2,.blk b6 29 B1,.blk b2 27 B0,.blk ap 27 am,aq,dk,cH,cu,b5] dq:=xO
 refine oA Z Z (eN (sR (.fl 0 (.fl 1 (.fx 2 (wLe gDw) .stop))) Z ?_))
 let ii:List Value:=[.slice bW bP.length cf,.slice bX bQ.length cg,.slice bY bR.length cj,.slice bZ bS.length cm]
 refine oL Z (iW.ldBA (j:=5) Z Z iK ZS ZH (vs:=ii) Z Z) (oL Z (iW.ldBA (j:=2) Z Z iI Zh ZN (vs:=B1) Z Z) ?_)
 have q:=iW.freezeR (k:=6) (n:=bP.length) rfl (wAI (f:=KL.encI) (sz:=1) (fun _=>rfl) bP) (by decide)
 obtain ⟨oy,cz,BH,xP⟩:=q
 have xR:sW w U oy [.blk aQ 39 bN,.blk ah 29 B2,.blk b6 29 B1,.blk b2 27 B0,.blk ap 27 am,aq,cH,cu,b5] dq:=xP
 have q:=xR.freezeR (k:=6) (n:=bQ.length) rfl (wAI (f:=wAB) (sz:=2) (fun _=>rfl) bQ) (by decide)
 obtain ⟨oz,ct,BI,xS⟩:=q
 have xT:sW w U oz [.blk aQ 39 bN,.blk ah 29 B2,.blk b6 29 B1,.blk b2 27 B0,.blk ap 27 am,aq,cu,b5] dq:=xS
 have q:=xT.freezeR (k:=6) (n:=bR.length) rfl (wAI (f:=wAF) (sz:=3) (fun _=>rfl) bR) (by decide)
 obtain ⟨oB,bT,BJ,xU⟩:=q
 have xV:sW w U oB [.blk aQ 39 bN,.blk ah 29 B2,.blk b6 29 B1,.blk b2 27 B0,.blk ap 27 am,aq,b5] dq:=xU
 have q:=xV.freezeR (k:=6) (n:=bS.length) rfl (wAI (f:=wAE) (sz:=4) (fun _=>rfl) bS) (by decide)
 obtain ⟨jP,bM,n9,xW⟩:=q
 have xX:sW w U jP [.blk aQ 39 bN,.blk ah 29 B2,.blk b6 29 B1,.blk b2 27 B0,.blk ap 27 am,aq] dq:=xW
 have sb:=BH.le ct
 have sd:=sb.le bT
 have mz:=sd.le bM
 have se:=BI.le bT
 have mA:=se.le bM
 have mB:=BJ.le bM
 have q:=bnd m5
 obtain ⟨⟨fC,Cb⟩,sf,m6⟩:=q
 try dsimp only at m6
 refine zG 0 Z Z Z Z (zH Z Z Tryz.call13 (zB Z (zB Z zM)) Z) xX (fun hs=>wFf (⟨bP,bQ,bR,bS⟩:wAJ) bW cf bX cg bY cj bZ cm (⟨p1.Skier,p1.Mat⟩:wAP) dq jP hs mz mA mB n9 sf) (.inr Z) ?_
 rintro ey Ci Dh o8 bD xY ⟨rfl,rfl⟩
 have xZ:sW w U ey [.blk aQ 39 bN,.blk ah 29 B2,.blk b6 29 B1,.blk b2 27 B0,.blk ap 27 am,aq] o8:=xY
 refine oM Z Z (oR Z (ze Z Z (v:=.agg #[jV fC.Lo,jV fC.Hi]) Z) (oR Z (ze Z Z (v:=jV Cb) Z) (zV (cs:=[jV 0,jV 0]) Z Z Z Z Z ZQ Z xZ ?_)))
 intro CQ aS x7
 let dl:List Value:=[jV fC.Lo,jV fC.Hi]
 refine zY (j:=0) (vs:=dl) Z Z Z Z x7 Z Z Z Z zS (zA Z) Z Z Z ?_
 intro j9 x8
 have dM:sW w U ey [.blk aS 39 dl,.blk aQ 39 bN,.blk ah 29 B2,.blk b6 29 B1,.blk b2 27 B0,.blk ap 27 am,aq] j9:=x8
 refine oA Z Z (eN (zJ (sR fL8 Z (oM Z Z (oM Z Z (oR Z (Zo Z Z Z) (oM Z Z (ifc m6 ?_ ?_))))))))
 intro b9 AU
 refine ZI Z Z Z (zO Z Z (Za (fun h=>h b9.out))) (dM.ldBA (j:=1) Z Z Z ZT zS (vs:=bN) Z Z) Z (ZI Z Z Z (zO Z Z (Za (fun h=>h b9.out))) (dM.ldBA (j:=0) Z Z Z ZT zS (vs:=dl) Z Z) Z (zq Z Z Z (zO Z Z (Za (fun h=>h b9.out))) (fun _=>Zd (Runs.neS (enc:=wAB) (a:=fB) (b:=fC) Z Z Z wPt wPs) (congrArg nA (decide_not).symm)) (oR Z (zz Z (Za (fun h=>h b9.out)) Z) (eN (ifc AU ?_ ?_)))))
 intro iB AW
 refine zr (Za (fun h=>h iB.out)) (kN (sR (.fl 0 (.fl 1 (.fx 2 (wLe gDi) .stop))) Z (oL Z (dM.ldBA (j:=5) Z Z iJ ZA zl (vs:=am) Z Z) (oM Z lZ ?_))))
 have sg:=mu.le cy
 have sh:=sg.le cz
 have sj:=sh.le ct
 have sk:=sj.le bT
 have sm:=sk.le bM
 have mC:=sm.le bD
 have sn:=mw.le cy
 have so:=sn.le cz
 have sq:=so.le ct
 have ss:=sq.le bT
 have su:=ss.le bM
 have mD:=su.le bD
 have sv:=my.le cy
 have sw:=sv.le cz
 have sA:=sw.le ct
 have sB:=sA.le bT
 have sC:=sB.le bM
 have mE:=sC.le bD
 have sD:=n8.le cy
 have sE:=sD.le cz
 have sF:=sE.le ct
 have sG:=sF.le bT
 have sH:=sG.le bM
 have mF:=sH.le bD
 have q:=bnd AW
 obtain ⟨⟨fD,oi⟩,sI,m7⟩:=q
 try dsimp only at m7
 refine zG 0 Z Z Z Z (zH Z Z Tryz.call14 (zB Z (zB Z zM)) Z) dM (fun hs=>wLU (⟨bC,bp,bq,br⟩:wAA) bI bK bu bz bv bA bw bB p3 j9 ey hs mC mD mE mF sI) (.inr Z) ?_
 rintro ik Cj Di o9 bE yu ⟨rfl,rfl⟩
 have yv:sW w U ik [.blk aS 39 dl,.blk aQ 39 bN,.blk ah 29 B2,.blk b6 29 B1,.blk b2 27 B0,.blk ap 27 am,aq] o9:=yu
 refine oM Z Z (oR Z (ze Z Z (v:=.agg #[jV fD.Lo,jV fD.Hi]) Z) (oR Z (ze Z Z (v:=jV oi) Z) ?_))
 let dm:List Value:=[jV fD.Lo,jV fD.Hi]
 refine zY (j:=1) (vs:=dm) Z Z Z Z yv Z Z Z Z zS (zA Z) Z Z Z ?_
 intro k9 yw
 have mV:sW w U ik [.blk aS 39 dl,.blk aQ 39 dm,.blk ah 29 B2,.blk b6 29 B1,.blk b2 27 B0,.blk ap 27 am,aq] k9:=yw
 refine oA Z Z (eN (sR (.fl 0 (.fl 1 (.fx 2 (wLe gDi) .stop))) Z (oL Z (mV.ldBA (j:=6) Z Z iK ZS ZH (vs:=ii) Z Z) (oM Z lZ ?_))))
 have sJ:=mz.le bD
 have mG:=sJ.le bE
 have sK:=mA.le bD
 have mH:=sK.le bE
 have sL:=mB.le bD
 have mI:=sL.le bE
 have sM:=n9.le bD
 have mJ:=sM.le bE
 have q:=bnd m7
 obtain ⟨⟨fE,oj⟩,sN,m8⟩:=q
 try dsimp only at m8
 refine zG 0 Z Z Z Z (zH Z Z Tryz.call15 (zB Z (zB Z zM)) Z) mV (fun hs=>wGC (⟨bP,bQ,bR,bS⟩:wAJ) bW cf bX cg bY cj bZ cm p3 k9 ik hs mG mH mI mJ sN) (.inr Z) ?_
 rintro eA Ck Dj pe bF yy ⟨rfl,rfl⟩
 have yz:sW w U eA [.blk aS 39 dl,.blk aQ 39 dm,.blk ah 29 B2,.blk b6 29 B1,.blk b2 27 B0,.blk ap 27 am,aq] pe:=yy
 refine oM Z Z (oR Z (ze Z Z (v:=.agg #[jV fE.Lo,jV fE.Hi]) Z) (oR Z (ze Z Z (v:=jV oj) Z) ?_))
 let dp:List Value:=[jV fE.Lo,jV fE.Hi]
 refine zY (j:=0) (vs:=dp) Z Z Z Z yz Z Z Z Z zS (zA Z) Z Z Z ?_
 intro lf y4
 have cw:sW w U eA [.blk aS 39 dp,.blk aQ 39 dm,.blk ah 29 B2,.blk b6 29 B1,.blk b2 27 B0,.blk ap 27 am,aq] lf:=y4
 refine oA Z Z (eN (zJ (zJ (yj fun bV bL=>?_))))
 have l5:bV 4=.bool p4:=(bL 4).trans pP
 have pS:bV 5=.pointer (some ⟨b2,0,none⟩):=(bL 5).trans pQ
 have gI:bV 6=.pointer (some ⟨b6,0,none⟩):=(bL 6).trans iI
 have gJ:bV 7=.pointer (some ⟨ah,0,none⟩):=(bL 7).trans pR
 have iL:bV 11=.pointer (some ⟨ap,0,none⟩):=(bL 11).trans iJ
 have pT:bV 12=.pointer (some ⟨eE,0,none⟩):=(bL 12).trans iK
 have iM:bV 13=.pointer (some ⟨aQ,0,none⟩):=(bL 13).trans rfl
 have pU:bV 14=jV oi:=(bL 14).trans rfl
 have iN:bV 15=.pointer (some ⟨aS,0,none⟩):=(bL 15).trans rfl
 have pV:bV 16=jV oj:=(bL 16).trans rfl
 clear bL
 refine rR fL8 Z (oM Z pU (oM Z pV (oR Z (Zo Z Z Z) (oM Z Z (ifc m8 ?_ ?_)))))
 intro cb AY
 refine ZI Z Z Z (zO Z Z (Za (fun h=>h cb.out))) (cw.ldBA (j:=1) Z Z iM ZT zS (vs:=dm) Z Z) Z (ZI Z Z Z (zO Z Z (Za (fun h=>h cb.out))) (cw.ldBA (j:=0) Z Z iN ZT zS (vs:=dp) Z Z) Z (zq Z Z Z (zO Z Z (Za (fun h=>h cb.out))) (fun _=>Zd (Runs.neS (enc:=wAB) (a:=fD) (b:=fE) Z Z Z wPt wPs) (congrArg nA (decide_not).symm)) (oR Z (zz Z (Za (fun h=>h cb.out)) Z) (eN (ifc AY ?_ ?_)))))
 intro iC AZ
 refine zr (Za (fun h=>h iC.out)) (kN (sR (wEF (.fx 3 (wUQ gDn) .stop)) Z (oL Z (cw.ldBA (j:=5) Z Z iL ZA zl (vs:=am) Z Z) (oL Z (cw.ldBA (j:=3) Z Z gI Zh ZN (vs:=B1) Z Z) (oL Z (cw.ldBA (j:=2) Z Z gJ Zh ZN (vs:=B2) Z Z) ?_)))))
 have sP:=mC.le bE
 have mK:=sP.le bF
 have sQ:=mD.le bE
 have mL:=sQ.le bF
 have sS:=mE.le bE
 have mM:=sS.le bF
 have sU:=mF.le bE
 have mN:=sU.le bF
 have q:=bnd AZ
 obtain ⟨⟨fG,om⟩,sV,m9⟩:=q
 try dsimp only at m9
 refine zG 0 Z Z Z Z (zH Z Z Tryz.call16 (zB Z (zB Z (zB Z zM))) Z) cw (fun hs=>wMo (⟨bC,bp,bq,br⟩:wAA) bI bK bu bz bv bA bw bB p1 p2 lf eA hs mK mL mM mN sV) (.inr Z) ?_
 rintro il Cm Dk pf bG y5 ⟨rfl,rfl⟩
 have y6:sW w U il [.blk aS 39 dp,.blk aQ 39 dm,.blk ah 29 B2,.blk b6 29 B1,.blk b2 27 B0,.blk ap 27 am,aq] pf:=y5
 refine oM Z Z (oR Z (ze Z Z (v:=.agg #[jV fG.Lo,jV fG.Hi]) Z) (oR Z (ze Z Z (v:=jV om) Z) ?_))
 let aU:List Value:=[jV fG.Lo,jV fG.Hi]
 refine zY (j:=1) (vs:=aU) Z Z Z Z y6 Z iM Z Z zS (zA Z) Z Z Z ?_
 intro lg y7
 have gW:sW w U il [.blk aS 39 dp,.blk aQ 39 aU,.blk ah 29 B2,.blk b6 29 B1,.blk b2 27 B0,.blk ap 27 am,aq] lg:=y7
 refine oA Z Z (eN (sR (wEF (.fx 3 (wUQ gDn) .stop)) Z (oL Z (gW.ldBA (j:=6) Z Z pT ZS ZH (vs:=ii) Z Z) (oL Z (gW.ldBA (j:=3) Z Z gI Zh ZN (vs:=B1) Z Z) (oL Z (gW.ldBA (j:=2) Z Z gJ Zh ZN (vs:=B2) Z Z) ?_)))))
 have sX:=mG.le bF
 have sY:=sX.le bG
 have sZ:=mH.le bF
 have s5:=sZ.le bG
 have s6:=mI.le bF
 have s7:=s6.le bG
 have s8:=mJ.le bF
 have s9:=s8.le bG
 have q:=bnd m9
 obtain ⟨⟨cN,i6⟩,tc,n5⟩:=q
 try dsimp only at n5
 refine zG 0 Z Z Z Z (zH Z Z Tryz.call17 (zB Z (zB Z (zB Z zM))) Z) gW (fun hs=>wGY (⟨bP,bQ,bR,bS⟩:wAJ) bW cf bX cg bY cj bZ cm (⟨p1.Skier,p1.Mat⟩:wAP) (⟨p2.Skier,p2.Mat⟩:wAP) lg il hs sY s5 s7 s9 tc) (.inr Z) ?_
 rintro im Cn Dl pg cA y8 ⟨rfl,rfl⟩
 have y9:sW w U im [.blk aS 39 dp,.blk aQ 39 aU,.blk ah 29 B2,.blk b6 29 B1,.blk b2 27 B0,.blk ap 27 am,aq] pg:=y8
 refine oM Z Z (oR Z (ze Z Z (v:=.agg #[jV cN.Lo,jV cN.Hi]) Z) (oR Z (ze Z Z (v:=jV i6) Z) ?_))
 let bk:List Value:=[jV cN.Lo,jV cN.Hi]
 refine zY (j:=0) (vs:=bk) Z Z Z Z y9 Z iN Z Z zS (zA Z) Z Z Z ?_
 intro lh z0
 have gX:sW w U im [.blk aS 39 bk,.blk aQ 39 aU,.blk ah 29 B2,.blk b6 29 B1,.blk b2 27 B0,.blk ap 27 am,aq] lh:=z0
 refine oA Z Z (eN (sR (wEu (.fx 4 (wUV (.nil)) .stop)) Z (oL Z (gX.ldBA (j:=5) Z Z iL ZA zl (vs:=am) Z Z) (oL Z (gX.ldBA (j:=3) Z Z gI Zh ZN (vs:=B1) Z Z) (oL Z (gX.ldBA (j:=2) Z Z gJ Zh ZN (vs:=B2) Z Z) (oM Z l5 ?_))))))
 have td:=mK.le bG
 have gL:=td.le cA
 have te:=mL.le bG
 have gM:=te.le cA
 have tf:=mM.le bG
 have gN:=tf.le cA
 have tg:=mN.le bG
 have gO:=tg.le cA
 have q:=bnd n5
 obtain ⟨⟨fH,dR,i8⟩,th,n6⟩:=q
 try dsimp only at n6
 refine zG 0 Z Z Z Z (zH Z Z Tryz.call18 (zB Z (zB Z (zB Z (zB Z zM)))) Z) gX (fun hs=>wKN (⟨bC,bp,bq,br⟩:wAA) bI bK bu bz bv bA bw bB p1 p2 p4 lh im hs gL gM gN gO th) (.inr Z) ?_
 rintro io Co Dm gf aZ z4 ⟨cS,dy,pO,fJ,gp,rfl,rfl,tj⟩
 let jA:Res:=.row fJ gp 3 1 (hH KL.encI dR)
 have dN:sW w U io [.row cS dy 22 1 pO,jA,.blk aS 39 bk,.blk aQ 39 aU,.blk ah 29 B2,.blk b6 29 B1,.blk b2 27 B0,.blk ap 27 am,aq] gf:=z4
 refine oM Z Z (oR Z (ze Z Z (v:=.slice cS fH.length dy) Z) (oR Z (ze Z Z (v:=.slice fJ dR.length gp) Z) (oR Z (ze Z Z (v:=jV i8) Z) (oA Z Z (oA Z Z (oA Z Z (eN (zJ (zJ (yj fun bH bo=>?_))))))))))
 have iO:bH 4=.bool p4:=(bo 4).trans l5
 have gK:bH 5=.pointer (some ⟨b2,0,none⟩):=(bo 5).trans pS
 have pW:bH 6=.pointer (some ⟨b6,0,none⟩):=(bo 6).trans gI
 have pX:bH 7=.pointer (some ⟨ah,0,none⟩):=(bo 7).trans gJ
 have iP:bH 11=.pointer (some ⟨ap,0,none⟩):=(bo 11).trans iL
 have pY:bH 13=.pointer (some ⟨aQ,0,none⟩):=(bo 13).trans iM
 have l6:bH 14=jV om:=(bo 14).trans rfl
 have iQ:bH 15=.pointer (some ⟨aS,0,none⟩):=(bo 15).trans iN
 have l7:bH 16=jV i6:=(bo 16).trans rfl
 have iR:bH 17=.slice cS fH.length dy:=(bo 17).trans rfl
 have pZ:bH 18=.slice fJ dR.length gp:=(bo 18).trans rfl
 have p6:bH 19=jV i8:=(bo 19).trans rfl
 clear bo
 refine rR (wPK gDs) Z (oM Z l6 (oM Z l7 (oR Z (Zo Z Z Z) (oM Z Z (ifc n6 ?_ ?_)))))
 intro cd A3
 refine ZI Z Z Z (zO Z Z (Za (fun h=>h cd.out))) (dN.ldBA (j:=3) Z Z pY ZT zS (vs:=aU) Z Z) Z (ZI Z Z Z (zO Z Z (Za (fun h=>h cd.out))) (dN.ldBA (j:=2) Z Z iQ ZT zS (vs:=bk) Z Z) Z (zq Z Z Z (zO Z Z (Za (fun h=>h cd.out))) (fun _=>Zd (Runs.neS (enc:=wAB) (a:=fG) (b:=cN) Z Z Z wPt wPs) (congrArg nA (decide_not).symm)) (oR Z (zz Z (Za (fun h=>h cd.out)) Z) (oM Z Z (ifc A3 ?_ ?_)))))
 intro aW A4
 refine ZI Z Z Z (zO Z Z (Za (fun h=>h aW.out))) (dN.ldBA (j:=6) Z Z gK ZA zl (vs:=B0) Z Z) Z (ZJ Z Z Z (zO Z Z (Za (fun h=>h aW.out))) Z iR (ZJ Z Z Z (zO Z Z (Za (fun h=>h aW.out))) Z pZ (ZJ Z Z Z (zO Z Z (Za (fun h=>h aW.out))) Z p6 (ZJ Z Z Z (zO Z Z (Za (fun h=>h aW.out))) Z l7 ?_))))
 have q:=dN.freezeRR (R:=wMD) (k:=0) rfl tj rfl (by decide)
 obtain ⟨oG,a0,BK,z5⟩:=q
 have z6:sW w U oG [jA,.blk aS 39 bk,.blk aQ 39 aU,.blk ah 29 B2,.blk b6 29 B1,.blk b2 27 B0,.blk ap 27 am,aq] gf:=z5
 have q:=z6.freezeR (k:=0) (n:=dR.length) rfl (wAI (f:=KL.encI) (sz:=1) (fun _=>rfl) dR) (by decide)
 obtain ⟨jQ,aX,BL,z7⟩:=q
 have z8:sW w U jQ [.blk aS 39 bk,.blk aQ 39 aU,.blk ah 29 B2,.blk b6 29 B1,.blk b2 27 B0,.blk ap 27 am,aq] gf:=z7
 have tl:=cn.le av
 have tm:=tl.le g7
 have tn:=tm.le g8
 have tp:=tn.le fy
 have tq:=tp.le dP
 have tr:=tq.le cM
 have tu:=tr.le cy
 have tv:=tu.le cz
 have tw:=tv.le ct
 have tz:=tw.le bT
 have tA:=tz.le bM
 have tB:=tA.le bD
 have tC:=tB.le bE
 have tD:=tC.le bF
 have tE:=tD.le bG
 have tF:=tE.le cA
 have tG:=tF.le aZ
 have tH:=tG.le a0
 have gP:=tH.le aX
 have tI:=cp.le av
 have tJ:=tI.le g7
 have tK:=tJ.le g8
 have tL:=tK.le fy
 have tM:=tL.le dP
 have tO:=tM.le cM
 have tP:=tO.le cy
 have tQ:=tP.le cz
 have tR:=tQ.le ct
 have tS:=tR.le bT
 have tT:=tS.le bM
 have tU:=tT.le bD
 have tV:=tU.le bE
 have tW:=tV.le bF
 have tX:=tW.le bG
 have tY:=tX.le cA
 have tZ:=tY.le aZ
 have t7:=tZ.le a0
 have gQ:=t7.le aX
 have t8:=cq.le av
 have t9:=t8.le g7
 have ua:=t9.le g8
 have ub:=ua.le fy
 have ud:=ub.le dP
 have ue:=ud.le cM
 have uf:=ue.le cy
 have ug:=uf.le cz
 have uh:=ug.le ct
 have ui:=uh.le bT
 have uj:=ui.le bM
 have uk:=uj.le bD
 have ul:=uk.le bE
 have um:=ul.le bF
 have uo:=um.le bG
 have uq:=uo.le cA
 have ur:=uq.le aZ
 have uu:=ur.le a0
 have gR:=uu.le aX
 have uv:=cr.le av
 have uw:=uv.le g7
 have ux:=uw.le g8
 have uy:=ux.le fy
 have uz:=uy.le dP
 have uA:=uz.le cM
 have uB:=uA.le cy
 have uC:=uB.le cz
 have uD:=uC.le ct
 have uE:=uD.le bT
 have uF:=uE.le bM
 have uG:=uF.le bD
 have uH:=uG.le bE
 have uI:=uH.le bF
 have uJ:=uI.le bG
 have uK:=uJ.le cA
 have uL:=uK.le aZ
 have uM:=uL.le a0
 have gS:=uM.le aX
 have mO:=BK.le aX
 refine bnK A4 fun DC uN A5=>zG 0 Z Z Z (zO Z Z (Za (fun h=>h aW.out))) (zH Z Z Tryz.call19 (zB Z (zB Z (zB Z (zB Z (zB Z zM))))) Z) z8 (fun hs=>wFg p0 bb bg bd bh be bi bf bj fH cS dy dR fJ gp i8 i6 gf jQ hs gP gQ gR gS mO BL uN) (.inr Z) ?_
 rintro ge Cp Dn gg aR z9 ⟨rfl,rfl⟩
 have fw:sW w U ge [.blk aS 39 bk,.blk aQ 39 aU,.blk ah 29 B2,.blk b6 29 B1,.blk b2 27 B0,.blk ap 27 am,aq] gg:=z9
 refine zq Z Z Z (zO Z Z (Za (fun h=>h aW.out))) (fun _=>Zm Z Z) (oR Z (zz Z (Za (fun h=>h aW.out)) Z) (eN (ifc A5 ?_ ?_)))
 intro iD A6
 refine zr (nC iD.out) (kN (zJ (sR fL2 Z (oM Z l6 (oR Z (Runs.eql Z Z Z) (eN (ifc A6 ?_ ?_)))))))
 intro iE A8
 refine cT Z iE (zJ (zx zn [3,1,2,3,1,2,3,3] (.fl 0 (.fl 1 (.fl 3 (.fl 4 (.fx 2 gDq .stop))))) (by kernel_rfl) ?_))
 have gZ:=fw.drew
 generalize hw_W1695:({ gg with drawn:=gg.drawn + 1 }:World)=ph at gZ ⊢
 refine oM Z iR (oL Z (gZ.ldBA (j:=2) Z Z pX Zh ZN (vs:=B2) Z Z) (oM Z iR (oL Z (gZ.ldBA (j:=3) Z Z pW Zh ZN (vs:=B1) Z Z) ?_)))
 have mP:=mO.le aR
 refine bnK A8 fun DD uO A9=>zG 0 Z Z Z Z (zH Z Z Tryz.call20 (zB Z (zB Z zM)) Z) gZ (fun hs=>wEh fH cS dy p2 ph ge hs mP uO) (.inr Z) ?_
 rintro jR Cr Do li aY Aa ⟨rfl,rfl⟩
 have Ab:sW w U jR [.blk aS 39 bk,.blk aQ 39 aU,.blk ah 29 B2,.blk b6 29 B1,.blk b2 27 B0,.blk ap 27 am,aq] li:=Aa
 have uP:=mP.le aY
 refine bnK A9 fun DE uQ Ba=>zG 0 Z Z Z Z (zH Z Z Tryz.call20 (zB Z (zB Z zM)) Z) Ab (fun hs=>wEh fH cS dy p1 li jR hs uP uQ) (.inr Z) ?_
 rintro eC Cs Dp it ba Ac ⟨rfl,rfl⟩
 have bO:sW w U eC [.blk aS 39 bk,.blk aQ 39 aU,.blk ah 29 B2,.blk b6 29 B1,.blk b2 27 B0,.blk ap 27 am,aq] it:=Ac
 refine oR Z (yV Z Z Z) (oA Z Z (eN (sR fL17 Z (oM Z iO (oM Z Z (ifc Ba ?_ ?_))))))
 intro aT Bb
 refine ZJ Z Z Z (zO Z Z (congrArg nA aT.out)) Z Z (zq Z Z Z (zO Z Z (congrArg nA aT.out)) (fun _=>zE Z iQ ZO Z zC) (ZI Z Z Z (zO Z Z (congrArg nA aT.out)) (bO.ldB (j:=0) Z Z Z zF (v:=jV cN.Hi) Z) Z (zq Z Z Z (zO Z Z (congrArg nA aT.out)) (fun _=>Zo Z Z Z) (oR Z (zm Z (congrArg nA aT.out) Z) (oM Z Z (ifc Bb ?_ ?_))))))
 intro bJ Bc
 refine ZJ Z Z Z (zO Z Z (Za (fun h=>h bJ.out))) Z iO (zq Z Z Z (zO Z Z (Za (fun h=>h bJ.out))) (fun _=>Zm Z Z) (ZJ Z Z Z (zO Z Z (Za (fun h=>h bJ.out))) Z Z (Zb Z Z Z (zu Z Z (nC aT.out) Z) (Zb Z Z Z (zu Z Z (nC aT.out) Z) (Zb Z Z Z (zu Z Z (nC aT.out) Z) (Zb Z Z Z (zu Z Z (nC aT.out) Z) (zq Z Z Z (zO Z Z (Za (fun h=>h bJ.out))) (fun _=>zz Z (nC aT.out) Z) (oR Z (zz Z (Za (fun h=>h bJ.out)) Z) (eN (zr Z (kN (zJ (yj fun oq iX=>?_)))))))))))))
 have p7:oq 5=.pointer (some ⟨b2,0,none⟩):=(iX 5).trans gK
 have p8:oq 11=.pointer (some ⟨ap,0,none⟩):=(iX 11).trans iP
 clear iX
 refine rR gEf Z (oL Z (bO.ldBA (j:=5) Z Z p8 ZA zl (vs:=am) Z Z) (oL Z (bO.ldBA (j:=4) Z Z p7 ZA zl (vs:=B0) Z Z) ?_))
 have uR:=gL.le aZ
 have uS:=uR.le a0
 have uT:=uS.le aX
 have uU:=uT.le aR
 have uV:=uU.le aY
 have uW:=uV.le ba
 have uX:=gM.le aZ
 have uY:=uX.le a0
 have uZ:=uY.le aX
 have u7:=uZ.le aR
 have u9:=u7.le aY
 have va:=u9.le ba
 have vb:=gN.le aZ
 have vc:=vb.le a0
 have vd:=vc.le aX
 have ve:=vd.le aR
 have vg:=ve.le aY
 have vh:=vg.le ba
 have vi:=gO.le aZ
 have vj:=vi.le a0
 have vk:=vj.le aX
 have vl:=vk.le aR
 have vm:=vl.le aY
 have vn:=vm.le ba
 have vo:=gP.le aR
 have vp:=vo.le aY
 have vq:=vp.le ba
 have vr:=gQ.le aR
 have vt:=vr.le aY
 have vu:=vt.le ba
 have vv:=gR.le aR
 have vw:=vv.le aY
 have vx:=vw.le ba
 have vy:=gS.le aR
 have vz:=vy.le aY
 have vA:=vz.le ba
 refine bnK Bc fun DF vB Bd=>zG 0 Z Z Z Z (zH Z Z Tryz.call21 (zB Z (zB Z zM)) Z) bO (fun hs=>wDL (⟨bC,bp,bq,br⟩:wAA) bI bK bu bz bv bA bw bB p0 bb bg bd bh be bi bf bj it eC hs uW va vh vn vq vu vx vA vB) (.inr Z) ?_
 rintro ip Ct Dq lj C4 Ad ⟨rfl,rfl⟩
 have mW:sW w U ip [.blk aS 39 bk,.blk aQ 39 aU,.blk ah 29 B2,.blk b6 29 B1,.blk b2 27 B0,.blk ap 27 am,aq] lj:=Ad
 refine oM Z Z (ifc Bd ?_ ?_)
 intro eU Be
 refine bnK Be fun DG vC Bf=>zG 0 Z Z Z (zO Z Z (congrArg nA eU.out)) (zH Z Z Tryz.call9 zM Z) mW (fun hs=>wCS lj ip hs vC) (.inr Z) ?_
 rintro jS Cu Dr pj C5 Ae ⟨rfl,rfl⟩
 have Af:sW w U jS [.blk aS 39 bk,.blk aQ 39 aU,.blk ah 29 B2,.blk b6 29 B1,.blk b2 27 B0,.blk ap 27 am,aq] pj:=Ae
 refine oR Z (zm Z (congrArg nA eU.out) Z) (oA Z Z (eN (zP ?_)))
 have hE:=nB Bf;first | subst r | cases hE
 exact ⟨rfl,_,(ZL rfl),jS,_,(Af.pick [] _ (by decide) rfl),rfl,rfl⟩
 intro eU Bg
 refine yU Z Z Z (zu Z Z (congrArg nA (nD.2 eU.out)) Z) (oR Z (zz Z (congrArg nA (nD.2 eU.out)) Z) (oA Z Z (eN (zP ?_))))
 have hE:=nB Bg;first | subst r | cases hE
 exact ⟨rfl,_,(ZL rfl),ip,_,(mW.pick [] _ (by decide) rfl),rfl,rfl⟩
 intro bJ Bh
 refine oT Z bJ (oT Z bJ (oT Z bJ (Zb Z Z Z (wJO Z Z Z) (Zb Z Z Z (wJO Z Z Z) (Zb Z Z Z (wJO Z Z Z) (Zb Z Z Z (wJO Z Z Z) (oT Z bJ (oR Z (zm Z (Zp bJ.out) Z) (eN (ZG Z (sR fL1 Z (oA Z Z (eN (zP (zN ?_)))))))))))))))
 have hE:=nB Bh;first | subst r | cases hE
 exact ⟨rfl,_,(ZL rfl),eC,_,(bO.pick [] _ (by decide) rfl),rfl,rfl⟩
 intro aT Bi
 refine Zb Z Z Z (zu Z Z (congrArg nA (nD.2 aT.out)) Z) (Zb Z Z Z (zu Z Z (congrArg nA (nD.2 aT.out)) Z) (Zb Z Z Z (zu Z Z (congrArg nA (nD.2 aT.out)) Z) (Zb Z Z Z (zu Z Z (congrArg nA (nD.2 aT.out)) Z) (oR Z (zz Z (congrArg nA (nD.2 aT.out)) Z) (oM Z Z (ZJ Z Z Z (zO Z Z Z) Z iO (zq Z Z Z (zO Z Z Z) (fun _=>Zm Z Z) (ZJ Z Z Z (zO Z Z Z) Z Z (ZJ Z Z Z (zO Z Z (nF (aT.out))) Z Z (zq Z Z Z (zO Z Z (nF (aT.out))) (fun _=>zE Z iQ ZO Z zC) (ZI Z Z Z (zO Z Z (nF (aT.out))) (bO.ldB (j:=0) Z Z Z zF (v:=jV cN.Lo) Z) Z (zq Z Z Z (zO Z Z (nF (aT.out))) (fun _=>Zo Z Z Z) (zq Z Z Z (zO Z Z Z) (fun _=>zm Z (nF (aT.out)) Z) (oR Z (zz Z Z Z) (eN (ifc Bi ?_ ?_))))))))))))))))
 intro iF Bj
 refine zr (Za (fun h=>h iF.out)) (kN (zJ (yj fun ot iY=>?_)))
 have p9:ot 5=.pointer (some ⟨b2,0,none⟩):=(iY 5).trans gK
 have qa:ot 11=.pointer (some ⟨ap,0,none⟩):=(iY 11).trans iP
 clear iY
 refine rR gEf Z (oL Z (bO.ldBA (j:=5) Z Z qa ZA zl (vs:=am) Z Z) (oL Z (bO.ldBA (j:=4) Z Z p9 ZA zl (vs:=B0) Z Z) ?_))
 have vD:=gL.le aZ
 have vE:=vD.le a0
 have vG:=vE.le aX
 have vH:=vG.le aR
 have vJ:=vH.le aY
 have vK:=vJ.le ba
 have vL:=gM.le aZ
 have vM:=vL.le a0
 have vN:=vM.le aX
 have vO:=vN.le aR
 have vP:=vO.le aY
 have vQ:=vP.le ba
 have vR:=gN.le aZ
 have vS:=vR.le a0
 have vU:=vS.le aX
 have vV:=vU.le aR
 have vW:=vV.le aY
 have vX:=vW.le ba
 have vY:=gO.le aZ
 have vZ:=vY.le a0
 have v5:=vZ.le aX
 have v7:=v5.le aR
 have v8:=v7.le aY
 have v9:=v8.le ba
 have wa:=gP.le aR
 have wb:=wa.le aY
 have wc:=wb.le ba
 have wd:=gQ.le aR
 have we:=wd.le aY
 have wg:=we.le ba
 have wh:=gR.le aR
 have wi:=wh.le aY
 have wj:=wi.le ba
 have wk:=gS.le aR
 have wl:=wk.le aY
 have wn:=wl.le ba
 refine bnK Bj fun DH wo Bk=>zG 0 Z Z Z Z (zH Z Z Tryz.call21 (zB Z (zB Z zM)) Z) bO (fun hs=>wDL (⟨bC,bp,bq,br⟩:wAA) bI bK bu bz bv bA bw bB p0 bb bg bd bh be bi bf bj it eC hs vK vQ vX v9 wc wg wj wn wo) (.inr Z) ?_
 rintro iq Cv Dt lm C6 Ag ⟨rfl,rfl⟩
 have mX:sW w U iq [.blk aS 39 bk,.blk aQ 39 aU,.blk ah 29 B2,.blk b6 29 B1,.blk b2 27 B0,.blk ap 27 am,aq] lm:=Ag
 refine oM Z Z (ifc Bk ?_ ?_)
 intro eV Bl
 refine bnK Bl fun DI wp Bm=>zG 0 Z Z Z (zO Z Z (congrArg nA eV.out)) (zH Z Z Tryz.call9 zM Z) mX (fun hs=>wCS lm iq hs wp) (.inr Z) ?_
 rintro jU Cw Du pk C7 Ah ⟨rfl,rfl⟩
 have Ai:sW w U jU [.blk aS 39 bk,.blk aQ 39 aU,.blk ah 29 B2,.blk b6 29 B1,.blk b2 27 B0,.blk ap 27 am,aq] pk:=Ah
 refine oR Z (zm Z (congrArg nA eV.out) Z) (oA Z Z (eN (zP ?_)))
 have hE:=nB Bm;first | subst r | cases hE
 exact ⟨rfl,_,(ZL rfl),jU,_,(Ai.pick [] _ (by decide) rfl),rfl,rfl⟩
 intro eV Bn
 refine yU Z Z Z (zu Z Z (congrArg nA (nD.2 eV.out)) Z) (oR Z (zz Z (congrArg nA (nD.2 eV.out)) Z) (oA Z Z (eN (zP ?_))))
 have hE:=nB Bn;first | subst r | cases hE
 exact ⟨rfl,_,(ZL rfl),iq,_,(mX.pick [] _ (by decide) rfl),rfl,rfl⟩
 intro iF Bo
 refine cT Z iF (sR fL1 Z (oA Z Z (eN (zP (zN ?_)))))
 have hE:=nB Bo;first | subst r | cases hE
 exact ⟨rfl,_,(ZL rfl),eC,_,(bO.pick [] _ (by decide) rfl),rfl,rfl⟩
 intro iE Bp
 refine cF Z iE (kN (sR gEf Z (oL Z (fw.ldBA (j:=5) Z Z iP ZA zl (vs:=am) Z Z) (oL Z (fw.ldBA (j:=4) Z Z gK ZA zl (vs:=B0) Z Z) ?_))))
 have wq:=gL.le aZ
 have wt:=wq.le a0
 have wu:=wt.le aX
 have wv:=wu.le aR
 have ww:=gM.le aZ
 have wx:=ww.le a0
 have wy:=wx.le aX
 have wz:=wy.le aR
 have wA:=gN.le aZ
 have wB:=wA.le a0
 have wC:=wB.le aX
 have wD:=wC.le aR
 have wE:=gO.le aZ
 have wG:=wE.le a0
 have wH:=wG.le aX
 have wI:=wH.le aR
 have wJ:=gP.le aR
 have wK:=gQ.le aR
 have wL:=gR.le aR
 have wM:=gS.le aR
 refine bnK Bp fun DJ wN Bq=>zG 0 Z Z Z Z (zH Z Z Tryz.call21 (zB Z (zB Z zM)) Z) fw (fun hs=>wDL (⟨bC,bp,bq,br⟩:wAA) bI bK bu bz bv bA bw bB p0 bb bg bd bh be bi bf bj gg ge hs wv wz wD wI wJ wK wL wM wN) (.inr Z) ?_
 rintro ir Cx Dv ln C8 Aj ⟨rfl,rfl⟩
 have mY:sW w U ir [.blk aS 39 bk,.blk aQ 39 aU,.blk ah 29 B2,.blk b6 29 B1,.blk b2 27 B0,.blk ap 27 am,aq] ln:=Aj
 refine oM Z Z (ifc Bq ?_ ?_)
 intro eW Br
 refine bnK Br fun DK wO Bs=>zG 0 Z Z Z (zO Z Z (congrArg nA eW.out)) (zH Z Z Tryz.call9 zM Z) mY (fun hs=>wCS ln ir hs wO) (.inr Z) ?_
 rintro jW Cy Dw pm C9 Ak ⟨rfl,rfl⟩
 have Al:sW w U jW [.blk aS 39 bk,.blk aQ 39 aU,.blk ah 29 B2,.blk b6 29 B1,.blk b2 27 B0,.blk ap 27 am,aq] pm:=Ak
 refine oR Z (zm Z (congrArg nA eW.out) Z) (oA Z Z (eN (zP ?_)))
 have hE:=nB Bs;first | subst r | cases hE
 exact ⟨rfl,_,(ZL rfl),jW,_,(Al.pick [] _ (by decide) rfl),rfl,rfl⟩
 intro eW Bt
 refine yU Z Z Z (zu Z Z (congrArg nA (nD.2 eW.out)) Z) (oR Z (zz Z (congrArg nA (nD.2 eW.out)) Z) (oA Z Z (eN (zP ?_))))
 have hE:=nB Bt;first | subst r | cases hE
 exact ⟨rfl,_,(ZL rfl),ir,_,(mY.pick [] _ (by decide) rfl),rfl,rfl⟩
 intro iD Bu
 refine ZG (nF (iD.out)) (sR fL1 Z (oA Z Z (eN (zP (zN ?_)))))
 have hE:=nB Bu;first | subst r | cases hE
 exact ⟨rfl,_,(ZL rfl),ge,_,(fw.pick [] _ (by decide) rfl),rfl,rfl⟩
 intro aW Bv
 refine oT Z aW (oT Z aW (oT Z aW (oT Z aW (oT Z aW (yU Z Z Z (zu Z Z (Zp aW.out) Z) (oT Z aW (oR Z (zm Z (Zp aW.out) Z) (eN (ZG Z (sR fL1 Z (oA Z Z (eN (zP (zN ?_))))))))))))))
 have hE:=nB Bv;first | subst r | cases hE
 exact ⟨rfl,_,(ZL rfl),io,_,(dN.pick [] _ (by decide) rfl),rfl,rfl⟩
 intro cd Bw
 refine oT Z cd (oT Z cd (oT Z cd (oR Z (zm Z (Zp cd.out) Z) (oM Z Z (oN Z (oN Z (oN Z (oN Z (oN Z (yU Z Z Z (zu Z Z Z Z) (oN Z (oR Z (zm Z Z Z) (eN (ZG Z (sR fL1 Z (oA Z Z (eN (zP (zN ?_)))))))))))))))))))
 have hE:=nB Bw;first | subst r | cases hE
 exact ⟨rfl,_,(ZL rfl),io,_,(dN.pick [] _ (by decide) rfl),rfl,rfl⟩
 intro iC Bx
 refine cT Z iC (sR fL1 Z (oA Z Z (eN (zP (zN ?_)))))
 have hE:=nB Bx;first | subst r | cases hE
 exact ⟨rfl,_,(ZL rfl),eA,_,(cw.pick [] _ (by decide) rfl),rfl,rfl⟩
 intro cb By
 refine oT Z cb (oT Z cb (oT Z cb (oR Z (zm Z (Zp cb.out) Z) (eN (ZG Z (sR fL1 Z (oA Z Z (eN (zP (zN ?_))))))))))
 have hE:=nB By;first | subst r | cases hE
 exact ⟨rfl,_,(ZL rfl),eA,_,(cw.pick [] _ (by decide) rfl),rfl,rfl⟩
 intro iB Bz
 refine cT Z iB (sR fL1 Z (oA Z Z (eN (zP (zN ?_)))))
 have hE:=nB Bz;first | subst r | cases hE
 exact ⟨rfl,_,(ZL rfl),ey,_,(dM.pick [] _ (by decide) rfl),rfl,rfl⟩
 intro b9 BA
 refine oT Z b9 (oT Z b9 (oT Z b9 (oR Z (zm Z (Zp b9.out) Z) (eN (ZG Z (sR fL1 Z (oA Z Z (eN (zP (zN ?_))))))))))
 have hE:=nB BA;first | subst r | cases hE
 exact ⟨rfl,_,(ZL rfl),ey,_,(dM.pick [] _ (by decide) rfl),rfl,rfl⟩
end Go.Proofs.YtlnfbjphfoipaaaGreat
