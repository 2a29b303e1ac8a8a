import Derived.Test.YtkghaiefcjgfkaaGreatQ6
import Derived.Test.YtkghaiefcjgfkaaGreatQ5
import Derived.Test.YtkghaiefcjgfkaaGreatQ7
set_option linter.all false
open List renaming flatMap->hD,length_set->nD,getElem_cons_succ->nE,getElem_cons_zero->nG,set->nH,getElem_toArray->nI
open Go.Value renaming bool->hJ
open Bool renaming eq_false_iff->nA
open Option.some renaming inj->nB
namespace Go.Proofs.YtkghaiefcjgfkaaGreat
open Go.KL
def gDv:Sch:=.fx 3 (.fl 4 .nil) .stop
def gDw:Sch:=.fx 1 (.fl 2 .nil) .stop
def gDx:Sch:=.fx 0 (.fl 1 .nil) .stop
def gDy:Sch:=.fl 0 (.fx 1 .nil .stop)
def gDz:Sch:=.fx 1 (.fx 2 .nil .stop) .stop
def gEa:Sch:=.fx 0 (.fx 1 .nil .stop) .stop
def gEb:Sch:=.fx 2 gDv .stop
def gEc:Sch:=.fx 0 gDw .stop
def gEd:Sch:=.fx 2 (.fl 3 (.fl 4 .nil)) .stop
def gEe:Sch:=.fl 0 gDw
def gEf:Sch:=.fx 10 (.fl 11 (.fl 12 .nil)) .stop
def gEg:Sch:=.fx 0 (.fl 1 (.fl 2 .nil)) .stop
def gEh:Sch:=.fl 0 gDz
def gEi:Sch:=.fl 0 (.fl 1 (.fx 2 .nil .stop))
def gEj:Sch:=.fx 11 (.fx 12 (.fl 13 .nil) .stop) .stop
def gEk:Sch:=.fx 6 (.fx 7 (.fl 8 .nil) .stop) .stop
def gEl:Sch:=.fl 0 (.fl 1 (.fx 2 (.fl 3 .nil) .stop))
def gEm:Sch:=.fl 0 (.fl 1 (.fx 2 (.fx 3 .nil .stop) .stop))
def gEn:Sch:=.fl 0 (.fx 1 (.fl 2 (.fl 3 .nil)) .stop)
def gEo:Sch:=.fx 6 (.fx 7 (.fl 8 (.fl 9 .nil)) .stop) .stop
def gEp:Sch:=.fx 10 gEj .stop
def gEq:Sch:=.fx 9 gEj .stop
def gEr:Sch:=.fl 0 (.fl 1 gEd)
def gEs:Sch:=.fx 0 (.fx 1 gEd .stop) .stop
def gEt:Sch:=.fl 0 (.fl 1 (.fx 2 (.fx 3 (.fx 4 .nil .stop) .stop) .stop))
def gEu:Sch:=.fl 0 (.fl 1 gEb)
def gEv:Sch:=.fl 0 (.fl 1 (.fl 3 (.fx 2 (.fx 4 (.fx 5 (.fx 6 (.fl 7 .nil) .stop) .stop) .stop) .stop)))
def gEw:Sch:=.fl 0 (.fl 1 (.fx 2 (.fl 3 (.fl 5 (.fl 6 (.fl 9 (.fl 10 (.fx 4 (.fl 7 (.fl 8 (.fx 11 (.fl 12 (.fl 13 .nil)) .stop))) .stop)))))) .stop))
set_option maxHeartbeats 4000000
theorem wEo (p0:wAE) (a6:Option Addr) (bb:Nat) (a7:Option Addr) (bc:Nat) (a8:Option Addr) (bd:Nat) (ba:Option Addr) (be:Nat) (p1:wAP) (p2:wAP) (w:World) (U:PHeap) (hS:St0 w U []) (da:Sl U 1 a6 bb p0.Starts.length (hD KL.encI p0.Starts)) (db:Sl U 2 a7 bc p0.Splits.length (hD wAF p0.Splits)) (dd:Sl U 3 a8 bd p0.Clocks.length (hD wAA p0.Clocks)) (de:Sl U 4 ba be p0.Readings.length (hD wAB p0.Readings)) {r:wAI × Int} (hm:wEC p0 p1 p2=some r):Gv Tryz.prog 15 [.agg #[.slice a6 p0.Starts.length bb,.slice a7 p0.Splits.length bc,.slice a8 p0.Clocks.length bd,.slice ba p0.Readings.length be],.agg #[jV p1.Skier,jV p1.Mat],.agg #[jV p2.Skier,jV p2.Mat]] w (wBa w [] U (fun U_ L_ v=>v=.tuple #[.agg #[jV r.1.Lo,jV r.1.Hi],jV r.2]/\L_=[])):=by
 unfold wEC at hm
 refine Gv.of Tryz.func15 Z Tryz.ntmps15 Tryz.results15 Z (sR (.fx 0 (.fx 1 gEb .stop) .stop) Z ?_)
 let B0:List Value:=[.slice a6 p0.Starts.length bb,.slice a7 p0.Splits.length bc,.slice a8 p0.Clocks.length bd,.slice ba p0.Readings.length be]
 refine ZC (cs:=B0) rfl rfl rfl rfl rfl rfl (by rfl) hS ?_
 intro W1 b2 cW
 let B1:List Value:=[jV p1.Skier,jV p1.Mat]
 refine ZC (cs:=B1) rfl rfl rfl rfl rfl rfl (by rfl) cW ?_
 intro W5 b6 cX
 let B2:List Value:=[jV p2.Skier,jV p2.Mat]
 refine ZC (cs:=B2) rfl rfl rfl rfl rfl rfl (by rfl) cX ?_
 intro W9 ai cK
 let B3:List Value:=[jV 0,jV 0]
 refine zW (cs:=B3) Z Z Z Z Z ZQ Z cK ?_
 intro dE aj aW
 refine oA Z Z (eN (sR (wCv (.fx 3 (.fx 4 (wJX (.nil)) .stop) .stop)) Z (oL Z (aW.ldBA (j:=3) Z Z Z zz zh (vs:=B0) Z Z) (oL Z (aW.ldBA (j:=2) Z Z Z Zq ZX (vs:=B1) Z Z) (oL Z (aW.ldBA (j:=1) Z Z Z Zq ZX (vs:=B2) Z Z) (zo (pv:=[(0,.agg B1.toArray),(1,.agg B2.toArray)]) (zs:=[jV 0,jV 0,jV 0,jV 0]) (cs:=[jV p1.Skier,jV p1.Mat,jV p2.Skier,jV p2.Mat]) Z Z Z Z Z (wAD Z (wAD Z wAM)) Zu ZX yF Z Z Z Z Z aW ?_))))))
 intro bh bz cR
 have cS:sW w U U [.row (some ⟨bz,0,none⟩) 2 62 2 (hD wAU [p1,p2]),.blk aj 37 B3,.blk ai 62 B2,.blk b6 62 B1,.blk b2 45 B0] bh:=cR
 have q:=cS.freezeR (k:=0) (n:=[p1,p2].length) rfl (wAC (f:=wAU) (sz:=2) (fun _=>rfl) [p1,p2]) (by decide)
 obtain ⟨bt,aZ,dt,cU⟩:=q
 have cV:sW w U bt [.blk aj 37 B3,.blk ai 62 B2,.blk b6 62 B1,.blk b2 45 B0] bh:=cU
 have cr:=da.le aZ
 have cu:=db.le aZ
 have cw:=dd.le aZ
 have cx:=de.le aZ
 have q:=bnd hm
 obtain ⟨⟨dv,bf⟩,cy,ay⟩:=q
 try dsimp only at ay
 refine zH 0 Z Z Z Z (zG Z Z Tryz.call46 (zB Z (zB Z zO)) Z) cV (fun hs=>wEa p0 a6 bb a7 bc a8 bd ba be [p1,p2] (some ⟨bz,0,none⟩) 2 bh bt hs cr cu cw cx dt cy) (.inr Z) ?_
 rintro an dA dP av dJ bI bF
 rcases dv with _ | ax
 try dsimp only at ay
 obtain ⟨rfl,rfl⟩:=bF
 have bJ:sW w U an [.blk aj 37 B3,.blk ai 62 B2,.blk b6 62 B1,.blk b2 45 B0] av:=bI
 refine oM Z Z (oR Z (zV Z Z (v:=.pointer none) Z) (oR Z (zV Z Z (v:=jV bf) Z) (oA Z Z (oA Z Z (eN (zL (sR fL2 Z (oM Z Z (oR Z (Zk Z Z Z) (eN (ifc ay ?_ ?_)))))))))))
 intro bj dm
 refine zy (ZM (fun h=>h bj.out)) (kN (zL (ZF ZB [3,1,2,1,2,0,0,3] gEv (by kernel_rfl) ?_)))
 have aX:=bJ.drew
 generalize hw_W61:({ av with drawn:=av.drawn + 1 }:World)=bS at aX ⊢
 refine oM Z Z (oL Z (aX.ldBA (j:=2) Z Z Z Zq ZX (vs:=B1) Z Z) (oL Z (aX.ldBA (j:=1) Z Z Z Zq ZX (vs:=B2) Z Z) (bnK dm fun dS cz dn=>zH 0 Z Z Z Z (zG Z Z yk (zB Z zO) Z) aX (fun hs=>wCb p1 bS an hs cz) (.inr Z) ?_)))
 rintro bu dB dQ bx dK cY ⟨rfl,rfl⟩
 have cZ:sW w U bu [.blk aj 37 B3,.blk ai 62 B2,.blk b6 62 B1,.blk b2 45 B0] bx:=cY
 refine bnK dn fun dT cA dp=>zH 0 Z Z Z Z (zG Z Z yk (zB Z zO) Z) cZ (fun hs=>wCb p2 bx bu hs cA) (.inr Z) ?_
 rintro bN dC dR bU dL c6 ⟨rfl,rfl⟩
 have dH:sW w U bN [.blk aj 37 B3,.blk ai 62 B2,.blk b6 62 B1,.blk b2 45 B0] bU:=c6
 cases dp
 intro bj dq
 refine cT Z bj (sR gEl Z (oR Z (zu (pv:=[]) (z:=B3) (cs:=B3) Z wAM ZQ wCU Z Z) (oM Z Z (zX (j:=0) (vs:=B3) Z Z Z Z bJ Z Z Z Z ZD (zA Z) Z Z Z ?_))))
 intro bV c8
 have bK:sW w U an [.blk aj 37 B3,.blk ai 62 B2,.blk b6 62 B1,.blk b2 45 B0] bV:=c8
 refine oA Z Z (eN (zR (zS ?_)))
 cases dq
 exact ⟨rfl,_,(wEH (rs:=[.cell 6 37,.tmp 7]) (vs:=[.agg B3.toArray,jV bf]) ⟨⟨_,rfl,(wBN yE ZD (bK.blkAt (k:=0) rfl) (vs:=B3) rfl rfl)⟩,⟨rfl,trivial⟩⟩ rfl),an,_,(bK.pick [] _ (by decide) rfl),rfl,rfl⟩
 try dsimp only at ay
 obtain ⟨bi,bm,bA,bn,bB,bo,bC,bp,bD,ao,aq,ap,bq,bE,rfl,rfl,cB,cC,cD,cE,cG,cH⟩:=bF
 let B4:Res:=.blk bi 124 [.slice bm ax.Race.Starts.length bA,.slice bn ax.Race.Splits.length bB,.slice bo ax.Race.Clocks.length bC,.slice bp ax.Race.Readings.length bD,.map (some ao),.slice bq ax.edges.length bE]
 have bL:sW w U an [B4,.obj ao (.map aq ap),.blk aj 37 B3,.blk ai 62 B2,.blk b6 62 B1,.blk b2 45 B0] av:=bI
 refine oM Z Z (oR Z (zV Z Z (v:=.pointer (some ⟨bi,0,none⟩)) Z) (oR Z (zV Z Z (v:=jV bf) Z) (oA Z Z (oA Z Z (eN (zL (sR fL2 Z (oM Z Z (oR Z (Zk Z Z Z) (eN (ifc ay ?_ ?_)))))))))))
 intro bk dr
 refine zy (ZM (fun h=>h bk.out)) (kN (zL (ZF ZB [3,1,2,1,2,0,0,3] gEv (by kernel_rfl) ?_)))
 have aY:=bL.drew
 generalize hw_W98:({ av with drawn:=av.drawn + 1 }:World)=bW at aY ⊢
 refine oM Z Z (oL Z (aY.ldBA (j:=4) Z Z Z Zq ZX (vs:=B1) Z Z) (oL Z (aY.ldBA (j:=3) Z Z Z Zq ZX (vs:=B2) Z Z) (bnK dr fun dw bX df=>zH 0 Z Z Z Z (zG Z Z yk (zB Z zO) Z) aY (fun hs=>wCb p1 bW an hs bX) (.inr Z) ?_)))
 rintro br dx dM bv az cI ⟨rfl,rfl⟩
 have cJ:sW w U br [B4,.obj ao (.map aq ap),.blk aj 37 B3,.blk ai 62 B2,.blk b6 62 B1,.blk b2 45 B0] bv:=cI
 refine bnK df fun du bY dg=>zH 0 Z Z Z Z (zG Z Z yk (zB Z zO) Z) cJ (fun hs=>wCb p2 bv br hs bY) (.inr Z) ?_
 rintro bs dy dN bw aU cL ⟨rfl,rfl⟩
 have cM:sW w U bs [B4,.obj ao (.map aq ap),.blk aj 37 B3,.blk ai 62 B2,.blk b6 62 B1,.blk b2 45 B0] bw:=cL
 have bZ:=cB.le az
 have ca:=bZ.le aU
 have cc:=cC.le az
 have cd:=cc.le aU
 have cg:=cD.le az
 have ci:=cg.le aU
 have cj:=cE.le az
 have cm:=cj.le aU
 have co:=cH.le az
 have cp:=co.le aU
 refine bnK dg fun bM cq dh=>zH 2 Z Z Z Z (zG Z Z Tryz.call47 (zB Z (zB Z (zB Z zO))) Z) cM (fun hs=>wEJ ax bi bm bA bn bB bo bC bp bD ao aq ap bq bE dw du bw bs hs ca cd ci cm cG cp cq) (.inl Z) ?_
 rintro bg dz dO bP dI cN ⟨rfl,rfl⟩
 have cO:sW w U bg [B4,.obj ao (.map aq ap),.blk aj 37 B3,.blk ai 62 B2,.blk b6 62 B1,.blk b2 45 B0] bP:=cN
 let B5:List Value:=[jV bM.Lo,jV bM.Hi]
 refine zX (j:=2) (vs:=B5) Z Z Z Z cO Z Z Z Z ZD (zA Z) Z Z Z ?_
 intro bQ cP
 have bG:sW w U bg [B4,.obj ao (.map aq ap),.blk aj 37 B5,.blk ai 62 B2,.blk b6 62 B1,.blk b2 45 B0] bQ:=cP
 refine oA Z Z (eN (zR ?_))
 cases dh
 exact ⟨rfl,_,(wEH (rs:=[.cell 6 37,.tmp 7]) (vs:=[.agg B5.toArray,jV 0]) ⟨⟨_,rfl,(wBN yE ZD (bG.blkAt (k:=2) rfl) (vs:=B5) rfl rfl)⟩,⟨rfl,trivial⟩⟩ rfl),bg,_,(bG.pick [] _ (by decide) rfl),rfl,rfl⟩
 intro bk di
 refine cT Z bk (sR gEl Z (oR Z (zu (pv:=[]) (z:=B3) (cs:=B3) Z wAM ZQ wCU Z Z) (oM Z Z (zX (j:=2) (vs:=B3) Z Z Z Z bL Z Z Z Z ZD (zA Z) Z Z Z ?_))))
 intro bR cQ
 have bH:sW w U an [B4,.obj ao (.map aq ap),.blk aj 37 B3,.blk ai 62 B2,.blk b6 62 B1,.blk b2 45 B0] bR:=cQ
 refine oA Z Z (eN (zR (zS ?_)))
 cases di
 exact ⟨rfl,_,(wEH (rs:=[.cell 6 37,.tmp 7]) (vs:=[.agg B3.toArray,jV bf]) ⟨⟨_,rfl,(wBN yE ZD (bH.blkAt (k:=2) rfl) (vs:=B3) rfl rfl)⟩,⟨rfl,trivial⟩⟩ rfl),an,_,(bH.pick [] _ (by decide) rfl),rfl,rfl⟩
theorem wGG (p0:wAE) (ai:Option Addr) (an:Nat) (aj:Option Addr) (ao:Nat) (ak:Option Addr) (ap:Nat) (am:Option Addr) (aq:Nat) (p1:wAG) (w:World) (U:PHeap) (hS:St0 w U []) (be:Sl U 1 ai an p0.Starts.length (hD KL.encI p0.Starts)) (bf:Sl U 2 aj ao p0.Splits.length (hD wAF p0.Splits)) (bg:Sl U 3 ak ap p0.Clocks.length (hD wAA p0.Clocks)) (bh:Sl U 4 am aq p0.Readings.length (hD wAB p0.Readings)) {r:Bool} (hm:wCQ p0 p1=some r):Gv Tryz.prog 102 [.agg #[.slice ai p0.Starts.length an,.slice aj p0.Splits.length ao,.slice ak p0.Clocks.length ap,.slice am p0.Readings.length aq],.agg #[jV p1.Kind,jV p1.Skier,jV p1.Index,.bool p1.Up]] w (wBa w [] U (fun U_ L_ v=>v=.bool r/\L_=[])):=by
 unfold wCQ at hm
 refine Gv.of Tryz.func102 Z Tryz.ntmps102 Tryz.results102 Z ?_
 by_cases c1:p1.Kind=0
 have cC:=hm;rw [if_pos c1] at cC
 refine sR gEc Z ?_
 let B0:List Value:=[.slice ai p0.Starts.length an,.slice aj p0.Splits.length ao,.slice ak p0.Clocks.length ap,.slice am p0.Readings.length aq]
 refine ZC (cs:=B0) rfl rfl rfl rfl rfl rfl (by rfl) hS ?_
 intro W6 b7 eQ
 let B1:List Value:=[jV p1.Kind,jV p1.Skier,jV p1.Index,.bool p1.Up]
 refine ZC (cs:=B1) rfl rfl rfl rfl rfl rfl (by rfl) eQ ?_
 intro bV bx dU
 refine yB rfl rfl rfl rfl rfl rfl (eN (zL (ZF ZB [3,1,2,3,2,3,1,3,3,1,1,2,3,3] gEw (by kernel_rfl) ?_)))
 have bH:=dU.drew
 generalize hw_W15:({ bV with drawn:=bV.drawn + 1 }:World)=cJ at bH ⊢
 refine oR Z (zJ Z Z zq Z yQ) (oL Z (bH.ldB (j:=0) Z Z Z yX (v:=jV p1.Kind) Z) (bnK cC fun gx db fd=>zH 0 Z Z Z Z (zG Z Z yV (zB Z (zB Z (zB Z zO))) Z) bH (fun hs=>wBs p1.Kind 0 3 cJ U hs db) (.inr Z) ?_))
 rintro bt fH gh cg bn eF ⟨rfl,rfl⟩
 have a8:sW w U bt [.blk bx 101 B1,.blk b7 45 B0] cg:=eF
 refine oM Z Z (ifc fd ?_ ?_)
 intro af fq
 refine ze Z Z Z (zQ Z Z (congrArg hJ af.out)) (fun _=>zJ Z Z zq Z yQ) (ZE Z Z Z (zQ Z Z (congrArg hJ af.out)) (a8.ldB (j:=0) Z Z Z yX (v:=jV p1.Kind) Z) Z (ZE Z Z Z (zQ Z Z (congrArg hJ af.out)) (a8.ldBA (j:=1) Z Z Z zz zh (vs:=B0) Z Z) Z (ZE Z Z Z (zQ Z Z (congrArg hJ af.out)) (a8.ldBA (j:=0) Z Z Z Zw Zh (vs:=B1) Z Z) Z ?_)))
 have q:=bnd fq
 obtain ⟨⟨⟩,dv,cB⟩:=q
 try dsimp only at cB
 refine zH 0 Z Z Z (zQ Z Z (congrArg hJ af.out)) (zG Z Z yY zO Z) a8 (fun hs=>wBH cg bt hs dv) (.inr Z) ?_
 rintro bQ fL gm cj bo eG ⟨rfl,rfl⟩
 have eH:sW w U bQ [.blk bx 101 B1,.blk b7 45 B0] cj:=eG
 refine ze rfl rfl rfl (zQ rfl rfl (congrArg hJ af.out)) (fun _=>(YB (i:=0) rfl rfl (congrArg (jV) c1) Zt ZZ (by decide) (by decide) (wCz yd ZZ rfl))) (ze rfl rfl rfl (zQ rfl rfl (congrArg hJ af.out)) (fun _=>Runs.fld rfl rfl Zy rfl (wFL Tryz.isAgg179 (v:=.func (.func 116) #[] #[]) rfl)) ?_)
 have dw:=be.le bn
 have dx:=dw.le bo
 have dy:=bf.le bn
 have dz:=dy.le bo
 have dA:=bg.le bn
 have dB:=dA.le bo
 have dC:=bh.le bn
 have dD:=dC.le bo
 refine bnK cB fun gB dE ft=>zH 0 Z Z Z (zQ Z Z (congrArg hJ af.out)) (zG Z Z Tryz.call116 (zB Z (zB Z zO)) Z) eH (fun hs=>wHP p0 ai an aj ao ak ap am aq p1 cj bQ hs dx dz dB dD dE) (.inr Z) ?_
 rintro bR fM gq cP f7 eI ⟨rfl,rfl⟩
 have eJ:sW w U bR [.blk bx 101 B1,.blk b7 45 B0] cP:=eI
 refine oR Z (zT Z (congrArg hJ af.out) Z) (oA Z Z (eN (zR ?_)))
 have hE:=nB ft;first | subst r | cases hE
 exact ⟨rfl,_,(ZH rfl),bR,_,(eJ.pick [] _ (by decide) rfl),rfl,rfl⟩
 intro af fu
 refine ZA Z Z Z (zU Z Z (congrArg hJ (nA.2 af.out)) Z) (ZA Z Z Z (zU Z Z (congrArg hJ (nA.2 af.out)) Z) (ZA Z Z Z (zU Z Z (congrArg hJ (nA.2 af.out)) Z) (ZA Z Z Z (zU Z Z (congrArg hJ (nA.2 af.out)) Z) (ZI Z Z Z (zU Z Z (congrArg hJ (nA.2 af.out)) Z) (ZA Z Z Z (zU Z Z (congrArg hJ (nA.2 af.out)) Z) (ZA Z Z Z (zU Z Z (congrArg hJ (nA.2 af.out)) Z) (ZI Z Z Z (zU Z Z (congrArg hJ (nA.2 af.out)) Z) (oR Z (zc Z (congrArg hJ (nA.2 af.out)) Z) (oA Z Z (eN (zR ?_)))))))))))
 have hE:=nB fu;first | subst r | cases hE
 exact ⟨rfl,_,(ZH rfl),bt,_,(a8.pick [] _ (by decide) rfl),rfl,rfl⟩
 by_cases c2:p1.Kind=1
 have cD:=hm;rw [if_neg c1,if_pos c2] at cD
 refine sR gEc Z ?_
 let B2:List Value:=[.slice ai p0.Starts.length an,.slice aj p0.Splits.length ao,.slice ak p0.Clocks.length ap,.slice am p0.Readings.length aq]
 refine ZC (cs:=B2) rfl rfl rfl rfl rfl rfl (by rfl) hS ?_
 intro fS bC eK
 let B3:List Value:=[jV p1.Kind,jV p1.Skier,jV p1.Index,.bool p1.Up]
 refine ZC (cs:=B3) rfl rfl rfl rfl rfl rfl (by rfl) eK ?_
 intro cm bD eM
 refine yB rfl rfl rfl rfl rfl rfl (eN (zL (ZF ZB [3,1,2,3,2,3,1,3,3,1,1,2,3,3] gEw (by kernel_rfl) ?_)))
 have bK:=eM.drew
 generalize hw_W66:({ cm with drawn:=cm.drawn + 1 }:World)=cQ at bK ⊢
 refine oR Z (zJ Z Z zq Z yQ) (oL Z (bK.ldB (j:=0) Z Z Z yX (v:=jV p1.Kind) Z) (bnK cD fun gC dF fw=>zH 0 Z Z Z Z (zG Z Z yV (zB Z (zB Z (zB Z zO))) Z) bK (fun hs=>wBs p1.Kind 0 3 cQ U hs dF) (.inr Z) ?_))
 rintro bv fN gt co bp eO ⟨rfl,rfl⟩
 have ba:sW w U bv [.blk bD 101 B3,.blk bC 45 B2] co:=eO
 refine oM Z Z (ifc fw ?_ ?_)
 intro ag fy
 refine ze Z Z Z (zQ Z Z (congrArg hJ ag.out)) (fun _=>zJ Z Z zq Z yQ) (ZE Z Z Z (zQ Z Z (congrArg hJ ag.out)) (ba.ldB (j:=0) Z Z Z yX (v:=jV p1.Kind) Z) Z (ZE Z Z Z (zQ Z Z (congrArg hJ ag.out)) (ba.ldBA (j:=1) Z Z Z zz zh (vs:=B2) Z Z) Z (ZE Z Z Z (zQ Z Z (congrArg hJ ag.out)) (ba.ldBA (j:=0) Z Z Z Zw Zh (vs:=B3) Z Z) Z ?_)))
 have q:=bnd fy
 obtain ⟨⟨⟩,dG,cE⟩:=q
 try dsimp only at cE
 refine zH 0 Z Z Z (zQ Z Z (congrArg hJ ag.out)) (zG Z Z yY zO Z) ba (fun hs=>wBH co bv hs dG) (.inr Z) ?_
 rintro bS fO gu cp bq eU ⟨rfl,rfl⟩
 have eV:sW w U bS [.blk bD 101 B3,.blk bC 45 B2] cp:=eU
 refine ze rfl rfl rfl (zQ rfl rfl (congrArg hJ ag.out)) (fun _=>(YB (i:=1) rfl rfl (congrArg (jV) c2) Zt ZZ (by decide) (by decide) (wCz yd ZZ rfl))) (ze rfl rfl rfl (zQ rfl rfl (congrArg hJ ag.out)) (fun _=>Runs.fld rfl rfl Zy rfl (wFL Tryz.isAgg179 (v:=.func (.func 119) #[] #[]) rfl)) ?_)
 have dH:=be.le bp
 have dI:=dH.le bq
 have dJ:=bf.le bp
 have dK:=dJ.le bq
 have dL:=bg.le bp
 have dM:=dL.le bq
 have dN:=bh.le bp
 have dO:=dN.le bq
 refine bnK cE fun gD dP fz=>zH 0 Z Z Z (zQ Z Z (congrArg hJ ag.out)) (zG Z Z Tryz.call119 (zB Z (zB Z zO)) Z) eV (fun hs=>wHS p0 ai an aj ao ak ap am aq p1 cp bS hs dI dK dM dO dP) (.inr Z) ?_
 rintro bU fA f8 cH fV dQ ⟨rfl,rfl⟩
 have dR:sW w U bU [.blk bD 101 B3,.blk bC 45 B2] cH:=dQ
 refine oR Z (zT Z (congrArg hJ ag.out) Z) (oA Z Z (eN (zR ?_)))
 have hE:=nB fz;first | subst r | cases hE
 exact ⟨rfl,_,(ZH rfl),bU,_,(dR.pick [] _ (by decide) rfl),rfl,rfl⟩
 intro ag eW
 refine ZA Z Z Z (zU Z Z (congrArg hJ (nA.2 ag.out)) Z) (ZA Z Z Z (zU Z Z (congrArg hJ (nA.2 ag.out)) Z) (ZA Z Z Z (zU Z Z (congrArg hJ (nA.2 ag.out)) Z) (ZA Z Z Z (zU Z Z (congrArg hJ (nA.2 ag.out)) Z) (ZI Z Z Z (zU Z Z (congrArg hJ (nA.2 ag.out)) Z) (ZA Z Z Z (zU Z Z (congrArg hJ (nA.2 ag.out)) Z) (ZA Z Z Z (zU Z Z (congrArg hJ (nA.2 ag.out)) Z) (ZI Z Z Z (zU Z Z (congrArg hJ (nA.2 ag.out)) Z) (oR Z (zc Z (congrArg hJ (nA.2 ag.out)) Z) (oA Z Z (eN (zR ?_)))))))))))
 have hE:=nB eW;first | subst r | cases hE
 exact ⟨rfl,_,(ZH rfl),bv,_,(ba.pick [] _ (by decide) rfl),rfl,rfl⟩
 by_cases c3:p1.Kind=2
 have cu:=hm;rw [if_neg c1,if_neg c2,if_pos c3] at cu
 refine sR gEc Z ?_
 let B4:List Value:=[.slice ai p0.Starts.length an,.slice aj p0.Splits.length ao,.slice ak p0.Clocks.length ap,.slice am p0.Readings.length aq]
 refine ZC (cs:=B4) rfl rfl rfl rfl rfl rfl (by rfl) hS ?_
 intro fP bw dS
 let B5:List Value:=[jV p1.Kind,jV p1.Skier,jV p1.Index,.bool p1.Up]
 refine ZC (cs:=B5) rfl rfl rfl rfl rfl rfl (by rfl) dS ?_
 intro bW bz dT
 refine yB rfl rfl rfl rfl rfl rfl (eN (zL (ZF ZB [3,1,2,3,2,3,1,3,3,1,1,2,3,3] gEw (by kernel_rfl) ?_)))
 have bG:=dT.drew
 generalize hw_W117:({ bW with drawn:=bW.drawn + 1 }:World)=cI at bG ⊢
 refine oR Z (zJ Z Z zq Z yQ) (oL Z (bG.ldB (j:=0) Z Z Z yX (v:=jV p1.Kind) Z) (bnK cu fun gv cR eX=>zH 0 Z Z Z Z (zG Z Z yV (zB Z (zB Z (zB Z zO))) Z) bG (fun hs=>wBs p1.Kind 0 3 cI U hs cR) (.inr Z) ?_))
 rintro br fB f9 bX bi dV ⟨rfl,rfl⟩
 have aZ:sW w U br [.blk bz 101 B5,.blk bw 45 B4] bX:=dV
 refine oM Z Z (ifc eX ?_ ?_)
 intro ac eY
 refine ze Z Z Z (zQ Z Z (congrArg hJ ac.out)) (fun _=>zJ Z Z zq Z yQ) (ZE Z Z Z (zQ Z Z (congrArg hJ ac.out)) (aZ.ldB (j:=0) Z Z Z yX (v:=jV p1.Kind) Z) Z (ZE Z Z Z (zQ Z Z (congrArg hJ ac.out)) (aZ.ldBA (j:=1) Z Z Z zz zh (vs:=B4) Z Z) Z (ZE Z Z Z (zQ Z Z (congrArg hJ ac.out)) (aZ.ldBA (j:=0) Z Z Z Zw Zh (vs:=B5) Z Z) Z ?_)))
 have q:=bnd eY
 obtain ⟨⟨⟩,cS,cw⟩:=q
 try dsimp only at cw
 refine zH 0 Z Z Z (zQ Z Z (congrArg hJ ac.out)) (zG Z Z yY zO Z) aZ (fun hs=>wBH bX br hs cS) (.inr Z) ?_
 rintro bL fC ga bY bj dW ⟨rfl,rfl⟩
 have dX:sW w U bL [.blk bz 101 B5,.blk bw 45 B4] bY:=dW
 refine ze rfl rfl rfl (zQ rfl rfl (congrArg hJ ac.out)) (fun _=>(YB (i:=2) rfl rfl (congrArg (jV) c3) Zt ZZ (by decide) (by decide) (wCz yd ZZ rfl))) (ze rfl rfl rfl (zQ rfl rfl (congrArg hJ ac.out)) (fun _=>Runs.fld rfl rfl Zy rfl (wFL Tryz.isAgg179 (v:=.func (.func 122) #[] #[]) rfl)) ?_)
 have cU:=be.le bi
 have cV:=cU.le bj
 have cW:=bf.le bi
 have cX:=cW.le bj
 have cY:=bg.le bi
 have cZ:=cY.le bj
 have c6:=bh.le bi
 have c8:=c6.le bj
 refine bnK cw fun gw da eZ=>zH 0 Z Z Z (zQ Z Z (congrArg hJ ac.out)) (zG Z Z Tryz.call122 (zB Z (zB Z zO)) Z) dX (fun hs=>wHV p0 ai an aj ao ak ap am aq p1 bY bL hs cV cX cZ c8 da) (.inr Z) ?_
 rintro bM fD gb cK fW dY ⟨rfl,rfl⟩
 have dZ:sW w U bM [.blk bz 101 B5,.blk bw 45 B4] cK:=dY
 refine oR Z (zT Z (congrArg hJ ac.out) Z) (oA Z Z (eN (zR ?_)))
 have hE:=nB eZ;first | subst r | cases hE
 exact ⟨rfl,_,(ZH rfl),bM,_,(dZ.pick [] _ (by decide) rfl),rfl,rfl⟩
 intro ac fb
 refine ZA Z Z Z (zU Z Z (congrArg hJ (nA.2 ac.out)) Z) (ZA Z Z Z (zU Z Z (congrArg hJ (nA.2 ac.out)) Z) (ZA Z Z Z (zU Z Z (congrArg hJ (nA.2 ac.out)) Z) (ZA Z Z Z (zU Z Z (congrArg hJ (nA.2 ac.out)) Z) (ZI Z Z Z (zU Z Z (congrArg hJ (nA.2 ac.out)) Z) (ZA Z Z Z (zU Z Z (congrArg hJ (nA.2 ac.out)) Z) (ZA Z Z Z (zU Z Z (congrArg hJ (nA.2 ac.out)) Z) (ZI Z Z Z (zU Z Z (congrArg hJ (nA.2 ac.out)) Z) (oR Z (zc Z (congrArg hJ (nA.2 ac.out)) Z) (oA Z Z (eN (zR ?_)))))))))))
 have hE:=nB fb;first | subst r | cases hE
 exact ⟨rfl,_,(ZH rfl),br,_,(aZ.pick [] _ (by decide) rfl),rfl,rfl⟩
 by_cases c4:p1.Kind=3
 have cx:=hm;rw [if_neg c1,if_neg c2,if_neg c3,if_pos c4] at cx
 refine sR gEc Z ?_
 let B6:List Value:=[.slice ai p0.Starts.length an,.slice aj p0.Splits.length ao,.slice ak p0.Clocks.length ap,.slice am p0.Readings.length aq]
 refine ZC (cs:=B6) rfl rfl rfl rfl rfl rfl (by rfl) hS ?_
 intro fQ bA d5
 let B7:List Value:=[jV p1.Kind,jV p1.Skier,jV p1.Index,.bool p1.Up]
 refine ZC (cs:=B7) rfl rfl rfl rfl rfl rfl (by rfl) d5 ?_
 intro bZ bB d7
 refine yB rfl rfl rfl rfl rfl rfl (eN (zL (ZF ZB [3,1,2,3,2,3,1,3,3,1,1,2,3,3] gEw (by kernel_rfl) ?_)))
 have bI:=d7.drew
 generalize hw_W168:({ bZ with drawn:=bZ.drawn + 1 }:World)=cL at bI ⊢
 refine oR Z (zJ Z Z zq Z yQ) (oL Z (bI.ldB (j:=0) Z Z Z yX (v:=jV p1.Kind) Z) (bnK cx fun gy dd fc=>zH 0 Z Z Z Z (zG Z Z yV (zB Z (zB Z (zB Z zO))) Z) bI (fun hs=>wBs p1.Kind 0 3 cL U hs dd) (.inr Z) ?_))
 rintro bs fE ge ca bk d9 ⟨rfl,rfl⟩
 have a6:sW w U bs [.blk bB 101 B7,.blk bA 45 B6] ca:=d9
 refine oM Z Z (ifc fc ?_ ?_)
 intro ae ff
 refine ze Z Z Z (zQ Z Z (congrArg hJ ae.out)) (fun _=>zJ Z Z zq Z yQ) (ZE Z Z Z (zQ Z Z (congrArg hJ ae.out)) (a6.ldB (j:=0) Z Z Z yX (v:=jV p1.Kind) Z) Z (ZE Z Z Z (zQ Z Z (congrArg hJ ae.out)) (a6.ldBA (j:=1) Z Z Z zz zh (vs:=B6) Z Z) Z (ZE Z Z Z (zQ Z Z (congrArg hJ ae.out)) (a6.ldBA (j:=0) Z Z Z Zw Zh (vs:=B7) Z Z) Z ?_)))
 have q:=bnd ff
 obtain ⟨⟨⟩,de,cy⟩:=q
 try dsimp only at cy
 refine zH 0 Z Z Z (zQ Z Z (congrArg hJ ae.out)) (zG Z Z yY zO Z) a6 (fun hs=>wBH ca bs hs de) (.inr Z) ?_
 rintro bN fG gf cc bm ef ⟨rfl,rfl⟩
 have eh:sW w U bN [.blk bB 101 B7,.blk bA 45 B6] cc:=ef
 refine ze rfl rfl rfl (zQ rfl rfl (congrArg hJ ae.out)) (fun _=>(YB (i:=3) rfl rfl (congrArg (jV) c4) Zt ZZ (by decide) (by decide) (wCz yd ZZ rfl))) (ze rfl rfl rfl (zQ rfl rfl (congrArg hJ ae.out)) (fun _=>Runs.fld rfl rfl Zy rfl (wFL Tryz.isAgg179 (v:=.func (.func 125) #[] #[]) rfl)) ?_)
 have df:=be.le bk
 have dg:=df.le bm
 have dh:=bf.le bk
 have di:=dh.le bm
 have dm:=bg.le bk
 have dn:=dm.le bm
 have dp:=bh.le bk
 have dq:=dp.le bm
 refine bnK cy fun gz dr fg=>zH 0 Z Z Z (zQ Z Z (congrArg hJ ae.out)) (zG Z Z Tryz.call125 (zB Z (zB Z zO)) Z) eh (fun hs=>wGw p0 ai an aj ao ak ap am aq p1 cc bN hs dg di dn dq dr) (.inr Z) ?_
 rintro bP fI gg cM fY ep ⟨rfl,rfl⟩
 have eu:sW w U bP [.blk bB 101 B7,.blk bA 45 B6] cM:=ep
 refine oR Z (zT Z (congrArg hJ ae.out) Z) (oA Z Z (eN (zR ?_)))
 have hE:=nB fg;first | subst r | cases hE
 exact ⟨rfl,_,(ZH rfl),bP,_,(eu.pick [] _ (by decide) rfl),rfl,rfl⟩
 intro ae fh
 refine ZA Z Z Z (zU Z Z (congrArg hJ (nA.2 ae.out)) Z) (ZA Z Z Z (zU Z Z (congrArg hJ (nA.2 ae.out)) Z) (ZA Z Z Z (zU Z Z (congrArg hJ (nA.2 ae.out)) Z) (ZA Z Z Z (zU Z Z (congrArg hJ (nA.2 ae.out)) Z) (ZI Z Z Z (zU Z Z (congrArg hJ (nA.2 ae.out)) Z) (ZA Z Z Z (zU Z Z (congrArg hJ (nA.2 ae.out)) Z) (ZA Z Z Z (zU Z Z (congrArg hJ (nA.2 ae.out)) Z) (ZI Z Z Z (zU Z Z (congrArg hJ (nA.2 ae.out)) Z) (oR Z (zc Z (congrArg hJ (nA.2 ae.out)) Z) (oA Z Z (eN (zR ?_)))))))))))
 have hE:=nB fh;first | subst r | cases hE
 exact ⟨rfl,_,(ZH rfl),bs,_,(a6.pick [] _ (by decide) rfl),rfl,rfl⟩
 have cz:=hm;rw [if_neg c1,if_neg c2,if_neg c3,if_neg c4] at cz
 refine sR gEc Z ?_
 let B8:List Value:=[.slice ai p0.Starts.length an,.slice aj p0.Splits.length ao,.slice ak p0.Clocks.length ap,.slice am p0.Readings.length aq]
 refine ZC (cs:=B8) rfl rfl rfl rfl rfl rfl (by rfl) hS ?_
 intro fR cq ew
 let B9:List Value:=[jV p1.Kind,jV p1.Skier,jV p1.Index,.bool p1.Up]
 refine ZC (cs:=B9) rfl rfl rfl rfl rfl rfl (by rfl) ew ?_
 intro cd cr eA
 refine yB rfl rfl rfl rfl rfl rfl (eN (zL (ZF ZB [3,1,2,3,2,3,1,3,3,1,1,2,3,3] gEw (by kernel_rfl) ?_)))
 have bJ:=eA.drew
 generalize hw_W219:({ cd with drawn:=cd.drawn + 1 }:World)=cN at bJ ⊢
 refine oR Z (zJ Z Z zq Z yQ) (oL Z (bJ.ldB (j:=0) Z Z Z yX (v:=jV p1.Kind) Z) (bnK cz fun gA dt fj=>zH 0 Z Z Z Z (zG Z Z yV (zB Z (zB Z (zB Z zO))) Z) bJ (fun hs=>wBs p1.Kind 0 3 cN U hs dt) (.inr Z) ?_))
 rintro bu fJ gi ci fZ eB ⟨rfl,rfl⟩
 have a7:sW w U bu [.blk cr 101 B9,.blk cq 45 B8] ci:=eB
 refine oM Z Z (ifc fj ?_ ?_)
 intro ah fk
 refine ze Z Z Z (zQ Z Z (congrArg hJ ah.out)) (fun _=>zJ Z Z zq Z yQ) (ZE Z Z Z (zQ Z Z (congrArg hJ ah.out)) (a7.ldB (j:=0) Z Z Z yX (v:=jV p1.Kind) Z) Z (ZE Z Z Z (zQ Z Z (congrArg hJ ah.out)) (a7.ldBA (j:=1) Z Z Z zz zh (vs:=B8) Z Z) Z (ZE Z Z Z (zQ Z Z (congrArg hJ ah.out)) (a7.ldBA (j:=0) Z Z Z Zw Zh (vs:=B9) Z Z) Z ?_)))
 have q:=bnd fk
 obtain ⟨⟨⟩,du,cA⟩:=q
 try dsimp only at cA
 refine zH 0 Z Z Z (zQ Z Z (congrArg hJ ah.out)) (zG Z Z yY zO Z) a7 (fun hs=>wBH ci bu hs du) (.inr Z) ?_
 rintro cG fK gj cO f5 eD ⟨rfl,rfl⟩
 have fU:sW w U cG [.blk cr 101 B9,.blk cq 45 B8] cO:=eD
 cases cA
 intro ah fm
 refine ZA Z Z Z (zU Z Z (congrArg hJ (nA.2 ah.out)) Z) (ZA Z Z Z (zU Z Z (congrArg hJ (nA.2 ah.out)) Z) (ZA Z Z Z (zU Z Z (congrArg hJ (nA.2 ah.out)) Z) (ZA Z Z Z (zU Z Z (congrArg hJ (nA.2 ah.out)) Z) (ZI Z Z Z (zU Z Z (congrArg hJ (nA.2 ah.out)) Z) (ZA Z Z Z (zU Z Z (congrArg hJ (nA.2 ah.out)) Z) (ZA Z Z Z (zU Z Z (congrArg hJ (nA.2 ah.out)) Z) (ZI Z Z Z (zU Z Z (congrArg hJ (nA.2 ah.out)) Z) (oR Z (zc Z (congrArg hJ (nA.2 ah.out)) Z) (oA Z Z (eN (zR ?_)))))))))))
 have hE:=nB fm;first | subst r | cases hE
 exact ⟨rfl,_,(ZH rfl),bu,_,(a7.pick [] _ (by decide) rfl),rfl,rfl⟩
theorem wFB (p0:List wAG) (an:Option Addr) (ao:Nat) (p1:(wAG->Option Bool)) (ap:Value) (w:World) (U:PHeap) (hS:St0 w U []) (bp:Sl U 4 an ao p0.length (hD wBp p0)) (bq:FnOK Tryz.prog U ap wLl wNo p1) {r:Bool} (hm:wCg p0 p1=some r):Gv Tryz.prog 103 [.slice an p0.length ao,ap] w (wBa w [] U (fun U_ L_ v=>v=.bool r/\L_=[])):=by
 unfold wCg at hm
 refine Gv.of Tryz.func103 Z Tryz.ntmps103 Tryz.results103 Z (sR fL1 Z (oA Z Z (eN (zL (sR fL3 Z (oM Z Z (oR Z (zr Z Z yS) (oM Z Z (eN (zb ?_))))))))))
 have q:=wBQ hm
 obtain ⟨r3,ai⟩:=q
 have q:=wBP ai
 obtain ⟨ak,bt⟩:=q
 replace ak:=zM ak
 refine yG (fun k2 _ σ_ w_=>∃ (U_:PHeap),σ_ 9=jV (↑k2:Int)/\σ_ 1=ap/\σ_ 7=.slice an p0.length ao/\σ_ 8=jV (↑p0.length:Int)/\PHeap.Le U U_/\sW w U U_ [] w_) bt ?_ ?_ ?_
 exact ⟨U,Z,Z,Z,Z,(zN _),hS⟩
 rintro k2 ⟨⟩ bQ bS W8 aj ⟨a6,ah,av,ax,ay,am,aU⟩ aY br
 try dsimp only at aY
 have au:Hid ((↑k2:Int) < (↑p0.length:Int)):=zM (wAr aj)
 replace aj:=zM aj
 have bu:Hid (w64 ((↑k2:Int) + 1)=(↑(k2 + 1):Int)):=zM (by have h1:=ak.out;have h2:=au.out;rw [wAW] <;> omega)
 refine sR fL1 Z (oR Z (zY Z ah ay) (eN (zL (cT Z au (kN (zL (zb (sR gEm Z (bnK aY fun ab az bv=>?_)))))))))
 have bf:=bp.le am
 have q:=bf.el (fun _=>rfl) (wAX az)
 obtain ⟨bH,bL,bi,bj⟩:=q
 refine oR Z (ZR Z ax bi ah yS Zh (wBA az)) (oL Z (aU.ldCA (f:=0) bj Z Z Zw Zh (us:=[jV ab.Kind,jV ab.Skier,jV ab.Index,.bool ab.Up]) Z Z) (zW (cs:=[jV 0,jV 0,jV 0,.bool false]) Z Z Z Z Z Zx Z aU ?_))
 intro bE aq bk
 let B0:List Value:=[jV ab.Kind,jV ab.Skier,jV ab.Index,.bool ab.Up]
 refine zX (j:=0) (vs:=B0) Z Z Z Z bk Z Z Z Z Zh (zA Z) Z Z Z ?_
 intro a8 bm
 have aV:sW w U a6 [.blk aq 101 B0] a8:=bm
 refine eN (sR gEl Z (oM Z av (oL Z (aV.ldBA (j:=0) Z Z Z Zw Zh (vs:=B0) Z Z) (bnK bv fun bP bg bw=>?_))))
 have bh:=bq.le am
 refine YF (a:=ab) Z Z Z Z Z Z (zB Z zO) aV bh Z bg ?_
 rintro af bD bN ba bB bn ⟨rfl,rfl⟩
 have aW:sW w U af [.blk aq 101 B0] ba:=bn
 refine oR Z (ZW Z Z) (eN (ifc bw ?_ ?_))
 intro ag bx
 refine zy (nC ag.out) (Zi (zx (zI (rR fL2 Z (oR Z (ZG (za Z ah Z) (congrArg (jV) bu.out)) (oM Z Z (zg ?_)))))))
 have q:=nB bx
 obtain rfl:=q
 exact zI ⟨rfl,_,rfl,⟨af,rfl,av,ax,ay,(am.trans bB),(aW.pick [] _ (by decide) rfl)⟩⟩
 intro ag bz
 refine ZJ (nF (ag.out)) (sR fL1 Z (oA Z Z (eN (zR (zd (zS ?_))))))
 have q:=wAZ bz
 obtain ⟨bC,bA,bc⟩:=q
 have q:=wBB hm ai (br bC bc)
 obtain rfl:=q
 refine zS (zd (zS ?_))
 have hE:=nB bA;first | subst r | cases hE
 exact ⟨rfl,_,(ZH rfl),af,_,(aW.pick [] _ (by decide) rfl),rfl,rfl⟩
 rintro ⟨⟩ bR bF ⟨a7,be,bI,bJ,bd,bK,bo⟩ bs
 have aX:=wCE hm ai bs
 try dsimp only at aX
 have bb:Hid (¬ ((↑(((↑p0.length:Int):Int) - 0).toNat:Int) < (↑p0.length:Int))):=zM (wAf)
 refine sR fL1 Z (oR Z (zY Z be bd) (eN (zL (cF Z bb (Zd (zn (zn (ZV (zI (sR fL1 Z (oA Z Z (eN (zR ?_)))))))))))))
 have hE:=nB aX;first | subst r | cases hE
 exact ⟨Z,_,(ZH Z),a7,_,bo,Z,Z⟩
theorem wEK (p0:wAE) (af:Option Addr) (aj:Nat) (ag:Option Addr) (ak:Nat) (ah:Option Addr) (am:Nat) (ai:Option Addr) (an:Nat) (p1:List wAG) (au:Option Addr) (av:Nat) (w:World) (U:PHeap) (hS:St0 w U []) (a7:Sl U 1 af aj p0.Starts.length (hD KL.encI p0.Starts)) (a8:Sl U 2 ag ak p0.Splits.length (hD wAF p0.Splits)) (ba:Sl U 3 ah am p0.Clocks.length (hD wAA p0.Clocks)) (bb:Sl U 4 ai an p0.Readings.length (hD wAB p0.Readings)) (bc:Sl U 4 au av p1.length (hD wBp p1)) {r:Int} (hm:wCh p0 p1=some r):Gv Tryz.prog 60 [.agg #[.slice af p0.Starts.length aj,.slice ag p0.Splits.length ak,.slice ah p0.Clocks.length am,.slice ai p0.Readings.length an],.slice au p1.length av] w (wBa w [] U (fun U_ L_ v=>v=jV r/\L_=[])):=by
 unfold wCh at hm
 refine Gv.of Tryz.func60 Z Tryz.ntmps60 Tryz.results60 Z (sR gDx Z ?_)
 let B0:List Value:=[.slice af p0.Starts.length aj,.slice ag p0.Splits.length ak,.slice ah p0.Clocks.length am,.slice ai p0.Readings.length an]
 refine ZC (cs:=B0) rfl rfl rfl rfl rfl rfl (by rfl) hS ?_
 intro W1 b2 aq
 refine oA Z Z (eN (sR fL3 Z (oL Z (aq.ldBA (j:=0) Z Z Z zz zh (vs:=B0) Z Z) (oR Z (YD Z (zB Z zO) zO) (oA Z Z (eN (zL (zb (sR fL4 Z (oM Z Z (oR Z (zr Z Z yS) (oR Z (yt Z Z Z) (oA Z Z (eN ?_))))))))))))))
 by_cases c5:80 < (↑p1.length:Int)
 have ay:=hm;rw [if_pos c5] at ay;replace c5:=zM c5
 refine cT Z c5 (sR fL1 Z (oA Z Z (eN (zR (zd (zS ?_))))))
 cases ay
 exact ⟨rfl,_,(ZH rfl),U,_,(aq.pick [] _ (by decide) rfl),rfl,rfl⟩
 have az:=hm;rw [if_neg c5] at az;replace c5:=zM c5
 refine cF Z c5 (sR gEr Z (oM Z Z (oM Z Z ?_)))
 have aZ:FnOK Tryz.prog U (.func (.func 102) #[.agg B0.toArray] #[]) wLl wNo (fun x=>wCQ p0 x):=⟨102,[.agg B0.toArray],[],rfl,Tryz.call102,fun U1 w1 x y vs le hs ha hm=>by obtain rfl:=ha;exact wGG p0 af aj ag ak ah am ai an x w1 U1 hs (a7.le le) (a8.le le) (ba.le le) (bb.le le) hm⟩
 refine bnK az fun x9 aY bd=>zH 0 Z Z Z Z (zG Z Z Tryz.call103 (zB Z (zB Z zO)) Z) aq (fun hs=>wFB p1 au av (fun x=>wCQ p0 x) (.func (.func 102) #[.agg B0.toArray] #[]) W1 U hs bc aZ aY) (.inr Z) ?_
 rintro ao bh bj aW bi a6 ⟨rfl,rfl⟩
 have ax:sW w U ao [.blk b2 45 B0] aW:=a6
 refine oR Z (ZW Z Z) (oA Z Z (eN (ifc bd ?_ ?_)))
 intro ap be
 refine zy (nC ap.out) (Zi (zx (zI (sR fL1 Z (oA Z Z (eN (zR ?_)))))))
 cases be
 exact ⟨rfl,_,(ZH rfl),ao,_,(ax.pick [] _ (by decide) rfl),rfl,rfl⟩
 intro ap bf
 refine ZJ (nF (ap.out)) (sR fL1 Z (oA Z Z (eN (zR (zd (zS ?_))))))
 cases bf
 exact ⟨rfl,_,(ZH rfl),ao,_,(ax.pick [] _ (by decide) rfl),rfl,rfl⟩
end Go.Proofs.YtkghaiefcjgfkaaGreat
namespace Go.Proofs.YtkghaiefcjgfkaaGreat
open Go.KL
set_option maxHeartbeats 4000000
theorem wCu (p0:wAE) (aX:Option Addr) (a7:Nat) (aY:Option Addr) (a8:Nat) (aZ:Option Addr) (ba:Nat) (a6:Option Addr) (bb:Nat) (p1:wAH) (p2:List wAG) (bn:Option Addr) (bo:Nat) (w:World) (U:PHeap) (hS:St0 w U []) (cE:Sl U 1 aX a7 p0.Starts.length (hD KL.encI p0.Starts)) (cG:Sl U 2 aY a8 p0.Splits.length (hD wAF p0.Splits)) (cH:Sl U 3 aZ ba p0.Clocks.length (hD wAA p0.Clocks)) (cI:Sl U 4 a6 bb p0.Readings.length (hD wAB p0.Readings)) (cJ:Sl U 4 bn bo p2.length (hD wBp p2)) {r:wAH × Int × Bool} (hm:wCt p0 p1 p2=some r):Gv Tryz.prog 61 [.agg #[.slice aX p0.Starts.length a7,.slice aY p0.Splits.length a8,.slice aZ p0.Clocks.length ba,.slice a6 p0.Readings.length bb],.agg #[jV p1.skier,jV p1.mat],.slice bn p2.length bo] w (wBa w [] U (fun U_ L_ v=>v=.tuple #[.agg #[jV r.1.skier,jV r.1.mat],jV r.2.1,.bool r.2.2]/\L_=[])):=by
 unfold wCt at hm
 refine Gv.of Tryz.func61 Z Tryz.ntmps61 Tryz.results61 Z (sR gEs Z ?_)
 let B0:List Value:=[.slice aX p0.Starts.length a7,.slice aY p0.Splits.length a8,.slice aZ p0.Clocks.length ba,.slice a6 p0.Readings.length bb]
 refine ZC (cs:=B0) rfl rfl rfl rfl rfl rfl (by rfl) hS ?_
 intro W1 b2 co
 refine ZC (cs:=[jV p1.skier,jV p1.mat]) rfl rfl rfl rfl rfl rfl (by rfl) co ?_
 intro W5 b6 cr
 let B1:List Value:=[jV 0,jV 0]
 refine zW (cs:=B1) Z Z Z Z Z zf Z cr ?_
 intro W9 af cj
 refine oA Z Z (oA Z Z (eN (sR fL1 Z (oA Z Z (eN (zL (sR fL3 Z (oM Z Z (oR Z (zr Z Z yS) (oM Z Z (eN (zb ?_))))))))))))
 have q:=wBQ hm
 obtain ⟨dq,bj⟩:=q
 have q:=wBP bj
 obtain ⟨bm,cM⟩:=q
 replace bm:=zM bm
 refine yG (fun ax (bc,bd,bG) σ_ w_=>∃ (U_:PHeap),σ_ 17=jV (↑ax:Int)/\σ_ 3=.pointer (some ⟨b2,0,none⟩)/\σ_ 4=.pointer (some ⟨b6,0,none⟩)/\σ_ 6=.pointer (some ⟨af,0,none⟩)/\σ_ 9=jV bG/\σ_ 15=.slice bn p2.length bo/\σ_ 16=jV (↑p2.length:Int)/\PHeap.Le U U_/\sW w U U_ [.blk af 115 B1,.blk b6 115 [jV bc,jV bd],.blk b2 45 B0] w_) cM ?_ ?_ ?_
 exact ⟨U,Z,Z,Z,Z,Z,Z,Z,(zN _),cj⟩
 rintro ax ⟨bc,bd,bG⟩ dt dv da bk ⟨bq,bh,bu,aW,bg,bU,bv,bw,av,bC⟩ bF cL
 try dsimp only at bF
 have bs:Hid ((↑ax:Int) < (↑p2.length:Int)):=zM (wAr bk)
 replace bk:=zM bk
 have cN:Hid (w64 ((↑ax:Int) + 1)=(↑(ax + 1):Int)):=zM (by have h1:=bm.out;have h2:=bs.out;rw [wAW] <;> omega)
 refine sR fL1 Z (oR Z (zY Z bh bw) (eN (zL (cT Z bs (kN (zL (zb (sR gEm Z (bnK bF fun aj bx cQ=>?_)))))))))
 have bW:=cJ.le av
 have q:=bW.el (fun _=>rfl) (wAX bx)
 obtain ⟨dh,dp,cd,cg⟩:=q
 refine oR Z (ZR Z bv cd bh yS Zh (wBA bx)) (oL Z (bC.ldCA (f:=0) cg Z Z Zw Zh (us:=[jV aj.Kind,jV aj.Skier,jV aj.Index,.bool aj.Up]) Z Z) (zW (cs:=[jV 0,jV 0,jV 0,.bool false]) Z Z Z Z Z Zx Z bC ?_))
 intro dd aq cp
 let B2:List Value:=[jV aj.Kind,jV aj.Skier,jV aj.Index,.bool aj.Up]
 refine zX (j:=0) (vs:=B2) Z Z Z Z cp Z Z Z Z Zh (zA Z) Z Z Z ?_
 intro br cq
 let B3:List Value:=[jV bc,jV bd]
 have bi:sW w U bq [.blk aq 101 B2,.blk af 115 B1,.blk b6 115 B3,.blk b2 45 B0] br:=cq
 refine eN (sR (.fl 0 (.fl 1 (.fx 2 (wKZ (.fx 7 (.fx 8 (.fx 9 (.fx 10 (.fl 11 .nil) .stop) .stop) .stop) .stop)) .stop))) Z (oL Z (bi.ldBA (j:=3) Z Z bu zz zh (vs:=B0) Z Z) (oL Z (bi.ldBA (j:=0) Z Z Z Zw Zh (vs:=B2) Z Z) ?_)))
 have bX:=cE.le av
 have bY:=cG.le av
 have bZ:=cH.le av
 have ca:=cI.le av
 have q:=bnd cQ
 obtain ⟨⟨az,be,cV⟩,cc,bE⟩:=q
 try dsimp only at bE
 refine zH 0 Z Z Z Z (zG Z Z Tryz.call65 (zB Z (zB Z zO)) Z) bi (fun hs=>wBn p0 aX a7 aY a8 aZ ba a6 bb aj br bq hs bX bY bZ ca cc) (.inr Z) ?_
 rintro an cZ dr bJ cS cu ⟨rfl,rfl⟩
 have cw:sW w U an [.blk aq 101 B2,.blk af 115 B1,.blk b6 115 B3,.blk b2 45 B0] bJ:=cu
 refine oM Z Z (oR Z (zV Z Z (v:=.agg #[jV az.skier,jV az.mat]) Z) (oR Z (zV Z Z (v:=.agg #[jV be.skier,jV be.mat]) Z) (oR Z (zV Z Z (v:=jV cV) Z) (zW (cs:=B1) Z Z Z Z Z zf Z cw ?_))))
 intro de aU cx
 refine zW (cs:=B1) Z Z Z Z Z zf Z cx ?_
 intro df aV cy
 let B4:List Value:=[jV az.skier,jV az.mat]
 refine zX (j:=1) (vs:=B4) Z Z Z Z cy Z Z Z Z zK (zA Z) Z Z Z ?_
 intro bK cz
 have cA:sW w U an [.blk aV 115 B1,.blk aU 115 B4,.blk aq 101 B2,.blk af 115 B1,.blk b6 115 B3,.blk b2 45 B0] bK:=cz
 let B5:List Value:=[jV be.skier,jV be.mat]
 refine zX (j:=0) (vs:=B5) Z Z Z Z cA Z Z Z Z zK (zA Z) Z Z Z ?_
 intro bL cB
 have au:sW w U an [.blk aV 115 B5,.blk aU 115 B4,.blk aq 101 B2,.blk af 115 B1,.blk b6 115 B3,.blk b2 45 B0] bL:=cB
 refine oA Z Z (eN (zL (sR fL3 Z (oL Z (au.ldBA (j:=1) Z Z Z zk zK (vs:=B4) Z Z) (oL Z (au.ldBA (j:=4) Z Z aW zk zK (vs:=B3) Z Z) (oR Z (ZG (Runs.neS (enc:=wBr) (a:=az) (b:=(⟨bc,bd⟩:wAH)) Z Z Z wLC wLB) (congrArg hJ (decide_not).symm)) (eN (ifc bE ?_ ?_))))))))
 intro bf cR
 refine zy (ZM (fun h=>h bf.out)) (kN (rR (wET (.fx 4 (.fl 5 .nil) .stop)) Z (oL Z (au.ldBA (j:=0) Z Z Z zk zK (vs:=B5) Z Z) (oM Z bU (oM Z Z (oR Z (za Z Z Z) (zX (j:=4) (vs:=B5) Z Z Z Z au Z aW Z Z zK (zA Z) Z Z Z ?_)))))))
 intro bM cC
 have cD:sW w U an [.blk aV 115 B5,.blk aU 115 B4,.blk aq 101 B2,.blk af 115 B1,.blk b6 115 B5,.blk b2 45 B0] bM:=cC
 refine oA Z Z (zg (zx (zI (rR fL2 Z (oR Z (ZG (za Z bh Z) (congrArg (jV) cN.out)) (oM Z Z (zg ?_)))))))
 have q:=nB cR
 obtain rfl:=q
 exact zI ⟨rfl,_,rfl,⟨an,rfl,bu,aW,bg,rfl,bv,bw,(av.trans cS),(cD.pick [3,4,5] _ (by decide) rfl)⟩⟩
 intro bf cO
 refine cT Z bf (sR gEn Z (oL Z (au.ldBA (j:=4) Z Z aW zk zK (vs:=B3) Z Z) (zX (j:=3) (vs:=B3) Z Z Z Z au Z bg Z Z zK (zA Z) Z Z Z ?_)))
 intro bH ci
 have bz:sW w U an [.blk aV 115 B5,.blk aU 115 B4,.blk aq 101 B2,.blk af 115 B3,.blk b6 115 B3,.blk b2 45 B0] bH:=ci
 refine oA Z Z (oA Z Z (eN (zR (zS (zd (zS ?_))))))
 have q:=wAZ cO
 obtain ⟨cU,cP,bP⟩:=q
 have q:=wBB hm bj (cL cU bP)
 obtain rfl:=q
 refine zS (zd (zS ?_))
 cases cP
 exact ⟨rfl,_,(wEH (rs:=[.cell 6 115,.tmp 7,.tmp 8]) (vs:=[.agg B3.toArray,jV 0,.bool false]) ⟨⟨_,bg,(wBN zk zK (bz.blkAt (k:=3) rfl) (vs:=B3) rfl rfl)⟩,⟨rfl,⟨rfl,trivial⟩⟩⟩ rfl),an,_,(bz.pick [] _ (by decide) rfl),rfl,rfl⟩
 rintro ⟨cW,cX,cY⟩ du c8 ⟨bp,bV,di,bQ,bt,bR,dm,bS,dn,bA⟩ cK
 have bD:=wCE hm bj cK
 try dsimp only at bD
 have bN:Hid (¬ ((↑(((↑p2.length:Int):Int) - 0).toNat:Int) < (↑p2.length:Int))):=zM (wAf)
 refine sR fL1 Z (oR Z (zY Z bV bS) (eN (zL (cF Z bN (Zd (zn (zn (ZV (zI (sR gEr Z ?_))))))))))
 let B6:List Value:=[jV cW,jV cX]
 refine oL Z (bA.ldBA (j:=1) Z Z bQ zk zK (vs:=B6) Z Z) (oM Z bR (zX (j:=0) (vs:=B6) Z Z Z Z bA Z bt Z Z zK (zA Z) Z Z Z ?_))
 intro bI cm
 have bB:sW w U bp [.blk af 115 B6,.blk b6 115 B6,.blk b2 45 B0] bI:=cm
 refine oA Z Z (oA Z Z (eN (zR ?_)))
 cases bD
 exact ⟨rfl,_,(wEH (rs:=[.cell 6 115,.tmp 7,.tmp 8]) (vs:=[.agg B6.toArray,jV cY,.bool true]) ⟨⟨_,bt,(wBN zk zK (bB.blkAt (k:=0) rfl) (vs:=B6) rfl rfl)⟩,⟨rfl,⟨rfl,trivial⟩⟩⟩ rfl),bp,_,(bB.pick [] _ (by decide) rfl),rfl,rfl⟩
theorem wIA (p0:wAE) (ao:Option Addr) (av:Nat) (ap:Option Addr) (ax:Nat) (aq:Option Addr) (ay:Nat) (au:Option Addr) (az:Nat) (p1:wAP) (p2:wAP) (p3:List wAG) (aY:Option Addr) (aZ:Nat) (w:World) (U:PHeap) (hS:St0 w U []) (cu:Sl U 1 ao av p0.Starts.length (hD KL.encI p0.Starts)) (cw:Sl U 2 ap ax p0.Splits.length (hD wAF p0.Splits)) (cx:Sl U 3 aq ay p0.Clocks.length (hD wAA p0.Clocks)) (cy:Sl U 4 au az p0.Readings.length (hD wAB p0.Readings)) (eD:Sl U 4 aY aZ p3.length (hD wBp p3)) {r:Int × Int} (hm:wEx p0 p1 p2 p3=some r):Gv Tryz.prog 36 [.agg #[.slice ao p0.Starts.length av,.slice ap p0.Splits.length ax,.slice aq p0.Clocks.length ay,.slice au p0.Readings.length az],.agg #[jV p1.Skier,jV p1.Mat],.agg #[jV p2.Skier,jV p2.Mat],.slice aY p3.length aZ] w (wBa w [] U (fun U_ L_ v=>v=.tuple #[jV r.1,jV r.2]/\L_=[])):=by
 unfold wEx at hm
 refine Gv.of Tryz.func36 Z Tryz.ntmps36 Tryz.results36 Z (sR gEs Z ?_)
 let B0:List Value:=[.slice ao p0.Starts.length av,.slice ap p0.Splits.length ax,.slice aq p0.Clocks.length ay,.slice au p0.Readings.length az]
 refine ZC (cs:=B0) rfl rfl rfl rfl rfl rfl (by rfl) hS ?_
 intro W1 b2 ep
 let B1:List Value:=[jV p1.Skier,jV p1.Mat]
 refine ZC (cs:=B1) rfl rfl rfl rfl rfl rfl (by rfl) ep ?_
 intro W5 b6 eA
 let B2:List Value:=[jV p2.Skier,jV p2.Mat]
 refine ZC (cs:=B2) rfl rfl rfl rfl rfl rfl (by rfl) eA ?_
 intro W9 af co
 refine oA Z Z (oA Z Z (eN (sR gEe Z (oL Z (co.ldBA (j:=2) Z Z Z zz zh (vs:=B0) Z Z) (bnK hm fun fU cZ eG=>zH 0 Z Z Z Z (zG Z Z Tryz.call58 (zB Z zO) Z) co (fun hs=>wEY p0 ao av ap ax aq ay au az W9 U hs cu cw cx cy cZ) (.inr Z) ?_)))))
 rintro bs fu fM bR ba dW ⟨rfl,rfl⟩
 have bk:sW w U bs [.blk af 62 B2,.blk b6 62 B1,.blk b2 45 B0] bR:=dW
 refine oA Z Z (eN (zL (zb (sR fL3 Z (oM Z Z (oR Z (Zk Z Z Z) (oA Z Z (eN (ifc eG ?_ ?_)))))))))
 intro bB eH
 refine zy (ZM (fun h=>h bB.out)) (sR (.fl 0 (.fl 1 (.fx 2 (wKZ (.fx 7 (wHF (.nil)) .stop)) .stop))) Z (oL Z (bk.ldBA (j:=2) Z Z Z zz zh (vs:=B0) Z Z) (oL Z (bk.ldBA (j:=1) Z Z Z Zq ZX (vs:=B1) Z Z) ?_)))
 have bY:=cu.le ba
 have bZ:=cw.le ba
 have ca:=cx.le ba
 have cc:=cy.le ba
 refine bnK eH fun fV dF eX=>zH 0 Z Z Z Z (zG Z Z Tryz.call59 (zB Z (zB Z zO)) Z) bk (fun hs=>wCj p0 ao av ap ax aq ay au az p1 bR bs hs bY bZ ca cc dF) (.inr Z) ?_
 rintro bw fB fR bV bb eu ⟨rfl,rfl⟩
 have bm:sW w U bw [.blk af 62 B2,.blk b6 62 B1,.blk b2 45 B0] bV:=eu
 refine oR Z (ZW Z Z) (oM Z Z (ifc eX ?_ ?_))
 intro an eY
 refine ZE Z Z Z (zQ Z Z (nC an.out)) (bm.ldBA (j:=2) Z Z Z zz zh (vs:=B0) Z Z) Z (ZE Z Z Z (zQ Z Z (nC an.out)) (bm.ldBA (j:=0) Z Z Z Zq ZX (vs:=B2) Z Z) Z ?_)
 have cd:=bY.le bb
 have cg:=bZ.le bb
 have ci:=ca.le bb
 have cj:=cc.le bb
 refine bnK eY fun fW dG eZ=>zH 0 Z Z Z (zQ Z Z (nC an.out)) (zG Z Z Tryz.call59 (zB Z (zB Z zO)) Z) bm (fun hs=>wCj p0 ao av ap ax aq ay au az p2 bV bw hs cd cg ci cj dG) (.inr Z) ?_
 rintro bx fC fS bW bc ew ⟨rfl,rfl⟩
 have bG:sW w U bx [.blk af 62 B2,.blk b6 62 B1,.blk b2 45 B0] bW:=ew
 refine ze Z Z Z (zQ Z Z (nC an.out)) (fun _=>ZW Z Z) (oR Z (zc Z (nC an.out) Z) (oA Z Z (eN (ifc eZ ?_ ?_))))
 intro bD fb
 refine zy (nC bD.out) (Zi (zx (zI (zL (sR gEl Z (oL Z (bG.ldBA (j:=2) Z Z Z zz zh (vs:=B0) Z Z) (oM Z Z ?_)))))))
 have bf:=cd.le bc
 have bg:=cg.le bc
 have bh:=ci.le bc
 have bi:=cj.le bc
 have dH:=eD.le ba
 have dI:=dH.le bb
 have bj:=dI.le bc
 refine bnK fb fun fY dJ fc=>zH 0 Z Z Z Z (zG Z Z Tryz.call60 (zB Z (zB Z zO)) Z) bG (fun hs=>wEK p0 ao av ap ax aq ay au az p3 aY aZ bW bx hs bf bg bh bi bj dJ) (.inr Z) ?_
 rintro a6 fD fT bz ag eB ⟨rfl,rfl⟩
 have cr:sW w U a6 [.blk af 62 B2,.blk b6 62 B1,.blk b2 45 B0] bz:=eB
 refine oA Z Z (eN (sR fL2 Z (oM Z Z (oR Z (Zk Z Z Z) (eN (ifc fc ?_ ?_))))))
 intro bE fd
 refine zy (ZM (fun h=>h bE.out)) (kN ?_)
 have q:=bnd fd
 obtain ⟨⟨cA,cB,fm,cP⟩,ff,cz⟩:=q
 try dsimp only at cz
 let B3:List Value:=[jV cA,jV cB]
 refine yW (fun σ_ w_=>∃ (U_:PHeap) (be:Nat),σ_ 6=.pointer (some ⟨af,0,none⟩)/\σ_ 12=.pointer (some ⟨be,0,none⟩)/\σ_ 13=jV fm/\σ_ 14=.bool cP/\PHeap.Le a6 U_/\sW w U U_ [.blk af 62 B2,.blk b6 62 B1,.blk b2 45 B0,.blk be 115 B3] w_) ?_ ?_
 refine bnK ff fun bJ cm eF=>?_
 have q:=bnd eF
 obtain ⟨⟨ak,bH,bI⟩,bF,bn⟩:=q
 try dsimp only at bn
 refine ZF ZB [1,1,2,3,2,3,3,3,3,2,0,3,3] (.fl 0 (.fl 1 (.fl 3 (.fx 2 (.fx 4 (wHE (.fx 9 gEf .stop)) (.fx 9 (.fx 4 (wHE gEf) (.stop)) (.stop))) (.fx 9 (.fx 2 (.fx 4 (wHE gEf) (.stop)) (.stop)) (.stop)))))) (by kernel_rfl) ?_
 have a7:=cr.drew
 generalize hw_W127:({ bz with drawn:=bz.drawn + 1 }:World)=cC at a7 ⊢
 refine oL Z (a7.ldBA (j:=2) Z Z Z zz zh (vs:=B0) Z Z) (oL Z (a7.ldBA (j:=1) Z Z Z Zq ZX (vs:=B1) Z Z) (oM Z Z (zw ?_ ?_)))
 refine zH 0 Z Z Z Z (zG Z Z yk (zB Z zO) Z) a7 (fun hs=>wCb p1 cC a6 hs cm) (.inr Z) ?_
 rintro bq fq fK bQ aj dK ⟨rfl,rfl⟩
 have cp:sW w U bq [.blk af 62 B2,.blk b6 62 B1,.blk b2 45 B0] bQ:=dK
 refine zw ?_ ?_
 have cV:=bf.le ag
 have cW:=cV.le aj
 have cX:=bg.le ag
 have cY:=cX.le aj
 have c6:=bh.le ag
 have c8:=c6.le aj
 have da:=bi.le ag
 have db:=da.le aj
 have dd:=bj.le ag
 have de:=dd.le aj
 refine zH 0 Z Z Z Z (zG Z Z Tryz.call61 (zB Z (zB Z (zB Z zO))) Z) cp (fun hs=>wCu p0 ao av ap ax aq ay au az bJ p3 aY aZ bQ bq hs cW cY c8 db de bF) (.inr Z) ?_
 rintro br ft fL cD fg dL ⟨rfl,rfl⟩
 have dM:sW w U br [.blk af 62 B2,.blk b6 62 B1,.blk b2 45 B0] cD:=dL
 refine oM Z Z (oR Z (zV Z Z (v:=.agg #[jV ak.skier,jV ak.mat]) Z) (oR Z (zV Z Z (v:=jV bH) Z) (oR Z (zV Z Z (v:=.bool bI) Z) (zW (cs:=[jV 0,jV 0]) Z Z Z Z Z zf Z dM ?_))))
 intro fG bX dN
 let B4:List Value:=[jV ak.skier,jV ak.mat]
 refine zX (j:=0) (vs:=B4) Z Z Z Z dN Z Z Z Z zK (zA Z) Z Z Z ?_
 intro cE dO
 have dP:sW w U br [.blk bX 115 B4,.blk af 62 B2,.blk b6 62 B1,.blk b2 45 B0] cE:=dO
 refine oA Z Z (oA Z Z (zg ?_))
 cases bn
 exact zI ⟨rfl,⟨br,bX,rfl,rfl,rfl,rfl,(aj.trans fg),(dP.pick [1,2,3,0] _ (by decide) rfl)⟩⟩
 refine zW (cs:=[jV 0,jV 0]) Z Z Z Z Z zf Z cp ?_
 intro cG bA dQ
 have df:=bf.le ag
 have dg:=df.le aj
 have dh:=bg.le ag
 have di:=dh.le aj
 have dm:=bh.le ag
 have dn:=dm.le aj
 have dp:=bi.le ag
 have dq:=dp.le aj
 have dr:=bj.le ag
 have dt:=dr.le aj
 refine zH 0 Z Z Z Z (zG Z Z Tryz.call61 (zB Z (zB Z (zB Z zO))) Z) dQ (fun hs=>wCu p0 ao av ap ax aq ay au az bJ p3 aY aZ cG bq hs dg di dn dq dt bF) (.inr Z) ?_
 rintro bt fw fN cH fh dR ⟨rfl,rfl⟩
 have dS:sW w U bt [.blk bA 115 [jV 0,jV 0],.blk af 62 B2,.blk b6 62 B1,.blk b2 45 B0] cH:=dR
 refine oM Z Z (oR Z (zV Z Z (v:=.agg #[jV ak.skier,jV ak.mat]) Z) (oR Z (zV Z Z (v:=jV bH) Z) (oR Z (zV Z Z (v:=.bool bI) Z) ?_)))
 let B5:List Value:=[jV ak.skier,jV ak.mat]
 refine zX (j:=0) (vs:=B5) Z Z Z Z dS Z Z Z Z zK (zA Z) Z Z Z ?_
 intro cI dT
 have dU:sW w U bt [.blk bA 115 B5,.blk af 62 B2,.blk b6 62 B1,.blk b2 45 B0] cI:=dT
 refine oA Z Z (oA Z Z (zg ?_))
 cases bn
 exact zI ⟨rfl,⟨bt,bA,rfl,rfl,rfl,rfl,(aj.trans fh),(dU.pick [1,2,3,0] _ (by decide) rfl)⟩⟩
 let B6:List Value:=[jV 0,jV 0]
 refine zW (cs:=B6) Z Z Z Z Z zf Z a7 ?_
 intro cJ bd dV
 refine zH 0 Z Z Z Z (zG Z Z yk (zB Z zO) Z) dV (fun hs=>wCb p1 cJ a6 hs cm) (.inr Z) ?_
 rintro bN fy fO bS aX dX ⟨rfl,rfl⟩
 have dY:sW w U bN [.blk bd 115 B6,.blk af 62 B2,.blk b6 62 B1,.blk b2 45 B0] bS:=dX
 have du:=bf.le ag
 have dv:=du.le aX
 have dw:=bg.le ag
 have dx:=dw.le aX
 have dy:=bh.le ag
 have dz:=dy.le aX
 have dA:=bi.le ag
 have dB:=dA.le aX
 have dC:=bj.le ag
 have dD:=dC.le aX
 refine zH 0 Z Z Z Z (zG Z Z Tryz.call61 (zB Z (zB Z (zB Z zO))) Z) dY (fun hs=>wCu p0 ao av ap ax aq ay au az bJ p3 aY aZ bS bN hs dv dx dz dB dD bF) (.inr Z) ?_
 rintro bu fz fP cK fj dZ ⟨rfl,rfl⟩
 have d5:sW w U bu [.blk bd 115 B6,.blk af 62 B2,.blk b6 62 B1,.blk b2 45 B0] cK:=dZ
 refine oM Z Z (oR Z (zV Z Z (v:=.agg #[jV ak.skier,jV ak.mat]) Z) (oR Z (zV Z Z (v:=jV bH) Z) (oR Z (zV Z Z (v:=.bool bI) Z) ?_)))
 let B7:List Value:=[jV ak.skier,jV ak.mat]
 refine zX (j:=0) (vs:=B7) Z Z Z Z d5 Z Z Z Z zK (zA Z) Z Z Z ?_
 intro cL d7
 have d9:sW w U bu [.blk bd 115 B7,.blk af 62 B2,.blk b6 62 B1,.blk b2 45 B0] cL:=d7
 refine oA Z Z (oA Z Z (zg ?_))
 cases bn
 exact zI ⟨rfl,⟨bu,bd,rfl,rfl,rfl,rfl,(aX.trans fj),(d9.pick [1,2,3,0] _ (by decide) rfl)⟩⟩
 rintro fZ bU ⟨bP,be,cQ,cR,cS,cU,fI,ef⟩
 refine zL (zL (ZF ZB [3,3,3,1,1,2,3,3] (wHC (.fx 5 (.fl 6 (.fl 7 .nil)) .stop)) (by kernel_rfl) ?_))
 have a8:=ef.drew
 generalize hw_W253:({ bU with drawn:=bU.drawn + 1 }:World)=cM at a8 ⊢
 refine oM Z cU (oR Z (ZW Z Z) (oM Z Z (ifc cz ?_ ?_)))
 intro am eI
 refine ZE Z Z Z (zQ Z Z (nC am.out)) (a8.ldBA (j:=3) Z Z cR zk zK (vs:=B3) Z Z) Z (ZE Z Z Z (zQ Z Z (nC am.out)) (a8.ldBA (j:=0) Z Z cQ Zq ZX (vs:=B2) Z Z) Z (bnK eI fun fk dE eJ=>zH 0 Z Z Z (zQ Z Z (nC am.out)) (zG Z Z yk (zB Z zO) Z) a8 (fun hs=>wCb p2 cM bP hs dE) (.inr Z) ?_))
 rintro bv fA fQ cN fJ eh ⟨rfl,rfl⟩
 have cq:sW w U bv [.blk af 62 B2,.blk b6 62 B1,.blk b2 45 B0,.blk be 115 B3] cN:=eh
 refine ze Z Z Z (zQ Z Z (nC am.out)) (fun _=>ZG (Runs.neS (enc:=wBr) (a:=(⟨cA,cB⟩:wAH)) (b:=fk) Z Z Z wLC wLB) (congrArg hJ (decide_not).symm)) (oR Z (zc Z (nC am.out) Z) (eN (ifc eJ ?_ ?_)))
 intro bC eK
 refine zy (ZM (fun h=>h bC.out)) (kN (sR fL3 Z (oM Z cS (oA Z Z (oA Z Z (eN (zR ?_)))))))
 cases eK
 exact ⟨rfl,_,(wEF rfl rfl),bv,_,(cq.pick [] _ (by decide) rfl),rfl,rfl⟩
 intro bC eM
 refine cT Z bC (sR fL2 Z (oA Z Z (oA Z Z (eN (zR (zS ?_))))))
 cases eM
 exact ⟨rfl,_,(wEF rfl rfl),bv,_,(cq.pick [] _ (by decide) rfl),rfl,rfl⟩
 intro am eO
 refine ZA Z Z Z (zU Z Z (nF (am.out)) Z) (ZA Z Z Z (zU Z Z (nF (am.out)) Z) (ZI Z Z Z (zU Z Z (nF (am.out)) Z) (ZA Z Z Z (zU Z Z (nF (am.out)) Z) (oR Z (zT Z (nF (am.out)) Z) (eN (ZJ Z (sR fL2 Z (oA Z Z (oA Z Z (eN (zR (zS ?_))))))))))))
 cases eO
 exact ⟨rfl,_,(wEF rfl rfl),bP,_,(a8.pick [] _ (by decide) rfl),rfl,rfl⟩
 intro bE eQ
 refine cT Z bE (sR fL3 Z (oM Z Z (oA Z Z (oA Z Z (eN (zR (zS ?_)))))))
 cases eQ
 exact ⟨rfl,_,(wEF rfl rfl),a6,_,(cr.pick [] _ (by decide) rfl),rfl,rfl⟩
 intro bD eU
 refine ZJ (nF (bD.out)) (sR fL2 Z (oA Z Z (oA Z Z (eN (zR (zd (zS ?_)))))))
 cases eU
 exact ⟨rfl,_,(wEF rfl rfl),bx,_,(bG.pick [] _ (by decide) rfl),rfl,rfl⟩
 intro an eV
 refine ZA Z Z Z (zU Z Z (nF (an.out)) Z) (ZA Z Z Z (zU Z Z (nF (an.out)) Z) (ZI Z Z Z (zU Z Z (nF (an.out)) Z) (ZA Z Z Z (zU Z Z (nF (an.out)) Z) (oR Z (zT Z (nF (an.out)) Z) (oA Z Z (eN (ZJ Z (sR fL2 Z (oA Z Z (oA Z Z (eN (zR (zd (zS ?_))))))))))))))
 cases eV
 exact ⟨rfl,_,(wEF rfl rfl),bw,_,(bm.pick [] _ (by decide) rfl),rfl,rfl⟩
 intro bB eW
 refine cT Z bB (sR fL3 Z (oM Z Z (oA Z Z (oA Z Z (eN (zR (zd (zS ?_))))))))
 cases eW
 exact ⟨rfl,_,(wEF rfl rfl),bs,_,(bk.pick [] _ (by decide) rfl),rfl,rfl⟩
theorem wIB (p0:wAE) (aj:Option Addr) (ao:Nat) (ak:Option Addr) (ap:Nat) (am:Option Addr) (aq:Nat) (an:Option Addr) (au:Nat) (p1:Int) (w:World) (U:PHeap) (hS:St0 w U []) (bE:Sl U 1 aj ao p0.Starts.length (hD KL.encI p0.Starts)) (bF:Sl U 2 ak ap p0.Splits.length (hD wAF p0.Splits)) (bG:Sl U 3 am aq p0.Clocks.length (hD wAA p0.Clocks)) (bH:Sl U 4 an au p0.Readings.length (hD wAB p0.Readings)) {r:(Option wAh) × Int} (hm:wEy p0 p1=some r):Gv Tryz.prog 28 [.agg #[.slice aj p0.Starts.length ao,.slice ak p0.Splits.length ap,.slice am p0.Clocks.length aq,.slice an p0.Readings.length au],jV p1] w (wBa w [] U (fun U_ L_ v=>match r.1 with | none=>v=.tuple #[.pointer none,jV r.2]/\L_=[] | some d=>∃ (b0:Nat) (A0p00:Option Addr) (c0p00:Nat) (A0p01:Option Addr) (c0p01:Nat) (A0p02:Option Addr) (c0p02:Nat) (A0p03:Option Addr) (c0p03:Nat) (m0p1:Nat) (es0p1:Array MapEntry) (ck0p1:Nat) (A0p2:Option Addr) (c0p2:Nat),v=.tuple #[.pointer (some ⟨b0,0,none⟩),jV r.2]/\L_=[.blk b0 124 [.slice A0p00 d.Race.Starts.length c0p00,.slice A0p01 d.Race.Splits.length c0p01,.slice A0p02 d.Race.Clocks.length c0p02,.slice A0p03 d.Race.Readings.length c0p03,.map (some m0p1),.slice A0p2 d.edges.length c0p2],.obj m0p1 (.map es0p1 ck0p1)]/\Sl U_ 1 A0p00 c0p00 d.Race.Starts.length (hD KL.encI d.Race.Starts)/\Sl U_ 2 A0p01 c0p01 d.Race.Splits.length (hD wAF d.Race.Splits)/\Sl U_ 3 A0p02 c0p02 d.Race.Clocks.length (hD wAA d.Race.Clocks)/\Sl U_ 4 A0p03 c0p03 d.Race.Readings.length (hD wAB d.Race.Readings)/\MpR es0p1 wBL wBO d.number/\Sl U_ 7 A0p2 c0p2 d.edges.length (hD wAR d.edges))):=by
 unfold wEy at hm
 refine Gv.of Tryz.func28 Z Tryz.ntmps28 Tryz.results28 Z (sR gEg Z ?_)
 let B0:List Value:=[.slice aj p0.Starts.length ao,.slice ak p0.Splits.length ap,.slice am p0.Clocks.length aq,.slice an p0.Readings.length au]
 refine ZC (cs:=B0) rfl rfl rfl rfl rfl rfl (by rfl) hS ?_
 intro W1 b2 bj
 refine oA Z Z (oA Z Z (eN (sR (wCv (.fx 3 (.fx 4 (wHE (.nil)) .stop) .stop)) Z (oL Z (bj.ldBA (j:=0) Z Z Z zz zh (vs:=B0) Z Z) (oM Z Z ?_)))))
 let B1:List Value:=[jV 0,jV p1]
 refine oR Z (zu (pv:=[(0,jV 0),(1,jV p1)]) (z:=[jV 0,jV 0]) (cs:=B1) Z (wAD Z (wAD Z wAM)) yF wFZ Z Z) (zo (pv:=[(0,.agg B1.toArray)]) (zs:=[jV 0,jV 0]) (cs:=B1) Z Z Z Z Z (wAD Z wAM) Zu ZX yF Z Z Z Z Z bj ?_)
 intro W5 b6 bC
 have bD:sW w U U [.row (some ⟨b6,0,none⟩) 1 62 2 (hD wAU [(⟨0,p1⟩:wAP)]),.blk b2 45 B0] W5:=bC
 have q:=bD.freezeR (k:=0) (n:=[(⟨0,p1⟩:wAP)].length) rfl (wAC (f:=wAU) (sz:=2) (fun _=>rfl) [(⟨0,p1⟩:wAP)]) (by decide)
 obtain ⟨aZ,ai,bI,bx⟩:=q
 have bz:sW w U aZ [.blk b2 45 B0] W5:=bx
 have bm:=bE.le ai
 have bn:=bF.le ai
 have bo:=bG.le ai
 have bp:=bH.le ai
 have q:=bnd hm
 obtain ⟨⟨bJ,bk⟩,bq,ae⟩:=q
 try dsimp only at ae
 refine zH 0 Z Z Z Z (zG Z Z Tryz.call46 (zB Z (zB Z zO)) Z) bz (fun hs=>wEa p0 aj ao ak ap am aq an au [(⟨0,p1⟩:wAP)] (some ⟨b6,0,none⟩) 1 W5 aZ hs bm bn bo bp bI bq) (.inr Z) ?_
 rintro ag bK bN a6 bM bi bh
 rcases bJ with _ | af
 try dsimp only at ae
 obtain ⟨rfl,rfl⟩:=bh
 have bA:sW w U ag [.blk b2 45 B0] a6:=bi
 refine oR Z (zV Z Z (v:=.pointer none) Z) (oR Z (zV Z Z (v:=jV bk) Z) (oA Z Z (oA Z Z (eN (zR ?_)))))
 cases ae
 exact ⟨rfl,_,(wEF rfl rfl),ag,_,(bA.pick [] _ (by decide) rfl),rfl,rfl⟩
 try dsimp only at ae
 obtain ⟨ay,aU,ba,aV,bb,aW,bc,aX,bd,az,bg,be,aY,bf,rfl,rfl,br,bs,bt,bu,bv,bw⟩:=bh
 have bB:sW w U ag [.blk ay 124 [.slice aU af.Race.Starts.length ba,.slice aV af.Race.Splits.length bb,.slice aW af.Race.Clocks.length bc,.slice aX af.Race.Readings.length bd,.map (some az),.slice aY af.edges.length bf],.obj az (.map bg be),.blk b2 45 B0] a6:=bi
 refine oR Z (zV Z Z (v:=.pointer (some ⟨ay,0,none⟩)) Z) (oR Z (zV Z Z (v:=jV bk) Z) (oA Z Z (oA Z Z (eN (zR ?_)))))
 cases ae
 exact ⟨rfl,_,(wEF rfl rfl),ag,_,(bB.pick [0,1] _ (by decide) rfl),ay,aU,ba,aV,bb,aW,bc,aX,bd,az,bg,be,aY,bf,rfl,rfl,br,bs,bt,bu,bv,bw⟩
theorem wFc (p0:wAh) (ap:Nat) (ao:Option Addr) (aq:Nat) (ay:Option Addr) (aW:Nat) (az:Option Addr) (aX:Nat) (aU:Option Addr) (aY:Nat) (ab:Nat) (ac:Array MapEntry) (ae:Nat) (aV:Option Addr) (aZ:Nat) (p1:Int) (w:World) (U:PHeap) (hS:St0 w U [.blk ap 124 [.slice ao p0.Race.Starts.length aq,.slice ay p0.Race.Splits.length aW,.slice az p0.Race.Clocks.length aX,.slice aU p0.Race.Readings.length aY,.map (some ab),.slice aV p0.edges.length aZ],.obj ab (.map ac ae)]) (cX:Sl U 1 ao aq p0.Race.Starts.length (hD KL.encI p0.Race.Starts)) (cY:Sl U 2 ay aW p0.Race.Splits.length (hD wAF p0.Race.Splits)) (cZ:Sl U 3 az aX p0.Race.Clocks.length (hD wAA p0.Race.Clocks)) (c6:Sl U 4 aU aY p0.Race.Readings.length (hD wAB p0.Race.Readings)) (bp:MpR ac wBL wBO p0.number) (c8:Sl U 7 aV aZ p0.edges.length (hD wAR p0.edges)) {r:(Arr Int 64)} (hm:wDF p0 p1=some r):Gv Tryz.prog 29 [.pointer (some ⟨ap,0,none⟩),jV p1] w (wBa w [.blk ap 124 [.slice ao p0.Race.Starts.length aq,.slice ay p0.Race.Splits.length aW,.slice az p0.Race.Clocks.length aX,.slice aU p0.Race.Readings.length aY,.map (some ab),.slice aV p0.edges.length aZ],.obj ab (.map ac ae)] U (fun U_ L_ v=>v=.agg (hD KL.encI r.l).toArray/\L_=[.blk ap 124 [.slice ao p0.Race.Starts.length aq,.slice ay p0.Race.Splits.length aW,.slice az p0.Race.Clocks.length aX,.slice aU p0.Race.Readings.length aY,.map (some ab),.slice aV p0.edges.length aZ],.obj ab (.map ac ae)])):=by
 unfold wDF at hm
 refine Gv.of Tryz.func29 Z Tryz.ntmps29 Tryz.results29 Z (sR (.fx 0 .nil .stop) Z (zW (cs:=hD KL.encI (Arr.fill 64 0).l) Z Z Z Z Z Tryz.zeroValue89 Z hS ?_))
 intro W3 b4 cO
 let B0:Res:=.blk ap 124 [.slice ao p0.Race.Starts.length aq,.slice ay p0.Race.Splits.length aW,.slice az p0.Race.Clocks.length aX,.slice aU p0.Race.Readings.length aY,.map (some ab),.slice aV p0.edges.length aZ]
 have cU:SW w [B0,.obj ab (.map ac ae)] U U [.blk b4 89 (hD KL.encI (Arr.fill 64 0).l),B0,.obj ab (.map ac ae)] W3:=cO
 refine eN (sR (.fx 0 .nil .stop) Z (zW (cs:=hD KL.encI (Arr.fill 64 0).l) Z Z Z Z Z Tryz.zeroValue89 Z cU ?_))
 intro W8 b9 cJ
 have bM:SW w [B0,.obj ab (.map ac ae)] U U [.blk b9 89 (hD KL.encI (Arr.fill 64 0).l),.blk b4 89 (hD KL.encI (Arr.fill 64 0).l),B0,.obj ab (.map ac ae)] W8:=cJ
 refine eN (zL (sR fL7 Z (oM Z Z (oR Z (ZT Z Z) (oR Z (zJ Z Z ZN Z zh) (oR Z (zJ Z Z zP Z zZ) (oL Z (bM.ldB (j:=2) Z Z Z zj (v:=.slice ao p0.Race.Starts.length aq) Z) (oR Z (zr Z Z zC) (oM Z Z (eN (zb (bnK hm fun ak da dq=>?_))))))))))))
 have q:=wBM da
 obtain ⟨bs,db⟩:=q
 replace bs:=zM bs
 refine CK.forN' (fun ag a6 σ_ w_=>∃ (U_:PHeap),σ_ 17=jV (↑ag:Int)/\σ_ 0=.pointer (some ⟨ap,0,none⟩)/\σ_ 1=jV p1/\σ_ 4=.pointer (some ⟨b4,0,none⟩)/\σ_ 5=.pointer (some ⟨b9,0,none⟩)/\σ_ 16=jV (↑p0.Race.Starts.length:Int)/\PHeap.Le U U_/\SW w [B0,.obj ab (.map ac ae)] U U_ [.blk b9 89 (hD KL.encI a6.l),.blk b4 89 (hD KL.encI (Arr.fill 64 0).l),B0,.obj ab (.map ac ae)] w_) db ?_ ?_ ?_
 exact ⟨U,Z,Z,Z,Z,Z,Z,(zN _),bM⟩
 rintro ag a6 dM dR bx bq ⟨bv,bm,bf,bF,cx,cy,bG,ax,bo⟩ dt
 have bB:Hid ((↑ag:Int) < (↑p0.Race.Starts.length:Int)):=zM (wAr bq)
 replace bq:=zM bq
 have di:Hid (w64 ((↑ag:Int) + 1)=(↑(ag + 1):Int)):=zM (by have h1:=bs.out;have h2:=bB.out;rw [wAW] <;> omega)
 refine sR fL1 Z (oR Z (zY Z bm bG) (eN (zL (cT Z bB (kN (zL (zb (sR fL2 Z (oM Z bm (oA Z Z (eN (sR (wOO (.fx 9 (wNN (.fx 14 (.fx 15 (.fl 16 (.fl 17 .nil)) .stop) .stop)) .stop)) Z (oM Z bf (oM Z bf (oR Z (ZT Z Z) (oR Z (zJ Z Z ZN Z Zz) (oL Z (bo.ldB (j:=2) Z Z Z yD (v:=.map (some ab)) Z) (oM Z Z (oM Z bF (oR Z (zu (pv:=[(0,jV (↑ag:Int)),(1,jV p1)]) (z:=[jV 0,jV 0]) (cs:=[jV (↑ag:Int),jV p1]) Z (wAD Z (wAD Z wAM)) zf wBY Z Z) (oL Z (bo.lookup1 (j:=3) (mk:=wBL) (mv:=wBO) (a:=(⟨(↑ag:Int),p1⟩:wAH)) (z:=0) Z Z Z Z (wBE ZO) wCa zt bp) ?_)))))))))))))))))))))
 have cC:=cX.le ax
 have cD:=cY.le ax
 have cE:=cZ.le ax
 have cG:=c6.le ax
 have cH:=c8.le ax
 have q:=bnd dt
 obtain ⟨⟨aj,dy,dz⟩,cI,bR⟩:=q
 try dsimp only at bR
 have cP:SW w [B0,.obj ab (.map ac ae)] U bv [B0,.obj ab (.map ac ae),.blk b9 89 (hD KL.encI a6.l),.blk b4 89 (hD KL.encI (Arr.fill 64 0).l)] bx:=bo.pick [2,3,0,1] _ (by decide) rfl
 refine zH 2 Z Z Z Z (zG Z Z yh (zB Z (zB Z (zB Z zO))) Z) cP (fun hs=>wAk p0 ap ao aq ay aW az aX aU aY ab ac ae aV aZ (wAv p0.number (⟨(↑ag:Int),p1⟩:wAH) 0) false bx bv hs cC cD cE cG bp cH cI) (.inl Z) ?_
 rintro bc dA dL bX dw cQ ⟨a7,be,bj,bk,rfl,rfl⟩
 let B1:Res:=.row a7 be 3 1 (hD KL.encI aj.far)
 let B2:Res:=.row bj bk 3 1 (hD KL.encI aj.by_)
 have cR:SW w [B0,.obj ab (.map ac ae)] U bc [B1,B2,B0,.obj ab (.map ac ae),.blk b9 89 (hD KL.encI a6.l),.blk b4 89 (hD KL.encI (Arr.fill 64 0).l)] bX:=cQ
 refine oM Z Z (oR Z (zV Z Z (v:=.agg #[.slice a7 aj.far.length be,.slice bj aj.by_.length bk]) Z) (oR Z (zV Z Z (v:=jV dy) Z) (oR Z (zV Z Z (v:=.bool dz) Z) (zW (cs:=[.slice none 0 0,.slice none 0 0]) Z Z Z Z Z Zf Z cR ?_))))
 intro dE bd cS
 let B3:List Value:=[.slice a7 aj.far.length be,.slice bj aj.by_.length bk]
 refine zX (j:=0) (vs:=B3) Z Z Z Z cS Z Z Z Z Zp (zA Z) Z Z Z ?_
 intro bY cV
 have bQ:SW w [B0,.obj ab (.map ac ae)] U bc [.blk bd 118 B3,B1,B2,B0,.obj ab (.map ac ae),.blk b9 89 (hD KL.encI a6.l),.blk b4 89 (hD KL.encI (Arr.fill 64 0).l)] bY:=cV
 refine oA Z Z (oA Z Z (eN (sR fL7 Z (oM Z bf (oR Z (ZT Z Z) (oR Z (zJ Z Z ZN Z zh) (oR Z (zJ Z Z zP Z zZ) (oL Z (bQ.ldB (j:=3) Z Z Z zj (v:=.slice ao p0.Race.Starts.length aq) Z) (oR Z (zr Z Z zC) (oM Z Z (eN (zb (bnK bR fun dO dd dr=>?_)))))))))))))
 have q:=wBM dd
 obtain ⟨bt,de⟩:=q
 replace bt:=zM bt
 refine CK.forN' (fun ah av σ_ w_=>∃ (U_:PHeap),σ_ 40=jV (↑ah:Int)/\σ_ 0=.pointer (some ⟨ap,0,none⟩)/\σ_ 1=jV p1/\σ_ 4=.pointer (some ⟨b4,0,none⟩)/\σ_ 5=.pointer (some ⟨b9,0,none⟩)/\σ_ 6=jV (↑ag:Int)/\σ_ 7=.pointer (some ⟨bd,0,none⟩)/\σ_ 16=jV (↑p0.Race.Starts.length:Int)/\σ_ 17=jV (↑ag:Int)/\σ_ 39=jV (↑p0.Race.Starts.length:Int)/\PHeap.Le bc U_/\SW w [B0,.obj ab (.map ac ae)] U U_ [B1,B2,.blk bd 118 B3,B0,.obj ab (.map ac ae),.blk b9 89 (hD KL.encI av.l),.blk b4 89 (hD KL.encI (Arr.fill 64 0).l)] w_) de ?_ ?_ ?_
 exact ⟨bc,rfl,bf,bF,cx,cy,rfl,rfl,bG,bm,rfl,(zN _),(bQ.pick [1,2,0,3,4,5,6] _ (by decide) rfl)⟩
 rintro ah av dN dS bz br ⟨bw,bn,bH,bI,cz,bJ,bK,bC,cd,cg,bD,dx,cW⟩ du
 have bA:Hid ((↑ah:Int) < (↑p0.Race.Starts.length:Int)):=zM (wAr br)
 replace br:=zM br
 have dh:Hid (w64 ((↑ah:Int) + 1)=(↑(ah + 1):Int)):=zM (by have h1:=bt.out;have h2:=bA.out;rw [wAW] <;> omega)
 refine sR fL1 rfl (ze rfl rfl rfl rfl (fun _=>zY rfl bn bD) (eN (zL (cT Z bA (kN (zL (zb (sR fL2 rfl (zm rfl rfl rfl rfl rfl bn (yB rfl rfl rfl rfl rfl rfl (eN (ZF ZB [3,3,3,1,3,3,3,1,3,3,3,1,3,1,3,3,0] (wOS (.fx 16 .nil .stop)) (by kernel_rfl) ?_))))))))))))
 have au:=cW.drew
 generalize hw_W107:({ bz with drawn:=bz.drawn + 1 }:World)=dB at au ⊢
 refine oM Z bK (oM Z Z (oR Z (zJ Z bC Zc Z zZ) (oL Z (au.ldB (j:=2) Z Z Z zj (v:=.slice a7 aj.far.length be) Z) (oM Z bH (oR Z (ZT Z Z) (oR Z (zJ Z Z ZN Z Zz) (oL Z (au.ldB (j:=3) Z Z Z yD (v:=.map (some ab)) Z) (oM Z Z (oM Z bI (oR Z (zu (pv:=[(0,jV (↑ah:Int)),(1,jV p1)]) (z:=[jV 0,jV 0]) (cs:=[jV (↑ah:Int),jV p1]) Z (wAD Z (wAD Z wAM)) zf wBY Z Z) (oL Z (au.lookup1 (j:=4) (mk:=wBL) (mv:=wBO) (a:=(⟨(↑ah:Int),p1⟩:wAH)) (z:=0) Z Z Z Z (wBE ZO) wCa zt bp) (bnK du fun _ bg dm=>?_))))))))))))
 obtain ⟨dF,bL⟩:=au.rowSome (j:=0) rfl (by rw [wAC (f:=KL.encI) (sz:=1) (fun _=>rfl) aj.far];have hz:=wAY bg;omega)
 refine oR Z (Ze Z Z bL Z zC zD (wCC bg) (wCD bg)) ?_
 have df:=wBb (xs:=aj.far) (wAY bg)
 refine ZE rfl rfl rfl rfl (au.ldR (j:=0) rfl bL rfl rfl zF (wAa (sz:=1) (fun _=>rfl) _ _ 0 _ df (by first | omega | rfl | simp) rfl)) rfl (bnK dm fun _ bh dn=>ze rfl rfl rfl rfl (fun _=>Runs.iaA rfl bJ rfl Tryz.runUnderlying89 Tryz.sizeOf88 (wCC bh) (wCD bh)) (bnK dn fun _ bi dp=>ze rfl rfl rfl rfl (fun _=>Runs.iaA rfl rfl rfl Tryz.runUnderlying88 zD (wCC bi) (wCD bi)) ?_))
 have dg:=Arr.at_ av (k:=(ag * 8 + ah)) (by have hz0:=wAY bh;have hz1:=wAY bi;omega)
 refine zX (j:=5) (vs:=[jV (gd aj.far (wAv p0.number (⟨(↑ah:Int),p1⟩:wAH) 0).toNat)]) (cs':=hD KL.encI (av.set (ag * 8 + ah) (gd aj.far (wAv p0.number (⟨(↑ah:Int),p1⟩:wAH) 0).toNat)).l) rfl rfl rfl rfl au rfl rfl rfl rfl zD (by have hz0:=wAY bh;have hz1:=wAY bi;simp only [List.length_append,List.length_cons,List.length_nil,wCV (f:=KL.encI) (sz:=1) (N:=64) av (fun _=>rfl) rfl];omega) rfl (wDU (sz:=1) (fo:=0) (fun _=>rfl) _ _ _ _ dg (by first | omega | rfl | simp) (zA rfl) rfl) rfl ?_
 intro bU cK
 have cL:SW w [B0,.obj ab (.map ac ae)] U bw [B1,B2,.blk bd 118 B3,B0,.obj ab (.map ac ae),.blk b9 89 (hD KL.encI (av.set (ag * 8 + ah) (gd aj.far (wAv p0.number (⟨(↑ah:Int),p1⟩:wAH) 0).toNat)).l),.blk b4 89 (hD KL.encI (Arr.fill 64 0).l)] bU:=cK
 refine zg (zx (zI (rR fL2 Z (oR Z (ZG (za Z bn Z) (congrArg (jV) dh.out)) (oM Z Z (zg ?_))))))
 cases dp
 exact zI ⟨Z,⟨bw,Z,bH,bI,cz,bJ,bK,bC,cd,cg,bD,dx,cL⟩⟩
 rintro dP dC ⟨bS,cA,ci,cj,cm,co,dG,dH,cp,cq,cr,dv,cM⟩
 have ca:Hid (¬ ((↑(((↑p0.Race.Starts.length:Int):Int) - 0).toNat:Int) < (↑p0.Race.Starts.length:Int))):=zM (wAf)
 refine sR fL1 Z (oR Z (zY Z cA cr) (eN (zL (cF Z ca (Zd (zn (zn (ZV (zx (zI (rR fL2 Z (oR Z (ZG (za Z cq Z) (congrArg (jV) di.out)) (oM Z Z (zg ?_))))))))))))))
 cases dr
 exact zI ⟨rfl,⟨bS,rfl,ci,cj,cm,co,cp,((ax.trans dw).trans dv),(cM.pick [5,6,3,4] _ (by decide) rfl)⟩⟩
 rintro dQ dD ⟨bu,cB,dI,dJ,bE,cu,cw,dK,bN⟩
 have cc:Hid (¬ ((↑(((↑p0.Race.Starts.length:Int):Int) - 0).toNat:Int) < (↑p0.Race.Starts.length:Int))):=zM (wAf)
 refine sR fL1 rfl (ze rfl rfl rfl rfl (fun _=>zY rfl cB cw) (eN (zL (cF Z cc (Zd (zn (zn (ZV (zI (sR gDy rfl (ZE rfl rfl rfl rfl (bN.ldBA (j:=0) rfl rfl cu Tryz.isAgg89 Tryz.sizeOf89 (vs:=hD KL.encI ak.l) (wNi ak (fun _=>rfl) rfl) (wCV ak (fun _=>rfl) rfl)) rfl (zX (j:=1) (vs:=hD KL.encI ak.l) rfl rfl rfl rfl bN rfl bE rfl rfl (fun w=>by rw [wCV (f:=KL.encI) (sz:=1) (N:=64) ak (fun _=>rfl) rfl];exact Tryz.sizeOf89 w) (by rw [wCV (f:=KL.encI) (sz:=1) (N:=64) ak (fun _=>rfl) rfl,wCV (f:=KL.encI) (sz:=1) (N:=64) (Arr.fill 64 0) (fun _=>rfl) rfl];exact zA rfl) (wGf (fun _=>rfl) _) (wJd _ _ (by rw [wCV (f:=KL.encI) (sz:=1) (N:=64) ak (fun _=>rfl) rfl,wCV (f:=KL.encI) (sz:=1) (N:=64) (Arr.fill 64 0) (fun _=>rfl) rfl])) rfl ?_))))))))))))
 intro bV cN
 have bP:SW w [B0,.obj ab (.map ac ae)] U bu [.blk b9 89 (hD KL.encI ak.l),.blk b4 89 (hD KL.encI ak.l),B0,.obj ab (.map ac ae)] bV:=cN
 refine eN (zR ?_)
 have hE:=nB dq;first | subst r | cases hE
 exact ⟨rfl,_,(wHx (v:=.agg (hD KL.encI ak.l).toArray) ⟨⟨_,bE,(wBN Tryz.isAgg89 Tryz.sizeOf89 (bP.blkAt (k:=1) rfl) (wNi ak (fun _=>rfl) rfl) (wCV ak (fun _=>rfl) rfl))⟩,trivial⟩),bu,_,(bP.pick [2,3] _ (by decide) rfl),rfl,rfl⟩
end Go.Proofs.YtkghaiefcjgfkaaGreat
namespace Go.Proofs.YtkghaiefcjgfkaaGreat
open Go.KL
set_option maxHeartbeats 4000000
theorem wIC (p0:wAE) (aY:Option Addr) (aZ:Nat) (bo:Option Addr) (br:Nat) (bp:Option Addr) (bs:Nat) (bq:Option Addr) (bt:Nat) (p1:Int) (w:World) (U:PHeap) (hS:St0 w U []) (dR:Sl U 1 aY aZ p0.Starts.length (hD KL.encI p0.Starts)) (dS:Sl U 2 bo br p0.Splits.length (hD wAF p0.Splits)) (dT:Sl U 3 bp bs p0.Clocks.length (hD wAA p0.Clocks)) (dU:Sl U 4 bq bt p0.Readings.length (hD wAB p0.Readings)) {r:(List wAI) × Int} (hm:wEz p0 p1=some r):Gv Tryz.prog 10 [.agg #[.slice aY p0.Starts.length aZ,.slice bo p0.Splits.length br,.slice bp p0.Clocks.length bs,.slice bq p0.Readings.length bt],jV p1] w (wBa w [] U (fun U_ L_ v=>∃ (A0:Option Addr) (c0:Nat),v=.tuple #[.slice A0 r.1.length c0,jV r.2]/\L_=[.row A0 c0 37 2 (hD wAF r.1)])):=by
 unfold wEz at hm
 refine Gv.of Tryz.func10 Z Tryz.ntmps10 Tryz.results10 Z (sR gEg Z ?_)
 let B0:List Value:=[.slice aY p0.Starts.length aZ,.slice bo p0.Splits.length br,.slice bp p0.Clocks.length bs,.slice bq p0.Readings.length bt]
 refine ZC (cs:=B0) rfl rfl rfl rfl rfl rfl (by rfl) hS ?_
 intro W1 b2 cx
 refine oA Z Z (oA Z Z (eN (sR (.fl 0 (.fl 1 (.fx 2 (fC3_7 (.nil)) .stop))) Z (oL Z (cx.ldBA (j:=0) Z Z Z zz zh (vs:=B0) Z Z) (oM Z Z ?_)))))
 have q:=bnd hm
 obtain ⟨⟨x5,x6⟩,h7,be⟩:=q
 try dsimp only at be
 refine zH 0 Z Z Z Z (zG Z Z Tryz.call28 (zB Z (zB Z zO)) Z) cx (fun hs=>wIB p0 aY aZ bo br bp bs bq bt p1 W1 U hs dR dS dT dU h7) (.inr Z) ?_
 rintro U9 eW fq bB fj cr cp
 rcases x5 with _ | a6
 try dsimp only at be
 obtain ⟨rfl,rfl⟩:=cp
 have dJ:sW w U U9 [.blk b2 45 B0] bB:=cr
 refine oM Z Z (oR Z (zV Z Z (v:=.pointer none) Z) (oR Z (zV Z Z (v:=jV x6) Z) (oA Z Z (oA Z Z (eN (zL (sR fL2 Z (oM Z Z (oR Z (Zk Z Z Z) (eN (ifc be ?_ ?_)))))))))))
 intro bG eH
 refine zy (ZM (fun h=>h bG.out)) (kN (sR gEt Z (oM Z Z (oM Z Z ?_))))
 cases eH
 intro bG eI
 refine cT Z bG (sR fL3 Z (oM Z Z (oA Z Z (oA Z Z (eN (zR (zS ?_)))))))
 have dK:=dJ.nilrow 37 2
 cases eI
 exact ⟨rfl,_,(wEF rfl rfl),U9,_,(dK.pick [0] _ (by decide) rfl),none,0,rfl,rfl⟩
 try dsimp only at be
 obtain ⟨bC,bP,ca,bQ,cc,bR,cd,bU,ci,af,ah,ag,bV,cj,rfl,rfl,dm,dn,dp,dq,dr,dt⟩:=cp
 let B1:Res:=.blk bC 124 [.slice bP a6.Race.Starts.length ca,.slice bQ a6.Race.Splits.length cc,.slice bR a6.Race.Clocks.length cd,.slice bU a6.Race.Readings.length ci,.map (some af),.slice bV a6.edges.length cj]
 have cy:sW w U U9 [B1,.obj af (.map ah ag),.blk b2 45 B0] bB:=cr
 refine oM Z Z (oR Z (zV Z Z (v:=.pointer (some ⟨bC,0,none⟩)) Z) (oR Z (zV Z Z (v:=jV x6) Z) (oA Z Z (oA Z Z (eN (zL (sR fL2 Z (oM Z Z (oR Z (Zk Z Z Z) (eN (ifc be ?_ ?_)))))))))))
 intro bH eJ
 refine zy (ZM (fun h=>h bH.out)) (kN (sR gEt Z (oM Z Z (oM Z Z (bnK eJ fun ab du eK=>zH 2 Z Z Z Z (zG Z Z Tryz.call29 (zB Z (zB Z zO)) Z) cy (fun hs=>wFc a6 bC bP ca bQ cc bR cd bU ci af ah ag bV cj p1 bB U9 hs dm dn dp dq dr dt du) (.inl Z) ?_)))))
 rintro ba eX ft cO fm dL ⟨rfl,rfl⟩
 have dM:sW w U ba [B1,.obj af (.map ah ag),.blk b2 45 B0] cO:=dL
 refine zW (cs:=hD KL.encI (Arr.fill 64 0).l) Z Z Z Z Z Tryz.zeroValue89 Z dM ?_
 intro cP aj dN
 have dO:sW w U ba [.blk aj 89 (hD KL.encI (Arr.fill 64 0).l),B1,.obj af (.map ah ag),.blk b2 45 B0] cP:=dN
 refine zX (j:=0) (vs:=hD KL.encI ab.l) rfl rfl rfl rfl dO rfl rfl rfl rfl (fun w=>by rw [wCV (f:=KL.encI) (sz:=1) (N:=64) ab (fun _=>rfl) rfl];exact Tryz.sizeOf89 w) (by rw [wCV (f:=KL.encI) (sz:=1) (N:=64) ab (fun _=>rfl) rfl,wCV (f:=KL.encI) (sz:=1) (N:=64) (Arr.fill 64 0) (fun _=>rfl) rfl];exact zA rfl) (wGf (fun _=>rfl) _) (wJd _ _ (by rw [wCV (f:=KL.encI) (sz:=1) (N:=64) ab (fun _=>rfl) rfl,wCV (f:=KL.encI) (sz:=1) (N:=64) (Arr.fill 64 0) (fun _=>rfl) rfl])) rfl ?_
 intro cQ dP
 have cz:sW w U ba [.blk aj 89 (hD KL.encI ab.l),B1,.obj af (.map ah ag),.blk b2 45 B0] cQ:=dP
 refine eN (sR fL1 Z (oA Z Z (eN (zL (sR fL4 Z (oR Z (zJ Z Z zP Z zZ) (oL Z (cz.ldB (j:=3) Z Z Z zj (v:=.slice aY p0.Starts.length aZ) Z) (oR Z (zr Z Z zC) (oM Z Z (eN (zb (bnK eK fun fy dX eM=>?_))))))))))))
 have q:=wBM dX
 obtain ⟨bM,dY⟩:=q
 replace bM:=zM bM
 refine CK.forN' (fun am aX σ_ w_=>∃ (U_:PHeap) (a7:Option Addr) (bc:Nat),σ_ 28=jV (↑am:Int)/\σ_ 2=.pointer (some ⟨b2,0,none⟩)/\σ_ 8=.pointer (some ⟨aj,0,none⟩)/\σ_ 9=.slice a7 aX.length bc/\σ_ 27=jV (↑p0.Starts.length:Int)/\PHeap.Le ba U_/\sW w U U_ [.blk aj 89 (hD KL.encI ab.l),B1,.obj af (.map ah ag),.blk b2 45 B0,.row a7 bc 37 2 (hD wAF aX)] w_) dY ?_ ?_ ?_
 have dQ:=cz.nilrow 37 2
 exact ⟨ba,none,0,rfl,rfl,rfl,rfl,rfl,(zN _),(dQ.pick [1,2,3,4,0] _ (by decide) rfl)⟩
 rintro am aX fw fC fd bK ⟨bA,a7,bc,bI,cm,cW,cX,co,eU,dw⟩ eO
 have bY:Hid ((↑am:Int) < (↑p0.Starts.length:Int)):=zM (wAr bK)
 replace bK:=zM bK
 have d9:Hid (w64 ((↑am:Int) + 1)=(↑(am + 1):Int)):=zM (by have h1:=bM.out;have h2:=bY.out;rw [wAW] <;> omega)
 refine sR fL1 Z (oR Z (zY Z bI co) (eN (zL (cT Z bY (kN (zL (zb (sR fL2 Z (oM Z bI (oA Z Z (eN (sR gEh Z ?_))))))))))))
 let B2:List Value:=[jV 0,jV 0]
 let B3:List Value:=[jV 1,jV 1]
 refine oR Z (zu (pv:=[(0,jV 1),(1,jV 1)]) (z:=B2) (cs:=B3) Z (wAD Z (wAD Z wAM)) ZQ wCU Z Z) (zW (cs:=B2) Z Z Z Z Z ZQ Z dw ?_)
 intro eY aq dx
 refine zX (j:=0) (vs:=B3) Z Z Z Z dx Z Z Z Z ZD (zA Z) Z Z Z ?_
 intro cI dy
 let B4:Res:=.row a7 bc 37 2 (hD wAF aX)
 have cq:sW w U bA [.blk aq 37 B3,.blk aj 89 (hD KL.encI ab.l),B1,.obj af (.map ah ag),.blk b2 45 B0,B4] cI:=dy
 refine eN (zL (sR fL4 Z (oR Z (zJ Z cm zP Z zZ) (oL Z (cq.ldB (j:=4) Z Z Z zj (v:=.slice aY p0.Starts.length aZ) Z) (oR Z (zr Z Z zC) (oM Z Z (eN (zb ?_))))))))
 have q:=bnd eO
 obtain ⟨⟨bu,bv⟩,dV,cA⟩:=q
 try dsimp only at cA
 have q:=wBM dV
 obtain ⟨bL,dW⟩:=q
 replace bL:=zM bL
 refine CK.forN' (fun au (aU,ap) σ_ w_=>∃ (U_:PHeap),σ_ 35=jV (↑au:Int)/\σ_ 2=.pointer (some ⟨b2,0,none⟩)/\σ_ 8=.pointer (some ⟨aj,0,none⟩)/\σ_ 9=.slice a7 aX.length bc/\σ_ 10=jV (↑am:Int)/\σ_ 11=.pointer (some ⟨aq,0,none⟩)/\σ_ 27=jV (↑p0.Starts.length:Int)/\σ_ 28=jV (↑am:Int)/\σ_ 34=jV (↑p0.Starts.length:Int)/\PHeap.Le bA U_/\sW w U U_ [.blk aq 37 [jV aU,jV ap],.blk aj 89 (hD KL.encI ab.l),B1,.obj af (.map ah ag),.blk b2 45 B0,B4] w_) dW ?_ ?_ ?_
 exact ⟨bA,Z,cm,cW,cX,Z,Z,co,bI,Z,(zN _),cq⟩
 rintro au ⟨aU,ap⟩ fu fz eZ bJ ⟨av,aW,bf,ax,bg,ay,ak,bh,bi,bd,bm,az⟩ cB
 try dsimp only at cB
 have bZ:Hid ((↑au:Int) < (↑p0.Starts.length:Int)):=zM (wAr bJ)
 replace bJ:=zM bJ
 have bk:Hid (w64 ((↑au:Int) + 1)=(↑(au + 1):Int)):=zM (by have h1:=bL.out;have h2:=bZ.out;rw [wAW] <;> omega)
 refine sR fL1 Z (oR Z (zY Z aW bd) (eN (zL (cT Z bZ (kN (zL (zb (sR fL2 Z (oM Z aW (oA Z Z (eN (zL (sR fL6 Z (oM Z ay (oM Z Z (bnK cB fun _ an ef=>oR Z (Runs.iaA Z ax Z Tryz.runUnderlying89 Tryz.sizeOf88 (wCC an) (wCD an)) (bnK ef fun _ ao eh=>oR Z (Runs.iaA Z Z Z Tryz.runUnderlying88 zD (wCC ao) (wCD ao)) ?_)))))))))))))))))
 have dZ:=Arr.at_ ab (k:=(am * 8 + au)) (by have hz0:=wAY an;have hz1:=wAY ao;omega)
 refine ZE rfl rfl rfl rfl (az.ldB (j:=1) rfl rfl rfl zF (wAa (sz:=1) (fun _=>rfl) _ _ 0 _ dZ (by first | omega | rfl | simp) rfl)) rfl (ze rfl rfl rfl rfl (fun _=>zY rfl rfl rfl) (eN (ifc eh ?_ ?_)))
 intro bD ep
 refine cT Z bD (rR (wET (.fx 4 .nil .stop)) Z (oR Z (zJ Z ak ZU Z zD) (oL Z (az.ldB (j:=0) Z Z Z zF (v:=jV aU) Z) (oR Z (za Z Z Z) (oR Z (zJ Z ak ZU Z zD) (zX (j:=0) (vs:=[jV (w64 (aU + 1))]) Z Z Z Z az Z Z Z Z zD (zA Z) Z Z Z ?_))))))
 intro cJ dz
 have bj:sW w U av [.blk aq 37 [jV (w64 (aU + 1)),jV ap],.blk aj 89 (hD KL.encI ab.l),B1,.obj af (.map ah ag),.blk b2 45 B0,B4] cJ:=dz
 refine eN (sR fL6 Z (oM Z Z (oM Z ay (oR Z (Runs.iaA Z ax Z Tryz.runUnderlying89 Tryz.sizeOf88 (wCC ao) (wCD ao)) (oR Z (Runs.iaA Z Z Z Tryz.runUnderlying88 zD (wCC an) (wCD an)) ?_)))))
 have d5:=Arr.at_ ab (k:=(au * 8 + am)) (by have hz0:=wAY ao;have hz1:=wAY an;omega)
 refine ZE rfl rfl rfl rfl (bj.ldB (j:=1) rfl rfl rfl zF (wAa (sz:=1) (fun _=>rfl) _ _ 0 _ d5 (by first | omega | rfl | simp) rfl)) rfl (ze rfl rfl rfl rfl (fun _=>yt rfl rfl rfl) (eN (ifc ep ?_ ?_)))
 intro bE eu
 refine cT Z bE (rR (wET (.fx 4 .nil .stop)) Z (oR Z (zJ Z ak ZU Z zD) (oL Z (bj.ldB (j:=0) Z Z Z zF (v:=jV ap) Z) (oR Z (za Z Z Z) (oR Z (zJ Z ak ZU Z zD) (zX (j:=0) (vs:=[jV (w64 (ap + 1))]) Z Z Z Z bj Z Z Z Z zD (zA Z) Z Z Z ?_))))))
 intro cK dA
 have dB:sW w U av [.blk aq 37 [jV (w64 (aU + 1)),jV (w64 (ap + 1))],.blk aj 89 (hD KL.encI ab.l),B1,.obj af (.map ah ag),.blk b2 45 B0,B4] cK:=dA
 refine zg (zx (zI (rR fL2 Z (oR Z (ZG (za Z aW Z) (congrArg (jV) bk.out)) (oM Z Z (zg ?_))))))
 cases eu
 exact zI ⟨Z,⟨av,Z,bf,ax,bg,ay,ak,bh,bi,bd,bm,dB⟩⟩
 intro bE ew
 refine cF Z bE (Zi (zx (zI (rR fL2 Z (oR Z (ZG (za Z aW Z) (congrArg (jV) bk.out)) (oM Z Z (zg ?_)))))))
 cases ew
 exact zI ⟨Z,⟨av,Z,bf,ax,bg,ay,ak,bh,bi,bd,bm,bj⟩⟩
 intro bD eA
 refine cF Z bD (kN (sR fL6 Z (oM Z Z (oM Z ay (oR Z (Runs.iaA Z ax Z Tryz.runUnderlying89 Tryz.sizeOf88 (wCC ao) (wCD ao)) (oR Z (Runs.iaA Z Z Z Tryz.runUnderlying88 zD (wCC an) (wCD an)) ?_))))))
 have d7:=Arr.at_ ab (k:=(au * 8 + am)) (by have hz0:=wAY ao;have hz1:=wAY an;omega)
 refine ZE rfl rfl rfl rfl (az.ldB (j:=1) rfl rfl rfl zF (wAa (sz:=1) (fun _=>rfl) _ _ 0 _ d7 (by first | omega | rfl | simp) rfl)) rfl (ze rfl rfl rfl rfl (fun _=>yt rfl rfl rfl) (eN (ifc eA ?_ ?_)))
 intro bF eB
 refine cT Z bF (rR (wET (.fx 4 .nil .stop)) Z (oR Z (zJ Z ak ZU Z zD) (oL Z (az.ldB (j:=0) Z Z Z zF (v:=jV ap) Z) (oR Z (za Z Z Z) (oR Z (zJ Z ak ZU Z zD) (zX (j:=0) (vs:=[jV (w64 (ap + 1))]) Z Z Z Z az Z Z Z Z zD (zA Z) Z Z Z ?_))))))
 intro cL dC
 have dD:sW w U av [.blk aq 37 [jV aU,jV (w64 (ap + 1))],.blk aj 89 (hD KL.encI ab.l),B1,.obj af (.map ah ag),.blk b2 45 B0,B4] cL:=dC
 refine zg (zx (zI (rR fL2 Z (oR Z (ZG (za Z aW Z) (congrArg (jV) bk.out)) (oM Z Z (zg ?_))))))
 cases eB
 exact zI ⟨Z,⟨av,Z,bf,ax,bg,ay,ak,bh,bi,bd,bm,dD⟩⟩
 intro bF eD
 refine cF Z bF (Zi (zx (zI (rR fL2 Z (oR Z (ZG (za Z aW Z) (congrArg (jV) bk.out)) (oM Z Z (zg ?_)))))))
 cases eD
 exact zI ⟨Z,⟨av,Z,bf,ax,bg,ay,ak,bh,bi,bd,bm,az⟩⟩
 rintro fA fb ⟨bz,dg,cY,cZ,c6,ff,c8,da,db,dd,eQ,cu⟩
 have cS:Hid (¬ ((↑(((↑p0.Starts.length:Int):Int) - 0).toNat:Int) < (↑p0.Starts.length:Int))):=zM (wAf)
 refine sR fL1 Z (oR Z (zY Z dg dd) (eN (zL (cF Z cS (Zd (zn (zn (ZV (zI (rR gEu Z (oM Z c6 ?_)))))))))))
 let B5:List Value:=[jV bu,jV bv]
 refine oL Z (cu.ldBA (j:=0) Z Z c8 yE ZD (vs:=B5) Z Z) (zo (pv:=[(0,.agg B5.toArray)]) (zs:=B2) (cs:=B5) Z Z Z Z Z (wAD Z wAM) ZP ZD ZQ Z Z Z Z Z cu ?_)
 intro cM cR dE
 let B6:Res:=.row (some ⟨cR,0,none⟩) 1 37 2 (hD wAF [(⟨bu,bv⟩:wAI)])
 have cw:sW w U bz [B6,.blk aq 37 B5,.blk aj 89 (hD KL.encI ab.l),B1,.obj af (.map ah ag),.blk b2 45 B0,B4] cM:=dE
 refine bnK cA fun cC di eF=>yK (j:=6) (enc:=wAF) (xs:=aX) (ys:=[(⟨bu,bv⟩:wAI)]) (zs:=cC) rfl rfl rfl rfl rfl Tryz.underlying42 wMW rfl rfl rfl rfl rfl rfl cw rfl rfl rfl (cw.srcR (j:=0) rfl (by decide) (wAC (f:=wAF) (sz:=2) (fun _=>rfl) [(⟨bu,bv⟩:wAI)])) (fun _=>rfl) (fun _=>rfl) di rfl ?_
 intro bS cg cN dF
 have dG:sW w U bz [B6,.blk aq 37 B5,.blk aj 89 (hD KL.encI ab.l),B1,.obj af (.map ah ag),.blk b2 45 B0,.row bS cg 37 2 (hD wAF cC)] cN:=dF
 refine oA Z Z (zg (zx (zI (rR fL2 Z (oR Z (ZG (za Z db Z) (congrArg (jV) d9.out)) (oM Z Z (zg ?_)))))))
 cases eF
 exact zI ⟨rfl,⟨bz,bS,cg,rfl,cY,cZ,rfl,da,(eU.trans eQ),(dG.pick [2,3,4,5,6] _ (by decide) rfl)⟩⟩
 rintro fB fc ⟨cG,cE,cU,dh,fg,fh,de,df,fk,dH⟩
 have cV:Hid (¬ ((↑(((↑p0.Starts.length:Int):Int) - 0).toNat:Int) < (↑p0.Starts.length:Int))):=zM (wAf)
 refine sR fL1 Z (oR Z (zY Z dh df) (eN (zL (cF Z cV (Zd (zn (zn (ZV (zI (sR fL3 Z (oM Z de (oA Z Z (oA Z Z (eN (zR ?_)))))))))))))))
 cases eM
 exact ⟨rfl,_,(wEF rfl rfl),cG,_,(dH.pick [4] _ (by decide) rfl),cE,cU,rfl,rfl⟩
 intro bH eG
 refine cT Z bH (sR fL3 Z (oM Z Z (oA Z Z (oA Z Z (eN (zR (zS ?_)))))))
 have dI:=cy.nilrow 37 2
 cases eG
 exact ⟨rfl,_,(wEF rfl rfl),U9,_,(dI.pick [0] _ (by decide) rfl),none,0,rfl,rfl⟩
theorem wGj (p0:wAK) (p1:Int) (af:Nat) (p2:Int) (ag:Nat) (w:World) (U:PHeap) (hS:St0 w U []) (ah:Cl U af 0 [jV p1]) (ai:Cl U ag 0 [jV p2]) {r:Bool} (hm:wCi p0 p1 p2=some r):Gv Tryz.prog 63 [.agg #[jV p0.Skier,jV p0.Mat,jV p0.Clock,jV p0.Time],.pointer (some ⟨af,0,none⟩),.pointer (some ⟨ag,0,none⟩)] w (wBa w [] U (fun U_ L_ v=>v=.bool r/\L_=[])):=by
 unfold wCi at hm
 refine Gv.of Tryz.func63 rfl Tryz.ntmps63 Tryz.results63 rfl (sR gDx rfl (ZC (cs:=[jV p0.Skier,jV p0.Mat,jV p0.Clock,jV p0.Time]) rfl rfl rfl rfl rfl rfl (by rfl) hS ?_))
 intro W1 b2 ae
 refine oA Z Z (eN (sR fL10 Z (oR Z (zJ Z Z ZL Z zD) (oL Z (ae.ldB (j:=0) Z Z Z zF (v:=jV p0.Skier) Z) (oR Z (zJ Z Z ZL Z zD) (oL Z (ae.ldB (j:=0) Z Z Z zF (v:=jV p0.Mat) Z) (oR Z (zu (pv:=[(0,jV p0.Skier),(1,jV p0.Mat)]) (z:=[jV 0,jV 0]) (cs:=[jV p0.Skier,jV p0.Mat]) Z (wAD Z (wAD Z wAM)) yF wFZ Z Z) (oL Z (ae.ldC (f:=0) ah (v:=jV p1) Z Z zF Z) (oL Z (ae.ldC (f:=0) ai (v:=jV p2) Z Z zF Z) (oR Z (zu (pv:=[(0,jV p1),(1,jV p2)]) (z:=[jV 0,jV 0]) (cs:=[jV p1,jV p2]) Z (wAD Z (wAD Z wAM)) yF wFZ Z Z) (oR Z (Runs.eqS (enc:=wAU) (a:=(⟨p0.Skier,p0.Mat⟩:wAP)) (b:=(⟨p1,p2⟩:wAP)) Z Z Z wNu wNt) (oA Z Z (eN (zR ?_))))))))))))))
 first | (obtain rfl:=nB hm) | cases hm
 exact ⟨rfl,_,(ZH rfl),U,_,(ae.pick [] _ (by decide) rfl),rfl,rfl⟩
theorem wCc (p0:List wAK) (am:Option Addr) (an:Nat) (p1:(wAK->Option Bool)) (ao:Value) (w:World) (U:PHeap) (hS:St0 w U []) (bh:Sl U 4 am an p0.length (hD wAB p0)) (bi:FnOK Tryz.prog U ao wKC wKD p1) {r:Int} (hm:wAw p0 p1=some r):Gv Tryz.prog 104 [.slice am p0.length an,ao] w (wBa w [] U (fun U_ L_ v=>v=jV r/\L_=[])):=by
 unfold wAw at hm
 refine Gv.of Tryz.func104 Z Tryz.ntmps104 Tryz.results104 Z (sR fL1 Z (oA Z Z (eN (zL (sR fL3 Z (oM Z Z (oR Z (zr Z Z ZY) (oM Z Z (eN (zb ?_))))))))))
 have q:=wBQ hm
 obtain ⟨r3,ah⟩:=q
 have q:=wBP ah
 obtain ⟨aj,bm⟩:=q
 replace aj:=zM aj
 refine yG (fun k2 _ σ_ w_=>∃ (U_:PHeap),σ_ 8=jV (↑k2:Int)/\σ_ 0=.slice am p0.length an/\σ_ 1=ao/\σ_ 7=jV (↑p0.length:Int)/\PHeap.Le U U_/\sW w U U_ [] w_) bm ?_ ?_ ?_
 exact ⟨U,Z,Z,Z,Z,(zN _),hS⟩
 rintro k2 ⟨⟩ bI bK W8 ai ⟨bw,ag,aq,au,av,ak,ay⟩ aV bj
 try dsimp only at aV
 have ap:Hid ((↑k2:Int) < (↑p0.length:Int)):=zM (wAr ai)
 replace ai:=zM ai
 have bn:Hid (w64 ((↑k2:Int) + 1)=(↑(k2 + 1):Int)):=zM (by have h1:=aj.out;have h2:=ap.out;rw [wAW] <;> omega)
 refine sR fL1 Z (oR Z (zY Z ag av) (eN (zL (cT Z ap (kN (zL (zb (sR fL2 Z (oM Z ag (oA Z Z (eN (sR (wHC (.fx 5 .nil .stop)) Z (oM Z au (oM Z aq (oM Z Z (bnK aV fun ac ax bo=>?_))))))))))))))))
 have ba:=bh.le ak
 have q:=ba.el (fun _=>rfl) (wAX ax)
 obtain ⟨bA,bE,bd,be⟩:=q
 refine oR Z (ZR Z Z bd Z ZY Zg (wBA ax)) (oL Z (ay.ldCA (f:=0) be Z Z yr Zg (us:=[jV ac.Skier,jV ac.Mat,jV ac.Clock,jV ac.Time]) Z Z) (bnK bo fun bH bb bp=>?_))
 have bc:=bi.le ak
 refine YF (a:=ac) Z Z Z Z Z Z (zB Z zO) ay bc Z bb ?_
 rintro ae bv bG aY bt bf ⟨rfl,rfl⟩
 have az:sW w U ae [] aY:=bf
 refine eN (ifc bp ?_ ?_)
 intro af bq
 refine ZJ (congrArg hJ af.out) (sR fL2 Z (oM Z Z (oA Z Z (eN (zR (zd (zS ?_)))))))
 have q:=wAZ bq
 obtain ⟨bu,br,a6⟩:=q
 have q:=wBB hm ah (bj bu a6)
 obtain rfl:=q
 refine zS (zd (zS ?_))
 cases br
 exact ⟨Z,_,(ZH Z),ae,_,az,Z,Z⟩
 intro af bs
 refine zy (congrArg hJ (nA.2 af.out)) (Zi (zx (zI (rR fL2 Z (oR Z (ZG (za Z ag Z) (congrArg (jV) bn.out)) (oM Z Z (zg ?_)))))))
 have q:=nB bs
 obtain rfl:=q
 exact zI ⟨Z,_,Z,⟨ae,Z,aq,au,av,(ak.trans bt),az⟩⟩
 rintro ⟨⟩ bJ bx ⟨aX,a8,bB,bC,a7,bD,bg⟩ bk
 have aU:=wCE hm ah bk
 try dsimp only at aU
 have aZ:Hid (¬ ((↑(((↑p0.length:Int):Int) - 0).toNat:Int) < (↑p0.length:Int))):=zM (wAf)
 refine sR fL1 Z (oR Z (zY Z a8 a7) (eN (zL (cF Z aZ (Zd (zn (zn (ZV (zI (sR fL1 Z (oA Z Z (eN (zR ?_)))))))))))))
 cases aU
 exact ⟨Z,_,(ZH Z),aX,_,bg,Z,Z⟩
theorem wCT (p0:List wAK) (ac:Option Addr) (ae:Nat) (p1:(wAK->Option Bool)) (af:Value) (w:World) (U:PHeap) (hS:St0 w U []) (an:Sl U 4 ac ae p0.length (hD wAB p0)) (ao:FnOK Tryz.prog U af wKC wKD p1) {r:Bool} (hm:wAp p0 p1=some r):Gv Tryz.prog 62 [.slice ac p0.length ae,af] w (wBa w [] U (fun U_ L_ v=>v=.bool r/\L_=[])):=by
 unfold wAp at hm
 refine Gv.of Tryz.func62 Z Tryz.ntmps62 Tryz.results62 Z (sR fL1 Z (oA Z Z (eN (sR gEr Z (oM Z Z (oM Z Z (bnK hm fun x1 h2 ah=>zH 0 Z Z Z Z (zG Z Z Tryz.call104 (zB Z (zB Z zO)) Z) hS (fun hs=>wCc p0 ac ae p1 af w U hs an ao h2) (.inr Z) ?_)))))))
 rintro U4 L5 v6 W7 aq am ⟨rfl,rfl⟩
 have ak:sW w U U4 [] W7:=am
 refine oR Z (Runs.geq Z Z Z) (oA Z Z (eN (zR ?_)))
 first | (obtain rfl:=nB ah) | cases ah
 exact ⟨Z,_,(ZH Z),U4,_,ak,Z,Z⟩
theorem wHY (p0:wAE) (aZ:Option Addr) (a7:Nat) (a6:Option Addr) (a8:Nat) (bi:Option Addr) (bj:Nat) (ao:Option Addr) (ap:Nat) (w:World) (U:PHeap) (hS:St0 w U []) (dz:Sl U 1 aZ a7 p0.Starts.length (hD KL.encI p0.Starts)) (dA:Sl U 2 a6 a8 p0.Splits.length (hD wAF p0.Splits)) (dB:Sl U 3 bi bj p0.Clocks.length (hD wAA p0.Clocks)) (bU:Sl U 4 ao ap p0.Readings.length (hD wAB p0.Readings)) {r:(List wAP) × Int} (hm:wEg p0=some r):Gv Tryz.prog 37 [.agg #[.slice aZ p0.Starts.length a7,.slice a6 p0.Splits.length a8,.slice bi p0.Clocks.length bj,.slice ao p0.Readings.length ap]] w (wBa w [] U (fun U_ L_ v=>∃ (A0:Option Addr) (c0:Nat),v=.tuple #[.slice A0 r.1.length c0,jV r.2]/\L_=[.row A0 c0 62 2 (hD wAU r.1)])):=by
 unfold wEg at hm
 refine Gv.of Tryz.func37 Z Tryz.ntmps37 Tryz.results37 Z (sR gEg Z ?_)
 let B0:List Value:=[.slice aZ p0.Starts.length a7,.slice a6 p0.Splits.length a8,.slice bi p0.Clocks.length bj,.slice ao p0.Readings.length ap]
 refine ZC (cs:=B0) rfl rfl rfl rfl rfl rfl (by rfl) hS ?_
 intro W1 b2 bS
 refine oA Z Z (oA Z Z (eN (zL (sR gEe Z (oL Z (bS.ldBA (j:=0) Z Z Z zz zh (vs:=B0) Z Z) (bnK hm fun x5 h6 dO=>zH 0 Z Z Z Z (zG Z Z Tryz.call58 (zB Z zO) Z) bS (fun hs=>wEY p0 aZ a7 a6 a8 bi bj ao ap W1 U hs dz dA dB bU h6) (.inr Z) ?_))))))
 rintro U8 L9 ef cj dQ cX ⟨rfl,rfl⟩
 have bx:sW w U U8 [.blk b2 45 B0] cj:=cX
 refine oA Z Z (eN (sR fL2 Z (oM Z Z (oR Z (Zk Z Z Z) (eN (ifc dO ?_ ?_))))))
 intro bs dJ
 refine zy (ZM (fun h=>h bs.out)) (kN (sR fL1 Z (oA Z Z (eN (zL (sR fL4 Z (oR Z (zJ Z Z zP Z zZ) (oL Z (bx.ldB (j:=0) Z Z Z zj (v:=.slice aZ p0.Starts.length a7) Z) (oR Z (zr Z Z zC) (oM Z Z (eN (zb (bnK dJ fun eB dD dN=>?_)))))))))))))
 have q:=wBM dD
 obtain ⟨bA,dE⟩:=q
 replace bA:=zM bA
 refine CK.forN' (fun af bg σ_ w_=>∃ (U_:PHeap) (aq:Option Addr) (av:Nat),σ_ 16=jV (↑af:Int)/\σ_ 1=.pointer (some ⟨b2,0,none⟩)/\σ_ 5=.slice aq bg.length av/\σ_ 15=jV (↑p0.Starts.length:Int)/\PHeap.Le U8 U_/\sW w U U_ [.blk b2 45 B0,.row aq av 62 2 (hD wAU bg)] w_) dE ?_ ?_ ?_
 have dn:=bx.nilrow 62 2
 exact ⟨U8,none,0,rfl,rfl,rfl,rfl,(zN _),(dn.pick [1,0] _ (by decide) rfl)⟩
 rintro af bg ew eF dY bz ⟨bE,aq,av,bw,cE,cG,bK,bX,dp⟩ dP
 have bJ:Hid ((↑af:Int) < (↑p0.Starts.length:Int)):=zM (wAr bz)
 replace bz:=zM bz
 have dF:Hid (w64 ((↑af:Int) + 1)=(↑(af + 1):Int)):=zM (by have h1:=bA.out;have h2:=bJ.out;rw [wAW] <;> omega)
 refine sR fL1 Z (oR Z (zY Z bw bK) (eN (zL (cT Z bJ (kN (zL (zb (sR gEh Z (oM Z bw (zW (cs:=[jV 0]) Z Z Z Z Z zt Z dp ?_))))))))))
 intro dZ ah dq
 let B1:List Value:=[jV (↑af:Int)]
 refine zX (j:=0) (vs:=B1) Z Z Z Z dq Z Z Z Z zD (zA Z) Z Z Z ?_
 intro cx dr
 let B2:Res:=.row aq av 62 2 (hD wAU bg)
 have dt:sW w U bE [.blk ah 3 B1,.blk b2 45 B0,B2] cx:=dr
 refine eN (sR gEa Z (zW (cs:=[jV 0]) Z Z Z Z Z zt Z dt ?_))
 intro d5 bq du
 refine zX (j:=0) (vs:=[jV 1]) Z Z Z Z du Z Z Z Z zD (zA Z) Z Z Z ?_
 intro bF dv
 have dw:sW w U bE [.blk bq 3 [jV 1],.blk ah 3 B1,.blk b2 45 B0,B2] bF:=dv
 refine eN (zb ?_)
 have q:=dw.freeze (k:=1) rfl
 obtain ⟨bd,bY,az,dx⟩:=q
 replace az:=Cl.of az
 have dy:sW w U bd [.blk bq 3 [jV 1],.blk b2 45 B0,B2] bF:=dx
 replace az:Cl bd ah 0 B1:=az
 refine CK.iter (fun (aW,ab) σ_ w_=>∃ (U_:PHeap) (am:Option Addr) (an:Nat) (ai:Nat),σ_ 1=.pointer (some ⟨b2,0,none⟩)/\σ_ 5=.slice am aW.length an/\σ_ 6=.pointer (some ⟨ah,0,none⟩)/\σ_ 7=.pointer (some ⟨ai,0,none⟩)/\σ_ 15=jV (↑p0.Starts.length:Int)/\σ_ 16=jV (↑af:Int)/\PHeap.Le bd U_/\sW w U U_ [.blk b2 45 B0,.row am an 62 2 (hD wAU aW),.blk ai 3 [jV ab]] w_) dP ?_ ?_
 exact ⟨bd,aq,av,bq,cE,cG,rfl,rfl,bK,bw,(zN _),(dy.pick [1,2,0] _ (by decide) rfl)⟩
 rintro ⟨aW,ab⟩ eA eG bG ⟨cd,am,an,ai,ax,bt,bf,ay,bu,bv,aX,aU⟩ bB dC
 try dsimp only at bB
 refine zL (sR fL5 Z (oL Z (aU.ldB (j:=2) Z Z ay zF (v:=jV ab) Z) (oR Z (zJ Z ax zP Z yA) (oL Z (aU.ldB (j:=0) Z Z Z yL (v:=.slice a6 p0.Splits.length a8) Z) (oR Z (zr Z Z ZP) (oR Z (YH Z Z Z) (eN ?_)))))))
 by_cases aj:ab <= (↑p0.Splits.length:Int)
 have bV:=bB;rw [if_pos aj] at bV;replace aj:=zM aj
 refine cT Z aj (kN (zL (zb (sR (wCv gDv) Z (oR Z (zJ Z ax zP Z Zo) (oL Z (aU.ldB (j:=0) Z Z Z yN (v:=.slice ao p0.Readings.length ap) Z) ?_))))))
 have q:=aU.freeze (k:=2) rfl
 obtain ⟨bc,bh,ak,cV⟩:=q
 replace ak:=Cl.of ak
 let B3:Res:=.row am an 62 2 (hD wAU aW)
 have cW:sW w U bc [.blk b2 45 B0,B3] bG:=cV
 replace ak:Cl bc ai 0 [jV ab]:=ak
 refine oR Z (YD Z zO (zB bf (zB ay zO))) ?_
 have cI:=bU.le dQ
 have cJ:=cI.le bX
 have cK:=cJ.le bY
 have cL:=cK.le aX
 have cM:=cL.le bh
 have cN:=az.le aX
 have bL:=cN.le bh
 have cU:FnOK Tryz.prog bc (.func (.func 63) #[] #[.pointer (some ⟨ah,0,none⟩),.pointer (some ⟨ai,0,none⟩)]) wKC wKD (fun x=>wCi x (↑af:Int) ab):=⟨63,[],[.pointer (some ⟨ah,0,none⟩),.pointer (some ⟨ai,0,none⟩)],rfl,Tryz.call63,fun U1 w1 x y vs le hs ha hm=>by obtain rfl:=ha;exact wGj x (↑af:Int) ah ab ai w1 U1 hs (bL.le le) (ak.le le) hm⟩
 refine bnK bV fun ep cO dG=>zH 0 Z Z Z Z (zG Z Z Tryz.call62 (zB Z (zB Z zO)) Z) cW (fun hs=>wCT p0.Readings ao ap (fun x=>wCi x (↑af:Int) ab) (.func (.func 63) #[] #[.pointer (some ⟨ah,0,none⟩),.pointer (some ⟨ai,0,none⟩)]) bG bc hs cM cU cO) (.inr Z) ?_
 rintro ag dT eh cm aY cY ⟨rfl,rfl⟩
 have aV:sW w U ag [.blk b2 45 B0,B3] cm:=cY
 refine oR Z (ZW Z Z) (eN (ifc dG ?_ ?_))
 intro br dH
 refine zy (nC br.out) (Zi (zx (zI (zL (sR fL1 Z ?_)))))
 have cP:=ak.le aY
 refine oL Z (aV.ldC (f:=0) cP (v:=jV ab) Z ay zF Z) (eN (rR gEa Z (zW (cs:=[jV 0]) Z Z Z Z Z zt Z aV ?_)))
 intro dV bo cZ
 refine zX (j:=0) (vs:=[jV ab]) Z Z Z Z cZ Z Z Z Z zD (zA Z) Z Z Z ?_
 intro co c6
 have bN:sW w U ag [.blk bo 3 [jV ab],.blk b2 45 B0,B3] co:=c6
 refine eN (rR gEi Z (oL Z (bN.ldB (j:=0) Z Z Z zF (v:=jV ab) Z) (oR Z (za Z Z Z) (zX (j:=0) (vs:=[jV (w64 (ab + 1))]) Z Z Z Z bN Z Z Z Z zD (zA Z) Z Z Z ?_))))
 intro cp c8
 have da:sW w U ag [.blk bo 3 [jV (w64 (ab + 1))],.blk b2 45 B0,B3] cp:=c8
 refine zg ?_
 have q:=nB dH
 obtain rfl:=q
 exact zI ⟨rfl,_,rfl,⟨ag,am,an,bo,ax,bt,bf,rfl,bu,bv,((aX.trans bh).trans aY),(da.pick [1,2,0] _ (by decide) rfl)⟩⟩
 intro br dI
 refine ZJ (nF (br.out)) (rR (wET (.fx 4 (.fx 5 (.fl 6 .nil) .stop) .stop)) Z (oM Z bt ?_))
 have cQ:=bL.le aY
 refine oL Z (aV.ldC (f:=0) cQ (v:=jV (↑af:Int)) Z bf zF Z) ?_
 have bM:=ak.le aY
 refine oL Z (aV.ldC (f:=0) bM (v:=jV ab) Z ay zF Z) ?_
 let B4:List Value:=[jV (↑af:Int),jV ab]
 refine oR Z (zu (pv:=[(0,jV (↑af:Int)),(1,jV ab)]) (z:=[jV 0,jV 0]) (cs:=B4) Z (wAD Z (wAD Z wAM)) yF wFZ Z Z) (zo (pv:=[(0,.agg B4.toArray)]) (zs:=[jV 0,jV 0]) (cs:=B4) Z Z Z Z Z (wAD Z wAM) Zu ZX yF Z Z Z Z Z aV ?_)
 intro cq cy db
 let B5:Res:=.row (some ⟨cy,0,none⟩) 1 62 2 (hD wAU [(⟨(↑af:Int),ab⟩:wAP)])
 have bP:sW w U ag [B5,.blk b2 45 B0,B3] cq:=db
 refine bnK dI fun bZ cR dK=>yK (j:=2) (enc:=wAU) (xs:=aW) (ys:=[(⟨(↑af:Int),ab⟩:wAP)]) (zs:=bZ) rfl rfl rfl rfl rfl Tryz.underlying103 wNr rfl rfl rfl rfl rfl rfl bP rfl rfl rfl (bP.srcR (j:=0) rfl (by decide) (wAC (f:=wAU) (sz:=2) (fun _=>rfl) [(⟨(↑af:Int),ab⟩:wAP)])) (fun _=>rfl) (fun _=>rfl) cR rfl ?_
 intro bD bI cr dd
 let B6:Res:=.row bD bI 62 2 (hD wAU bZ)
 have bQ:sW w U ag [B5,.blk b2 45 B0,B6] cr:=dd
 refine oA Z Z (zg (zx (zI (zL (sR fL1 Z (oL Z (bQ.ldC (f:=0) bM (v:=jV ab) Z ay zF Z) (eN (rR gEa Z (zW (cs:=[jV 0]) Z Z Z Z Z zt Z bQ ?_)))))))))
 intro dW bp de
 refine zX (j:=0) (vs:=[jV ab]) Z Z Z Z de Z Z Z Z zD (zA Z) Z Z Z ?_
 intro cu df
 have bR:sW w U ag [.blk bp 3 [jV ab],B5,.blk b2 45 B0,B6] cu:=df
 refine eN (rR gEi Z (oL Z (bR.ldB (j:=0) Z Z Z zF (v:=jV ab) Z) (oR Z (za Z Z Z) (zX (j:=0) (vs:=[jV (w64 (ab + 1))]) Z Z Z Z bR Z Z Z Z zD (zA Z) Z Z Z ?_))))
 intro cw dg
 have dh:sW w U ag [.blk bp 3 [jV (w64 (ab + 1))],B5,.blk b2 45 B0,B6] cw:=dg
 refine zg ?_
 have q:=nB dK
 obtain rfl:=q
 exact zI ⟨rfl,_,rfl,⟨ag,bD,bI,bp,ax,rfl,bf,rfl,bu,bv,((aX.trans bh).trans aY),(dh.pick [2,3,0] _ (by decide) rfl)⟩⟩
 have bW:=bB;rw [if_neg aj] at bW;replace aj:=zM aj
 refine cF Z aj (Zd (zn ?_))
 have q:=wAZ bW
 obtain ⟨dR,dL,cB⟩:=q
 have q:=dC dR cB
 obtain rfl:=q
 refine zn (ZV (zx (zI (rR fL2 Z (oR Z (ZG (za Z bv Z) (congrArg (jV) dF.out)) (oM Z Z (zg ?_)))))))
 cases dL
 exact zI ⟨rfl,⟨cd,am,an,rfl,ax,bt,bu,((bX.trans bY).trans aX),(aU.pick [0,1] _ (by decide) rfl)⟩⟩
 rintro eD dX ⟨cg,ca,cz,cH,d7,cC,cD,d9,di⟩
 have cA:Hid (¬ ((↑(((↑p0.Starts.length:Int):Int) - 0).toNat:Int) < (↑p0.Starts.length:Int))):=zM (wAf)
 refine sR fL1 Z (oR Z (zY Z cH cD) (eN (zL (cF Z cA (Zd (zn (zn (ZV (zI (sR fL3 Z (oM Z cC (oA Z Z (oA Z Z (eN (zR ?_)))))))))))))))
 cases dN
 exact ⟨rfl,_,(wEF rfl rfl),cg,_,(di.pick [1] _ (by decide) rfl),ca,cz,rfl,rfl⟩
 intro bs dM
 refine cT Z bs (sR fL3 Z (oM Z Z (oA Z Z (oA Z Z (eN (zR (zS ?_)))))))
 have dm:=bx.nilrow 62 2
 cases dM
 exact ⟨rfl,_,(wEF rfl rfl),U8,_,(dm.pick [0] _ (by decide) rfl),none,0,rfl,rfl⟩
end Go.Proofs.YtkghaiefcjgfkaaGreat
namespace Go.Proofs.YtkghaiefcjgfkaaGreat
open Go.KL
set_option maxHeartbeats 4000000
theorem wEL (p0:List wAI) (ao:Option Addr) (aq:Nat) (p1:List wAI) (ap:Option Addr) (au:Nat) (w:World) (U:PHeap) (hS:St0 w U []) (bo:Sl U 2 ao aq p0.length (hD wAF p0)) (bp:Sl U 2 ap au p1.length (hD wAF p1)) {r:Bool} (hm:wCL p0 p1=some r):Gv Tryz.prog 38 [.slice ao p0.length aq,.slice ap p1.length au] w (wBa w [] U (fun U_ L_ v=>v=.bool r/\L_=[])):=by
 unfold wCL at hm
 refine Gv.of Tryz.func38 Z Tryz.ntmps38 Tryz.results38 Z (sR fL1 Z (oA Z Z (eN (zL (sR fL5 Z (oM Z Z (oR Z (zr Z Z ZP) (oM Z Z (oR Z (zr Z Z ZP) (oR Z (Zk Z Z Z) (eN ?_)))))))))))
 by_cases c1:(↑p0.length:Int)=(↑p1.length:Int)
 have ag:=hm;rw [if_pos c1] at ag;replace c1:=zM c1
 refine zy (ZM (fun h=>h c1.out)) (kN (zL (sR fL3 Z (oM Z Z (oR Z (zr Z Z ZP) (oM Z Z (eN (zb ?_))))))))
 have q:=wBQ ag
 obtain ⟨r5,aj⟩:=q
 have q:=wBP aj
 obtain ⟨am,bs⟩:=q
 replace am:=zM am
 refine yG (fun k4 _ σ_ w_=>∃ (U_:PHeap),σ_ 13=jV (↑k4:Int)/\σ_ 0=.slice ao p0.length aq/\σ_ 1=.slice ap p1.length au/\σ_ 12=jV (↑p0.length:Int)/\PHeap.Le U U_/\sW w U U_ [] w_) bs ?_ ?_ ?_
 exact ⟨U,Z,Z,Z,Z,(zN _),hS⟩
 rintro k4 ⟨⟩ bL bN az ak ⟨ay,ai,aV,aW,aX,an,bm⟩ a8 bq
 try dsimp only at a8
 have aU:Hid ((↑k4:Int) < (↑p0.length:Int)):=zM (wAr ak)
 replace ak:=zM ak
 have bt:Hid (w64 ((↑k4:Int) + 1)=(↑(k4 + 1):Int)):=zM (by have h1:=am.out;have h2:=aU.out;rw [wAW] <;> omega)
 refine sR fL1 rfl (ze rfl rfl rfl rfl (fun _=>zY rfl ai aX) (eN (zL (cT Z aU (kN (zL (zb (sR fL2 rfl (zm rfl rfl rfl rfl rfl ai (yB rfl rfl rfl rfl rfl rfl (eN (zL (ZF ZB [3,3,3,1,3,3,3,1,3] fL9 (by kernel_rfl) ?_)))))))))))))
 have ae:=bm.drew
 generalize hw_W25:({ az with drawn:=az.drawn + 1 }:World)=bB at ae ⊢
 refine oM Z aV (oM Z Z (bnK a8 fun av aY bu=>?_))
 have bf:=bo.le an
 have q:=bf.el (fun _=>rfl) (wAX aY)
 obtain ⟨bD,bI,bh,bj⟩:=q
 refine oR Z (ZR Z Z bh Z ZP ZD (wBA aY)) (oL Z (ae.ldCA (f:=0) bj Z Z yE ZD (us:=[jV av.Lo,jV av.Hi]) Z Z) (oM Z aW (oM Z Z (bnK bu fun ax aZ bv=>?_))))
 have bg:=bp.le an
 have q:=bg.el (fun _=>rfl) (wAX aZ)
 obtain ⟨bE,bJ,bi,bk⟩:=q
 refine oR Z (ZR Z Z bi Z ZP ZD (wBA aZ)) (oL Z (ae.ldCA (f:=0) bk Z Z yE ZD (us:=[jV ax.Lo,jV ax.Hi]) Z Z) (oR Z (ZG (Runs.neS (enc:=wAF) (a:=av) (b:=ax) Z Z Z wLu wLt) (congrArg hJ (decide_not).symm)) (eN (ifc bv ?_ ?_))))
 intro ah bw
 refine zy (ZM (fun h=>h ah.out)) (Zi (zx (zI (rR fL2 Z (oR Z (ZG (za Z ai Z) (congrArg (jV) bt.out)) (oM Z Z (zg ?_)))))))
 have q:=nB bw
 obtain rfl:=q
 exact zI ⟨Z,_,Z,⟨ay,Z,aV,aW,aX,an,ae⟩⟩
 intro ah bx
 refine cT Z ah (sR fL1 Z (oA Z Z (eN (zR (zd (zS ?_))))))
 have q:=wAZ bx
 obtain ⟨bA,bz,bc⟩:=q
 have q:=wBB ag aj (bq bA bc)
 obtain rfl:=q
 refine zS (zd (zS ?_))
 have hE:=nB bz;first | subst r | cases hE
 exact ⟨Z,_,(ZH Z),ay,_,ae,Z,Z⟩
 rintro ⟨⟩ bM bC ⟨ba,be,bF,bG,bd,bH,bn⟩ br
 have a6:=wCE ag aj br
 try dsimp only at a6
 have bb:Hid (¬ ((↑(((↑p0.length:Int):Int) - 0).toNat:Int) < (↑p0.length:Int))):=zM (wAf)
 refine sR fL1 Z (oR Z (zY Z be bd) (eN (zL (cF Z bb (Zd (zn (zn (ZV (zI (sR fL1 Z (oA Z Z (eN (zR ?_)))))))))))))
 have hE:=nB a6;first | subst r | cases hE
 exact ⟨Z,_,(ZH Z),ba,_,bn,Z,Z⟩
 have a7:=hm;rw [if_neg c1] at a7;replace c1:=zM c1
 refine cT Z c1 (sR fL1 Z (oA Z Z (eN (zR (zS ?_)))))
 have hE:=nB a7;first | subst r | cases hE
 exact ⟨Z,_,(ZH Z),U,_,hS,Z,Z⟩
theorem wEA (p0:List wAP) (ao:Option Addr) (aq:Nat) (p1:List wAP) (ap:Option Addr) (au:Nat) (w:World) (U:PHeap) (hS:St0 w U []) (bo:Sl U 2 ao aq p0.length (hD wAU p0)) (bp:Sl U 2 ap au p1.length (hD wAU p1)) {r:Bool} (hm:wCA p0 p1=some r):Gv Tryz.prog 39 [.slice ao p0.length aq,.slice ap p1.length au] w (wBa w [] U (fun U_ L_ v=>v=.bool r/\L_=[])):=by
 unfold wCA at hm
 refine Gv.of Tryz.func39 Z Tryz.ntmps39 Tryz.results39 Z (sR fL1 Z (oA Z Z (eN (zL (sR fL5 Z (oM Z Z (oR Z (zr Z Z Zu) (oM Z Z (oR Z (zr Z Z Zu) (oR Z (Zk Z Z Z) (eN ?_)))))))))))
 by_cases c1:(↑p0.length:Int)=(↑p1.length:Int)
 have ag:=hm;rw [if_pos c1] at ag;replace c1:=zM c1
 refine zy (ZM (fun h=>h c1.out)) (kN (zL (sR fL3 Z (oM Z Z (oR Z (zr Z Z Zu) (oM Z Z (eN (zb ?_))))))))
 have q:=wBQ ag
 obtain ⟨r5,aj⟩:=q
 have q:=wBP aj
 obtain ⟨am,bs⟩:=q
 replace am:=zM am
 refine yG (fun k4 _ σ_ w_=>∃ (U_:PHeap),σ_ 13=jV (↑k4:Int)/\σ_ 0=.slice ao p0.length aq/\σ_ 1=.slice ap p1.length au/\σ_ 12=jV (↑p0.length:Int)/\PHeap.Le U U_/\sW w U U_ [] w_) bs ?_ ?_ ?_
 exact ⟨U,Z,Z,Z,Z,(zN _),hS⟩
 rintro k4 ⟨⟩ bL bN az ak ⟨ay,ai,aV,aW,aX,an,bm⟩ a8 bq
 try dsimp only at a8
 have aU:Hid ((↑k4:Int) < (↑p0.length:Int)):=zM (wAr ak)
 replace ak:=zM ak
 have bt:Hid (w64 ((↑k4:Int) + 1)=(↑(k4 + 1):Int)):=zM (by have h1:=am.out;have h2:=aU.out;rw [wAW] <;> omega)
 refine sR fL1 rfl (ze rfl rfl rfl rfl (fun _=>zY rfl ai aX) (eN (zL (cT Z aU (kN (zL (zb (sR fL2 rfl (zm rfl rfl rfl rfl rfl ai (yB rfl rfl rfl rfl rfl rfl (eN (zL (ZF ZB [3,3,3,1,3,3,3,1,3] fL9 (by kernel_rfl) ?_)))))))))))))
 have ae:=bm.drew
 generalize hw_W25:({ az with drawn:=az.drawn + 1 }:World)=bB at ae ⊢
 refine oM Z aV (oM Z Z (bnK a8 fun av aY bu=>?_))
 have bf:=bo.le an
 have q:=bf.el (fun _=>rfl) (wAX aY)
 obtain ⟨bD,bI,bh,bj⟩:=q
 refine oR Z (ZR Z Z bh Z Zu ZX (wBA aY)) (oL Z (ae.ldCA (f:=0) bj Z Z Zq ZX (us:=[jV av.Skier,jV av.Mat]) Z Z) (oM Z aW (oM Z Z (bnK bu fun ax aZ bv=>?_))))
 have bg:=bp.le an
 have q:=bg.el (fun _=>rfl) (wAX aZ)
 obtain ⟨bE,bJ,bi,bk⟩:=q
 refine oR Z (ZR Z Z bi Z Zu ZX (wBA aZ)) (oL Z (ae.ldCA (f:=0) bk Z Z Zq ZX (us:=[jV ax.Skier,jV ax.Mat]) Z Z) (oR Z (ZG (Runs.neS (enc:=wAU) (a:=av) (b:=ax) Z Z Z wNu wNt) (congrArg hJ (decide_not).symm)) (eN (ifc bv ?_ ?_))))
 intro ah bw
 refine zy (ZM (fun h=>h ah.out)) (Zi (zx (zI (rR fL2 Z (oR Z (ZG (za Z ai Z) (congrArg (jV) bt.out)) (oM Z Z (zg ?_)))))))
 have q:=nB bw
 obtain rfl:=q
 exact zI ⟨Z,_,Z,⟨ay,Z,aV,aW,aX,an,ae⟩⟩
 intro ah bx
 refine cT Z ah (sR fL1 Z (oA Z Z (eN (zR (zd (zS ?_))))))
 have q:=wAZ bx
 obtain ⟨bA,bz,bc⟩:=q
 have q:=wBB ag aj (bq bA bc)
 obtain rfl:=q
 refine zS (zd (zS ?_))
 have hE:=nB bz;first | subst r | cases hE
 exact ⟨Z,_,(ZH Z),ay,_,ae,Z,Z⟩
 rintro ⟨⟩ bM bC ⟨ba,be,bF,bG,bd,bH,bn⟩ br
 have a6:=wCE ag aj br
 try dsimp only at a6
 have bb:Hid (¬ ((↑(((↑p0.length:Int):Int) - 0).toNat:Int) < (↑p0.length:Int))):=zM (wAf)
 refine sR fL1 Z (oR Z (zY Z be bd) (eN (zL (cF Z bb (Zd (zn (zn (ZV (zI (sR fL1 Z (oA Z Z (eN (zR ?_)))))))))))))
 have hE:=nB a6;first | subst r | cases hE
 exact ⟨Z,_,(ZH Z),ba,_,bn,Z,Z⟩
 have a7:=hm;rw [if_neg c1] at a7;replace c1:=zM c1
 refine cT Z c1 (sR fL1 Z (oA Z Z (eN (zR (zS ?_)))))
 have hE:=nB a7;first | subst r | cases hE
 exact ⟨Z,_,(ZH Z),U,_,hS,Z,Z⟩
theorem wCS  (w:World) (U:PHeap) (hS:St0 w U [])  {r:wAE} (hm:wBV =some r):Gv Tryz.prog 41 [] w (wBa w [] U (fun U_ L_ v=>∃ (aV:Option Addr) (a7:Nat) (aW:Option Addr) (a8:Nat) (aX:Option Addr) (ba:Nat) (aY:Option Addr) (bb:Nat),v=.agg #[.slice aV r.Starts.length a7,.slice aW r.Splits.length a8,.slice aX r.Clocks.length ba,.slice aY r.Readings.length bb]/\L_=[.row aV a7 3 1 (hD KL.encI r.Starts),.row aW a8 37 2 (hD wAF r.Splits),.row aX ba 39 3 (hD wAA r.Clocks),.row aY bb 52 4 (hD wAB r.Readings)])):=by
 unfold wBV at hm
 refine Gv.of Tryz.func41 Z Tryz.ntmps41 Tryz.results41 Z (sR (.fx 0 .nil .stop) Z ?_)
 let B0:List Value:=[.slice none 0 0,.slice none 0 0,.slice none 0 0,.slice none 0 0]
 refine zW (cs:=B0) Z Z Z Z Z yy Z hS ?_
 intro W1 b2 bo
 refine eN (sR (.fx 0 gDz .stop) Z (bnK hm fun x5 h6 bv=>zH 0 Z Z Z Z (zG Z Z Tryz.call35 zO Z) bo (fun hs=>wBZ W1 U hs h6) (.inr Z) ?_))
 rintro U8 L9 bB bg bA bk ⟨am,av,an,ax,ao,ay,ae,aj,rfl,rfl⟩
 let B1:Res:=.row ao ay 39 3 (hD wAA x5.Clocks)
 let B2:Res:=.row an ax 37 2 (hD wAF x5.Splits)
 let B3:Res:=.row am av 3 1 (hD KL.encI x5.Starts)
 let B4:Res:=.row ae aj 52 4 (hD wAB x5.Readings)
 have bm:sW w U U8 [B3,B2,B1,B4,.blk b2 45 B0] bg:=bk
 refine zW (cs:=B0) Z Z Z Z Z yy Z bm ?_
 intro bx au bn
 let B5:List Value:=[.slice am x5.Starts.length av,.slice an x5.Splits.length ax,.slice ao x5.Clocks.length ay,.slice ae x5.Readings.length aj]
 refine zX (j:=0) (vs:=B5) Z Z Z Z bn Z Z Z Z zh (zA Z) Z Z Z ?_
 intro bh bp
 have aU:sW w U U8 [.blk au 45 B5,B3,B2,B1,B4,.blk b2 45 B0] bh:=bp
 refine eN (sR (wET (.fx 4 .nil .stop)) Z (oR Z (zJ Z Z zP Z Zo) (oL Z (aU.ldB (j:=0) Z Z Z yN (v:=.slice ae x5.Readings.length aj) Z) (bnK bv fun _ az bu=>?_))))
 obtain ⟨bz,bc⟩:=aU.rowSome (j:=4) rfl (by rw [wAC (f:=wAB) (sz:=4) (fun _=>rfl) x5.Readings];have hz:=wAY az;omega)
 refine oR Z (ZR Z Z bc Z ZY Zg (wAY az)) (oR Z (zJ Z Z ZL Z zD) ?_)
 have bt:=wBb (xs:=x5.Readings) (wAY az)
 refine YI (j:=4) (vs:=[jV 1700]) (cs':=hD wAB (nH x5.Readings 1 (⟨(gd x5.Readings 1).Skier,(gd x5.Readings 1).Mat,(gd x5.Readings 1).Clock,1700⟩:wAK))) rfl rfl rfl rfl aU rfl bc rfl rfl rfl zD (by rw [wAC (f:=wAB) (sz:=4) (fun _=>rfl)];try (have hz:=wAY az;show _ + 1 <= _;first | omega | (simp only [Int.toNat_natCast];omega) | (simp only [nI,nE,nG];omega))) rfl (wDU (sz:=4) (fo:=3) (fun _=>rfl) _ _ _ _ bt (by first | omega | rfl | (simp only [Int.toNat_natCast];omega) | (simp only [nI,nE,nG];omega)) (zA rfl) rfl) rfl ?_
 intro a6 bq
 let B6:Res:=.row ae aj 52 4 (hD wAB (nH x5.Readings 1 (⟨(gd x5.Readings 1).Skier,(gd x5.Readings 1).Mat,(gd x5.Readings 1).Clock,1700⟩:wAK)))
 have br:sW w U U8 [.blk au 45 B5,B3,B2,B1,B6,.blk b2 45 B0] a6:=bq
 let B7:List Value:=[.slice am x5.Starts.length av,.slice an x5.Splits.length ax,.slice ao x5.Clocks.length ay,.slice ae ((nH x5.Readings 1 (⟨(gd x5.Readings 1).Skier,(gd x5.Readings 1).Mat,(gd x5.Readings 1).Clock,1700⟩:wAK)).length) aj]
 have bd:sW w U U8 [.blk au 45 B7,B3,B2,B1,B6,.blk b2 45 B0] a6:=by simpa only [B0,B1,B2,B3,B5,B6,B7,nD] using br
 refine eN (sR gDy Z (oL Z (bd.ldBA (j:=0) Z Z Z zz zh (vs:=B7) Z Z) (zX (j:=5) (vs:=B7) Z Z Z Z bd Z Z Z Z zh (zA Z) Z Z Z ?_)))
 intro bi bs
 have be:sW w U U8 [.blk au 45 B7,B3,B2,B1,B6,.blk b2 45 B7] bi:=bs
 refine eN (zR ?_)
 cases bu
 exact ⟨rfl,_,(wHx (v:=.agg B7.toArray) ⟨⟨_,rfl,(wBN zz zh (be.blkAt (k:=5) rfl) (vs:=B7) rfl rfl)⟩,trivial⟩),U8,_,(be.pick [1,2,3,4] _ (by decide) rfl),am,av,an,ax,ao,ay,ae,aj,rfl,rfl⟩
theorem wDw (p0:wAh) (aj:Nat) (ao:Option Addr) (au:Nat) (ap:Option Addr) (av:Nat) (aq:Option Addr) (ax:Nat) (a7:Option Addr) (bb:Nat) (ab:Nat) (ac:Array MapEntry) (ae:Nat) (a8:Option Addr) (bc:Nat) (p1:List Int) (ba:Option Addr) (bd:Nat) (w:World) (U:PHeap) (hS:St0 w U [.blk aj 124 [.slice ao p0.Race.Starts.length au,.slice ap p0.Race.Splits.length av,.slice aq p0.Race.Clocks.length ax,.slice a7 p0.Race.Readings.length bb,.map (some ab),.slice a8 p0.edges.length bc],.obj ab (.map ac ae)]) (gg:Sl U 1 ao au p0.Race.Starts.length (hD KL.encI p0.Race.Starts)) (gh:Sl U 2 ap av p0.Race.Splits.length (hD wAF p0.Race.Splits)) (gi:Sl U 3 aq ax p0.Race.Clocks.length (hD wAA p0.Race.Clocks)) (gj:Sl U 4 a7 bb p0.Race.Readings.length (hD wAB p0.Race.Readings)) (cK:MpR ac wBL wBO p0.number) (gm:Sl U 7 a8 bc p0.edges.length (hD wAR p0.edges)) (bB:Sl U 1 ba bd p1.length (hD KL.encI p1)) {r:(List (List Int)) × (List Int)} (hm:wBx p0 p1=some r):Gv Tryz.prog 50 [.pointer (some ⟨aj,0,none⟩),.slice ba p1.length bd] w (wBa w [.blk aj 124 [.slice ao p0.Race.Starts.length au,.slice ap p0.Race.Splits.length av,.slice aq p0.Race.Clocks.length ax,.slice a7 p0.Race.Readings.length bb,.map (some ab),.slice a8 p0.edges.length bc],.obj ab (.map ac ae)] U (fun U_ L_ v=>∃ (A0:Option Addr) (c0:Nat) (cj:List Value) (A1:Option Addr) (c1:Nat),v=.tuple #[.slice A0 r.1.length c0,.slice A1 r.2.length c1]/\L_=[.row A0 c0 41 1 cj,.row A1 c1 3 1 (hD KL.encI r.2),.blk aj 124 [.slice ao p0.Race.Starts.length au,.slice ap p0.Race.Splits.length av,.slice aq p0.Race.Clocks.length ax,.slice a7 p0.Race.Readings.length bb,.map (some ab),.slice a8 p0.edges.length bc],.obj ab (.map ac ae)]/\RlL U_ wEX r.1 cj)):=by
 unfold wBx at hm
 refine Gv.of Tryz.func50 Z Tryz.ntmps50 Tryz.results50 Z (sR fL2 Z (oA Z Z (oA Z Z (eN (sR fL4 Z (oM Z Z (bnK hm fun x3 h4 fI=>?_)))))))
 have q:=bB.el (fun _=>rfl) (wAX h4)
 obtain ⟨b6,gu,eB,eG⟩:=q
 refine oR Z (ZR Z Z eB Z zC zD (wBA h4)) (oL Z (hS.ldC (f:=0) eG (v:=jV x3) Z Z zF Z) (oA Z Z (eN (sR fL1 Z (oA Z Z (eN (zL (sR fL7 Z (oM Z Z (oR Z (ZT Z Z) (oR Z (zJ Z Z ZN Z zh) (oR Z (zJ Z Z zP Z zZ) (oL Z (hS.ldB (j:=0) Z Z Z zj (v:=.slice ao p0.Race.Starts.length au) Z) (oR Z (zr Z Z zC) (oM Z Z (eN (zb (bnK fI fun fT fk fH=>?_))))))))))))))))))
 have q:=wBM fk
 obtain ⟨bG,fm⟩:=q
 replace bG:=zM bG
 let B0:Res:=.blk aj 124 [.slice ao p0.Race.Starts.length au,.slice ap p0.Race.Splits.length av,.slice aq p0.Race.Clocks.length ax,.slice a7 p0.Race.Readings.length bb,.map (some ab),.slice a8 p0.edges.length bc]
 refine CK.forN' (fun ah aZ σ_ w_=>∃ (U_:PHeap) (aU:Option Addr) (aX:Nat) (bm:List Value),σ_ 22=jV (↑ah:Int)/\σ_ 0=.pointer (some ⟨aj,0,none⟩)/\σ_ 1=.slice ba p1.length bd/\σ_ 6=jV x3/\σ_ 7=.slice aU aZ.length aX/\σ_ 21=jV (↑p0.Race.Starts.length:Int)/\PHeap.Le U U_/\SW w [B0,.obj ab (.map ac ae)] U U_ [B0,.obj ab (.map ac ae),.row aU aX 41 1 bm] w_/\RlL U_ wEX aZ bm) fm ?_ ?_ ?_
 have ff:=hS.nilrow 41 1
 exact ⟨U,none,0,[],rfl,rfl,rfl,rfl,rfl,rfl,(zN _),(ff.pick [1,2,0] _ (by decide) rfl),RlL.nil⟩
 rintro ah aZ gx gE fZ bD ⟨bU,aU,aX,bm,bu,cx,dJ,dK,dL,cy,cQ,cJ,eu⟩ fN
 have ci:Hid ((↑ah:Int) < (↑p0.Race.Starts.length:Int)):=zM (wAr bD)
 replace bD:=zM bD
 have fy:Hid (w64 ((↑ah:Int) + 1)=(↑(ah + 1):Int)):=zM (by have h1:=bG.out;have h2:=ci.out;rw [wAW] <;> omega)
 refine sR fL1 Z (oR Z (zY Z bu cy) (eN (zL (cT Z ci (kN (zL (zb (sR fL2 Z (oM Z bu (oA Z Z (eN (sR fL1 Z (oA Z Z (eN (zL (sR fL8 Z (oM Z cx (oR Z (ZT Z Z) (oR Z (zJ Z Z ZN Z zh) (oR Z (zJ Z Z zP Z yA) (oL Z (cJ.ldB (j:=0) Z Z Z yL (v:=.slice ap p0.Race.Splits.length av) Z) (oR Z (zr Z Z ZP) (oR Z (za Z Z Z) (oM Z Z (eN (zb (bnK fN fun am fq fJ=>?_)))))))))))))))))))))))))))
 have q:=wBM fq
 obtain ⟨bH,ft⟩:=q
 replace bH:=zM bH
 let B1:Res:=.row aU aX 41 1 bm
 refine CK.forN' (fun ai a6 σ_ w_=>∃ (U_:PHeap) (bf:Option Addr) (bk:Nat),σ_ 32=jV (↑ai:Int)/\σ_ 0=.pointer (some ⟨aj,0,none⟩)/\σ_ 1=.slice ba p1.length bd/\σ_ 6=jV x3/\σ_ 7=.slice aU aZ.length aX/\σ_ 8=jV (↑ah:Int)/\σ_ 9=.slice bf a6.length bk/\σ_ 21=jV (↑p0.Race.Starts.length:Int)/\σ_ 22=jV (↑ah:Int)/\σ_ 31=jV (w64 ((↑p0.Race.Splits.length:Int) + 1))/\PHeap.Le bU U_/\SW w [B0,.obj ab (.map ac ae)] U U_ [B0,.obj ab (.map ac ae),B1,.row bf bk 3 1 (hD KL.encI a6)] w_) ft ?_ ?_ ?_
 have fg:=cJ.nilrow 3 1
 exact ⟨bU,none,0,rfl,cx,dJ,dK,dL,rfl,rfl,cy,bu,rfl,(zN _),(fg.pick [1,2,3,0] _ (by decide) rfl)⟩
 rintro ai a6 gy gF f5 bE ⟨bq,bf,bk,bv,cz,cA,cB,dM,cC,dN,dO,dP,co,cR,bn⟩ fO
 have bY:Hid ((↑ai:Int) < (w64 ((↑p0.Race.Splits.length:Int) + 1))):=zM (wAr bE)
 replace bE:=zM bE
 have fu:Hid (w64 ((↑ai:Int) + 1)=(↑(ai + 1):Int)):=zM (by have h1:=bH.out;have h2:=bY.out;rw [wAW] <;> omega)
 refine sR fL1 Z (oR Z (zY Z bv co) (eN (zL (cT Z bY (kN (zL (zb (sR fL2 Z (oM Z bv (oA Z Z (eN (rR (wOQ (.fx 14 (.fx 15 (.fl 16 .nil) .stop) .stop)) Z (oM Z dN (oM Z cA (oM Z cz (oR Z (ZT Z Z) (oR Z (zJ Z Z ZN Z Zz) (oL Z (bn.ldB (j:=0) Z Z Z yD (v:=.map (some ab)) Z) (oM Z cC (oM Z Z (oR Z (zu (pv:=[(0,jV (↑ah:Int)),(1,jV (↑ai:Int))]) (z:=[jV 0,jV 0]) (cs:=[jV (↑ah:Int),jV (↑ai:Int)]) Z (wAD Z (wAD Z wAM)) zf wBY Z Z) (oL Z (bn.lookup1 (j:=1) (mk:=wBL) (mv:=wBO) (a:=(⟨(↑ah:Int),(↑ai:Int)⟩:wAH)) (z:=0) Z Z Z Z (wBE ZO) wCa zt cK) (bnK fO fun ay bw fz=>?_)))))))))))))))))))))))
 have dT:=bB.le cQ
 have dU:=dT.le cR
 have q:=dU.el (fun _=>rfl) (wAX bw)
 obtain ⟨f7,gq,ew,eD⟩:=q
 refine oR Z (Ze Z Z ew Z zC zD (wBt bw) (wBy bw)) (oL Z (bn.ldC (f:=0) eD (v:=jV ay) Z Z zF Z) (oM Z cB (oR Z (yP Z Z Z) (zo (pv:=[(0,jV (w64 (ay - x3)))]) (zs:=[jV 0]) (cs:=[jV (w64 (ay - x3))]) Z Z Z Z Z (wAD Z wAM) zC zD zt Z Z Z Z Z bn ?_))))
 intro cY dg eH
 let B2:Res:=.row (some ⟨dg,0,none⟩) 1 3 1 (hD KL.encI [w64 (ay - x3)])
 have cE:SW w [B0,.obj ab (.map ac ae)] U bq [B2,B0,.obj ab (.map ac ae),B1,.row bf bk 3 1 (hD KL.encI a6)] cY:=eH
 refine bnK fz fun cS dV fA=>yK (j:=4) (enc:=KL.encI) (xs:=a6) (ys:=[w64 (ay - x3)]) (zs:=cS) rfl rfl rfl rfl rfl yb wFm rfl rfl rfl rfl rfl rfl cE rfl rfl rfl (cE.srcR (j:=0) rfl (by decide) (wAC (f:=KL.encI) (sz:=1) (fun _=>rfl) [w64 (ay - x3)])) (fun _=>rfl) (fun _=>rfl) dV rfl ?_
 intro bK bZ cZ eI
 have eJ:SW w [B0,.obj ab (.map ac ae)] U bq [B2,B0,.obj ab (.map ac ae),B1,.row bK bZ 3 1 (hD KL.encI cS)] cZ:=eI
 refine oA Z Z (zg (zx (zI (rR fL2 Z (oR Z (ZG (za Z bv Z) (congrArg (jV) fu.out)) (oM Z Z (zg ?_)))))))
 cases fA
 exact zI ⟨rfl,⟨bq,bK,bZ,rfl,cz,cA,cB,dM,cC,rfl,dO,dP,co,cR,(eJ.pick [1,2,3,4] _ (by decide) rfl)⟩⟩
 rintro gA c6 ⟨fV,bo,br,dQ,dr,dt,du,dv,ga,dw,dx,dy,dz,cM,eK⟩
 have dm:Hid (¬ ((↑((w64 ((↑p0.Race.Splits.length:Int) + 1):Int) - 0).toNat:Int) < (w64 ((↑p0.Race.Splits.length:Int) + 1)))):=zM (wAf)
 refine sR fL1 Z (oR Z (zY Z dQ dz) (eN (zL (cF Z dm (Zd (zn (zn (ZV (zI (rR gEu Z (oM Z dv (oM Z dw ?_))))))))))))
 have q:=eK.freezeR (k:=3) (n:=am.length) rfl (wAC (f:=KL.encI) (sz:=1) (fun _=>rfl) am) (by decide)
 obtain ⟨aW,cN,fL,eO⟩:=q
 have eQ:SW w [B0,.obj ab (.map ac ae)] U aW [B0,.obj ab (.map ac ae),B1] c6:=eO
 let B3:List Value:=[.slice bo am.length br]
 refine zo (pv:=[(0,.slice bo am.length br)]) (zs:=[.slice none 0 0]) (cs:=B3) Z Z Z Z Z (wAD Z wAM) ZK zZ YA Z Z Z Z Z eQ ?_
 intro c8 dh eM
 have cL:RlL aW wEX [am] B3:=(RlL.cons (R:=wEX) (x:=am) (vs:=B3) ⟨bo,br,rfl,fL⟩ RlL.nil)
 let B4:Res:=.row (some ⟨dh,0,none⟩) 1 41 1 B3
 have cG:SW w [B0,.obj ab (.map ac ae)] U aW [B4,B0,.obj ab (.map ac ae),B1] c8:=eM
 refine bnK fJ fun fR dW fB=>?_
 have dX:=eu.le cM
 have dY:=dX.le cN
 refine OKS.appendR (R:=wEX) (j:=3) (xs:=aZ) (ys:=[am]) (zs:=fR) rfl rfl rfl rfl rfl Tryz.underlying56 wMX rfl rfl rfl rfl rfl rfl rfl cG rfl rfl rfl dY cL (cG.srcR (j:=0) rfl (by decide) (RlL.len cL)) dW rfl ?_
 intro bL ca cm da eU fK
 have eV:SW w [B0,.obj ab (.map ac ae)] U aW [B4,B0,.obj ab (.map ac ae),.row bL ca 41 1 cm] da:=eU
 refine oA Z Z (zg (zx (zI (rR fL2 Z (oR Z (ZG (za Z dy Z) (congrArg (jV) fy.out)) (oM Z Z (zg ?_)))))))
 cases fB
 exact zI ⟨rfl,⟨aW,bL,ca,cm,rfl,dr,dt,du,rfl,dx,((cQ.trans cM).trans cN),(eV.pick [1,2,3] _ (by decide) rfl),fK⟩⟩
 rintro gB fW ⟨bS,bp,bs,cc,dR,cp,dA,dB,dC,dD,fP,cH,dZ⟩
 have dn:Hid (¬ ((↑(((↑p0.Race.Starts.length:Int):Int) - 0).toNat:Int) < (↑p0.Race.Starts.length:Int))):=zM (wAf)
 refine sR fL1 Z (oR Z (zY Z dR dD) (eN (zL (cF Z dn (Zd (zn (zn (ZV (zI (sR fL1 Z (oA Z Z (eN (zL (sR fL7 Z (oM Z cp (oR Z (ZT Z Z) (oR Z (zJ Z Z ZN Z zh) (oR Z (zJ Z Z zP Z Zr) (oL Z (cH.ldB (j:=0) Z Z Z yM (v:=.slice aq p0.Race.Clocks.length ax) Z) (oR Z (zr Z Z Za) (oM Z Z (eN (zb (bnK fH fun gz fh fC=>?_))))))))))))))))))))))))
 have q:=wBM fh
 obtain ⟨bF,fj⟩:=q
 replace bF:=zM bF
 let B5:Res:=.row bp bs 41 1 cc
 refine CK.forN' (fun an aY σ_ w_=>∃ (U_:PHeap) (be:Option Addr) (bj:Nat),σ_ 63=jV (↑an:Int)/\σ_ 0=.pointer (some ⟨aj,0,none⟩)/\σ_ 1=.slice ba p1.length bd/\σ_ 6=jV x3/\σ_ 7=.slice bp fT.length bs/\σ_ 11=.slice be aY.length bj/\σ_ 62=jV (↑p0.Race.Clocks.length:Int)/\PHeap.Le bS U_/\SW w [B0,.obj ab (.map ac ae)] U U_ [B0,.obj ab (.map ac ae),B5,.row be bj 3 1 (hD KL.encI aY)] w_) fj ?_ ?_ ?_
 have eW:=cH.nilrow 3 1
 exact ⟨bS,none,0,rfl,cp,dA,dB,dC,rfl,rfl,(zN _),(eW.pick [1,2,3,0] _ (by decide) rfl)⟩
 rintro an aY gw gC bV bC ⟨cW,be,bj,bt,cq,cr,cu,dE,dF,cw,cO,eX⟩ fM
 have cd:Hid ((↑an:Int) < (↑p0.Race.Clocks.length:Int)):=zM (wAr bC)
 replace bC:=zM bC
 have fw:Hid (w64 ((↑an:Int) + 1)=(↑(an + 1):Int)):=zM (by have h1:=bF.out;have h2:=cd.out;rw [wAW] <;> omega)
 refine sR fL1 rfl (ze rfl rfl rfl rfl (fun _=>zY rfl bt cw) (eN (zL (cT Z cd (kN (zL (zb (sR fL2 rfl (zm rfl rfl rfl rfl rfl bt (yB rfl rfl rfl rfl rfl rfl (eN (ZF ZB [3,3,3,3,3,3,1,3,2,1,3,1,3,2,0,3] (fC0_7 (.fx 8 (wEs (.fx 13 (.fx 14 (.fl 15 .nil) .stop) .stop)) .stop)) (by kernel_rfl) ?_))))))))))))
 have bz:=eX.drew
 generalize hw_W242:({ bV with drawn:=bV.drawn + 1 }:World)=db at bz ⊢
 refine oM Z dF (oM Z cu (oM Z cr (oM Z cq (oR Z (ZT Z Z) (oR Z (zJ Z Z ZN Z Zz) (oL Z (bz.ldB (j:=0) Z Z Z yD (v:=.map (some ab)) Z) (oM Z Z (bnK fM fun fS d5 fD=>zH 0 Z Z Z Z (zG Z Z Tryz.call73 (zB Z zO) Z) bz (fun hs=>wCq (↑an:Int) db cW hs d5) (.inr Z) ?_))))))))
 rintro bi fU gv dd cP eY ⟨rfl,rfl⟩
 let B6:Res:=.row be bj 3 1 (hD KL.encI aY)
 have bA:SW w [B0,.obj ab (.map ac ae)] U bi [B0,.obj ab (.map ac ae),B5,B6] dd:=eY
 refine oL Z (bA.lookup1 (j:=1) (mk:=wBL) (mv:=wBO) (a:=fS) (z:=0) Z Z Z Z (wBE ZO) wCa zt cK) (bnK fD fun az bx fE=>?_)
 have d7:=bB.le fP
 have d9:=d7.le cO
 have ef:=d9.le cP
 have q:=ef.el (fun _=>rfl) (wAX bx)
 obtain ⟨f8,gt,eA,eF⟩:=q
 refine oR Z (Ze Z Z eA Z zC zD (wBt bx) (wBy bx)) (oL Z (bA.ldC (f:=0) eF (v:=jV az) Z Z zF Z) (oR Z (yP Z Z Z) (zo (pv:=[(0,jV (w64 (x3 - az)))]) (zs:=[jV 0]) (cs:=[jV (w64 (x3 - az))]) Z Z Z Z Z (wAD Z wAM) zC zD zt Z Z Z Z Z bA ?_)))
 intro de di eZ
 let B7:Res:=.row (some ⟨di,0,none⟩) 1 3 1 (hD KL.encI [w64 (x3 - az)])
 have cI:SW w [B0,.obj ab (.map ac ae)] U bi [B7,B0,.obj ab (.map ac ae),B5,B6] de:=eZ
 refine bnK fE fun cU eh fG=>yK (j:=4) (enc:=KL.encI) (xs:=aY) (ys:=[w64 (x3 - az)]) (zs:=cU) rfl rfl rfl rfl rfl yb wFm rfl rfl rfl rfl rfl rfl cI rfl rfl rfl (cI.srcR (j:=0) rfl (by decide) (wAC (f:=KL.encI) (sz:=1) (fun _=>rfl) [w64 (x3 - az)])) (fun _=>rfl) (fun _=>rfl) eh rfl ?_
 intro bM cg df fb
 have fc:SW w [B0,.obj ab (.map ac ae)] U bi [B7,B0,.obj ab (.map ac ae),B5,.row bM cg 3 1 (hD KL.encI cU)] df:=fb
 refine oA Z Z (zg (zx (zI (rR fL2 Z (oR Z (ZG (za Z bt Z) (congrArg (jV) fw.out)) (oM Z Z (zg ?_)))))))
 cases fG
 exact zI ⟨rfl,⟨bi,bM,cg,rfl,cq,cr,cu,dE,rfl,cw,(cO.trans cP),(fc.pick [1,2,3,4] _ (by decide) rfl)⟩⟩
 rintro gD fY ⟨cX,cV,dp,dS,gb,ge,gf,dG,dH,dI,fQ,fd⟩
 have dq:Hid (¬ ((↑(((↑p0.Race.Clocks.length:Int):Int) - 0).toNat:Int) < (↑p0.Race.Clocks.length:Int))):=zM (wAf)
 refine sR fL1 Z (oR Z (zY Z dS dI) (eN (zL (cF Z dq (Zd (zn (zn (ZV (zI (sR fL4 Z (oM Z dG (oM Z dH (oA Z Z (oA Z Z (eN (zR ?_))))))))))))))))
 have ep:=dZ.le fQ
 cases fC
 exact ⟨rfl,_,(wEF rfl rfl),cX,_,(fd.pick [2,3,0,1] _ (by decide) rfl),bp,bs,cc,cV,dp,rfl,rfl,ep⟩
theorem wIb (p0:wAE) (aY:Option Addr) (a8:Nat) (aZ:Option Addr) (ba:Nat) (a6:Option Addr) (bb:Nat) (a7:Option Addr) (bc:Nat) (w:World) (U:PHeap) (hS:St0 w U []) (cX:Sl U 1 aY a8 p0.Starts.length (hD KL.encI p0.Starts)) (cY:Sl U 2 aZ ba p0.Splits.length (hD wAF p0.Splits)) (cZ:Sl U 3 a6 bb p0.Clocks.length (hD wAA p0.Clocks)) (c6:Sl U 4 a7 bc p0.Readings.length (hD wAB p0.Readings)) {r:(List (List Int)) × (List Int) × Int} (hm:wFN p0=some r):Gv Tryz.prog 40 [.agg #[.slice aY p0.Starts.length a8,.slice aZ p0.Splits.length ba,.slice a6 p0.Clocks.length bb,.slice a7 p0.Readings.length bc]] w (wBa w [] U (fun U_ L_ v=>∃ (A0:Option Addr) (c0:Nat) (bH:List Value) (A1:Option Addr) (c1:Nat),v=.tuple #[.slice A0 r.1.length c0,.slice A1 r.2.1.length c1,jV r.2.2]/\L_=[.row A0 c0 41 1 bH,.row A1 c1 3 1 (hD KL.encI r.2.1)]/\RlL U_ wEX r.1 bH)):=by
 unfold wFN at hm
 refine Gv.of Tryz.func40 Z Tryz.ntmps40 Tryz.results40 Z (sR (.fx 0 (fC1_3 (.nil)) .stop) Z ?_)
 let B0:List Value:=[.slice aY p0.Starts.length a8,.slice aZ p0.Splits.length ba,.slice a6 p0.Clocks.length bb,.slice a7 p0.Readings.length bc]
 refine ZC (cs:=B0) rfl rfl rfl rfl rfl rfl (by rfl) hS ?_
 intro W1 b2 bQ
 refine oA Z Z (oA Z Z (oA Z Z (eN (sR (.fl 0 (.fx 1 (wHD (.nil)) .stop)) Z (oL Z (bQ.ldBA (j:=0) Z Z Z zz zh (vs:=B0) Z Z) ?_)))))
 have q:=bnd hm
 obtain ⟨⟨x5,x6⟩,h7,ap⟩:=q
 try dsimp only at ap
 refine zH 0 Z Z Z Z (zG Z Z Tryz.call64 (zB Z zO) Z) bQ (fun hs=>wEZ p0 aY a8 aZ ba a6 bb a7 bc W1 U hs cX cY cZ c6 h7) (.inr Z) ?_
 rintro U9 dp dx ay dv bP bN
 rcases x5 with _ | ae
 try dsimp only at ap
 obtain ⟨rfl,rfl⟩:=bN
 have cL:sW w U U9 [.blk b2 45 B0] ay:=bP
 refine oM Z Z (oR Z (zV Z Z (v:=.pointer none) Z) (oR Z (zV Z Z (v:=jV x6) Z) (oA Z Z (oA Z Z (eN (zL (sR fL2 Z (oM Z Z (oR Z (Zk Z Z Z) (eN (ifc ap ?_ ?_)))))))))))
 intro bt db
 refine zy (ZM (fun h=>h bt.out)) (kN (sR (.fl 0 (.fx 1 (wNM gEo) .stop)) Z (oM Z Z ?_)))
 cases db
 intro bt dd
 refine cT Z bt (sR fL4 Z (oM Z Z (oA Z Z (oA Z Z (oA Z Z (eN (zR (zS ?_))))))))
 have cM:=cL.nilrow 41 1
 have cN:=cM.nilrow 3 1
 cases dd
 exact ⟨rfl,_,(wMO rfl rfl rfl),U9,_,(cN.pick [1,0] _ (by decide) rfl),none,0,[],none,0,rfl,rfl,RlL.nil⟩
 try dsimp only at ap
 obtain ⟨aU,bf,bp,bg,bq,bh,br,bi,bs,ac,ah,ag,av,aW,rfl,rfl,ci,cj,cm,co,bI⟩:=bN
 let B1:Res:=.blk aU 124 [.slice bf ae.Race.Starts.length bp,.slice bg ae.Race.Splits.length bq,.slice bh ae.Race.Clocks.length br,.slice bi ae.Race.Readings.length bs,.map (some ac),.slice av ae.edges.length aW]
 have bR:sW w U U9 [B1,.obj ac (.map ah ag),.row av aW 151 7 (hD wAR ae.edges),.blk b2 45 B0] ay:=bP
 refine oM Z Z (oR Z (zV Z Z (v:=.pointer (some ⟨aU,0,none⟩)) Z) (oR Z (zV Z Z (v:=jV x6) Z) (oA Z Z (oA Z Z (eN (zL (sR fL2 Z (oM Z Z (oR Z (Zk Z Z Z) (eN (ifc ap ?_ ?_)))))))))))
 intro bu de
 refine zy (ZM (fun h=>h bu.out)) (kN (sR (.fl 0 (.fx 1 (wNM gEo) .stop)) Z (oM Z Z ?_)))
 have q:=bR.freezeR (k:=2) (n:=ae.edges.length) rfl (wAC (f:=wAR) (sz:=7) (fun _=>rfl) ae.edges) (by decide)
 obtain ⟨bD,aX,bV,cO⟩:=q
 have cP:sW w U bD [B1,.obj ac (.map ah ag),.blk b2 45 B0] ay:=cO
 have bJ:=ci.le aX
 have bK:=cj.le aX
 have bL:=cm.le aX
 have bM:=co.le aX
 have q:=bnd de
 obtain ⟨⟨af,dm,dn⟩,cp,bU⟩:=q
 try dsimp only at bU
 refine zH 2 Z Z Z Z (zG Z Z yh (zB Z (zB Z (zB Z zO))) Z) cP (fun hs=>wAk ae aU bf bp bg bq bh br bi bs ac ah ag av aW (-1) false ay bD hs bJ bK bL bM bI bV cp) (.inl Z) ?_
 rintro bk dr dy ca aq cQ ⟨ak,ao,bj,bv,rfl,rfl⟩
 let B2:Res:=.row bj bv 3 1 (hD KL.encI af.by_)
 let B3:Res:=.row ak ao 3 1 (hD KL.encI af.far)
 have cR:sW w U bk [B3,B2,B1,.obj ac (.map ah ag),.blk b2 45 B0] ca:=cQ
 refine oM Z Z (oR Z (zV Z Z (v:=.agg #[.slice ak af.far.length ao,.slice bj af.by_.length bv]) Z) (oR Z (zV Z Z (v:=jV dm) Z) (oR Z (zV Z Z (v:=.bool dn) Z) (zW (cs:=[.slice none 0 0,.slice none 0 0]) Z Z Z Z Z Zf Z cR ?_))))
 intro dt aV cS
 let B4:List Value:=[.slice ak af.far.length ao,.slice bj af.by_.length bv]
 refine zX (j:=0) (vs:=B4) Z Z Z Z cS Z Z Z Z Zp (zA Z) Z Z Z ?_
 intro az cU
 have bx:sW w U bk [.blk aV 118 B4,B3,B2,B1,.obj ac (.map ah ag),.blk b2 45 B0] az:=cU
 refine oA Z Z (oA Z Z (eN (zL (sR fL2 Z (oM Z Z (oR Z (ZW Z Z) (eN (ifc bU ?_ ?_))))))))
 intro bw df
 refine zy (nC bw.out) (kN (sR (wCv (.fx 3 (wMM (.nil)) .stop)) Z (oM Z Z (oR Z (zJ Z Z Zc Z zZ) (oL Z (bx.ldB (j:=0) Z Z Z zj (v:=.slice ak af.far.length ao) Z) ?_)))))
 have q:=bx.freezeR (k:=1) (n:=af.far.length) rfl (wAC (f:=KL.encI) (sz:=1) (fun _=>rfl) af.far) (by decide)
 obtain ⟨bm,au,dg,cV⟩:=q
 have cW:sW w U bm [.blk aV 118 B4,B2,B1,.obj ac (.map ah ag),.blk b2 45 B0] az:=cV
 have cr:=bJ.le aq
 have cu:=cr.le au
 have cw:=bK.le aq
 have cx:=cw.le au
 have cy:=bL.le aq
 have cz:=cy.le au
 have cA:=bM.le aq
 have cB:=cA.le au
 have cC:=bV.le aq
 have cc:=cC.le au
 have q:=bnd df
 obtain ⟨⟨dh,bW⟩,cd,bS⟩:=q
 try dsimp only at bS
 have cD:sW w U bm [B1,.obj ac (.map ah ag),.blk aV 118 B4,B2,.blk b2 45 B0] az:=cW.pick [2,3,0,1,4] _ (by decide) rfl
 refine zH 2 Z Z Z Z (zG Z Z Tryz.call50 (zB Z (zB Z zO)) Z) cD (fun hs=>wDw ae aU bf bp bg bq bh br bi bs ac ah ag av aW af.far ak ao az bm hs cu cx cz cB bI cc dg cd) (.inl Z) ?_
 rintro bC dq dw bZ du cE ⟨bd,bn,bG,be,bo,rfl,rfl,cg⟩
 have cG:sW w U bC [.row bd bn 41 1 bG,.row be bo 3 1 (hD KL.encI bW),B1,.obj ac (.map ah ag),.blk aV 118 B4,B2,.blk b2 45 B0] bZ:=cE
 refine oM Z Z (oR Z (zV Z Z (v:=.slice bd dh.length bn) Z) (oR Z (zV Z Z (v:=.slice be bW.length bo) Z) (oA Z Z (oA Z Z (eN (sR fL5 Z (oM Z Z (oM Z Z (oA Z Z (oA Z Z (oA Z Z (eN (zR ?_)))))))))))))
 cases bS
 exact ⟨rfl,_,(wMO rfl rfl rfl),bC,_,(cG.pick [0,1] _ (by decide) rfl),bd,bn,bG,be,bo,rfl,rfl,cg⟩
 intro bw c8
 refine ZJ (nF (bw.out)) (sR fL3 Z (oA Z Z (oA Z Z (oA Z Z (eN (zR (zS ?_)))))))
 have cH:=bx.nilrow 41 1
 have cI:=cH.nilrow 3 1
 cases c8
 exact ⟨rfl,_,(wMO rfl rfl rfl),bk,_,(cI.pick [1,0] _ (by decide) rfl),none,0,[],none,0,rfl,rfl,RlL.nil⟩
 intro bu da
 refine cT Z bu (sR fL4 Z (oM Z Z (oA Z Z (oA Z Z (oA Z Z (eN (zR (zS ?_))))))))
 have cJ:=bR.nilrow 41 1
 have cK:=cJ.nilrow 3 1
 cases da
 exact ⟨rfl,_,(wMO rfl rfl rfl),U9,_,(cK.pick [1,0] _ (by decide) rfl),none,0,[],none,0,rfl,rfl,RlL.nil⟩
end Go.Proofs.YtkghaiefcjgfkaaGreat
namespace Go.Proofs.YtkghaiefcjgfkaaGreat
open Go.KL
set_option maxHeartbeats 4000000
theorem wHZ (p0:wAE) (ah:Option Addr) (am:Nat) (ai:Option Addr) (an:Nat) (aj:Option Addr) (ao:Nat) (ak:Option Addr) (ap:Nat) (p1:List wAG) (bi:Option Addr) (bj:Nat) (w:World) (U:PHeap) (hS:St0 w U []) (cr:Sl U 1 ah am p0.Starts.length (hD KL.encI p0.Starts)) (cu:Sl U 2 ai an p0.Splits.length (hD wAF p0.Splits)) (cw:Sl U 3 aj ao p0.Clocks.length (hD wAA p0.Clocks)) (cx:Sl U 4 ak ap p0.Readings.length (hD wAB p0.Readings)) (fB:Sl U 4 bi bj p1.length (hD wBp p1)) {r:Int × Int} (hm:wEh p0 p1=some r):Gv Tryz.prog 42 [.agg #[.slice ah p0.Starts.length am,.slice ai p0.Splits.length an,.slice aj p0.Clocks.length ao,.slice ak p0.Readings.length ap],.slice bi p1.length bj] w (wBa w [] U (fun U_ L_ v=>v=.tuple #[jV r.1,jV r.2]/\L_=[])):=by
 unfold wEh at hm
 refine Gv.of Tryz.func42 Z Tryz.ntmps42 Tryz.results42 Z (sR gEg Z ?_)
 let B0:List Value:=[.slice ah p0.Starts.length am,.slice ai p0.Splits.length an,.slice aj p0.Clocks.length ao,.slice ak p0.Readings.length ap]
 refine ZC (cs:=B0) rfl rfl rfl rfl rfl rfl (by rfl) hS ?_
 intro W1 b2 cq
 refine oA Z Z (oA Z Z (eN (zL (sR gEe Z (oL Z (cq.ldBA (j:=0) Z Z Z zz zh (vs:=B0) Z Z) (bnK hm fun x5 h6 fQ=>zH 0 Z Z Z Z (zG Z Z Tryz.call58 (zB Z zO) Z) cq (fun hs=>wEY p0 ah am ai an aj ao ak ap W1 U hs cr cu cw cx h6) (.inr Z) ?_))))))
 rintro U8 L9 gx ca bg eh ⟨rfl,rfl⟩
 have bN:sW w U U8 [.blk b2 45 B0] ca:=eh
 refine oA Z Z (eN (sR fL2 Z (oM Z Z (oR Z (Zk Z Z Z) (eN (ifc fQ ?_ ?_))))))
 intro bI fC
 refine zy (ZM (fun h=>h bI.out)) (kN (zL (sR gEl Z (oL Z (bN.ldBA (j:=0) Z Z Z zz zh (vs:=B0) Z Z) (oM Z Z ?_)))))
 have aW:=cr.le bg
 have aX:=cu.le bg
 have aY:=cw.le bg
 have aZ:=cx.le bg
 have bM:=fB.le bg
 refine bnK fC fun gF dx fD=>zH 0 Z Z Z Z (zG Z Z Tryz.call60 (zB Z (zB Z zO)) Z) bN (fun hs=>wEK p0 ah am ai an aj ao ak ap p1 bi bj ca U8 hs aW aX aY aZ bM dx) (.inr Z) ?_
 rintro aq ga gD bD ab fA ⟨rfl,rfl⟩
 have bQ:sW w U aq [.blk b2 45 B0] bD:=fA
 refine oA Z Z (eN (sR fL2 Z (oM Z Z (oR Z (Zk Z Z Z) (eN (ifc fD ?_ ?_))))))
 intro bK fN
 refine zy (ZM (fun h=>h bK.out)) (kN (zL (sR fL3 Z (oM Z Z (oR Z (zr Z Z yS) (oR Z (yO Z Z Z) (eN (ifc fN ?_ ?_))))))))
 intro bL fO
 refine cT Z bL (sR fL2 Z (oA Z Z (oA Z Z (eN (zR (zS ?_))))))
 cases fO
 exact ⟨rfl,_,(wEF rfl rfl),aq,_,(bQ.pick [] _ (by decide) rfl),rfl,rfl⟩
 intro bL fP
 refine cF Z bL (kN ?_)
 have q:=bnd fP
 obtain ⟨⟨bR,bS⟩,fS,cz⟩:=q
 try dsimp only at cz
 let B1:List Value:=[jV bR,jV bS]
 refine yW (fun σ_ w_=>∃ (U_:PHeap) (be:Nat),σ_ 1=.slice bi p1.length bj/\σ_ 2=.pointer (some ⟨b2,0,none⟩)/\σ_ 8=.pointer (some ⟨be,0,none⟩)/\PHeap.Le aq U_/\sW w U U_ [.blk b2 45 B0,.blk be 115 B1] w_) ?_ ?_
 refine bnK fS fun av cj fR=>?_
 have q:=bnd fR
 obtain ⟨⟨af,ag,bm⟩,bf,a6⟩:=q
 try dsimp only at a6
 refine ZF ZB [1,3,3,1,2,3,3,3,3,2,2,0,0,3] (wET (.fx 4 (wHE (.fx 9 gEp (.fx 10 gEq .stop))) (.fx 9 (.fx 4 (wHE gEp) (.fx 10 (.fx 4 (wHE gEj) (.stop)) (.stop))) (.fx 10 (.fx 4 (wHE gEq) (.fx 9 (.fx 4 (wHE gEj) (.stop)) (.stop))) (.stop))))) (by kernel_rfl) ?_
 have bc:=bQ.drew
 generalize hw_W85:({ bD with drawn:=bD.drawn + 1 }:World)=db at bc ⊢
 refine oL Z (bc.ldBA (j:=0) Z Z Z zz zh (vs:=B0) Z Z) (oM Z Z ?_)
 have dO:=bM.le ab
 have q:=dO.el (fun _=>rfl) (wAX cj)
 obtain ⟨gu,gw,dT,dU⟩:=q
 refine oR Z (ZR Z Z dT Z yS Zh (wBA cj)) (oL Z (bc.ldCA (f:=0) dU Z Z Zw Zh (us:=[jV av.Kind,jV av.Skier,jV av.Index,.bool av.Up]) Z Z) (zw ?_ ?_))
 have dP:=aW.le ab
 have dQ:=aX.le ab
 have dR:=aY.le ab
 have dS:=aZ.le ab
 refine zH 0 Z Z Z Z (zG Z Z Tryz.call65 (zB Z (zB Z zO)) Z) bc (fun hs=>wBn p0 ah am ai an aj ao ak ap av db aq hs dP dQ dR dS bf) (.inr Z) ?_
 rintro aU gf gy cD cA dV ⟨rfl,rfl⟩
 have cm:sW w U aU [.blk b2 45 B0] cD:=dV
 refine oM Z Z (oR Z (zV Z Z (v:=.agg #[jV af.skier,jV af.mat]) Z) (oR Z (zV Z Z (v:=.agg #[jV ag.skier,jV ag.mat]) Z) (oR Z (zV Z Z (v:=jV bm) Z) (zw ?_ ?_))))
 let B2:List Value:=[jV 0,jV 0]
 refine zW (cs:=B2) Z Z Z Z Z zf Z cm ?_
 intro gg bE dW
 refine zW (cs:=B2) Z Z Z Z Z zf Z dW ?_
 intro gh cc dX
 let B3:List Value:=[jV af.skier,jV af.mat]
 refine zX (j:=1) (vs:=B3) Z Z Z Z dX Z Z Z Z zK (zA Z) Z Z Z ?_
 intro cE dY
 have dZ:sW w U aU [.blk cc 115 B2,.blk bE 115 B3,.blk b2 45 B0] cE:=dY
 let B4:List Value:=[jV ag.skier,jV ag.mat]
 refine zX (j:=0) (vs:=B4) Z Z Z Z dZ Z Z Z Z zK (zA Z) Z Z Z ?_
 intro cG d5
 have d7:sW w U aU [.blk cc 115 B4,.blk bE 115 B3,.blk b2 45 B0] cG:=d5
 refine oA Z Z (zg ?_)
 cases a6
 exact zI ⟨rfl,⟨aU,bE,rfl,rfl,rfl,cA,(d7.pick [2,1] _ (by decide) rfl)⟩⟩
 let B5:List Value:=[jV 0,jV 0]
 refine zW (cs:=B5) Z Z Z Z Z zf Z cm ?_
 intro gi cd d9
 refine zW (cs:=B5) Z Z Z Z Z zf Z d9 ?_
 intro gj bF ef
 let B6:List Value:=[jV af.skier,jV af.mat]
 refine zX (j:=0) (vs:=B6) Z Z Z Z ef Z Z Z Z zK (zA Z) Z Z Z ?_
 intro cH ep
 have eu:sW w U aU [.blk bF 115 B6,.blk cd 115 B5,.blk b2 45 B0] cH:=ep
 let B7:List Value:=[jV ag.skier,jV ag.mat]
 refine zX (j:=1) (vs:=B7) Z Z Z Z eu Z Z Z Z zK (zA Z) Z Z Z ?_
 intro cI ew
 have eA:sW w U aU [.blk bF 115 B6,.blk cd 115 B7,.blk b2 45 B0] cI:=ew
 refine oA Z Z (zg ?_)
 cases a6
 exact zI ⟨rfl,⟨aU,bF,rfl,rfl,rfl,cA,(eA.pick [2,0] _ (by decide) rfl)⟩⟩
 refine zw ?_ ?_
 let B8:List Value:=[jV 0,jV 0]
 refine zW (cs:=B8) Z Z Z Z Z zf Z bc ?_
 intro cJ az co
 refine zw ?_ ?_
 have dg:=aW.le ab
 have dh:=aX.le ab
 have di:=aY.le ab
 have dm:=aZ.le ab
 refine zH 0 Z Z Z Z (zG Z Z Tryz.call65 (zB Z (zB Z zO)) Z) co (fun hs=>wBn p0 ah am ai an aj ao ak ap av cJ aq hs dg dh di dm bf) (.inr Z) ?_
 rintro bn f5 gz cK fT eB ⟨rfl,rfl⟩
 have eD:sW w U bn [.blk az 115 B8,.blk b2 45 B0] cK:=eB
 refine oM Z Z (oR Z (zV Z Z (v:=.agg #[jV af.skier,jV af.mat]) Z) (oR Z (zV Z Z (v:=.agg #[jV ag.skier,jV ag.mat]) Z) (oR Z (zV Z Z (v:=jV bm) Z) (zW (cs:=B8) Z Z Z Z Z zf Z eD ?_))))
 intro gm cg eF
 let B9:List Value:=[jV af.skier,jV af.mat]
 refine zX (j:=1) (vs:=B9) Z Z Z Z eF Z Z Z Z zK (zA Z) Z Z Z ?_
 intro cL eG
 have eH:sW w U bn [.blk cg 115 B8,.blk az 115 B9,.blk b2 45 B0] cL:=eG
 let bU:List Value:=[jV ag.skier,jV ag.mat]
 refine zX (j:=0) (vs:=bU) Z Z Z Z eH Z Z Z Z zK (zA Z) Z Z Z ?_
 intro cM eI
 have eJ:sW w U bn [.blk cg 115 bU,.blk az 115 B9,.blk b2 45 B0] cM:=eI
 refine oA Z Z (zg ?_)
 cases a6
 exact zI ⟨rfl,⟨bn,az,rfl,rfl,rfl,fT,(eJ.pick [2,1] _ (by decide) rfl)⟩⟩
 refine zW (cs:=B8) Z Z Z Z Z zf Z co ?_
 intro cN bG eK
 have dn:=aW.le ab
 have dp:=aX.le ab
 have dq:=aY.le ab
 have dr:=aZ.le ab
 refine zH 0 Z Z Z Z (zG Z Z Tryz.call65 (zB Z (zB Z zO)) Z) eK (fun hs=>wBn p0 ah am ai an aj ao ak ap av cN aq hs dn dp dq dr bf) (.inr Z) ?_
 rintro bo f7 gA cO fU eM ⟨rfl,rfl⟩
 have eO:sW w U bo [.blk bG 115 B8,.blk az 115 B8,.blk b2 45 B0] cO:=eM
 refine oM Z Z (oR Z (zV Z Z (v:=.agg #[jV af.skier,jV af.mat]) Z) (oR Z (zV Z Z (v:=.agg #[jV ag.skier,jV ag.mat]) Z) (oR Z (zV Z Z (v:=jV bm) Z) ?_)))
 let bs:List Value:=[jV af.skier,jV af.mat]
 refine zX (j:=1) (vs:=bs) Z Z Z Z eO Z Z Z Z zK (zA Z) Z Z Z ?_
 intro cP eQ
 have eU:sW w U bo [.blk bG 115 B8,.blk az 115 bs,.blk b2 45 B0] cP:=eQ
 let bV:List Value:=[jV ag.skier,jV ag.mat]
 refine zX (j:=0) (vs:=bV) Z Z Z Z eU Z Z Z Z zK (zA Z) Z Z Z ?_
 intro cQ eV
 have eW:sW w U bo [.blk bG 115 bV,.blk az 115 bs,.blk b2 45 B0] cQ:=eV
 refine oA Z Z (zg ?_)
 cases a6
 exact zI ⟨rfl,⟨bo,az,rfl,rfl,rfl,fU,(eW.pick [2,1] _ (by decide) rfl)⟩⟩
 let ax:List Value:=[jV 0,jV 0]
 refine zW (cs:=ax) Z Z Z Z Z zf Z bc ?_
 intro cR ba cp
 refine zw ?_ ?_
 have dt:=aW.le ab
 have du:=aX.le ab
 have dv:=aY.le ab
 have dw:=aZ.le ab
 refine zH 0 Z Z Z Z (zG Z Z Tryz.call65 (zB Z (zB Z zO)) Z) cp (fun hs=>wBn p0 ah am ai an aj ao ak ap av cR aq hs dt du dv dw bf) (.inr Z) ?_
 rintro bp f8 gB cS fV eX ⟨rfl,rfl⟩
 have eY:sW w U bp [.blk ba 115 ax,.blk b2 45 B0] cS:=eX
 refine oM Z Z (oR Z (zV Z Z (v:=.agg #[jV af.skier,jV af.mat]) Z) (oR Z (zV Z Z (v:=.agg #[jV ag.skier,jV ag.mat]) Z) (oR Z (zV Z Z (v:=jV bm) Z) (zW (cs:=ax) Z Z Z Z Z zf Z eY ?_))))
 intro gq bH eZ
 let bt:List Value:=[jV af.skier,jV af.mat]
 refine zX (j:=0) (vs:=bt) Z Z Z Z eZ Z Z Z Z zK (zA Z) Z Z Z ?_
 intro cU fb
 have fc:sW w U bp [.blk bH 115 bt,.blk ba 115 ax,.blk b2 45 B0] cU:=fb
 let bW:List Value:=[jV ag.skier,jV ag.mat]
 refine zX (j:=1) (vs:=bW) Z Z Z Z fc Z Z Z Z zK (zA Z) Z Z Z ?_
 intro cV fd
 have ff:sW w U bp [.blk bH 115 bt,.blk ba 115 bW,.blk b2 45 B0] cV:=fd
 refine oA Z Z (zg ?_)
 cases a6
 exact zI ⟨rfl,⟨bp,bH,rfl,rfl,rfl,fV,(ff.pick [2,0] _ (by decide) rfl)⟩⟩
 refine zW (cs:=ax) Z Z Z Z Z zf Z cp ?_
 intro cW br fg
 have dy:=aW.le ab
 have dz:=aX.le ab
 have dA:=aY.le ab
 have dB:=aZ.le ab
 refine zH 0 Z Z Z Z (zG Z Z Tryz.call65 (zB Z (zB Z zO)) Z) fg (fun hs=>wBn p0 ah am ai an aj ao ak ap av cW aq hs dy dz dA dB bf) (.inr Z) ?_
 rintro bq f9 gC cX fW fh ⟨rfl,rfl⟩
 have fj:sW w U bq [.blk br 115 ax,.blk ba 115 ax,.blk b2 45 B0] cX:=fh
 refine oM Z Z (oR Z (zV Z Z (v:=.agg #[jV af.skier,jV af.mat]) Z) (oR Z (zV Z Z (v:=.agg #[jV ag.skier,jV ag.mat]) Z) (oR Z (zV Z Z (v:=jV bm) Z) ?_)))
 let bu:List Value:=[jV af.skier,jV af.mat]
 refine zX (j:=0) (vs:=bu) Z Z Z Z fj Z Z Z Z zK (zA Z) Z Z Z ?_
 intro cY fk
 have fm:sW w U bq [.blk br 115 bu,.blk ba 115 ax,.blk b2 45 B0] cY:=fk
 let bX:List Value:=[jV ag.skier,jV ag.mat]
 refine zX (j:=1) (vs:=bX) Z Z Z Z fm Z Z Z Z zK (zA Z) Z Z Z ?_
 intro cZ fq
 have ft:sW w U bq [.blk br 115 bu,.blk ba 115 bX,.blk b2 45 B0] cZ:=fq
 refine oA Z Z (zg ?_)
 cases a6
 exact zI ⟨rfl,⟨bq,br,rfl,rfl,rfl,fW,(ft.pick [2,0] _ (by decide) rfl)⟩⟩
 rintro gH c6 ⟨cB,be,de,df,ci,bh,bP⟩
 refine sR (wCv (.fx 3 (fC4_7 (.fx 8 (.fx 9 (.fl 10 (.fl 11 .nil)) .stop) .stop)) .stop)) Z (oL Z (bP.ldBA (j:=0) Z Z df zz zh (vs:=B0) Z Z) (oL Z (bP.ldBA (j:=1) Z Z ci zk zK (vs:=B1) Z Z) (oM Z de ?_)))
 have dC:=aW.le ab
 have dD:=dC.le bh
 have dE:=aX.le ab
 have dF:=dE.le bh
 have dG:=aY.le ab
 have dH:=dG.le bh
 have dI:=aZ.le ab
 have dJ:=dI.le bh
 have dK:=bM.le ab
 have dL:=dK.le bh
 have q:=bnd cz
 obtain ⟨⟨bk,fY,fZ⟩,dM,cy⟩:=q
 try dsimp only at cy
 refine zH 0 Z Z Z Z (zG Z Z Tryz.call61 (zB Z (zB Z (zB Z zO))) Z) bP (fun hs=>wCu p0 ah am ai an aj ao ak ap (⟨bR,bS⟩:wAH) p1 bi bj c6 cB hs dD dF dH dJ dL dM) (.inr Z) ?_
 rintro a8 gb gE c8 gv fu ⟨rfl,rfl⟩
 have fw:sW w U a8 [.blk b2 45 B0,.blk be 115 B1] c8:=fu
 refine oM Z Z (oR Z (zV Z Z (v:=.agg #[jV bk.skier,jV bk.mat]) Z) (oR Z (zV Z Z (v:=jV fY) Z) (oR Z (zV Z Z (v:=.bool fZ) Z) (zW (cs:=[jV 0,jV 0]) Z Z Z Z Z zf Z fw ?_))))
 intro gt dd fy
 let bv:List Value:=[jV bk.skier,jV bk.mat]
 refine zX (j:=0) (vs:=bv) Z Z Z Z fy Z Z Z Z zK (zA Z) Z Z Z ?_
 intro da fz
 have bb:sW w U a8 [.blk dd 115 bv,.blk b2 45 B0,.blk be 115 B1] da:=fz
 refine oA Z Z (oA Z Z (eN (zL (sR wON Z (oM Z Z (oR Z (ZW Z Z) (oM Z Z (ifc cy ?_ ?_))))))))
 intro au fE
 refine ZE Z Z Z (zQ Z Z (nC au.out)) (bb.ldBA (j:=0) Z Z Z zk zK (vs:=bv) Z Z) Z (ZE Z Z Z (zQ Z Z (nC au.out)) (bb.ldBA (j:=2) Z Z ci zk zK (vs:=B1) Z Z) Z (ze Z Z Z (zQ Z Z (nC au.out)) (fun _=>ZG (Runs.neS (enc:=wBr) (a:=bk) (b:=(⟨bR,bS⟩:wAH)) Z Z Z wLC wLB) (congrArg hJ (decide_not).symm)) (oR Z (zc Z (nC au.out) Z) (oM Z Z (ifc fE ?_ ?_)))))
 intro aV fG
 refine zm Z Z Z (zQ Z Z (ZM (fun h=>h aV.out))) Z Z (ze Z Z Z (zQ Z Z (ZM (fun h=>h aV.out))) (fun _=>Runs.geq Z Z Z) (oR Z (zc Z (ZM (fun h=>h aV.out)) Z) (eN (ifc fG ?_ ?_))))
 intro bJ fH
 refine cT Z bJ (sR fL2 Z (oA Z Z (oA Z Z (eN (zR (zS ?_))))))
 cases fH
 exact ⟨rfl,_,(wEF rfl rfl),a8,_,(bb.pick [] _ (by decide) rfl),rfl,rfl⟩
 intro bJ fI
 refine cF Z bJ (kN (sR fL3 Z (oM Z Z (oA Z Z (oA Z Z (eN (zR ?_)))))))
 cases fI
 exact ⟨rfl,_,(wEF rfl rfl),a8,_,(bb.pick [] _ (by decide) rfl),rfl,rfl⟩
 intro aV fJ
 refine oT Z aV (oT Z aV (oR Z (zT Z (Zm aV.out) Z) (eN (ZJ Z (sR fL2 Z (oA Z Z (oA Z Z (eN (zR (zS ?_))))))))))
 cases fJ
 exact ⟨rfl,_,(wEF rfl rfl),a8,_,(bb.pick [] _ (by decide) rfl),rfl,rfl⟩
 intro au fK
 refine ZA Z Z Z (zU Z Z (nF (au.out)) Z) (ZA Z Z Z (zU Z Z (nF (au.out)) Z) (ZA Z Z Z (zU Z Z (nF (au.out)) Z) (oR Z (zT Z (nF (au.out)) Z) (oM Z Z (oN Z (oN Z (oR Z (zT Z Z Z) (eN (ZJ Z (sR fL2 Z (oA Z Z (oA Z Z (eN (zR (zS ?_)))))))))))))))
 cases fK
 exact ⟨rfl,_,(wEF rfl rfl),a8,_,(bb.pick [] _ (by decide) rfl),rfl,rfl⟩
 intro bK fL
 refine cT Z bK (sR fL3 Z (oM Z Z (oA Z Z (oA Z Z (eN (zR (zS ?_)))))))
 cases fL
 exact ⟨rfl,_,(wEF rfl rfl),aq,_,(bQ.pick [] _ (by decide) rfl),rfl,rfl⟩
 intro bI fM
 refine cT Z bI (sR fL3 Z (oM Z Z (oA Z Z (oA Z Z (eN (zR (zS ?_)))))))
 cases fM
 exact ⟨rfl,_,(wEF rfl rfl),U8,_,(bN.pick [] _ (by decide) rfl),rfl,rfl⟩
theorem wHa (p0:Int) (p1:wAK) (p2:Int) (af:Nat) (w:World) (U:PHeap) (hS:St0 w U []) (ag:Cl U af 0 [jV p2]) {r:Bool} (hm:wDH p0 p1 p2=some r):Gv Tryz.prog 68 [jV p0,.agg #[jV p1.Skier,jV p1.Mat,jV p1.Clock,jV p1.Time],.pointer (some ⟨af,0,none⟩)] w (wBa w [] U (fun U_ L_ v=>v=.bool r/\L_=[])):=by
 unfold wDH at hm
 refine Gv.of Tryz.func68 rfl Tryz.ntmps68 Tryz.results68 rfl (sR gDx rfl (ZC (cs:=[jV p1.Skier,jV p1.Mat,jV p1.Clock,jV p1.Time]) rfl rfl rfl rfl rfl rfl (by rfl) hS ?_))
 intro W1 b2 ac
 refine oA Z Z (eN (sR fL4 Z (oM Z Z (oL Z (ac.ldC (f:=0) ag (v:=jV p2) Z Z zF Z) (oR Z (yO Z Z Z) (oA Z Z (eN (zR ?_))))))))
 first | (obtain rfl:=nB hm) | cases hm
 exact ⟨rfl,_,(ZH rfl),U,_,(ac.pick [] _ (by decide) rfl),rfl,rfl⟩
theorem wDO (p0:wAE) (aj:Option Addr) (an:Nat) (ak:Option Addr) (ao:Nat) (am:Option Addr) (ap:Nat) (aU:Option Addr) (aV:Nat) (p1:((Int × wAK)->Option Bool)) (bq:Value) (w:World) (U:PHeap) (hS:St0 w U []) (dn:Sl U 1 aj an p0.Starts.length (hD KL.encI p0.Starts)) (dp:Sl U 2 ak ao p0.Splits.length (hD wAF p0.Splits)) (dq:Sl U 3 am ap p0.Clocks.length (hD wAA p0.Clocks)) (dr:Sl U 4 aU aV p0.Readings.length (hD wAB p0.Readings)) (dt:FnOK Tryz.prog U bq wLm wLn p1) {r:wAh} (hm:wCM p0 p1=some r):Gv Tryz.prog 67 [.agg #[.slice aj p0.Starts.length an,.slice ak p0.Splits.length ao,.slice am p0.Clocks.length ap,.slice aU p0.Readings.length aV],bq] w (wBa w [] U (fun U_ L_ v=>∃ (b0:Nat) (A0p00:Option Addr) (c0p00:Nat) (A0p01:Option Addr) (c0p01:Nat) (A0p02:Option Addr) (c0p02:Nat) (A0p03:Option Addr) (c0p03:Nat) (m0p1:Nat) (es0p1:Array MapEntry) (ck0p1:Nat) (A0p2:Option Addr) (c0p2:Nat),v=.pointer (some ⟨b0,0,none⟩)/\L_=[.blk b0 124 [.slice A0p00 r.Race.Starts.length c0p00,.slice A0p01 r.Race.Splits.length c0p01,.slice A0p02 r.Race.Clocks.length c0p02,.slice A0p03 r.Race.Readings.length c0p03,.map (some m0p1),.slice A0p2 r.edges.length c0p2],.obj m0p1 (.map es0p1 ck0p1),.row A0p2 c0p2 151 7 (hD wAR r.edges)]/\Sl U_ 1 A0p00 c0p00 r.Race.Starts.length (hD KL.encI r.Race.Starts)/\Sl U_ 2 A0p01 c0p01 r.Race.Splits.length (hD wAF r.Race.Splits)/\Sl U_ 3 A0p02 c0p02 r.Race.Clocks.length (hD wAA r.Race.Clocks)/\Sl U_ 4 A0p03 c0p03 r.Race.Readings.length (hD wAB r.Race.Readings)/\MpR es0p1 wBL wBO r.number)):=by
 unfold wCM at hm
 refine Gv.of Tryz.func67 Z Tryz.ntmps67 Tryz.results67 Z (sR gDx Z ?_)
 let B0:List Value:=[.slice aj p0.Starts.length an,.slice ak p0.Splits.length ao,.slice am p0.Clocks.length ap,.slice aU p0.Readings.length aV]
 refine ZC (cs:=B0) rfl rfl rfl rfl rfl rfl (by rfl) hS ?_
 intro W1 b2 bQ
 refine yB rfl rfl rfl rfl rfl rfl (eN (sR (wCv gDv) rfl (ze rfl rfl rfl rfl (fun _=>zJ rfl rfl zP rfl Zo) (ZE rfl rfl rfl rfl (bQ.ldB (j:=0) rfl rfl rfl yN (v:=.slice aU p0.Readings.length aV) rfl) rfl (ze rfl rfl rfl rfl (fun _=>zr rfl rfl ZY) (bnK hm fun x5 h6 dB=>OKS.makeSliceZ (sz:=4) (enc:=wAB) (z:=(⟨0,0,0,0⟩:wAK)) (v:=jV 0) rfl rfl rfl rfl rfl (wBE ZY) wLA rfl rfl rfl rfl (by decide) (by decide) rfl rfl h6 bQ ?_))))))
 intro W8 b9 cS
 have bh:sW w U U [.row (some ⟨b9,0,none⟩) x5.length 52 4 (hD wAB x5),.blk b2 45 B0] W8:=cS
 refine yB rfl rfl rfl rfl rfl rfl (eN (sR (wCv (.fx 3 .nil .stop)) rfl (zm rfl rfl rfl rfl rfl rfl (ze rfl rfl rfl rfl (fun _=>zJ rfl rfl zP rfl Zo) (ZE rfl rfl rfl rfl (bh.ldB (j:=1) rfl rfl rfl yN (v:=.slice aU p0.Readings.length aV) rfl) rfl (bnK dB fun aq cI dz=>OKS.copyM (j:=0) (f:=wAB) (m:=x5) (ys:=p0.Readings) (z:=aq) (a:=0) (n:=x5.length) rfl rfl rfl rfl rfl rfl ZY Zg bh rfl (fun _=>rfl) (fun _=>rfl) rfl cI rfl (by simp) (.inr (by simp)) rfl (bh.srcS dr) rfl ?_))))))
 intro cg c6 bj
 let B1:Res:=.row (some ⟨b9,0,none⟩) x5.length 52 4 (hD wAB aq)
 have bP:sW w U U [B1,.blk b2 45 B0] cg:=c6
 refine eN (sR (wCv (.fx 3 .nil .stop)) rfl (zm rfl rfl rfl rfl rfl (Eq.trans (b:=(.slice (some ⟨b9,0,none⟩) x5.length x5.length:Value)) (c:=(.slice (some ⟨b9,0,none⟩) aq.length x5.length:Value)) rfl (by rw [bj])) ?_))
 have dG:=bP.rowCap (j:=0) rfl (by decide) (wAC (f:=wAB) (sz:=4) (fun _=>rfl) aq)
 refine ze (v:=.slice (some ⟨b9,0,none⟩) 0 x5.length) Z Z Z Z (fun _=>ZG (Runs.slc (sz:=4) (a:=0) (b:=0) Z Z (.inr ⟨Z,Z⟩) (.inl ⟨_,Z,Z⟩) ZY Zg (Int.le_refl _) (Int.le_refl _) (Int.natCast_nonneg _) dG) slc0) (oR Z (zJ Z Z zP Z Zo) (zX (j:=1) (vs:=[.slice (some ⟨b9,0,none⟩) 0 x5.length]) Z Z Z Z bP Z Z Z Z Zo (zA Z) Z Z Z ?_))
 intro ci c8
 have da:sW w U U [B1,.blk b2 45 [.slice aj p0.Starts.length an,.slice ak p0.Splits.length ao,.slice am p0.Clocks.length ap,.slice (some ⟨b9,0,none⟩) 0 x5.length]] ci:=c8
 refine eN (zL (sR fL3 rfl (zm rfl rfl rfl rfl rfl (Eq.trans (b:=(.slice (some ⟨b9,0,none⟩) x5.length x5.length:Value)) (c:=(.slice (some ⟨b9,0,none⟩) aq.length x5.length:Value)) rfl (by rw [bj])) (ze rfl rfl rfl rfl (fun _=>zr rfl rfl ZY) (zm rfl rfl rfl rfl rfl rfl (eN (zb ?_)))))))
 have q:=bnd dz
 obtain ⟨⟨dW,dI⟩,du,bW⟩:=q
 try dsimp only at bW
 have q:=wBM du
 obtain ⟨bk,dv⟩:=q
 replace bk:=zM bk
 refine CK.forN' (fun af (ae,ai) σ_ w_=>∃ (U_:PHeap),σ_ 21=jV (↑af:Int)/\σ_ 1=bq/\σ_ 2=.pointer (some ⟨b2,0,none⟩)/\σ_ 19=.slice (some ⟨b9,0,none⟩) ae.length x5.length/\σ_ 20=jV (↑aq.length:Int)/\PHeap.Le U U_/\sW w U U_ [.row (some ⟨b9,0,none⟩) x5.length 52 4 (hD wAB ae),.blk b2 45 [.slice aj p0.Starts.length an,.slice ak p0.Splits.length ao,.slice am p0.Clocks.length ap,.slice (some ⟨b9,0,none⟩) ai x5.length]] w_/\ae.length=x5.length) dv ?_ ?_ ?_
 exact ⟨U,Z,Z,Z,Z,Z,(zN _),da,bj⟩
 rintro af ⟨ae,ai⟩ dV dX dM bi ⟨cc,az,be,aY,bf,bg,bo,bR,bL⟩ bX
 try dsimp only at bX
 have bI:Hid ((↑af:Int) < (↑aq.length:Int)):=zM (wAr bi)
 replace bi:=zM bi
 have bV:Hid (w64 ((↑af:Int) + 1)=(↑(af + 1):Int)):=zM (by have h1:=bk.out;have h2:=bI.out;rw [wAW] <;> omega)
 refine sR fL1 Z (oR Z (zY Z az bg) (eN (zL (cT Z bI (kN (zL (zb (sR (wCv (.fx 3 (.fl 4 (.fx 5 .nil .stop)) .stop)) Z (oM Z az (bnK bX fun _ bM dA=>oR Z (ZR Z bf Z az ZY Zg (wAY bM)) ?_))))))))))
 have dw:=wBb (xs:=ae) (wAY bM)
 let B2:List Value:=[jV ((gd ae af).Skier),jV ((gd ae af).Mat),jV ((gd ae af).Clock),jV ((gd ae af).Time)]
 refine ZE rfl rfl rfl rfl (bR.ldRA (j:=0) rfl rfl rfl rfl yr Zg (vs:=B2) (wGt (sz:=4) (fun _=>rfl) _ _ _ dw (by first | omega | rfl | simp) rfl) rfl) rfl ?_
 let B3:List Value:=[jV 0,jV 0,jV 0,jV 0]
 refine zW (cs:=B3) Z Z Z Z Z Zn Z bR ?_
 intro dN ay db
 refine oA Z Z (zX (j:=0) (vs:=B2) Z Z Z Z db Z Z Z Z Zg (zA Z) Z Z Z ?_)
 intro cj dd
 let B4:Res:=.blk b2 45 [.slice aj p0.Starts.length an,.slice ak p0.Splits.length ao,.slice am p0.Clocks.length ap,.slice (some ⟨b9,0,none⟩) ai x5.length]
 let B5:Res:=.row (some ⟨b9,0,none⟩) x5.length 52 4 (hD wAB ae)
 have bS:sW w U cc [.blk ay 52 B2,B5,B4] cj:=dd
 refine eN (sR (wCv gDv) Z (oM Z be (oM Z Z (oL Z (bS.ldBA (j:=0) Z Z Z yr Zg (vs:=B2) Z Z) (bnK dA fun dU cP dC=>?_)))))
 have cQ:=dt.le bo
 refine YF (a:=((↑af:Int),(gd ae af))) Z Z Z Z Z Z (zB Z (zB Z zO)) bS cQ Z cP ?_
 rintro au dK dT cm bY de ⟨rfl,rfl⟩
 have aZ:sW w U au [.blk ay 52 B2,B5,B4] cm:=de
 refine oR Z (ZW Z Z) (eN (ifc dC ?_ ?_))
 intro bd dD
 refine zy (nC bd.out) (Zi (zx (zI (rR fL2 Z (oR Z (ZG (za Z az Z) (congrArg (jV) bV.out)) (oM Z Z (zg ?_)))))))
 cases dD
 exact zI ⟨rfl,⟨au,rfl,be,aY,bf,bg,(bo.trans bY),(aZ.pick [1,2] _ (by decide) rfl),bL⟩⟩
 intro bd dE
 refine ZJ (nF (bd.out)) (rR (wCv (.fx 3 (.fx 4 (.fl 5 (.fx 6 .nil .stop)) .stop) .stop)) Z (oR Z (zJ Z aY zP Z Zo) (oL Z (aZ.ldB (j:=2) Z Z Z yN (v:=.slice (some ⟨b9,0,none⟩) ai x5.length) Z) (oL Z (aZ.ldBA (j:=0) Z Z Z yr Zg (vs:=B2) Z Z) (zo (pv:=[(0,.agg B2.toArray)]) (zs:=B3) (cs:=B2) Z Z Z Z Z (wAD Z wAM) ZY Zg Zn Z Z Z Z Z aZ ?_)))))
 intro cp cu df
 let B6:Res:=.row (some ⟨cu,0,none⟩) 1 52 4 (hD wAB [(gd ae af)])
 have bU:sW w U au [B6,.blk ay 52 B2,B5,B4] cp:=df
 refine bnK dE fun _ cR dF=>OKS.appendP (j:=2) (k:=ai) (enc:=wAB) (m:=ae) (v:=(gd ae af)) rfl rfl rfl rfl rfl Tryz.underlying43 wLA rfl rfl bU rfl rfl rfl (bU.srcR (j:=0) rfl (by decide) (wAC (f:=wAB) (sz:=4) (fun _=>rfl) [(gd ae af)])) (fun _=>rfl) (fun _=>rfl) cR rfl ?_
 intro cq dg
 let B7:Res:=.row (some ⟨b9,0,none⟩) x5.length 52 4 (hD wAB (nH ae ai (gd ae af)))
 have dh:sW w U au [B6,.blk ay 52 B2,B7,B4] cq:=dg
 refine oR Z (zJ Z aY zP Z Zo) (zX (j:=3) (vs:=[.slice (some ⟨b9,0,none⟩) (ai + 1) x5.length]) Z Z Z Z dh Z Z Z Z Zo (zA Z) Z Z Z ?_)
 intro cr di
 have dm:sW w U au [B6,.blk ay 52 B2,B7,.blk b2 45 [.slice aj p0.Starts.length an,.slice ak p0.Splits.length ao,.slice am p0.Clocks.length ap,.slice (some ⟨b9,0,none⟩) (ai + 1) x5.length]] cr:=di
 refine zg (zx (zI (rR fL2 Z (oR Z (ZG (za Z az Z) (congrArg (jV) bV.out)) (oM Z Z (zg ?_))))))
 cases dF
 exact zI ⟨rfl,⟨au,rfl,be,aY,(Eq.trans (b:=(.slice (some ⟨b9,0,none⟩) ae.length x5.length:Value)) (c:=(.slice (some ⟨b9,0,none⟩) ((nH ae ai (gd ae af)).length) x5.length:Value)) bf (by simp only [nD])),bg,(bo.trans bY),(dm.pick [2,3] _ (by decide) rfl),(nD.trans bL)⟩⟩
 rintro dY bb ⟨ca,cz,dO,cx,dP,cy,bm,cU,dQ⟩
 have cw:Hid (¬ ((↑(((↑aq.length:Int):Int) - 0).toNat:Int) < (↑aq.length:Int))):=zM (wAf)
 refine sR fL1 Z (oR Z (zY Z cz cy) (eN (zL (cF Z cw (Zd (zn (zn (ZV (zI (sR gEe Z (bnK bW fun av bK dx=>?_)))))))))))
 obtain rfl:av.length=dI:=wNj bK
 have cV:=cU.cutRowC (enc:=wAB) (k:=0) rfl bK
 let B8:List Value:=[.slice aj p0.Starts.length an,.slice ak p0.Splits.length ao,.slice am p0.Clocks.length ap,.slice (some ⟨b9,0,none⟩) av.length x5.length]
 have bN:sW w U ca [.row (some ⟨b9,0,none⟩) x5.length 52 4 (hD wAB av),.blk b2 45 B8] bb:=cV
 refine oL Z (bN.ldBA (j:=1) Z Z cx zz zh (vs:=B8) Z Z) ?_
 have q:=bN.freezeR (k:=0) (n:=av.length) rfl (wAC (f:=wAB) (sz:=4) (fun _=>rfl) av) (by decide)
 obtain ⟨bz,bn,dH,cW⟩:=q
 have cX:sW w U bz [.blk b2 45 B8] bb:=cW
 have cA:=dn.le bm
 have cB:=cA.le bn
 have cC:=dp.le bm
 have cD:=cC.le bn
 have cE:=dq.le bm
 have cG:=cE.le bn
 refine bnK dx fun ax cH dy=>zH 0 Z Z Z Z (zG Z Z Tryz.call105 (zB Z zO) Z) cX (fun hs=>wGF (⟨p0.Starts,p0.Splits,p0.Clocks,av⟩:wAE) aj an ak ao am ap (some ⟨b9,0,none⟩) x5.length bb bz hs cB cD cG dH cH) (.inr Z) ?_
 rintro bA dJ dS cd dR cY ⟨bC,br,bD,bs,bE,bt,bF,bu,bG,bp,bJ,bH,a6,bc,rfl,rfl,cJ,cK,cL,cM,cN⟩
 have cZ:sW w U bA [.blk bC 124 [.slice br ax.Race.Starts.length bD,.slice bs ax.Race.Splits.length bE,.slice bt ax.Race.Clocks.length bF,.slice bu ax.Race.Readings.length bG,.map (some bp),.slice a6 ax.edges.length bc],.obj bp (.map bJ bH),.row a6 bc 151 7 (hD wAR ax.edges),.blk b2 45 B8] cd:=cY
 refine oA Z Z (eN (zR ?_))
 have hE:=nB dy;first | subst r | cases hE
 exact ⟨rfl,_,(ZH rfl),bA,_,(cZ.pick [0,1,2] _ (by decide) rfl),bC,br,bD,bs,bE,bt,bF,bu,bG,bp,bJ,bH,a6,bc,rfl,rfl,cJ,cK,cL,cM,cN⟩
theorem wHb (p0:Int) (p1:wAK) (p2:Int) (aj:Nat) (p3:Int) (ak:Nat) (w:World) (U:PHeap) (hS:St0 w U []) (am:Cl U aj 0 [jV p2]) (an:Cl U ak 0 [jV p3]) {r:Bool} (hm:wDI p0 p1 p2 p3=some r):Gv Tryz.prog 69 [jV p0,.agg #[jV p1.Skier,jV p1.Mat,jV p1.Clock,jV p1.Time],.pointer (some ⟨aj,0,none⟩),.pointer (some ⟨ak,0,none⟩)] w (wBa w [] U (fun U_ L_ v=>v=.bool r/\L_=[])):=by
 unfold wDI at hm
 refine Gv.of Tryz.func69 rfl Tryz.ntmps69 Tryz.results69 rfl (sR gDx rfl (ZC (cs:=[jV p1.Skier,jV p1.Mat,jV p1.Clock,jV p1.Time]) rfl rfl rfl rfl rfl rfl (by rfl) hS ?_))
 intro W1 b2 ac
 refine oA Z Z (eN (sR fL9 Z (oM Z Z (oL Z (ac.ldC (f:=0) am (v:=jV p2) Z Z zF Z) (oR Z (yO Z Z Z) (oM Z Z ?_))))))
 by_cases c5:p0=p2
 have ai:=hm;rw [if_pos c5] at ai;replace c5:=zM c5
 refine oT Z c5 (oT Z c5 (oT Z c5 (oR Z (zT Z (Zm c5.out) Z) (oA Z Z (eN (zR ?_))))))
 have hE:=nB ai;first | subst r | cases hE
 exact ⟨rfl,_,(ZH rfl),U,_,(ac.pick [] _ (by decide) rfl),rfl,rfl⟩
 have af:=hm;rw [if_neg c5] at af;replace c5:=zM c5
 refine zm Z Z Z (wF Z c5) Z Z (ZE Z Z Z (wF Z c5) (ac.ldC (f:=0) an (v:=jV p3) Z Z zF Z) Z (rU Z (wF Z c5) (yO Z Z Z) (oR Z (zc Z (ZM c5.out) Z) (oA Z Z (eN (zR ?_))))))
 first | (obtain rfl:=nB af) | cases af
 exact ⟨rfl,_,(ZH rfl),U,_,(ac.pick [] _ (by decide) rfl),rfl,rfl⟩
theorem wIc (p0:wAE) (bf:Option Addr) (bi:Nat) (bg:Option Addr) (bj:Nat) (bh:Option Addr) (bk:Nat) (an:Option Addr) (ao:Nat) (w:World) (U:PHeap) (hS:St0 w U []) (cz:Sl U 1 bf bi p0.Starts.length (hD KL.encI p0.Starts)) (cA:Sl U 2 bg bj p0.Splits.length (hD wAF p0.Splits)) (cB:Sl U 3 bh bk p0.Clocks.length (hD wAA p0.Clocks)) (cC:Sl U 4 an ao p0.Readings.length (hD wAB p0.Readings)) {r:(List Int) × Int} (hm:wFO p0=some r):Gv Tryz.prog 43 [.agg #[.slice bf p0.Starts.length bi,.slice bg p0.Splits.length bj,.slice bh p0.Clocks.length bk,.slice an p0.Readings.length ao]] w (wBa w [] U (fun U_ L_ v=>∃ (A0:Option Addr) (c0:Nat),v=.tuple #[.slice A0 r.1.length c0,jV r.2]/\L_=[.row A0 c0 3 1 (hD KL.encI r.1)])):=by
 unfold wFO at hm
 refine Gv.of Tryz.func43 Z Tryz.ntmps43 Tryz.results43 Z (sR gEg Z ?_)
 let B0:List Value:=[.slice bf p0.Starts.length bi,.slice bg p0.Splits.length bj,.slice bh p0.Clocks.length bk,.slice an p0.Readings.length ao]
 refine ZC (cs:=B0) rfl rfl rfl rfl rfl rfl (by rfl) hS ?_
 intro W1 b2 dO
 refine oA Z Z (oA Z Z (eN (CK.scope (sR (.fl 0 (.fx 1 (wHD (.nil)) .stop)) Z (oL Z (dO.ldBA (j:=0) Z Z Z zz zh (vs:=B0) Z Z) ?_)))))
 have q:=bnd hm
 obtain ⟨⟨x5,x6⟩,h7,br⟩:=q
 try dsimp only at br
 refine zH 0 Z Z Z Z (zG Z Z Tryz.call64 (zB Z zO) Z) dO (fun hs=>wEZ p0 bf bi bg bj bh bk an ao W1 U hs cz cA cB cC h7) (.inr Z) ?_
 rintro U9 jQ k9 bG az dL dK
 rcases x5 with _ | aq
 try dsimp only at br
 obtain ⟨rfl,rfl⟩:=dK
 have iR:sW w U U9 [.blk b2 45 B0] bG:=dL
 refine oM Z Z (oR Z (zV Z Z (v:=.pointer none) Z) (oR Z (zV Z Z (v:=jV x6) Z) (oA Z Z (oA Z Z (eN (zL (zb (sR fL3 Z (oM Z Z (oR Z (Zk Z Z Z) (oA Z Z (eN (ifc br ?_ ?_)))))))))))))
 intro cg jw
 refine zy (ZM (fun h=>h cg.out)) (sR gEe Z (oM Z Z ?_))
 cases jw
 intro cg jx
 refine cT Z cg (sR fL3 Z (oM Z Z (oA Z Z (oA Z Z (eN (zR (zd (zS (wFY ?_)))))))))
 have iW:=iR.nilrow 3 1
 cases jx
 exact ⟨rfl,_,(wEF rfl rfl),U9,_,(iW.pick [0] _ (by decide) rfl),none,0,rfl,rfl⟩
 try dsimp only at br
 obtain ⟨bX,cP,dr,cQ,dt,cR,du,cS,dw,ae,ag,af,bP,cd,rfl,rfl,ii,ij,ik,il,im⟩:=dK
 let B1:Res:=.blk bX 124 [.slice cP aq.Race.Starts.length dr,.slice cQ aq.Race.Splits.length dt,.slice cR aq.Race.Clocks.length du,.slice cS aq.Race.Readings.length dw,.map (some ae),.slice bP aq.edges.length cd]
 have dQ:sW w U U9 [B1,.obj ae (.map ag af),.row bP cd 151 7 (hD wAR aq.edges),.blk b2 45 B0] bG:=dL
 refine oM Z Z (oR Z (zV Z Z (v:=.pointer (some ⟨bX,0,none⟩)) Z) (oR Z (zV Z Z (v:=jV x6) Z) (oA Z Z (oA Z Z (eN (zL (zb (sR fL3 Z (oM Z Z (oR Z (Zk Z Z Z) (oA Z Z (eN (ifc br ?_ ?_)))))))))))))
 intro cm jF
 refine zy (ZM (fun h=>h cm.out)) (sR gEe Z (oM Z Z ?_))
 have q:=dQ.freezeR (k:=2) (n:=aq.edges.length) rfl (wAC (f:=wAR) (sz:=7) (fun _=>rfl) aq.edges) (by decide)
 obtain ⟨da,am,jK,ja⟩:=q
 have jb:sW w U da [B1,.obj ae (.map ag af),.blk b2 45 B0] bG:=ja
 have io:=ii.le am
 have ip:=ij.le am
 have iq:=ik.le am
 have ir:=il.le am
 refine bnK jF fun lk it jG=>zH 2 Z Z Z Z (zG Z Z Tryz.call66 (zB Z zO) Z) jb (fun hs=>wCH aq bX cP dr cQ dt cR du cS dw ae ag af bP cd bG da hs io ip iq ir im jK it) (.inl Z) ?_
 rintro bE jW lh eK aV jc ⟨rfl,rfl⟩
 have cw:sW w U bE [B1,.obj ae (.map ag af),.blk b2 45 B0] eK:=jc
 refine oA Z Z (eN (ifc jG ?_ ?_))
 intro co jH
 refine ZJ (congrArg hJ co.out) (sR fL2 Z (oA Z Z (oA Z Z (eN (zR (zd (zS (wFY ?_))))))))
 have jd:=cw.nilrow 3 1
 cases jH
 exact ⟨rfl,_,(wEF rfl rfl),bE,_,(jd.pick [0] _ (by decide) rfl),none,0,rfl,rfl⟩
 intro co cI
 refine zy (congrArg hJ (nA.2 co.out)) (Zi (zx (zI (sR fL1 Z (oA Z Z (eN (zL (sR fL4 Z (oR Z (zJ Z Z zP Z Zo) (oL Z (cw.ldB (j:=2) Z Z Z yN (v:=.slice an p0.Readings.length ao) Z) (oR Z (zr Z Z ZY) (oM Z Z (eN (zb ?_))))))))))))))
 have q:=wBQ cI
 obtain ⟨k8,cy⟩:=q
 have q:=wBP cy
 obtain ⟨cH,jm⟩:=q
 replace cH:=zM cH
 refine yG (fun ak _ σ_ w_=>∃ (U_:PHeap),σ_ 25=jV (↑ak:Int)/\σ_ 1=.pointer (some ⟨b2,0,none⟩)/\σ_ 6=.slice none 0 0/\σ_ 24=jV (↑p0.Readings.length:Int)/\PHeap.Le bE U_/\sW w U U_ [B1,.obj ae (.map ag af),.blk b2 45 B0] w_) jm ?_ ?_ ?_
 exact ⟨bE,Z,Z,Z,Z,(zN _),cw⟩
 rintro ak ⟨⟩ lp lw j7 cE ⟨ew,cr,dH,ff,dI,bv,je⟩ dZ jk
 try dsimp only at dZ
 have dB:Hid ((↑ak:Int) < (↑p0.Readings.length:Int)):=zM (wAr cE)
 replace cE:=zM cE
 have jo:Hid (w64 ((↑ak:Int) + 1)=(↑(ak + 1):Int)):=zM (by have h1:=cH.out;have h2:=dB.out;rw [wAW] <;> omega)
 refine sR fL1 Z (oR Z (zY Z cr dI) (eN (zL (cT Z dB (kN (zL (zb (sR gEh Z (oM Z cr (zW (cs:=[jV 0]) Z Z Z Z Z zt Z je ?_))))))))))
 intro j8 ba jf
 let B2:List Value:=[jV (↑ak:Int)]
 refine zX (j:=0) (vs:=B2) Z Z Z Z jf Z Z Z Z zD (zA Z) Z Z Z ?_
 intro bW jg
 have dR:sW w U ew [.blk ba 3 B2,B1,.obj ae (.map ag af),.blk b2 45 B0] bW:=jg
 refine eN (sR gEm Z (oL Z (dR.ldBA (j:=3) Z Z dH zz zh (vs:=B0) Z Z) ?_))
 have q:=dR.freeze (k:=0) rfl
 obtain ⟨bA,bs,bb,iy⟩:=q
 replace bb:=Cl.of bb
 have iz:sW w U bA [B1,.obj ae (.map ag af),.blk b2 45 B0] bW:=iy
 replace bb:Cl bA ba 0 B2:=bb
 refine oR Z (YD Z zO (zB Z zO)) ?_
 have fj:=cz.le az
 have fk:=fj.le am
 have fm:=fk.le aV
 have fq:=fm.le bv
 have ft:=fq.le bs
 have fu:=cA.le az
 have fw:=fu.le am
 have fy:=fw.le aV
 have fz:=fy.le bv
 have fA:=fz.le bs
 have fB:=cB.le az
 have fC:=fB.le am
 have fD:=fC.le aV
 have fE:=fD.le bv
 have fG:=fE.le bs
 have fH:=cC.le az
 have fI:=fH.le am
 have fJ:=fI.le aV
 have fK:=fJ.le bv
 have fL:=fK.le bs
 have iv:FnOK Tryz.prog bA (.func (.func 68) #[] #[.pointer (some ⟨ba,0,none⟩)]) wLm wLn (fun x=>wDH x.1 x.2 (↑ak:Int)):=⟨68,[],[.pointer (some ⟨ba,0,none⟩)],rfl,Tryz.call68,fun U1 w1 x y vs le hs ha hm=>by obtain rfl:=ha;exact wHa x.1 x.2 (↑ak:Int) ba w1 U1 hs (bb.le le) hm⟩
 refine bnK dZ fun ap fM jp=>zH 0 Z Z Z Z (zG Z Z Tryz.call67 (zB Z (zB Z zO)) Z) iz (fun hs=>wDO p0 bf bi bg bj bh bk an ao (fun x=>wDH x.1 x.2 (↑ak:Int)) (.func (.func 68) #[] #[.pointer (some ⟨ba,0,none⟩)]) bW bA hs ft fA fG fL iv fM) (.inr Z) ?_
 rintro ef jR lb bU d5 iA ⟨de,cL,dm,cM,dn,cN,dp,cO,dq,be,bn,bm,bN,ca,rfl,rfl,fN,fO,fP,fQ,fR⟩
 let B3:Res:=.blk de 124 [.slice cL ap.Race.Starts.length dm,.slice cM ap.Race.Splits.length dn,.slice cN ap.Race.Clocks.length dp,.slice cO ap.Race.Readings.length dq,.map (some be),.slice bN ap.edges.length ca]
 have iB:sW w U ef [B3,.obj be (.map bn bm),.row bN ca 151 7 (hD wAR ap.edges),B1,.obj ae (.map ag af),.blk b2 45 B0] bU:=iA
 have q:=iB.freezeR (k:=2) (n:=ap.edges.length) rfl (wAC (f:=wAR) (sz:=7) (fun _=>rfl) ap.edges) (by decide)
 obtain ⟨cY,bc,jI,iC⟩:=q
 have iD:sW w U cY [B3,.obj be (.map bn bm),B1,.obj ae (.map ag af),.blk b2 45 B0] bU:=iC
 have fS:=fN.le bc
 have fT:=fO.le bc
 have fU:=fP.le bc
 have fV:=fQ.le bc
 refine bnK jp fun li fW jq=>zH 2 Z Z Z Z (zG Z Z Tryz.call66 (zB Z zO) Z) iD (fun hs=>wCH ap de cL dm cM dn cN dp cO dq be bn bm bN ca bU cY hs fS fT fU fV fR jI fW) (.inl Z) ?_
 rintro bB jS lc eB d7 iE ⟨rfl,rfl⟩
 have cu:sW w U bB [B3,.obj be (.map bn bm),B1,.obj ae (.map ag af),.blk b2 45 B0] eB:=iE
 refine eN (ifc jq ?_ ?_)
 intro cc jr
 refine ZJ (congrArg hJ cc.out) (sR gEn Z ?_)
 have fY:=bb.le d5
 have fZ:=fY.le bc
 have f5:=fZ.le d7
 refine oL Z (cu.ldC (f:=0) f5 (v:=jV (↑ak:Int)) Z Z zF Z) (zo (pv:=[(0,jV (↑ak:Int))]) (zs:=[jV 0]) (cs:=B2) Z Z Z Z Z (wAD Z wAM) zC zD zt Z Z Z Z Z cu ?_)
 intro eD df iF
 have iG:sW w U bB [.row (some ⟨df,0,none⟩) 1 3 1 (hD KL.encI [(↑ak:Int)]),B3,.obj be (.map bn bm),B1,.obj ae (.map ag af),.blk b2 45 B0] eD:=iF
 refine oA Z Z (oA Z Z (eN (zR (zd (zS ?_)))))
 have q:=wAZ jr
 obtain ⟨jL,jt,eQ⟩:=q
 have q:=wBB cI cy (jk jL eQ)
 obtain rfl:=q
 refine zS (zd (zS (wFY ?_)))
 cases jt
 exact ⟨rfl,_,(wEF rfl rfl),bB,_,(iG.pick [0] _ (by decide) rfl),(some ⟨df,0,none⟩),1,rfl,rfl⟩
 intro cc ju
 refine zy (congrArg hJ (nA.2 cc.out)) (Zi (zx (zI (rR fL2 Z (oR Z (ZG (za Z cr Z) (congrArg (jV) jo.out)) (oM Z Z (zg ?_)))))))
 have q:=nB ju
 obtain rfl:=q
 exact zI ⟨rfl,_,rfl,⟨bB,rfl,dH,ff,dI,((((bv.trans bs).trans d5).trans bc).trans d7),(cu.pick [2,3,4] _ (by decide) rfl)⟩⟩
 rintro ⟨⟩ lq jX ⟨cZ,fg,dC,eX,eY,bK,dM⟩ jh
 have bJ:=wCE cI cy jh
 try dsimp only at bJ
 have eM:Hid (¬ ((↑(((↑p0.Readings.length:Int):Int) - 0).toNat:Int) < (↑p0.Readings.length:Int))):=zM (wAf)
 refine sR fL1 Z (oR Z (zY Z fg eY) (eN (zL (cF Z eM (Zd (zn (zn (ZV (zI (zL (CK.label (zI (zL (sR fL4 Z (oR Z (zJ Z dC zP Z Zo) (oL Z (dM.ldB (j:=2) Z Z Z yN (v:=.slice an p0.Readings.length ao) Z) (oR Z (zr Z Z ZY) (oM Z Z (eN (zb ?_))))))))))))))))))))
 have q:=wBQ bJ
 obtain ⟨k6,cx⟩:=q
 have q:=wBP cx
 obtain ⟨cG,jl⟩:=q
 replace cG:=zM cG
 refine yG (fun aj _ σ_ w_=>∃ (U_:PHeap),σ_ 38=jV (↑aj:Int)/\σ_ 1=.pointer (some ⟨b2,0,none⟩)/\σ_ 6=.slice none 0 0/\σ_ 37=jV (↑p0.Readings.length:Int)/\PHeap.Le cZ U_/\sW w U U_ [B1,.obj ae (.map ag af),.blk b2 45 B0] w_) jl ?_ ?_ ?_
 exact ⟨cZ,Z,dC,eX,Z,(zN _),dM⟩
 rintro aj ⟨⟩ lm ls jY cD ⟨c6,cq,eZ,fb,dD,bt,iH⟩ dX ji
 try dsimp only at dX
 have dv:Hid ((↑aj:Int) < (↑p0.Readings.length:Int)):=zM (wAr cD)
 replace cD:=zM cD
 have dT:Hid (w64 ((↑aj:Int) + 1)=(↑(aj + 1):Int)):=zM (by have h1:=cG.out;have h2:=dv.out;rw [wAW] <;> omega)
 refine sR fL1 Z (oR Z (zY Z cq dD) (eN (zL (cT Z dv (kN (zL (zb (sR gEh Z (oM Z cq (zW (cs:=[jV 0]) Z Z Z Z Z zt Z iH ?_))))))))))
 intro jZ av iI
 let B4:List Value:=[jV (↑aj:Int)]
 refine zX (j:=0) (vs:=B4) Z Z Z Z iI Z Z Z Z zD (zA Z) Z Z Z ?_
 intro eF iJ
 have dN:sW w U c6 [.blk av 3 B4,B1,.obj ae (.map ag af),.blk b2 45 B0] eF:=iJ
 refine eN (sR gEm Z (oL Z (dN.ldB (j:=0) Z Z Z zF (v:=jV (↑aj:Int)) Z) (oR Z (ZG (za Z Z Z) (congrArg (jV) dT.out)) (zW (cs:=[jV 0]) Z Z Z Z Z zt Z dN ?_))))
 intro j4 bY iK
 let B5:List Value:=[jV (↑(aj + 1):Int)]
 refine zX (j:=0) (vs:=B5) Z Z Z Z iK Z Z Z Z zD (zA Z) Z Z Z ?_
 intro db iL
 have iM:sW w U c6 [.blk bY 3 B5,.blk av 3 B4,B1,.obj ae (.map ag af),.blk b2 45 B0] db:=iL
 refine eN (zb ?_)
 have q:=iM.freeze (k:=1) rfl
 obtain ⟨bC,bu,bo,iN⟩:=q
 replace bo:=Cl.of bo
 have iO:sW w U bC [.blk bY 3 B5,B1,.obj ae (.map ag af),.blk b2 45 B0] db:=iN
 replace bo:Cl bC av 0 B4:=bo
 refine CK.iter (fun ai σ_ w_=>∃ (U_:PHeap) (ax:Nat),σ_ 1=.pointer (some ⟨b2,0,none⟩)/\σ_ 6=.slice none 0 0/\σ_ 8=.pointer (some ⟨av,0,none⟩)/\σ_ 9=.pointer (some ⟨ax,0,none⟩)/\σ_ 37=jV (↑p0.Readings.length:Int)/\σ_ 38=jV (↑aj:Int)/\PHeap.Le bC U_/\sW w U U_ [B1,.obj ae (.map ag af),.blk b2 45 B0,.blk ax 3 [jV ai]] w_) dX ?_ ?_
 exact ⟨bC,bY,eZ,fb,rfl,rfl,dD,cq,(zN _),(iO.pick [1,2,3,0] _ (by decide) rfl)⟩
 rintro ai ln lu dd ⟨eh,ax,bH,dE,cp,bI,dF,dG,a6,bp⟩ dY dS
 refine zL (sR fL5 Z (oL Z (bp.ldB (j:=3) Z Z bI zF (v:=jV ai) Z) (oR Z (zJ Z bH zP Z Zo) (oL Z (bp.ldB (j:=2) Z Z Z yN (v:=.slice an p0.Readings.length ao) Z) (oR Z (zr Z Z ZY) (oR Z (zY Z Z Z) (eN ?_)))))))
 by_cases ay:ai < (↑p0.Readings.length:Int)
 have dU:=dY;rw [if_pos ay] at dU;replace ay:=zM ay
 refine cT Z ay (kN (zL (zb (sR gEm Z (oL Z (bp.ldBA (j:=2) Z Z bH zz zh (vs:=B0) Z Z) ?_)))))
 have q:=bp.freeze (k:=3) rfl
 obtain ⟨bD,bd,aZ,iP⟩:=q
 replace aZ:=Cl.of aZ
 have iQ:sW w U bD [B1,.obj ae (.map ag af),.blk b2 45 B0] dd:=iP
 replace aZ:Cl bD ax 0 [jV ai]:=aZ
 refine oR Z (YD Z zO (zB cp (zB bI zO))) ?_
 have f7:=cz.le az
 have f8:=f7.le am
 have f9:=f8.le aV
 have ga:=f9.le bK
 have gb:=ga.le bt
 have ge:=gb.le bu
 have gf:=ge.le a6
 have gg:=gf.le bd
 have gh:=cA.le az
 have gi:=gh.le am
 have gj:=gi.le aV
 have gm:=gj.le bK
 have gq:=gm.le bt
 have gt:=gq.le bu
 have gu:=gt.le a6
 have gv:=gu.le bd
 have gw:=cB.le az
 have gx:=gw.le am
 have gy:=gx.le aV
 have gz:=gy.le bK
 have gA:=gz.le bt
 have gB:=gA.le bu
 have gC:=gB.le a6
 have gD:=gC.le bd
 have gE:=cC.le az
 have gF:=gE.le am
 have gG:=gF.le aV
 have gH:=gG.le bK
 have gI:=gH.le bt
 have gJ:=gI.le bu
 have gK:=gJ.le a6
 have gL:=gK.le bd
 have gM:=bo.le a6
 have dJ:=gM.le bd
 have iw:FnOK Tryz.prog bD (.func (.func 69) #[] #[.pointer (some ⟨av,0,none⟩),.pointer (some ⟨ax,0,none⟩)]) wLm wLn (fun x=>wDI x.1 x.2 (↑aj:Int) ai):=⟨69,[],[.pointer (some ⟨av,0,none⟩),.pointer (some ⟨ax,0,none⟩)],rfl,Tryz.call69,fun U1 w1 x y vs le hs ha hm=>by obtain rfl:=ha;exact wHb x.1 x.2 (↑aj:Int) av ai ax w1 U1 hs (dJ.le le) (aZ.le le) hm⟩
 refine bnK dU fun au gN jv=>zH 0 Z Z Z Z (zG Z Z Tryz.call67 (zB Z (zB Z zO)) Z) iQ (fun hs=>wDO p0 bf bi bg bj bh bk an ao (fun x=>wDI x.1 x.2 (↑aj:Int) ai) (.func (.func 69) #[] #[.pointer (some ⟨av,0,none⟩),.pointer (some ⟨ax,0,none⟩)]) dd bD hs gg gv gD gL iw gN) (.inr Z) ?_
 rintro ep jT lf bV bL iS ⟨dg,cU,dx,cV,dy,cW,dz,cX,dA,aW,aY,aX,bQ,ci,rfl,rfl,gO,gP,gQ,gR,gS⟩
 let B6:Res:=.blk dg 124 [.slice cU au.Race.Starts.length dx,.slice cV au.Race.Splits.length dy,.slice cW au.Race.Clocks.length dz,.slice cX au.Race.Readings.length dA,.map (some aW),.slice bQ au.edges.length ci]
 have iT:sW w U ep [B6,.obj aW (.map aY aX),.row bQ ci 151 7 (hD wAR au.edges),B1,.obj ae (.map ag af),.blk b2 45 B0] bV:=iS
 have q:=iT.freezeR (k:=2) (n:=au.edges.length) rfl (wAC (f:=wAR) (sz:=7) (fun _=>rfl) au.edges) (by decide)
 obtain ⟨c8,aU,jJ,iU⟩:=q
 have iV:sW w U c8 [B6,.obj aW (.map aY aX),B1,.obj ae (.map ag af),.blk b2 45 B0] bV:=iU
 have gT:=gO.le aU
 have gU:=gP.le aU
 have gV:=gQ.le aU
 have gW:=gR.le aU
 refine bnK jv fun lj gX jy=>zH 2 Z Z Z Z (zG Z Z Tryz.call66 (zB Z zO) Z) iV (fun hs=>wCH au dg cU dx cV dy cW dz cX dA aW aY aX bQ ci bV c8 hs gT gU gV gW gS jJ gX) (.inl Z) ?_
 rintro a8 jU lg eG bM iX ⟨rfl,rfl⟩
 have bq:sW w U a8 [B6,.obj aW (.map aY aX),B1,.obj ae (.map ag af),.blk b2 45 B0] eG:=iX
 refine eN (ifc jy ?_ ?_)
 intro cj jz
 refine ZJ (congrArg hJ cj.out) (sR gEl Z ?_)
 have gY:=dJ.le bL
 have gZ:=gY.le aU
 have g6:=gZ.le bM
 refine oL Z (bq.ldC (f:=0) g6 (v:=jV (↑aj:Int)) Z cp zF Z) ?_
 have g7:=aZ.le bL
 have g8:=g7.le aU
 have g9:=g8.le bM
 refine oL Z (bq.ldC (f:=0) g9 (v:=jV ai) Z bI zF Z) (zo (pv:=[(0,jV (↑aj:Int)),(1,jV ai)]) (zs:=[jV 0,jV 0]) (cs:=[jV (↑aj:Int),jV ai]) Z Z Z Z Z (wAD Z (wAD Z wAM)) zC zD zt Z Z Z Z Z bq ?_)
 intro eH dh iY
 have iZ:sW w U a8 [.row (some ⟨dh,0,none⟩) 2 3 1 (hD KL.encI [(↑aj:Int),ai]),B6,.obj aW (.map aY aX),B1,.obj ae (.map ag af),.blk b2 45 B0] eH:=iY
 refine oA Z Z (eN (Zd (wHt (zn ?_))))
 have q:=wAZ jz
 obtain ⟨jM,jA,eU⟩:=q
 have q:=dS jM eU
 obtain rfl:=q
 refine zn (wHt (wHt (zn ?_)))
 have q:=wAZ jA
 obtain ⟨jN,jB,eV⟩:=q
 have q:=wBB bJ cx (ji jN eV)
 obtain rfl:=q
 refine zn (ZV (zI (zL (sR fL3 rfl (zm rfl rfl rfl rfl rfl rfl (ze rfl rfl rfl rfl (fun _=>zr rfl rfl zC) (ze rfl rfl rfl rfl (fun _=>yO rfl rfl rfl) (eN (zy (ZM (by decide)) (kN (sR fL3 rfl (zm rfl rfl rfl rfl rfl rfl (yB rfl rfl rfl rfl rfl rfl (yB rfl rfl rfl rfl rfl rfl (eN (zR (wFY ?_)))))))))))))))))
 cases jB
 exact ⟨rfl,_,(wEF rfl rfl),a8,_,(iZ.pick [0] _ (by decide) rfl),(some ⟨dh,0,none⟩),2,rfl,rfl⟩
 intro cj jC
 refine zy (congrArg hJ (nA.2 cj.out)) (Zi (zx (zI (zL (sR fL1 Z ?_)))))
 have ic:=aZ.le bL
 have ie:=ic.le aU
 have ig:=ie.le bM
 refine oL Z (bq.ldC (f:=0) ig (v:=jV ai) Z bI zF Z) (eN (rR gEa Z (zW (cs:=[jV 0]) Z Z Z Z Z zt Z bq ?_)))
 intro j5 bZ i2
 refine zX (j:=0) (vs:=[jV ai]) Z Z Z Z i2 Z Z Z Z zD (zA Z) Z Z Z ?_
 intro eI i4
 have dP:sW w U a8 [.blk bZ 3 [jV ai],B6,.obj aW (.map aY aX),B1,.obj ae (.map ag af),.blk b2 45 B0] eI:=i4
 refine eN (rR gEi Z (oL Z (dP.ldB (j:=0) Z Z Z zF (v:=jV ai) Z) (oR Z (za Z Z Z) (zX (j:=0) (vs:=[jV (w64 (ai + 1))]) Z Z Z Z dP Z Z Z Z zD (zA Z) Z Z Z ?_))))
 intro eJ i5
 have i6:sW w U a8 [.blk bZ 3 [jV (w64 (ai + 1))],B6,.obj aW (.map aY aX),B1,.obj ae (.map ag af),.blk b2 45 B0] eJ:=i5
 refine zg ?_
 have q:=nB jC
 obtain rfl:=q
 exact zI ⟨rfl,_,rfl,⟨a8,bZ,bH,dE,cp,rfl,dF,dG,((((a6.trans bd).trans bL).trans aU).trans bM),(i6.pick [3,4,5,0] _ (by decide) rfl)⟩⟩
 have dV:=dY;rw [if_neg ay] at dV;replace ay:=zM ay
 refine cF Z ay (Zd (zn ?_))
 have q:=wAZ dV
 obtain ⟨jO,jD,eW⟩:=q
 have q:=dS jO eW
 obtain rfl:=q
 refine zn (ZV (zx (zI (rR fL2 Z (oR Z (ZG (za Z dG Z) (congrArg (jV) dT.out)) (oM Z Z (zg ?_)))))))
 have q:=nB jD
 obtain rfl:=q
 exact zI ⟨rfl,_,rfl,⟨eh,rfl,bH,dE,dF,((bt.trans bu).trans a6),(bp.pick [0,1,2] _ (by decide) rfl)⟩⟩
 rintro ⟨⟩ lv j6 ⟨eu,fh,j9,fc,fd,k5,i7⟩ jj
 have dW:=wCE bJ cx jj
 try dsimp only at dW
 have eO:Hid (¬ ((↑(((↑p0.Readings.length:Int):Int) - 0).toNat:Int) < (↑p0.Readings.length:Int))):=zM (wAf)
 refine sR fL1 rfl (ze rfl rfl rfl rfl (fun _=>zY rfl fh fd) (eN (zL (cF Z eO (Zd (zn (zn (ZV (zI (zL (sR fL3 rfl (zm rfl rfl rfl rfl rfl fc (ze rfl rfl rfl rfl (fun _=>zr rfl rfl zC) (ze rfl rfl rfl rfl (fun _=>yO rfl rfl rfl) (eN (ZJ (Zm (by decide)) (sR fL2 rfl (yB rfl rfl rfl rfl rfl rfl (yB rfl rfl rfl rfl rfl rfl (eN (zR (zS (wFY ?_)))))))))))))))))))))))
 have i8:=i7.nilrow 3 1
 cases dW
 exact ⟨rfl,_,(wEF rfl rfl),eu,_,(i8.pick [0] _ (by decide) rfl),none,0,rfl,rfl⟩
 intro cm jE
 refine cT Z cm (sR fL3 Z (oM Z Z (oA Z Z (oA Z Z (eN (zR (zd (zS (wFY ?_)))))))))
 have i9:=dQ.nilrow 3 1
 cases jE
 exact ⟨rfl,_,(wEF rfl rfl),U9,_,(i9.pick [0] _ (by decide) rfl),none,0,rfl,rfl⟩
end Go.Proofs.YtkghaiefcjgfkaaGreat
namespace Go.Proofs.YtkghaiefcjgfkaaGreat
open Go.KL
set_option maxHeartbeats 4000000
theorem wHc (p0:Int) (p1:wAK) (p2:Int) (af:Nat) (w:World) (U:PHeap) (hS:St0 w U []) (ag:Cl U af 0 [jV p2]) {r:Bool} (hm:wDJ p0 p1 p2=some r):Gv Tryz.prog 70 [jV p0,.agg #[jV p1.Skier,jV p1.Mat,jV p1.Clock,jV p1.Time],.pointer (some ⟨af,0,none⟩)] w (wBa w [] U (fun U_ L_ v=>v=.bool r/\L_=[])):=by
 unfold wDJ at hm
 refine Gv.of Tryz.func70 rfl Tryz.ntmps70 Tryz.results70 rfl (sR gDx rfl (ZC (cs:=[jV p1.Skier,jV p1.Mat,jV p1.Clock,jV p1.Time]) rfl rfl rfl rfl rfl rfl (by rfl) hS ?_))
 intro W1 b2 ab
 refine oA Z Z (eN (sR fL5 Z (oR Z (zJ Z Z ZL Z zD) (oL Z (ab.ldB (j:=0) Z Z Z zF (v:=jV p1.Skier) Z) (oL Z (ab.ldC (f:=0) ag (v:=jV p2) Z Z zF Z) (oR Z (yO Z Z Z) (oA Z Z (eN (zR ?_)))))))))
 first | (obtain rfl:=nB hm) | cases hm
 exact ⟨rfl,_,(ZH rfl),U,_,(ab.pick [] _ (by decide) rfl),rfl,rfl⟩
theorem wId (p0:wAE) (aU:Option Addr) (aV:Nat) (a8:Option Addr) (bc:Nat) (ba:Option Addr) (bd:Nat) (bb:Option Addr) (be:Nat) (w:World) (U:PHeap) (hS:St0 w U []) (cA:Sl U 1 aU aV p0.Starts.length (hD KL.encI p0.Starts)) (cB:Sl U 2 a8 bc p0.Splits.length (hD wAF p0.Splits)) (cC:Sl U 3 ba bd p0.Clocks.length (hD wAA p0.Clocks)) (cD:Sl U 4 bb be p0.Readings.length (hD wAB p0.Readings)) {r:(List Int) × Int} (hm:wFP p0=some r):Gv Tryz.prog 44 [.agg #[.slice aU p0.Starts.length aV,.slice a8 p0.Splits.length bc,.slice ba p0.Clocks.length bd,.slice bb p0.Readings.length be]] w (wBa w [] U (fun U_ L_ v=>∃ (A0:Option Addr) (c0:Nat),v=.tuple #[.slice A0 r.1.length c0,jV r.2]/\L_=[.row A0 c0 3 1 (hD KL.encI r.1)])):=by
 unfold wFP at hm
 refine Gv.of Tryz.func44 Z Tryz.ntmps44 Tryz.results44 Z (sR gEg Z ?_)
 let B0:List Value:=[.slice aU p0.Starts.length aV,.slice a8 p0.Splits.length bc,.slice ba p0.Clocks.length bd,.slice bb p0.Readings.length be]
 refine ZC (cs:=B0) rfl rfl rfl rfl rfl rfl (by rfl) hS ?_
 intro W1 b2 cy
 refine oA Z Z (oA Z Z (eN (sR (.fl 0 (.fx 1 (wHD (.nil)) .stop)) Z (oL Z (cy.ldBA (j:=0) Z Z Z zz zh (vs:=B0) Z Z) ?_))))
 have q:=bnd hm
 obtain ⟨⟨x5,x6⟩,h7,a6⟩:=q
 try dsimp only at a6
 refine zH 0 Z Z Z Z (zG Z Z Tryz.call64 (zB Z zO) Z) cy (fun hs=>wEZ p0 aU aV a8 bc ba bd bb be W1 U hs cA cB cC cD h7) (.inr Z) ?_
 rintro U9 fz fJ bj bm cw cr
 rcases x5 with _ | ak
 try dsimp only at a6
 obtain ⟨rfl,rfl⟩:=cr
 have eH:sW w U U9 [.blk b2 45 B0] bj:=cw
 refine oM Z Z (oR Z (zV Z Z (v:=.pointer none) Z) (oR Z (zV Z Z (v:=jV x6) Z) (oA Z Z (oA Z Z (eN (zL (zb (sR fL3 Z (oM Z Z (oR Z (Zk Z Z Z) (oA Z Z (eN (ifc a6 ?_ ?_)))))))))))))
 intro bw fd
 refine zy (ZM (fun h=>h bw.out)) (sR gEe Z (oM Z Z ?_))
 cases fd
 intro bw ff
 refine cT Z bw (sR fL3 Z (oM Z Z (oA Z Z (oA Z Z (eN (zR (zd (zS ?_))))))))
 have eI:=eH.nilrow 3 1
 cases ff
 exact ⟨rfl,_,(wEF rfl rfl),U9,_,(eI.pick [0] _ (by decide) rfl),none,0,rfl,rfl⟩
 try dsimp only at a6
 obtain ⟨bs,bM,ci,bP,cj,bQ,cm,bS,cp,af,ah,ag,bp,bv,rfl,rfl,dM,dN,dO,dP,dQ⟩:=cr
 let B1:Res:=.blk bs 124 [.slice bM ak.Race.Starts.length ci,.slice bP ak.Race.Splits.length cj,.slice bQ ak.Race.Clocks.length cm,.slice bS ak.Race.Readings.length cp,.map (some af),.slice bp ak.edges.length bv]
 have cz:sW w U U9 [B1,.obj af (.map ah ag),.row bp bv 151 7 (hD wAR ak.edges),.blk b2 45 B0] bj:=cw
 refine oM Z Z (oR Z (zV Z Z (v:=.pointer (some ⟨bs,0,none⟩)) Z) (oR Z (zV Z Z (v:=jV x6) Z) (oA Z Z (oA Z Z (eN (zL (zb (sR fL3 Z (oM Z Z (oR Z (Zk Z Z Z) (oA Z Z (eN (ifc a6 ?_ ?_)))))))))))))
 intro bx fg
 refine zy (ZM (fun h=>h bx.out)) (sR gEe Z (oM Z Z ?_))
 have q:=cz.freezeR (k:=2) (n:=ak.edges.length) rfl (wAC (f:=wAR) (sz:=7) (fun _=>rfl) ak.edges) (by decide)
 obtain ⟨bW,am,ft,eJ⟩:=q
 have eK:sW w U bW [B1,.obj af (.map ah ag),.blk b2 45 B0] bj:=eJ
 have dR:=dM.le am
 have dS:=dN.le am
 have dT:=dO.le am
 have dU:=dP.le am
 refine bnK fg fun fO dV fh=>zH 2 Z Z Z Z (zG Z Z Tryz.call66 (zB Z zO) Z) eK (fun hs=>wCH ak bs bM ci bP cj bQ cm bS cp af ah ag bp bv bj bW hs dR dS dT dU dQ ft dV) (.inl Z) ?_
 rintro bh fC fM cR bn eM ⟨rfl,rfl⟩
 have bD:sW w U bh [B1,.obj af (.map ah ag),.blk b2 45 B0] cR:=eM
 refine oA Z Z (eN (ifc fh ?_ ?_))
 intro bz fj
 refine ZJ (congrArg hJ bz.out) (sR fL2 Z (oA Z Z (oA Z Z (eN (zR (zd (zS ?_)))))))
 have eO:=bD.nilrow 3 1
 cases fj
 exact ⟨rfl,_,(wEF rfl rfl),bh,_,(eO.pick [0] _ (by decide) rfl),none,0,rfl,rfl⟩
 intro bz fk
 refine zy (congrArg hJ (nA.2 bz.out)) (Zi (zx (zI (sR fL1 Z (oA Z Z (eN (zL (sR fL4 Z (oR Z (zJ Z Z zP Z zZ) (oL Z (bD.ldB (j:=2) Z Z Z zj (v:=.slice aU p0.Starts.length aV) Z) (oR Z (zr Z Z zC) (oM Z Z (eN (zb (bnK fk fun fQ eU fm=>?_)))))))))))))))
 have q:=wBM eU
 obtain ⟨bF,eV⟩:=q
 replace bF:=zM bF
 refine CK.forN' (fun ac a7 σ_ w_=>∃ (U_:PHeap) (aW:Option Addr) (aZ:Nat),σ_ 24=jV (↑ac:Int)/\σ_ 1=.pointer (some ⟨b2,0,none⟩)/\σ_ 6=.slice aW a7.length aZ/\σ_ 23=jV (↑p0.Starts.length:Int)/\PHeap.Le bh U_/\sW w U U_ [B1,.obj af (.map ah ag),.blk b2 45 B0,.row aW aZ 3 1 (hD KL.encI a7)] w_) eV ?_ ?_ ?_
 have eQ:=bD.nilrow 3 1
 exact ⟨bh,none,0,rfl,rfl,rfl,rfl,(zN _),(eQ.pick [1,2,3,0] _ (by decide) rfl)⟩
 rintro ac a7 fP fS fG bE ⟨cK,aW,aZ,bk,bA,cq,bB,ay,dY⟩ fu
 have bZ:Hid ((↑ac:Int) < (↑p0.Starts.length:Int)):=zM (wAr bE)
 replace bE:=zM bE
 have cE:Hid (w64 ((↑ac:Int) + 1)=(↑(ac + 1):Int)):=zM (by have h1:=bF.out;have h2:=bZ.out;rw [wAW] <;> omega)
 refine sR fL1 Z (oR Z (zY Z bk bB) (eN (zL (cT Z bZ (kN (zL (zb (sR gEh Z (oM Z bk (zW (cs:=[jV 0]) Z Z Z Z Z zt Z dY ?_))))))))))
 intro fD aq dZ
 let B2:List Value:=[jV (↑ac:Int)]
 refine zX (j:=0) (vs:=B2) Z Z Z Z dZ Z Z Z Z zD (zA Z) Z Z Z ?_
 intro bq d5
 let B3:Res:=.row aW aZ 3 1 (hD KL.encI a7)
 have cu:sW w U cK [.blk aq 3 B2,B1,.obj af (.map ah ag),.blk b2 45 B0,B3] bq:=d5
 refine eN (sR gEr Z (oL Z (cu.ldBA (j:=3) Z Z bA zz zh (vs:=B0) Z Z) ?_))
 have q:=cu.freeze (k:=0) rfl
 obtain ⟨bg,az,ax,d7⟩:=q
 replace ax:=Cl.of ax
 have d9:sW w U bg [B1,.obj af (.map ah ag),.blk b2 45 B0,B3] bq:=d7
 replace ax:Cl bg aq 0 B2:=ax
 refine oR Z (YD Z zO (zB Z zO)) ?_
 have cZ:=cA.le bm
 have c6:=cZ.le am
 have c8:=c6.le bn
 have da:=c8.le ay
 have db:=da.le az
 have dd:=cB.le bm
 have de:=dd.le am
 have df:=de.le bn
 have dg:=df.le ay
 have dh:=dg.le az
 have di:=cC.le bm
 have dm:=di.le am
 have dn:=dm.le bn
 have dp:=dn.le ay
 have dq:=dp.le az
 have dr:=cD.le bm
 have dt:=dr.le am
 have du:=dt.le bn
 have dv:=du.le ay
 have dw:=dv.le az
 have dX:FnOK Tryz.prog bg (.func (.func 70) #[] #[.pointer (some ⟨aq,0,none⟩)]) wLm wLn (fun x=>wDJ x.1 x.2 (↑ac:Int)):=⟨70,[],[.pointer (some ⟨aq,0,none⟩)],rfl,Tryz.call70,fun U1 w1 x y vs le hs ha hm=>by obtain rfl:=ha;exact wHc x.1 x.2 (↑ac:Int) aq w1 U1 hs (ax.le le) hm⟩
 refine bnK fu fun aj dx eW=>zH 0 Z Z Z Z (zG Z Z Tryz.call67 (zB Z (zB Z zO)) Z) d9 (fun hs=>wDO p0 aU aV a8 bc ba bd bb be (fun x=>wDJ x.1 x.2 (↑ac:Int)) (.func (.func 70) #[] #[.pointer (some ⟨aq,0,none⟩)]) bq bg hs db dh dq dw dX dx) (.inr Z) ?_
 rintro cL fA fK br bG ef ⟨bX,bJ,ca,bK,cc,bL,cd,bN,cg,ao,av,au,bo,bt,rfl,rfl,dy,dz,dA,dB,dC⟩
 let B4:Res:=.blk bX 124 [.slice bJ aj.Race.Starts.length ca,.slice bK aj.Race.Splits.length cc,.slice bL aj.Race.Clocks.length cd,.slice bN aj.Race.Readings.length cg,.map (some ao),.slice bo aj.edges.length bt]
 have eh:sW w U cL [B4,.obj ao (.map av au),.row bo bt 151 7 (hD wAR aj.edges),B1,.obj af (.map ah ag),.blk b2 45 B0,B3] br:=ef
 refine oR Z (YD Z (zB Z zO) zO) (oA Z Z (eN (sR gDy Z (oM Z Z ?_))))
 have q:=eh.freezeR (k:=2) (n:=aj.edges.length) rfl (wAC (f:=wAR) (sz:=7) (fun _=>rfl) aj.edges) (by decide)
 obtain ⟨bV,an,fq,ep⟩:=q
 have eu:sW w U bV [B4,.obj ao (.map av au),B1,.obj af (.map ah ag),.blk b2 45 B0,B3] br:=ep
 have dD:=dy.le an
 have dE:=dz.le an
 have dF:=dA.le an
 have dG:=dB.le an
 refine bnK eW fun fN dH eX=>zH 2 Z Z Z Z (zG Z Z Tryz.call66 zO Z) eu (fun hs=>wCH aj bX bJ ca bK cc bL cd bN cg ao av au bo bt br bV hs dD dE dF dG dC fq dH) (.inl Z) ?_
 rintro aY fB fL cO bH ew ⟨rfl,rfl⟩
 have bC:sW w U aY [B4,.obj ao (.map av au),B1,.obj af (.map ah ag),.blk b2 45 B0,B3] cO:=ew
 refine eN (ifc eX ?_ ?_)
 intro bu eY
 refine ZJ (congrArg hJ bu.out) (rR gEu Z (oM Z cq ?_))
 have dI:=ax.le bG
 have dJ:=dI.le an
 have dK:=dJ.le bH
 refine oL Z (bC.ldC (f:=0) dK (v:=jV (↑ac:Int)) Z Z zF Z) (zo (pv:=[(0,jV (↑ac:Int))]) (zs:=[jV 0]) (cs:=B2) Z Z Z Z Z (wAD Z wAM) zC zD zt Z Z Z Z Z bC ?_)
 intro cP cS eA
 let B5:Res:=.row (some ⟨cS,0,none⟩) 1 3 1 (hD KL.encI [(↑ac:Int)])
 have cx:sW w U aY [B5,B4,.obj ao (.map av au),B1,.obj af (.map ah ag),.blk b2 45 B0,B3] cP:=eA
 refine bnK eY fun cG dL eZ=>yK (j:=6) (enc:=KL.encI) (xs:=a7) (ys:=[(↑ac:Int)]) (zs:=cG) rfl rfl rfl rfl rfl yb wFm rfl rfl rfl rfl rfl rfl cx rfl rfl rfl (cx.srcR (j:=0) rfl (by decide) (wAC (f:=KL.encI) (sz:=1) (fun _=>rfl) [(↑ac:Int)])) (fun _=>rfl) (fun _=>rfl) dL rfl ?_
 intro bR co cQ eB
 have eD:sW w U aY [B5,B4,.obj ao (.map av au),B1,.obj af (.map ah ag),.blk b2 45 B0,.row bR co 3 1 (hD KL.encI cG)] cQ:=eB
 refine oA Z Z (zg (zx (zI (rR fL2 Z (oR Z (ZG (za Z bk Z) (congrArg (jV) cE.out)) (oM Z Z (zg ?_)))))))
 cases eZ
 exact zI ⟨rfl,⟨aY,bR,co,rfl,bA,rfl,bB,((((ay.trans az).trans bG).trans an).trans bH),(eD.pick [3,4,5,6] _ (by decide) rfl)⟩⟩
 intro bu fb
 refine zy (congrArg hJ (nA.2 bu.out)) (Zi (zx (zI (rR fL2 Z (oR Z (ZG (za Z bk Z) (congrArg (jV) cE.out)) (oM Z Z (zg ?_)))))))
 cases fb
 exact zI ⟨rfl,⟨aY,aW,aZ,rfl,bA,cq,bB,((((ay.trans az).trans bG).trans an).trans bH),(bC.pick [2,3,4,5] _ (by decide) rfl)⟩⟩
 rintro fR fE ⟨cM,cI,cU,cY,fH,cW,cX,fI,eF⟩
 have cV:Hid (¬ ((↑(((↑p0.Starts.length:Int):Int) - 0).toNat:Int) < (↑p0.Starts.length:Int))):=zM (wAf)
 refine sR fL1 Z (oR Z (zY Z cY cX) (eN (zL (cF Z cV (Zd (zn (zn (ZV (zI (sR fL3 Z (oM Z cW (oA Z Z (oA Z Z (eN (zR ?_)))))))))))))))
 cases fm
 exact ⟨rfl,_,(wEF rfl rfl),cM,_,(eF.pick [3] _ (by decide) rfl),cI,cU,rfl,rfl⟩
 intro bx fc
 refine cT Z bx (sR fL3 Z (oM Z Z (oA Z Z (oA Z Z (eN (zR (zd (zS ?_))))))))
 have eG:=cz.nilrow 3 1
 cases fc
 exact ⟨rfl,_,(wEF rfl rfl),U9,_,(eG.pick [0] _ (by decide) rfl),none,0,rfl,rfl⟩
theorem wDf (p0:List Int) (ao:Option Addr) (aq:Nat) (p1:List Int) (ap:Option Addr) (au:Nat) (w:World) (U:PHeap) (hS:St0 w U []) (bm:Sl U 1 ao aq p0.length (hD KL.encI p0)) (bn:Sl U 1 ap au p1.length (hD KL.encI p1)) {r:Bool} (hm:wCN p0 p1=some r):Gv Tryz.prog 45 [.slice ao p0.length aq,.slice ap p1.length au] w (wBa w [] U (fun U_ L_ v=>v=.bool r/\L_=[])):=by
 unfold wCN at hm
 refine Gv.of Tryz.func45 Z Tryz.ntmps45 Tryz.results45 Z (sR fL1 Z (oA Z Z (eN (zL (sR fL5 Z (oM Z Z (oR Z (zr Z Z zC) (oM Z Z (oR Z (zr Z Z zC) (oR Z (Zk Z Z Z) (eN ?_)))))))))))
 by_cases c1:(↑p0.length:Int)=(↑p1.length:Int)
 have ag:=hm;rw [if_pos c1] at ag;replace c1:=zM c1
 refine zy (ZM (fun h=>h c1.out)) (kN (zL (sR fL3 Z (oM Z Z (oR Z (zr Z Z zC) (oM Z Z (eN (zb ?_))))))))
 have q:=wBQ ag
 obtain ⟨r5,aj⟩:=q
 have q:=wBP aj
 obtain ⟨am,bq⟩:=q
 replace am:=zM am
 refine yG (fun k4 _ σ_ w_=>∃ (U_:PHeap),σ_ 13=jV (↑k4:Int)/\σ_ 0=.slice ao p0.length aq/\σ_ 1=.slice ap p1.length au/\σ_ 12=jV (↑p0.length:Int)/\PHeap.Le U U_/\sW w U U_ [] w_) bq ?_ ?_ ?_
 exact ⟨U,Z,Z,Z,Z,(zN _),hS⟩
 rintro k4 ⟨⟩ bL bN ax ak ⟨av,ai,az,aU,aV,an,bj⟩ a6 bo
 try dsimp only at a6
 have ay:Hid ((↑k4:Int) < (↑p0.length:Int)):=zM (wAr ak)
 replace ak:=zM ak
 have br:Hid (w64 ((↑k4:Int) + 1)=(↑(k4 + 1):Int)):=zM (by have h1:=am.out;have h2:=ay.out;rw [wAW] <;> omega)
 refine sR fL1 rfl (ze rfl rfl rfl rfl (fun _=>zY rfl ai aV) (eN (zL (cT Z ay (kN (zL (zb (sR fL2 rfl (zm rfl rfl rfl rfl rfl ai (yB rfl rfl rfl rfl rfl rfl (eN (zL (ZF ZB [3,3,3,1,3,3,3,1,3] fL9 (by kernel_rfl) ?_)))))))))))))
 have ae:=bj.drew
 generalize hw_W25:({ ax with drawn:=ax.drawn + 1 }:World)=bB at ae ⊢
 refine oM Z az (oM Z Z (bnK a6 fun bz aW bs=>?_))
 have bd:=bm.le an
 have q:=bd.el (fun _=>rfl) (wAX aW)
 obtain ⟨bD,bI,bf,bh⟩:=q
 refine oR Z (ZR Z Z bf Z zC zD (wBA aW)) (oL Z (ae.ldC (f:=0) bh (v:=jV bz) Z Z zF Z) (oM Z aU (oM Z Z (bnK bs fun bA aX bt=>?_))))
 have be:=bn.le an
 have q:=be.el (fun _=>rfl) (wAX aX)
 obtain ⟨bE,bJ,bg,bi⟩:=q
 refine oR Z (ZR Z Z bg Z zC zD (wBA aX)) (oL Z (ae.ldC (f:=0) bi (v:=jV bA) Z Z zF Z) (oR Z (Zk Z Z Z) (eN (ifc bt ?_ ?_))))
 intro ah bu
 refine zy (ZM (fun h=>h ah.out)) (Zi (zx (zI (rR fL2 Z (oR Z (ZG (za Z ai Z) (congrArg (jV) br.out)) (oM Z Z (zg ?_)))))))
 have q:=nB bu
 obtain rfl:=q
 exact zI ⟨Z,_,Z,⟨av,Z,az,aU,aV,an,ae⟩⟩
 intro ah bv
 refine cT Z ah (sR fL1 Z (oA Z Z (eN (zR (zd (zS ?_))))))
 have q:=wAZ bv
 obtain ⟨bx,bw,ba⟩:=q
 have q:=wBB ag aj (bo bx ba)
 obtain rfl:=q
 refine zS (zd (zS ?_))
 have hE:=nB bw;first | subst r | cases hE
 exact ⟨Z,_,(ZH Z),av,_,ae,Z,Z⟩
 rintro ⟨⟩ bM bC ⟨a7,bc,bF,bG,bb,bH,bk⟩ bp
 have aY:=wCE ag aj bp
 try dsimp only at aY
 have a8:Hid (¬ ((↑(((↑p0.length:Int):Int) - 0).toNat:Int) < (↑p0.length:Int))):=zM (wAf)
 refine sR fL1 Z (oR Z (zY Z bc bb) (eN (zL (cF Z a8 (Zd (zn (zn (ZV (zI (sR fL1 Z (oA Z Z (eN (zR ?_)))))))))))))
 have hE:=nB aY;first | subst r | cases hE
 exact ⟨Z,_,(ZH Z),a7,_,bk,Z,Z⟩
 have aZ:=hm;rw [if_neg c1] at aZ;replace c1:=zM c1
 refine cT Z c1 (sR fL1 Z (oA Z Z (eN (zR (zS ?_)))))
 have hE:=nB aZ;first | subst r | cases hE
 exact ⟨Z,_,(ZH Z),U,_,hS,Z,Z⟩
theorem wDy  (w:World) (U:PHeap) (hS:St0 w U [])  {r:Bool} (hm:wBz =some r):Gv Tryz.prog 13 [] w (wBa w [] U (fun U_ L_ v=>v=.bool r/\L_=[])):=by
 unfold wBz at hm
 refine Gv.of Tryz.func13 Z Tryz.ntmps13 Tryz.results13 Z (sR fL1 Z (oA Z Z (eN (sR (.fx 0 (.fx 1 (.fx 2 (wML gEk) .stop) .stop) .stop) Z (bnK hm fun x1 h2 r7=>zH 0 Z Z Z Z (zG Z Z Tryz.call35 zO Z) hS (fun hs=>wBZ w U hs h2) (.inr Z) ?_)))))
 rintro U4 L5 v6 W7 vP rG ⟨dn,gj,dp,gm,dq,gq,dr,gx,rfl,rfl⟩
 let B0:Res:=.row dr gx 52 4 (hD wAB x1.Readings)
 let B1:Res:=.row dq gq 39 3 (hD wAA x1.Clocks)
 let B2:Res:=.row dp gm 37 2 (hD wAF x1.Splits)
 let B3:Res:=.row dn gj 3 1 (hD KL.encI x1.Starts)
 have oJ:sW w U U4 [B3,B2,B1,B0] W7:=rG
 refine bnK r7 fun uy lF rY=>zH 0 Z Z Z Z (zG Z Z ye (zB Z (zB Z zO)) Z) oJ (fun hs=>wAe 0 2 W7 U4 hs lF) (.inr Z) ?_
 rintro i9 uN wg bC vu ph ⟨rfl,rfl⟩
 have pk:sW w U i9 [B3,B2,B1,B0] bC:=ph
 have q:=pk.freezeR (k:=0) (n:=x1.Starts.length) rfl (wAC (f:=KL.encI) (sz:=1) (fun _=>rfl) x1.Starts) (by decide)
 obtain ⟨je,vw,tu,pp⟩:=q
 have pz:sW w U je [B2,B1,B0] bC:=pp
 have q:=pz.freezeR (k:=0) (n:=x1.Splits.length) rfl (wAC (f:=wAF) (sz:=2) (fun _=>rfl) x1.Splits) (by decide)
 obtain ⟨jj,uj,tB,pJ⟩:=q
 have pL:sW w U jj [B1,B0] bC:=pJ
 have q:=pL.freezeR (k:=0) (n:=x1.Clocks.length) rfl (wAC (f:=wAA) (sz:=3) (fun _=>rfl) x1.Clocks) (by decide)
 obtain ⟨jm,iG,tG,pV⟩:=q
 have pX:sW w U jm [B0] bC:=pV
 have q:=pX.freezeR (k:=0) (n:=x1.Readings.length) rfl (wAC (f:=wAB) (sz:=4) (fun _=>rfl) x1.Readings) (by decide)
 obtain ⟨fu,dd,tI,p8⟩:=q
 have qa:sW w U fu [] bC:=p8
 have mh:=tu.le uj
 have mi:=mh.le iG
 have mm:=mi.le dd
 have mn:=tB.le iG
 have mo:=mn.le dd
 have mp:=tG.le dd
 have q:=bnd rY
 obtain ⟨⟨bZ,dm⟩,mr,iu⟩:=q
 try dsimp only at iu
 refine zH 0 Z Z Z Z (zG Z Z Tryz.call34 (zB Z (zB Z zO)) Z) qa (fun hs=>wGg x1 dn gj dp gm dq gq dr gx uy bC fu hs mm mo mp tI mr) (.inr Z) ?_
 rintro cU uZ ws jS vI qC ⟨rfl,rfl⟩
 have qH:sW w U cU [] jS:=qC
 refine oM Z Z (oR Z (zV Z Z (v:=.agg #[jV bZ.Lo,jV bZ.Hi]) Z) (oR Z (zV Z Z (v:=jV dm) Z) ?_))
 let B4:List Value:=[jV 0,jV 0]
 refine zW (cs:=B4) Z Z Z Z Z ZQ Z qH ?_
 intro vf ab qP
 let B5:List Value:=[jV bZ.Lo,jV bZ.Hi]
 refine zX (j:=0) (vs:=B5) Z Z Z Z qP Z Z Z Z ZD (zA Z) Z Z Z ?_
 intro f8 qU
 have qZ:sW w U cU [.blk ab 37 B5] f8:=qU
 refine oA Z Z (eN (sR (.fx 0 (.fx 1 (.fx 2 (wML gEk) .stop) .stop) .stop) Z (bnK iu fun aU mV sN=>zH 0 Z Z Z Z (zG Z Z Tryz.call35 zO Z) qZ (fun hs=>wBZ f8 cU hs mV) (.inr Z) ?_)))
 rintro fK u9 wy ga vR rv ⟨d7,g8,d9,g9,ef,ic,eh,ie,rfl,rfl⟩
 let B6:Res:=.row eh ie 52 4 (hD wAB aU.Readings)
 let B7:Res:=.row ef ic 39 3 (hD wAA aU.Clocks)
 let B8:Res:=.row d9 g9 37 2 (hD wAF aU.Splits)
 let B9:Res:=.row d7 g8 3 1 (hD KL.encI aU.Starts)
 have rQ:sW w U fK [B9,B8,B7,B6,.blk ab 37 B5] ga:=rv
 refine bnK sN fun uE li rS=>zH 0 Z Z Z Z (zG Z Z ye (zB Z (zB Z zO)) Z) rQ (fun hs=>wAe 0 1 ga fK hs li) (.inr Z) ?_
 rintro iY uF vX bA vh n3 ⟨rfl,rfl⟩
 have n4:sW w U iY [B9,B8,B7,B6,.blk ab 37 B5] bA:=n3
 have q:=n4.freezeR (k:=0) (n:=aU.Starts.length) rfl (wAC (f:=KL.encI) (sz:=1) (fun _=>rfl) aU.Starts) (by decide)
 obtain ⟨iZ,vi,s8,n5⟩:=q
 have n7:sW w U iZ [B8,B7,B6,.blk ab 37 B5] bA:=n5
 have q:=n7.freezeR (k:=0) (n:=aU.Splits.length) rfl (wAC (f:=wAF) (sz:=2) (fun _=>rfl) aU.Splits) (by decide)
 obtain ⟨i2,uf,s9,n8⟩:=q
 have n9:sW w U i2 [B7,B6,.blk ab 37 B5] bA:=n8
 have q:=n9.freezeR (k:=0) (n:=aU.Clocks.length) rfl (wAC (f:=wAA) (sz:=3) (fun _=>rfl) aU.Clocks) (by decide)
 obtain ⟨i4,iB,ta,oa⟩:=q
 have oc:sW w U i4 [B6,.blk ab 37 B5] bA:=oa
 have q:=oc.freezeR (k:=0) (n:=aU.Readings.length) rfl (wAC (f:=wAB) (sz:=4) (fun _=>rfl) aU.Readings) (by decide)
 obtain ⟨eY,cZ,tb,od⟩:=q
 have oe:sW w U eY [.blk ab 37 B5] bA:=od
 have lj:=s8.le uf
 have lk:=lj.le iB
 have lm:=lk.le cZ
 have ln:=s9.le iB
 have lp:=ln.le cZ
 have lq:=ta.le cZ
 have q:=bnd rS
 obtain ⟨⟨bV,iO⟩,ls,il⟩:=q
 try dsimp only at il
 refine zH 0 Z Z Z Z (zG Z Z Tryz.call34 (zB Z (zB Z zO)) Z) oe (fun hs=>wGg aU d7 g8 d9 g9 ef ic eh ie uE bA eY hs lm lp lq tb ls) (.inr Z) ?_
 rintro cQ uG vY jL vj og ⟨rfl,rfl⟩
 have oh:sW w U cQ [.blk ab 37 B5] jL:=og
 refine oM Z Z (oR Z (zV Z Z (v:=.agg #[jV bV.Lo,jV bV.Hi]) Z) (oR Z (zV Z Z (v:=jV iO) Z) (zW (cs:=B4) Z Z Z Z Z ZQ Z oh ?_)))
 intro vd ae oj
 let ac:List Value:=[jV bV.Lo,jV bV.Hi]
 refine zX (j:=0) (vs:=ac) Z Z Z Z oj Z Z Z Z ZD (zA Z) Z Z Z ?_
 intro fP om
 have oq:sW w U cQ [.blk ae 37 ac,.blk ab 37 B5] fP:=om
 refine oA Z Z (eN (sR (.fx 0 (.fx 1 (.fx 2 (.fx 3 (wOa (.fx 7 (.fx 8 (.fl 9 .nil) .stop) .stop)) .stop) .stop) .stop) .stop) Z (bnK il fun ap lu rT=>zH 0 Z Z Z Z (zG Z Z Tryz.call35 zO Z) oq (fun hs=>wBZ fP cQ hs lu) (.inr Z) ?_)))
 rintro eZ uH vZ fQ vk ot ⟨dt,gt,du,gu,dv,gv,dw,gw,rfl,rfl⟩
 let bv:Res:=.row dw gw 52 4 (hD wAB ap.Readings)
 let bN:Res:=.row dv gv 39 3 (hD wAA ap.Clocks)
 let cg:Res:=.row du gu 37 2 (hD wAF ap.Splits)
 let cH:Res:=.row dt gt 3 1 (hD KL.encI ap.Starts)
 have ou:sW w U eZ [cH,cg,bN,bv,.blk ae 37 ac,.blk ab 37 B5] fQ:=ot
 refine bnK rT fun uw lv rV=>zH 0 Z Z Z Z (zG Z Z ye (zB Z (zB Z zO)) Z) ou (fun hs=>wAe 0 2 fQ eZ hs lv) (.inr Z) ?_
 rintro fb uI v2 fR vl ov ⟨rfl,rfl⟩
 have ow:sW w U fb [cH,cg,bN,bv,.blk ae 37 ac,.blk ab 37 B5] fR:=ov
 refine bnK rV fun ux lw rW=>zH 0 Z Z Z Z (zG Z Z ye (zB Z (zB Z zO)) Z) ow (fun hs=>wAe 1 2 fR fb hs lw) (.inr Z) ?_
 rintro i5 uJ wa bB vm ox ⟨rfl,rfl⟩
 have oy:sW w U i5 [cH,cg,bN,bv,.blk ae 37 ac,.blk ab 37 B5] bB:=ox
 have q:=oy.freezeR (k:=0) (n:=ap.Starts.length) rfl (wAC (f:=KL.encI) (sz:=1) (fun _=>rfl) ap.Starts) (by decide)
 obtain ⟨i6,vn,tc,oz⟩:=q
 have oB:sW w U i6 [cg,bN,bv,.blk ae 37 ac,.blk ab 37 B5] bB:=oz
 have q:=oB.freezeR (k:=0) (n:=ap.Splits.length) rfl (wAC (f:=wAF) (sz:=2) (fun _=>rfl) ap.Splits) (by decide)
 obtain ⟨i7,ug,tf,oC⟩:=q
 have oD:sW w U i7 [bN,bv,.blk ae 37 ac,.blk ab 37 B5] bB:=oC
 have q:=oD.freezeR (k:=0) (n:=ap.Clocks.length) rfl (wAC (f:=wAA) (sz:=3) (fun _=>rfl) ap.Clocks) (by decide)
 obtain ⟨i8,iC,tg,oE⟩:=q
 have oG:sW w U i8 [bv,.blk ae 37 ac,.blk ab 37 B5] bB:=oE
 have q:=oG.freezeR (k:=0) (n:=ap.Readings.length) rfl (wAC (f:=wAB) (sz:=4) (fun _=>rfl) ap.Readings) (by decide)
 obtain ⟨fc,c6,th,oH⟩:=q
 have oI:sW w U fc [.blk ae 37 ac,.blk ab 37 B5] bB:=oH
 have ly:=tc.le ug
 have lz:=ly.le iC
 have lA:=lz.le c6
 have lB:=tf.le iC
 have lC:=lB.le c6
 have lD:=tg.le c6
 have q:=bnd rW
 obtain ⟨⟨bW,iP⟩,lE,im⟩:=q
 try dsimp only at im
 refine zH 0 Z Z Z Z (zG Z Z Tryz.call15 (zB Z (zB Z (zB Z zO))) Z) oI (fun hs=>wEo ap dt gt du gu dv gv dw gw uw ux bB fc hs lA lC lD th lE) (.inr Z) ?_
 rintro cR uK wb jM vo oK ⟨rfl,rfl⟩
 have oO:sW w U cR [.blk ae 37 ac,.blk ab 37 B5] jM:=oK
 refine oM Z Z (oR Z (zV Z Z (v:=.agg #[jV bW.Lo,jV bW.Hi]) Z) (oR Z (zV Z Z (v:=jV iP) Z) (zW (cs:=B4) Z Z Z Z Z ZQ Z oO ?_)))
 intro ve ag oP
 let af:List Value:=[jV bW.Lo,jV bW.Hi]
 refine zX (j:=0) (vs:=af) Z Z Z Z oP Z Z Z Z ZD (zA Z) Z Z Z ?_
 intro fS oQ
 have oS:sW w U cR [.blk ag 37 af,.blk ae 37 ac,.blk ab 37 B5] fS:=oQ
 refine oA Z Z (eN (sR (.fx 0 (.fx 1 (.fx 2 (.fl 3 (.fl 4 (.fx 5 (.fx 6 (wMd (.nil)) .stop) .stop))) .stop) .stop) .stop) Z (bnK im fun aq lG rX=>zH 0 Z Z Z Z (zG Z Z Tryz.call35 zO Z) oS (fun hs=>wBZ fS cR hs lG) (.inr Z) ?_)))
 rintro fd uL wc fT vp oU ⟨dx,gy,dy,gz,dz,gA,dA,gB,rfl,rfl⟩
 let bf:Res:=.row dA gB 52 4 (hD wAB aq.Readings)
 let bw:Res:=.row dz gA 39 3 (hD wAA aq.Clocks)
 let bP:Res:=.row dy gz 37 2 (hD wAF aq.Splits)
 let ci:Res:=.row dx gy 3 1 (hD KL.encI aq.Starts)
 have oV:sW w U fd [ci,bP,bw,bf,.blk ag 37 af,.blk ae 37 ac,.blk ab 37 B5] fT:=oU
 refine bnK rX fun uz lH rZ=>zH 0 Z Z Z Z (zG Z Z ye (zB Z (zB Z zO)) Z) oV (fun hs=>wAe 0 2 fT fd hs lH) (.inr Z) ?_
 rintro ff uM wd fU vq oW ⟨rfl,rfl⟩
 have oX:sW w U ff [ci,bP,bw,bf,.blk ag 37 af,.blk ae 37 ac,.blk ab 37 B5] fU:=oW
 refine bnK rZ fun uA lI r6=>zH 0 Z Z Z Z (zG Z Z ye (zB Z (zB Z zO)) Z) oX (fun hs=>wAe 1 2 fU ff hs lI) (.inr Z) ?_
 rintro fg uO we jN vr oY ⟨rfl,rfl⟩
 have oZ:sW w U fg [ci,bP,bw,bf,.blk ag 37 af,.blk ae 37 ac,.blk ab 37 B5] jN:=oY
 let bx:List Value:=[jV 0,jV 0,jV 0,.bool false]
 let ep:List Value:=[jV 3,jV 0,jV 0,.bool false]
 refine oR Z (zu (pv:=[(0,jV 3)]) (z:=bx) (cs:=ep) Z (wAD Z wAM) Zx wDL Z Z) ?_
 let eu:List Value:=[jV 3,jV 0,jV 2,.bool true]
 refine oR Z (zu (pv:=[(0,jV 3),(2,jV 2),(3,.bool true)]) (z:=bx) (cs:=eu) Z (wAD Z (wAD Z (wAD Z wAM))) Zx wDL Z Z) (zo (pv:=[(0,.agg ep.toArray),(1,.agg eu.toArray)]) (zs:=[jV 0,jV 0,jV 0,.bool false,jV 0,jV 0,jV 0,.bool false]) (cs:=[jV 3,jV 0,jV 0,.bool false,jV 3,jV 0,jV 2,.bool true]) Z Z Z Z Z (wAD Z (wAD Z wAM)) yS Zh Zx Z Z Z Z Z oZ ?_)
 intro bi gb o0
 let bQ:Res:=.row (some ⟨gb,0,none⟩) 2 101 4 (hD wBp [(⟨3,0,0,false⟩:wAG),(⟨3,0,2,true⟩:wAG)])
 have o3:sW w U fg [bQ,ci,bP,bw,bf,.blk ag 37 af,.blk ae 37 ac,.blk ab 37 B5] bi:=o0
 have q:=o3.freezeR (k:=1) (n:=aq.Starts.length) rfl (wAC (f:=KL.encI) (sz:=1) (fun _=>rfl) aq.Starts) (by decide)
 obtain ⟨ja,vt,tj,o5⟩:=q
 have o6:sW w U ja [bQ,bP,bw,bf,.blk ag 37 af,.blk ae 37 ac,.blk ab 37 B5] bi:=o5
 have q:=o6.freezeR (k:=1) (n:=aq.Splits.length) rfl (wAC (f:=wAF) (sz:=2) (fun _=>rfl) aq.Splits) (by decide)
 obtain ⟨jb,uh,tm,o7⟩:=q
 have o8:sW w U jb [bQ,bw,bf,.blk ag 37 af,.blk ae 37 ac,.blk ab 37 B5] bi:=o7
 have q:=o8.freezeR (k:=1) (n:=aq.Clocks.length) rfl (wAC (f:=wAA) (sz:=3) (fun _=>rfl) aq.Clocks) (by decide)
 obtain ⟨jc,iD,tp,o9⟩:=q
 have pd:sW w U jc [bQ,bf,.blk ag 37 af,.blk ae 37 ac,.blk ab 37 B5] bi:=o9
 have q:=pd.freezeR (k:=1) (n:=aq.Readings.length) rfl (wAC (f:=wAB) (sz:=4) (fun _=>rfl) aq.Readings) (by decide)
 obtain ⟨jd,c8,tq,pe⟩:=q
 have pf:sW w U jd [bQ,.blk ag 37 af,.blk ae 37 ac,.blk ab 37 B5] bi:=pe
 have q:=pf.freezeR (k:=0) (n:=[(⟨3,0,0,false⟩:wAG),(⟨3,0,2,true⟩:wAG)].length) rfl (wAC (f:=wBp) (sz:=4) (fun _=>rfl) [(⟨3,0,0,false⟩:wAG),(⟨3,0,2,true⟩:wAG)]) (by decide)
 obtain ⟨fh,cC,tr,pg⟩:=q
 have pj:sW w U fh [.blk ag 37 af,.blk ae 37 ac,.blk ab 37 B5] bi:=pg
 have lJ:=tj.le uh
 have lK:=lJ.le iD
 have lL:=lK.le c8
 have lM:=lL.le cC
 have lN:=tm.le iD
 have lO:=lN.le c8
 have lP:=lO.le cC
 have lQ:=tp.le c8
 have lR:=lQ.le cC
 have lS:=tq.le cC
 have q:=bnd r6
 obtain ⟨⟨iQ,iR⟩,lT,io⟩:=q
 try dsimp only at io
 refine zH 0 Z Z Z Z (zG Z Z Tryz.call36 (zB Z (zB Z (zB Z (zB Z zO)))) Z) pj (fun hs=>wIA aq dx gy dy gz dz gA dA gB uz uA [(⟨3,0,0,false⟩:wAG),(⟨3,0,2,true⟩:wAG)] (some ⟨gb,0,none⟩) 2 bi fh hs lM lP lR lS tr lT) (.inr Z) ?_
 rintro fj uP wh fV vv pm ⟨rfl,rfl⟩
 have pn:sW w U fj [.blk ag 37 af,.blk ae 37 ac,.blk ab 37 B5] fV:=pm
 refine oM Z Z (oR Z (zV Z Z (v:=jV iQ) Z) (oR Z (zV Z Z (v:=jV iR) Z) (oA Z Z (oA Z Z (eN (zL (yf fun be ba=>?_)))))))
 have j4:be 1=.pointer (some ⟨ab,0,none⟩):=(ba 1).trans rfl
 have j5:be 2=jV dm:=(ba 2).trans rfl
 have j6:be 3=.pointer (some ⟨ae,0,none⟩):=(ba 3).trans rfl
 have j7:be 4=jV iO:=(ba 4).trans rfl
 have j8:be 5=.pointer (some ⟨ag,0,none⟩):=(ba 5).trans rfl
 have j9:be 6=jV iP:=(ba 6).trans rfl
 have k5:be 7=jV iQ:=(ba 7).trans rfl
 have k6:be 8=jV iR:=(ba 8).trans rfl
 clear ba
 refine rR (.fx 0 (.fx 1 (wHD (.nil)) .stop) .stop) Z (bnK io fun au lU r8=>zH 0 Z Z Z Z (zG Z Z Tryz.call35 zO Z) pn (fun hs=>wBZ fV fj hs lU) (.inr Z) ?_)
 rintro jf uQ wi bD vx po ⟨dB,gC,dC,gD,dD,gE,dE,gF,rfl,rfl⟩
 let cj:Res:=.row dE gF 52 4 (hD wAB au.Readings)
 let cJ:Res:=.row dD gE 39 3 (hD wAA au.Clocks)
 let ew:Res:=.row dC gD 37 2 (hD wAF au.Splits)
 have pq:sW w U jf [.row dB gC 3 1 (hD KL.encI au.Starts),ew,cJ,cj,.blk ag 37 af,.blk ae 37 ac,.blk ab 37 B5] bD:=po
 have q:=pq.freezeR (k:=0) (n:=au.Starts.length) rfl (wAC (f:=KL.encI) (sz:=1) (fun _=>rfl) au.Starts) (by decide)
 obtain ⟨jg,vy,tv,pu⟩:=q
 have py:sW w U jg [ew,cJ,cj,.blk ag 37 af,.blk ae 37 ac,.blk ab 37 B5] bD:=pu
 have q:=py.freezeR (k:=0) (n:=au.Splits.length) rfl (wAC (f:=wAF) (sz:=2) (fun _=>rfl) au.Splits) (by decide)
 obtain ⟨jh,ui,tw,pB⟩:=q
 have pC:sW w U jh [cJ,cj,.blk ag 37 af,.blk ae 37 ac,.blk ab 37 B5] bD:=pB
 have q:=pC.freezeR (k:=0) (n:=au.Clocks.length) rfl (wAC (f:=wAA) (sz:=3) (fun _=>rfl) au.Clocks) (by decide)
 obtain ⟨ji,iE,tz,pD⟩:=q
 have pE:sW w U ji [cj,.blk ag 37 af,.blk ae 37 ac,.blk ab 37 B5] bD:=pD
 have q:=pE.freezeR (k:=0) (n:=au.Readings.length) rfl (wAC (f:=wAB) (sz:=4) (fun _=>rfl) au.Readings) (by decide)
 obtain ⟨fk,da,tA,pF⟩:=q
 have pG:sW w U fk [.blk ag 37 af,.blk ae 37 ac,.blk ab 37 B5] bD:=pF
 have lV:=tv.le ui
 have lW:=lV.le iE
 have lX:=lW.le da
 have lY:=tw.le iE
 have lZ:=lY.le da
 have l3:=tz.le da
 have q:=bnd r8
 obtain ⟨⟨bX,uB⟩,l4,ip⟩:=q
 try dsimp only at ip
 refine zH 0 Z Z Z Z (zG Z Z Tryz.call10 (zB Z (zB Z zO)) Z) pG (fun hs=>wIC au dB gC dC gD dD gE dE gF 2 bD fk hs lX lZ l3 tA l4) (.inr Z) ?_
 rintro fm uR wj fW vz pH ⟨cE,cW,rfl,rfl⟩
 let bb:Res:=.row cE cW 37 2 (hD wAF bX)
 have pI:sW w U fm [bb,.blk ag 37 af,.blk ae 37 ac,.blk ab 37 B5] fW:=pH
 refine oM Z Z (oR Z (zV Z Z (v:=.slice cE bX.length cW) Z) (oR Z (zV Z Z (v:=jV uB) Z) (oA Z Z (oA Z Z (eN (sR (.fx 0 (.fx 1 (wHD (.nil)) .stop) .stop) Z (bnK ip fun av l5 r9=>zH 0 Z Z Z Z (zG Z Z Tryz.call35 zO Z) pI (fun hs=>wBZ fW fm hs l5) (.inr Z) ?_)))))))
 rintro jk uS wk bE vA pK ⟨dF,gG,dG,gH,dH,gI,dI,gJ,rfl,rfl⟩
 let cm:Res:=.row dI gJ 52 4 (hD wAB av.Readings)
 let cK:Res:=.row dH gI 39 3 (hD wAA av.Clocks)
 let eB:Res:=.row dG gH 37 2 (hD wAF av.Splits)
 have pM:sW w U jk [.row dF gG 3 1 (hD KL.encI av.Starts),eB,cK,cm,bb,.blk ag 37 af,.blk ae 37 ac,.blk ab 37 B5] bE:=pK
 have q:=pM.freezeR (k:=0) (n:=av.Starts.length) rfl (wAC (f:=KL.encI) (sz:=1) (fun _=>rfl) av.Starts) (by decide)
 obtain ⟨jl,vB,tC,pN⟩:=q
 have pO:sW w U jl [eB,cK,cm,bb,.blk ag 37 af,.blk ae 37 ac,.blk ab 37 B5] bE:=pN
 have q:=pO.freezeR (k:=0) (n:=av.Splits.length) rfl (wAC (f:=wAF) (sz:=2) (fun _=>rfl) av.Splits) (by decide)
 obtain ⟨jo,uk,tD,pP⟩:=q
 have pQ:sW w U jo [cK,cm,bb,.blk ag 37 af,.blk ae 37 ac,.blk ab 37 B5] bE:=pP
 have q:=pQ.freezeR (k:=0) (n:=av.Clocks.length) rfl (wAC (f:=wAA) (sz:=3) (fun _=>rfl) av.Clocks) (by decide)
 obtain ⟨jp,iF,tE,pR⟩:=q
 have pS:sW w U jp [cm,bb,.blk ag 37 af,.blk ae 37 ac,.blk ab 37 B5] bE:=pR
 have q:=pS.freezeR (k:=0) (n:=av.Readings.length) rfl (wAC (f:=wAB) (sz:=4) (fun _=>rfl) av.Readings) (by decide)
 obtain ⟨ft,db,tF,pT⟩:=q
 have pU:sW w U ft [bb,.blk ag 37 af,.blk ae 37 ac,.blk ab 37 B5] bE:=pT
 have l6:=tC.le uk
 have l7:=l6.le iF
 have l8:=l7.le db
 have ma:=tD.le iF
 have mb:=ma.le db
 have mc:=tE.le db
 have q:=bnd r9
 obtain ⟨⟨bY,uC⟩,md,iq⟩:=q
 try dsimp only at iq
 refine zH 0 Z Z Z Z (zG Z Z Tryz.call37 (zB Z zO) Z) pU (fun hs=>wHY av dF gG dG gH dH gI dI gJ bE ft hs l8 mb mc tF md) (.inr Z) ?_
 rintro am uT wl jO vC pW ⟨cG,cX,rfl,rfl⟩
 let bg:Res:=.row cG cX 62 2 (hD wAU bY)
 have ak:sW w U am [bg,bb,.blk ag 37 af,.blk ae 37 ac,.blk ab 37 B5] jO:=pW
 refine oM Z Z (oR Z (zV Z Z (v:=.slice cG bY.length cX) Z) (oR Z (zV Z Z (v:=jV uC) Z) (oA Z Z (oA Z Z (eN (zL (bnK iq fun jY iA sc=>yW (fun σ_ w_=>∃ (U_:PHeap),σ_ 110=.bool jY/\PHeap.Le am U_/\sW w U U_ [.blk ag 37 af,.blk ae 37 ac,.blk ab 37 B5] w_) ?_ ?_)))))))
 refine rR (wOX (.fx 45 (.fx 46 (wNT (.fx 51 (.fx 52 (.fx 53 (.fl 54 (.fl 55 .nil)) .stop) .stop) .stop)) .stop) .stop)) Z (oM Z j5 (oR Z (Zk Z Z Z) (oM Z Z ?_)))
 by_cases aW:dm=0
 have ir:=iA;rw [if_pos aW] at ir;replace aW:=zM aW
 refine zm Z Z Z (zQ Z Z (ZM (fun h=>h aW.out))) Z j7 (ze Z Z Z (zQ Z Z (ZM (fun h=>h aW.out))) (fun _=>Zk Z Z Z) (oR Z (zc Z (ZM (fun h=>h aW.out)) Z) (oM Z Z (ifc ir ?_ ?_))))
 intro bk sd
 refine zm Z Z Z (zQ Z Z (ZM (fun h=>h bk.out))) Z j9 (ze Z Z Z (zQ Z Z (ZM (fun h=>h bk.out))) (fun _=>Zk Z Z Z) (oR Z (zc Z (ZM (fun h=>h bk.out)) Z) (oM Z Z (ifc sd ?_ ?_))))
 intro bm sf
 refine zm Z Z Z (zQ Z Z (ZM (fun h=>h bm.out))) Z k6 (ze Z Z Z (zQ Z Z (ZM (fun h=>h bm.out))) (fun _=>Zk Z Z Z) (oR Z (zc Z (ZM (fun h=>h bm.out)) Z) (oM Z Z (ifc sf ?_ ?_))))
 intro bn sg
 refine zm Z Z Z (zQ Z Z (ZM (fun h=>h bn.out))) Z Z (ze Z Z Z (zQ Z Z (ZM (fun h=>h bn.out))) (fun _=>Zk Z Z Z) (oR Z (zc Z (ZM (fun h=>h bn.out)) Z) (oM Z Z (ifc sg ?_ ?_))))
 intro bo sh
 refine zm Z Z Z (zQ Z Z (ZM (fun h=>h bo.out))) Z Z (ze Z Z Z (zQ Z Z (ZM (fun h=>h bo.out))) (fun _=>Zk Z Z Z) (oR Z (zc Z (ZM (fun h=>h bo.out)) Z) (oM Z Z (ifc sh ?_ ?_))))
 intro aY sj
 refine ZE Z Z Z (zQ Z Z (ZM (fun h=>h aY.out))) (ak.ldBA (j:=4) Z Z j4 yE ZD (vs:=B5) Z Z) Z (ze Z Z Z (zQ Z Z (ZM (fun h=>h aY.out))) (fun _=>zu (pv:=[(0,jV 2244),(1,jV 2256)]) (z:=B4) (cs:=[jV 2244,jV 2256]) Z (wAD Z (wAD Z wAM)) ZQ wCU Z Z) (ze Z Z Z (zQ Z Z (ZM (fun h=>h aY.out))) (fun _=>ZG (Runs.neS (enc:=wAF) (a:=bZ) (b:=(⟨2244,2256⟩:wAI)) Z Z Z wLu wLt) (congrArg hJ (decide_not).symm)) (oR Z (zc Z (ZM (fun h=>h aY.out)) Z) (oM Z Z (ifc sj ?_ ?_)))))
 intro aZ sk
 refine ZE Z Z Z (zQ Z Z (ZM (fun h=>h aZ.out))) (ak.ldBA (j:=3) Z Z j6 yE ZD (vs:=ac) Z Z) Z (ze Z Z Z (zQ Z Z (ZM (fun h=>h aZ.out))) (fun _=>zu (pv:=[(0,jV 1000),(1,jV 1200)]) (z:=B4) (cs:=[jV 1000,jV 1200]) Z (wAD Z (wAD Z wAM)) ZQ wCU Z Z) (ze Z Z Z (zQ Z Z (ZM (fun h=>h aZ.out))) (fun _=>ZG (Runs.neS (enc:=wAF) (a:=bV) (b:=(⟨1000,1200⟩:wAI)) Z Z Z wLu wLt) (congrArg hJ (decide_not).symm)) (oR Z (zc Z (ZM (fun h=>h aZ.out)) Z) (oM Z Z (ifc sk ?_ ?_)))))
 intro a6 sl
 refine ZE Z Z Z (zQ Z Z (ZM (fun h=>h a6.out))) (ak.ldBA (j:=2) Z Z j8 yE ZD (vs:=af) Z Z) Z (ze Z Z Z (zQ Z Z (ZM (fun h=>h a6.out))) (fun _=>zu (pv:=[(0,jV 247),(1,jV 251)]) (z:=B4) (cs:=[jV 247,jV 251]) Z (wAD Z (wAD Z wAM)) ZQ wCU Z Z) (ze Z Z Z (zQ Z Z (ZM (fun h=>h a6.out))) (fun _=>ZG (Runs.neS (enc:=wAF) (a:=bW) (b:=(⟨247,251⟩:wAI)) Z Z Z wLu wLt) (congrArg hJ (decide_not).symm)) (oR Z (zc Z (ZM (fun h=>h a6.out)) Z) (oM Z Z (ifc sl ?_ ?_)))))
 intro bp sm
 refine zm Z Z Z (zQ Z Z (ZM (fun h=>h bp.out))) Z k5 (ze Z Z Z (zQ Z Z (ZM (fun h=>h bp.out))) (fun _=>Zk Z Z Z) (oR Z (zc Z (ZM (fun h=>h bp.out)) Z) (oM Z Z (ifc sm ?_ ?_))))
 intro aj sn
 refine zm Z Z Z (zQ Z Z (ZM (fun h=>h aj.out))) Z Z (ze Z Z Z (zQ Z Z (ZM (fun h=>h aj.out))) (fun _=>zu (pv:=[(0,jV 1),(1,jV 1)]) (z:=B4) (cs:=[jV 1,jV 1]) Z (wAD Z (wAD Z wAM)) ZQ wCU Z Z) (ze Z Z Z (zQ Z Z (ZM (fun h=>h aj.out))) (fun _=>zu (pv:=[(0,jV 2),(1,jV 2)]) (z:=B4) (cs:=[jV 2,jV 2]) Z (wAD Z (wAD Z wAM)) ZQ wCU Z Z) (zo (pv:=[(0,.agg #[jV 1,jV 1]),(1,.agg #[jV 2,jV 2])]) (zs:=[jV 0,jV 0,jV 0,jV 0]) (cs:=[jV 1,jV 1,jV 2,jV 2]) Z Z Z (zQ Z Z (ZM (fun h=>h aj.out))) Z (wAD Z (wAD Z wAM)) ZP ZD ZQ Z Z Z Z Z ak ?_)))
 intro cw ge pY
 let eD:Res:=.row (some ⟨ge,0,none⟩) 2 37 2 (hD wAF [(⟨1,1⟩:wAI),(⟨2,2⟩:wAI)])
 have pZ:sW w U am [eD,bg,bb,.blk ag 37 af,.blk ae 37 ac,.blk ab 37 B5] cw:=pY
 have q:=pZ.freezeR (k:=2) (n:=bX.length) rfl (wAC (f:=wAF) (sz:=2) (fun _=>rfl) bX) (by decide)
 obtain ⟨jq,iH,tH,p4⟩:=q
 have p5:sW w U jq [eD,bg,.blk ag 37 af,.blk ae 37 ac,.blk ab 37 B5] cw:=p4
 have q:=p5.freezeR (k:=0) (n:=[(⟨1,1⟩:wAI),(⟨2,2⟩:wAI)].length) rfl (wAC (f:=wAF) (sz:=2) (fun _=>rfl) [(⟨1,1⟩:wAI),(⟨2,2⟩:wAI)]) (by decide)
 obtain ⟨fw,de,tJ,p6⟩:=q
 have p7:sW w U fw [bg,.blk ag 37 af,.blk ae 37 ac,.blk ab 37 B5] cw:=p6
 have me:=tH.le de
 refine bnK sn fun wC mf sq=>zH 0 Z Z Z (zQ Z Z (ZM (fun h=>h aj.out))) (zG Z Z Tryz.call38 (zB Z (zB Z zO)) Z) p7 (fun hs=>wEL bX cE cW [(⟨1,1⟩:wAI),(⟨2,2⟩:wAI)] (some ⟨ge,0,none⟩) 2 cw fw hs me tJ mf) (.inr Z) ?_
 rintro cS uV wm fY iI p9 ⟨rfl,rfl⟩
 have ii:sW w U cS [bg,.blk ag 37 af,.blk ae 37 ac,.blk ab 37 B5] fY:=p9
 refine ze Z Z Z (zQ Z Z (ZM (fun h=>h aj.out))) (fun _=>ZW Z Z) (oR Z (zc Z (ZM (fun h=>h aj.out)) Z) (oM Z Z (ifc sq ?_ ?_)))
 intro an sr
 refine zm Z Z Z (zQ Z Z (nC an.out)) Z Z (bnK sr fun bJ mg ss=>zH 0 Z Z Z (zQ Z Z (nC an.out)) (zG Z Z ye (zB Z (zB Z zO)) Z) ii (fun hs=>wAe 0 1 fY cS hs mg) (.inr Z) ?_)
 rintro fy uW wn jP ul qb ⟨rfl,rfl⟩
 have qc:sW w U fy [bg,.blk ag 37 af,.blk ae 37 ac,.blk ab 37 B5] jP:=qb
 let eF:List Value:=[jV bJ.Skier,jV bJ.Mat]
 refine zo (pv:=[(0,.agg eF.toArray)]) (zs:=B4) (cs:=eF) Z Z Z (zQ Z Z (nC an.out)) Z (wAD Z wAM) Zu ZX yF Z Z Z Z Z qc ?_
 intro cx gf qd
 let eG:Res:=.row (some ⟨gf,0,none⟩) 1 62 2 (hD wAU [bJ])
 have qe:sW w U fy [eG,bg,.blk ag 37 af,.blk ae 37 ac,.blk ab 37 B5] cx:=qd
 have q:=qe.freezeR (k:=1) (n:=bY.length) rfl (wAC (f:=wAU) (sz:=2) (fun _=>rfl) bY) (by decide)
 obtain ⟨jr,um,tK,qf⟩:=q
 have qh:sW w U jr [eG,.blk ag 37 af,.blk ae 37 ac,.blk ab 37 B5] cx:=qf
 have q:=qh.freezeR (k:=0) (n:=[bJ].length) rfl (wAC (f:=wAU) (sz:=2) (fun _=>rfl) [bJ]) (by decide)
 obtain ⟨fz,iJ,tL,qi⟩:=q
 have qj:sW w U fz [.blk ag 37 af,.blk ae 37 ac,.blk ab 37 B5] cx:=qi
 have mj:=tK.le iJ
 refine bnK ss fun wD ml su=>zH 0 Z Z Z (zQ Z Z (nC an.out)) (zG Z Z Tryz.call39 (zB Z (zB Z zO)) Z) qj (fun hs=>wEA bY cG cX [bJ] (some ⟨gf,0,none⟩) 1 cx fz hs mj tL ml) (.inr Z) ?_
 rintro fA uX wo jQ un qk ⟨rfl,rfl⟩
 have qm:sW w U fA [.blk ag 37 af,.blk ae 37 ac,.blk ab 37 B5] jQ:=qk
 refine ze Z Z Z (zQ Z Z (nC an.out)) (fun _=>ZW Z Z) (oR Z (zc Z (nC an.out) Z) (zg ?_))
 cases su
 exact zI ⟨Z,⟨fA,Z,((((((iH.trans de).trans iI).trans ul).trans um).trans iJ).trans un),qm⟩⟩
 intro an sv
 refine ZA Z Z Z (zU Z Z (nF (an.out)) Z) (ZI Z Z Z (zU Z Z (nF (an.out)) Z) (ZI Z Z Z (zU Z Z (nF (an.out)) Z) (ZI Z Z Z (zU Z Z (nF (an.out)) Z) (ZA Z Z Z (zU Z Z (nF (an.out)) Z) (oR Z (zT Z (nF (an.out)) Z) (zg ?_))))))
 cases sv
 exact zI ⟨rfl,⟨cS,rfl,((iH.trans de).trans iI),(ii.pick [1,2,3] _ (by decide) rfl)⟩⟩
 intro aj sw
 refine oT Z aj (oT Z aj (oT Z aj (ZI Z Z Z (zU Z Z (Zm aj.out) Z) (ZI Z Z Z (zU Z Z (Zm aj.out) Z) (oT Z aj (oR Z (zT Z (Zm aj.out) Z) (oM Z Z (oN Z (ZI Z Z Z (zU Z Z Z Z) (ZI Z Z Z (zU Z Z Z Z) (ZI Z Z Z (zU Z Z Z Z) (oN Z (oR Z (zT Z Z Z) (zg ?_))))))))))))))
 cases sw
 exact zI ⟨rfl,⟨am,rfl,(zN _),(ak.pick [2,3,4] _ (by decide) rfl)⟩⟩
 intro bp sA
 refine oT Z bp (oT Z bp (oR Z (zT Z (Zm bp.out) Z) (oM Z Z (oN Z (oN Z (oN Z (ZI Z Z Z (zU Z Z Z Z) (ZI Z Z Z (zU Z Z Z Z) (oN Z (oR Z (zT Z Z Z) (oM Z Z (oN Z (ZI Z Z Z (zU Z Z Z Z) (ZI Z Z Z (zU Z Z Z Z) (ZI Z Z Z (zU Z Z Z Z) (oN Z (oR Z (zT Z Z Z) (zg ?_))))))))))))))))))
 cases sA
 exact zI ⟨rfl,⟨am,rfl,(zN _),(ak.pick [2,3,4] _ (by decide) rfl)⟩⟩
 intro a6 sB
 refine oT Z a6 (oT Z a6 (oT Z a6 (oR Z (zT Z (Zm a6.out) Z) (oM Z Z (oN Z (oN Z (oR Z (zT Z Z Z) (oM Z Z (oN Z (oN Z (oN Z (ZI Z Z Z (zU Z Z Z Z) (ZI Z Z Z (zU Z Z Z Z) (oN Z (oR Z (zT Z Z Z) (oM Z Z (oN Z (ZI Z Z Z (zU Z Z Z Z) (ZI Z Z Z (zU Z Z Z Z) (ZI Z Z Z (zU Z Z Z Z) (oN Z (oR Z (zT Z Z Z) (zg ?_)))))))))))))))))))))))
 cases sB
 exact zI ⟨rfl,⟨am,rfl,(zN _),(ak.pick [2,3,4] _ (by decide) rfl)⟩⟩
 intro aZ sC
 refine oT Z aZ (oT Z aZ (oT Z aZ (oR Z (zT Z (Zm aZ.out) Z) (oM Z Z (oN Z (oN Z (oN Z (oR Z (zT Z Z Z) (oM Z Z (oN Z (oN Z (oR Z (zT Z Z Z) (oM Z Z (oN Z (oN Z (oN Z (ZI Z Z Z (zU Z Z Z Z) (ZI Z Z Z (zU Z Z Z Z) (oN Z (oR Z (zT Z Z Z) (oM Z Z (oN Z (ZI Z Z Z (zU Z Z Z Z) (ZI Z Z Z (zU Z Z Z Z) (ZI Z Z Z (zU Z Z Z Z) (oN Z (oR Z (zT Z Z Z) (zg ?_))))))))))))))))))))))))))))
 cases sC
 exact zI ⟨rfl,⟨am,rfl,(zN _),(ak.pick [2,3,4] _ (by decide) rfl)⟩⟩
 intro aY sD
 refine oT Z aY (oT Z aY (oT Z aY (oR Z (zT Z (Zm aY.out) Z) (oM Z Z (oN Z (oN Z (oN Z (oR Z (zT Z Z Z) (oM Z Z (oN Z (oN Z (oN Z (oR Z (zT Z Z Z) (oM Z Z (oN Z (oN Z (oR Z (zT Z Z Z) (oM Z Z (oN Z (oN Z (oN Z (ZI Z Z Z (zU Z Z Z Z) (ZI Z Z Z (zU Z Z Z Z) (oN Z (oR Z (zT Z Z Z) (oM Z Z (oN Z (ZI Z Z Z (zU Z Z Z Z) (ZI Z Z Z (zU Z Z Z Z) (ZI Z Z Z (zU Z Z Z Z) (oN Z (oR Z (zT Z Z Z) (zg ?_)))))))))))))))))))))))))))))))))
 cases sD
 exact zI ⟨rfl,⟨am,rfl,(zN _),(ak.pick [2,3,4] _ (by decide) rfl)⟩⟩
 intro bo sE
 refine oT Z bo (oT Z bo (oR Z (zT Z (Zm bo.out) Z) (oM Z Z (oN Z (oN Z (oN Z (oR Z (zT Z Z Z) (oM Z Z (oN Z (oN Z (oN Z (oR Z (zT Z Z Z) (oM Z Z (oN Z (oN Z (oN Z (oR Z (zT Z Z Z) (oM Z Z (oN Z (oN Z (oR Z (zT Z Z Z) (oM Z Z (oN Z (oN Z (oN Z (ZI Z Z Z (zU Z Z Z Z) (ZI Z Z Z (zU Z Z Z Z) (oN Z (oR Z (zT Z Z Z) (oM Z Z (oN Z (ZI Z Z Z (zU Z Z Z Z) (ZI Z Z Z (zU Z Z Z Z) (ZI Z Z Z (zU Z Z Z Z) (oN Z (oR Z (zT Z Z Z) (zg ?_)))))))))))))))))))))))))))))))))))))
 cases sE
 exact zI ⟨rfl,⟨am,rfl,(zN _),(ak.pick [2,3,4] _ (by decide) rfl)⟩⟩
 intro bn sF
 refine oT Z bn (oT Z bn (oR Z (zT Z (Zm bn.out) Z) (oM Z Z (oN Z (oN Z (oR Z (zT Z Z Z) (oM Z Z (oN Z (oN Z (oN Z (oR Z (zT Z Z Z) (oM Z Z (oN Z (oN Z (oN Z (oR Z (zT Z Z Z) (oM Z Z (oN Z (oN Z (oN Z (oR Z (zT Z Z Z) (oM Z Z (oN Z (oN Z (oR Z (zT Z Z Z) (oM Z Z (oN Z (oN Z (oN Z (ZI Z Z Z (zU Z Z Z Z) (ZI Z Z Z (zU Z Z Z Z) (oN Z (oR Z (zT Z Z Z) (oM Z Z (oN Z (ZI Z Z Z (zU Z Z Z Z) (ZI Z Z Z (zU Z Z Z Z) (ZI Z Z Z (zU Z Z Z Z) (oN Z (oR Z (zT Z Z Z) (zg ?_)))))))))))))))))))))))))))))))))))))))))
 cases sF
 exact zI ⟨rfl,⟨am,rfl,(zN _),(ak.pick [2,3,4] _ (by decide) rfl)⟩⟩
 intro bm sG
 refine oT Z bm (oT Z bm (oR Z (zT Z (Zm bm.out) Z) (oM Z Z (oN Z (oN Z (oR Z (zT Z Z Z) (oM Z Z (oN Z (oN Z (oR Z (zT Z Z Z) (oM Z Z (oN Z (oN Z (oN Z (oR Z (zT Z Z Z) (oM Z Z (oN Z (oN Z (oN Z (oR Z (zT Z Z Z) (oM Z Z (oN Z (oN Z (oN Z (oR Z (zT Z Z Z) (oM Z Z (oN Z (oN Z (oR Z (zT Z Z Z) (oM Z Z (oN Z (oN Z (oN Z (ZI Z Z Z (zU Z Z Z Z) (ZI Z Z Z (zU Z Z Z Z) (oN Z (oR Z (zT Z Z Z) (oM Z Z (oN Z (ZI Z Z Z (zU Z Z Z Z) (ZI Z Z Z (zU Z Z Z Z) (ZI Z Z Z (zU Z Z Z Z) (oN Z (oR Z (zT Z Z Z) (zg ?_)))))))))))))))))))))))))))))))))))))))))))))
 cases sG
 exact zI ⟨rfl,⟨am,rfl,(zN _),(ak.pick [2,3,4] _ (by decide) rfl)⟩⟩
 intro bk sH
 refine oT Z bk (oT Z bk (oR Z (zT Z (Zm bk.out) Z) (oM Z Z (oN Z (oN Z (oR Z (zT Z Z Z) (oM Z Z (oN Z (oN Z (oR Z (zT Z Z Z) (oM Z Z (oN Z (oN Z (oR Z (zT Z Z Z) (oM Z Z (oN Z (oN Z (oN Z (oR Z (zT Z Z Z) (oM Z Z (oN Z (oN Z (oN Z (oR Z (zT Z Z Z) (oM Z Z (oN Z (oN Z (oN Z (oR Z (zT Z Z Z) (oM Z Z (oN Z (oN Z (oR Z (zT Z Z Z) (oM Z Z (oN Z (oN Z (oN Z (ZI Z Z Z (zU Z Z Z Z) (ZI Z Z Z (zU Z Z Z Z) (oN Z (oR Z (zT Z Z Z) (oM Z Z (oN Z (ZI Z Z Z (zU Z Z Z Z) (ZI Z Z Z (zU Z Z Z Z) (ZI Z Z Z (zU Z Z Z Z) (oN Z (oR Z (zT Z Z Z) (zg ?_)))))))))))))))))))))))))))))))))))))))))))))))))
 cases sH
 exact zI ⟨rfl,⟨am,rfl,(zN _),(ak.pick [2,3,4] _ (by decide) rfl)⟩⟩
 have it:=iA;rw [if_neg aW] at it;replace aW:=zM aW
 refine oT Z aW (oT Z aW (oR Z (zT Z (Zm aW.out) Z) (oM Z Z (oN Z (oN Z (oR Z (zT Z Z Z) (oM Z Z (oN Z (oN Z (oR Z (zT Z Z Z) (oM Z Z (oN Z (oN Z (oR Z (zT Z Z Z) (oM Z Z (oN Z (oN Z (oR Z (zT Z Z Z) (oM Z Z (oN Z (oN Z (oN Z (oR Z (zT Z Z Z) (oM Z Z (oN Z (oN Z (oN Z (oR Z (zT Z Z Z) (oM Z Z (oN Z (oN Z (oN Z (oR Z (zT Z Z Z) (oM Z Z (oN Z (oN Z (oR Z (zT Z Z Z) (oM Z Z (oN Z (oN Z (oN Z (ZI Z Z Z (zU Z Z Z Z) (ZI Z Z Z (zU Z Z Z Z) (oN Z (oR Z (zT Z Z Z) (oM Z Z (oN Z (ZI Z Z Z (zU Z Z Z Z) (ZI Z Z Z (zU Z Z Z Z) (ZI Z Z Z (zU Z Z Z Z) (oN Z (oR Z (zT Z Z Z) (zg ?_)))))))))))))))))))))))))))))))))))))))))))))))))))))
 cases it
 exact zI ⟨rfl,⟨am,rfl,(zN _),(ak.pick [2,3,4] _ (by decide) rfl)⟩⟩
 rintro wH jR ⟨fB,ig,vD,ij⟩
 refine ifc sc ?_ ?_
 intro cY sI
 refine ZJ (ig.trans (congrArg hJ cY.out)) (sR fL1 Z (oA Z Z (eN (zR (zS ?_)))))
 have hE:=nB sI;first | subst r | cases hE
 exact ⟨rfl,_,(ZH rfl),fB,_,(ij.pick [] _ (by decide) rfl),rfl,rfl⟩
 intro cY sJ
 refine zy (ig.trans (congrArg hJ (nA.2 cY.out))) (kN (sR (.fx 0 (.fx 1 (wHD (.nil)) .stop) .stop) Z (bnK sJ fun ax mq sK=>zH 0 Z Z Z Z (zG Z Z Tryz.call41 zO Z) ij (fun hs=>wCS jR fB hs mq) (.inr Z) ?_)))
 rintro jt uY wp bF vE qn ⟨dJ,gK,dK,gL,dL,gM,dM,gN,rfl,rfl⟩
 let co:Res:=.row dM gN 52 4 (hD wAB ax.Readings)
 let cL:Res:=.row dL gM 39 3 (hD wAA ax.Clocks)
 let eH:Res:=.row dK gL 37 2 (hD wAF ax.Splits)
 have qo:sW w U jt [.row dJ gK 3 1 (hD KL.encI ax.Starts),eH,cL,co,.blk ag 37 af,.blk ae 37 ac,.blk ab 37 B5] bF:=qn
 have q:=qo.freezeR (k:=0) (n:=ax.Starts.length) rfl (wAC (f:=KL.encI) (sz:=1) (fun _=>rfl) ax.Starts) (by decide)
 obtain ⟨ju,vF,tM,qp⟩:=q
 have qq:sW w U ju [eH,cL,co,.blk ag 37 af,.blk ae 37 ac,.blk ab 37 B5] bF:=qp
 have q:=qq.freezeR (k:=0) (n:=ax.Splits.length) rfl (wAC (f:=wAF) (sz:=2) (fun _=>rfl) ax.Splits) (by decide)
 obtain ⟨jv,uo,tN,qr⟩:=q
 have qs:sW w U jv [cL,co,.blk ag 37 af,.blk ae 37 ac,.blk ab 37 B5] bF:=qr
 have q:=qs.freezeR (k:=0) (n:=ax.Clocks.length) rfl (wAC (f:=wAA) (sz:=3) (fun _=>rfl) ax.Clocks) (by decide)
 obtain ⟨jw,iK,tO,qt⟩:=q
 have qu:sW w U jw [co,.blk ag 37 af,.blk ae 37 ac,.blk ab 37 B5] bF:=qt
 have q:=qu.freezeR (k:=0) (n:=ax.Readings.length) rfl (wAC (f:=wAB) (sz:=4) (fun _=>rfl) ax.Readings) (by decide)
 obtain ⟨fC,df,tP,qv⟩:=q
 have qw:sW w U fC [.blk ag 37 af,.blk ae 37 ac,.blk ab 37 B5] bF:=qv
 have ms:=tM.le uo
 have mu:=ms.le iK
 have mw:=mu.le df
 have mx:=tN.le iK
 have my:=mx.le df
 have mz:=tO.le df
 have q:=bnd sK
 obtain ⟨⟨uD,iS,iT⟩,mA,iv⟩:=q
 try dsimp only at iv
 refine zH 0 Z Z Z Z (zG Z Z Tryz.call40 (zB Z zO) Z) qw (fun hs=>wIb ax dJ gK dK gL dL gM dM gN bF fC hs mw my mz tP mA) (.inr Z) ?_
 rintro fD u0 wr fZ vG qx ⟨dN,gO,jZ,dO,gP,rfl,rfl,vg⟩
 let ah:Res:=.row dO gP 3 1 (hD KL.encI iS)
 let ai:Res:=.row dN gO 41 1 jZ
 have qy:sW w U fD [ai,ah,.blk ag 37 af,.blk ae 37 ac,.blk ab 37 B5] fZ:=qx
 refine oM Z Z (oR Z (zV Z Z (v:=.slice dN uD.length gO) Z) (oR Z (zV Z Z (v:=.slice dO iS.length gP) Z) (oR Z (zV Z Z (v:=jV iT) Z) (oA Z Z (eN (sR (.fx 0 (fC1_4 (.fx 5 (.fx 6 (wMd (.nil)) .stop) .stop)) .stop) Z (bnK iv fun ay mB sL=>zH 0 Z Z Z Z (zG Z Z Tryz.call41 zO Z) qy (fun hs=>wCS fZ fD hs mB) (.inr Z) ?_)))))))
 rintro fE u3 wt jT vH qz ⟨dP,gQ,dQ,gR,dR,gS,dS,gT,rfl,rfl⟩
 let bR:Res:=.row dS gT 52 4 (hD wAB ay.Readings)
 let cp:Res:=.row dR gS 39 3 (hD wAA ay.Clocks)
 let cM:Res:=.row dQ gR 37 2 (hD wAF ay.Splits)
 let eI:Res:=.row dP gQ 3 1 (hD KL.encI ay.Starts)
 have qA:sW w U fE [eI,cM,cp,bR,ai,ah,.blk ag 37 af,.blk ae 37 ac,.blk ab 37 B5] jT:=qz
 let eJ:List Value:=[jV 0,jV 1,jV 0,.bool true]
 refine oR Z (zu (pv:=[(0,jV 0),(1,jV 1),(3,.bool true)]) (z:=bx) (cs:=eJ) Z (wAD Z (wAD Z (wAD Z wAM))) Zx wDL Z Z) ?_
 let eK:List Value:=[jV 1,jV 1,jV 0,.bool true]
 refine oR Z (zu (pv:=[(0,jV 1),(1,jV 1),(3,.bool true)]) (z:=bx) (cs:=eK) Z (wAD Z (wAD Z (wAD Z wAM))) Zx wDL Z Z) ?_
 let eM:List Value:=[jV 3,jV 0,jV 1,.bool false]
 refine oR Z (zu (pv:=[(0,jV 3),(2,jV 1)]) (z:=bx) (cs:=eM) Z (wAD Z (wAD Z wAM)) Zx wDL Z Z) ?_
 let eO:List Value:=[jV 2,jV 0,jV 0,.bool false]
 refine oR Z (zu (pv:=[(0,jV 2)]) (z:=bx) (cs:=eO) Z (wAD Z wAM) Zx wDL Z Z) (zo (pv:=[(0,.agg eJ.toArray),(1,.agg eK.toArray),(2,.agg eM.toArray),(3,.agg eO.toArray)]) (zs:=[jV 0,jV 0,jV 0,.bool false,jV 0,jV 0,jV 0,.bool false,jV 0,jV 0,jV 0,.bool false,jV 0,jV 0,jV 0,.bool false]) (cs:=[jV 0,jV 1,jV 0,.bool true,jV 1,jV 1,jV 0,.bool true,jV 3,jV 0,jV 1,.bool false,jV 2,jV 0,jV 0,.bool false]) Z Z Z Z Z (wAD Z (wAD Z (wAD Z (wAD Z wAM)))) yS Zh Zx Z Z Z Z Z qA ?_)
 intro bj gg qB
 let bS:Res:=.row (some ⟨gg,0,none⟩) 4 101 4 (hD wBp [(⟨0,1,0,true⟩:wAG),(⟨1,1,0,true⟩:wAG),(⟨3,0,1,false⟩:wAG),(⟨2,0,0,false⟩:wAG)])
 have qD:sW w U fE [bS,eI,cM,cp,bR,ai,ah,.blk ag 37 af,.blk ae 37 ac,.blk ab 37 B5] bj:=qB
 have q:=qD.freezeR (k:=1) (n:=ay.Starts.length) rfl (wAC (f:=KL.encI) (sz:=1) (fun _=>rfl) ay.Starts) (by decide)
 obtain ⟨jx,vJ,tQ,qE⟩:=q
 have qF:sW w U jx [bS,cM,cp,bR,ai,ah,.blk ag 37 af,.blk ae 37 ac,.blk ab 37 B5] bj:=qE
 have q:=qF.freezeR (k:=1) (n:=ay.Splits.length) rfl (wAC (f:=wAF) (sz:=2) (fun _=>rfl) ay.Splits) (by decide)
 obtain ⟨jy,up,tR,qG⟩:=q
 have qI:sW w U jy [bS,cp,bR,ai,ah,.blk ag 37 af,.blk ae 37 ac,.blk ab 37 B5] bj:=qG
 have q:=qI.freezeR (k:=1) (n:=ay.Clocks.length) rfl (wAC (f:=wAA) (sz:=3) (fun _=>rfl) ay.Clocks) (by decide)
 obtain ⟨jz,iL,tS,qJ⟩:=q
 have qK:sW w U jz [bS,bR,ai,ah,.blk ag 37 af,.blk ae 37 ac,.blk ab 37 B5] bj:=qJ
 have q:=qK.freezeR (k:=1) (n:=ay.Readings.length) rfl (wAC (f:=wAB) (sz:=4) (fun _=>rfl) ay.Readings) (by decide)
 obtain ⟨jA,dg,tT,qL⟩:=q
 have qM:sW w U jA [bS,ai,ah,.blk ag 37 af,.blk ae 37 ac,.blk ab 37 B5] bj:=qL
 have q:=qM.freezeR (k:=0) (n:=[(⟨0,1,0,true⟩:wAG),(⟨1,1,0,true⟩:wAG),(⟨3,0,1,false⟩:wAG),(⟨2,0,0,false⟩:wAG)].length) rfl (wAC (f:=wBp) (sz:=4) (fun _=>rfl) [(⟨0,1,0,true⟩:wAG),(⟨1,1,0,true⟩:wAG),(⟨3,0,1,false⟩:wAG),(⟨2,0,0,false⟩:wAG)]) (by decide)
 obtain ⟨fG,cD,tU,qN⟩:=q
 have qO:sW w U fG [ai,ah,.blk ag 37 af,.blk ae 37 ac,.blk ab 37 B5] bj:=qN
 have mC:=tQ.le up
 have mD:=mC.le iL
 have mE:=mD.le dg
 have mF:=mE.le cD
 have mG:=tR.le iL
 have mH:=mG.le dg
 have mI:=mH.le cD
 have mJ:=tS.le dg
 have mK:=mJ.le cD
 have mL:=tT.le cD
 have q:=bnd sL
 obtain ⟨⟨iU,iV⟩,mM,iw⟩:=q
 try dsimp only at iw
 refine zH 0 Z Z Z Z (zG Z Z Tryz.call42 (zB Z (zB Z zO)) Z) qO (fun hs=>wHZ ay dP gQ dQ gR dR gS dS gT [(⟨0,1,0,true⟩:wAG),(⟨1,1,0,true⟩:wAG),(⟨3,0,1,false⟩:wAG),(⟨2,0,0,false⟩:wAG)] (some ⟨gg,0,none⟩) 4 bj fG hs mF mI mK mL tU mM) (.inr Z) ?_
 rintro fH u4 wu f7 vK qQ ⟨rfl,rfl⟩
 have qR:sW w U fH [ai,ah,.blk ag 37 af,.blk ae 37 ac,.blk ab 37 B5] f7:=qQ
 refine oM Z Z (oR Z (zV Z Z (v:=jV iU) Z) (oR Z (zV Z Z (v:=jV iV) Z) (oA Z Z (oA Z Z (eN (sR (.fx 0 (.fx 1 (wHD (.nil)) .stop) .stop) Z (bnK iw fun az mN sM=>zH 0 Z Z Z Z (zG Z Z Tryz.call41 zO Z) qR (fun hs=>wCS f7 fH hs mN) (.inr Z) ?_)))))))
 rintro jB u5 wv bG vL qS ⟨dT,gU,dU,gV,dV,gW,dW,gX,rfl,rfl⟩
 let cq:Res:=.row dW gX 52 4 (hD wAB az.Readings)
 let cN:Res:=.row dV gW 39 3 (hD wAA az.Clocks)
 let eQ:Res:=.row dU gV 37 2 (hD wAF az.Splits)
 have qT:sW w U jB [.row dT gU 3 1 (hD KL.encI az.Starts),eQ,cN,cq,ai,ah,.blk ag 37 af,.blk ae 37 ac,.blk ab 37 B5] bG:=qS
 have q:=qT.freezeR (k:=0) (n:=az.Starts.length) rfl (wAC (f:=KL.encI) (sz:=1) (fun _=>rfl) az.Starts) (by decide)
 obtain ⟨jC,vM,tV,qV⟩:=q
 have qW:sW w U jC [eQ,cN,cq,ai,ah,.blk ag 37 af,.blk ae 37 ac,.blk ab 37 B5] bG:=qV
 have q:=qW.freezeR (k:=0) (n:=az.Splits.length) rfl (wAC (f:=wAF) (sz:=2) (fun _=>rfl) az.Splits) (by decide)
 obtain ⟨jD,uq,tW,qX⟩:=q
 have qY:sW w U jD [cN,cq,ai,ah,.blk ag 37 af,.blk ae 37 ac,.blk ab 37 B5] bG:=qX
 have q:=qY.freezeR (k:=0) (n:=az.Clocks.length) rfl (wAC (f:=wAA) (sz:=3) (fun _=>rfl) az.Clocks) (by decide)
 obtain ⟨jE,iM,tX,q5⟩:=q
 have q6:sW w U jE [cq,ai,ah,.blk ag 37 af,.blk ae 37 ac,.blk ab 37 B5] bG:=q5
 have q:=q6.freezeR (k:=0) (n:=az.Readings.length) rfl (wAC (f:=wAB) (sz:=4) (fun _=>rfl) az.Readings) (by decide)
 obtain ⟨fI,dh,tY,q7⟩:=q
 have q8:sW w U fI [ai,ah,.blk ag 37 af,.blk ae 37 ac,.blk ab 37 B5] bG:=q7
 have mO:=tV.le uq
 have mP:=mO.le iM
 have mQ:=mP.le dh
 have mR:=tW.le iM
 have mS:=mR.le dh
 have mT:=tX.le dh
 have q:=bnd sM
 obtain ⟨⟨bK,iW⟩,mU,iy⟩:=q
 try dsimp only at iy
 refine zH 0 Z Z Z Z (zG Z Z Tryz.call43 (zB Z zO) Z) q8 (fun hs=>wIc az dT gU dU gV dV gW dW gX bG fI hs mQ mS mT tY mU) (.inr Z) ?_
 rintro fJ u6 ww f9 vN q9 ⟨ca,cA,rfl,rfl⟩
 let bc:Res:=.row ca cA 3 1 (hD KL.encI bK)
 have rc:sW w U fJ [bc,ai,ah,.blk ag 37 af,.blk ae 37 ac,.blk ab 37 B5] f9:=q9
 refine oM Z Z (oR Z (zV Z Z (v:=.slice ca bK.length cA) Z) (oR Z (zV Z Z (v:=jV iW) Z) (oA Z Z (oA Z Z (eN (sR (.fx 0 (.fx 1 (wHD (.nil)) .stop) .stop) Z (bnK iy fun aV mW sO=>zH 0 Z Z Z Z (zG Z Z Tryz.call41 zO Z) rc (fun hs=>wCS f9 fJ hs mW) (.inr Z) ?_)))))))
 rintro jF u7 wx bH vO rd ⟨dX,gY,dY,gZ,dZ,g6,d5,g7,rfl,rfl⟩
 let cr:Res:=.row d5 g7 52 4 (hD wAB aV.Readings)
 let cO:Res:=.row dZ g6 39 3 (hD wAA aV.Clocks)
 let eU:Res:=.row dY gZ 37 2 (hD wAF aV.Splits)
 have re:sW w U jF [.row dX gY 3 1 (hD KL.encI aV.Starts),eU,cO,cr,bc,ai,ah,.blk ag 37 af,.blk ae 37 ac,.blk ab 37 B5] bH:=rd
 have q:=re.freezeR (k:=0) (n:=aV.Starts.length) rfl (wAC (f:=KL.encI) (sz:=1) (fun _=>rfl) aV.Starts) (by decide)
 obtain ⟨jG,vQ,tZ,rf⟩:=q
 have rh:sW w U jG [eU,cO,cr,bc,ai,ah,.blk ag 37 af,.blk ae 37 ac,.blk ab 37 B5] bH:=rf
 have q:=rh.freezeR (k:=0) (n:=aV.Splits.length) rfl (wAC (f:=wAF) (sz:=2) (fun _=>rfl) aV.Splits) (by decide)
 obtain ⟨jH,ur,t6,ri⟩:=q
 have rj:sW w U jH [cO,cr,bc,ai,ah,.blk ag 37 af,.blk ae 37 ac,.blk ab 37 B5] bH:=ri
 have q:=rj.freezeR (k:=0) (n:=aV.Clocks.length) rfl (wAC (f:=wAA) (sz:=3) (fun _=>rfl) aV.Clocks) (by decide)
 obtain ⟨jI,iN,t7,rk⟩:=q
 have rn:sW w U jI [cr,bc,ai,ah,.blk ag 37 af,.blk ae 37 ac,.blk ab 37 B5] bH:=rk
 have q:=rn.freezeR (k:=0) (n:=aV.Readings.length) rfl (wAC (f:=wAB) (sz:=4) (fun _=>rfl) aV.Readings) (by decide)
 obtain ⟨fL,di,t8,ro⟩:=q
 have rp:sW w U fL [bc,ai,ah,.blk ag 37 af,.blk ae 37 ac,.blk ab 37 B5] bH:=ro
 have mX:=tZ.le ur
 have mY:=mX.le iN
 have mZ:=mY.le di
 have m2:=t6.le iN
 have m3:=m2.le di
 have m4:=t7.le di
 have q:=bnd sO
 obtain ⟨⟨bL,iX⟩,m5,iz⟩:=q
 try dsimp only at iz
 refine zH 0 Z Z Z Z (zG Z Z Tryz.call44 (zB Z zO) Z) rp (fun hs=>wId aV dX gY dY gZ dZ g6 d5 g7 bH fL hs mZ m3 m4 t8 m5) (.inr Z) ?_
 rintro bh va wz jU vS rq ⟨cc,cB,rfl,rfl⟩
 let bz:Res:=.row cc cB 3 1 (hD KL.encI bL)
 have bI:sW w U bh [bz,bc,ai,ah,.blk ag 37 af,.blk ae 37 ac,.blk ab 37 B5] jU:=rq
 refine oM Z Z (oR Z (zV Z Z (v:=.slice cc bL.length cB) Z) (oR Z (zV Z Z (v:=jV iX) Z) (oA Z Z (oA Z Z (eN (zL (yf fun bu bd=>?_)))))))
 have k8:bu 2=jV iT:=(bd 2).trans rfl
 have k9:bu 4=jV iV:=(bd 4).trans rfl
 have lb:bu 6=jV iW:=(bd 6).trans rfl
 have lc:bu 8=jV iX:=(bd 8).trans rfl
 have lf:bu 13=jV iU:=(bd 13).trans rfl
 have lg:bu 14=.slice ca bK.length cA:=(bd 14).trans rfl
 have lh:bu 15=.slice cc bL.length cB:=(bd 15).trans rfl
 clear bd
 refine rR (wOU (.fx 20 (.fx 21 (wNQ (.fx 25 (.fx 26 (.fl 27 (.fl 28 .nil)) .stop) .stop)) .stop) .stop)) Z (oM Z k8 (oR Z (yO Z Z Z) (oM Z Z (ifc iz ?_ ?_))))
 intro bq sP
 refine zm Z Z Z (wT Z bq) Z k9 (rU Z (wT Z bq) (yO Z Z Z) (oR Z (zT Z (Zm bq.out) Z) (oM Z Z (ifc sP ?_ ?_))))
 intro br sQ
 refine zm Z Z Z (wT Z br) Z lb (rU Z (wT Z br) (yO Z Z Z) (oR Z (zT Z (Zm br.out) Z) (oM Z Z (ifc sQ ?_ ?_))))
 intro bs sS
 refine zm Z Z Z (wT Z bs) Z lc (rU Z (wT Z bs) (yO Z Z Z) (oR Z (zT Z (Zm bs.out) Z) (oM Z Z (ifc sS ?_ ?_))))
 intro bt sT
 refine zm Z Z Z (wT Z bt) Z lf (rU Z (wT Z bt) (yO Z Z Z) (oR Z (zT Z (Zm bt.out) Z) (oM Z Z (ifc sT ?_ ?_))))
 intro a7 sU
 refine zm Z Z Z (wT Z a7) Z lg (zo (pv:=[(0,jV 1)]) (zs:=[jV 0]) (cs:=[jV 1]) Z Z Z (wT Z a7) Z (wAD Z wAM) zC zD zt Z Z Z Z Z bI ?_)
 intro cy gh rx
 let eV:Res:=.row (some ⟨gh,0,none⟩) 1 3 1 (hD KL.encI [1])
 have ry:sW w U bh [eV,bz,bc,ai,ah,.blk ag 37 af,.blk ae 37 ac,.blk ab 37 B5] cy:=rx
 have q:=ry.freezeR (k:=2) (n:=bK.length) rfl (wAC (f:=KL.encI) (sz:=1) (fun _=>rfl) bK) (by decide)
 obtain ⟨jJ,vT,ua,rz⟩:=q
 have rC:sW w U jJ [eV,bz,ai,ah,.blk ag 37 af,.blk ae 37 ac,.blk ab 37 B5] cy:=rz
 have q:=rC.freezeR (k:=0) (n:=[1].length) rfl (wAC (f:=KL.encI) (sz:=1) (fun _=>rfl) [1]) (by decide)
 obtain ⟨fM,uu,ub,rD⟩:=q
 have rE:sW w U fM [bz,ai,ah,.blk ag 37 af,.blk ae 37 ac,.blk ab 37 B5] cy:=rD
 have m6:=ua.le uu
 refine bnK sU fun wE m7 sV=>zH 0 Z Z Z (wT Z a7) (zG Z Z Tryz.call45 (zB Z (zB Z zO)) Z) rE (fun hs=>wDf bK ca cA [1] (some ⟨gh,0,none⟩) 1 cy fM hs m6 ub m7) (.inr Z) ?_
 rintro cV vb wA jW vU rF ⟨rfl,rfl⟩
 have ik:sW w U cV [bz,ai,ah,.blk ag 37 af,.blk ae 37 ac,.blk ab 37 B5] jW:=rF
 refine oR Z (zT Z (Zm a7.out) Z) (oM Z Z (ifc sV ?_ ?_))
 intro a8 sX
 refine zm Z Z Z (zQ Z Z (congrArg hJ a8.out)) Z lh (zo (pv:=[(0,jV 1)]) (zs:=[jV 0]) (cs:=[jV 1]) Z Z Z (zQ Z Z (congrArg hJ a8.out)) Z (wAD Z wAM) zC zD zt Z Z Z Z Z ik ?_)
 intro cz gi rH
 let eW:Res:=.row (some ⟨gi,0,none⟩) 1 3 1 (hD KL.encI [1])
 have rI:sW w U cV [eW,bz,ai,ah,.blk ag 37 af,.blk ae 37 ac,.blk ab 37 B5] cz:=rH
 have q:=rI.freezeR (k:=1) (n:=bL.length) rfl (wAC (f:=KL.encI) (sz:=1) (fun _=>rfl) bL) (by decide)
 obtain ⟨jK,vV,ud,rJ⟩:=q
 have rK:sW w U jK [eW,ai,ah,.blk ag 37 af,.blk ae 37 ac,.blk ab 37 B5] cz:=rJ
 have q:=rK.freezeR (k:=0) (n:=[1].length) rfl (wAC (f:=KL.encI) (sz:=1) (fun _=>rfl) [1]) (by decide)
 obtain ⟨fN,uv,ue,rL⟩:=q
 have rM:sW w U fN [ai,ah,.blk ag 37 af,.blk ae 37 ac,.blk ab 37 B5] cz:=rL
 have m8:=ud.le uv
 refine bnK sX fun wG m9 sY=>zH 0 Z Z Z (zQ Z Z (congrArg hJ a8.out)) (zG Z Z Tryz.call45 (zB Z (zB Z zO)) Z) rM (fun hs=>wDf bL cc cB [1] (some ⟨gi,0,none⟩) 1 cz fN hs m8 ue m9) (.inr Z) ?_
 rintro fO vc wB jX vW rN ⟨rfl,rfl⟩
 have rP:sW w U fO [ai,ah,.blk ag 37 af,.blk ae 37 ac,.blk ab 37 B5] jX:=rN
 refine oR Z (zT Z (congrArg hJ a8.out) Z) (oA Z Z (eN (zR ?_)))
 have hE:=nB sY;first | subst r | cases hE
 exact ⟨rfl,_,(ZH rfl),fO,_,(rP.pick [] _ (by decide) rfl),rfl,rfl⟩
 intro a8 sZ
 refine ZA Z Z Z (zU Z Z (congrArg hJ (nA.2 a8.out)) Z) (ZI Z Z Z (zU Z Z (congrArg hJ (nA.2 a8.out)) Z) (ZI Z Z Z (zU Z Z (congrArg hJ (nA.2 a8.out)) Z) (oR Z (zc Z (congrArg hJ (nA.2 a8.out)) Z) (oA Z Z (eN (zR ?_))))))
 have hE:=nB sZ;first | subst r | cases hE
 exact ⟨rfl,_,(ZH rfl),cV,_,(ik.pick [] _ (by decide) rfl),rfl,rfl⟩
 intro a7 s3
 refine oF Z a7 (ZI Z Z Z (zU Z Z (ZM a7.out) Z) (ZI Z Z Z (zU Z Z (ZM a7.out) Z) (oR Z (zc Z (ZM a7.out) Z) (oM Z Z (oN Z (ZI Z Z Z (zU Z Z Z Z) (ZI Z Z Z (zU Z Z Z Z) (oR Z (zc Z Z Z) (oA Z Z (eN (zR ?_)))))))))))
 have hE:=nB s3;first | subst r | cases hE
 exact ⟨rfl,_,(ZH rfl),bh,_,(bI.pick [] _ (by decide) rfl),rfl,rfl⟩
 intro bt s4
 refine oF Z bt (oF Z bt (oR Z (zc Z (ZM bt.out) Z) (oM Z Z (oN Z (ZI Z Z Z (zU Z Z Z Z) (ZI Z Z Z (zU Z Z Z Z) (oR Z (zc Z Z Z) (oM Z Z (oN Z (ZI Z Z Z (zU Z Z Z Z) (ZI Z Z Z (zU Z Z Z Z) (oR Z (zc Z Z Z) (oA Z Z (eN (zR ?_)))))))))))))))
 have hE:=nB s4;first | subst r | cases hE
 exact ⟨rfl,_,(ZH rfl),bh,_,(bI.pick [] _ (by decide) rfl),rfl,rfl⟩
 intro bs s5
 refine oF Z bs (oF Z bs (oR Z (zc Z (ZM bs.out) Z) (oM Z Z (oN Z (oN Z (oR Z (zc Z Z Z) (oM Z Z (oN Z (ZI Z Z Z (zU Z Z Z Z) (ZI Z Z Z (zU Z Z Z Z) (oR Z (zc Z Z Z) (oM Z Z (oN Z (ZI Z Z Z (zU Z Z Z Z) (ZI Z Z Z (zU Z Z Z Z) (oR Z (zc Z Z Z) (oA Z Z (eN (zR ?_)))))))))))))))))))
 have hE:=nB s5;first | subst r | cases hE
 exact ⟨rfl,_,(ZH rfl),bh,_,(bI.pick [] _ (by decide) rfl),rfl,rfl⟩
 intro br s6
 refine oF Z br (oF Z br (oR Z (zc Z (ZM br.out) Z) (oM Z Z (oN Z (oN Z (oR Z (zc Z Z Z) (oM Z Z (oN Z (oN Z (oR Z (zc Z Z Z) (oM Z Z (oN Z (ZI Z Z Z (zU Z Z Z Z) (ZI Z Z Z (zU Z Z Z Z) (oR Z (zc Z Z Z) (oM Z Z (oN Z (ZI Z Z Z (zU Z Z Z Z) (ZI Z Z Z (zU Z Z Z Z) (oR Z (zc Z Z Z) (oA Z Z (eN (zR ?_)))))))))))))))))))))))
 have hE:=nB s6;first | subst r | cases hE
 exact ⟨rfl,_,(ZH rfl),bh,_,(bI.pick [] _ (by decide) rfl),rfl,rfl⟩
 intro bq s7
 refine oF Z bq (oF Z bq (oR Z (zc Z (ZM bq.out) Z) (oM Z Z (oN Z (oN Z (oR Z (zc Z Z Z) (oM Z Z (oN Z (oN Z (oR Z (zc Z Z Z) (oM Z Z (oN Z (oN Z (oR Z (zc Z Z Z) (oM Z Z (oN Z (ZI Z Z Z (zU Z Z Z Z) (ZI Z Z Z (zU Z Z Z Z) (oR Z (zc Z Z Z) (oM Z Z (oN Z (ZI Z Z Z (zU Z Z Z Z) (ZI Z Z Z (zU Z Z Z Z) (oR Z (zc Z Z Z) (oA Z Z (eN (zR ?_)))))))))))))))))))))))))))
 have hE:=nB s7;first | subst r | cases hE
 exact ⟨rfl,_,(ZH rfl),bh,_,(bI.pick [] _ (by decide) rfl),rfl,rfl⟩
end Go.Proofs.YtkghaiefcjgfkaaGreat
