import Derived.Test.YtlnfbjphfoipaaaU4
import Derived.Test.YtlnfbjphfoipaaaU3
import Derived.Test.YtlnfbjphfoipaaaU5
import Derived.Test.YtlnfbjphfoipaaaU6
set_option linter.all false
open List renaming flatMap->hD,set->hJ,getElem_cons_succ->nA,getElem_cons_zero->nB,getElem_toArray->nD,length_set->nI,forall_mem_cons->nJ
open Option.some renaming inj->hH
open Int renaming toNat_natCast->nE
open Go.Value renaming bool->nH
open Bool renaming eq_false_iff->nK
namespace Go.Proofs.Ytlnfbjphfoipaaa
open Go.KL
def gEy:Sch:=.fx 3 (.fx 5 .nil .stop) .stop
def gEz:Sch:=.fx 14 (.fl 15 .nil) .stop
def gFa:Sch:=.fx 6 (.fx 7 (.fl 8 .nil) .stop) .stop
def gFb:Sch:=.fl 0 (.fx 1 (.fl 2 .nil) .stop)
set_option maxHeartbeats 4000000
theorem wDI (p0:List Int) (ao:Option Addr) (aq:Nat) (p1:List Int) (ap:Option Addr) (au:Nat) (w:World) (U:PHeap) (hS:St0 w U []) (a5:Sl U 1 ao aq p0.length (hD KL.encI p0)) (a6:Sl U 1 ap au p1.length (hD KL.encI p1)) {r:Bool} (hm:wBn p0 p1=some r):Gv Try.prog 56 [.slice ao p0.length aq,.slice ap p1.length au] w (wBs w [] U (fun U_ L_ v=>v=.bool r/\L_=[])):=by
 unfold wBn at hm
 refine Gv.of Try.func56 Z Try.ntmps56 Try.results56 Z (sR fL1 Z (oA Z Z (eN (zL (sR fL5 Z (oM Z Z (oR Z (zw Z Z zH) (oM Z Z (oR Z (zw Z Z zH) (oR Z (Zg Z Z Z) (eN ?_)))))))))))
 by_cases c1:(↑p0.length:Int)=(↑p1.length:Int)
 have ag:=hm;rw [if_pos c1] at ag;replace c1:=zN c1
 refine ZI (zt (fun h=>h c1.out)) (kN (zL (sR fL3 Z (oM Z Z (oR Z (zw Z Z zH) (oM Z Z (eN (zd ?_))))))))
 have q:=wCB ag
 obtain ⟨r5,aj⟩:=q
 have q:=wCA aj
 obtain ⟨am,a9⟩:=q
 replace am:=zN am
 refine yX (fun k4 _ σ_ w_=>∃ (U_:PHeap),σ_ 13=jV (↑k4:Int)/\σ_ 0=.slice ao p0.length aq/\σ_ 1=.slice ap p1.length au/\σ_ 12=jV (↑p0.length:Int)/\PHeap.Le U U_/\sW w U U_ [] w_) a9 ?_ ?_ ?_
 exact ⟨U,Z,Z,Z,Z,(zO _),hS⟩
 rintro k4 ⟨⟩ bu bw ax ak ⟨av,ai,az,aG,aH,an,aY⟩ aM a7
 try dsimp only at aM
 have ay:Hid ((↑k4:Int) < (↑p0.length:Int)):=zN (wAs ak)
 replace ak:=zN ak
 have ba:Hid (w64 ((↑k4:Int) + 1)=(↑(k4 + 1):Int)):=zN (by have h1:=am.out;have h2:=ay.out;rw [wAW] <;> omega)
 refine sR fL1 rfl (zY rfl rfl rfl rfl (fun _=>zi rfl ai aH) (eN (zL (cT Z ay (kN (zL (zd (sR fL2 rfl (zo rfl rfl rfl rfl rfl ai (yF rfl rfl rfl rfl rfl rfl (eN (zL (ZG ZH [3,3,3,1,3,3,3,1,3] fL9 (by kernel_rfl) ?_)))))))))))))
 have ae:=aY.drew
 generalize hw_W25:({ ax with drawn:=ax.drawn + 1 }:World)=bj at ae ⊢
 refine oM Z az (oM Z Z (bnK aM fun bh aI bb=>?_))
 have aS:=a5.le an
 have q:=aS.el (fun _=>rfl) (wAj aI)
 obtain ⟨bm,br,aU,aW⟩:=q
 refine oR Z (Zh Z Z aU Z zH zC (wCv aI)) (oL Z (ae.ldC (f:=0) aW (v:=jV bh) Z Z zJ Z) (oM Z aG (oM Z Z (bnK bb fun bi aJ bc=>?_))))
 have aT:=a6.le an
 have q:=aT.el (fun _=>rfl) (wAj aJ)
 obtain ⟨bn,bs,aV,aX⟩:=q
 refine oR Z (Zh Z Z aV Z zH zC (wCv aJ)) (oL Z (ae.ldC (f:=0) aX (v:=jV bi) Z Z zJ Z) (oR Z (Zg Z Z Z) (eN (ifc bc ?_ ?_))))
 intro ah bd
 refine ZI (zt (fun h=>h ah.out)) (Zp (ZA (zI (rR fL2 Z (oR Z (ZM (zb Z ai Z) (congrArg (jV) ba.out)) (oM Z Z (zc ?_)))))))
 have q:=hH bd
 obtain rfl:=q
 exact zI ⟨Z,_,Z,⟨av,Z,az,aG,aH,an,ae⟩⟩
 intro ah be
 refine cT Z ah (sR fL1 Z (oA Z Z (eN (zU (zx (za ?_))))))
 have q:=wAh be
 obtain ⟨bg,bf,aP⟩:=q
 have q:=wBw ag aj (a7 bg aP)
 obtain rfl:=q
 refine za (zx (za ?_))
 have hE:=hH bf;first | subst r | cases hE
 exact ⟨Z,_,(ZV Z),av,_,ae,Z,Z⟩
 rintro ⟨⟩ bv bk ⟨aN,aR,bo,bp,aQ,bq,aZ⟩ a8
 have aK:=wCx ag aj a8
 try dsimp only at aK
 have aO:Hid (¬ ((↑(((↑p0.length:Int):Int) - 0).toNat:Int) < (↑p0.length:Int))):=zN (wAc)
 refine sR fL1 Z (oR Z (zi Z aR aQ) (eN (zL (cF Z aO (Zc (zm (zm (ZY (zI (sR fL1 Z (oA Z Z (eN (zU ?_)))))))))))))
 have hE:=hH aK;first | subst r | cases hE
 exact ⟨Z,_,(ZV Z),aN,_,aZ,Z,Z⟩
 have aL:=hm;rw [if_neg c1] at aL;replace c1:=zN c1
 refine cT Z c1 (sR fL1 Z (oA Z Z (eN (zU (za ?_)))))
 have hE:=hH aL;first | subst r | cases hE
 exact ⟨Z,_,(ZV Z),U,_,hS,Z,Z⟩
theorem wEj  (w:World) (U:PHeap) (hS:St0 w U [])  {r:Bool} (hm:wBx =some r):Gv Try.prog 19 [] w (wBs w [] U (fun U_ L_ v=>v=.bool r/\L_=[])):=by
 unfold wBx at hm
 refine Gv.of Try.func19 Z Try.ntmps19 Try.results19 Z (sR fL1 Z (oA Z Z (eN (sR (.fx 0 (.fx 1 (.fx 2 (wJC gFa) .stop) .stop) .stop) Z (bnK hm fun x1 h2 qX=>zE 0 Z Z Z Z (zD Z Z Try.call52 zM Z) hS (fun hs=>wBN w U hs h2) (.inr Z) ?_)))))
 rintro U4 L5 v6 W7 uS qF ⟨cP,fE,cQ,fG,cR,fH,cS,fM,rfl,rfl⟩
 let B0:Res:=.row cS fM 39 4 (hD wAA x1.Readings)
 let B1:Res:=.row cR fH 43 3 (hD wAB x1.Clocks)
 let B2:Res:=.row cQ fG 41 2 (hD wAC x1.Splits)
 let B3:Res:=.row cP fE 3 1 (hD KL.encI x1.Starts)
 have mU:sW w U U4 [B3,B2,B1,B0] W7:=qF
 refine bnK qX fun tA jY qU=>zE 0 Z Z Z Z (zD Z Z yj (zB Z (zB Z zM)) Z) mU (fun hs=>wAg 0 2 W7 U4 hs jY) (.inr Z) ?_
 rintro iw tP vd bk ux oe ⟨rfl,rfl⟩
 have oh:sW w U iw [B3,B2,B1,B0] bk:=oe
 have q:=oh.freezeR (k:=0) (n:=x1.Starts.length) rfl (wAE (f:=KL.encI) (sz:=1) (fun _=>rfl) x1.Starts) (by decide)
 obtain ⟨iC,uz,ss,om⟩:=q
 have ou:sW w U iC [B2,B1,B0] bk:=om
 have q:=ou.freezeR (k:=0) (n:=x1.Splits.length) rfl (wAE (f:=wAC) (sz:=2) (fun _=>rfl) x1.Splits) (by decide)
 obtain ⟨iH,tj,sB,oE⟩:=q
 have oH:sW w U iH [B1,B0] bk:=oE
 have q:=oH.freezeR (k:=0) (n:=x1.Clocks.length) rfl (wAE (f:=wAB) (sz:=3) (fun _=>rfl) x1.Clocks) (by decide)
 obtain ⟨iK,gU,sG,oW⟩:=q
 have oY:sW w U iK [B0] bk:=oW
 have q:=oY.freezeR (k:=0) (n:=x1.Readings.length) rfl (wAE (f:=wAA) (sz:=4) (fun _=>rfl) x1.Readings) (by decide)
 obtain ⟨eB,cI,sI,o8⟩:=q
 have pd:sW w U eB [] bk:=o8
 have lw:=ss.le tj
 have lx:=lw.le gU
 have lA:=lx.le cI
 have lB:=sB.le gU
 have lC:=lB.le cI
 have lD:=sG.le cI
 have q:=bnd qU
 obtain ⟨⟨bH,cO⟩,lF,gJ⟩:=q
 try dsimp only at gJ
 refine zE 0 Z Z Z Z (zD Z Z Try.call15 (zB Z (zB Z zM)) Z) pd (fun hs=>wCH x1 cP fE cQ fG cR fH cS fM tA bk eB hs lA lC lD sI lF) (.inr Z) ?_
 rintro cx t5 vp jg uL pM ⟨rfl,rfl⟩
 have pR:sW w U cx [] jg:=pM
 refine oM Z Z (oR Z (zT Z Z (v:=.agg #[jV bH.Lo,jV bH.Hi]) Z) (oR Z (zT Z Z (v:=jV cO) Z) ?_))
 let B4:List Value:=[jV 0,jV 0]
 refine zR (cs:=B4) Z Z Z Z Z ZJ Z pR ?_
 intro ui ab pZ
 let B5:List Value:=[jV bH.Lo,jV bH.Hi]
 refine zV (j:=0) (vs:=B5) Z Z Z Z pZ Z Z Z Z zf (zA Z) Z Z Z ?_
 intro ft p8
 have qd:sW w U cx [.blk ab 41 B5] ft:=p8
 refine oA Z Z (eN (sR (.fx 0 (.fx 1 (.fx 2 (wJC gFa) .stop) .stop) .stop) Z (bnK gJ fun aG mb rL=>zE 0 Z Z Z Z (zD Z Z Try.call52 zM Z) qd (fun hs=>wBN ft cx hs mb) (.inr Z) ?_)))
 rintro eU uc vw fw uU qx ⟨dH,gu,dI,gv,dJ,gw,dK,gx,rfl,rfl⟩
 let B6:Res:=.row dK gx 39 4 (hD wAA aG.Readings)
 let B7:Res:=.row dJ gw 43 3 (hD wAB aG.Clocks)
 let B8:Res:=.row dI gv 41 2 (hD wAC aG.Splits)
 let B9:Res:=.row dH gu 3 1 (hD KL.encI aG.Starts)
 have qO:sW w U eU [B9,B8,B7,B6,.blk ab 41 B5] fw:=qx
 refine bnK rL fun tG jE qP=>zE 0 Z Z Z Z (zD Z Z yj (zB Z (zB Z zM)) Z) qO (fun hs=>wAg 0 1 fw eU hs jE) (.inr Z) ?_
 rintro im tH u3 bi uk mp ⟨rfl,rfl⟩
 have mq:sW w U im [B9,B8,B7,B6,.blk ab 41 B5] bi:=mp
 have q:=mq.freezeR (k:=0) (n:=aG.Starts.length) rfl (wAE (f:=KL.encI) (sz:=1) (fun _=>rfl) aG.Starts) (by decide)
 obtain ⟨io,ul,sa,mr⟩:=q
 have ms:sW w U io [B8,B7,B6,.blk ab 41 B5] bi:=mr
 have q:=ms.freezeR (k:=0) (n:=aG.Splits.length) rfl (wAE (f:=wAC) (sz:=2) (fun _=>rfl) aG.Splits) (by decide)
 obtain ⟨ip,tc,sb,mu⟩:=q
 have mw:sW w U ip [B7,B6,.blk ab 41 B5] bi:=mu
 have q:=mw.freezeR (k:=0) (n:=aG.Clocks.length) rfl (wAE (f:=wAB) (sz:=3) (fun _=>rfl) aG.Clocks) (by decide)
 obtain ⟨iq,gP,sc,mx⟩:=q
 have my:sW w U iq [B6,.blk ab 41 B5] bi:=mx
 have q:=my.freezeR (k:=0) (n:=aG.Readings.length) rfl (wAE (f:=wAA) (sz:=4) (fun _=>rfl) aG.Readings) (by decide)
 obtain ⟨eg,cC,sd,mz⟩:=q
 have mA:sW w U eg [.blk ab 41 B5] bi:=mz
 have jF:=sa.le tc
 have jG:=jF.le gP
 have jH:=jG.le cC
 have jI:=sb.le gP
 have jJ:=jI.le cC
 have jK:=sc.le cC
 have q:=bnd qP
 obtain ⟨⟨bD,g8⟩,jL,gC⟩:=q
 try dsimp only at gC
 refine zE 0 Z Z Z Z (zD Z Z Try.call15 (zB Z (zB Z zM)) Z) mA (fun hs=>wCH aG dH gu dI gv dJ gw dK gx tG bi eg hs jH jJ jK sd jL) (.inr Z) ?_
 rintro ct tI u4 i9 um mB ⟨rfl,rfl⟩
 have mC:sW w U ct [.blk ab 41 B5] i9:=mB
 refine oM Z Z (oR Z (zT Z Z (v:=.agg #[jV bD.Lo,jV bD.Hi]) Z) (oR Z (zT Z Z (v:=jV g8) Z) (zR (cs:=B4) Z Z Z Z Z ZJ Z mC ?_)))
 intro ug ae mD
 let ac:List Value:=[jV bD.Lo,jV bD.Hi]
 refine zV (j:=0) (vs:=ac) Z Z Z Z mD Z Z Z Z zf (zA Z) Z Z Z ?_
 intro eZ mE
 have mF:sW w U ct [.blk ae 41 ac,.blk ab 41 B5] eZ:=mE
 refine oA Z Z (eN (sR (.fx 0 (.fx 1 (.fx 2 (.fx 3 (wMc (.fx 7 (.fx 8 (.fl 9 .nil) .stop) .stop)) .stop) .stop) .stop) .stop) Z (bnK gC fun ap jM qQ=>zE 0 Z Z Z Z (zD Z Z Try.call52 zM Z) mF (fun hs=>wBN eZ ct hs jM) (.inr Z) ?_)))
 rintro eh tJ u5 e0 un mG ⟨cU,fI,cV,fJ,cW,fK,cX,fL,rfl,rfl⟩
 let be:Res:=.row cX fL 39 4 (hD wAA ap.Readings)
 let bw:Res:=.row cW fK 43 3 (hD wAB ap.Clocks)
 let bL:Res:=.row cV fJ 41 2 (hD wAC ap.Splits)
 let cf:Res:=.row cU fI 3 1 (hD KL.encI ap.Starts)
 have mH:sW w U eh [cf,bL,bw,be,.blk ae 41 ac,.blk ab 41 B5] e0:=mG
 refine bnK qQ fun tx jN qR=>zE 0 Z Z Z Z (zD Z Z yj (zB Z (zB Z zM)) Z) mH (fun hs=>wAg 0 2 e0 eh hs jN) (.inr Z) ?_
 rintro ej tK u6 fb uo mI ⟨rfl,rfl⟩
 have mJ:sW w U ej [cf,bL,bw,be,.blk ae 41 ac,.blk ab 41 B5] fb:=mI
 refine bnK qR fun tz jO qS=>zE 0 Z Z Z Z (zD Z Z yj (zB Z (zB Z zM)) Z) mJ (fun hs=>wAg 1 2 fb ej hs jO) (.inr Z) ?_
 rintro ir tL u7 bj up mK ⟨rfl,rfl⟩
 have mL:sW w U ir [cf,bL,bw,be,.blk ae 41 ac,.blk ab 41 B5] bj:=mK
 have q:=mL.freezeR (k:=0) (n:=ap.Starts.length) rfl (wAE (f:=KL.encI) (sz:=1) (fun _=>rfl) ap.Starts) (by decide)
 obtain ⟨it,uq,sf,mM⟩:=q
 have mN:sW w U it [bL,bw,be,.blk ae 41 ac,.blk ab 41 B5] bj:=mM
 have q:=mN.freezeR (k:=0) (n:=ap.Splits.length) rfl (wAE (f:=wAC) (sz:=2) (fun _=>rfl) ap.Splits) (by decide)
 obtain ⟨iu,te,sg,mO⟩:=q
 have mP:sW w U iu [bw,be,.blk ae 41 ac,.blk ab 41 B5] bj:=mO
 have q:=mP.freezeR (k:=0) (n:=ap.Clocks.length) rfl (wAE (f:=wAB) (sz:=3) (fun _=>rfl) ap.Clocks) (by decide)
 obtain ⟨iv,gQ,sj,mQ⟩:=q
 have mR:sW w U iv [be,.blk ae 41 ac,.blk ab 41 B5] bj:=mQ
 have q:=mR.freezeR (k:=0) (n:=ap.Readings.length) rfl (wAE (f:=wAA) (sz:=4) (fun _=>rfl) ap.Readings) (by decide)
 obtain ⟨ek,cD,sk,mS⟩:=q
 have mT:sW w U ek [.blk ae 41 ac,.blk ab 41 B5] bj:=mS
 have jQ:=sf.le te
 have jR:=jQ.le gQ
 have jS:=jR.le cD
 have jT:=sg.le gQ
 have jU:=jT.le cD
 have jW:=sj.le cD
 have q:=bnd qS
 obtain ⟨⟨bE,g9⟩,jX,gD⟩:=q
 try dsimp only at gD
 refine zE 0 Z Z Z Z (zD Z Z Try.call25 (zB Z (zB Z (zB Z zM))) Z) mT (fun hs=>wIn ap cU fI cV fJ cW fK cX fL tx tz bj ek hs jS jU jW sk jX) (.inr Z) ?_
 rintro cu tM u9 ja ur mV ⟨rfl,rfl⟩
 have mW:sW w U cu [.blk ae 41 ac,.blk ab 41 B5] ja:=mV
 refine oM Z Z (oR Z (zT Z Z (v:=.agg #[jV bE.Lo,jV bE.Hi]) Z) (oR Z (zT Z Z (v:=jV g9) Z) (zR (cs:=B4) Z Z Z Z Z ZJ Z mW ?_)))
 intro uh ag mX
 let af:List Value:=[jV bE.Lo,jV bE.Hi]
 refine zV (j:=0) (vs:=af) Z Z Z Z mX Z Z Z Z zf (zA Z) Z Z Z ?_
 intro fc mY
 have mZ:sW w U cu [.blk ag 41 af,.blk ae 41 ac,.blk ab 41 B5] fc:=mY
 refine oA Z Z (eN (sR (.fx 0 (.fx 1 (.fx 2 (.fl 3 (.fl 4 (.fx 5 (.fx 6 (wKw (.nil)) .stop) .stop))) .stop) .stop) .stop) Z (bnK gD fun aq jZ qT=>zE 0 Z Z Z Z (zD Z Z Try.call52 zM Z) mZ (fun hs=>wBN fc cu hs jZ) (.inr Z) ?_)))
 rintro en tN va fd ut m3 ⟨cY,fN,cZ,fO,c6,fP,da,fQ,rfl,rfl⟩
 let aU:Res:=.row da fQ 39 4 (hD wAA aq.Readings)
 let bf:Res:=.row c6 fP 43 3 (hD wAB aq.Clocks)
 let bx:Res:=.row cZ fO 41 2 (hD wAC aq.Splits)
 let bM:Res:=.row cY fN 3 1 (hD KL.encI aq.Starts)
 have m4:sW w U en [bM,bx,bf,aU,.blk ag 41 af,.blk ae 41 ac,.blk ab 41 B5] fd:=m3
 refine bnK qT fun tB j0 qV=>zE 0 Z Z Z Z (zD Z Z yj (zB Z (zB Z zM)) Z) m4 (fun hs=>wAg 0 2 fd en hs j0) (.inr Z) ?_
 rintro eo tO vb ff uu m5 ⟨rfl,rfl⟩
 have m6:sW w U eo [bM,bx,bf,aU,.blk ag 41 af,.blk ae 41 ac,.blk ab 41 B5] ff:=m5
 refine bnK qV fun tC j1 qW=>zE 0 Z Z Z Z (zD Z Z yj (zB Z (zB Z zM)) Z) m6 (fun hs=>wAg 1 2 ff eo hs j1) (.inr Z) ?_
 rintro ep tQ vc jb uv m7 ⟨rfl,rfl⟩
 have m8:sW w U ep [bM,bx,bf,aU,.blk ag 41 af,.blk ae 41 ac,.blk ab 41 B5] jb:=m7
 let bg:List Value:=[jV 0,jV 0,jV 0,.bool false]
 let dL:List Value:=[jV 3,jV 0,jV 0,.bool false]
 refine oR Z (zl (pv:=[(0,jV 3)]) (z:=bg) (cs:=dL) Z (wAH Z wAP) Zz wDS Z Z) ?_
 let dM:List Value:=[jV 3,jV 0,jV 2,.bool true]
 refine oR Z (zl (pv:=[(0,jV 3),(2,jV 2),(3,.bool true)]) (z:=bg) (cs:=dM) Z (wAH Z (wAH Z (wAH Z wAP))) Zz wDS Z Z) (zq (pv:=[(0,.agg dL.toArray),(1,.agg dM.toArray)]) (zs:=[jV 0,jV 0,jV 0,.bool false,jV 0,jV 0,jV 0,.bool false]) (cs:=[jV 3,jV 0,jV 0,.bool false,jV 3,jV 0,jV 2,.bool true]) Z Z Z Z Z (wAH Z (wAH Z wAP)) yN Zf Zz Z Z Z Z Z m8 ?_)
 intro aX fy m9
 let bz:Res:=.row (some ⟨fy,0,none⟩) 2 78 4 (hD wBV [(⟨3,0,0,false⟩:wAJ),(⟨3,0,2,true⟩:wAJ)])
 have n3:sW w U ep [bz,bM,bx,bf,aU,.blk ag 41 af,.blk ae 41 ac,.blk ab 41 B5] aX:=m9
 have q:=n3.freezeR (k:=1) (n:=aq.Starts.length) rfl (wAE (f:=KL.encI) (sz:=1) (fun _=>rfl) aq.Starts) (by decide)
 obtain ⟨iy,uw,sm,n4⟩:=q
 have n5:sW w U iy [bz,bx,bf,aU,.blk ag 41 af,.blk ae 41 ac,.blk ab 41 B5] aX:=n4
 have q:=n5.freezeR (k:=1) (n:=aq.Splits.length) rfl (wAE (f:=wAC) (sz:=2) (fun _=>rfl) aq.Splits) (by decide)
 obtain ⟨iz,tg,sn,n6⟩:=q
 have n7:sW w U iz [bz,bf,aU,.blk ag 41 af,.blk ae 41 ac,.blk ab 41 B5] aX:=n6
 have q:=n7.freezeR (k:=1) (n:=aq.Clocks.length) rfl (wAE (f:=wAB) (sz:=3) (fun _=>rfl) aq.Clocks) (by decide)
 obtain ⟨iA,gR,so,n8⟩:=q
 have n9:sW w U iA [bz,aU,.blk ag 41 af,.blk ae 41 ac,.blk ab 41 B5] aX:=n8
 have q:=n9.freezeR (k:=1) (n:=aq.Readings.length) rfl (wAE (f:=wAA) (sz:=4) (fun _=>rfl) aq.Readings) (by decide)
 obtain ⟨iB,cE,sq,oa⟩:=q
 have oc:sW w U iB [bz,.blk ag 41 af,.blk ae 41 ac,.blk ab 41 B5] aX:=oa
 have q:=oc.freezeR (k:=0) (n:=[(⟨3,0,0,false⟩:wAJ),(⟨3,0,2,true⟩:wAJ)].length) rfl (wAE (f:=wBV) (sz:=4) (fun _=>rfl) [(⟨3,0,0,false⟩:wAJ),(⟨3,0,2,true⟩:wAJ)]) (by decide)
 obtain ⟨er,ca,sr,od⟩:=q
 have og:sW w U er [.blk ag 41 af,.blk ae 41 ac,.blk ab 41 B5] aX:=od
 have j2:=sm.le tg
 have j3:=j2.le gR
 have j4:=j3.le cE
 have j5:=j4.le ca
 have j6:=sn.le gR
 have j7:=j6.le cE
 have j8:=j7.le ca
 have j9:=so.le cE
 have k3:=j9.le ca
 have k5:=sq.le ca
 have q:=bnd qW
 obtain ⟨⟨ib,ic⟩,k6,gE⟩:=q
 try dsimp only at gE
 refine zE 0 Z Z Z Z (zD Z Z Try.call41 (zB Z (zB Z (zB Z (zB Z zM)))) Z) og (fun hs=>wHB aq cY fN cZ fO c6 fP da fQ tB tC [(⟨3,0,0,false⟩:wAJ),(⟨3,0,2,true⟩:wAJ)] (some ⟨fy,0,none⟩) 2 aX er hs j5 j8 k3 k5 sr k6) (.inr Z) ?_
 rintro eu tR ve fg uy oi ⟨rfl,rfl⟩
 have oj:sW w U eu [.blk ag 41 af,.blk ae 41 ac,.blk ab 41 B5] fg:=oi
 refine oM Z Z (oR Z (zT Z Z (v:=jV ib) Z) (oR Z (zT Z Z (v:=jV ic) Z) (oA Z Z (oA Z Z (eN (zL (CK.fresh fun aT aP=>?_)))))))
 have jo:aT 1=.pointer (some ⟨ab,0,none⟩):=(aP 1).trans rfl
 have jp:aT 2=jV cO:=(aP 2).trans rfl
 have jq:aT 3=.pointer (some ⟨ae,0,none⟩):=(aP 3).trans rfl
 have jr:aT 4=jV g8:=(aP 4).trans rfl
 have jt:aT 5=.pointer (some ⟨ag,0,none⟩):=(aP 5).trans rfl
 have ju:aT 6=jV g9:=(aP 6).trans rfl
 have jv:aT 7=jV ib:=(aP 7).trans rfl
 have jw:aT 8=jV ic:=(aP 8).trans rfl
 clear aP
 refine rR (.fx 0 (.fx 1 (wHJ (.nil)) .stop) .stop) Z (bnK gE fun au k7 qY=>zE 0 Z Z Z Z (zD Z Z Try.call52 zM Z) oj (fun hs=>wBN fg eu hs k7) (.inr Z) ?_)
 rintro iD tS vf bm uA ol ⟨db,fR,dd,fS,de,fT,df,fU,rfl,rfl⟩
 let bN:Res:=.row df fU 39 4 (hD wAA au.Readings)
 let ci:Res:=.row de fT 43 3 (hD wAB au.Clocks)
 let dN:Res:=.row dd fS 41 2 (hD wAC au.Splits)
 have oo:sW w U iD [.row db fR 3 1 (hD KL.encI au.Starts),dN,ci,bN,.blk ag 41 af,.blk ae 41 ac,.blk ab 41 B5] bm:=ol
 have q:=oo.freezeR (k:=0) (n:=au.Starts.length) rfl (wAE (f:=KL.encI) (sz:=1) (fun _=>rfl) au.Starts) (by decide)
 obtain ⟨iE,uB,su,oq⟩:=q
 have ot:sW w U iE [dN,ci,bN,.blk ag 41 af,.blk ae 41 ac,.blk ab 41 B5] bm:=oq
 have q:=ot.freezeR (k:=0) (n:=au.Splits.length) rfl (wAE (f:=wAC) (sz:=2) (fun _=>rfl) au.Splits) (by decide)
 obtain ⟨iF,th,sv,ov⟩:=q
 have ow:sW w U iF [ci,bN,.blk ag 41 af,.blk ae 41 ac,.blk ab 41 B5] bm:=ov
 have q:=ow.freezeR (k:=0) (n:=au.Clocks.length) rfl (wAE (f:=wAB) (sz:=3) (fun _=>rfl) au.Clocks) (by decide)
 obtain ⟨iG,gS,sw,ox⟩:=q
 have oy:sW w U iG [bN,.blk ag 41 af,.blk ae 41 ac,.blk ab 41 B5] bm:=ox
 have q:=oy.freezeR (k:=0) (n:=au.Readings.length) rfl (wAE (f:=wAA) (sz:=4) (fun _=>rfl) au.Readings) (by decide)
 obtain ⟨ew,cG,sA,oz⟩:=q
 have oB:sW w U ew [.blk ag 41 af,.blk ae 41 ac,.blk ab 41 B5] bm:=oz
 have k8:=su.le th
 have k9:=k8.le gS
 have lb:=k9.le cG
 have lc:=sv.le gS
 have lf:=lc.le cG
 have lg:=sw.le cG
 have q:=bnd qY
 obtain ⟨⟨bF,tD⟩,lh,gF⟩:=q
 try dsimp only at gF
 refine zE 0 Z Z Z Z (zD Z Z Try.call17 (zB Z (zB Z zM)) Z) oB (fun hs=>wDc au db fR dd fS de fT df fU 2 bm ew hs lb lf lg sA lh) (.inr Z) ?_
 rintro ey tT vg fh uC oC ⟨cc,cz,rfl,rfl⟩
 let aQ:Res:=.row cc cz 41 2 (hD wAC bF)
 have oD:sW w U ey [aQ,.blk ag 41 af,.blk ae 41 ac,.blk ab 41 B5] fh:=oC
 refine oM Z Z (oR Z (zT Z Z (v:=.slice cc bF.length cz) Z) (oR Z (zT Z Z (v:=jV tD) Z) (oA Z Z (oA Z Z (eN (sR (.fx 0 (.fx 1 (wHJ (.nil)) .stop) .stop) Z (bnK gF fun av li qZ=>zE 0 Z Z Z Z (zD Z Z Try.call52 zM Z) oD (fun hs=>wBN fh ey hs li) (.inr Z) ?_)))))))
 rintro iI tU vh bn uD oG ⟨dg,fV,dh,fW,di,fY,dk,fZ,rfl,rfl⟩
 let bO:Res:=.row dk fZ 39 4 (hD wAA av.Readings)
 let cm:Res:=.row di fY 43 3 (hD wAB av.Clocks)
 let dP:Res:=.row dh fW 41 2 (hD wAC av.Splits)
 have oI:sW w U iI [.row dg fV 3 1 (hD KL.encI av.Starts),dP,cm,bO,aQ,.blk ag 41 af,.blk ae 41 ac,.blk ab 41 B5] bn:=oG
 have q:=oI.freezeR (k:=0) (n:=av.Starts.length) rfl (wAE (f:=KL.encI) (sz:=1) (fun _=>rfl) av.Starts) (by decide)
 obtain ⟨iJ,uE,sC,oJ⟩:=q
 have oK:sW w U iJ [dP,cm,bO,aQ,.blk ag 41 af,.blk ae 41 ac,.blk ab 41 B5] bn:=oJ
 have q:=oK.freezeR (k:=0) (n:=av.Splits.length) rfl (wAE (f:=wAC) (sz:=2) (fun _=>rfl) av.Splits) (by decide)
 obtain ⟨iL,tk,sD,oO⟩:=q
 have oP:sW w U iL [cm,bO,aQ,.blk ag 41 af,.blk ae 41 ac,.blk ab 41 B5] bn:=oO
 have q:=oP.freezeR (k:=0) (n:=av.Clocks.length) rfl (wAE (f:=wAB) (sz:=3) (fun _=>rfl) av.Clocks) (by decide)
 obtain ⟨iM,gT,sE,oQ⟩:=q
 have oS:sW w U iM [bO,aQ,.blk ag 41 af,.blk ae 41 ac,.blk ab 41 B5] bn:=oQ
 have q:=oS.freezeR (k:=0) (n:=av.Readings.length) rfl (wAE (f:=wAA) (sz:=4) (fun _=>rfl) av.Readings) (by decide)
 obtain ⟨eA,cH,sF,oU⟩:=q
 have oV:sW w U eA [aQ,.blk ag 41 af,.blk ae 41 ac,.blk ab 41 B5] bn:=oU
 have lj:=sC.le tk
 have lk:=lj.le gT
 have ll:=lk.le cH
 have lm:=sD.le gT
 have ln:=lm.le cH
 have lp:=sE.le cH
 have q:=bnd qZ
 obtain ⟨⟨bG,tE⟩,lq,gG⟩:=q
 try dsimp only at gG
 refine zE 0 Z Z Z Z (zD Z Z Try.call53 (zB Z zM) Z) oV (fun hs=>wGa av dg fV dh fW di fY dk fZ bn eA hs ll ln lp sF lq) (.inr Z) ?_
 rintro am tV vi jc uF oX ⟨cd,cA,rfl,rfl⟩
 let aV:Res:=.row cd cA 45 2 (hD wAU bG)
 have ak:sW w U am [aV,aQ,.blk ag 41 af,.blk ae 41 ac,.blk ab 41 B5] jc:=oX
 refine oM Z Z (oR Z (zT Z Z (v:=.slice cd bG.length cA) Z) (oR Z (zT Z Z (v:=jV tE) Z) (oA Z Z (oA Z Z (eN (zL (bnK gG fun jl gO q5=>yP (fun σ_ w_=>∃ (U_:PHeap),σ_ 110=.bool jl/\PHeap.Le am U_/\sW w U U_ [.blk ag 41 af,.blk ae 41 ac,.blk ab 41 B5] w_) ?_ ?_)))))))
 refine rR (wMa (.fx 45 (.fx 46 (wLf (.fx 51 (.fx 52 (.fx 53 (.fl 54 (.fl 55 .nil)) .stop) .stop) .stop)) .stop) .stop)) Z (oM Z jp (oR Z (Zg Z Z Z) (oM Z Z ?_)))
 by_cases aI:cO=0
 have gH:=gO;rw [if_pos aI] at gH;replace aI:=zN aI
 refine zo Z Z Z (zP Z Z (zt (fun h=>h aI.out))) Z jr (zY Z Z Z (zP Z Z (zt (fun h=>h aI.out))) (fun _=>Zg Z Z Z) (oR Z (ze Z (zt (fun h=>h aI.out)) Z) (oM Z Z (ifc gH ?_ ?_))))
 intro aZ q6
 refine zo Z Z Z (zP Z Z (zt (fun h=>h aZ.out))) Z ju (zY Z Z Z (zP Z Z (zt (fun h=>h aZ.out))) (fun _=>Zg Z Z Z) (oR Z (ze Z (zt (fun h=>h aZ.out)) Z) (oM Z Z (ifc q6 ?_ ?_))))
 intro a5 q7
 refine zo Z Z Z (zP Z Z (zt (fun h=>h a5.out))) Z jw (zY Z Z Z (zP Z Z (zt (fun h=>h a5.out))) (fun _=>Zg Z Z Z) (oR Z (ze Z (zt (fun h=>h a5.out)) Z) (oM Z Z (ifc q7 ?_ ?_))))
 intro a6 q8
 refine zo Z Z Z (zP Z Z (zt (fun h=>h a6.out))) Z Z (zY Z Z Z (zP Z Z (zt (fun h=>h a6.out))) (fun _=>Zg Z Z Z) (oR Z (ze Z (zt (fun h=>h a6.out)) Z) (oM Z Z (ifc q8 ?_ ?_))))
 intro a7 q9
 refine zo Z Z Z (zP Z Z (zt (fun h=>h a7.out))) Z Z (zY Z Z Z (zP Z Z (zt (fun h=>h a7.out))) (fun _=>Zg Z Z Z) (oR Z (ze Z (zt (fun h=>h a7.out)) Z) (oM Z Z (ifc q9 ?_ ?_))))
 intro aK re
 refine ZF Z Z Z (zP Z Z (zt (fun h=>h aK.out))) (ak.ldBA (j:=4) Z Z jo Zi zf (vs:=B5) Z Z) Z (zY Z Z Z (zP Z Z (zt (fun h=>h aK.out))) (fun _=>zl (pv:=[(0,jV 2244),(1,jV 2256)]) (z:=B4) (cs:=[jV 2244,jV 2256]) Z (wAH Z (wAH Z wAP)) ZJ wBy Z Z) (zY Z Z Z (zP Z Z (zt (fun h=>h aK.out))) (fun _=>ZM (yi (enc:=wAC) (a:=bH) (b:=(⟨2244,2256⟩:wAG)) Z Z Z wGz wGy) (congrArg nH (decide_not).symm)) (oR Z (ze Z (zt (fun h=>h aK.out)) Z) (oM Z Z (ifc re ?_ ?_)))))
 intro aL rf
 refine ZF Z Z Z (zP Z Z (zt (fun h=>h aL.out))) (ak.ldBA (j:=3) Z Z jq Zi zf (vs:=ac) Z Z) Z (zY Z Z Z (zP Z Z (zt (fun h=>h aL.out))) (fun _=>zl (pv:=[(0,jV 1000),(1,jV 1200)]) (z:=B4) (cs:=[jV 1000,jV 1200]) Z (wAH Z (wAH Z wAP)) ZJ wBy Z Z) (zY Z Z Z (zP Z Z (zt (fun h=>h aL.out))) (fun _=>ZM (yi (enc:=wAC) (a:=bD) (b:=(⟨1000,1200⟩:wAG)) Z Z Z wGz wGy) (congrArg nH (decide_not).symm)) (oR Z (ze Z (zt (fun h=>h aL.out)) Z) (oM Z Z (ifc rf ?_ ?_)))))
 intro aM rh
 refine ZF Z Z Z (zP Z Z (zt (fun h=>h aM.out))) (ak.ldBA (j:=2) Z Z jt Zi zf (vs:=af) Z Z) Z (zY Z Z Z (zP Z Z (zt (fun h=>h aM.out))) (fun _=>zl (pv:=[(0,jV 247),(1,jV 251)]) (z:=B4) (cs:=[jV 247,jV 251]) Z (wAH Z (wAH Z wAP)) ZJ wBy Z Z) (zY Z Z Z (zP Z Z (zt (fun h=>h aM.out))) (fun _=>ZM (yi (enc:=wAC) (a:=bE) (b:=(⟨247,251⟩:wAG)) Z Z Z wGz wGy) (congrArg nH (decide_not).symm)) (oR Z (ze Z (zt (fun h=>h aM.out)) Z) (oM Z Z (ifc rh ?_ ?_)))))
 intro a8 ri
 refine zo Z Z Z (zP Z Z (zt (fun h=>h a8.out))) Z jv (zY Z Z Z (zP Z Z (zt (fun h=>h a8.out))) (fun _=>Zg Z Z Z) (oR Z (ze Z (zt (fun h=>h a8.out)) Z) (oM Z Z (ifc ri ?_ ?_))))
 intro aj rj
 refine zo Z Z Z (zP Z Z (zt (fun h=>h aj.out))) Z Z (zY Z Z Z (zP Z Z (zt (fun h=>h aj.out))) (fun _=>zl (pv:=[(0,jV 1),(1,jV 1)]) (z:=B4) (cs:=[jV 1,jV 1]) Z (wAH Z (wAH Z wAP)) ZJ wBy Z Z) (zY Z Z Z (zP Z Z (zt (fun h=>h aj.out))) (fun _=>zl (pv:=[(0,jV 2),(1,jV 2)]) (z:=B4) (cs:=[jV 2,jV 2]) Z (wAH Z (wAH Z wAP)) ZJ wBy Z Z) (zq (pv:=[(0,.agg #[jV 1,jV 1]),(1,.agg #[jV 2,jV 2])]) (zs:=[jV 0,jV 0,jV 0,jV 0]) (cs:=[jV 1,jV 1,jV 2,jV 2]) Z Z Z (zP Z Z (zt (fun h=>h aj.out))) Z (wAH Z (wAH Z wAP)) ZK zf ZJ Z Z Z Z Z ak ?_)))
 intro bU fz oZ
 let dQ:Res:=.row (some ⟨fz,0,none⟩) 2 41 2 (hD wAC [(⟨1,1⟩:wAG),(⟨2,2⟩:wAG)])
 have o0:sW w U am [dQ,aV,aQ,.blk ag 41 af,.blk ae 41 ac,.blk ab 41 B5] bU:=oZ
 have q:=o0.freezeR (k:=2) (n:=bF.length) rfl (wAE (f:=wAC) (sz:=2) (fun _=>rfl) bF) (by decide)
 obtain ⟨iN,gV,sH,o3⟩:=q
 have o5:sW w U iN [dQ,aV,.blk ag 41 af,.blk ae 41 ac,.blk ab 41 B5] bU:=o3
 have q:=o5.freezeR (k:=0) (n:=[(⟨1,1⟩:wAG),(⟨2,2⟩:wAG)].length) rfl (wAE (f:=wAC) (sz:=2) (fun _=>rfl) [(⟨1,1⟩:wAG),(⟨2,2⟩:wAG)]) (by decide)
 obtain ⟨eD,cJ,sJ,o6⟩:=q
 have o7:sW w U eD [aV,.blk ag 41 af,.blk ae 41 ac,.blk ab 41 B5] bU:=o6
 have ls:=sH.le cJ
 refine bnK rj fun vA lu rk=>zE 0 Z Z Z (zP Z Z (zt (fun h=>h aj.out))) (zD Z Z Try.call18 (zB Z (zB Z zM)) Z) o7 (fun hs=>wCc bF cc cz [(⟨1,1⟩:wAG),(⟨2,2⟩:wAG)] (some ⟨fz,0,none⟩) 2 bU eD hs ls sJ lu) (.inr Z) ?_
 rintro cw tX vj fj gW o9 ⟨rfl,rfl⟩
 have gz:sW w U cw [aV,.blk ag 41 af,.blk ae 41 ac,.blk ab 41 B5] fj:=o9
 refine zY Z Z Z (zP Z Z (zt (fun h=>h aj.out))) (fun _=>Zd Z Z) (oR Z (ze Z (zt (fun h=>h aj.out)) Z) (oM Z Z (ifc rk ?_ ?_)))
 intro an ro
 refine zo Z Z Z (zP Z Z (nC an.out)) Z Z (bnK ro fun bs lv rp=>zE 0 Z Z Z (zP Z Z (nC an.out)) (zD Z Z yj (zB Z (zB Z zM)) Z) gz (fun hs=>wAg 0 1 fj cw hs lv) (.inr Z) ?_)
 rintro eE tY vk jd tm pe ⟨rfl,rfl⟩
 have pf:sW w U eE [aV,.blk ag 41 af,.blk ae 41 ac,.blk ab 41 B5] jd:=pe
 let dR:List Value:=[jV bs.Skier,jV bs.Mat]
 refine zq (pv:=[(0,.agg dR.toArray)]) (zs:=B4) (cs:=dR) Z Z Z (zP Z Z (nC an.out)) Z (wAH Z wAP) Zv ZZ Zy Z Z Z Z Z pf ?_
 intro bV fA pg
 let dS:Res:=.row (some ⟨fA,0,none⟩) 1 45 2 (hD wAU [bs])
 have ph:sW w U eE [dS,aV,.blk ag 41 af,.blk ae 41 ac,.blk ab 41 B5] bV:=pg
 have q:=ph.freezeR (k:=1) (n:=bG.length) rfl (wAE (f:=wAU) (sz:=2) (fun _=>rfl) bG) (by decide)
 obtain ⟨iO,tn,sK,pj⟩:=q
 have pk:sW w U iO [dS,.blk ag 41 af,.blk ae 41 ac,.blk ab 41 B5] bV:=pj
 have q:=pk.freezeR (k:=0) (n:=[bs].length) rfl (wAE (f:=wAU) (sz:=2) (fun _=>rfl) [bs]) (by decide)
 obtain ⟨eF,gX,sL,pm⟩:=q
 have pn:sW w U eF [.blk ag 41 af,.blk ae 41 ac,.blk ab 41 B5] bV:=pm
 have ly:=sK.le gX
 refine bnK rp fun vB lz rq=>zE 0 Z Z Z (zP Z Z (nC an.out)) (zD Z Z Try.call54 (zB Z (zB Z zM)) Z) pn (fun hs=>wDd bG cd cA [bs] (some ⟨fA,0,none⟩) 1 bV eF hs ly sL lz) (.inr Z) ?_
 rintro eG tZ vl je tp po ⟨rfl,rfl⟩
 have pp:sW w U eG [.blk ag 41 af,.blk ae 41 ac,.blk ab 41 B5] je:=po
 refine zY Z Z Z (zP Z Z (nC an.out)) (fun _=>Zd Z Z) (oR Z (ze Z (nC an.out) Z) (zc ?_))
 cases rq
 exact zI ⟨Z,⟨eG,Z,((((((gV.trans cJ).trans gW).trans tm).trans tn).trans gX).trans tp),pp⟩⟩
 intro an rv
 refine zX Z Z Z (zS Z Z (nF (an.out)) Z) (ZE Z Z Z (zS Z Z (nF (an.out)) Z) (ZE Z Z Z (zS Z Z (nF (an.out)) Z) (ZE Z Z Z (zS Z Z (nF (an.out)) Z) (zX Z Z Z (zS Z Z (nF (an.out)) Z) (oR Z (zQ Z (nF (an.out)) Z) (zc ?_))))))
 cases rv
 exact zI ⟨rfl,⟨cw,rfl,((gV.trans cJ).trans gW),(gz.pick [1,2,3] _ (by decide) rfl)⟩⟩
 intro aj rx
 refine oT Z aj (oT Z aj (oT Z aj (ZE Z Z Z (zS Z Z (Zk aj.out) Z) (ZE Z Z Z (zS Z Z (Zk aj.out) Z) (oT Z aj (oR Z (zQ Z (Zk aj.out) Z) (oM Z Z (oN Z (ZE Z Z Z (zS Z Z Z Z) (ZE Z Z Z (zS Z Z Z Z) (ZE Z Z Z (zS Z Z Z Z) (oN Z (oR Z (zQ Z Z Z) (zc ?_))))))))))))))
 cases rx
 exact zI ⟨rfl,⟨am,rfl,(zO _),(ak.pick [2,3,4] _ (by decide) rfl)⟩⟩
 intro a8 ry
 refine oT Z a8 (oT Z a8 (oR Z (zQ Z (Zk a8.out) Z) (oM Z Z (oN Z (oN Z (oN Z (ZE Z Z Z (zS Z Z Z Z) (ZE Z Z Z (zS Z Z Z Z) (oN Z (oR Z (zQ Z Z Z) (oM Z Z (oN Z (ZE Z Z Z (zS Z Z Z Z) (ZE Z Z Z (zS Z Z Z Z) (ZE Z Z Z (zS Z Z Z Z) (oN Z (oR Z (zQ Z Z Z) (zc ?_))))))))))))))))))
 cases ry
 exact zI ⟨rfl,⟨am,rfl,(zO _),(ak.pick [2,3,4] _ (by decide) rfl)⟩⟩
 intro aM rz
 refine oT Z aM (oT Z aM (oT Z aM (oR Z (zQ Z (Zk aM.out) Z) (oM Z Z (oN Z (oN Z (oR Z (zQ Z Z Z) (oM Z Z (oN Z (oN Z (oN Z (ZE Z Z Z (zS Z Z Z Z) (ZE Z Z Z (zS Z Z Z Z) (oN Z (oR Z (zQ Z Z Z) (oM Z Z (oN Z (ZE Z Z Z (zS Z Z Z Z) (ZE Z Z Z (zS Z Z Z Z) (ZE Z Z Z (zS Z Z Z Z) (oN Z (oR Z (zQ Z Z Z) (zc ?_)))))))))))))))))))))))
 cases rz
 exact zI ⟨rfl,⟨am,rfl,(zO _),(ak.pick [2,3,4] _ (by decide) rfl)⟩⟩
 intro aL rA
 refine oT Z aL (oT Z aL (oT Z aL (oR Z (zQ Z (Zk aL.out) Z) (oM Z Z (oN Z (oN Z (oN Z (oR Z (zQ Z Z Z) (oM Z Z (oN Z (oN Z (oR Z (zQ Z Z Z) (oM Z Z (oN Z (oN Z (oN Z (ZE Z Z Z (zS Z Z Z Z) (ZE Z Z Z (zS Z Z Z Z) (oN Z (oR Z (zQ Z Z Z) (oM Z Z (oN Z (ZE Z Z Z (zS Z Z Z Z) (ZE Z Z Z (zS Z Z Z Z) (ZE Z Z Z (zS Z Z Z Z) (oN Z (oR Z (zQ Z Z Z) (zc ?_))))))))))))))))))))))))))))
 cases rA
 exact zI ⟨rfl,⟨am,rfl,(zO _),(ak.pick [2,3,4] _ (by decide) rfl)⟩⟩
 intro aK rB
 refine oT Z aK (oT Z aK (oT Z aK (oR Z (zQ Z (Zk aK.out) Z) (oM Z Z (oN Z (oN Z (oN Z (oR Z (zQ Z Z Z) (oM Z Z (oN Z (oN Z (oN Z (oR Z (zQ Z Z Z) (oM Z Z (oN Z (oN Z (oR Z (zQ Z Z Z) (oM Z Z (oN Z (oN Z (oN Z (ZE Z Z Z (zS Z Z Z Z) (ZE Z Z Z (zS Z Z Z Z) (oN Z (oR Z (zQ Z Z Z) (oM Z Z (oN Z (ZE Z Z Z (zS Z Z Z Z) (ZE Z Z Z (zS Z Z Z Z) (ZE Z Z Z (zS Z Z Z Z) (oN Z (oR Z (zQ Z Z Z) (zc ?_)))))))))))))))))))))))))))))))))
 cases rB
 exact zI ⟨rfl,⟨am,rfl,(zO _),(ak.pick [2,3,4] _ (by decide) rfl)⟩⟩
 intro a7 rC
 refine oT Z a7 (oT Z a7 (oR Z (zQ Z (Zk a7.out) Z) (oM Z Z (oN Z (oN Z (oN Z (oR Z (zQ Z Z Z) (oM Z Z (oN Z (oN Z (oN Z (oR Z (zQ Z Z Z) (oM Z Z (oN Z (oN Z (oN Z (oR Z (zQ Z Z Z) (oM Z Z (oN Z (oN Z (oR Z (zQ Z Z Z) (oM Z Z (oN Z (oN Z (oN Z (ZE Z Z Z (zS Z Z Z Z) (ZE Z Z Z (zS Z Z Z Z) (oN Z (oR Z (zQ Z Z Z) (oM Z Z (oN Z (ZE Z Z Z (zS Z Z Z Z) (ZE Z Z Z (zS Z Z Z Z) (ZE Z Z Z (zS Z Z Z Z) (oN Z (oR Z (zQ Z Z Z) (zc ?_)))))))))))))))))))))))))))))))))))))
 cases rC
 exact zI ⟨rfl,⟨am,rfl,(zO _),(ak.pick [2,3,4] _ (by decide) rfl)⟩⟩
 intro a6 rD
 refine oT Z a6 (oT Z a6 (oR Z (zQ Z (Zk a6.out) Z) (oM Z Z (oN Z (oN Z (oR Z (zQ Z Z Z) (oM Z Z (oN Z (oN Z (oN Z (oR Z (zQ Z Z Z) (oM Z Z (oN Z (oN Z (oN Z (oR Z (zQ Z Z Z) (oM Z Z (oN Z (oN Z (oN Z (oR Z (zQ Z Z Z) (oM Z Z (oN Z (oN Z (oR Z (zQ Z Z Z) (oM Z Z (oN Z (oN Z (oN Z (ZE Z Z Z (zS Z Z Z Z) (ZE Z Z Z (zS Z Z Z Z) (oN Z (oR Z (zQ Z Z Z) (oM Z Z (oN Z (ZE Z Z Z (zS Z Z Z Z) (ZE Z Z Z (zS Z Z Z Z) (ZE Z Z Z (zS Z Z Z Z) (oN Z (oR Z (zQ Z Z Z) (zc ?_)))))))))))))))))))))))))))))))))))))))))
 cases rD
 exact zI ⟨rfl,⟨am,rfl,(zO _),(ak.pick [2,3,4] _ (by decide) rfl)⟩⟩
 intro a5 rE
 refine oT Z a5 (oT Z a5 (oR Z (zQ Z (Zk a5.out) Z) (oM Z Z (oN Z (oN Z (oR Z (zQ Z Z Z) (oM Z Z (oN Z (oN Z (oR Z (zQ Z Z Z) (oM Z Z (oN Z (oN Z (oN Z (oR Z (zQ Z Z Z) (oM Z Z (oN Z (oN Z (oN Z (oR Z (zQ Z Z Z) (oM Z Z (oN Z (oN Z (oN Z (oR Z (zQ Z Z Z) (oM Z Z (oN Z (oN Z (oR Z (zQ Z Z Z) (oM Z Z (oN Z (oN Z (oN Z (ZE Z Z Z (zS Z Z Z Z) (ZE Z Z Z (zS Z Z Z Z) (oN Z (oR Z (zQ Z Z Z) (oM Z Z (oN Z (ZE Z Z Z (zS Z Z Z Z) (ZE Z Z Z (zS Z Z Z Z) (ZE Z Z Z (zS Z Z Z Z) (oN Z (oR Z (zQ Z Z Z) (zc ?_)))))))))))))))))))))))))))))))))))))))))))))
 cases rE
 exact zI ⟨rfl,⟨am,rfl,(zO _),(ak.pick [2,3,4] _ (by decide) rfl)⟩⟩
 intro aZ rF
 refine oT Z aZ (oT Z aZ (oR Z (zQ Z (Zk aZ.out) Z) (oM Z Z (oN Z (oN Z (oR Z (zQ Z Z Z) (oM Z Z (oN Z (oN Z (oR Z (zQ Z Z Z) (oM Z Z (oN Z (oN Z (oR Z (zQ Z Z Z) (oM Z Z (oN Z (oN Z (oN Z (oR Z (zQ Z Z Z) (oM Z Z (oN Z (oN Z (oN Z (oR Z (zQ Z Z Z) (oM Z Z (oN Z (oN Z (oN Z (oR Z (zQ Z Z Z) (oM Z Z (oN Z (oN Z (oR Z (zQ Z Z Z) (oM Z Z (oN Z (oN Z (oN Z (ZE Z Z Z (zS Z Z Z Z) (ZE Z Z Z (zS Z Z Z Z) (oN Z (oR Z (zQ Z Z Z) (oM Z Z (oN Z (ZE Z Z Z (zS Z Z Z Z) (ZE Z Z Z (zS Z Z Z Z) (ZE Z Z Z (zS Z Z Z Z) (oN Z (oR Z (zQ Z Z Z) (zc ?_)))))))))))))))))))))))))))))))))))))))))))))))))
 cases rF
 exact zI ⟨rfl,⟨am,rfl,(zO _),(ak.pick [2,3,4] _ (by decide) rfl)⟩⟩
 have gI:=gO;rw [if_neg aI] at gI;replace aI:=zN aI
 refine oT Z aI (oT Z aI (oR Z (zQ Z (Zk aI.out) Z) (oM Z Z (oN Z (oN Z (oR Z (zQ Z Z Z) (oM Z Z (oN Z (oN Z (oR Z (zQ Z Z Z) (oM Z Z (oN Z (oN Z (oR Z (zQ Z Z Z) (oM Z Z (oN Z (oN Z (oR Z (zQ Z Z Z) (oM Z Z (oN Z (oN Z (oN Z (oR Z (zQ Z Z Z) (oM Z Z (oN Z (oN Z (oN Z (oR Z (zQ Z Z Z) (oM Z Z (oN Z (oN Z (oN Z (oR Z (zQ Z Z Z) (oM Z Z (oN Z (oN Z (oR Z (zQ Z Z Z) (oM Z Z (oN Z (oN Z (oN Z (ZE Z Z Z (zS Z Z Z Z) (ZE Z Z Z (zS Z Z Z Z) (oN Z (oR Z (zQ Z Z Z) (oM Z Z (oN Z (ZE Z Z Z (zS Z Z Z Z) (ZE Z Z Z (zS Z Z Z Z) (ZE Z Z Z (zS Z Z Z Z) (oN Z (oR Z (zQ Z Z Z) (zc ?_)))))))))))))))))))))))))))))))))))))))))))))))))))))
 cases gI
 exact zI ⟨rfl,⟨am,rfl,(zO _),(ak.pick [2,3,4] _ (by decide) rfl)⟩⟩
 rintro vE jf ⟨eH,gy,uG,gA⟩
 refine ifc q5 ?_ ?_
 intro cB rG
 refine ZT (gy.trans (congrArg nH cB.out)) (sR fL1 Z (oA Z Z (eN (zU (za ?_)))))
 have hE:=hH rG;first | subst r | cases hE
 exact ⟨rfl,_,(ZV rfl),eH,_,(gA.pick [] _ (by decide) rfl),rfl,rfl⟩
 intro cB rH
 refine ZI (gy.trans (congrArg nH (nK.2 cB.out))) (kN (sR (.fx 0 (.fx 1 (wHJ (.nil)) .stop) .stop) Z (bnK rH fun ax lE rI=>zE 0 Z Z Z Z (zD Z Z Try.call55 zM Z) gA (fun hs=>wBr jf eH hs lE) (.inr Z) ?_)))
 rintro iP t4 vm bo uH pq ⟨dl,f4,dm,f5,dq,f6,dr,f7,rfl,rfl⟩
 let bP:Res:=.row dr f7 39 4 (hD wAA ax.Readings)
 let cn:Res:=.row dq f6 43 3 (hD wAB ax.Clocks)
 let dT:Res:=.row dm f5 41 2 (hD wAC ax.Splits)
 have pu:sW w U iP [.row dl f4 3 1 (hD KL.encI ax.Starts),dT,cn,bP,.blk ag 41 af,.blk ae 41 ac,.blk ab 41 B5] bo:=pq
 have q:=pu.freezeR (k:=0) (n:=ax.Starts.length) rfl (wAE (f:=KL.encI) (sz:=1) (fun _=>rfl) ax.Starts) (by decide)
 obtain ⟨iQ,uI,sM,py⟩:=q
 have pz:sW w U iQ [dT,cn,bP,.blk ag 41 af,.blk ae 41 ac,.blk ab 41 B5] bo:=py
 have q:=pz.freezeR (k:=0) (n:=ax.Splits.length) rfl (wAE (f:=wAC) (sz:=2) (fun _=>rfl) ax.Splits) (by decide)
 obtain ⟨iR,tq,sN,pB⟩:=q
 have pC:sW w U iR [cn,bP,.blk ag 41 af,.blk ae 41 ac,.blk ab 41 B5] bo:=pB
 have q:=pC.freezeR (k:=0) (n:=ax.Clocks.length) rfl (wAE (f:=wAB) (sz:=3) (fun _=>rfl) ax.Clocks) (by decide)
 obtain ⟨iS,gY,sO,pD⟩:=q
 have pE:sW w U iS [bP,.blk ag 41 af,.blk ae 41 ac,.blk ab 41 B5] bo:=pD
 have q:=pE.freezeR (k:=0) (n:=ax.Readings.length) rfl (wAE (f:=wAA) (sz:=4) (fun _=>rfl) ax.Readings) (by decide)
 obtain ⟨eI,cK,sP,pF⟩:=q
 have pG:sW w U eI [.blk ag 41 af,.blk ae 41 ac,.blk ab 41 B5] bo:=pF
 have lG:=sM.le tq
 have lH:=lG.le gY
 have lI:=lH.le cK
 have lJ:=sN.le gY
 have lK:=lJ.le cK
 have lL:=sO.le cK
 have q:=bnd rI
 obtain ⟨⟨tF,ie,ig⟩,lM,gK⟩:=q
 try dsimp only at gK
 refine zE 0 Z Z Z Z (zD Z Z Try.call27 (zB Z zM) Z) pG (fun hs=>wHZ ax dl f4 dm f5 dq f6 dr f7 bo eI hs lI lK lL sP lM) (.inr Z) ?_
 rintro eJ t6 vo fk uJ pH ⟨dt,f8,jm,du,f9,rfl,rfl,uj⟩
 let ah:Res:=.row du f9 3 1 (hD KL.encI ie)
 let ai:Res:=.row dt f8 23 1 jm
 have pI:sW w U eJ [ai,ah,.blk ag 41 af,.blk ae 41 ac,.blk ab 41 B5] fk:=pH
 refine oM Z Z (oR Z (zT Z Z (v:=.slice dt tF.length f8) Z) (oR Z (zT Z Z (v:=.slice du ie.length f9) Z) (oR Z (zT Z Z (v:=jV ig) Z) (oA Z Z (eN (sR (.fx 0 (fC1_4 (.fx 5 (.fx 6 (wKw (.nil)) .stop) .stop)) .stop) Z (bnK gK fun ay lN rJ=>zE 0 Z Z Z Z (zD Z Z Try.call55 zM Z) pI (fun hs=>wBr fk eJ hs lN) (.inr Z) ?_)))))))
 rintro eK t7 vq jh uK pJ ⟨dv,ga,dw,gb,dx,ge,dy,gf,rfl,rfl⟩
 let bA:Res:=.row dy gf 39 4 (hD wAA ay.Readings)
 let bQ:Res:=.row dx ge 43 3 (hD wAB ay.Clocks)
 let co:Res:=.row dw gb 41 2 (hD wAC ay.Splits)
 let dU:Res:=.row dv ga 3 1 (hD KL.encI ay.Starts)
 have pK:sW w U eK [dU,co,bQ,bA,ai,ah,.blk ag 41 af,.blk ae 41 ac,.blk ab 41 B5] jh:=pJ
 let dV:List Value:=[jV 0,jV 1,jV 0,.bool true]
 refine oR Z (zl (pv:=[(0,jV 0),(1,jV 1),(3,.bool true)]) (z:=bg) (cs:=dV) Z (wAH Z (wAH Z (wAH Z wAP))) Zz wDS Z Z) ?_
 let dW:List Value:=[jV 1,jV 1,jV 0,.bool true]
 refine oR Z (zl (pv:=[(0,jV 1),(1,jV 1),(3,.bool true)]) (z:=bg) (cs:=dW) Z (wAH Z (wAH Z (wAH Z wAP))) Zz wDS Z Z) ?_
 let dX:List Value:=[jV 3,jV 0,jV 1,.bool false]
 refine oR Z (zl (pv:=[(0,jV 3),(2,jV 1)]) (z:=bg) (cs:=dX) Z (wAH Z (wAH Z wAP)) Zz wDS Z Z) ?_
 let dY:List Value:=[jV 2,jV 0,jV 0,.bool false]
 refine oR Z (zl (pv:=[(0,jV 2)]) (z:=bg) (cs:=dY) Z (wAH Z wAP) Zz wDS Z Z) (zq (pv:=[(0,.agg dV.toArray),(1,.agg dW.toArray),(2,.agg dX.toArray),(3,.agg dY.toArray)]) (zs:=[jV 0,jV 0,jV 0,.bool false,jV 0,jV 0,jV 0,.bool false,jV 0,jV 0,jV 0,.bool false,jV 0,jV 0,jV 0,.bool false]) (cs:=[jV 0,jV 1,jV 0,.bool true,jV 1,jV 1,jV 0,.bool true,jV 3,jV 0,jV 1,.bool false,jV 2,jV 0,jV 0,.bool false]) Z Z Z Z Z (wAH Z (wAH Z (wAH Z (wAH Z wAP)))) yN Zf Zz Z Z Z Z Z pK ?_)
 intro aY fB pL
 let bB:Res:=.row (some ⟨fB,0,none⟩) 4 78 4 (hD wBV [(⟨0,1,0,true⟩:wAJ),(⟨1,1,0,true⟩:wAJ),(⟨3,0,1,false⟩:wAJ),(⟨2,0,0,false⟩:wAJ)])
 have pN:sW w U eK [bB,dU,co,bQ,bA,ai,ah,.blk ag 41 af,.blk ae 41 ac,.blk ab 41 B5] aY:=pL
 have q:=pN.freezeR (k:=1) (n:=ay.Starts.length) rfl (wAE (f:=KL.encI) (sz:=1) (fun _=>rfl) ay.Starts) (by decide)
 obtain ⟨iT,uM,sQ,pO⟩:=q
 have pP:sW w U iT [bB,co,bQ,bA,ai,ah,.blk ag 41 af,.blk ae 41 ac,.blk ab 41 B5] aY:=pO
 have q:=pP.freezeR (k:=1) (n:=ay.Splits.length) rfl (wAE (f:=wAC) (sz:=2) (fun _=>rfl) ay.Splits) (by decide)
 obtain ⟨iU,tr,sS,pQ⟩:=q
 have pS:sW w U iU [bB,bQ,bA,ai,ah,.blk ag 41 af,.blk ae 41 ac,.blk ab 41 B5] aY:=pQ
 have q:=pS.freezeR (k:=1) (n:=ay.Clocks.length) rfl (wAE (f:=wAB) (sz:=3) (fun _=>rfl) ay.Clocks) (by decide)
 obtain ⟨iV,gZ,sT,pT⟩:=q
 have pU:sW w U iV [bB,bA,ai,ah,.blk ag 41 af,.blk ae 41 ac,.blk ab 41 B5] aY:=pT
 have q:=pU.freezeR (k:=1) (n:=ay.Readings.length) rfl (wAE (f:=wAA) (sz:=4) (fun _=>rfl) ay.Readings) (by decide)
 obtain ⟨iW,cL,sU,pV⟩:=q
 have pW:sW w U iW [bB,ai,ah,.blk ag 41 af,.blk ae 41 ac,.blk ab 41 B5] aY:=pV
 have q:=pW.freezeR (k:=0) (n:=[(⟨0,1,0,true⟩:wAJ),(⟨1,1,0,true⟩:wAJ),(⟨3,0,1,false⟩:wAJ),(⟨2,0,0,false⟩:wAJ)].length) rfl (wAE (f:=wBV) (sz:=4) (fun _=>rfl) [(⟨0,1,0,true⟩:wAJ),(⟨1,1,0,true⟩:wAJ),(⟨3,0,1,false⟩:wAJ),(⟨2,0,0,false⟩:wAJ)]) (by decide)
 obtain ⟨eL,cb,sV,pX⟩:=q
 have pY:sW w U eL [ai,ah,.blk ag 41 af,.blk ae 41 ac,.blk ab 41 B5] aY:=pX
 have lO:=sQ.le tr
 have lP:=lO.le gZ
 have lQ:=lP.le cL
 have lR:=lQ.le cb
 have lS:=sS.le gZ
 have lT:=lS.le cL
 have lU:=lT.le cb
 have lV:=sT.le cL
 have lW:=lV.le cb
 have lX:=sU.le cb
 have q:=bnd rJ
 obtain ⟨⟨ii,ij⟩,lY,gL⟩:=q
 try dsimp only at gL
 refine zE 0 Z Z Z Z (zD Z Z Try.call34 (zB Z (zB Z zM)) Z) pY (fun hs=>wGb ay dv ga dw gb dx ge dy gf [(⟨0,1,0,true⟩:wAJ),(⟨1,1,0,true⟩:wAJ),(⟨3,0,1,false⟩:wAJ),(⟨2,0,0,false⟩:wAJ)] (some ⟨fB,0,none⟩) 4 aY eL hs lR lU lW lX sV lY) (.inr Z) ?_
 rintro eM t8 vr fq uN p4 ⟨rfl,rfl⟩
 have p5:sW w U eM [ai,ah,.blk ag 41 af,.blk ae 41 ac,.blk ab 41 B5] fq:=p4
 refine oM Z Z (oR Z (zT Z Z (v:=jV ii) Z) (oR Z (zT Z Z (v:=jV ij) Z) (oA Z Z (oA Z Z (eN (sR (.fx 0 (.fx 1 (wHJ (.nil)) .stop) .stop) Z (bnK gL fun az lZ rK=>zE 0 Z Z Z Z (zD Z Z Try.call55 zM Z) p5 (fun hs=>wBr fq eM hs lZ) (.inr Z) ?_)))))))
 rintro iX t9 vt bp uO p6 ⟨dz,gg,dA,gh,dB,gi,dC,gj,rfl,rfl⟩
 let bR:Res:=.row dC gj 39 4 (hD wAA az.Readings)
 let cp:Res:=.row dB gi 43 3 (hD wAB az.Clocks)
 let dZ:Res:=.row dA gh 41 2 (hD wAC az.Splits)
 have p7:sW w U iX [.row dz gg 3 1 (hD KL.encI az.Starts),dZ,cp,bR,ai,ah,.blk ag 41 af,.blk ae 41 ac,.blk ab 41 B5] bp:=p6
 have q:=p7.freezeR (k:=0) (n:=az.Starts.length) rfl (wAE (f:=KL.encI) (sz:=1) (fun _=>rfl) az.Starts) (by decide)
 obtain ⟨iY,uP,sX,p9⟩:=q
 have qa:sW w U iY [dZ,cp,bR,ai,ah,.blk ag 41 af,.blk ae 41 ac,.blk ab 41 B5] bp:=p9
 have q:=qa.freezeR (k:=0) (n:=az.Splits.length) rfl (wAE (f:=wAC) (sz:=2) (fun _=>rfl) az.Splits) (by decide)
 obtain ⟨iZ,tt,sY,qb⟩:=q
 have qc:sW w U iZ [cp,bR,ai,ah,.blk ag 41 af,.blk ae 41 ac,.blk ab 41 B5] bp:=qb
 have q:=qc.freezeR (k:=0) (n:=az.Clocks.length) rfl (wAE (f:=wAB) (sz:=3) (fun _=>rfl) az.Clocks) (by decide)
 obtain ⟨i2,g6,sZ,qe⟩:=q
 have qf:sW w U i2 [bR,ai,ah,.blk ag 41 af,.blk ae 41 ac,.blk ab 41 B5] bp:=qe
 have q:=qf.freezeR (k:=0) (n:=az.Readings.length) rfl (wAE (f:=wAA) (sz:=4) (fun _=>rfl) az.Readings) (by decide)
 obtain ⟨eO,cM,s3,qh⟩:=q
 have qi:sW w U eO [ai,ah,.blk ag 41 af,.blk ae 41 ac,.blk ab 41 B5] bp:=qh
 have l3:=sX.le tt
 have l4:=l3.le g6
 have l5:=l4.le cM
 have l6:=sY.le g6
 have l7:=l6.le cM
 have l8:=sZ.le cM
 have q:=bnd rK
 obtain ⟨⟨bt,ik⟩,ma,gM⟩:=q
 try dsimp only at gM
 refine zE 0 Z Z Z Z (zD Z Z Try.call29 (zB Z zM) Z) qi (fun hs=>wHa az dz gg dA gh dB gi dC gj bp eO hs l5 l7 l8 s3 ma) (.inr Z) ?_
 rintro eQ ua vu fu uQ qj ⟨bI,bY,rfl,rfl⟩
 let aR:Res:=.row bI bY 3 1 (hD KL.encI bt)
 have qk:sW w U eQ [aR,ai,ah,.blk ag 41 af,.blk ae 41 ac,.blk ab 41 B5] fu:=qj
 refine oM Z Z (oR Z (zT Z Z (v:=.slice bI bt.length bY) Z) (oR Z (zT Z Z (v:=jV ik) Z) (oA Z Z (oA Z Z (eN (sR (.fx 0 (.fx 1 (wHJ (.nil)) .stop) .stop) Z (bnK gM fun aH mc rM=>zE 0 Z Z Z Z (zD Z Z Try.call55 zM Z) qk (fun hs=>wBr fu eQ hs mc) (.inr Z) ?_)))))))
 rintro i3 ub vv bq uR qm ⟨dD,gm,dE,gp,dF,gq,dG,gt,rfl,rfl⟩
 let bS:Res:=.row dG gt 39 4 (hD wAA aH.Readings)
 let cq:Res:=.row dF gq 43 3 (hD wAB aH.Clocks)
 let d7:Res:=.row dE gp 41 2 (hD wAC aH.Splits)
 have qn:sW w U i3 [.row dD gm 3 1 (hD KL.encI aH.Starts),d7,cq,bS,aR,ai,ah,.blk ag 41 af,.blk ae 41 ac,.blk ab 41 B5] bq:=qm
 have q:=qn.freezeR (k:=0) (n:=aH.Starts.length) rfl (wAE (f:=KL.encI) (sz:=1) (fun _=>rfl) aH.Starts) (by decide)
 obtain ⟨i4,uT,s4,qo⟩:=q
 have qp:sW w U i4 [d7,cq,bS,aR,ai,ah,.blk ag 41 af,.blk ae 41 ac,.blk ab 41 B5] bq:=qo
 have q:=qp.freezeR (k:=0) (n:=aH.Splits.length) rfl (wAE (f:=wAC) (sz:=2) (fun _=>rfl) aH.Splits) (by decide)
 obtain ⟨i5,tu,s5,qq⟩:=q
 have qr:sW w U i5 [cq,bS,aR,ai,ah,.blk ag 41 af,.blk ae 41 ac,.blk ab 41 B5] bq:=qq
 have q:=qr.freezeR (k:=0) (n:=aH.Clocks.length) rfl (wAE (f:=wAB) (sz:=3) (fun _=>rfl) aH.Clocks) (by decide)
 obtain ⟨i6,g7,s6,qs⟩:=q
 have qt:sW w U i6 [bS,aR,ai,ah,.blk ag 41 af,.blk ae 41 ac,.blk ab 41 B5] bq:=qs
 have q:=qt.freezeR (k:=0) (n:=aH.Readings.length) rfl (wAE (f:=wAA) (sz:=4) (fun _=>rfl) aH.Readings) (by decide)
 obtain ⟨eV,cN,s7,qu⟩:=q
 have qv:sW w U eV [aR,ai,ah,.blk ag 41 af,.blk ae 41 ac,.blk ab 41 B5] bq:=qu
 have md:=s4.le tu
 have me:=md.le g7
 have mf:=me.le cN
 have mg:=s5.le g7
 have mh:=mg.le cN
 have mi:=s6.le cN
 have q:=bnd rM
 obtain ⟨⟨bu,il⟩,mj,gN⟩:=q
 try dsimp only at gN
 refine zE 0 Z Z Z Z (zD Z Z Try.call30 (zB Z zM) Z) qv (fun hs=>wHb aH dD gm dE gp dF gq dG gt bq eV hs mf mh mi s7 mj) (.inr Z) ?_
 rintro aW ud vx ji uV qw ⟨bJ,bZ,rfl,rfl⟩
 let bh:Res:=.row bJ bZ 3 1 (hD KL.encI bu)
 have br:sW w U aW [bh,aR,ai,ah,.blk ag 41 af,.blk ae 41 ac,.blk ab 41 B5] ji:=qw
 refine oM Z Z (oR Z (zT Z Z (v:=.slice bJ bu.length bZ) Z) (oR Z (zT Z Z (v:=jV il) Z) (oA Z Z (oA Z Z (eN (zL (CK.fresh fun bd aS=>?_)))))))
 have jx:bd 2=jV ig:=(aS 2).trans rfl
 have jy:bd 4=jV ij:=(aS 4).trans rfl
 have jz:bd 6=jV ik:=(aS 6).trans rfl
 have jA:bd 8=jV il:=(aS 8).trans rfl
 have jB:bd 13=jV ii:=(aS 13).trans rfl
 have jC:bd 14=.slice bI bt.length bY:=(aS 14).trans rfl
 have jD:bd 15=.slice bJ bu.length bZ:=(aS 15).trans rfl
 clear aS
 refine rR (wMY (.fx 20 (.fx 21 (wLe (.fx 25 (.fx 26 (.fl 27 (.fl 28 .nil)) .stop) .stop)) .stop) .stop)) Z (oM Z jx (oR Z (yJ Z Z Z) (oM Z Z (ifc gN ?_ ?_))))
 intro a9 rO
 refine zo Z Z Z (wT Z a9) Z jy (rU Z (wT Z a9) (yJ Z Z Z) (oR Z (zQ Z (Zk a9.out) Z) (oM Z Z (ifc rO ?_ ?_))))
 intro ba rP
 refine zo Z Z Z (wT Z ba) Z jz (rU Z (wT Z ba) (yJ Z Z Z) (oR Z (zQ Z (Zk ba.out) Z) (oM Z Z (ifc rP ?_ ?_))))
 intro bb rQ
 refine zo Z Z Z (wT Z bb) Z jA (rU Z (wT Z bb) (yJ Z Z Z) (oR Z (zQ Z (Zk bb.out) Z) (oM Z Z (ifc rQ ?_ ?_))))
 intro bc rS
 refine zo Z Z Z (wT Z bc) Z jB (rU Z (wT Z bc) (yJ Z Z Z) (oR Z (zQ Z (Zk bc.out) Z) (oM Z Z (ifc rS ?_ ?_))))
 intro aN rT
 refine zo Z Z Z (wT Z aN) Z jC (zq (pv:=[(0,jV 1)]) (zs:=[jV 0]) (cs:=[jV 1]) Z Z Z (wT Z aN) Z (wAH Z wAP) zH zC ZB Z Z Z Z Z br ?_)
 intro bW fC qy
 let d9:Res:=.row (some ⟨fC,0,none⟩) 1 3 1 (hD KL.encI [1])
 have qz:sW w U aW [d9,bh,aR,ai,ah,.blk ag 41 af,.blk ae 41 ac,.blk ab 41 B5] bW:=qy
 have q:=qz.freezeR (k:=2) (n:=bt.length) rfl (wAE (f:=KL.encI) (sz:=1) (fun _=>rfl) bt) (by decide)
 obtain ⟨i7,uW,s8,qA⟩:=q
 have qB:sW w U i7 [d9,bh,ai,ah,.blk ag 41 af,.blk ae 41 ac,.blk ab 41 B5] bW:=qA
 have q:=qB.freezeR (k:=0) (n:=[1].length) rfl (wAE (f:=KL.encI) (sz:=1) (fun _=>rfl) [1]) (by decide)
 obtain ⟨eW,tv,s9,qC⟩:=q
 have qD:sW w U eW [bh,ai,ah,.blk ag 41 af,.blk ae 41 ac,.blk ab 41 B5] bW:=qC
 have ml:=s8.le tv
 refine bnK rT fun vC mm rV=>zE 0 Z Z Z (wT Z aN) (zD Z Z Try.call56 (zB Z (zB Z zM)) Z) qD (fun hs=>wDI bt bI bY [1] (some ⟨fC,0,none⟩) 1 bW eW hs ml s9 mm) (.inr Z) ?_
 rintro cy ue vy jj uX qE ⟨rfl,rfl⟩
 have gB:sW w U cy [bh,ai,ah,.blk ag 41 af,.blk ae 41 ac,.blk ab 41 B5] jj:=qE
 refine oR Z (zQ Z (Zk aN.out) Z) (oM Z Z (ifc rV ?_ ?_))
 intro aO rW
 refine zo Z Z Z (zP Z Z (congrArg nH aO.out)) Z jD (zq (pv:=[(0,jV 1)]) (zs:=[jV 0]) (cs:=[jV 1]) Z Z Z (zP Z Z (congrArg nH aO.out)) Z (wAH Z wAP) zH zC ZB Z Z Z Z Z gB ?_)
 intro bX fD qG
 let ec:Res:=.row (some ⟨fD,0,none⟩) 1 3 1 (hD KL.encI [1])
 have qH:sW w U cy [ec,bh,ai,ah,.blk ag 41 af,.blk ae 41 ac,.blk ab 41 B5] bX:=qG
 have q:=qH.freezeR (k:=1) (n:=bu.length) rfl (wAE (f:=KL.encI) (sz:=1) (fun _=>rfl) bu) (by decide)
 obtain ⟨i8,uY,ta,qI⟩:=q
 have qJ:sW w U i8 [ec,ai,ah,.blk ag 41 af,.blk ae 41 ac,.blk ab 41 B5] bX:=qI
 have q:=qJ.freezeR (k:=0) (n:=[1].length) rfl (wAE (f:=KL.encI) (sz:=1) (fun _=>rfl) [1]) (by decide)
 obtain ⟨eX,tw,tb,qK⟩:=q
 have qL:sW w U eX [ai,ah,.blk ag 41 af,.blk ae 41 ac,.blk ab 41 B5] bX:=qK
 have mn:=ta.le tw
 refine bnK rW fun vD mo rX=>zE 0 Z Z Z (zP Z Z (congrArg nH aO.out)) (zD Z Z Try.call56 (zB Z (zB Z zM)) Z) qL (fun hs=>wDI bu bJ bZ [1] (some ⟨fD,0,none⟩) 1 bX eX hs mn tb mo) (.inr Z) ?_
 rintro eY uf vz jk uZ qM ⟨rfl,rfl⟩
 have qN:sW w U eY [ai,ah,.blk ag 41 af,.blk ae 41 ac,.blk ab 41 B5] jk:=qM
 refine oR Z (zQ Z (congrArg nH aO.out) Z) (oA Z Z (eN (zU ?_)))
 have hE:=hH rX;first | subst r | cases hE
 exact ⟨rfl,_,(ZV rfl),eY,_,(qN.pick [] _ (by decide) rfl),rfl,rfl⟩
 intro aO rY
 refine zX Z Z Z (zS Z Z (congrArg nH (nK.2 aO.out)) Z) (ZE Z Z Z (zS Z Z (congrArg nH (nK.2 aO.out)) Z) (ZE Z Z Z (zS Z Z (congrArg nH (nK.2 aO.out)) Z) (oR Z (ze Z (congrArg nH (nK.2 aO.out)) Z) (oA Z Z (eN (zU ?_))))))
 have hE:=hH rY;first | subst r | cases hE
 exact ⟨rfl,_,(ZV rfl),cy,_,(gB.pick [] _ (by decide) rfl),rfl,rfl⟩
 intro aN rZ
 refine oF Z aN (ZE Z Z Z (zS Z Z (zt aN.out) Z) (ZE Z Z Z (zS Z Z (zt aN.out) Z) (oR Z (ze Z (zt aN.out) Z) (oM Z Z (oN Z (ZE Z Z Z (zS Z Z Z Z) (ZE Z Z Z (zS Z Z Z Z) (oR Z (ze Z Z Z) (oA Z Z (eN (zU ?_)))))))))))
 have hE:=hH rZ;first | subst r | cases hE
 exact ⟨rfl,_,(ZV rfl),aW,_,(br.pick [] _ (by decide) rfl),rfl,rfl⟩
 intro bc r6
 refine oF Z bc (oF Z bc (oR Z (ze Z (zt bc.out) Z) (oM Z Z (oN Z (ZE Z Z Z (zS Z Z Z Z) (ZE Z Z Z (zS Z Z Z Z) (oR Z (ze Z Z Z) (oM Z Z (oN Z (ZE Z Z Z (zS Z Z Z Z) (ZE Z Z Z (zS Z Z Z Z) (oR Z (ze Z Z Z) (oA Z Z (eN (zU ?_)))))))))))))))
 have hE:=hH r6;first | subst r | cases hE
 exact ⟨rfl,_,(ZV rfl),aW,_,(br.pick [] _ (by decide) rfl),rfl,rfl⟩
 intro bb r7
 refine oF Z bb (oF Z bb (oR Z (ze Z (zt bb.out) Z) (oM Z Z (oN Z (oN Z (oR Z (ze Z Z Z) (oM Z Z (oN Z (ZE Z Z Z (zS Z Z Z Z) (ZE Z Z Z (zS Z Z Z Z) (oR Z (ze Z Z Z) (oM Z Z (oN Z (ZE Z Z Z (zS Z Z Z Z) (ZE Z Z Z (zS Z Z Z Z) (oR Z (ze Z Z Z) (oA Z Z (eN (zU ?_)))))))))))))))))))
 have hE:=hH r7;first | subst r | cases hE
 exact ⟨rfl,_,(ZV rfl),aW,_,(br.pick [] _ (by decide) rfl),rfl,rfl⟩
 intro ba r8
 refine oF Z ba (oF Z ba (oR Z (ze Z (zt ba.out) Z) (oM Z Z (oN Z (oN Z (oR Z (ze Z Z Z) (oM Z Z (oN Z (oN Z (oR Z (ze Z Z Z) (oM Z Z (oN Z (ZE Z Z Z (zS Z Z Z Z) (ZE Z Z Z (zS Z Z Z Z) (oR Z (ze Z Z Z) (oM Z Z (oN Z (ZE Z Z Z (zS Z Z Z Z) (ZE Z Z Z (zS Z Z Z Z) (oR Z (ze Z Z Z) (oA Z Z (eN (zU ?_)))))))))))))))))))))))
 have hE:=hH r8;first | subst r | cases hE
 exact ⟨rfl,_,(ZV rfl),aW,_,(br.pick [] _ (by decide) rfl),rfl,rfl⟩
 intro a9 r9
 refine oF Z a9 (oF Z a9 (oR Z (ze Z (zt a9.out) Z) (oM Z Z (oN Z (oN Z (oR Z (ze Z Z Z) (oM Z Z (oN Z (oN Z (oR Z (ze Z Z Z) (oM Z Z (oN Z (oN Z (oR Z (ze Z Z Z) (oM Z Z (oN Z (ZE Z Z Z (zS Z Z Z Z) (ZE Z Z Z (zS Z Z Z Z) (oR Z (ze Z Z Z) (oM Z Z (oN Z (ZE Z Z Z (zS Z Z Z Z) (ZE Z Z Z (zS Z Z Z Z) (oR Z (ze Z Z Z) (oA Z Z (eN (zU ?_)))))))))))))))))))))))))))
 have hE:=hH r9;first | subst r | cases hE
 exact ⟨rfl,_,(ZV rfl),aW,_,(br.pick [] _ (by decide) rfl),rfl,rfl⟩
end Go.Proofs.Ytlnfbjphfoipaaa
namespace Go.Proofs.Ytlnfbjphfoipaaa
open Go.KL
set_option maxHeartbeats 4000000
theorem wED (p0:List Int) (my:Option Addr) (mz:Nat) (p1:List Int) (i6:Option Addr) (i8:Nat) (p2:List Int) (i7:Option Addr) (i9:Nat) (p3:Int) (w:World) (U:PHeap) (hS:St0 w U []) (HP:Sl U 1 my mz p0.length (hD KL.encB8 p0)) (sk:Sl U 1 i6 i8 p1.length (hD KL.encB8 p1)) (HQ:Sl U 1 i7 i9 p2.length (hD KL.encB8 p2)) {r:Bool} (hm:wBb p0 p1 p2 p3=some r):Gv Try.prog 3 [.slice my p0.length mz,.slice i6 p1.length i8,.slice i7 p2.length i9,jV p3] w (wBs w [] U (fun U_ L_ v=>v=.bool r/\L_=[])):=by
 unfold wBb at hm
 refine Gv.of Try.func3 Z Try.ntmps3 Try.results3 Z (sR fL1 Z (oA Z Z (eN (sR (.fl 0 (.fx 1 (.fx 2 (wJz (.fx 7 (.fx 8 (.fl 9 (.fl 10 .nil)) .stop) .stop)) .stop) .stop)) Z (oM Z Z (bnK hm fun x1 h2 Jx=>zE 0 Z Z Z Z (zD Z Z Try.call9 (zB Z zM) Z) hS (fun hs=>wDE p0 my mz w U hs HP h2) (.inr Z) ?_))))))
 rintro U4 L5 v6 W7 mx HK ⟨j9,mP,pR,rfl,rfl,xA⟩
 have EY:sW w U U4 [.blk j9 94 [.slice mP x1.bytes.length pR,jV x1.next,.int .u32 x1.state]] W7:=HK
 have q:=bnd Jx
 obtain ⟨⟨aK,KK,ta,mG⟩,z7,su⟩:=q
 try dsimp only at su
 refine zE 1 Z Z Z Z (zD Z Z Try.call8 (zB Z (zB Z (zB Z (zB Z zM)))) Z) EY (fun hs=>wEu x1 j9 mP pR 5 4 8 W7 U4 hs xA z7) (.inl Z) ?_
 rintro fK Lm Oi uP ms GW ⟨dd,dw,de,dx,df,dy,dg,dz,tk,vi,mS,p5,tm,vj,rfl,rfl,Nz,NA⟩
 let B0:Res:=.blk j9 94 [.slice tm mG.bytes.length vj,jV mG.next,.int .u32 mG.state]
 let B1:Res:=.row mS p5 3 1 (hD KL.encI ta)
 let B2:Res:=.row dg dz 39 4 (hD wAA aK.Readings)
 let B3:Res:=.row df dy 43 3 (hD wAB aK.Clocks)
 let B4:Res:=.row de dx 41 2 (hD wAC aK.Splits)
 let B5:Res:=.row dd dw 3 1 (hD KL.encI aK.Starts)
 have Ht:sW w U fK [B5,B4,B3,B2,B1,B0] uP:=GW
 refine oM Z Z (oR Z (zT Z Z (v:=.agg #[.slice dd aK.Starts.length dw,.slice de aK.Splits.length dx,.slice df aK.Clocks.length dy,.slice dg aK.Readings.length dz]) Z) (oR Z (zT Z Z (v:=.slice tk KK.length vi) Z) (oR Z (zT Z Z (v:=.slice mS ta.length p5) Z) ?_)))
 let B6:List Value:=[.slice none 0 0,.slice none 0 0,.slice none 0 0,.slice none 0 0]
 refine zR (cs:=B6) Z Z Z Z Z Zs Z Ht ?_
 intro Md a7 Hx
 let B7:List Value:=[.slice dd aK.Starts.length dw,.slice de aK.Splits.length dx,.slice df aK.Clocks.length dy,.slice dg aK.Readings.length dz]
 refine zV (j:=0) (vs:=B7) Z Z Z Z Hx Z Z Z Z zW (zA Z) Z Z Z ?_
 intro j8 HA
 have HB:sW w U fK [.blk a7 28 B7,B5,B4,B3,B2,B1,B0] j8:=HA
 refine oA Z Z (oA Z Z (eN ?_))
 have q:=bnd su
 obtain ⟨⟨iM,iN,iO,iP,cN,dG,dH,dI⟩,Kd,sI⟩:=q
 try dsimp only at sI
 refine yP (fun σ_ w_=>∃ (U_:PHeap) (gC:Option Addr) (ic:Nat) (gD:Option Addr) (ie:Nat) (gE:Option Addr) (ig:Nat) (gF:Option Addr) (ii:Nat) (aR:Nat) (cR:Option Addr) (cW:Nat) (di:Option Addr) (dB:Nat) (dk:Option Addr) (dC:Nat) (dl:Option Addr) (dD:Nat),σ_ 2=.slice i7 p2.length i9/\σ_ 3=jV p3/\σ_ 12=.pointer (some ⟨aR,0,none⟩)/\PHeap.Le fK U_/\sW w U U_ [.blk a7 28 [.slice gC iM.length ic,.slice gD iN.length ie,.slice gE iO.length ig,.slice gF iP.length ii],B0,.blk aR 28 [.slice cR cN.length cW,.slice di dG.length dB,.slice dk dH.length dC,.slice dl dI.length dD],.row cR cW 3 1 (hD KL.encI cN),.row di dB 41 2 (hD wAC dG),.row dk dC 43 3 (hD wAB dH),.row dl dD 39 4 (hD wAA dI)] w_/\Sl U_ 1 gC ic iM.length (hD KL.encI iM)/\Sl U_ 2 gD ie iN.length (hD wAC iN)/\Sl U_ 3 gE ig iO.length (hD wAB iO)/\Sl U_ 4 gF ii iP.length (hD wAA iP)) ?_ ?_
 refine bnK Kd fun dN rQ IM=>?_
 have q:=bnd IM
 obtain ⟨⟨a9,dL⟩,lS,iF⟩:=q
 try dsimp only at iF
 refine ZG ZH [3,2,1,0,2,0] (.fl 0 (.fl 2 (.fx 1 (.fx 3 (.fx 4 (.fx 5 .nil .stop) .stop) (.fx 4 gEy .stop)) (.fx 4 (.fx 1 gEy .stop) .stop)))) (by kernel_rfl) ?_
 have iB:=HB.drew
 generalize hw_W169:({ j8 with drawn:=j8.drawn + 1 }:World)=uw at iB ⊢
 refine oM Z Z (oL Z (iB.ldBA (j:=0) Z Z Z zg zW (vs:=B7) Z Z) (zn ?_ ?_))
 have xJ:=sk.le mx
 have xL:=xJ.le ms
 refine zE 0 Z Z Z Z (zD Z Z Try.call9 (zB Z zM) Z) iB (fun hs=>wDE p1 i6 i8 uw fK hs xL rQ) (.inr Z) ?_
 rintro tx K9 N6 eJ sX Fm ⟨fR,jt,lk,rfl,rfl,rj⟩
 let B8:Res:=.blk fR 94 [.slice jt dN.bytes.length lk,jV dN.next,.int .u32 dN.state]
 have sc:sW w U tx [B8,.blk a7 28 B7,B5,B4,B3,B2,B1,B0] eJ:=Fm
 refine zn ?_ ?_
 have q:=sc.freezeR (k:=2) (n:=aK.Starts.length) rfl (wAE (f:=KL.encI) (sz:=1) (fun _=>rfl) aK.Starts) (by decide)
 obtain ⟨tz,sY,JD,Fr⟩:=q
 have Fw:sW w U tz [B8,.blk a7 28 B7,B4,B3,B2,B1,B0] eJ:=Fr
 have q:=Fw.freezeR (k:=2) (n:=aK.Splits.length) rfl (wAE (f:=wAC) (sz:=2) (fun _=>rfl) aK.Splits) (by decide)
 obtain ⟨tE,mp,JH,FE⟩:=q
 have FF:sW w U tE [B8,.blk a7 28 B7,B3,B2,B1,B0] eJ:=FE
 have q:=FF.freezeR (k:=2) (n:=aK.Clocks.length) rfl (wAE (f:=wAB) (sz:=3) (fun _=>rfl) aK.Clocks) (by decide)
 obtain ⟨tH,iV,JL,FT⟩:=q
 have FU:sW w U tH [B8,.blk a7 28 B7,B2,B1,B0] eJ:=FT
 have q:=FU.freezeR (k:=2) (n:=aK.Readings.length) rfl (wAE (f:=wAA) (sz:=4) (fun _=>rfl) aK.Readings) (by decide)
 obtain ⟨oS,gh,sL,F5⟩:=q
 have F8:sW w U oS [B8,.blk a7 28 B7,B1,B0] eJ:=F5
 have Ac:=rj.le sY
 have Ae:=Ac.le mp
 have Ah:=Ae.le iV
 have Ak:=Ah.le gh
 have An:=JD.le mp
 have Aq:=An.le iV
 have rB:=Aq.le gh
 have Av:=JH.le iV
 have rF:=Av.le gh
 have rG:=JL.le gh
 refine zE 1 Z Z Z Z (zD Z Z Try.call10 (zB Z (zB Z zM)) Z) F8 (fun hs=>wCj dN fR jt lk aK dd dw de dx df dy dg dz eJ oS hs Ak rB rF rG sL lS) (.inl Z) ?_
 rintro j2 Lk Of uL gj GD ⟨ju,lm,jv,ln,jw,lp,jx,lq,th,vf,rfl,rfl,Nw⟩
 let B9:Res:=.blk fR 94 [.slice th dL.bytes.length vf,jV dL.next,.int .u32 dL.state]
 let n8:Res:=.row jx lq 39 4 (hD wAA a9.Readings)
 let oe:Res:=.row jw lp 43 3 (hD wAB a9.Clocks)
 let og:Res:=.row jv ln 41 2 (hD wAC a9.Splits)
 let oh:Res:=.row ju lm 3 1 (hD KL.encI a9.Starts)
 have GG:sW w U j2 [oh,og,oe,n8,B9,.blk a7 28 B7,B1,B0] uL:=GD
 refine zR (cs:=B6) Z Z Z Z Z Zs Z GG ?_
 intro L8 pF GH
 let oi:List Value:=[.slice ju a9.Starts.length lm,.slice jv a9.Splits.length ln,.slice jw a9.Clocks.length lp,.slice jx a9.Readings.length lq]
 refine zV (j:=0) (vs:=oi) Z Z Z Z GH Z Z Z Z zW (zA Z) Z Z Z ?_
 intro uN GL
 have GO:sW w U j2 [.blk pF 28 oi,oh,og,oe,n8,B9,.blk a7 28 B7,B1,B0] uN:=GL
 refine zc ?_
 cases iF
 have Dh:=rB.le gj
 have Di:=rF.le gj
 have Dj:=rG.le gj
 have Dk:=sL.le gj
 exact zI ⟨rfl,⟨j2,dd,dw,de,dx,df,dy,dg,dz,pF,ju,lm,jv,ln,jw,lp,jx,lq,rfl,rfl,rfl,(((((sX.trans sY).trans mp).trans iV).trans gh).trans gj),(GO.pick [6,8,0,1,2,3,4] _ (by decide) rfl),Dh,Di,Dj,Dk⟩⟩
 refine zR (cs:=B6) Z Z Z Z Z Zs Z sc ?_
 intro eO dS GX
 have q:=GX.freezeR (k:=3) (n:=aK.Starts.length) rfl (wAE (f:=KL.encI) (sz:=1) (fun _=>rfl) aK.Starts) (by decide)
 obtain ⟨tV,s7,JY,GY⟩:=q
 have GZ:sW w U tV [.blk dS 28 B6,B8,.blk a7 28 B7,B4,B3,B2,B1,B0] eO:=GY
 have q:=GZ.freezeR (k:=3) (n:=aK.Splits.length) rfl (wAE (f:=wAC) (sz:=2) (fun _=>rfl) aK.Splits) (by decide)
 obtain ⟨tW,mu,JZ,G0⟩:=q
 have G1:sW w U tW [.blk dS 28 B6,B8,.blk a7 28 B7,B3,B2,B1,B0] eO:=G0
 have q:=G1.freezeR (k:=3) (n:=aK.Clocks.length) rfl (wAE (f:=wAB) (sz:=3) (fun _=>rfl) aK.Clocks) (by decide)
 obtain ⟨tX,iZ,J2,G2⟩:=q
 have G3:sW w U tX [.blk dS 28 B6,B8,.blk a7 28 B7,B2,B1,B0] eO:=G2
 have q:=G3.freezeR (k:=3) (n:=aK.Readings.length) rfl (wAE (f:=wAA) (sz:=4) (fun _=>rfl) aK.Readings) (by decide)
 obtain ⟨j3,gm,sO,G4⟩:=q
 have G5:sW w U j3 [.blk dS 28 B6,B8,.blk a7 28 B7,B1,B0] eO:=G4
 have Dl:=rj.le s7
 have Dm:=Dl.le mu
 have Dn:=Dm.le iZ
 have Do:=Dn.le gm
 have Dp:=JY.le mu
 have Dq:=Dp.le iZ
 have rJ:=Dq.le gm
 have Dr:=JZ.le iZ
 have rK:=Dr.le gm
 have rL:=J2.le gm
 have G6:sW w U j3 [B8,.blk dS 28 B6,.blk a7 28 B7,B1,B0] eO:=G5.pick [1,0,2,3,4] _ (by decide) rfl
 refine zE 1 Z Z Z Z (zD Z Z Try.call10 (zB Z (zB Z zM)) Z) G6 (fun hs=>wCj dN fR jt lk aK dd dw de dx df dy dg dz eO j3 hs Do rJ rK rL sO lS) (.inl Z) ?_
 rintro j4 Ls Om uS gp G7 ⟨jy,lv,jz,lw,jA,lx,jB,ly,tj,vh,rfl,rfl,Nx⟩
 let oj:Res:=.blk fR 94 [.slice tj dL.bytes.length vh,jV dL.next,.int .u32 dL.state]
 let ol:Res:=.row jB ly 39 4 (hD wAA a9.Readings)
 let om:Res:=.row jA lx 43 3 (hD wAB a9.Clocks)
 let oo:Res:=.row jz lw 41 2 (hD wAC a9.Splits)
 let oq:Res:=.row jy lv 3 1 (hD KL.encI a9.Starts)
 have G8:sW w U j4 [oq,oo,om,ol,oj,.blk dS 28 B6,.blk a7 28 B7,B1,B0] uS:=G7
 let ot:List Value:=[.slice jy a9.Starts.length lv,.slice jz a9.Splits.length lw,.slice jA a9.Clocks.length lx,.slice jB a9.Readings.length ly]
 refine zV (j:=5) (vs:=ot) Z Z Z Z G8 Z Z Z Z zW (zA Z) Z Z Z ?_
 intro uT G9
 have Ha:sW w U j4 [oq,oo,om,ol,oj,.blk dS 28 ot,.blk a7 28 B7,B1,B0] uT:=G9
 refine zc ?_
 cases iF
 have Ds:=rJ.le gp
 have Dt:=rK.le gp
 have Du:=rL.le gp
 have Dv:=sO.le gp
 exact zI ⟨rfl,⟨j4,dd,dw,de,dx,df,dy,dg,dz,dS,jy,lv,jz,lw,jA,lx,jB,ly,rfl,rfl,rfl,(((((sX.trans s7).trans mu).trans iZ).trans gm).trans gp),(Ha.pick [6,8,5,0,1,2,3] _ (by decide) rfl),Ds,Dt,Du,Dv⟩⟩
 refine zR (cs:=B6) Z Z Z Z Z Zs Z iB ?_
 intro uU dT Hb
 have Dw:=sk.le mx
 have Dx:=Dw.le ms
 refine zE 0 Z Z Z Z (zD Z Z Try.call9 (zB Z zM) Z) Hb (fun hs=>wDE p1 i6 i8 uU fK hs Dx rQ) (.inr Z) ?_
 rintro tY Lt On eQ Kx Hc ⟨k3,mT,p4,rfl,rfl,Dy⟩
 let fB:Res:=.blk k3 94 [.slice mT dN.bytes.length p4,jV dN.next,.int .u32 dN.state]
 have He:sW w U tY [fB,.blk dT 28 B6,.blk a7 28 B7,B5,B4,B3,B2,B1,B0] eQ:=Hc
 have q:=He.freezeR (k:=3) (n:=aK.Starts.length) rfl (wAE (f:=KL.encI) (sz:=1) (fun _=>rfl) aK.Starts) (by decide)
 obtain ⟨tZ,s8,J3,Hf⟩:=q
 have Hg:sW w U tZ [fB,.blk dT 28 B6,.blk a7 28 B7,B4,B3,B2,B1,B0] eQ:=Hf
 have q:=Hg.freezeR (k:=3) (n:=aK.Splits.length) rfl (wAE (f:=wAC) (sz:=2) (fun _=>rfl) aK.Splits) (by decide)
 obtain ⟨t4,mw,J4,Hh⟩:=q
 have Hj:sW w U t4 [fB,.blk dT 28 B6,.blk a7 28 B7,B3,B2,B1,B0] eQ:=Hh
 have q:=Hj.freezeR (k:=3) (n:=aK.Clocks.length) rfl (wAE (f:=wAB) (sz:=3) (fun _=>rfl) aK.Clocks) (by decide)
 obtain ⟨t5,i2,J5,Hk⟩:=q
 have Hl:sW w U t5 [fB,.blk dT 28 B6,.blk a7 28 B7,B2,B1,B0] eQ:=Hk
 have q:=Hl.freezeR (k:=3) (n:=aK.Readings.length) rfl (wAE (f:=wAA) (sz:=4) (fun _=>rfl) aK.Readings) (by decide)
 obtain ⟨o7,gq,sP,Hm⟩:=q
 have Hn:sW w U o7 [fB,.blk dT 28 B6,.blk a7 28 B7,B1,B0] eQ:=Hm
 have Dz:=Dy.le s8
 have DA:=Dz.le mw
 have DB:=DA.le i2
 have DC:=DB.le gq
 have DD:=J3.le mw
 have DE:=DD.le i2
 have rM:=DE.le gq
 have DF:=J4.le i2
 have rO:=DF.le gq
 have rP:=J5.le gq
 refine zE 1 Z Z Z Z (zD Z Z Try.call10 (zB Z (zB Z zM)) Z) Hn (fun hs=>wCj dN k3 mT p4 aK dd dw de dx df dy dg dz eQ o7 hs DC rM rO rP sP lS) (.inl Z) ?_
 rintro j5 Lu Oo uV gt Ho ⟨jC,lz,jD,lA,jE,lB,jF,lC,tn,vk,rfl,rfl,Ny⟩
 let ou:Res:=.blk k3 94 [.slice tn dL.bytes.length vk,jV dL.next,.int .u32 dL.state]
 let ov:Res:=.row jF lC 39 4 (hD wAA a9.Readings)
 let ow:Res:=.row jE lB 43 3 (hD wAB a9.Clocks)
 let ox:Res:=.row jD lA 41 2 (hD wAC a9.Splits)
 let oy:Res:=.row jC lz 3 1 (hD KL.encI a9.Starts)
 have Hp:sW w U j5 [oy,ox,ow,ov,ou,.blk dT 28 B6,.blk a7 28 B7,B1,B0] uV:=Ho
 let oz:List Value:=[.slice jC a9.Starts.length lz,.slice jD a9.Splits.length lA,.slice jE a9.Clocks.length lB,.slice jF a9.Readings.length lC]
 refine zV (j:=5) (vs:=oz) Z Z Z Z Hp Z Z Z Z zW (zA Z) Z Z Z ?_
 intro uW Hq
 have Hr:sW w U j5 [oy,ox,ow,ov,ou,.blk dT 28 oz,.blk a7 28 B7,B1,B0] uW:=Hq
 refine zc ?_
 cases iF
 have DG:=rM.le gt
 have DH:=rO.le gt
 have DI:=rP.le gt
 have DJ:=sP.le gt
 exact zI ⟨rfl,⟨j5,dd,dw,de,dx,df,dy,dg,dz,dT,jC,lz,jD,lA,jE,lB,jF,lC,rfl,rfl,rfl,(((((Kx.trans s8).trans mw).trans i2).trans gq).trans gt),(Hr.pick [6,8,5,0,1,2,3] _ (by decide) rfl),DG,DH,DI,DJ⟩⟩
 rintro OY uX ⟨t6,gC,ic,gD,ie,gE,ig,gF,ii,aR,cR,cW,di,dB,dk,dC,dl,dD,wK,wL,fU,Ky,Hs,NB,NC,ND,NE⟩
 refine sR gFb Z (oM Z wK ?_)
 have DK:=HQ.le mx
 have DL:=DK.le ms
 have DM:=DL.le Ky
 refine bnK sI fun jd DN Jy=>zE 0 Z Z Z Z (zD Z Z Try.call9 (zB Z zM) Z) Hs (fun hs=>wDE p2 i7 i9 uX t6 hs DM DN) (.inr Z) ?_
 rintro o8 Lv Oq py NO Hu ⟨bZ,mU,p6,rfl,rfl,DO⟩
 let ac:Res:=.blk a7 28 [.slice gC iM.length ic,.slice gD iN.length ie,.slice gE iO.length ig,.slice gF iP.length ii]
 let bi:List Value:=[.slice cR cN.length cW,.slice di dG.length dB,.slice dk dH.length dC,.slice dl dI.length dD]
 let eG:Res:=.row dl dD 39 4 (hD wAA dI)
 let fC:Res:=.row dk dC 43 3 (hD wAB dH)
 let gG:Res:=.row di dB 41 2 (hD wAC dG)
 let oB:Res:=.blk bZ 94 [.slice mU jd.bytes.length p6,jV jd.next,.int .u32 jd.state]
 let jI:Res:=.row cR cW 3 1 (hD KL.encI cN)
 have Hv:sW w U o8 [oB,ac,B0,.blk aR 28 bi,jI,gG,fC,eG] py:=Hu
 refine oA Z Z (eN (sR gFb Z (oM Z wL (bnK Jy fun ay DP Jz=>zE 0 Z Z Z Z (zD Z Z Try.call11 (zB Z (zB Z zM)) Z) Hv (fun hs=>wFa p3 5000 py o8 hs DP) (.inr Z) ?_))))
 rintro o9 Lx Ot pz Kz Hw ⟨rfl,rfl⟩
 have sj:sW w U o9 [oB,ac,B0,.blk aR 28 bi,jI,gG,fC,eG] pz:=Hw
 refine oA Z Z (eN (sR (wDl (.fx 4 (.fl 5 .nil) .stop)) Z (oM Z Z (oR Z (zG Z fU zK Z ZD) (oL Z (sj.ldB (j:=3) Z Z Z ZL (v:=.slice cR cN.length cW) Z) (oR Z (zw Z Z zH) ?_))))))
 have DQ:=DO.le Kz
 have q:=bnd Jz
 obtain ⟨⟨aL,je⟩,DR,sG⟩:=q
 try dsimp only at sG
 refine zE 1 Z Z Z Z (zD Z Z Try.call12 (zB Z (zB Z zM)) Z) sj (fun hs=>wCo jd bZ mU p6 (↑cN.length:Int) pz o9 hs DQ DR) (.inl Z) ?_
 rintro pd Ly Ou eo NP Hy ⟨cc,cm,mV,p7,rfl,rfl,DS⟩
 let ae:Res:=.row cc cm 3 1 (hD KL.encI aL)
 let bw:Res:=.blk bZ 94 [.slice mV je.bytes.length p7,jV je.next,.int .u32 je.state]
 have Hz:sW w U pd [ae,bw,ac,B0,.blk aR 28 bi,jI,gG,fC,eG] eo:=Hy
 refine oA Z Z (eN ?_)
 have q:=bnd sG
 obtain ⟨⟨dF,d9,ec,cM,f5,bg,bh,mn,cX,bJ,bK,co,bL,bM,cp,f6⟩,Kc,sH⟩:=q
 try dsimp only at sH
 refine yP (fun σ_ w_=>∃ (U_:PHeap) (dh:Option Addr) (dA:Nat) (dO:Option Addr) (dU:Nat) (dP:Option Addr) (dV:Nat) (cQ:Option Addr) (cV:Nat) (bj:Nat) (a5:Option Addr) (a8:Nat) (bm:Option Addr) (br:Nat) (bn:Option Addr) (bs:Nat) (gB:Option Addr) (ib:Nat) (bA:Nat) (bo:Option Addr) (bt:Nat) (bO:Option Addr) (bS:Nat) (bP:Option Addr) (bT:Nat) (bp:Option Addr) (bu:Nat) (bB:Nat) (bQ:Option Addr) (bU:Nat) (bR:Option Addr) (bV:Nat) (bd:Option Addr) (bf:Nat) (bq:Option Addr) (bv:Nat),σ_ 12=.pointer (some ⟨aR,0,none⟩)/\σ_ 13=.pointer (some ⟨bZ,0,none⟩)/\σ_ 14=jV ay/\σ_ 15=.slice cc aL.length cm/\σ_ 16=.pointer (some ⟨bj,0,none⟩)/\σ_ 17=.pointer (some ⟨bA,0,none⟩)/\σ_ 18=.pointer (some ⟨bB,0,none⟩)/\PHeap.Le pd U_/\sW w U U_ [bw,ac,B0,.blk aR 28 [.slice dh dF.length dA,.slice dO d9.length dU,.slice dP ec.length dV,.slice cQ cM.length cV],ae,.blk bj 28 [.slice a5 f5.length a8,.slice bm bg.length br,.slice bn bh.length bs,.slice gB mn.length ib],.row a5 a8 3 1 (hD KL.encI f5),.row bm br 41 2 (hD wAC bg),.row bn bs 43 3 (hD wAB bh),.row gB ib 39 4 (hD wAA mn),.blk bA 28 [.slice bo cX.length bt,.slice bO bJ.length bS,.slice bP bK.length bT,.slice bp co.length bu],.row bo bt 3 1 (hD KL.encI cX),.row bO bS 41 2 (hD wAC bJ),.row bP bT 43 3 (hD wAB bK),.row bp bu 39 4 (hD wAA co),.blk bB 28 [.slice bQ bL.length bU,.slice bR bM.length bV,.slice bd cp.length bf,.slice bq f6.length bv],.row bQ bU 3 1 (hD KL.encI bL),.row bR bV 41 2 (hD wAC bM),.row bd bf 43 3 (hD wAB cp),.row bq bv 39 4 (hD wAA f6)] w_/\Sl U_ 1 dh dA dF.length (hD KL.encI dF)/\Sl U_ 2 dO dU d9.length (hD wAC d9)/\Sl U_ 3 dP dV ec.length (hD wAB ec)/\Sl U_ 4 cQ cV cM.length (hD wAA cM)) ?_ ?_
 have q:=Hz.freezeR (k:=5) (n:=cN.length) rfl (wAE (f:=KL.encI) (sz:=1) (fun _=>rfl) cN) (by decide)
 obtain ⟨t7,KA,iI,HC⟩:=q
 have HD:sW w U t7 [ae,bw,ac,B0,.blk aR 28 bi,gG,fC,eG] eo:=HC
 have q:=HD.freezeR (k:=5) (n:=dG.length) rfl (wAE (f:=wAC) (sz:=2) (fun _=>rfl) dG) (by decide)
 obtain ⟨t8,gu,iJ,HE⟩:=q
 have HF:sW w U t8 [ae,bw,ac,B0,.blk aR 28 bi,fC,eG] eo:=HE
 have q:=HF.freezeR (k:=5) (n:=dH.length) rfl (wAE (f:=wAB) (sz:=3) (fun _=>rfl) dH) (by decide)
 obtain ⟨t9,dK,iK,HG⟩:=q
 have HH:sW w U t9 [ae,bw,ac,B0,.blk aR 28 bi,eG] eo:=HG
 have q:=HH.freezeR (k:=5) (n:=dI.length) rfl (wAE (f:=wAA) (sz:=4) (fun _=>rfl) dI) (by decide)
 obtain ⟨pe,cr,iL,HI⟩:=q
 have HJ:sW w U pe [ae,bw,ac,B0,.blk aR 28 bi] eo:=HI
 refine bnK Kc fun Oz NF JA=>bnK JA fun OA NG JB=>bnK JB fun aj lX JC=>ZG ZH [1,2,1,2,1,2,2,2,2,0,0,0] (.fl 0 (.fl 2 (.fl 4 (adT [(1,[0]),(3,[1,2]),(5,[3,4]),(6,[]),(7,[]),(8,[])] (.fx 9 (.fx 10 (.fx 11 .nil .stop) .stop) .stop) 7 [1,3,5,6,7,8] [0,2,4])))) (by kernel_rfl) ?_
 have fZ:=HJ.drew
 generalize hw_W835:({ eo with drawn:=eo.drawn + 1 }:World)=Me at fZ ⊢
 refine ZF rfl rfl rfl rfl (fZ.ldBA (j:=4) rfl rfl fU zg zW (vs:=bi) rfl rfl) rfl (ZF rfl rfl rfl rfl (fZ.ldBA (j:=4) rfl rfl fU zg zW (vs:=bi) rfl rfl) rfl (ZF rfl rfl rfl rfl (fZ.ldBA (j:=4) rfl rfl fU zg zW (vs:=bi) rfl rfl) rfl (OKS.adders (U0:=pe) (L0:=[ae,bw,ac,B0,.blk aR 28 bi]) [(1,[0]),(3,[1,2]),(5,[3,4]),(6,[]),(7,[]),(8,[])] [⟨1,62,fun v R=>∃ (mW:Option Addr) (p8:Nat) (mX:Option Addr) (p9:Nat) (mY:Option Addr) (qa:Nat) (mZ:Option Addr) (qb:Nat),v=.agg #[.slice mW aj.Starts.length p8,.slice mX aj.Splits.length p9,.slice mY aj.Clocks.length qa,.slice mZ aj.Readings.length qb]/\R=[.row mW p8 3 1 (hD KL.encI aj.Starts),.row mX p9 41 2 (hD wAC aj.Splits),.row mY qa 43 3 (hD wAB aj.Clocks),.row mZ qb 39 4 (hD wAA aj.Readings)]⟩,⟨3,64,fun v R=>∃ (m3:Option Addr) (qc:Nat) (m4:Option Addr) (qd:Nat) (m5:Option Addr) (qe:Nat) (m6:Option Addr) (qf:Nat),v=.agg #[.slice m3 aj.Starts.length qc,.slice m4 aj.Splits.length qd,.slice m5 aj.Clocks.length qe,.slice m6 aj.Readings.length qf]/\R=[.row m3 qc 3 1 (hD KL.encI aj.Starts),.row m4 qd 41 2 (hD wAC aj.Splits),.row m5 qe 43 3 (hD wAB aj.Clocks),.row m6 qf 39 4 (hD wAA aj.Readings)]⟩,⟨5,66,fun v R=>∃ (m7:Option Addr) (qh:Nat) (m8:Option Addr) (qi:Nat) (m9:Option Addr) (qj:Nat) (n3:Option Addr) (qk:Nat),v=.agg #[.slice m7 aj.Starts.length qh,.slice m8 aj.Splits.length qi,.slice m9 aj.Clocks.length qj,.slice n3 aj.Readings.length qk]/\R=[.row m7 qh 3 1 (hD KL.encI aj.Starts),.row m8 qi 41 2 (hD wAC aj.Splits),.row m9 qj 43 3 (hD wAB aj.Clocks),.row n3 qk 39 4 (hD wAA aj.Readings)]⟩,⟨6,16,fun v R=>∃ (pG:Nat),v=.pointer (some ⟨pG,0,none⟩)/\R=[.blk pG 28 B6]⟩,⟨7,17,fun v R=>∃ (pH:Nat),v=.pointer (some ⟨pH,0,none⟩)/\R=[.blk pH 28 B6]⟩,⟨8,18,fun v R=>∃ (pI:Nat),v=.pointer (some ⟨pI,0,none⟩)/\R=[.blk pI 28 B6]⟩] [(12,.pointer (some ⟨aR,0,none⟩)),(13,.pointer (some ⟨bZ,0,none⟩)),(14,jV ay),(15,.slice cc aL.length cm),(61,.agg bi.toArray),(63,.agg bi.toArray),(65,.agg bi.toArray)] [0,2,4] (by rfl) (nJ.2 ⟨?_,nJ.2 ⟨?_,nJ.2 ⟨?_,nJ.2 ⟨?_,nJ.2 ⟨?_,nJ.2 ⟨?_,fun _ h=>nomatch h⟩⟩⟩⟩⟩⟩) ?_ ⟨fU,rfl,rfl,rfl,rfl,rfl,rfl,trivial⟩ fZ)))
 intro KG KS pC ua tq Iw i3 HL Ki
 obtain ⟨Nc,Nd,Nf,Ng,wM,Nh,Ni,_⟩:=Iw
 show OKS _ _ _ _ _ _ (.fx 1 KG .stop) KS pC
 have DT:=iI.le gu
 have DU:=DT.le dK
 have DV:=DU.le cr
 have DW:=DV.le i3
 have DX:=iJ.le dK
 have DY:=DX.le cr
 have DZ:=DY.le i3
 have D0:=iK.le cr
 have D1:=D0.le i3
 have D5:=iL.le i3
 refine zE 0 Z Z Z Z (zD Z Z Try.call13 (zB wM zM) Z) HL (fun hs=>wBz (⟨cN,dG,dH,dI⟩:wAD) cR cW di dB dk dC dl dD pC ua hs DW DZ D1 D5 lX) (.inr Z) ?_
 rintro ub Lz Ow uY KB HM ⟨n4,qm,n5,qn,n6,qo,n7,qp,rfl,rfl⟩
 have HN:sW w U ub (.row n4 qm 3 1 (hD KL.encI aj.Starts) :: .row n5 qn 41 2 (hD wAC aj.Splits) :: .row n6 qo 43 3 (hD wAB aj.Clocks) :: .row n7 qp 39 4 (hD wAA aj.Readings) :: (tq ++ [ae,bw,ac,B0,.blk aR 28 bi])) uY:=HM
 exact Ki _ _ _ _ KB HN ⟨n4,qm,n5,qn,n6,qo,n7,qp,Z,Z⟩
 intro KH KT pD uc tr Ix i4 HO Kj
 obtain ⟨Nj,Nk,Nl,Nn,No,wN,Np,_⟩:=Ix
 show OKS _ _ _ _ _ _ (.fx 3 KH .stop) KT pD
 have D6:=iI.le gu
 have D7:=D6.le dK
 have D8:=D7.le cr
 have D9:=D8.le i4
 have Ea:=iJ.le dK
 have Eb:=Ea.le cr
 have Ec:=Eb.le i4
 have Ee:=iK.le cr
 have Ef:=Ee.le i4
 have Eg:=iL.le i4
 refine zE 0 Z Z Z Z (zD Z Z Try.call13 (zB wN zM) Z) HO (fun hs=>wBz (⟨cN,dG,dH,dI⟩:wAD) cR cW di dB dk dC dl dD pD uc hs D9 Ec Ef Eg lX) (.inr Z) ?_
 rintro ud KU NV ue Kk En ⟨mH,pJ,mI,pK,mJ,pL,mK,pM,rfl,rfl⟩
 have Eo:sW w U ud (.row mH pJ 3 1 (hD KL.encI aj.Starts) :: .row mI pK 41 2 (hD wAC aj.Splits) :: .row mJ pL 43 3 (hD wAB aj.Clocks) :: .row mK pM 39 4 (hD wAA aj.Readings) :: (tr ++ [ae,bw,ac,B0,.blk aR 28 bi])) ue:=En
 exact Kj _ _ _ _ Kk Eo ⟨mH,pJ,mI,pK,mJ,pL,mK,pM,Z,Z⟩
 intro KC KO pf tt tp Ir iQ Ep Ke
 obtain ⟨My,Mz,MA,MB,MC,MD,vn,_⟩:=Ir
 show OKS _ _ _ _ _ _ (.fx 5 KC .stop) KO pf
 have wV:=iI.le gu
 have wW:=wV.le dK
 have wX:=wW.le cr
 have wY:=wX.le iQ
 have wZ:=iJ.le dK
 have w5:=wZ.le cr
 have w6:=w5.le iQ
 have w7:=iK.le cr
 have w8:=w7.le iQ
 have w9:=iL.le iQ
 refine zE 0 Z Z Z Z (zD Z Z Try.call13 (zB vn zM) Z) Ep (fun hs=>wBz (⟨cN,dG,dH,dI⟩:wAD) cR cW di dB dk dC dl dD pf tt hs wY w6 w8 w9 lX) (.inr Z) ?_
 rintro tu KV NW uf Kl Er ⟨mL,pN,mM,pO,mN,pP,mO,pQ,rfl,rfl⟩
 have Es:sW w U tu (.row mL pN 3 1 (hD KL.encI aj.Starts) :: .row mM pO 41 2 (hD wAC aj.Splits) :: .row mN pP 43 3 (hD wAB aj.Clocks) :: .row mO pQ 39 4 (hD wAA aj.Readings) :: (tp ++ [ae,bw,ac,B0,.blk aR 28 bi])) uf:=Er
 exact Ke _ _ _ _ Kl Es ⟨mL,pN,mM,pO,mN,pP,mO,pQ,Z,Z⟩
 intro KD KP ug LG KW Is NH Et Kf
 obtain ⟨ME,MF,MG,MH,MI,MJ,MK,_⟩:=Is
 show OKS _ _ _ _ _ _ (.fx 6 KD .stop) KP ug
 refine zR (cs:=B6) Z Z Z Z Z Zs Z Et ?_
 intro LK uZ Eu
 exact Kf _ _ _ _ (zO _) Eu ⟨uZ,Z,Z⟩
 intro KE KQ uh LH KY It NI Ev Kg
 obtain ⟨ML,MM,MN,MO,MP,MQ,MR,_⟩:=It
 show OKS _ _ _ _ _ _ (.fx 7 KE .stop) KQ uh
 refine zR (cs:=B6) Z Z Z Z Z Zs Z Ev ?_
 intro LL u3 Ew
 exact Kg _ _ _ _ (zO _) Ew ⟨u3,Z,Z⟩
 intro KF KR ui LI KZ Iu NJ Ex Kh
 obtain ⟨MS,MT,MU,MV,MW,MX,MY,_⟩:=Iu
 show OKS _ _ _ _ _ _ (.fx 8 KF .stop) KR ui
 refine zR (cs:=B6) Z Z Z Z Z Zs Z Ex ?_
 intro LM u4 Ey
 exact Kh _ _ _ _ (zO _) Ey ⟨u4,Z,Z⟩
 refine fun NX LA xa NY LB xb NZ LC xc N0 LD xd N2 LE xe N3 LF xf=>?_
 obtain ⟨jf,k5,jg,k6,jh,k7,ji,k8,rfl,rfl⟩:=xa
 obtain ⟨jj,k9,jk,lb,jl,lc,jm,lf,rfl,rfl⟩:=xb
 obtain ⟨jo,lg,jp,lh,jq,li,jr,lj,rfl,rfl⟩:=xc
 obtain ⟨fN,rfl,rfl⟩:=xd
 obtain ⟨fO,rfl,rfl⟩:=xe
 obtain ⟨fP,rfl,rfl⟩:=xf
 intro OH uj fG Iv J6 f7 Ez
 obtain ⟨vo,vp,vq,vr,MZ,M0,M6,_⟩:=Iv
 obtain ⟨vt,vu,vv,qq,qr,qs,_⟩:=J6
 let gH:Res:=.row ji k8 39 4 (hD wAA aj.Readings)
 let gI:Res:=.row jm lf 39 4 (hD wAA aj.Readings)
 let gJ:Res:=.row jr lj 39 4 (hD wAA aj.Readings)
 let gK:Res:=.row jh k7 43 3 (hD wAB aj.Clocks)
 let gL:Res:=.row jl lc 43 3 (hD wAB aj.Clocks)
 let gM:Res:=.row jq li 43 3 (hD wAB aj.Clocks)
 let gN:Res:=.row jg k6 41 2 (hD wAC aj.Splits)
 let gO:Res:=.row jk lb 41 2 (hD wAC aj.Splits)
 let gP:Res:=.row jp lh 41 2 (hD wAC aj.Splits)
 let gQ:Res:=.row jf k5 3 1 (hD KL.encI aj.Starts)
 let gR:Res:=.row jj k9 3 1 (hD KL.encI aj.Starts)
 let gS:Res:=.row jo lg 3 1 (hD KL.encI aj.Starts)
 have EA:sW w U fG [gQ,gN,gK,gH,gR,gO,gL,gI,gS,gP,gM,gJ,.blk fN 28 B6,.blk fO 28 B6,.blk fP 28 B6,ae,bw,ac,B0,.blk aR 28 bi] uj:=Ez
 let gT:List Value:=[.slice jf aj.Starts.length k5,.slice jg aj.Splits.length k6,.slice jh aj.Clocks.length k7,.slice ji aj.Readings.length k8]
 refine zV (j:=12) (vs:=gT) Z Z Z Z EA Z qq vt Z zW (zA Z) Z Z Z ?_
 intro uk EB
 have EC:sW w U fG [gQ,gN,gK,gH,gR,gO,gL,gI,gS,gP,gM,gJ,.blk fN 28 gT,.blk fO 28 B6,.blk fP 28 B6,ae,bw,ac,B0,.blk aR 28 bi] uk:=EB
 let jJ:List Value:=[.slice jj aj.Starts.length k9,.slice jk aj.Splits.length lb,.slice jl aj.Clocks.length lc,.slice jm aj.Readings.length lf]
 refine zV (j:=13) (vs:=jJ) Z Z Z Z EC Z qr vu Z zW (zA Z) Z Z Z ?_
 intro ul ED
 have EE:sW w U fG [gQ,gN,gK,gH,gR,gO,gL,gI,gS,gP,gM,gJ,.blk fN 28 gT,.blk fO 28 jJ,.blk fP 28 B6,ae,bw,ac,B0,.blk aR 28 bi] ul:=ED
 let oC:List Value:=[.slice jo aj.Starts.length lg,.slice jp aj.Splits.length lh,.slice jq aj.Clocks.length li,.slice jr aj.Readings.length lj]
 refine zV (j:=14) (vs:=oC) Z Z Z Z EE Z qs vv Z zW (zA Z) Z Z Z ?_
 intro um EF
 have EG:sW w U fG [gQ,gN,gK,gH,gR,gO,gL,gI,gS,gP,gM,gJ,.blk fN 28 gT,.blk fO 28 jJ,.blk fP 28 oC,ae,bw,ac,B0,.blk aR 28 bi] um:=EF
 refine zc ?_
 cases JC
 have xg:=iI.le gu
 have xh:=xg.le dK
 have xi:=xh.le cr
 have xj:=xi.le f7
 have xk:=iJ.le dK
 have xl:=xk.le cr
 have xm:=xl.le f7
 have xn:=iK.le cr
 have xo:=xn.le f7
 have xp:=iL.le f7
 exact zI ⟨rfl,⟨fG,cR,cW,di,dB,dk,dC,dl,dD,fN,jf,k5,jg,k6,jh,k7,ji,k8,fO,jj,k9,jk,lb,jl,lc,jm,lf,fP,jo,lg,jp,lh,jq,li,jr,lj,vo,vp,vq,vr,qq,qr,qs,((((KA.trans gu).trans dK).trans cr).trans f7),(EG.pick [16,17,18,19,15,12,0,1,2,3,13,4,5,6,7,14,8,9,10,11] _ (by decide) rfl),xj,xm,xo,xp⟩⟩
 rintro OI LN ⟨jT,dh,dA,dO,dU,dP,dV,cQ,cV,bj,a5,a8,bm,br,bn,bs,gB,ib,bA,bo,bt,bO,bS,bP,bT,bp,bu,bB,bQ,bU,bR,bV,bd,bf,bq,bv,vw,vx,vy,qt,qu,vz,vA,Km,EH,qX,xq,xr,qY⟩
 refine sR (.fl 0 (.fx 1 .nil .stop)) Z (oR Z (zG Z qu zK Z ZW) (zV (j:=5) (vs:=[.slice none 0 0]) Z Z Z Z EH Z Z Z Z ZW (zA Z) Z Z Z ?_))
 intro un EI
 let ag:Res:=.blk aR 28 [.slice dh dF.length dA,.slice dO d9.length dU,.slice dP ec.length dV,.slice cQ cM.length cV]
 let ah:Res:=.row bR bV 41 2 (hD wAC bM)
 let ak:Res:=.row bP bT 43 3 (hD wAB bK)
 let am:Res:=.row bO bS 41 2 (hD wAC bJ)
 let ai:Res:=.row bQ bU 3 1 (hD KL.encI bL)
 let az:Res:=.row bn bs 43 3 (hD wAB bh)
 let bF:Res:=.blk bB 28 [.slice bQ bL.length bU,.slice bR bM.length bV,.slice bd cp.length bf,.slice bq f6.length bv]
 let aI:Res:=.row bm br 41 2 (hD wAC bg)
 let ct:Res:=.blk bA 28 [.slice bo cX.length bt,.slice bO bJ.length bS,.slice bP bK.length bT,.slice bp co.length bu]
 let bb:Res:=.row bd bf 43 3 (hD wAB cp)
 let bG:Res:=.row bp bu 39 4 (hD wAA co)
 let bH:Res:=.row bq bv 39 4 (hD wAA f6)
 let cu:Res:=.row bo bt 3 1 (hD KL.encI cX)
 have EJ:sW w U jT [bw,ac,B0,ag,ae,.blk bj 28 [.slice a5 f5.length a8,.slice bm bg.length br,.slice bn bh.length bs,.slice none 0 0],.row a5 a8 3 1 (hD KL.encI f5),aI,az,.row gB ib 39 4 (hD wAA mn),ct,cu,am,ak,bG,bF,ai,ah,bb,bH] un:=EI
 refine eN (zL (sR fL3 Z (oM Z qt (oR Z (zw Z Z zH) (oM Z Z (eN (zd (bnK sH fun bN HS Iy=>?_))))))))
 have q:=wAx HS
 obtain ⟨mg,HT⟩:=q
 replace mg:=zN mg
 refine CK.forN' (fun dZ cL σ_ w_=>∃ (U_:PHeap),σ_ 70=jV (↑dZ:Int)/\σ_ 12=.pointer (some ⟨aR,0,none⟩)/\σ_ 13=.pointer (some ⟨bZ,0,none⟩)/\σ_ 14=jV ay/\σ_ 15=.slice cc aL.length cm/\σ_ 16=.pointer (some ⟨bj,0,none⟩)/\σ_ 17=.pointer (some ⟨bA,0,none⟩)/\σ_ 18=.pointer (some ⟨bB,0,none⟩)/\σ_ 68=.slice cc aL.length cm/\σ_ 69=jV (↑aL.length:Int)/\PHeap.Le jT U_/\sW w U U_ [bw,ac,B0,ag,.row a5 a8 3 1 (hD KL.encI cL),aI,az,.blk bj 28 [.slice a5 cL.length a8,.slice bm bg.length br,.slice bn bh.length bs,.slice none 0 0],cu,am,ak,bG,ct,ai,ah,bb,bH,bF,ae] w_/\cL.length=f5.length) HT ?_ ?_ ?_
 exact ⟨jT,rfl,vw,vx,vy,qt,qu,vz,vA,rfl,rfl,(zO _),(EJ.pick [0,1,2,3,6,7,8,5,11,12,13,14,10,16,17,18,19,15,4] _ (by decide) rfl),rfl⟩
 rintro dZ cL OB OJ pg ma ⟨jU,il,qv,vB,vC,vD,qw,vE,vF,qx,qy,sU,lY,xt⟩ J7
 have pS:Hid ((↑dZ:Int) < (↑aL.length:Int)):=zN (wAs ma)
 replace ma:=zN ma
 have Il:Hid (w64 ((↑dZ:Int) + 1)=(↑(dZ + 1):Int)):=zN (by have h1:=mg.out;have h2:=pS.out;rw [wAW] <;> omega)
 refine sR fL1 Z (oR Z (zi Z il qy) (eN (zL (cT Z pS (kN (zL (zd (sR fL5 Z (oM Z il (bnK J7 fun _ lR Iz=>?_))))))))))
 obtain ⟨Mg,rS⟩:=lY.rowSome (j:=18) rfl (by rw [wAE (f:=KL.encI) (sz:=1) (fun _=>rfl) aL];have hz:=wAT lR;omega)
 refine oR Z (Zh Z qx rS il zH zC (wAT lR)) ?_
 have H3:=wBA (xs:=aL) (wAT lR)
 refine ZF rfl rfl rfl rfl (lY.ldR (j:=18) rfl rS rfl rfl zJ (wAV (sz:=1) (fun _=>rfl) _ _ 0 _ H3 (by first | omega | rfl | simp) rfl)) rfl (yF rfl rfl rfl rfl rfl rfl (yF rfl rfl rfl rfl rfl rfl (eN (ZG ZH [3,1,3,3,1,3,3,1,3,0] (wMR (.fx 9 .nil .stop)) (by kernel_rfl) ?_))))
 have ff:=lY.drew
 generalize hw_W1322:({ pg with drawn:=pg.drawn + 1 }:World)=LO at ff ⊢
 refine oR Z (zG Z qw zK Z ZD) (oL Z (ff.ldB (j:=7) Z Z Z ZL (v:=.slice a5 cL.length a8) Z) (oM Z Z (oR Z (zG Z qv zK Z ZD) (oL Z (ff.ldB (j:=3) Z Z Z ZL (v:=.slice dh dF.length dA) Z) (oM Z Z (bnK Iz fun gw qZ IA=>?_))))))
 have xu:=qX.le sU
 have q:=xu.el (fun _=>rfl) (wAj qZ)
 obtain ⟨Mh,NQ,Eh,Ek⟩:=q
 refine oR Z (Zh Z Z Eh Z zH zC (wCv qZ)) (oL Z (ff.ldC (f:=0) Ek (v:=jV gw) Z Z zJ Z) (bnK IA fun _ fV IB=>?_))
 obtain ⟨Mj,rT⟩:=ff.rowSome (j:=4) rfl (by rw [wAE (f:=KL.encI) (sz:=1) (fun _=>rfl) cL];have hz:=wAT fV;omega)
 refine oR Z (Zb Z Z rT Z zH zC (wBO fV) (wBP fV)) ?_
 have H4:=wBA (xs:=cL) (wAT fV)
 refine yW (j:=4) (vs:=[jV gw]) (cs':=hD KL.encI (hJ cL (gd aL dZ).toNat gw)) rfl rfl rfl rfl ff rfl rT rfl rfl rfl zC (by rw [wAE (f:=KL.encI) (sz:=1) (fun _=>rfl)];have hz:=wAT fV;show _ + 1 <= _;first | omega | (simp only [nE];omega) | (simp only [nD,nA,nB];omega)) rfl (wBt (sz:=1) (fo:=0) (fun _=>rfl) _ _ _ _ H4 (by first | omega | (simp only [nE];omega) | (simp only [nD,nA,nB];omega)) (zA rfl) rfl) rfl ?_
 intro ph EK
 let jK:Res:=.row a5 a8 3 1 (hD KL.encI (hJ cL (gd aL dZ).toNat gw))
 have EL:sW w U jU [bw,ac,B0,ag,jK,aI,az,.blk bj 28 [.slice a5 cL.length a8,.slice bm bg.length br,.slice bn bh.length bs,.slice none 0 0],cu,am,ak,bG,ct,ai,ah,bb,bH,bF,ae] ph:=EK
 have EM:sW w U jU [bw,ac,B0,ag,jK,aI,az,.blk bj 28 [.slice a5 ((hJ cL (gd aL dZ).toNat gw).length) a8,.slice bm bg.length br,.slice bn bh.length bs,.slice none 0 0],cu,am,ak,bG,ct,ai,ah,bb,bH,bF,ae] ph:=by simpa only [B0,ac,ae,bw,ag,ah,ak,am,ai,az,bF,aI,ct,bb,bG,bH,cu,jK,nI] using EL
 refine zc (ZA (zI (rR fL2 Z (oR Z (ZM (zb Z il Z) (congrArg (jV) Il.out)) (oM Z Z (zc ?_))))))
 cases IB
 exact zI ⟨Z,⟨jU,Z,qv,vB,vC,vD,qw,vE,vF,qx,qy,sU,EM,(nI.trans xt)⟩⟩
 rintro OL uo ⟨tv,wO,qz,qA,vG,vH,vI,vJ,vK,M7,vL,fm,r6,Nq⟩
 have u9:Hid (¬ ((↑(((↑aL.length:Int):Int) - 0).toNat:Int) < (↑aL.length:Int))):=zN (wAc)
 refine sR fL1 Z (oR Z (zi Z wO vL) (eN (zL (cF Z u9 (Zc (zm (zm (ZY (zI (zL (sR (wDl (.fx 4 (.fl 5 (.fl 6 .nil)) .stop)) Z (oM Z qA (oR Z (zG Z qz zK Z ZW) (oL Z (r6.ldB (j:=3) Z Z Z Zm (v:=.slice cQ cM.length cV) Z) (oR Z (zw Z Z zy) ?_)))))))))))))))
 have xv:=DS.le Km
 have xw:=xv.le fm
 have q:=bnd Iy
 obtain ⟨⟨eh,jb⟩,xx,sn⟩:=q
 try dsimp only at sn
 refine zE 1 Z Z Z Z (zD Z Z Try.call12 (zB Z (zB Z zM)) Z) r6 (fun hs=>wCo je bZ mV p7 (↑cM.length:Int) uo tv hs xw xx) (.inl Z) ?_
 rintro jW K8 N4 up f8 EN ⟨mQ,pT,mR,pU,rfl,rfl,xz⟩
 let aW:Res:=.blk bZ 94 [.slice mR jb.bytes.length pU,jV jb.next,.int .u32 jb.state]
 let aQ:Res:=.row a5 a8 3 1 (hD KL.encI bN)
 let ek:Res:=.row mQ pT 3 1 (hD KL.encI eh)
 have EO:sW w U jW [ek,aW,ac,B0,ag,aQ,aI,az,.blk bj 28 [.slice a5 bN.length a8,.slice bm bg.length br,.slice bn bh.length bs,.slice none 0 0],cu,am,ak,bG,ct,ai,ah,bb,bH,bF,ae] up:=EN
 refine oR Z (zw Z Z zH) (oM Z Z (eN (zd (bnK sn fun cD HU IC=>?_))))
 have q:=wAx HU
 obtain ⟨mh,HV⟩:=q
 replace mh:=zN mh
 refine CK.forN' (fun f4 ew σ_ w_=>∃ (U_:PHeap) (eA:Option Addr) (eU:Nat),σ_ 91=jV (↑f4:Int)/\σ_ 12=.pointer (some ⟨aR,0,none⟩)/\σ_ 13=.pointer (some ⟨bZ,0,none⟩)/\σ_ 14=jV ay/\σ_ 15=.slice cc aL.length cm/\σ_ 16=.pointer (some ⟨bj,0,none⟩)/\σ_ 17=.pointer (some ⟨bA,0,none⟩)/\σ_ 18=.pointer (some ⟨bB,0,none⟩)/\σ_ 89=.slice mQ eh.length pT/\σ_ 90=jV (↑eh.length:Int)/\PHeap.Le jW U_/\sW w U U_ [aW,ac,B0,ag,aQ,aI,az,.row eA eU 39 4 (hD wAA ew),.blk bj 28 [.slice a5 bN.length a8,.slice bm bg.length br,.slice bn bh.length bs,.slice eA ew.length eU],cu,am,ak,bG,ct,ai,ah,bb,bH,bF,ae,ek] w_) HV ?_ ?_ ?_
 have EP:=EO.nilrow 39 4
 exact ⟨jW,none,0,rfl,qz,qA,vG,vH,vI,vJ,vK,rfl,rfl,(zO _),(EP.pick [2,3,4,5,6,7,8,0,9,10,11,12,13,14,15,16,17,18,19,20,1] _ (by decide) rfl)⟩
 rintro f4 ew OC OM LP mb ⟨eI,eA,eU,lN,qB,vM,vN,qC,lD,vO,vP,qD,qE,sV,fY⟩ J8
 have pV:Hid ((↑f4:Int) < (↑eh.length:Int)):=zN (wAs mb)
 replace mb:=zN mb
 have Im:Hid (w64 ((↑f4:Int) + 1)=(↑(f4 + 1):Int)):=zN (by have h1:=mh.out;have h2:=pV.out;rw [wAW] <;> omega)
 refine sR fL1 Z (oR Z (zi Z lN qE) (eN (zL (cT Z pV (kN (zL (zd (sR fL3 Z (bnK J8 fun _ lT ID=>?_)))))))))
 obtain ⟨Mk,rV⟩:=fY.rowSome (j:=20) rfl (by rw [wAE (f:=KL.encI) (sz:=1) (fun _=>rfl) eh];have hz:=wAT lT;omega)
 refine oR Z (Zh Z qD rV lN zH zC (wAT lT)) ?_
 have H5:=wBA (xs:=eh) (wAT lT)
 refine ZF rfl rfl rfl rfl (fY.ldR (j:=20) rfl rV rfl rfl zJ (wAV (sz:=1) (fun _=>rfl) _ _ 0 _ H5 (by first | omega | rfl | simp) rfl)) rfl (yF rfl rfl rfl rfl rfl rfl (eN (sR (wHI (.fx 5 (.fx 6 .nil .stop) .stop)) rfl (zY rfl rfl rfl rfl (fun _=>zG rfl qB zK rfl ZW) (ZF rfl rfl rfl rfl (fY.ldB (j:=3) rfl rfl rfl Zm (v:=.slice cQ cM.length cV) rfl) rfl (zo rfl rfl rfl rfl rfl rfl (bnK ID fun aV lU IE=>?_)))))))
 have xB:=qY.le fm
 have xC:=xB.le f8
 have xD:=xC.le sV
 have q:=xD.el (fun _=>rfl) (wAj lU)
 obtain ⟨Mm,NR,Ei,El⟩:=q
 refine oR Z (Zb Z Z Ei Z zy ZP (wCk lU) (wCw lU)) (oL Z (fY.ldCA (f:=0) El Z Z yc ZP (us:=[jV aV.Skier,jV aV.Mat,jV aV.Clock,jV aV.Time]) Z Z) ?_)
 let oD:List Value:=[jV 0,jV 0,jV 0,jV 0]
 refine zR (cs:=oD) Z Z Z Z Z Zj Z fY ?_
 intro LQ fQ EQ
 let oE:List Value:=[jV aV.Skier,jV aV.Mat,jV aV.Clock,jV aV.Time]
 refine zV (j:=0) (vs:=oE) Z Z Z Z EQ Z Z Z Z ZP (zA Z) Z Z Z ?_
 intro uq ER
 let gV:Res:=.blk bj 28 [.slice a5 bN.length a8,.slice bm bg.length br,.slice bn bh.length bs,.slice eA ew.length eU]
 let jL:Res:=.row eA eU 39 4 (hD wAA ew)
 have iv:sW w U eI [.blk fQ 39 oE,aW,ac,B0,ag,aQ,aI,az,jL,gV,cu,am,ak,bG,ct,ai,ah,bb,bH,bF,ae,ek] uq:=ER
 refine eN (sR (wGf (.fx 6 .nil .stop)) Z (oM Z qC (oR Z (zG Z Z ZC Z zC) (oL Z (iv.ldB (j:=0) Z Z Z zJ (v:=jV aV.Skier) Z) (bnK IE fun _ io IF=>?_)))))
 obtain ⟨Mo,rW⟩:=iv.rowSome (j:=20) rfl (by rw [wAE (f:=KL.encI) (sz:=1) (fun _=>rfl) aL];have hz:=wAT io;omega)
 refine oR Z (Zb Z Z rW Z zH zC (wBO io) (wBP io)) ?_
 have H6:=wBA (xs:=aL) (wAT io)
 refine ZF rfl rfl rfl rfl (iv.ldR (j:=20) rfl rW rfl rfl zJ (wAV (sz:=1) (fun _=>rfl) _ _ 0 _ H6 (by first | omega | rfl | simp) rfl)) rfl (zY rfl rfl rfl rfl (fun _=>zG rfl rfl ZC rfl zC) (zV (j:=0) (vs:=[jV (gd aL aV.Skier.toNat)]) rfl rfl rfl rfl iv rfl rfl rfl rfl zC (zA rfl) rfl rfl rfl ?_))
 intro ur ES
 let en:List Value:=[jV (gd aL aV.Skier.toNat),jV aV.Mat,jV aV.Clock,jV aV.Time]
 have lZ:sW w U eI [.blk fQ 39 en,aW,ac,B0,ag,aQ,aI,az,jL,gV,cu,am,ak,bG,ct,ai,ah,bb,bH,bF,ae,ek] ur:=ES
 refine eN (rR (wCg (.fx 3 (.fx 4 (.fl 5 (.fx 6 .nil .stop)) .stop) .stop)) Z (oR Z (zG Z lD zK Z ZW) (oL Z (lZ.ldB (j:=9) Z Z Z Zm (v:=.slice eA ew.length eU) Z) (oL Z (lZ.ldBA (j:=0) Z Z Z yc ZP (vs:=en) Z Z) (zq (pv:=[(0,.agg en.toArray)]) (zs:=oD) (cs:=en) Z Z Z Z Z (wAH Z wAP) zy ZP Zj Z Z Z Z Z lZ ?_)))))
 intro ut u5 ET
 let jM:Res:=.row (some ⟨u5,0,none⟩) 1 39 4 (hD wAA [(⟨(gd aL aV.Skier.toNat),aV.Mat,aV.Clock,aV.Time⟩:wAI)])
 have r7:sW w U eI [jM,.blk fQ 39 en,aW,ac,B0,ag,aQ,aI,az,jL,gV,cu,am,ak,bG,ct,ai,ah,bb,bH,bF,ae,ek] ut:=ET
 refine bnK IF fun jc xE IG=>Zw (j:=9) (enc:=wAA) (xs:=ew) (ys:=[(⟨(gd aL aV.Skier.toNat),aV.Mat,aV.Clock,aV.Time⟩:wAI)]) (zs:=jc) rfl rfl rfl rfl rfl Try.underlying26 wHX rfl rfl rfl rfl rfl rfl r7 rfl rfl rfl (r7.srcR (j:=0) rfl (by decide) (wAE (f:=wAA) (sz:=4) (fun _=>rfl) [(⟨(gd aL aV.Skier.toNat),aV.Mat,aV.Clock,aV.Time⟩:wAI)])) (fun _=>rfl) (fun _=>rfl) xE rfl ?_
 intro gy g7 uu EU
 let oG:Res:=.row gy g7 39 4 (hD wAA jc)
 have EV:sW w U eI [jM,.blk fQ 39 en,aW,ac,B0,ag,aQ,aI,az,oG,gV,cu,am,ak,bG,ct,ai,ah,bb,bH,bF,ae,ek] uu:=EU
 refine oR Z (zG Z lD zK Z ZW) (zV (j:=10) (vs:=[.slice gy jc.length g7]) Z Z Z Z EV Z Z Z Z ZW (zA Z) Z Z Z ?_)
 intro uv EW
 have EX:sW w U eI [jM,.blk fQ 39 en,aW,ac,B0,ag,aQ,aI,az,oG,.blk bj 28 [.slice a5 bN.length a8,.slice bm bg.length br,.slice bn bh.length bs,.slice gy jc.length g7],cu,am,ak,bG,ct,ai,ah,bb,bH,bF,ae,ek] uv:=EW
 refine zc (ZA (zI (rR fL2 Z (oR Z (ZM (zb Z lN Z) (congrArg (jV) Im.out)) (oM Z Z (zc ?_))))))
 cases IG
 exact zI ⟨rfl,⟨eI,gy,g7,rfl,qB,vM,vN,qC,lD,vO,vP,qD,qE,sV,(EX.pick [2,3,4,5,6,7,8,9,10,11,12,13,14,15,16,17,18,19,20,21,22] _ (by decide) rfl)⟩⟩
 rintro ON LS ⟨oJ,db,dm,wP,vQ,vR,vS,vT,vU,qF,vV,M8,vW,f9,r8⟩
 have va:Hid (¬ ((↑(((↑eh.length:Int):Int) - 0).toNat:Int) < (↑eh.length:Int))):=zN (wAc)
 refine sR fL1 Z (oR Z (zi Z wP vW) (eN (zL (cF Z va (Zc (zm (zm (ZY (zI (zL (sR fL4 Z (oR Z (zG Z qF zK Z ZD) (oL Z (r8.ldB (j:=13) Z Z Z ZL (v:=.slice bo cX.length bt) Z) (oR Z (zw Z Z zH) (oM Z Z (eN (zd (bnK IC fun c6 HW IH=>?_))))))))))))))))))
 have q:=wAx HW
 obtain ⟨mi,HX⟩:=q
 replace mi:=zN mi
 let aG:Res:=.blk bj 28 [.slice a5 bN.length a8,.slice bm bg.length br,.slice bn bh.length bs,.slice db cD.length dm]
 let aO:Res:=.row db dm 39 4 (hD wAA cD)
 refine CK.forN' (fun cx bI σ_ w_=>∃ (U_:PHeap),σ_ 116=jV (↑cx:Int)/\σ_ 12=.pointer (some ⟨aR,0,none⟩)/\σ_ 13=.pointer (some ⟨bZ,0,none⟩)/\σ_ 14=jV ay/\σ_ 15=.slice cc aL.length cm/\σ_ 16=.pointer (some ⟨bj,0,none⟩)/\σ_ 17=.pointer (some ⟨bA,0,none⟩)/\σ_ 18=.pointer (some ⟨bB,0,none⟩)/\σ_ 115=jV (↑cX.length:Int)/\PHeap.Le oJ U_/\sW w U U_ [aW,ac,B0,ag,aQ,aI,az,aO,aG,.row bo bt 3 1 (hD KL.encI bI),am,ak,bG,.blk bA 28 [.slice bo bI.length bt,.slice bO bJ.length bS,.slice bP bK.length bT,.slice bp co.length bu],ai,ah,bb,bH,bF,ae] w_/\bI.length=cX.length) HX ?_ ?_ ?_
 exact ⟨oJ,rfl,vQ,vR,vS,vT,vU,qF,vV,rfl,(zO _),(r8.pick [0,1,2,3,4,5,6,7,8,9,10,11,12,13,14,15,16,17,18,19] _ (by decide) rfl),rfl⟩
 rintro cx bI OD OO LT mc ⟨jX,lO,vX,vY,qG,vZ,v4,qH,v5,qI,Ko,iw,xF⟩ J9
 have pW:Hid ((↑cx:Int) < (↑cX.length:Int)):=zN (wAs mc)
 replace mc:=zN mc
 have In:Hid (w64 ((↑cx:Int) + 1)=(↑(cx + 1):Int)):=zN (by have h1:=mi.out;have h2:=pW.out;rw [wAW] <;> omega)
 refine sR fL1 Z (oR Z (zi Z lO qI) (eN (zL (cT Z pW (kN (zL (zd (sR fL2 Z (oM Z lO (oA Z Z (eN (rR (wLa (.fx 8 .nil .stop)) Z (oR Z (zG Z qH zK Z ZD) (oL Z (iw.ldB (j:=13) Z Z Z ZL (v:=.slice bo bI.length bt) Z) (oM Z Z (bnK J9 fun _ e0 II=>?_))))))))))))))))
 obtain ⟨Mp,ir⟩:=iw.rowSome (j:=9) rfl (by rw [wAE (f:=KL.encI) (sz:=1) (fun _=>rfl) bI];have hz:=wAT e0;omega)
 refine oR Z (Zh Z Z ir Z zH zC (wAT e0)) ?_
 have H7:=wBA (xs:=bI) (wAT e0)
 refine ZF rfl rfl rfl rfl (iw.ldR (j:=9) rfl ir rfl rfl zJ (wAV (sz:=1) (fun _=>rfl) _ _ 0 _ H7 (by first | omega | rfl | simp) rfl)) rfl (zo rfl rfl rfl rfl rfl qG (zY rfl rfl rfl rfl (fun _=>zb rfl rfl rfl) (zY rfl rfl rfl rfl (fun _=>Zh rfl rfl ir rfl zH zC (wAT e0)) ?_)))
 have H8:=wBA (xs:=bI) (wAT e0)
 refine yW (j:=9) (vs:=[jV (w64 ((gd bI cx) + ay))]) (cs':=hD KL.encI (hJ bI cx (w64 ((gd bI cx) + ay)))) rfl rfl rfl rfl iw rfl ir rfl rfl rfl zC (by rw [wAE (f:=KL.encI) (sz:=1) (fun _=>rfl)];have hz:=wAT e0;show _ + 1 <= _;first | omega | (simp only [nE];omega) | (simp only [nD,nA,nB];omega)) rfl (wBt (sz:=1) (fo:=0) (fun _=>rfl) _ _ _ _ H8 (by first | omega | (simp only [nE];omega) | (simp only [nD,nA,nB];omega)) (zA rfl) rfl) rfl ?_
 intro pj EZ
 let jN:Res:=.row bo bt 3 1 (hD KL.encI (hJ bI cx (w64 ((gd bI cx) + ay))))
 have E0:sW w U jX [aW,ac,B0,ag,aQ,aI,az,aO,aG,jN,am,ak,bG,.blk bA 28 [.slice bo bI.length bt,.slice bO bJ.length bS,.slice bP bK.length bT,.slice bp co.length bu],ai,ah,bb,bH,bF,ae] pj:=EZ
 have E1:sW w U jX [aW,ac,B0,ag,aQ,aI,az,aO,aG,jN,am,ak,bG,.blk bA 28 [.slice bo ((hJ bI cx (w64 ((gd bI cx) + ay))).length) bt,.slice bO bJ.length bS,.slice bP bK.length bT,.slice bp co.length bu],ai,ah,bb,bH,bF,ae] pj:=by simpa only [B0,ac,ae,ag,ah,ak,am,ai,az,bF,aI,bb,bG,bH,aW,aQ,aG,aO,jN,nI] using E0
 refine zc (ZA (zI (rR fL2 Z (oR Z (ZM (zb Z lO Z) (congrArg (jV) In.out)) (oM Z Z (zc ?_))))))
 cases II
 exact zI ⟨Z,⟨jX,Z,vX,vY,qG,vZ,v4,qH,v5,qI,Ko,E1,(nI.trans xF)⟩⟩
 rintro OP LU ⟨oK,wQ,v7,v9,wa,wb,wc,qJ,wd,we,ga,r9,Nr⟩
 have vb:Hid (¬ ((↑(((↑cX.length:Int):Int) - 0).toNat:Int) < (↑cX.length:Int))):=zN (wAc)
 refine sR fL1 Z (oR Z (zi Z wQ we) (eN (zL (cF Z vb (Zc (zm (zm (ZY (zI (zL (sR fL4 Z (oR Z (zG Z qJ zK Z ZW) (oL Z (r9.ldB (j:=13) Z Z Z Zm (v:=.slice bp co.length bu) Z) (oR Z (zw Z Z zy) (oM Z Z (eN (zd ?_)))))))))))))))))
 have q:=bnd IH
 obtain ⟨⟨ey,da⟩,HY,so⟩:=q
 try dsimp only at so
 have q:=wAx HY
 obtain ⟨mj,HZ⟩:=q
 replace mj:=zN mj
 let aJ:Res:=.row bo bt 3 1 (hD KL.encI c6)
 refine CK.forN' (fun aM (aZ,aU) σ_ w_=>∃ (U_:PHeap),σ_ 131=jV (↑aM:Int)/\σ_ 12=.pointer (some ⟨aR,0,none⟩)/\σ_ 13=.pointer (some ⟨bZ,0,none⟩)/\σ_ 14=jV ay/\σ_ 15=.slice cc aL.length cm/\σ_ 16=.pointer (some ⟨bj,0,none⟩)/\σ_ 17=.pointer (some ⟨bA,0,none⟩)/\σ_ 18=.pointer (some ⟨bB,0,none⟩)/\σ_ 130=jV (↑co.length:Int)/\PHeap.Le oK U_/\sW w U U_ [aW,ac,B0,ag,aQ,aI,az,aO,aG,aJ,am,ak,.row bp bu 39 4 (hD wAA aZ),.blk bA 28 [.slice bo c6.length bt,.slice bO bJ.length bS,.slice bP bK.length bT,.slice bp aZ.length bu],ai,ah,bb,.row bq bv 39 4 (hD wAA aU),.blk bB 28 [.slice bQ bL.length bU,.slice bR bM.length bV,.slice bd cp.length bf,.slice bq aU.length bv],ae] w_/\aZ.length=co.length/\aU.length=f6.length) HZ ?_ ?_ ?_
 exact ⟨oK,Z,v7,v9,wa,wb,wc,qJ,wd,Z,(zO _),r9,Z,Z⟩
 rintro aM ⟨aZ,aU⟩ OE OQ LV md ⟨fH,lP,wg,wh,lE,wi,wj,qK,qL,qM,Kp,iy,xG,xH⟩ sQ
 try dsimp only at sQ
 have pX:Hid ((↑aM:Int) < (↑co.length:Int)):=zN (wAs md)
 replace md:=zN md
 have Io:Hid (w64 ((↑aM:Int) + 1)=(↑(aM + 1):Int)):=zN (by have h1:=mj.out;have h2:=pX.out;rw [wAW] <;> omega)
 refine sR fL1 Z (oR Z (zi Z lP qM) (eN (zL (cT Z pX (kN (zL (zd (sR fL2 Z (oM Z lP (oA Z Z (eN (sR (wJB (.fx 10 .nil .stop)) Z (oR Z (zG Z qK zK Z ZW) (oL Z (iy.ldB (j:=13) Z Z Z Zm (v:=.slice bp aZ.length bu) Z) (oM Z Z (bnK sQ fun _ fb IJ=>?_))))))))))))))))
 obtain ⟨Mq,it⟩:=iy.rowSome (j:=12) rfl (by rw [wAE (f:=wAA) (sz:=4) (fun _=>rfl) aZ];have hz:=wAT fb;omega)
 refine oR Z (Zh Z Z it Z zy ZP (wAT fb)) (oR Z (zG Z Z ZC Z zC) ?_)
 have H9:=wBA (xs:=aZ) (wAT fb)
 refine ZF rfl rfl rfl rfl (iy.ldR (j:=12) rfl it rfl rfl zJ (wAV (sz:=4) (fun _=>rfl) _ _ 3 _ H9 (by first | omega | rfl | simp) rfl)) rfl (zo rfl rfl rfl rfl rfl lE (zY rfl rfl rfl rfl (fun _=>zb rfl rfl rfl) (zY rfl rfl rfl rfl (fun _=>Zh rfl rfl it rfl zy ZP (wAT fb)) (zY rfl rfl rfl rfl (fun _=>zG rfl rfl ZC rfl zC) ?_))))
 have Ia:=wBA (xs:=aZ) (wAT fb)
 refine yW (j:=12) (vs:=[jV (w64 (((gd aZ aM).Time) + ay))]) (cs':=hD wAA (hJ aZ aM (⟨(gd aZ aM).Skier,(gd aZ aM).Mat,(gd aZ aM).Clock,w64 (((gd aZ aM).Time) + ay)⟩:wAI))) rfl rfl rfl rfl iy rfl it rfl rfl rfl zC (by rw [wAE (f:=wAA) (sz:=4) (fun _=>rfl)];have hz:=wAT fb;show _ + 1 <= _;first | omega | (simp only [nE];omega) | (simp only [nD,nA,nB];omega)) rfl (wBt (sz:=4) (fo:=3) (fun _=>rfl) _ _ _ _ Ia (by first | omega | (simp only [nE];omega) | (simp only [nD,nA,nB];omega)) (zA rfl) rfl) rfl ?_
 intro pk E2
 let eH:Res:=.row bp bu 39 4 (hD wAA (hJ aZ aM (⟨(gd aZ aM).Skier,(gd aZ aM).Mat,(gd aZ aM).Clock,w64 (((gd aZ aM).Time) + ay)⟩:wAI)))
 let fD:Res:=.blk bB 28 [.slice bQ bL.length bU,.slice bR bM.length bV,.slice bd cp.length bf,.slice bq aU.length bv]
 let jO:Res:=.row bq bv 39 4 (hD wAA aU)
 have E3:sW w U fH [aW,ac,B0,ag,aQ,aI,az,aO,aG,aJ,am,ak,eH,.blk bA 28 [.slice bo c6.length bt,.slice bO bJ.length bS,.slice bP bK.length bT,.slice bp aZ.length bu],ai,ah,bb,jO,fD,ae] pk:=E2
 let fE:Res:=.blk bA 28 [.slice bo c6.length bt,.slice bO bJ.length bS,.slice bP bK.length bT,.slice bp ((hJ aZ aM (⟨(gd aZ aM).Skier,(gd aZ aM).Mat,(gd aZ aM).Clock,w64 (((gd aZ aM).Time) + ay)⟩:wAI)).length) bu]
 have iz:sW w U fH [aW,ac,B0,ag,aQ,aI,az,aO,aG,aJ,am,ak,eH,fE,ai,ah,bb,jO,fD,ae] pk:=by simpa only [B0,ac,ae,ag,ah,ak,am,ai,az,aI,bb,aW,aQ,aG,aO,aJ,eH,fD,jO,fE,nI] using E3
 refine eN (rR (wJB (.fx 10 .nil .stop)) Z (oR Z (zG Z qL zK Z ZW) (oL Z (iz.ldB (j:=18) Z Z Z Zm (v:=.slice bq aU.length bv) Z) (oM Z Z (bnK IJ fun _ fc IK=>?_)))))
 obtain ⟨Mr,iu⟩:=iz.rowSome (j:=17) rfl (by rw [wAE (f:=wAA) (sz:=4) (fun _=>rfl) aU];have hz:=wAT fc;omega)
 refine oR Z (Zh Z Z iu Z zy ZP (wAT fc)) (oR Z (zG Z Z ZC Z zC) ?_)
 have Ib:=wBA (xs:=aU) (wAT fc)
 refine ZF rfl rfl rfl rfl (iz.ldR (j:=17) rfl iu rfl rfl zJ (wAV (sz:=4) (fun _=>rfl) _ _ 3 _ Ib (by first | omega | rfl | simp) rfl)) rfl (zo rfl rfl rfl rfl rfl lE (zY rfl rfl rfl rfl (fun _=>zb rfl rfl rfl) (zY rfl rfl rfl rfl (fun _=>Zh rfl rfl iu rfl zy ZP (wAT fc)) (zY rfl rfl rfl rfl (fun _=>zG rfl rfl ZC rfl zC) ?_))))
 have Ic:=wBA (xs:=aU) (wAT fc)
 refine yW (j:=17) (vs:=[jV (w64 (((gd aU aM).Time) + ay))]) (cs':=hD wAA (hJ aU aM (⟨(gd aU aM).Skier,(gd aU aM).Mat,(gd aU aM).Clock,w64 (((gd aU aM).Time) + ay)⟩:wAI))) rfl rfl rfl rfl iz rfl iu rfl rfl rfl zC (by rw [wAE (f:=wAA) (sz:=4) (fun _=>rfl)];have hz:=wAT fc;show _ + 1 <= _;first | omega | (simp only [nE];omega) | (simp only [nD,nA,nB];omega)) rfl (wBt (sz:=4) (fo:=3) (fun _=>rfl) _ _ _ _ Ic (by first | omega | (simp only [nE];omega) | (simp only [nD,nA,nB];omega)) (zA rfl) rfl) rfl ?_
 intro pm E4
 let jP:Res:=.row bq bv 39 4 (hD wAA (hJ aU aM (⟨(gd aU aM).Skier,(gd aU aM).Mat,(gd aU aM).Clock,w64 (((gd aU aM).Time) + ay)⟩:wAI)))
 have E5:sW w U fH [aW,ac,B0,ag,aQ,aI,az,aO,aG,aJ,am,ak,eH,fE,ai,ah,bb,jP,fD,ae] pm:=E4
 have E6:sW w U fH [aW,ac,B0,ag,aQ,aI,az,aO,aG,aJ,am,ak,eH,fE,ai,ah,bb,jP,.blk bB 28 [.slice bQ bL.length bU,.slice bR bM.length bV,.slice bd cp.length bf,.slice bq ((hJ aU aM (⟨(gd aU aM).Skier,(gd aU aM).Mat,(gd aU aM).Clock,w64 (((gd aU aM).Time) + ay)⟩:wAI)).length) bv],ae] pm:=by simpa only [B0,ac,ae,ag,ah,ak,am,ai,az,aI,bb,aW,aQ,aG,aO,aJ,eH,fD,fE,jP,nI] using E5
 refine zc (ZA (zI (rR fL2 Z (oR Z (ZM (zb Z lP Z) (congrArg (jV) Io.out)) (oM Z Z (zc ?_))))))
 cases IK
 exact zI ⟨Z,⟨fH,Z,wg,wh,lE,wi,wj,qK,qL,qM,Kp,E6,(nI.trans xG),(nI.trans xH)⟩⟩
 rintro OR LW ⟨oO,wR,wk,wl,wm,wn,wo,wp,qN,wq,gb,sa,Ns,Nt⟩
 have vc:Hid (¬ ((↑(((↑co.length:Int):Int) - 0).toNat:Int) < (↑co.length:Int))):=zN (wAc)
 refine sR fL1 Z (oR Z (zi Z wR wq) (eN (zL (cF Z vc (Zc (zm (zm (ZY (zI (zL (sR fL4 Z (oR Z (zG Z qN zK Z Zn) (oL Z (sa.ldB (j:=18) Z Z Z yI (v:=.slice bd cp.length bf) Z) (oR Z (zw Z Z ZU) (oM Z Z (eN (zd (bnK so fun fz H0 IL=>?_))))))))))))))))))
 have q:=wAx H0
 obtain ⟨ml,H1⟩:=q
 replace ml:=zN ml
 let an:Res:=.blk bA 28 [.slice bo c6.length bt,.slice bO bJ.length bS,.slice bP bK.length bT,.slice bp ey.length bu]
 let aH:Res:=.row bq bv 39 4 (hD wAA da)
 let aN:Res:=.row bp bu 39 4 (hD wAA ey)
 refine CK.forN' (fun ab af σ_ w_=>∃ (U_:PHeap),σ_ 158=jV (↑ab:Int)/\σ_ 12=.pointer (some ⟨aR,0,none⟩)/\σ_ 13=.pointer (some ⟨bZ,0,none⟩)/\σ_ 14=jV ay/\σ_ 15=.slice cc aL.length cm/\σ_ 16=.pointer (some ⟨bj,0,none⟩)/\σ_ 17=.pointer (some ⟨bA,0,none⟩)/\σ_ 18=.pointer (some ⟨bB,0,none⟩)/\σ_ 157=jV (↑cp.length:Int)/\PHeap.Le oO U_/\sW w U U_ [aW,ac,B0,ag,aQ,aI,az,aO,aG,aJ,am,ak,aN,an,ai,ah,.row bd bf 43 3 (hD wAB af),aH,.blk bB 28 [.slice bQ bL.length bU,.slice bR bM.length bV,.slice bd af.length bf,.slice bq da.length bv],ae] w_/\af.length=cp.length) H1 ?_ ?_ ?_
 exact ⟨oO,Z,wk,wl,wm,wn,wo,wp,qN,Z,(zO _),sa,Z⟩
 rintro ab af OF OS LX me ⟨fI,lQ,wr,ws,lF,wt,wu,wv,lG,qO,Kq,iA,xI⟩ Ka
 have pY:Hid ((↑ab:Int) < (↑cp.length:Int)):=zN (wAs me)
 replace me:=zN me
 have Ip:Hid (w64 ((↑ab:Int) + 1)=(↑(ab + 1):Int)):=zN (by have h1:=ml.out;have h2:=pY.out;rw [wAW] <;> omega)
 refine sR fL1 Z (oR Z (zi Z lQ qO) (eN (zL (cT Z pY (kN (zL (zd (sR fL2 Z (oM Z lQ (oA Z Z (eN (sR (wKt (.fx 12 .nil .stop)) Z (oR Z (zG Z lG zK Z Zn) (oL Z (iA.ldB (j:=18) Z Z Z yI (v:=.slice bd af.length bf) Z) (oM Z Z (bnK Ka fun _ fd IN=>?_))))))))))))))))
 obtain ⟨Ms,dW⟩:=iA.rowSome (j:=16) rfl (by rw [wAE (f:=wAB) (sz:=3) (fun _=>rfl) af];have hz:=wAT fd;omega)
 refine oR Z (Zh Z Z dW Z ZU Zt (wAT fd)) (oR Z (zG Z Z Zq Z zf) (oR Z (zG Z Z ZO Z zC) ?_))
 have Ie:=wBA (xs:=af) (wAT fd)
 refine ZF rfl rfl rfl rfl (iA.ldR (j:=16) rfl dW rfl rfl zJ (wAV (sz:=3) (fun _=>rfl) _ _ 0 _ Ie (by first | omega | rfl | simp) rfl)) rfl (zo rfl rfl rfl rfl rfl lF (zY rfl rfl rfl rfl (fun _=>zb rfl rfl rfl) (zY rfl rfl rfl rfl (fun _=>Zh rfl rfl dW rfl ZU Zt (wAT fd)) (zY rfl rfl rfl rfl (fun _=>zG rfl rfl Zq rfl zf) (zY rfl rfl rfl rfl (fun _=>zG rfl rfl ZO rfl zC) ?_)))))
 have If:=wBA (xs:=af) (wAT fd)
 refine yW (j:=16) (vs:=[jV (w64 ((((gd af ab).Offset).Lo) + ay))]) (cs':=hD wAB (hJ af ab (⟨(⟨w64 ((((gd af ab).Offset).Lo) + ay),((gd af ab).Offset).Hi⟩:wAG),(gd af ab).Error⟩:wAK))) rfl rfl rfl rfl iA rfl dW rfl rfl rfl zC (by rw [wAE (f:=wAB) (sz:=3) (fun _=>rfl)];have hz:=wAT fd;show _ + 1 <= _;first | omega | (simp only [nE];omega) | (simp only [nD,nA,nB];omega)) rfl (wBt (sz:=3) (fo:=0) (fun _=>rfl) _ _ _ _ If (by first | omega | (simp only [nE];omega) | (simp only [nD,nA,nB];omega)) (zA rfl) rfl) rfl ?_
 intro pn E7
 let jQ:Res:=.row bd bf 43 3 (hD wAB (hJ af ab (⟨(⟨w64 ((((gd af ab).Offset).Lo) + ay),((gd af ab).Offset).Hi⟩:wAG),(gd af ab).Error⟩:wAK)))
 have E8:sW w U fI [aW,ac,B0,ag,aQ,aI,az,aO,aG,aJ,am,ak,aN,an,ai,ah,jQ,aH,.blk bB 28 [.slice bQ bL.length bU,.slice bR bM.length bV,.slice bd af.length bf,.slice bq da.length bv],ae] pn:=E7
 let gW:Res:=.blk bB 28 [.slice bQ bL.length bU,.slice bR bM.length bV,.slice bd ((hJ af ab (⟨(⟨w64 ((((gd af ab).Offset).Lo) + ay),((gd af ab).Offset).Hi⟩:wAG),(gd af ab).Error⟩:wAK)).length) bf,.slice bq da.length bv]
 have l3:sW w U fI [aW,ac,B0,ag,aQ,aI,az,aO,aG,aJ,am,ak,aN,an,ai,ah,jQ,aH,gW,ae] pn:=by simpa only [B0,ac,ae,ag,ah,ak,am,ai,az,aI,aW,aQ,aG,aO,aJ,an,aH,aN,jQ,gW,nI] using E8
 refine eN (rR (wKt (.fx 12 .nil .stop)) Z (oR Z (zG Z lG zK Z Zn) (oL Z (l3.ldB (j:=18) Z Z Z yI (v:=.slice bd ((hJ af ab (⟨(⟨w64 ((((gd af ab).Offset).Lo) + ay),((gd af ab).Offset).Hi⟩:wAG),(gd af ab).Error⟩:wAK)).length) bf) Z) (oM Z Z (bnK IN fun _ fW IP=>oR Z (Zh Z Z dW Z ZU Zt (wAT fW)) (oR Z (zG Z Z Zq Z zf) (oR Z (zG Z Z ZO Z zC) ?_)))))))
 have Ig:=wBA (xs:=(hJ af ab (⟨(⟨w64 ((((gd af ab).Offset).Lo) + ay),((gd af ab).Offset).Hi⟩:wAG),(gd af ab).Error⟩:wAK))) (wAT fW)
 refine ZF rfl rfl rfl rfl (l3.ldR (j:=16) rfl dW rfl rfl zJ (wAV (sz:=3) (fun _=>rfl) _ _ 1 _ Ig (by first | omega | rfl | simp) rfl)) rfl (zo rfl rfl rfl rfl rfl lF (zY rfl rfl rfl rfl (fun _=>zb rfl rfl rfl) (zY rfl rfl rfl rfl (fun _=>Zh rfl rfl dW rfl ZU Zt (wAT fW)) (zY rfl rfl rfl rfl (fun _=>zG rfl rfl Zq rfl zf) (zY rfl rfl rfl rfl (fun _=>zG rfl rfl ZO rfl zC) ?_)))))
 have Ih:=wBA (xs:=(hJ af ab (⟨(⟨w64 ((((gd af ab).Offset).Lo) + ay),((gd af ab).Offset).Hi⟩:wAG),(gd af ab).Error⟩:wAK))) (wAT fW)
 refine yW (j:=16) (vs:=[jV (w64 ((((gd (hJ af ab (⟨(⟨w64 ((((gd af ab).Offset).Lo) + ay),((gd af ab).Offset).Hi⟩:wAG),(gd af ab).Error⟩:wAK)) ab).Offset).Hi) + ay))]) (cs':=hD wAB (hJ (hJ af ab (⟨(⟨w64 ((((gd af ab).Offset).Lo) + ay),((gd af ab).Offset).Hi⟩:wAG),(gd af ab).Error⟩:wAK)) ab (⟨(⟨((gd (hJ af ab (⟨(⟨w64 ((((gd af ab).Offset).Lo) + ay),((gd af ab).Offset).Hi⟩:wAG),(gd af ab).Error⟩:wAK)) ab).Offset).Lo,w64 ((((gd (hJ af ab (⟨(⟨w64 ((((gd af ab).Offset).Lo) + ay),((gd af ab).Offset).Hi⟩:wAG),(gd af ab).Error⟩:wAK)) ab).Offset).Hi) + ay)⟩:wAG),(gd (hJ af ab (⟨(⟨w64 ((((gd af ab).Offset).Lo) + ay),((gd af ab).Offset).Hi⟩:wAG),(gd af ab).Error⟩:wAK)) ab).Error⟩:wAK))) rfl rfl rfl rfl l3 rfl dW rfl rfl rfl zC (by rw [wAE (f:=wAB) (sz:=3) (fun _=>rfl)];have hz:=wAT fW;show _ + 1 <= _;first | omega | (simp only [nE];omega) | (simp only [nD,nA,nB];omega)) rfl (wBt (sz:=3) (fo:=1) (fun _=>rfl) _ _ _ _ Ih (by first | omega | (simp only [nE];omega) | (simp only [nD,nA,nB];omega)) (zA rfl) rfl) rfl ?_
 intro po E9
 let jR:Res:=.row bd bf 43 3 (hD wAB (hJ (hJ af ab (⟨(⟨w64 ((((gd af ab).Offset).Lo) + ay),((gd af ab).Offset).Hi⟩:wAG),(gd af ab).Error⟩:wAK)) ab (⟨(⟨((gd (hJ af ab (⟨(⟨w64 ((((gd af ab).Offset).Lo) + ay),((gd af ab).Offset).Hi⟩:wAG),(gd af ab).Error⟩:wAK)) ab).Offset).Lo,w64 ((((gd (hJ af ab (⟨(⟨w64 ((((gd af ab).Offset).Lo) + ay),((gd af ab).Offset).Hi⟩:wAG),(gd af ab).Error⟩:wAK)) ab).Offset).Hi) + ay)⟩:wAG),(gd (hJ af ab (⟨(⟨w64 ((((gd af ab).Offset).Lo) + ay),((gd af ab).Offset).Hi⟩:wAG),(gd af ab).Error⟩:wAK)) ab).Error⟩:wAK)))
 have Fa:sW w U fI [aW,ac,B0,ag,aQ,aI,az,aO,aG,aJ,am,ak,aN,an,ai,ah,jR,aH,gW,ae] po:=E9
 have Fb:sW w U fI [aW,ac,B0,ag,aQ,aI,az,aO,aG,aJ,am,ak,aN,an,ai,ah,jR,aH,.blk bB 28 [.slice bQ bL.length bU,.slice bR bM.length bV,.slice bd ((hJ (hJ af ab (⟨(⟨w64 ((((gd af ab).Offset).Lo) + ay),((gd af ab).Offset).Hi⟩:wAG),(gd af ab).Error⟩:wAK)) ab (⟨(⟨((gd (hJ af ab (⟨(⟨w64 ((((gd af ab).Offset).Lo) + ay),((gd af ab).Offset).Hi⟩:wAG),(gd af ab).Error⟩:wAK)) ab).Offset).Lo,w64 ((((gd (hJ af ab (⟨(⟨w64 ((((gd af ab).Offset).Lo) + ay),((gd af ab).Offset).Hi⟩:wAG),(gd af ab).Error⟩:wAK)) ab).Offset).Hi) + ay)⟩:wAG),(gd (hJ af ab (⟨(⟨w64 ((((gd af ab).Offset).Lo) + ay),((gd af ab).Offset).Hi⟩:wAG),(gd af ab).Error⟩:wAK)) ab).Error⟩:wAK)).length) bf,.slice bq da.length bv],ae] po:=by simpa only [B0,ac,ae,ag,ah,ak,am,ai,az,aI,aW,aQ,aG,aO,aJ,an,aH,aN,gW,jR,nI] using Fa
 refine zc (ZA (zI (rR fL2 Z (oR Z (ZM (zb Z lQ Z) (congrArg (jV) Ip.out)) (oM Z Z (zc ?_))))))
 cases IP
 exact zI ⟨Z,⟨fI,Z,wr,ws,lF,wt,wu,wv,lG,qO,Kq,Fb,((nI.trans nI).trans xI)⟩⟩
 rintro OT ux ⟨tw,wS,fT,ww,lH,ij,ik,lI,lJ,wx,ge,sb,Nu⟩
 have vd:Hid (¬ ((↑(((↑cp.length:Int):Int) - 0).toNat:Int) < (↑cp.length:Int))):=zN (wAc)
 refine sR fL1 Z (oR Z (zi Z wS wx) (eN (zL (cF Z vd (Zc (zm (zm (ZY (zI (sR (.fl 0 (.fl 1 (.fx 2 (.fx 3 (.fx 4 .nil .stop) .stop) .stop))) Z (oM Z ww ?_)))))))))))
 let jS:List Value:=[.slice dh dF.length dA,.slice dO d9.length dU,.slice dP ec.length dV,.slice cQ cM.length cV]
 refine oL Z (sb.ldBA (j:=3) Z Z fT zg zW (vs:=jS) Z Z) ?_
 have xK:=xz.le f9
 have xM:=xK.le ga
 have xN:=xM.le gb
 have xO:=xN.le ge
 have xP:=qX.le fm
 have xQ:=xP.le f8
 have xR:=xQ.le f9
 have xS:=xR.le ga
 have xT:=xS.le gb
 have q5:=xT.le ge
 have xU:=xq.le fm
 have xV:=xU.le f8
 have xW:=xV.le f9
 have xX:=xW.le ga
 have xY:=xX.le gb
 have q6:=xY.le ge
 have xZ:=xr.le fm
 have x8:=xZ.le f8
 have ym:=x8.le f9
 have yn:=ym.le ga
 have yo:=yn.le gb
 have q7:=yo.le ge
 have yp:=qY.le fm
 have yq:=yp.le f8
 have yr:=yq.le f9
 have yt:=yr.le ga
 have yu:=yt.le gb
 have q8:=yu.le ge
 have q:=bnd IL
 obtain ⟨⟨bE,mA⟩,yv,sq⟩:=q
 try dsimp only at sq
 refine zE 1 Z Z Z Z (zD Z Z Try.call14 (zB Z (zB Z zM)) Z) sb (fun hs=>wEP jb bZ mR pU (⟨dF,d9,ec,cM⟩:wAD) dh dA dO dU dP dV cQ cV ux tw hs xO q5 q6 q7 q8 yv) (.inl Z) ?_
 rintro jY La N5 uy iR Fc ⟨tg,ve,rfl,rfl,Nv⟩
 let au:Res:=.blk bB 28 [.slice bQ bL.length bU,.slice bR bM.length bV,.slice bd fz.length bf,.slice bq da.length bv]
 let av:Res:=.blk bZ 94 [.slice tg mA.bytes.length ve,jV mA.next,.int .u32 mA.state]
 let aP:Res:=.row bd bf 43 3 (hD wAB fz)
 have Fd:sW w U jY [av,ac,B0,ag,aQ,aI,az,aO,aG,aJ,am,ak,aN,an,ai,ah,aP,aH,au,ae] uy:=Fc
 let bx:List Value:=[jV 0,jV 0]
 refine zR (cs:=bx) Z Z Z Z Z Zy Z Fd ?_
 intro LY aq Fe
 let ao:List Value:=[jV bE.Skier,jV bE.Mat]
 refine zV (j:=0) (vs:=ao) Z Z Z Z Fe Z Z Z Z ZZ (zA Z) Z Z Z ?_
 intro pp Ff
 have l4:sW w U jY [.blk aq 45 ao,av,ac,B0,ag,aQ,aI,az,aO,aG,aJ,am,ak,aN,an,ai,ah,aP,aH,au,ae] pp:=Ff
 refine eN (sR (.fl 0 (.fl 1 (.fx 2 (wJC gFa) .stop))) Z (oL Z (l4.ldBA (j:=4) Z Z fT zg zW (vs:=jS) Z Z) (oL Z (l4.ldBA (j:=0) Z Z Z Zr ZZ (vs:=ao) Z Z) ?_)))
 have q9:=q5.le iR
 have re:=q6.le iR
 have rf:=q7.le iR
 have rh:=q8.le iR
 have q:=bnd sq
 obtain ⟨⟨cZ,mB⟩,yw,sr⟩:=q
 try dsimp only at sr
 refine zE 0 Z Z Z Z (zD Z Z Try.call15 (zB Z (zB Z zM)) Z) l4 (fun hs=>wCH (⟨dF,d9,ec,cM⟩:wAD) dh dA dO dU dP dV cQ cV bE pp jY hs q9 re rf rh yw) (.inr Z) ?_
 rintro fJ Lb N7 uz iS Fg ⟨rfl,rfl⟩
 have Fh:sW w U fJ [.blk aq 45 ao,av,ac,B0,ag,aQ,aI,az,aO,aG,aJ,am,ak,aN,an,ai,ah,aP,aH,au,ae] uz:=Fg
 refine oM Z Z (oR Z (zT Z Z (v:=.agg #[jV cZ.Lo,jV cZ.Hi]) Z) (oR Z (zT Z Z (v:=jV mB) Z) (zR (cs:=bx) Z Z Z Z Z ZJ Z Fh ?_)))
 intro LZ ax Fi
 let ap:List Value:=[jV cZ.Lo,jV cZ.Hi]
 refine zV (j:=0) (vs:=ap) Z Z Z Z Fi Z Z Z Z zf (zA Z) Z Z Z ?_
 intro j6 Fj
 have Fk:sW w U fJ [.blk ax 41 ap,.blk aq 45 ao,av,ac,B0,ag,aQ,aI,az,aO,aG,aJ,am,ak,aN,an,ai,ah,aP,aH,au,ae] j6:=Fj
 refine oA Z Z (eN ?_)
 have q:=bnd sr
 obtain ⟨⟨fg,fh,fj,fk,mC,mD,s9⟩,Kb,ss⟩:=q
 try dsimp only at ss
 let aX:List Value:=[jV mC,jV mD]
 refine yP (fun σ_ w_=>∃ (U_:PHeap) (eB:Option Addr) (eV:Nat) (eD:Option Addr) (eW:Nat) (eE:Option Addr) (eX:Nat) (eF:Option Addr) (eY:Nat) (aY:Nat),σ_ 12=.pointer (some ⟨aR,0,none⟩)/\σ_ 14=jV ay/\σ_ 15=.slice cc aL.length cm/\σ_ 16=.pointer (some ⟨bj,0,none⟩)/\σ_ 17=.pointer (some ⟨bA,0,none⟩)/\σ_ 18=.pointer (some ⟨bB,0,none⟩)/\σ_ 27=.pointer (some ⟨aq,0,none⟩)/\σ_ 28=.pointer (some ⟨ax,0,none⟩)/\σ_ 29=jV mB/\σ_ 30=.pointer (some ⟨aY,0,none⟩)/\σ_ 31=jV s9/\PHeap.Le fJ U_/\sW w U U_ [.blk ax 41 ap,.blk aq 45 ao,av,ac,B0,ag,.blk bj 28 [.slice eB fg.length eV,.slice eD fh.length eW,.slice eE fj.length eX,.slice eF fk.length eY],aJ,am,ak,aN,an,ai,ah,aP,aH,au,ae,.blk aY 41 aX] w_/\Sl U_ 1 eB eV fg.length (hD KL.encI fg)/\Sl U_ 2 eD eW fh.length (hD wAC fh)/\Sl U_ 3 eE eX fj.length (hD wAB fj)/\Sl U_ 4 eF eY fk.length (hD wAA fk)) ?_ ?_
 refine bnK Kb fun _ ip IQ=>bnK IQ fun mE ri IR=>?_
 have q:=bnd IR
 obtain ⟨⟨cC,mF⟩,lV,iG⟩:=q
 try dsimp only at iG
 refine ZG ZH [1,3,3,1,3,1,3,1,2,2,3,3,3,2,0,3] (wLa (.fx 8 (.fx 9 (wIE (.fx 13 gEz .stop)) (.fx 13 (.fx 9 (wIE gEz) (.stop)) (.stop))) (.fx 13 (.fx 8 (.fx 9 (wIE gEz) (.stop)) (.stop)) (.stop)))) (by kernel_rfl) ?_
 have dX:=Fk.drew
 generalize hw_W1863:({ j6 with drawn:=j6.drawn + 1 }:World)=uA at dX ⊢
 refine oL Z (dX.ldBA (j:=10) Z Z ik zg zW (vs:=[.slice a5 bN.length a8,.slice bm bg.length br,.slice bn bh.length bs,.slice db cD.length dm]) Z Z) (oM Z ij (oR Z (zG Z Z yM Z zC) (oL Z (dX.ldB (j:=1) Z Z Z zJ (v:=jV bE.Skier) Z) ?_)))
 obtain ⟨Mt,rX⟩:=dX.rowSome (j:=21) rfl (by rw [wAE (f:=KL.encI) (sz:=1) (fun _=>rfl) aL];have hz:=wAT ip;omega)
 refine oR Z (Zb Z Z rX Z zH zC (wBO ip) (wBP ip)) ?_
 have Ii:=wBA (xs:=aL) (wAT ip)
 refine ZF rfl rfl rfl rfl (dX.ldR (j:=21) rfl rX rfl rfl zJ (wAV (sz:=1) (fun _=>rfl) _ _ 0 _ Ii (by first | omega | rfl | simp) rfl)) rfl (zY rfl rfl rfl rfl (fun _=>zG rfl rfl yM rfl zC) (ZF rfl rfl rfl rfl (dX.ldB (j:=1) rfl rfl rfl zJ (v:=jV bE.Mat) rfl) rfl (zn ?_ ?_)))
 refine zE 0 Z Z Z Z (zD Z Z yj (zB Z (zB Z zM)) Z) dX (fun hs=>wAg (gd aL bE.Skier.toNat) bE.Mat uA fJ hs ri) (.inr Z) ?_
 rintro tA Lc N8 eK sZ Fo ⟨rfl,rfl⟩
 have sd:sW w U tA [.blk ax 41 ap,.blk aq 45 ao,av,ac,B0,ag,aQ,aI,az,aO,aG,aJ,am,ak,aN,an,ai,ah,aP,aH,au,ae] eK:=Fo
 refine zn ?_ ?_
 have q:=sd.freezeR (k:=6) (n:=bN.length) rfl (wAE (f:=KL.encI) (sz:=1) (fun _=>rfl) bN) (by decide)
 obtain ⟨tB,Kr,JE,Fp⟩:=q
 have Fq:sW w U tB [.blk ax 41 ap,.blk aq 45 ao,av,ac,B0,ag,aI,az,aO,aG,aJ,am,ak,aN,an,ai,ah,aP,aH,au,ae] eK:=Fp
 have q:=Fq.freezeR (k:=6) (n:=bg.length) rfl (wAE (f:=wAC) (sz:=2) (fun _=>rfl) bg) (by decide)
 obtain ⟨tC,s3,JF,Fs⟩:=q
 have Ft:sW w U tC [.blk ax 41 ap,.blk aq 45 ao,av,ac,B0,ag,az,aO,aG,aJ,am,ak,aN,an,ai,ah,aP,aH,au,ae] eK:=Fs
 have q:=Ft.freezeR (k:=6) (n:=bh.length) rfl (wAE (f:=wAB) (sz:=3) (fun _=>rfl) bh) (by decide)
 obtain ⟨tD,mo,JG,Fu⟩:=q
 have Fv:sW w U tD [.blk ax 41 ap,.blk aq 45 ao,av,ac,B0,ag,aO,aG,aJ,am,ak,aN,an,ai,ah,aP,aH,au,ae] eK:=Fu
 have q:=Fv.freezeR (k:=6) (n:=cD.length) rfl (wAE (f:=wAA) (sz:=4) (fun _=>rfl) cD) (by decide)
 obtain ⟨oP,iT,sJ,Fx⟩:=q
 have Fy:sW w U oP [.blk ax 41 ap,.blk aq 45 ao,av,ac,B0,ag,aG,aJ,am,ak,aN,an,ai,ah,aP,aH,au,ae] eK:=Fx
 have yy:=JE.le s3
 have yz:=yy.le mo
 have rk:=yz.le iT
 have y4:=JF.le mo
 have ro:=y4.le iT
 have rp:=JG.le iT
 refine zE 0 Z Z Z Z (zD Z Z Try.call15 (zB Z (zB Z zM)) Z) Fy (fun hs=>wCH (⟨bN,bg,bh,cD⟩:wAD) a5 a8 bm br bn bs db dm mE eK oP hs rk ro rp sJ lV) (.inr Z) ?_
 rintro jZ Ld N9 uB gf Fz ⟨rfl,rfl⟩
 have FA:sW w U jZ [.blk ax 41 ap,.blk aq 45 ao,av,ac,B0,ag,aG,aJ,am,ak,aN,an,ai,ah,aP,aH,au,ae] uB:=Fz
 refine oM Z Z (oR Z (zT Z Z (v:=.agg #[jV cC.Lo,jV cC.Hi]) Z) (oR Z (zT Z Z (v:=jV mF) Z) (zR (cs:=bx) Z Z Z Z Z ZJ Z FA ?_)))
 intro L2 pE FB
 let oI:List Value:=[jV cC.Lo,jV cC.Hi]
 refine zV (j:=0) (vs:=oI) Z Z Z Z FB Z Z Z Z zf (zA Z) Z Z Z ?_
 intro uC FC
 have FD:sW w U jZ [.blk pE 41 oI,.blk ax 41 ap,.blk aq 45 ao,av,ac,B0,ag,aG,aJ,am,ak,aN,an,ai,ah,aP,aH,au,ae] uC:=FC
 refine oA Z Z (zc ?_)
 cases iG
 have y5:=rk.le gf
 have y6:=ro.le gf
 have y7:=rp.le gf
 have y8:=sJ.le gf
 exact zI ⟨rfl,⟨jZ,a5,a8,bm,br,bn,bs,db,dm,pE,fT,lH,ij,ik,lI,lJ,rfl,rfl,rfl,rfl,rfl,(((((sZ.trans Kr).trans s3).trans mo).trans iT).trans gf),(FD.pick [1,2,3,4,5,6,7,8,9,10,11,12,13,14,15,16,17,18,0] _ (by decide) rfl),y5,y6,y7,y8⟩⟩
 refine zR (cs:=bx) Z Z Z Z Z ZJ Z sd ?_
 intro fL ep FG
 have q:=FG.freezeR (k:=7) (n:=bN.length) rfl (wAE (f:=KL.encI) (sz:=1) (fun _=>rfl) bN) (by decide)
 obtain ⟨tF,Ks,JI,FH⟩:=q
 have FI:sW w U tF [.blk ep 41 bx,.blk ax 41 ap,.blk aq 45 ao,av,ac,B0,ag,aI,az,aO,aG,aJ,am,ak,aN,an,ai,ah,aP,aH,au,ae] fL:=FH
 have q:=FI.freezeR (k:=7) (n:=bg.length) rfl (wAE (f:=wAC) (sz:=2) (fun _=>rfl) bg) (by decide)
 obtain ⟨tG,s4,JJ,FJ⟩:=q
 have FK:sW w U tG [.blk ep 41 bx,.blk ax 41 ap,.blk aq 45 ao,av,ac,B0,ag,az,aO,aG,aJ,am,ak,aN,an,ai,ah,aP,aH,au,ae] fL:=FJ
 have q:=FK.freezeR (k:=7) (n:=bh.length) rfl (wAE (f:=wAB) (sz:=3) (fun _=>rfl) bh) (by decide)
 obtain ⟨tI,mq,JK,FL⟩:=q
 have FM:sW w U tI [.blk ep 41 bx,.blk ax 41 ap,.blk aq 45 ao,av,ac,B0,ag,aO,aG,aJ,am,ak,aN,an,ai,ah,aP,aH,au,ae] fL:=FL
 have q:=FM.freezeR (k:=7) (n:=cD.length) rfl (wAE (f:=wAA) (sz:=4) (fun _=>rfl) cD) (by decide)
 obtain ⟨oQ,iU,sK,FN⟩:=q
 have FO:sW w U oQ [.blk ep 41 bx,.blk ax 41 ap,.blk aq 45 ao,av,ac,B0,ag,aG,aJ,am,ak,aN,an,ai,ah,aP,aH,au,ae] fL:=FN
 have y9:=JI.le s4
 have z2:=y9.le mq
 have rq:=z2.le iU
 have z3:=JJ.le mq
 have rv:=z3.le iU
 have rx:=JK.le iU
 refine zE 0 Z Z Z Z (zD Z Z Try.call15 (zB Z (zB Z zM)) Z) FO (fun hs=>wCH (⟨bN,bg,bh,cD⟩:wAD) a5 a8 bm br bn bs db dm mE fL oQ hs rq rv rx sK lV) (.inr Z) ?_
 rintro j0 Lf Oa uD gg FP ⟨rfl,rfl⟩
 have FQ:sW w U j0 [.blk ep 41 bx,.blk ax 41 ap,.blk aq 45 ao,av,ac,B0,ag,aG,aJ,am,ak,aN,an,ai,ah,aP,aH,au,ae] uD:=FP
 refine oM Z Z (oR Z (zT Z Z (v:=.agg #[jV cC.Lo,jV cC.Hi]) Z) (oR Z (zT Z Z (v:=jV mF) Z) ?_))
 let n9:List Value:=[jV cC.Lo,jV cC.Hi]
 refine zV (j:=0) (vs:=n9) Z Z Z Z FQ Z Z Z Z zf (zA Z) Z Z Z ?_
 intro uE FR
 have FS:sW w U j0 [.blk ep 41 n9,.blk ax 41 ap,.blk aq 45 ao,av,ac,B0,ag,aG,aJ,am,ak,aN,an,ai,ah,aP,aH,au,ae] uE:=FR
 refine oA Z Z (zc ?_)
 cases iG
 have z4:=rq.le gg
 have z5:=rv.le gg
 have z6:=rx.le gg
 have z8:=sK.le gg
 exact zI ⟨rfl,⟨j0,a5,a8,bm,br,bn,bs,db,dm,ep,fT,lH,ij,ik,lI,lJ,rfl,rfl,rfl,rfl,rfl,(((((sZ.trans Ks).trans s4).trans mq).trans iU).trans gg),(FS.pick [1,2,3,4,5,6,7,8,9,10,11,12,13,14,15,16,17,18,0] _ (by decide) rfl),z4,z5,z6,z8⟩⟩
 refine zR (cs:=bx) Z Z Z Z Z ZJ Z dX ?_
 intro uF dR FV
 refine zE 0 Z Z Z Z (zD Z Z yj (zB Z (zB Z zM)) Z) FV (fun hs=>wAg (gd aL bE.Skier.toNat) bE.Mat uF fJ hs ri) (.inr Z) ?_
 rintro tJ Lg Ob eL Kt FW ⟨rfl,rfl⟩
 have FX:sW w U tJ [.blk dR 41 bx,.blk ax 41 ap,.blk aq 45 ao,av,ac,B0,ag,aQ,aI,az,aO,aG,aJ,am,ak,aN,an,ai,ah,aP,aH,au,ae] eL:=FW
 have q:=FX.freezeR (k:=7) (n:=bN.length) rfl (wAE (f:=KL.encI) (sz:=1) (fun _=>rfl) bN) (by decide)
 obtain ⟨tK,Ku,JM,FY⟩:=q
 have FZ:sW w U tK [.blk dR 41 bx,.blk ax 41 ap,.blk aq 45 ao,av,ac,B0,ag,aI,az,aO,aG,aJ,am,ak,aN,an,ai,ah,aP,aH,au,ae] eL:=FY
 have q:=FZ.freezeR (k:=7) (n:=bg.length) rfl (wAE (f:=wAC) (sz:=2) (fun _=>rfl) bg) (by decide)
 obtain ⟨tL,s5,JN,F0⟩:=q
 have F1:sW w U tL [.blk dR 41 bx,.blk ax 41 ap,.blk aq 45 ao,av,ac,B0,ag,az,aO,aG,aJ,am,ak,aN,an,ai,ah,aP,aH,au,ae] eL:=F0
 have q:=F1.freezeR (k:=7) (n:=bh.length) rfl (wAE (f:=wAB) (sz:=3) (fun _=>rfl) bh) (by decide)
 obtain ⟨tM,mr,JO,F2⟩:=q
 have F3:sW w U tM [.blk dR 41 bx,.blk ax 41 ap,.blk aq 45 ao,av,ac,B0,ag,aO,aG,aJ,am,ak,aN,an,ai,ah,aP,aH,au,ae] eL:=F2
 have q:=F3.freezeR (k:=7) (n:=cD.length) rfl (wAE (f:=wAA) (sz:=4) (fun _=>rfl) cD) (by decide)
 obtain ⟨oU,iW,sM,F6⟩:=q
 have F7:sW w U oU [.blk dR 41 bx,.blk ax 41 ap,.blk aq 45 ao,av,ac,B0,ag,aG,aJ,am,ak,aN,an,ai,ah,aP,aH,au,ae] eL:=F6
 have z9:=JM.le s5
 have Aa:=z9.le mr
 have ry:=Aa.le iW
 have Ab:=JN.le mr
 have rz:=Ab.le iW
 have rA:=JO.le iW
 refine zE 0 Z Z Z Z (zD Z Z Try.call15 (zB Z (zB Z zM)) Z) F7 (fun hs=>wCH (⟨bN,bg,bh,cD⟩:wAD) a5 a8 bm br bn bs db dm mE eL oU hs ry rz rA sM lV) (.inr Z) ?_
 rintro j1 Lh Oc uG gi F9 ⟨rfl,rfl⟩
 have Ga:sW w U j1 [.blk dR 41 bx,.blk ax 41 ap,.blk aq 45 ao,av,ac,B0,ag,aG,aJ,am,ak,aN,an,ai,ah,aP,aH,au,ae] uG:=F9
 refine oM Z Z (oR Z (zT Z Z (v:=.agg #[jV cC.Lo,jV cC.Hi]) Z) (oR Z (zT Z Z (v:=jV mF) Z) ?_))
 let oa:List Value:=[jV cC.Lo,jV cC.Hi]
 refine zV (j:=0) (vs:=oa) Z Z Z Z Ga Z Z Z Z zf (zA Z) Z Z Z ?_
 intro uH Gb
 have Gc:sW w U j1 [.blk dR 41 oa,.blk ax 41 ap,.blk aq 45 ao,av,ac,B0,ag,aG,aJ,am,ak,aN,an,ai,ah,aP,aH,au,ae] uH:=Gb
 refine oA Z Z (zc ?_)
 cases iG
 have Af:=ry.le gi
 have Ag:=rz.le gi
 have Ai:=rA.le gi
 have Aj:=sM.le gi
 exact zI ⟨rfl,⟨j1,a5,a8,bm,br,bn,bs,db,dm,dR,fT,lH,ij,ik,lI,lJ,rfl,rfl,rfl,rfl,rfl,(((((Kt.trans Ku).trans s5).trans mr).trans iW).trans gi),(Gc.pick [1,2,3,4,5,6,7,8,9,10,11,12,13,14,15,16,17,18,0] _ (by decide) rfl),Af,Ag,Ai,Aj⟩⟩
 rintro OU fM ⟨LJ,eB,eV,eD,eW,eE,eX,eF,eY,aY,cI,qP,cJ,cK,cw,wy,cn,eZ,er,qQ,wz,iX,l5,Al,Am,Ao,Ap⟩
 refine sR (.fl 0 (.fl 1 (.fx 2 (wJC gFa) .stop))) Z ?_
 let oc:List Value:=[.slice bo c6.length bt,.slice bO bJ.length bS,.slice bP bK.length bT,.slice bp ey.length bu]
 refine oL Z (l5.ldBA (j:=11) Z Z cw zg zW (vs:=oc) Z Z) (oL Z (l5.ldBA (j:=1) Z Z cn Zr ZZ (vs:=ao) Z Z) ?_)
 have q:=l5.freezeR (k:=7) (n:=c6.length) rfl (wAE (f:=KL.encI) (sz:=1) (fun _=>rfl) c6) (by decide)
 obtain ⟨tN,ef,JP,Gd⟩:=q
 let be:Res:=.blk bj 28 [.slice eB fg.length eV,.slice eD fh.length eW,.slice eE fj.length eX,.slice eF fk.length eY]
 have Ge:sW w U tN [.blk ax 41 ap,.blk aq 45 ao,av,ac,B0,ag,be,am,ak,aN,an,ai,ah,aP,aH,au,ae,.blk aY 41 aX] fM:=Gd
 have q:=Ge.freezeR (k:=7) (n:=bJ.length) rfl (wAE (f:=wAC) (sz:=2) (fun _=>rfl) bJ) (by decide)
 obtain ⟨tO,dJ,JQ,Gf⟩:=q
 have Gg:sW w U tO [.blk ax 41 ap,.blk aq 45 ao,av,ac,B0,ag,be,ak,aN,an,ai,ah,aP,aH,au,ae,.blk aY 41 aX] fM:=Gf
 have q:=Gg.freezeR (k:=7) (n:=bK.length) rfl (wAE (f:=wAB) (sz:=3) (fun _=>rfl) bK) (by decide)
 obtain ⟨tP,cY,JR,Gh⟩:=q
 have Gi:sW w U tP [.blk ax 41 ap,.blk aq 45 ao,av,ac,B0,ag,be,aN,an,ai,ah,aP,aH,au,ae,.blk aY 41 aX] fM:=Gh
 have q:=Gi.freezeR (k:=7) (n:=ey.length) rfl (wAE (f:=wAA) (sz:=4) (fun _=>rfl) ey) (by decide)
 obtain ⟨oV,cO,sN,Gj⟩:=q
 have Gk:sW w U oV [.blk ax 41 ap,.blk aq 45 ao,av,ac,B0,ag,be,an,ai,ah,aP,aH,au,ae,.blk aY 41 aX] fM:=Gj
 have Ar:=JP.le dJ
 have As:=Ar.le cY
 have rC:=As.le cO
 have Au:=JQ.le cY
 have rD:=Au.le cO
 have rE:=JR.le cO
 have q:=bnd ss
 obtain ⟨⟨fu,KM⟩,Aw,sv⟩:=q
 try dsimp only at sv
 refine zE 0 Z Z Z Z (zD Z Z Try.call15 (zB Z (zB Z zM)) Z) Gk (fun hs=>wCH (⟨c6,bJ,bK,ey⟩:wAD) bo bt bO bS bP bT bp bu bE fM oV hs rC rD rE sN Aw) (.inr Z) ?_
 rintro oW Li Od uI cy Gl ⟨rfl,rfl⟩
 have Gm:sW w U oW [.blk ax 41 ap,.blk aq 45 ao,av,ac,B0,ag,be,an,ai,ah,aP,aH,au,ae,.blk aY 41 aX] uI:=Gl
 refine oM Z Z (oR Z (zT Z Z (v:=.agg #[jV fu.Lo,jV fu.Hi]) Z) (oR Z (zT Z Z (v:=jV KM) Z) (zR (cs:=bx) Z Z Z Z Z ZJ Z Gm ?_)))
 intro L4 bC Gn
 let bz:List Value:=[jV fu.Lo,jV fu.Hi]
 refine zV (j:=0) (vs:=bz) Z Z Z Z Gn Z Z Z Z zf (zA Z) Z Z Z ?_
 intro eM Gp
 have l6:sW w U oW [.blk bC 41 bz,.blk ax 41 ap,.blk aq 45 ao,av,ac,B0,ag,be,an,ai,ah,aP,aH,au,ae,.blk aY 41 aX] eM:=Gp
 refine oA Z Z (eN (sR (.fl 0 (.fl 1 (.fx 2 (wJC gFa) .stop))) Z (oL Z (l6.ldBA (j:=13) Z Z wy zg zW (vs:=[.slice bQ bL.length bU,.slice bR bM.length bV,.slice bd fz.length bf,.slice bq da.length bv]) Z Z) (oL Z (l6.ldBA (j:=2) Z Z cn Zr ZZ (vs:=ao) Z Z) ?_))))
 have q:=l6.freezeR (k:=9) (n:=bL.length) rfl (wAE (f:=KL.encI) (sz:=1) (fun _=>rfl) bL) (by decide)
 obtain ⟨tQ,cz,JS,Gq⟩:=q
 have Gr:sW w U tQ [.blk bC 41 bz,.blk ax 41 ap,.blk aq 45 ao,av,ac,B0,ag,be,an,ah,aP,aH,au,ae,.blk aY 41 aX] eM:=Gq
 have q:=Gr.freezeR (k:=9) (n:=bM.length) rfl (wAE (f:=wAC) (sz:=2) (fun _=>rfl) bM) (by decide)
 obtain ⟨tR,cq,JT,Gs⟩:=q
 have Gt:sW w U tR [.blk bC 41 bz,.blk ax 41 ap,.blk aq 45 ao,av,ac,B0,ag,be,an,aP,aH,au,ae,.blk aY 41 aX] eM:=Gs
 have q:=Gt.freezeR (k:=9) (n:=fz.length) rfl (wAE (f:=wAB) (sz:=3) (fun _=>rfl) fz) (by decide)
 obtain ⟨tS,cb,JU,Gu⟩:=q
 have Gw:sW w U tS [.blk bC 41 bz,.blk ax 41 ap,.blk aq 45 ao,av,ac,B0,ag,be,an,aH,au,ae,.blk aY 41 aX] eM:=Gu
 have q:=Gw.freezeR (k:=9) (n:=da.length) rfl (wAE (f:=wAA) (sz:=4) (fun _=>rfl) da) (by decide)
 obtain ⟨oX,bW,JV,Gx⟩:=q
 have Gy:sW w U oX [.blk bC 41 bz,.blk ax 41 ap,.blk aq 45 ao,av,ac,B0,ag,be,an,au,ae,.blk aY 41 aX] eM:=Gx
 have Ax:=JS.le cq
 have Ay:=Ax.le cb
 have Az:=Ay.le bW
 have AA:=JT.le cb
 have AB:=AA.le bW
 have AC:=JU.le bW
 have q:=bnd sv
 obtain ⟨⟨fw,KN⟩,AD,sw⟩:=q
 try dsimp only at sw
 refine zE 0 Z Z Z Z (zD Z Z Try.call15 (zB Z (zB Z zM)) Z) Gy (fun hs=>wCH (⟨bL,bM,fz,da⟩:wAD) bQ bU bR bV bd bf bq bv bE eM oX hs Az AB AC JV AD) (.inr Z) ?_
 rintro bY Lj Oe uJ cA Gz ⟨rfl,rfl⟩
 have GA:sW w U bY [.blk bC 41 bz,.blk ax 41 ap,.blk aq 45 ao,av,ac,B0,ag,be,an,au,ae,.blk aY 41 aX] uJ:=Gz
 refine oM Z Z (oR Z (zT Z Z (v:=.agg #[jV fw.Lo,jV fw.Hi]) Z) (oR Z (zT Z Z (v:=jV KN) Z) (zR (cs:=bx) Z Z Z Z Z ZJ Z GA ?_)))
 intro L6 cE GB
 let bX:List Value:=[jV fw.Lo,jV fw.Hi]
 refine zV (j:=0) (vs:=bX) Z Z Z Z GB Z Z Z Z zf (zA Z) Z Z Z ?_
 intro uK GC
 have bc:sW w U bY [.blk cE 41 bX,.blk bC 41 bz,.blk ax 41 ap,.blk aq 45 ao,av,ac,B0,ag,be,an,au,ae,.blk aY 41 aX] uK:=GC
 refine oA Z Z (eN (zL (bnK sw fun u6 sS IS=>yP (fun σ_ w_=>∃ (U_:PHeap),σ_ 12=.pointer (some ⟨aR,0,none⟩)/\σ_ 15=.slice cc aL.length cm/\σ_ 16=.pointer (some ⟨bj,0,none⟩)/\σ_ 17=.pointer (some ⟨bA,0,none⟩)/\σ_ 27=.pointer (some ⟨aq,0,none⟩)/\σ_ 272=.bool u6/\PHeap.Le bY U_/\sW w U U_ [.blk cE 41 bX,.blk bC 41 bz,.blk ax 41 ap,.blk aq 45 ao,av,ac,B0,ag,be,an,au,.blk aY 41 aX,ae] w_) ?_ ?_)))
 refine rR fL53 Z (oM Z er (oM Z wz (oR Z (Zg Z Z Z) (oM Z Z ?_))))
 by_cases ca:mB=s9
 have sA:=sS;rw [if_pos ca] at sA;replace ca:=zN ca
 refine zo Z Z Z (zP Z Z (zt (fun h=>h ca.out))) Z er (zo Z Z Z (zP Z Z (zt (fun h=>h ca.out))) Z Z (zY Z Z Z (zP Z Z (zt (fun h=>h ca.out))) (fun _=>Zg Z Z Z) (oR Z (ze Z (zt (fun h=>h ca.out)) Z) (oM Z Z (ifc sA ?_ ?_)))))
 intro dq IT
 refine zo Z Z Z (zP Z Z (zt (fun h=>h dq.out))) Z er (zo Z Z Z (zP Z Z (zt (fun h=>h dq.out))) Z Z (zY Z Z Z (zP Z Z (zt (fun h=>h dq.out))) (fun _=>Zg Z Z Z) (oR Z (ze Z (zt (fun h=>h dq.out)) Z) (oM Z Z (ifc IT ?_ ?_)))))
 intro cf IU
 refine zo Z Z Z (zP Z Z (zt (fun h=>h cf.out))) Z er (zY Z Z Z (zP Z Z (zt (fun h=>h cf.out))) (fun _=>Zg Z Z Z) (zo Z Z Z (zP Z Z (zt (fun h=>h cf.out))) Z Z (ifc IU ?_ ?_)))
 intro aS IV
 refine zX Z Z Z (zS Z Z (zt (fun h=>h aS.out)) Z) (zX Z Z Z (zS Z Z (zt (fun h=>h aS.out)) Z) (zY Z Z Z (zP Z Z (zt (fun h=>h cf.out))) (fun _=>ze Z (zt (fun h=>h aS.out)) Z) (oR Z (ze Z (zt (fun h=>h cf.out)) Z) (oM Z Z (ZF Z Z Z (zP Z Z Z) (bc.ldBA (j:=2) Z Z eZ Zi zf (vs:=ap) Z Z) Z (ZF Z Z Z (zP Z Z Z) (bc.ldBA (j:=12) Z Z qQ Zi zf (vs:=aX) Z Z) Z (zY Z Z Z (zP Z Z Z) (fun _=>ZM (yi (enc:=wAC) (a:=cZ) (b:=(⟨mC,mD⟩:wAG)) Z Z Z wGz wGy) (congrArg nH (decide_not).symm)) (oR Z (ze Z Z Z) (oM Z Z (ifc IV ?_ ?_))))))))))
 intro dr IW
 refine ZF Z Z Z (zP Z Z (zt (fun h=>h dr.out))) (bc.ldBA (j:=2) Z Z eZ Zi zf (vs:=ap) Z Z) Z (ZF Z Z Z (zP Z Z (zt (fun h=>h dr.out))) (bc.ldBA (j:=0) Z Z Z Zi zf (vs:=bX) Z Z) Z (zY Z Z Z (zP Z Z (zt (fun h=>h dr.out))) (fun _=>ZM (yi (enc:=wAC) (a:=cZ) (b:=fw) Z Z Z wGz wGy) (congrArg nH (decide_not).symm)) (oR Z (ze Z (zt (fun h=>h dr.out)) Z) (oM Z Z (ifc IW ?_ ?_)))))
 intro cg IX
 refine zo Z Z Z (zP Z Z (zt (fun h=>h cg.out))) Z er (zY Z Z Z (zP Z Z (zt (fun h=>h cg.out))) (fun _=>yJ Z Z Z) (zo Z Z Z (zP Z Z (zt (fun h=>h cg.out))) Z Z (rU Z (wT Z aS) (zG Z Z ZO Z zC) (ZF Z Z Z (wT Z aS) (bc.ldB (j:=1) Z Z Z zJ (v:=jV fu.Lo) Z) Z (zo Z Z Z (wT Z aS) Z qP (rU Z (wT Z aS) (yU Z Z Z) (rU Z (wT Z aS) (zG Z eZ ZO Z zC) (ZF Z Z Z (wT Z aS) (bc.ldB (j:=2) Z Z Z zJ (v:=jV cZ.Lo) Z) Z (rU Z (wT Z aS) (Zg Z Z Z) (zo Z Z Z (wT Z aS) Z Z (ifc IX ?_ ?_)))))))))))
 intro bD IY
 refine zY Z Z Z (zP Z Z (zt (fun h=>h bD.out))) (fun _=>zG Z Z ZO Z zC) (ZF Z Z Z (zP Z Z (zt (fun h=>h bD.out))) (bc.ldB (j:=1) Z Z Z zJ (v:=jV fu.Hi) Z) Z (zo Z Z Z (zP Z Z (zt (fun h=>h bD.out))) Z qP (zY Z Z Z (zP Z Z (zt (fun h=>h bD.out))) (fun _=>yU Z Z Z) (zY Z Z Z (zP Z Z (zt (fun h=>h bD.out))) (fun _=>zG Z eZ ZO Z zC) (ZF Z Z Z (zP Z Z (zt (fun h=>h bD.out))) (bc.ldB (j:=2) Z Z Z zJ (v:=jV cZ.Hi) Z) Z (zY Z Z Z (zP Z Z (zt (fun h=>h bD.out))) (fun _=>Zg Z Z Z) (rU Z (wT Z aS) (ze Z (zt (fun h=>h bD.out)) Z) (zY Z Z Z (zP Z Z (zt (fun h=>h cg.out))) (fun _=>zQ Z (Zk aS.out) Z) (oR Z (ze Z (zt (fun h=>h cg.out)) Z) (zc ?_))))))))))
 have q:=hH IY
 obtain rfl:=q
 exact zI ⟨rfl,⟨bY,cI,cJ,cK,cw,cn,rfl,(zO _),(bc.pick [0,1,2,3,4,5,6,7,8,9,10,12,11] _ (by decide) rfl)⟩⟩
 intro bD IZ
 refine oT Z bD (oT Z bD (oT Z bD (oT Z bD (oT Z bD (oT Z bD (oT Z bD (rU Z (wT Z aS) (zQ Z (Zk bD.out) Z) (zY Z Z Z (zP Z Z (zt (fun h=>h cg.out))) (fun _=>zQ Z (Zk aS.out) Z) (oR Z (ze Z (zt (fun h=>h cg.out)) Z) (zc ?_))))))))))
 cases IZ
 exact zI ⟨rfl,⟨bY,cI,cJ,cK,cw,cn,rfl,(zO _),(bc.pick [0,1,2,3,4,5,6,7,8,9,10,12,11] _ (by decide) rfl)⟩⟩
 intro cg I0
 refine oT Z cg (oT Z cg (oT Z cg (zX Z Z Z (wAN Z Z Z) (zX Z Z Z (wAN Z Z Z) (zX Z Z Z (wAN Z Z Z) (zX Z Z Z (wAN Z Z Z) (zX Z Z Z (wAN Z Z Z) (zX Z Z Z (wAN Z Z Z) (zX Z Z Z (wAN Z Z Z) (zX Z Z Z (wAN Z Z Z) (zX Z Z Z (wAN Z Z Z) (zX Z Z Z (wAN Z Z Z) (zX Z Z Z (wAN Z Z Z) (zX Z Z Z (wAN Z Z Z) (zX Z Z Z (wAN Z Z Z) (zX Z Z Z (wAN Z Z Z) (zX Z Z Z (wAN Z Z Z) (zX Z Z Z (wAN Z Z Z) (oT Z cg (oR Z (zQ Z (Zk cg.out) Z) (zc ?_)))))))))))))))))))))
 cases I0
 exact zI ⟨rfl,⟨bY,cI,cJ,cK,cw,cn,rfl,(zO _),(bc.pick [0,1,2,3,4,5,6,7,8,9,10,12,11] _ (by decide) rfl)⟩⟩
 intro dr I3
 refine oT Z dr (oT Z dr (oT Z dr (oR Z (zQ Z (Zk dr.out) Z) (oM Z Z (oN Z (oN Z (oN Z (zX Z Z Z (wAN Z Z Z) (zX Z Z Z (wAN Z Z Z) (zX Z Z Z (wAN Z Z Z) (zX Z Z Z (wAN Z Z Z) (zX Z Z Z (wAN Z Z Z) (zX Z Z Z (wAN Z Z Z) (zX Z Z Z (wAN Z Z Z) (zX Z Z Z (wAN Z Z Z) (zX Z Z Z (wAN Z Z Z) (zX Z Z Z (wAN Z Z Z) (zX Z Z Z (wAN Z Z Z) (zX Z Z Z (wAN Z Z Z) (zX Z Z Z (wAN Z Z Z) (zX Z Z Z (wAN Z Z Z) (zX Z Z Z (wAN Z Z Z) (zX Z Z Z (wAN Z Z Z) (oN Z (oR Z (zQ Z Z Z) (zc ?_))))))))))))))))))))))))))
 cases I3
 exact zI ⟨rfl,⟨bY,cI,cJ,cK,cw,cn,rfl,(zO _),(bc.pick [0,1,2,3,4,5,6,7,8,9,10,12,11] _ (by decide) rfl)⟩⟩
 intro aS I4
 refine zo Z Z Z (wT Z aS) Z er (rU Z (wT Z aS) (Zg Z Z Z) (zY Z Z Z (zP Z Z (zt (fun h=>h cf.out))) (fun _=>zQ Z (Zk aS.out) Z) (oR Z (ze Z (zt (fun h=>h cf.out)) Z) (oM Z Z (ifc I4 ?_ ?_)))))
 intro dt I5
 refine ZF Z Z Z (zP Z Z (zt (fun h=>h dt.out))) (bc.ldBA (j:=2) Z Z eZ Zi zf (vs:=ap) Z Z) Z (ZF Z Z Z (zP Z Z (zt (fun h=>h dt.out))) (bc.ldBA (j:=12) Z Z qQ Zi zf (vs:=aX) Z Z) Z (zY Z Z Z (zP Z Z (zt (fun h=>h dt.out))) (fun _=>ZM (yi (enc:=wAC) (a:=cZ) (b:=(⟨mC,mD⟩:wAG)) Z Z Z wGz wGy) (congrArg nH (decide_not).symm)) (oR Z (ze Z (zt (fun h=>h dt.out)) Z) (oM Z Z (ifc I5 ?_ ?_)))))
 intro du I6
 refine ZF Z Z Z (zP Z Z (zt (fun h=>h du.out))) (bc.ldBA (j:=2) Z Z eZ Zi zf (vs:=ap) Z Z) Z (ZF Z Z Z (zP Z Z (zt (fun h=>h du.out))) (bc.ldBA (j:=0) Z Z Z Zi zf (vs:=bX) Z Z) Z (zY Z Z Z (zP Z Z (zt (fun h=>h du.out))) (fun _=>ZM (yi (enc:=wAC) (a:=cZ) (b:=fw) Z Z Z wGz wGy) (congrArg nH (decide_not).symm)) (oR Z (ze Z (zt (fun h=>h du.out)) Z) (oM Z Z (ifc I6 ?_ ?_)))))
 intro cG I7
 refine zo Z Z Z (zP Z Z (zt (fun h=>h cG.out))) Z er (zY Z Z Z (zP Z Z (zt (fun h=>h cG.out))) (fun _=>yJ Z Z Z) (zo Z Z Z (zP Z Z (zt (fun h=>h cG.out))) Z Z (oF Z aS (oF Z aS (oF Z aS (oF Z aS (oF Z aS (oF Z aS (oF Z aS (oF Z aS (zX Z Z Z (wAN Z Z Z) (zX Z Z Z (wAN Z Z Z) (zX Z Z Z (wAN Z Z Z) (zX Z Z Z (wAN Z Z Z) (zX Z Z Z (wAN Z Z Z) (zX Z Z Z (wAN Z Z Z) (zX Z Z Z (wAN Z Z Z) (oF Z aS (zY Z Z Z (zP Z Z (zt (fun h=>h cG.out))) (fun _=>ze Z (zt aS.out) Z) (oR Z (ze Z (zt (fun h=>h cG.out)) Z) (zc ?_)))))))))))))))))))))
 cases I7
 exact zI ⟨rfl,⟨bY,cI,cJ,cK,cw,cn,rfl,(zO _),(bc.pick [0,1,2,3,4,5,6,7,8,9,10,12,11] _ (by decide) rfl)⟩⟩
 intro cG I8
 refine oT Z cG (oT Z cG (oT Z cG (zX Z Z Z (wAN Z Z Z) (zX Z Z Z (wAN Z Z Z) (zX Z Z Z (wAN Z Z Z) (zX Z Z Z (wAN Z Z Z) (zX Z Z Z (wAN Z Z Z) (zX Z Z Z (wAN Z Z Z) (zX Z Z Z (wAN Z Z Z) (zX Z Z Z (wAN Z Z Z) (zX Z Z Z (wAN Z Z Z) (zX Z Z Z (wAN Z Z Z) (zX Z Z Z (wAN Z Z Z) (zX Z Z Z (wAN Z Z Z) (zX Z Z Z (wAN Z Z Z) (zX Z Z Z (wAN Z Z Z) (zX Z Z Z (wAN Z Z Z) (zX Z Z Z (wAN Z Z Z) (oT Z cG (oR Z (zQ Z (Zk cG.out) Z) (zc ?_)))))))))))))))))))))
 cases I8
 exact zI ⟨rfl,⟨bY,cI,cJ,cK,cw,cn,rfl,(zO _),(bc.pick [0,1,2,3,4,5,6,7,8,9,10,12,11] _ (by decide) rfl)⟩⟩
 intro du I9
 refine oT Z du (oT Z du (oT Z du (oR Z (zQ Z (Zk du.out) Z) (oM Z Z (oN Z (oN Z (oN Z (zX Z Z Z (wAN Z Z Z) (zX Z Z Z (wAN Z Z Z) (zX Z Z Z (wAN Z Z Z) (zX Z Z Z (wAN Z Z Z) (zX Z Z Z (wAN Z Z Z) (zX Z Z Z (wAN Z Z Z) (zX Z Z Z (wAN Z Z Z) (zX Z Z Z (wAN Z Z Z) (zX Z Z Z (wAN Z Z Z) (zX Z Z Z (wAN Z Z Z) (zX Z Z Z (wAN Z Z Z) (zX Z Z Z (wAN Z Z Z) (zX Z Z Z (wAN Z Z Z) (zX Z Z Z (wAN Z Z Z) (zX Z Z Z (wAN Z Z Z) (zX Z Z Z (wAN Z Z Z) (oN Z (oR Z (zQ Z Z Z) (zc ?_))))))))))))))))))))))))))
 cases I9
 exact zI ⟨rfl,⟨bY,cI,cJ,cK,cw,cn,rfl,(zO _),(bc.pick [0,1,2,3,4,5,6,7,8,9,10,12,11] _ (by decide) rfl)⟩⟩
 intro dt Ja
 refine oT Z dt (oT Z dt (oT Z dt (oR Z (zQ Z (Zk dt.out) Z) (oM Z Z (oN Z (oN Z (oN Z (oR Z (zQ Z Z Z) (oM Z Z (oN Z (oN Z (oN Z (zX Z Z Z (wAN Z Z Z) (zX Z Z Z (wAN Z Z Z) (zX Z Z Z (wAN Z Z Z) (zX Z Z Z (wAN Z Z Z) (zX Z Z Z (wAN Z Z Z) (zX Z Z Z (wAN Z Z Z) (zX Z Z Z (wAN Z Z Z) (zX Z Z Z (wAN Z Z Z) (zX Z Z Z (wAN Z Z Z) (zX Z Z Z (wAN Z Z Z) (zX Z Z Z (wAN Z Z Z) (zX Z Z Z (wAN Z Z Z) (zX Z Z Z (wAN Z Z Z) (zX Z Z Z (wAN Z Z Z) (zX Z Z Z (wAN Z Z Z) (zX Z Z Z (wAN Z Z Z) (oN Z (oR Z (zQ Z Z Z) (zc ?_)))))))))))))))))))))))))))))))
 cases Ja
 exact zI ⟨rfl,⟨bY,cI,cJ,cK,cw,cn,rfl,(zO _),(bc.pick [0,1,2,3,4,5,6,7,8,9,10,12,11] _ (by decide) rfl)⟩⟩
 intro cf Jb
 refine oT Z cf (oT Z cf (oT Z cf (zX Z Z Z (wAN Z Z Z) (zX Z Z Z (wAN Z Z Z) (oT Z cf (oR Z (zQ Z (Zk cf.out) Z) (oM Z Z (oN Z (oN Z (oN Z (oR Z (zQ Z Z Z) (oM Z Z (oN Z (oN Z (oN Z (oR Z (zQ Z Z Z) (oM Z Z (oN Z (oN Z (oN Z (zX Z Z Z (wAN Z Z Z) (zX Z Z Z (wAN Z Z Z) (zX Z Z Z (wAN Z Z Z) (zX Z Z Z (wAN Z Z Z) (zX Z Z Z (wAN Z Z Z) (zX Z Z Z (wAN Z Z Z) (zX Z Z Z (wAN Z Z Z) (zX Z Z Z (wAN Z Z Z) (zX Z Z Z (wAN Z Z Z) (zX Z Z Z (wAN Z Z Z) (zX Z Z Z (wAN Z Z Z) (zX Z Z Z (wAN Z Z Z) (zX Z Z Z (wAN Z Z Z) (zX Z Z Z (wAN Z Z Z) (zX Z Z Z (wAN Z Z Z) (zX Z Z Z (wAN Z Z Z) (oN Z (oR Z (zQ Z Z Z) (zc ?_)))))))))))))))))))))))))))))))))))))))
 cases Jb
 exact zI ⟨rfl,⟨bY,cI,cJ,cK,cw,cn,rfl,(zO _),(bc.pick [0,1,2,3,4,5,6,7,8,9,10,12,11] _ (by decide) rfl)⟩⟩
 intro dq Jc
 refine oT Z dq (oT Z dq (oT Z dq (oR Z (zQ Z (Zk dq.out) Z) (oM Z Z (oN Z (oN Z (oN Z (zX Z Z Z (wAN Z Z Z) (zX Z Z Z (wAN Z Z Z) (oN Z (oR Z (zQ Z Z Z) (oM Z Z (oN Z (oN Z (oN Z (oR Z (zQ Z Z Z) (oM Z Z (oN Z (oN Z (oN Z (oR Z (zQ Z Z Z) (oM Z Z (oN Z (oN Z (oN Z (zX Z Z Z (wAN Z Z Z) (zX Z Z Z (wAN Z Z Z) (zX Z Z Z (wAN Z Z Z) (zX Z Z Z (wAN Z Z Z) (zX Z Z Z (wAN Z Z Z) (zX Z Z Z (wAN Z Z Z) (zX Z Z Z (wAN Z Z Z) (zX Z Z Z (wAN Z Z Z) (zX Z Z Z (wAN Z Z Z) (zX Z Z Z (wAN Z Z Z) (zX Z Z Z (wAN Z Z Z) (zX Z Z Z (wAN Z Z Z) (zX Z Z Z (wAN Z Z Z) (zX Z Z Z (wAN Z Z Z) (zX Z Z Z (wAN Z Z Z) (zX Z Z Z (wAN Z Z Z) (oN Z (oR Z (zQ Z Z Z) (zc ?_))))))))))))))))))))))))))))))))))))))))))))
 cases Jc
 exact zI ⟨rfl,⟨bY,cI,cJ,cK,cw,cn,rfl,(zO _),(bc.pick [0,1,2,3,4,5,6,7,8,9,10,12,11] _ (by decide) rfl)⟩⟩
 have sB:=sS;rw [if_neg ca] at sB;replace ca:=zN ca
 refine oT Z ca (oT Z ca (oT Z ca (oR Z (zQ Z (Zk ca.out) Z) (oM Z Z (oN Z (oN Z (oN Z (oR Z (zQ Z Z Z) (oM Z Z (oN Z (oN Z (oN Z (zX Z Z Z (wAN Z Z Z) (zX Z Z Z (wAN Z Z Z) (oN Z (oR Z (zQ Z Z Z) (oM Z Z (oN Z (oN Z (oN Z (oR Z (zQ Z Z Z) (oM Z Z (oN Z (oN Z (oN Z (oR Z (zQ Z Z Z) (oM Z Z (oN Z (oN Z (oN Z (zX Z Z Z (wAN Z Z Z) (zX Z Z Z (wAN Z Z Z) (zX Z Z Z (wAN Z Z Z) (zX Z Z Z (wAN Z Z Z) (zX Z Z Z (wAN Z Z Z) (zX Z Z Z (wAN Z Z Z) (zX Z Z Z (wAN Z Z Z) (zX Z Z Z (wAN Z Z Z) (zX Z Z Z (wAN Z Z Z) (zX Z Z Z (wAN Z Z Z) (zX Z Z Z (wAN Z Z Z) (zX Z Z Z (wAN Z Z Z) (zX Z Z Z (wAN Z Z Z) (zX Z Z Z (wAN Z Z Z) (zX Z Z Z (wAN Z Z Z) (zX Z Z Z (wAN Z Z Z) (oN Z (oR Z (zQ Z Z Z) (zc ?_)))))))))))))))))))))))))))))))))))))))))))))))))
 cases sB
 exact zI ⟨rfl,⟨bY,cI,cJ,cK,cw,cn,rfl,(zO _),(bc.pick [0,1,2,3,4,5,6,7,8,9,10,12,11] _ (by decide) rfl)⟩⟩
 rintro OV uM ⟨oY,wA,wB,wC,wD,lK,qR,cB,iC⟩
 refine ifc IS ?_ ?_
 intro ll Jd
 refine ZT (qR.trans (congrArg nH ll.out)) (sR fL1 Z (oA Z Z (eN (zU (za ?_)))))
 have hE:=hH Jd;first | subst r | cases hE
 exact ⟨rfl,_,(ZV rfl),oY,_,(iC.pick [] _ (by decide) rfl),rfl,rfl⟩
 intro ll Je
 refine ZI (qR.trans (congrArg nH (nK.2 ll.out))) (kN (sR (wCg (.fx 3 (wKA (.nil)) .stop)) Z (oL Z (iC.ldBA (j:=7) Z Z wA zg zW (vs:=jS) Z Z) (oR Z (zG Z lK yM Z zC) (oL Z (iC.ldB (j:=3) Z Z Z zJ (v:=jV bE.Mat) Z) ?_)))))
 have AE:=q9.le iS
 have AF:=AE.le iX
 have AG:=AF.le ef
 have AH:=AG.le dJ
 have AI:=AH.le cY
 have AJ:=AI.le cO
 have AK:=AJ.le cy
 have AL:=AK.le cz
 have AM:=AL.le cq
 have AN:=AM.le cb
 have AO:=AN.le bW
 have AP:=AO.le cA
 have AQ:=AP.le cB
 have AS:=re.le iS
 have AT:=AS.le iX
 have AU:=AT.le ef
 have AV:=AU.le dJ
 have AW:=AV.le cY
 have AX:=AW.le cO
 have AY:=AX.le cy
 have AZ:=AY.le cz
 have A3:=AZ.le cq
 have A4:=A3.le cb
 have A5:=A4.le bW
 have A6:=A5.le cA
 have A8:=A6.le cB
 have A9:=rf.le iS
 have Ba:=A9.le iX
 have Bb:=Ba.le ef
 have Bc:=Bb.le dJ
 have Bd:=Bc.le cY
 have Be:=Bd.le cO
 have Bf:=Be.le cy
 have Bg:=Bf.le cz
 have Bh:=Bg.le cq
 have Bi:=Bh.le cb
 have Bj:=Bi.le bW
 have Bk:=Bj.le cA
 have Bl:=Bk.le cB
 have Bm:=rh.le iS
 have Bn:=Bm.le iX
 have Bo:=Bn.le ef
 have Bp:=Bo.le dJ
 have Bq:=Bp.le cY
 have Br:=Bq.le cO
 have Bs:=Br.le cy
 have Bt:=Bs.le cz
 have Bu:=Bt.le cq
 have Bv:=Bu.le cb
 have Bw:=Bv.le bW
 have Bx:=Bw.le cA
 have By:=Bx.le cB
 have q:=bnd Je
 obtain ⟨⟨cP,tb⟩,Bz,sC⟩:=q
 try dsimp only at sC
 refine zE 0 Z Z Z Z (zD Z Z Try.call17 (zB Z (zB Z zM)) Z) iC (fun hs=>wDc (⟨dF,d9,ec,cM⟩:wAD) dh dA dO dU dP dV cQ cV bE.Mat uM oY hs AQ A8 Bl By Bz) (.inr Z) ?_
 rintro oZ Ll Og pq eg GE ⟨fA,fS,rfl,rfl⟩
 let jG:Res:=.row fA fS 41 2 (hD wAC cP)
 have l7:sW w U oZ [jG,.blk cE 41 bX,.blk bC 41 bz,.blk ax 41 ap,.blk aq 45 ao,av,ac,B0,ag,be,an,au,.blk aY 41 aX,ae] pq:=GE
 refine oM Z Z (oR Z (zT Z Z (v:=.slice fA cP.length fS) Z) (oR Z (zT Z Z (v:=jV tb) Z) (oA Z Z (oA Z Z (eN (sR (wCg (.fx 3 (wKA (.nil)) .stop)) Z (oL Z (l7.ldBA (j:=9) Z Z wC zg zW (vs:=[.slice eB fg.length eV,.slice eD fh.length eW,.slice eE fj.length eX,.slice eF fk.length eY]) Z Z) (oR Z (zG Z lK yM Z zC) (oL Z (l7.ldB (j:=4) Z Z Z zJ (v:=jV bE.Mat) Z) ?_)))))))))
 have BA:=Al.le ef
 have BB:=BA.le dJ
 have BC:=BB.le cY
 have BD:=BC.le cO
 have BE:=BD.le cy
 have BF:=BE.le cz
 have BG:=BF.le cq
 have BH:=BG.le cb
 have BI:=BH.le bW
 have BJ:=BI.le cA
 have BK:=BJ.le cB
 have BL:=BK.le eg
 have BM:=Am.le ef
 have BN:=BM.le dJ
 have BO:=BN.le cY
 have BP:=BO.le cO
 have BQ:=BP.le cy
 have BR:=BQ.le cz
 have BS:=BR.le cq
 have BT:=BS.le cb
 have BU:=BT.le bW
 have BV:=BU.le cA
 have BW:=BV.le cB
 have BX:=BW.le eg
 have BY:=Ao.le ef
 have BZ:=BY.le dJ
 have Ca:=BZ.le cY
 have Cb:=Ca.le cO
 have Cc:=Cb.le cy
 have Cd:=Cc.le cz
 have Ce:=Cd.le cq
 have Cg:=Ce.le cb
 have Ch:=Cg.le bW
 have Ci:=Ch.le cA
 have Cj:=Ci.le cB
 have Ck:=Cj.le eg
 have Cm:=Ap.le ef
 have Co:=Cm.le dJ
 have Cp:=Co.le cY
 have Cq:=Cp.le cO
 have Cr:=Cq.le cy
 have Cs:=Cr.le cz
 have Ct:=Cs.le cq
 have Cu:=Ct.le cb
 have Cv:=Cu.le bW
 have Cw:=Cv.le cA
 have Cx:=Cw.le cB
 have Cy:=Cx.le eg
 have q:=bnd sC
 obtain ⟨⟨dM,tc⟩,Cz,sD⟩:=q
 try dsimp only at sD
 refine zE 0 Z Z Z Z (zD Z Z Try.call17 (zB Z (zB Z zM)) Z) l7 (fun hs=>wDc (⟨fg,fh,fj,fk⟩:wAD) eB eV eD eW eE eX eF eY bE.Mat pq oZ hs BL BX Ck Cy Cz) (.inr Z) ?_
 rintro o0 Ln Oh pu iY GF ⟨gz,g8,rfl,rfl⟩
 let dQ:Res:=.row gz g8 41 2 (hD wAC dM)
 have l8:sW w U o0 [dQ,jG,.blk cE 41 bX,.blk bC 41 bz,.blk ax 41 ap,.blk aq 45 ao,av,ac,B0,ag,be,an,au,.blk aY 41 aX,ae] pu:=GF
 refine oM Z Z (oR Z (zT Z Z (v:=.slice gz dM.length g8) Z) (oR Z (zT Z Z (v:=jV tc) Z) (oA Z Z (oA Z Z (eN (sR (wCg (.fx 3 (wKA (.nil)) .stop)) Z (oL Z (l8.ldBA (j:=11) Z Z wD zg zW (vs:=oc) Z Z) (oR Z (zG Z lK yM Z zC) (oL Z (l8.ldB (j:=5) Z Z Z zJ (v:=jV bE.Mat) Z) ?_)))))))))
 have CA:=rC.le cy
 have CB:=CA.le cz
 have CC:=CB.le cq
 have CD:=CC.le cb
 have CE:=CD.le bW
 have CF:=CE.le cA
 have CG:=CF.le cB
 have CH:=CG.le eg
 have CI:=CH.le iY
 have CJ:=rD.le cy
 have CL:=CJ.le cz
 have CM:=CL.le cq
 have CN:=CM.le cb
 have CO:=CN.le bW
 have CP:=CO.le cA
 have CQ:=CP.le cB
 have CR:=CQ.le eg
 have CS:=CR.le iY
 have CT:=rE.le cy
 have CU:=CT.le cz
 have CV:=CU.le cq
 have CW:=CV.le cb
 have CX:=CW.le bW
 have CY:=CX.le cA
 have CZ:=CY.le cB
 have C1:=CZ.le eg
 have C2:=C1.le iY
 have C3:=sN.le cy
 have C4:=C3.le cz
 have C5:=C4.le cq
 have C6:=C5.le cb
 have C7:=C6.le bW
 have C8:=C7.le cA
 have C9:=C8.le cB
 have Da:=C9.le eg
 have Db:=Da.le iY
 have q:=bnd sD
 obtain ⟨⟨fy,te⟩,Dc,sE⟩:=q
 try dsimp only at sE
 refine zE 0 Z Z Z Z (zD Z Z Try.call17 (zB Z (zB Z zM)) Z) l8 (fun hs=>wDc (⟨c6,bJ,bK,ey⟩:wAD) bo bt bO bS bP bT bp bu bE.Mat pu o0 hs CI CS C2 Db Dc) (.inr Z) ?_
 rintro gX Lp Oj g6 NK GI ⟨gA,g9,rfl,rfl⟩
 let od:Res:=.row gA g9 41 2 (hD wAC fy)
 have iD:sW w U gX [od,dQ,jG,.blk cE 41 bX,.blk bC 41 bz,.blk ax 41 ap,.blk aq 45 ao,av,ac,B0,ag,be,an,au,.blk aY 41 aX,ae] g6:=GI
 refine oM Z Z (oR Z (zT Z Z (v:=.slice gA fy.length g9) Z) (oR Z (zT Z Z (v:=jV te) Z) (oA Z Z (oA Z Z (eN (zL (zL (CK.fresh fun ez dY=>?_))))))))
 have wE:ez 15=.slice cc aL.length cm:=(dY 15).trans wB
 have qS:ez 29=jV tb:=(dY 29).trans rfl
 have wG:ez 31=jV tc:=(dY 31).trans rfl
 have wH:ez 33=jV te:=(dY 33).trans rfl
 have lL:ez 36=.slice fA cP.length fS:=(dY 36).trans rfl
 have qT:ez 37=.slice gz dM.length g8:=(dY 37).trans rfl
 have wI:ez 38=.slice gA fy.length g9:=(dY 38).trans rfl
 clear dY
 refine rR (wMW (.fx 18 (.fl 19 (.fl 20 .nil)) .stop)) Z (oM Z qS (oM Z wG (oR Z (Zg Z Z Z) (oM Z Z (ifc sE ?_ ?_)))))
 intro dv Jf
 refine zo Z Z Z (zP Z Z (zt (fun h=>h dv.out))) Z qS (zo Z Z Z (zP Z Z (zt (fun h=>h dv.out))) Z wH (zY Z Z Z (zP Z Z (zt (fun h=>h dv.out))) (fun _=>Zg Z Z Z) (oR Z (ze Z (zt (fun h=>h dv.out)) Z) (oM Z Z (ifc Jf ?_ ?_)))))
 intro ci Jg
 refine zo Z Z Z (zP Z Z (zt (fun h=>h ci.out))) Z lL (zY Z Z Z (zP Z Z (zt (fun h=>h ci.out))) (fun _=>zw Z Z ZK) (zo Z Z Z (zP Z Z (zt (fun h=>h ci.out))) Z qT (zY Z Z Z (zP Z Z (zt (fun h=>h ci.out))) (fun _=>zw Z Z ZK) (zY Z Z Z (zP Z Z (zt (fun h=>h ci.out))) (fun _=>Zg Z Z Z) (oR Z (ze Z (zt (fun h=>h ci.out)) Z) (oM Z Z (ifc Jg ?_ ?_)))))))
 intro cH Jh
 refine zo Z Z Z (zP Z Z (zt (fun h=>h cH.out))) Z lL (zo Z Z Z (zP Z Z (zt (fun h=>h cH.out))) Z wI ?_)
 have q:=iD.freezeR (k:=2) (n:=cP.length) rfl (wAE (f:=wAC) (sz:=2) (fun _=>rfl) cP) (by decide)
 obtain ⟨tT,NL,JW,GJ⟩:=q
 have GK:sW w U tT [od,dQ,.blk cE 41 bX,.blk bC 41 bz,.blk ax 41 ap,.blk aq 45 ao,av,ac,B0,ag,be,an,au,.blk aY 41 aX,ae] g6:=GJ
 have q:=GK.freezeR (k:=0) (n:=fy.length) rfl (wAE (f:=wAC) (sz:=2) (fun _=>rfl) fy) (by decide)
 obtain ⟨o3,Kv,JX,GM⟩:=q
 have GN:sW w U o3 [dQ,.blk cE 41 bX,.blk bC 41 bz,.blk ax 41 ap,.blk aq 45 ao,av,ac,B0,ag,be,an,au,.blk aY 41 aX,ae] g6:=GM
 have rH:=JW.le Kv
 refine bnK Jh fun Ox Dd Ji=>zE 0 Z Z Z (zP Z Z (zt (fun h=>h cH.out))) (zD Z Z Try.call18 (zB Z (zB Z zM)) Z) GN (fun hs=>wCc cP fA fS fy gA g9 g6 o3 hs rH JX Dd) (.inr Z) ?_
 rintro gY Lq Ok uO Kw GP ⟨rfl,rfl⟩
 have sf:sW w U gY [dQ,.blk cE 41 bX,.blk bC 41 bz,.blk ax 41 ap,.blk aq 45 ao,av,ac,B0,ag,be,an,au,.blk aY 41 aX,ae] uO:=GP
 refine zY Z Z Z (zP Z Z (zt (fun h=>h cH.out))) (fun _=>Zd Z Z) (oR Z (ze Z (zt (fun h=>h cH.out)) Z) (eN (ifc Ji ?_ ?_)))
 intro ls iH
 refine ZI (nC ls.out) (kN (zL (sR fL3 Z (oM Z lL (oR Z (zw Z Z ZK) (oM Z Z (eN (zd ?_))))))))
 have q:=wCB iH
 obtain ⟨NU,iE⟩:=q
 have q:=wCA iE
 obtain ⟨mm,H2⟩:=q
 replace mm:=zN mm
 refine yX (fun d7 _ σ_ w_=>∃ (U_:PHeap),σ_ 317=jV (↑d7:Int)/\σ_ 15=.slice cc aL.length cm/\σ_ 37=.slice gz dM.length g8/\σ_ 315=.slice fA cP.length fS/\σ_ 316=jV (↑cP.length:Int)/\PHeap.Le gY U_/\sW w U U_ [.blk cE 41 bX,.blk bC 41 bz,.blk ax 41 ap,.blk aq 45 ao,av,ac,B0,ag,be,an,au,.blk aY 41 aX,ae,dQ] w_) H2 ?_ ?_ ?_
 exact ⟨gY,rfl,wE,qT,rfl,rfl,(zO _),(sf.pick [1,2,3,4,5,6,7,8,9,10,11,12,13,0] _ (by decide) rfl)⟩
 rintro d7 ⟨⟩ OG OW Ma mf ⟨gZ,im,lM,qU,qV,qW,s6,sg⟩ sT sm
 try dsimp only at sT
 have pZ:Hid ((↑d7:Int) < (↑cP.length:Int)):=zN (wAs mf)
 replace mf:=zN mf
 have Iq:Hid (w64 ((↑d7:Int) + 1)=(↑(d7 + 1):Int)):=zN (by have h1:=mm.out;have h2:=pZ.out;rw [wAW] <;> omega)
 refine sR fL1 Z (oR Z (zi Z im qW) (eN (zL (cT Z pZ (kN (zL (zd (sR (wCg (.fx 3 (.fl 4 (.fx 5 .nil .stop)) .stop)) Z (oM Z im (bnK sT fun gx rI Jj=>?_))))))))))
 have De:=rH.le Kw
 have Df:=De.le s6
 have q:=Df.el (fun _=>rfl) (wAj rI)
 obtain ⟨Mu,NT,Ej,Em⟩:=q
 refine oR Z (Zh Z qV Ej im ZK zf (wCv rI)) (oL Z (sg.ldCA (f:=0) Em Z Z Zi zf (us:=[jV gx.Lo,jV gx.Hi]) Z Z) (zR (cs:=bx) Z Z Z Z Z ZJ Z sg ?_))
 intro Mb u7 GQ
 refine oA Z Z ?_
 let jH:List Value:=[jV gx.Lo,jV gx.Hi]
 refine zV (j:=0) (vs:=jH) Z Z Z Z GQ Z Z Z Z zf (zA Z) Z Z Z ?_
 intro j7 GR
 have GS:sW w U gZ [.blk u7 41 jH,.blk cE 41 bX,.blk bC 41 bz,.blk ax 41 ap,.blk aq 45 ao,av,ac,B0,ag,be,an,au,.blk aY 41 aX,ae,dQ] j7:=GR
 refine eN (zL (ZG ZH [3,3,3,3,3,3,3,3,3,1,3,1,1,3,3] fL15 (by kernel_rfl) ?_))
 have dE:=GS.drew
 generalize hw_W2495:({ j7 with drawn:=j7.drawn + 1 }:World)=Mc at dE ⊢
 refine oM Z Z (oM Z lM (oR Z (zw Z Z zH) (oR Z (Runs.geq Z Z Z) (oM Z Z (ifc Jj ?_ ?_)))))
 intro bk Jk
 refine oT Z bk (oT Z bk (oT Z bk (oT Z bk (oT Z bk (oT Z bk (oT Z bk (oT Z bk (oT Z bk (oR Z (zQ Z (Zk bk.out) Z) (eN (ZT Z (sR fL1 Z (oA Z Z (eN (zU (zx (za ?_)))))))))))))))))
 have q:=wAh Jk
 obtain ⟨KI,Jl,vl⟩:=q
 have q:=wBw iH iE (sm KI vl)
 obtain rfl:=q
 refine za (zx (za ?_))
 have hE:=hH Jl;first | subst r | cases hE
 exact ⟨rfl,_,(ZV rfl),gZ,_,(dE.pick [] _ (by decide) rfl),rfl,rfl⟩
 intro bk Jm
 refine zo Z Z Z (wF Z bk) Z qU (zo Z Z Z (wF Z bk) Z lM (zo Z Z Z (wF Z bk) Z Z (bnK Jm fun _ lW Jn=>?_)))
 obtain ⟨Mw,rY⟩:=dE.rowSome (j:=13) rfl (by rw [wAE (f:=KL.encI) (sz:=1) (fun _=>rfl) aL];have hz:=wAT lW;omega)
 refine rU Z (wF Z bk) (Zh Z Z rY Z zH zC (wAT lW)) ?_
 have Ij:=wBA (xs:=aL) (wAT lW)
 refine ZF rfl rfl rfl (zP rfl rfl (zt bk.out)) (dE.ldR (j:=13) rfl rY rfl rfl zJ (wAV (sz:=1) (fun _=>rfl) _ _ 0 _ Ij (by first | omega | rfl | simp) rfl)) rfl (bnK Jn fun _ iq Jo=>?_)
 obtain ⟨Mx,rZ⟩:=dE.rowSome (j:=14) rfl (by rw [wAE (f:=wAC) (sz:=2) (fun _=>rfl) dM];have hz:=wAT iq;omega)
 refine rU Z (wF Z bk) (Zb Z Z rZ Z ZK zf (wBO iq) (wBP iq)) ?_
 have Ik:=wBA (xs:=dM) (wAT iq)
 refine ZF rfl rfl rfl (zP rfl rfl (zt bk.out)) (dE.ldRA (j:=14) rfl rZ rfl rfl Zi zf (vs:=[jV ((gd dM (gd aL d7).toNat).Lo),jV ((gd dM (gd aL d7).toNat).Hi)]) (wEs (sz:=2) (fun _=>rfl) _ _ _ Ik (by first | omega | rfl | simp) rfl) rfl) rfl (ZF rfl rfl rfl (zP rfl rfl (zt bk.out)) (dE.ldBA (j:=0) rfl rfl rfl Zi zf (vs:=jH) rfl rfl) rfl (zY rfl rfl rfl (zP rfl rfl (zt bk.out)) (fun _=>ZM (yi (enc:=wAC) (a:=(gd dM (gd aL d7).toNat)) (b:=gx) rfl rfl rfl wGz wGy) (congrArg nH (decide_not).symm)) (zY rfl rfl rfl rfl (fun _=>ze rfl (zt bk.out) rfl) (eN (ifc Jo ?_ ?_)))))
 intro lu Jp
 refine ZI (zt (fun h=>h lu.out)) (Zp (ZA (zI (rR fL2 Z (oR Z (ZM (zb Z im Z) (congrArg (jV) Iq.out)) (oM Z Z (zc ?_)))))))
 have q:=hH Jp
 obtain rfl:=q
 exact zI ⟨rfl,_,rfl,⟨gZ,rfl,lM,qU,qV,qW,s6,(dE.pick [1,2,3,4,5,6,7,8,9,10,11,12,13,14] _ (by decide) rfl)⟩⟩
 intro lu Jq
 refine cT Z lu (sR fL1 Z (oA Z Z (eN (zU (zx (za ?_))))))
 have q:=wAh Jq
 obtain ⟨KJ,Jr,vm⟩:=q
 have q:=wBw iH iE (sm KJ vm)
 obtain rfl:=q
 refine za (zx (za ?_))
 have hE:=hH Jr;first | subst r | cases hE
 exact ⟨rfl,_,(ZV rfl),gZ,_,(dE.pick [] _ (by decide) rfl),rfl,rfl⟩
 rintro ⟨⟩ OX uQ ⟨tU,wU,M9,Na,Nb,wJ,NM,GT⟩ HR
 have sF:=wCx iH iE HR
 try dsimp only at sF
 have vg:Hid (¬ ((↑(((↑cP.length:Int):Int) - 0).toNat:Int) < (↑cP.length:Int))):=zN (wAc)
 refine sR fL1 Z (oR Z (zi Z wU wJ) (eN (zL (cF Z vg (Zc (zm (zm (ZY (zI (sR (.fx 0 (.fl 1 .nil) .stop) Z (bnK sF fun Oy Dg Js=>zE 0 Z Z Z Z (zD Z Z Try.call19 zM Z) GT (fun hs=>wEj uQ tU hs Dg) (.inr Z) ?_)))))))))))
 rintro o5 Lr Ol uR NN GU ⟨rfl,rfl⟩
 have GV:sW w U o5 [.blk cE 41 bX,.blk bC 41 bz,.blk ax 41 ap,.blk aq 45 ao,av,ac,B0,ag,be,an,au,.blk aY 41 aX,ae,dQ] uR:=GU
 refine oA Z Z (eN (zU ?_))
 have hE:=hH Js;first | subst r | cases hE
 exact ⟨rfl,_,(ZV rfl),o5,_,(GV.pick [] _ (by decide) rfl),rfl,rfl⟩
 intro ls Jt
 refine ZT (nF (ls.out)) (sR fL1 Z (oA Z Z (eN (zU (za ?_)))))
 have hE:=hH Jt;first | subst r | cases hE
 exact ⟨rfl,_,(ZV rfl),gY,_,(sf.pick [] _ (by decide) rfl),rfl,rfl⟩
 intro cH Ju
 refine oT Z cH (oT Z cH (ZE Z Z Z (zS Z Z (Zk cH.out) Z) (oT Z cH (oR Z (zQ Z (Zk cH.out) Z) (eN (ZT Z (sR fL1 Z (oA Z Z (eN (zU (za ?_)))))))))))
 have hE:=hH Ju;first | subst r | cases hE
 exact ⟨rfl,_,(ZV rfl),gX,_,(iD.pick [] _ (by decide) rfl),rfl,rfl⟩
 intro ci Jv
 refine oT Z ci (oT Z ci (oT Z ci (oT Z ci (oT Z ci (oR Z (zQ Z (Zk ci.out) Z) (oM Z Z (oN Z (oN Z (ZE Z Z Z (zS Z Z Z Z) (oN Z (oR Z (zQ Z Z Z) (eN (ZT Z (sR fL1 Z (oA Z Z (eN (zU (za ?_))))))))))))))))))
 have hE:=hH Jv;first | subst r | cases hE
 exact ⟨rfl,_,(ZV rfl),gX,_,(iD.pick [] _ (by decide) rfl),rfl,rfl⟩
 intro dv Jw
 refine oT Z dv (oT Z dv (oT Z dv (oR Z (zQ Z (Zk dv.out) Z) (oM Z Z (oN Z (oN Z (oN Z (oN Z (oN Z (oR Z (zQ Z Z Z) (oM Z Z (oN Z (oN Z (ZE Z Z Z (zS Z Z Z Z) (oN Z (oR Z (zQ Z Z Z) (eN (ZT Z (sR fL1 Z (oA Z Z (eN (zU (za ?_)))))))))))))))))))))))
 have hE:=hH Jw;first | subst r | cases hE
 exact ⟨rfl,_,(ZV rfl),gX,_,(iD.pick [] _ (by decide) rfl),rfl,rfl⟩
end Go.Proofs.Ytlnfbjphfoipaaa
