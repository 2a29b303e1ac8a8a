import Derived.Test.YtlnfbjphfoipaaaZ4
import Derived.Test.YtlnfbjphfoipaaaZ3
import Derived.Test.YtlnfbjphfoipaaaZ5
import Derived.Test.YtlnfbjphfoipaaaZ6
import Derived.Test.YtlnfbjphfoipaaaZ7
set_option linter.all false
open Option.some renaming inj->hD
open List renaming flatMap->hH
namespace Go.Proofs.Ytlnfbjphfoipaaa
open Go.KL
def gFo:Sch:=.fx 8 (.fx 9 .nil .stop) .stop
def gFp:Sch:=.fx 10 (.fl 11 .nil) .stop
def gFq:Sch:=.fx 6 (.fx 7 (.fl 8 .nil) .stop) .stop
def gFr:Sch:=.fx 7 gFo .stop
def gFs:Sch:=.fx 6 gFo .stop
def gFt:Sch:=.fx 5 gFo .stop
def gFu:Sch:=.fx 2 gFt .stop
def gFv:Sch:=.fx 5 gFr (.fx 7 gFt .stop)
def gFw:Sch:=.fx 5 gFs (.fx 6 gFt .stop)
set_option maxHeartbeats 4000000
theorem wEN (p0:List Int) (iE:Option Addr) (iG:Nat) (p1:List Int) (iF:Option Addr) (iH:Nat) (w:World) (U:PHeap) (hS:St0 w U []) (DO:Sl U 1 iE iG p0.length (hH KL.encB8 p0)) (DP:Sl U 1 iF iH p1.length (hH KL.encB8 p1)) {r:Bool} (hm:wBd p0 p1=some r):Gv Try.prog 7 [.slice iE p0.length iG,.slice iF p1.length iH] w (wCB w [] U (fun U_ L_ v=>v=.bool r/\L_=[])):=by
 unfold wBd at hm
 refine Gv.of Try.func7 Z Try.ntmps7 Try.results7 Z (sR fL1 Z (oA Z Z (eN (sR (.fl 0 (.fx 1 (.fx 2 (wIS (.fx 7 (.fx 8 (.fl 9 (.fl 10 .nil)) .stop) .stop)) .stop) .stop)) Z (oM Z Z (bnK hm fun x1 h2 Fp=>zE 0 Z Z Z Z (zD Z Z Try.call9 (zB Z zK) Z) hS (fun hs=>wFA p0 iE iG w U hs DO h2) (.inr Z) ?_))))))
 rintro U4 L5 v6 W7 Ga DB ⟨gg,iP,jI,rfl,rfl,vV⟩
 have Cn:sW w U U4 [.blk gg 94 [.slice iP x1.bytes.length jI,jV x1.next,.int .u32 x1.state]] W7:=DB
 have q:=bnd Fp
 obtain ⟨⟨ag,aZ,cz,iK⟩,xO,mU⟩:=q
 try dsimp only at mU
 refine zE 1 Z Z Z Z (zD Z Z Try.call8 (zB Z (zB Z (zB Z (zB Z zK)))) Z) Cn (fun hs=>wFQ x1 gg iP jI 6 6 12 W7 U4 hs vV xO) (.inl Z) ?_
 rintro fZ Hg IP qh F7 Di ⟨ay,aJ,aM,aS,aK,aL,aN,aT,aW,aX,di,dG,o8,qK,rfl,rfl,A6,H5⟩
 let B0:Res:=.blk gg 94 [.slice o8 iK.bytes.length qK,jV iK.next,.int .u32 iK.state]
 let B1:Res:=.row aN aT 39 4 (hH wAB ag.Readings)
 let B2:Res:=.row di dG 3 1 (hH KL.encI cz)
 let B3:Res:=.row aK aL 43 3 (hH wAA ag.Clocks)
 let B4:Res:=.row aM aS 41 2 (hH wAG ag.Splits)
 let B5:Res:=.row ay aJ 3 1 (hH KL.encI ag.Starts)
 have Dp:sW w U fZ [B5,B4,B3,B1,B2,B0] qh:=Di
 refine oM Z Z (oR Z (zP Z Z (v:=.agg #[.slice ay ag.Starts.length aJ,.slice aM ag.Splits.length aS,.slice aK ag.Clocks.length aL,.slice aN ag.Readings.length aT]) Z) (oR Z (zP Z Z (v:=.slice aW aZ.length aX) Z) (oR Z (zP Z Z (v:=.slice di cz.length dG) Z) (zT (cs:=[.slice none 0 0,.slice none 0 0,.slice none 0 0,.slice none 0 0]) Z Z Z Z Z yp Z Dp ?_))))
 intro HF ab Dq
 let B6:List Value:=[.slice ay ag.Starts.length aJ,.slice aM ag.Splits.length aS,.slice aK ag.Clocks.length aL,.slice aN ag.Readings.length aT]
 refine zV (j:=0) (vs:=B6) Z Z Z Z Dq Z Z Z Z zZ (zA Z) Z Z Z ?_
 intro jD Dr
 have Ds:sW w U fZ [.blk ab 28 B6,B5,B4,B3,B1,B2,B0] jD:=Dr
 refine oA Z Z (oA Z Z (eN (sR (.fl 0 (.fx 1 (.fl 2 .nil) .stop)) Z (oM Z Z ?_))))
 have A7:=DP.le Ga
 have A8:=A7.le F7
 refine bnK mU fun iN A9 FC=>zE 0 Z Z Z Z (zD Z Z Try.call9 (zB Z zK) Z) Ds (fun hs=>wFA p1 iF iH jD fZ hs A8 A9) (.inr Z) ?_
 rintro pq Hm IU cf F9 Dt ⟨ac,iW,jS,rfl,rfl,Ba⟩
 let B7:Res:=.blk ac 94 [.slice iW iN.bytes.length jS,jV iN.next,.int .u32 iN.state]
 have mH:sW w U pq [B7,.blk ab 28 B6,B5,B4,B3,B1,B2,B0] cf:=Dt
 refine oA Z Z (eN (sR (wCa (.fx 3 (wJA (.nil)) .stop)) Z (oL Z (mH.ldBA (j:=1) Z Z Z ze zZ (vs:=B6) Z Z) (oM Z Z (oM Z Z ?_)))))
 have q:=mH.freezeR (k:=2) (n:=ag.Starts.length) rfl (wAE (f:=KL.encI) (sz:=1) (fun _=>rfl) ag.Starts) (by decide)
 obtain ⟨pu,oc,FN,Du⟩:=q
 have Dv:sW w U pu [B7,.blk ab 28 B6,B4,B3,B1,B2,B0] cf:=Du
 have q:=Dv.freezeR (k:=2) (n:=ag.Splits.length) rfl (wAE (f:=wAG) (sz:=2) (fun _=>rfl) ag.Splits) (by decide)
 obtain ⟨py,iD,FO,Dw⟩:=q
 have Dx:sW w U py [B7,.blk ab 28 B6,B3,B1,B2,B0] cf:=Dw
 have q:=Dx.freezeR (k:=2) (n:=ag.Clocks.length) rfl (wAE (f:=wAA) (sz:=3) (fun _=>rfl) ag.Clocks) (by decide)
 obtain ⟨pz,fG,FP,Dy⟩:=q
 have DA:sW w U pz [B7,.blk ab 28 B6,B1,B2,B0] cf:=Dy
 have q:=DA.freezeR (k:=2) (n:=ag.Readings.length) rfl (wAE (f:=wAB) (sz:=4) (fun _=>rfl) ag.Readings) (by decide)
 obtain ⟨pC,dZ,FQ,DD⟩:=q
 have DE:sW w U pC [B7,.blk ab 28 B6,B2,B0] cf:=DD
 have q:=DE.freezeR (k:=2) (n:=cz.length) rfl (wAE (f:=KL.encI) (sz:=1) (fun _=>rfl) cz) (by decide)
 obtain ⟨jm,da,m5,DK⟩:=q
 have DL:sW w U jm [B7,.blk ab 28 B6,B0] cf:=DK
 have Be:=FN.le iD
 have tW:=Be.le fG
 have ud:=tW.le dZ
 have lC:=ud.le da
 have um:=FO.le fG
 have un:=um.le dZ
 have lD:=un.le da
 have uq:=FP.le dZ
 have lE:=uq.le da
 have lF:=FQ.le da
 have ur:=A6.le F9
 have uv:=ur.le oc
 have uw:=uv.le iD
 have ux:=uw.le fG
 have uE:=ux.le dZ
 have lG:=uE.le da
 have q:=bnd FC
 obtain ⟨⟨ov,ow⟩,uR,mI⟩:=q
 try dsimp only at mI
 refine zE 0 Z Z Z Z (zD Z Z Try.call37 (zB Z (zB Z (zB Z zK))) Z) DL (fun hs=>wIg ag ay aJ aM aS aK aL aN aT aZ aW aX cz di dG cf jm hs lC lD lE lF lG m5 uR) (.inr Z) ?_
 rintro i4 GQ Io jp cq BP ⟨rfl,rfl⟩
 have my:sW w U i4 [B7,.blk ab 28 B6,B0] jp:=BP
 refine oM Z Z (oR Z (zP Z Z (v:=.bool ov) Z) (oR Z (zP Z Z (v:=jV ow) Z) (oA Z Z (oA Z Z (eN (sR (.fl 0 (.fx 1 (fC2_8 (.nil)) .stop)) Z (oL Z (my.ldBA (j:=1) Z Z Z ze zZ (vs:=B6) Z Z) ?_)))))))
 have lJ:=lC.le cq
 have lK:=lD.le cq
 have lL:=lE.le cq
 have lM:=lF.le cq
 have q:=bnd mI
 obtain ⟨⟨iI,cx,ox⟩,vH,mJ⟩:=q
 try dsimp only at mJ
 refine zE 0 Z Z Z Z (zD Z Z Try.call27 (zB Z zK) Z) my (fun hs=>wGE ag ay aJ aM aS aK aL aN aT jp i4 hs lJ lK lL lM vH) (.inr Z) ?_
 rintro i8 GV Is jt cr Cc ⟨dg,dE,jM,dh,dF,rfl,rfl,wt⟩
 let B8:Res:=.row dh dF 3 1 (hH KL.encI cx)
 have mC:sW w U i8 [.row dg dE 23 1 jM,B8,B7,.blk ab 28 B6,B0] jt:=Cc
 refine oM Z Z (oR Z (zP Z Z (v:=.slice dg iI.length dE) Z) (oR Z (zP Z Z (v:=.slice dh cx.length dF) Z) (oR Z (zP Z Z (v:=jV ox) Z) (oA Z Z (oA Z Z (oA Z Z (eN (sR (.fl 0 (.fx 1 (wGM (.nil)) .stop)) Z (oL Z (mC.ldBA (j:=3) Z Z Z ze zZ (vs:=B6) Z Z) ?_)))))))))
 have lW:=lJ.le cr
 have lX:=lK.le cr
 have lY:=lL.le cr
 have lZ:=lM.le cr
 have q:=bnd mJ
 obtain ⟨⟨oB,oC⟩,wH,mM⟩:=q
 try dsimp only at mM
 refine zE 0 Z Z Z Z (zD Z Z Try.call28 (zB Z zK) Z) mC (fun hs=>wIA ag ay aJ aM aS aK aL aN aT jt i8 hs lW lX lY lZ wH) (.inr Z) ?_
 rintro dq G1 Iz eE ca Cv ⟨iV,jO,rfl,rfl⟩
 let B9:Res:=.row iV jO 78 4 (hH wAQ oB)
 have cM:sW w U dq [B9,.row dg dE 23 1 jM,B8,B7,.blk ab 28 B6,B0] eE:=Cv
 refine oM Z Z (oR Z (zP Z Z (v:=.slice iV oB.length jO) Z) (oR Z (zP Z Z (v:=jV oC) Z) (oA Z Z (oA Z Z (eN (zM (zM (yX fun bK bv=>?_))))))))
 have gI:bK 5=.pointer (some ⟨ab,0,none⟩):=(bv 5).trans rfl
 have sn:bK 6=.slice aW aZ.length aX:=(bv 6).trans rfl
 have sw:bK 7=.slice di cz.length dG:=(bv 7).trans rfl
 have sG:bK 8=.pointer (some ⟨ac,0,none⟩):=(bv 8).trans rfl
 have sH:bK 9=.bool ov:=(bv 9).trans rfl
 have sI:bK 10=jV ow:=(bv 10).trans rfl
 have sJ:bK 11=.slice dg iI.length dE:=(bv 11).trans rfl
 have lj:bK 12=.slice dh cx.length dF:=(bv 12).trans rfl
 have sK:bK 13=jV ox:=(bv 13).trans rfl
 have sL:bK 15=jV oC:=(bv 15).trans rfl
 clear bv
 refine rR (wNE (.fx 18 (.fl 19 (.fl 20 .nil)) .stop)) Z (oM Z sI (oR Z (ZN Z Z Z) (oM Z Z (ifc mM ?_ ?_))))
 intro ci Eo
 refine zr Z Z Z (zF Z Z (zd (fun h=>h ci.out))) Z sK (zY Z Z Z (zF Z Z (zd (fun h=>h ci.out))) (fun _=>ZN Z Z Z) (oR Z (zb Z (zd (fun h=>h ci.out)) Z) (oM Z Z (ifc Eo ?_ ?_))))
 intro cj Ey
 refine zr Z Z Z (zF Z Z (zd (fun h=>h cj.out))) Z sL (zY Z Z Z (zF Z Z (zd (fun h=>h cj.out))) (fun _=>ZN Z Z Z) (oR Z (zb Z (zd (fun h=>h cj.out)) Z) (oM Z Z (ifc Ey ?_ ?_))))
 intro cm Ez
 refine zr Z Z Z (zF Z Z (zd (fun h=>h cm.out))) Z sH (zY Z Z Z (zF Z Z (zd (fun h=>h cm.out))) (fun _=>ZT Z Z) (oR Z (zb Z (zd (fun h=>h cm.out)) Z) (oM Z Z (ifc Ez ?_ ?_))))
 intro bn EA
 refine zl Z Z Z (zF Z Z (nC bn.out)) (cM.ldBA (j:=4) Z Z gI ze zZ (vs:=B6) Z Z) Z (zr Z Z Z (zF Z Z (nC bn.out)) Z sJ (zr Z Z Z (zF Z Z (nC bn.out)) Z lj ?_))
 have xH:=wt.le ca
 have q:=cM.freezeRR (R:=wHb) (k:=1) rfl xH rfl (by decide)
 obtain ⟨pk,cu,FL,CJ⟩:=q
 have CO:sW w U pk [B9,B8,B7,.blk ab 28 B6,B0] eE:=CJ
 have q:=CO.freezeR (k:=1) (n:=cx.length) rfl (wAE (f:=KL.encI) (sz:=1) (fun _=>rfl) cx) (by decide)
 obtain ⟨jg,cb,m4,CQ⟩:=q
 have CR:sW w U jg [B9,B7,.blk ab 28 B6,B0] eE:=CQ
 have xN:=lW.le ca
 have xP:=xN.le cu
 have bD:=xP.le cb
 have xQ:=lX.le ca
 have xT:=xQ.le cu
 have bE:=xT.le cb
 have x8:=lY.le ca
 have yw:=x8.le cu
 have bF:=yw.le cb
 have z2:=lZ.le ca
 have z3:=z2.le cu
 have bG:=z3.le cb
 have Ac:=FL.le cb
 refine bnK EA fun I7 Ad EJ=>zE 0 Z Z Z (zF Z Z (nC bn.out)) (zD Z Z Try.call24 (zB Z (zB Z (zB Z zK))) Z) CR (fun hs=>wEI ag ay aJ aM aS aK aL aN aT iI dg dE cx dh dF eE jg hs bD bE bF bG Ac m4 Ad) (.inr Z) ?_
 rintro eB He IM qc aj Db ⟨rfl,rfl⟩
 have io:sW w U eB [B9,B7,.blk ab 28 B6,B0] qc:=Db
 refine zY Z Z Z (zF Z Z (nC bn.out)) (fun _=>ZT Z Z) (oR Z (zb Z (nC bn.out) Z) (eN (ifc EJ ?_ ?_)))
 intro gz dU
 refine zn (nC gz.out) (kN (zM (sR fL4 Z (oR Z (zJ Z gI zQ Z Zm) (oL Z (io.ldB (j:=2) Z Z Z yA (v:=.slice aK ag.Clocks.length aL) Z) (oR Z (zz Z Z ZR) (oM Z Z (eN (zc ?_)))))))))
 have q:=wBg dU
 obtain ⟨Ij,dS⟩:=q
 have q:=wBf dS
 obtain ⟨iw,DU⟩:=q
 replace iw:=zS iw
 refine yL (fun cP _ σ_ w_=>∃ (U_:PHeap),σ_ 88=jV (↑cP:Int)/\σ_ 5=.pointer (some ⟨ab,0,none⟩)/\σ_ 6=.slice aW aZ.length aX/\σ_ 7=.slice di cz.length dG/\σ_ 8=.pointer (some ⟨ac,0,none⟩)/\σ_ 12=.slice dh cx.length dF/\σ_ 87=jV (↑ag.Clocks.length:Int)/\PHeap.Le eB U_/\sW w U U_ [B7,.blk ab 28 B6,B0] w_) DU ?_ ?_ ?_
 exact ⟨eB,rfl,gI,sn,sw,sG,lj,rfl,(zW _),(io.pick [1,2,3] _ (by decide) rfl)⟩
 rintro cP ⟨⟩ Jc Jo qf it ⟨pp,gS,lq,s7,ls,s8,lu,lv,cw,mF⟩ m7 iq
 try dsimp only at m7
 have jQ:Hid ((↑cP:Int) < (↑ag.Clocks.length:Int)):=zS (wBD it)
 replace it:=zS it
 have DY:Hid (w64 ((↑cP:Int) + 1)=(↑(cP + 1):Int)):=zS (by have h1:=iw.out;have h2:=jQ.out;rw [wAU] <;> omega)
 refine sR fL1 Z (oR Z (zh Z gS lv) (eN (zM (cT Z jQ (kN (zM (zc (sR fL2 Z (oM Z gS (oA Z Z (eN (sR (.fl 0 (.fl 1 (.fx 2 (wJk gFq) .stop))) Z (oL Z (mF.ldBA (j:=1) Z Z lq ze zZ (vs:=B6) Z Z) (oM Z Z ?_))))))))))))))
 have As:=bD.le aj
 have Au:=As.le cw
 have Av:=bE.le aj
 have Aw:=Av.le cw
 have Ax:=bF.le aj
 have Ay:=Ax.le cw
 have Az:=bG.le aj
 have AA:=Az.le cw
 have q:=bnd m7
 obtain ⟨⟨dd,GK⟩,AB,mW⟩:=q
 try dsimp only at mW
 refine zE 0 Z Z Z Z (zD Z Z Try.call38 (zB Z (zB Z zK)) Z) mF (fun hs=>wIh ag ay aJ aM aS aK aL aN aT (↑cP:Int) qf pp hs Au Aw Ay AA AB) (.inr Z) ?_
 rintro eD Hh IQ qi iC Df ⟨rfl,rfl⟩
 have Dg:sW w U eD [B7,.blk ab 28 B6,B0] qi:=Df
 refine oM Z Z (oR Z (zP Z Z (v:=.agg #[jV dd.Lo,jV dd.Hi]) Z) (oR Z (zP Z Z (v:=jV GK) Z) (zT (cs:=[jV 0,jV 0]) Z Z Z Z Z ZJ Z Dg ?_)))
 intro HD gp Dh
 let cD:List Value:=[jV dd.Lo,jV dd.Hi]
 refine zV (j:=0) (vs:=cD) Z Z Z Z Dh Z Z Z Z zj (zA Z) Z Z Z ?_
 intro gf Dj
 have Dk:sW w U eD [.blk gp 41 cD,B7,.blk ab 28 B6,B0] gf:=Dj
 refine yD rfl rfl rfl rfl rfl rfl (eN (zM (ZA ZB [3,3,3,3,3,3,1,1,2,3,3,3,3,3,3,1,1,2,3,3] (wMC (.fx 8 (wNO (.fx 17 (.fl 18 (.fl 19 .nil)) .stop)) .stop)) (by kernel_rfl) ?_)))
 have dQ:=Dk.drew
 generalize hw_W275:({ gf with drawn:=gf.drawn + 1 }:World)=qj at dQ ⊢
 refine oM Z Z (oR Z (ZN Z Z Z) (oM Z Z (ifc mW ?_ ?_)))
 intro bb Fk
 refine zr Z Z Z (zF Z Z (zd (fun h=>h bb.out))) Z ls (zr Z Z Z (zF Z Z (zd (fun h=>h bb.out))) Z Z (bnK Fk fun oX ms Fm=>?_))
 have AC:=m5.le cq
 have AD:=AC.le cr
 have AE:=AD.le ca
 have AF:=AE.le cu
 have AG:=AF.le cb
 have AH:=AG.le aj
 have AI:=AH.le cw
 have AJ:=AI.le iC
 have q:=AJ.el (fun _=>rfl) (wAW ms)
 obtain ⟨HQ,Ig,Br,BA⟩:=q
 refine zY Z Z Z (zF Z Z (zd (fun h=>h bb.out))) (fun _=>Zi Z Z Br Z zH zC (wBi ms)) (zl Z Z Z (zF Z Z (zd (fun h=>h bb.out))) (dQ.ldC (f:=0) BA (v:=jV oX) Z Z zG Z) Z (zl Z Z Z (zF Z Z (zd (fun h=>h bb.out))) (dQ.ldBA (j:=0) Z Z Z Zn zj (vs:=cD) Z Z) Z (bnK Fm fun I9 AK Fo=>zE 0 Z Z Z (zF Z Z (zd (fun h=>h bb.out))) (zD Z Z Try.call22 (zB Z (zB Z zK)) Z) dQ (fun hs=>wCN oX dd qj eD hs AK) (.inr Z) ?_)))
 rintro f4 Hj IR jB n9 Dl ⟨rfl,rfl⟩
 have fB:sW w U f4 [.blk gp 41 cD,B7,.blk ab 28 B6,B0] jB:=Dl
 refine zY Z Z Z (zF Z Z (zd (fun h=>h bb.out))) (fun _=>ZT Z Z) (oR Z (zb Z (zd (fun h=>h bb.out)) Z) (oM Z Z (ifc Fo ?_ ?_)))
 intro bc Fq
 refine zr Z Z Z (zF Z Z (nC bc.out)) Z lu (zr Z Z Z (zF Z Z (nC bc.out)) Z Z (bnK Fq fun oY mu Fr=>?_))
 have AL:=m4.le aj
 have AM:=AL.le cw
 have AN:=AM.le iC
 have AO:=AN.le n9
 have q:=AO.el (fun _=>rfl) (wAW mu)
 obtain ⟨HR,Ih,Bs,BB⟩:=q
 refine zY Z Z Z (zF Z Z (nC bc.out)) (fun _=>Zi Z Z Bs Z zH zC (wBi mu)) (zl Z Z Z (zF Z Z (nC bc.out)) (fB.ldC (f:=0) BB (v:=jV oY) Z Z zG Z) Z (zl Z Z Z (zF Z Z (nC bc.out)) (fB.ldBA (j:=0) Z Z Z Zn zj (vs:=cD) Z Z) Z (bnK Fr fun Ja AP Fs=>zE 0 Z Z Z (zF Z Z (nC bc.out)) (zD Z Z Try.call22 (zB Z (zB Z zK)) Z) fB (fun hs=>wCN oY dd jB f4 hs AP) (.inr Z) ?_)))
 rintro f5 Hk IS qk F8 Dm ⟨rfl,rfl⟩
 have mG:sW w U f5 [.blk gp 41 cD,B7,.blk ab 28 B6,B0] qk:=Dm
 refine zY Z Z Z (zF Z Z (nC bc.out)) (fun _=>ZT Z Z) (oR Z (zb Z (nC bc.out) Z) (eN (ifc Fs ?_ ?_)))
 intro gA Fu
 refine zn (nC gA.out) (Zl (ZH (zL (rR fL2 Z (oR Z (ZS (zf Z gS Z) (congrArg (jV) DY.out)) (oM Z Z (zg ?_)))))))
 obtain rfl:=hD Fu
 exact zL ⟨rfl,_,rfl,⟨f5,rfl,lq,s7,ls,s8,lu,lv,(((cw.trans iC).trans n9).trans F8),(mG.pick [1,2,3] _ (by decide) rfl)⟩⟩
 intro gA Fv
 refine ZD (nF (gA.out)) (sR fL1 Z (oA Z Z (eN (zU (zX (zN ?_))))))
 have q:=wAV Fv
 obtain ⟨GE,Fw,q9⟩:=q
 obtain rfl:=wAk dU dS (iq GE q9)
 refine zN (zX (zN ?_))
 have hE:=hD Fw;first | subst r | cases hE
 exact ⟨rfl,_,(ZL rfl),f5,_,(mG.pick [] _ (by decide) rfl),rfl,rfl⟩
 intro bc Fx
 refine zt Z Z Z (zO Z Z (nF (bc.out)) Z) (zt Z Z Z (zO Z Z (nF (bc.out)) Z) (zt Z Z Z (zO Z Z (nF (bc.out)) Z) (zt Z Z Z (zO Z Z (nF (bc.out)) Z) (zt Z Z Z (zO Z Z (nF (bc.out)) Z) (ZG Z Z Z (zO Z Z (nF (bc.out)) Z) (zt Z Z Z (zO Z Z (nF (bc.out)) Z) (oR Z (zR Z (nF (bc.out)) Z) (eN (ZD Z (sR fL1 Z (oA Z Z (eN (zU (zX (zN ?_)))))))))))))))
 have q:=wAV Fx
 obtain ⟨GF,Fz,rc⟩:=q
 obtain rfl:=wAk dU dS (iq GF rc)
 refine zN (zX (zN ?_))
 have hE:=hD Fz;first | subst r | cases hE
 exact ⟨rfl,_,(ZL rfl),f4,_,(fB.pick [] _ (by decide) rfl),rfl,rfl⟩
 intro bb FA
 refine oT Z bb (oT Z bb (oT Z bb (oT Z bb (oT Z bb (ZG Z Z Z (zO Z Z (Zh bb.out) Z) (oT Z bb (oR Z (zR Z (Zh bb.out) Z) (oM Z Z (oN Z (oN Z (oN Z (oN Z (oN Z (ZG Z Z Z (zO Z Z Z Z) (oN Z (oR Z (zR Z Z Z) (eN (ZD Z (sR fL1 Z (oA Z Z (eN (zU (zX (zN ?_))))))))))))))))))))))))
 have q:=wAV FA
 obtain ⟨GG,FB,rd⟩:=q
 obtain rfl:=wAk dU dS (iq GG rd)
 refine zN (zX (zN ?_))
 have hE:=hD FB;first | subst r | cases hE
 exact ⟨rfl,_,(ZL rfl),eD,_,(dQ.pick [] _ (by decide) rfl),rfl,rfl⟩
 rintro ⟨⟩ Jp HE ⟨jj,tV,s9,ta,HW,tb,HX,tc,aq,Dn⟩ DS
 have a6:=wCV dU dS DS
 try dsimp only at a6
 have qJ:Hid (¬ ((↑(((↑ag.Clocks.length:Int):Int) - 0).toNat:Int) < (↑ag.Clocks.length:Int))):=zS (wAh)
 refine sR fL1 Z (oR Z (zh Z tV tc) (eN (zM (cF Z qJ (Zf (zx (zx (Zc (zL (zM (sR fL1 Z (oM Z Z (eN (zc ?_))))))))))))))
 have q:=wBg a6
 obtain ⟨Ik,a7⟩:=q
 have q:=wBf a7
 obtain ⟨iy,DV⟩:=q
 replace iy:=zS iy
 refine yL (fun aY (bR,cA,cB) σ_ w_=>∃ (U_:PHeap) (bU:Option Addr) (bW:Nat),σ_ 118=jV (↑aY:Int)/\σ_ 5=.pointer (some ⟨ab,0,none⟩)/\σ_ 6=.slice aW aZ.length aX/\σ_ 8=.pointer (some ⟨ac,0,none⟩)/\PHeap.Le jj U_/\sW w U U_ [.blk ac 94 [.slice bU bR.length bW,jV cA,.int .u32 cB],.blk ab 28 B6,B0] w_/\Sl U_ 1 bU bW bR.length (hH KL.encB8 bR)) DV ?_ ?_ ?_
 have AQ:=Ba.le oc
 have AS:=AQ.le iD
 have AT:=AS.le fG
 have AU:=AT.le dZ
 have AV:=AU.le da
 have AW:=AV.le cq
 have AX:=AW.le cr
 have AY:=AX.le ca
 have AZ:=AY.le cu
 have A3:=AZ.le cb
 have A4:=A3.le aj
 have A5:=A4.le aq
 exact ⟨jj,iW,jS,Z,s9,ta,tb,(zW _),Dn,A5⟩
 rintro aY ⟨bR,cA,cB⟩ Jd Jq jC iu ⟨ba,bU,bW,bM,bB,bX,bC,au,Do,fk⟩ m8 bd
 try dsimp only at m8
 have jR:Hid ((↑aY:Int) < 4):=zS (wBD iu)
 replace iu:=zS iu
 have DZ:Hid (w64 ((↑aY:Int) + 1)=(↑(aY + 1):Int)):=zS (by have h1:=iy.out;have h2:=jR.out;rw [wAU] <;> omega)
 refine sR fL1 Z (oR Z (zh Z bM Z) (eN (zM (cT Z jR (kN (zM (zc ?_)))))))
 have q:=bnd m8
 obtain ⟨⟨fD,oZ,o3,aV,bj,bz,bS⟩,FS,mX⟩:=q
 try dsimp only at mX
 let ak:List Value:=[jV aV,jV bj]
 let an:List Value:=[jV bz,jV bS]
 refine yN (fun σ_ w_=>∃ (U_:PHeap) (dk:Option Addr) (dH:Nat) (am:Nat) (ap:Nat),σ_ 5=.pointer (some ⟨ab,0,none⟩)/\σ_ 6=.slice aW aZ.length aX/\σ_ 8=.pointer (some ⟨ac,0,none⟩)/\σ_ 19=.pointer (some ⟨am,0,none⟩)/\σ_ 20=.pointer (some ⟨ap,0,none⟩)/\σ_ 118=jV (↑aY:Int)/\PHeap.Le ba U_/\sW w U U_ [.blk ac 94 [.slice dk fD.length dH,jV oZ,.int .u32 o3],.blk ab 28 B6,B0,.blk am 45 ak,.blk ap 45 an] w_/\Sl U_ 1 dk dH fD.length (hH KL.encB8 fD)) ?_ ?_
 have q:=bnd FS
 obtain ⟨⟨o5,aw⟩,fm,mY⟩:=q
 try dsimp only at mY
 have q:=bnd mY
 obtain ⟨⟨o6,ai⟩,fq,mZ⟩:=q
 try dsimp only at mZ
 refine ZA ZB [3,1,1005,3,1004,0,2,2,0,0,ac] (.fl 0 (.fl 1 (.fl 3 (.fl 4 (.fx 2 (.fx 5 (.fx 6 gFr (.fx 7 gFs .stop)) (.fx 6 gFv (.fx 7 gFw .stop))) (.fx 6 (.fx 2 gFv (.fx 7 gFu .stop)) (.fx 7 (.fx 2 gFw (.fx 6 gFu .stop)) .stop))))))) (by kernel_rfl) ?_
 have cO:=Do.drew
 generalize hw_W547:({ jC with drawn:=jC.drawn + 1 }:World)=qm at cO ⊢
 let bk:List Value:=[jV o5.Skier,jV o5.Mat]
 let bV:List Value:=[jV o6.Skier,jV o6.Mat]
 refine ZP (s:=.nil) (M:=fun σ_ w_=>∃ (U_:PHeap) (ep:Option Addr) (eX:Nat) (eL:Nat) (eM:Nat),σ_ 5=.pointer (some ⟨ab,0,none⟩)/\σ_ 6=.slice aW aZ.length aX/\σ_ 8=.pointer (some ⟨ac,0,none⟩)/\σ_ 19=.pointer (some ⟨eL,0,none⟩)/\σ_ 20=.pointer (some ⟨eM,0,none⟩)/\σ_ 118=jV (↑aY:Int)/\σ_ 120=.pointer (some ⟨ac,0,none⟩)/\σ_ 121=.agg B6.toArray/\σ_ 122=.agg bk.toArray/\σ_ 123=.pointer (some ⟨ac,0,none⟩)/\σ_ 124=.agg B6.toArray/\σ_ 125=.agg bV.toArray/\PHeap.Le ba U_/\sW w U U_ [.blk ac 94 [.slice ep ai.bytes.length eX,jV ai.next,.int .u32 ai.state],.blk ab 28 B6,B0,.blk eL 45 bk,.blk eM 45 bV] w_/\Sl U_ 1 ep eX ai.bytes.length (hH KL.encB8 ai.bytes)) ?_ fun FT=>?_
 rintro Jr HG ⟨pB,ep,eX,eL,eM,td,te,tf,tg,th,tj,HY,HZ,H0,H1,H2,H3,Gb,Dz,Bb⟩
 refine zg ?_
 cases mZ
 exact zL ⟨Z,⟨pB,ep,eX,eL,eM,td,te,tf,tg,th,tj,Gb,Dz,Bb⟩⟩
 let ao:List Value:=[jV 0,jV 0]
 refine ZP (s:=.fx 9 .nil .stop) (M:=fun σ_ w_=>∃ (U_:PHeap) (dl:Option Addr) (dI:Nat) (dv:Nat) (dw:Nat),σ_ 5=.pointer (some ⟨ab,0,none⟩)/\σ_ 6=.slice aW aZ.length aX/\σ_ 8=.pointer (some ⟨ac,0,none⟩)/\σ_ 19=.pointer (some ⟨dv,0,none⟩)/\σ_ 20=.pointer (some ⟨dw,0,none⟩)/\σ_ 118=jV (↑aY:Int)/\σ_ 120=.pointer (some ⟨ac,0,none⟩)/\σ_ 121=.agg B6.toArray/\σ_ 122=.agg bk.toArray/\σ_ 123=.pointer (some ⟨ac,0,none⟩)/\σ_ 124=.agg B6.toArray/\σ_ 125=.agg bV.toArray/\PHeap.Le ba U_/\sW w U U_ [.blk ac 94 [.slice dl ai.bytes.length dI,jV ai.next,.int .u32 ai.state],.blk ab 28 B6,B0,.blk dv 45 bk,.blk dw 45 ao] w_/\Sl U_ 1 dl dI ai.bytes.length (hH KL.encB8 ai.bytes)) ?_ fun FU=>?_
 rintro Js HH ⟨jl,dl,dI,dv,dw,tk,tm,tn,tp,lw,tq,tu,tv,tw,tx,tz,lx,Gc,DC,Bc⟩
 refine zV (j:=4) (vs:=bV) Z Z Z Z DC Z lw lx Z ZC (zA Z) Z Z Z ?_
 intro qn DF
 have DG:sW w U jl [.blk ac 94 [.slice dl ai.bytes.length dI,jV ai.next,.int .u32 ai.state],.blk ab 28 B6,B0,.blk dv 45 bk,.blk dw 45 bV] qn:=DF
 exact FT _ _ ⟨jl,dl,dI,dv,dw,tk,tm,tn,tp,lw,tq,tu,tv,tw,tx,tz,lx,Gc,DG,Bc⟩
 refine ZP (s:=gFo) (M:=fun σ_ w_=>∃ (U_:PHeap) (dm:Option Addr) (dJ:Nat) (dx:Nat) (dz:Nat),σ_ 5=.pointer (some ⟨ab,0,none⟩)/\σ_ 6=.slice aW aZ.length aX/\σ_ 8=.pointer (some ⟨ac,0,none⟩)/\σ_ 19=.pointer (some ⟨dx,0,none⟩)/\σ_ 20=.pointer (some ⟨dz,0,none⟩)/\σ_ 118=jV (↑aY:Int)/\σ_ 120=.pointer (some ⟨ac,0,none⟩)/\σ_ 121=.agg B6.toArray/\σ_ 122=.agg bk.toArray/\σ_ 123=.pointer (some ⟨ac,0,none⟩)/\σ_ 124=.agg B6.toArray/\σ_ 125=.agg bV.toArray/\PHeap.Le ba U_/\sW w U U_ [.blk ac 94 [.slice dm ai.bytes.length dJ,jV ai.next,.int .u32 ai.state],.blk ab 28 B6,B0,.blk dx 45 ao,.blk dz 45 ao] w_/\Sl U_ 1 dm dJ ai.bytes.length (hH KL.encB8 ai.bytes)) ?_ fun iz=>?_
 rintro Jt HI ⟨jo,dm,dJ,dx,dz,tA,tB,tC,ly,tD,tE,tF,tG,lz,tH,tI,tJ,Gd,DH,Bd⟩
 refine zV (j:=3) (vs:=bk) Z Z Z Z DH Z ly lz Z ZC (zA Z) Z Z Z ?_
 intro qo DI
 have DJ:sW w U jo [.blk ac 94 [.slice dm ai.bytes.length dJ,jV ai.next,.int .u32 ai.state],.blk ab 28 B6,B0,.blk dx 45 bk,.blk dz 45 ao] qo:=DI
 exact FU _ _ ⟨jo,dm,dJ,dx,dz,tA,tB,tC,ly,tD,tE,tF,tG,lz,tH,tI,tJ,Gd,DJ,Bd⟩
 refine ZP (s:=gFt) (M:=fun σ_ w_=>∃ (U_:PHeap) (er:Option Addr) (eY:Nat) (dA:Nat) (dB:Nat),σ_ 5=.pointer (some ⟨ab,0,none⟩)/\σ_ 6=.slice aW aZ.length aX/\σ_ 8=.pointer (some ⟨ac,0,none⟩)/\σ_ 19=.pointer (some ⟨dA,0,none⟩)/\σ_ 20=.pointer (some ⟨dB,0,none⟩)/\σ_ 118=jV (↑aY:Int)/\σ_ 120=.pointer (some ⟨ac,0,none⟩)/\σ_ 121=.agg B6.toArray/\σ_ 122=.agg bk.toArray/\σ_ 123=.pointer (some ⟨ac,0,none⟩)/\σ_ 124=.agg B6.toArray/\PHeap.Le ba U_/\sW w U U_ [.blk ac 94 [.slice er aw.bytes.length eY,jV aw.next,.int .u32 aw.state],.blk ab 28 B6,B0,.blk dA 45 ao,.blk dB 45 ao] w_/\Sl U_ 1 er eY aw.bytes.length (hH KL.encB8 aw.bytes)) ?_ fun iA=>?_
 rintro Ju qp ⟨pD,er,eY,dA,dB,tK,tL,tM,tN,tO,tP,tQ,tR,tS,lA,lB,d7,DM,tX⟩
 have tY:=bD.le aj
 have tZ:=tY.le aq
 have t5:=tZ.le au
 have t6:=t5.le d7
 have t7:=bE.le aj
 have t8:=t7.le aq
 have t9:=t8.le au
 have ua:=t9.le d7
 have ub:=bF.le aj
 have ue:=ub.le aq
 have uf:=ue.le au
 have ug:=uf.le d7
 have uh:=bG.le aj
 have ui:=uh.le aq
 have uj:=ui.le au
 have uk:=uj.le d7
 refine zE 1 Z Z Z Z (zD Z Z Try.call14 (zB lA (zB lB zK)) Z) DM (fun hs=>wAq aw ac er eY ag ay aJ aM aS aK aL aN aT qp pD hs tX t6 ua ug uk fq) (.inl Z) ?_
 rintro iZ GO Il pE FV BC ⟨iO,jG,rfl,rfl,ul⟩
 have BD:sW w U iZ [.blk ac 94 [.slice iO ai.bytes.length jG,jV ai.next,.int .u32 ai.state],.blk ab 28 B6,B0,.blk dA 45 ao,.blk dB 45 ao] pE:=BC
 exact iz _ _ ⟨iZ,iO,jG,dA,dB,tK,tL,tM,tN,tO,tP,tQ,tR,tS,lA,lB,Z,(d7.trans FV),BD,ul⟩
 refine ZP (s:=gFs) (M:=fun σ_ w_=>∃ (U_:PHeap) (eh:Option Addr) (eO:Nat) (eG:Nat),σ_ 5=.pointer (some ⟨ab,0,none⟩)/\σ_ 6=.slice aW aZ.length aX/\σ_ 8=.pointer (some ⟨ac,0,none⟩)/\σ_ 20=.pointer (some ⟨eG,0,none⟩)/\σ_ 118=jV (↑aY:Int)/\σ_ 120=.pointer (some ⟨ac,0,none⟩)/\σ_ 121=.agg B6.toArray/\σ_ 122=.agg bk.toArray/\σ_ 123=.pointer (some ⟨ac,0,none⟩)/\σ_ 124=.agg B6.toArray/\σ_ 125=.agg bV.toArray/\PHeap.Le ba U_/\sW w U U_ [.blk ac 94 [.slice eh ai.bytes.length eO,jV ai.next,.int .u32 ai.state],.blk ab 28 B6,B0,.blk eG 45 ao] w_/\Sl U_ 1 eh eO ai.bytes.length (hH KL.encB8 ai.bytes)) ?_ fun m9=>?_
 rintro Je Hn ⟨o9,eh,eO,eG,re,rf,rh,ri,rj,rk,rn,ro,rp,rq,rv,FW,BE,uo⟩
 refine zT (cs:=ao) Z Z Z Z Z Zb Z BE ?_
 intro Ho qq BF
 exact iz _ _ ⟨o9,eh,eO,qq,eG,re,rf,rh,rfl,ri,rj,rk,rn,ro,rp,rq,rv,FW,(BF.pick [1,2,3,0,4] _ (by decide) rfl),uo⟩
 refine ZP (s:=gFr) (M:=fun σ_ w_=>∃ (U_:PHeap) (ej:Option Addr) (eQ:Nat) (eH:Nat),σ_ 5=.pointer (some ⟨ab,0,none⟩)/\σ_ 6=.slice aW aZ.length aX/\σ_ 8=.pointer (some ⟨ac,0,none⟩)/\σ_ 19=.pointer (some ⟨eH,0,none⟩)/\σ_ 118=jV (↑aY:Int)/\σ_ 120=.pointer (some ⟨ac,0,none⟩)/\σ_ 121=.agg B6.toArray/\σ_ 122=.agg bk.toArray/\σ_ 123=.pointer (some ⟨ac,0,none⟩)/\σ_ 124=.agg B6.toArray/\σ_ 125=.agg bV.toArray/\PHeap.Le ba U_/\sW w U U_ [.blk ac 94 [.slice ej ai.bytes.length eQ,jV ai.next,.int .u32 ai.state],.blk ab 28 B6,B0,.blk eH 45 ao] w_/\Sl U_ 1 ej eQ ai.bytes.length (hH KL.encB8 ai.bytes)) ?_ fun n3=>?_
 rintro Jf Hp ⟨pd,ej,eQ,eH,rx,ry,rz,rA,rB,rC,rD,rE,rF,rG,rH,FX,BG,uu⟩
 refine zT (cs:=ao) Z Z Z Z Z Zb Z BG ?_
 intro Hq qr BH
 exact iz _ _ ⟨pd,ej,eQ,eH,qr,rx,ry,rz,rA,rfl,rB,rC,rD,rE,rF,rG,rH,FX,(BH.pick [1,2,3,4,0] _ (by decide) rfl),uu⟩
 let fN:Res:=.blk ac 94 [.slice bU bR.length bW,jV cA,.int .u32 cB]
 refine ZP (s:=gFu) (M:=fun σ_ w_=>∃ (U_:PHeap) (dt:Nat) (du:Nat),σ_ 5=.pointer (some ⟨ab,0,none⟩)/\σ_ 6=.slice aW aZ.length aX/\σ_ 8=.pointer (some ⟨ac,0,none⟩)/\σ_ 19=.pointer (some ⟨dt,0,none⟩)/\σ_ 20=.pointer (some ⟨du,0,none⟩)/\σ_ 118=jV (↑aY:Int)/\σ_ 120=.pointer (some ⟨ac,0,none⟩)/\σ_ 121=.agg B6.toArray/\σ_ 123=.pointer (some ⟨ac,0,none⟩)/\σ_ 124=.agg B6.toArray/\PHeap.Le ba U_/\sW w U U_ [fN,.blk ab 28 B6,B0,.blk dt 45 ao,.blk du 45 ao] w_) ?_ fun n4=>?_
 rintro Jg pF ⟨pe,dt,du,rI,rJ,rK,rL,rM,rN,jT,jU,rO,rP,cQ,BJ⟩
 have uy:=fk.le cQ
 have uz:=bD.le aj
 have uA:=uz.le aq
 have uB:=uA.le au
 have uC:=uB.le cQ
 have uD:=bE.le aj
 have uF:=uD.le aq
 have uG:=uF.le au
 have uH:=uG.le cQ
 have uI:=bF.le aj
 have uJ:=uI.le aq
 have uK:=uJ.le au
 have uL:=uK.le cQ
 have uM:=bG.le aj
 have uN:=uM.le aq
 have uO:=uN.le au
 have uP:=uO.le cQ
 refine yg 1 rfl rfl rfl rfl (zD rfl rfl Try.call14 (zB jT (zB jU zK)) rfl) BJ (fun hs=>wAq (⟨bR,cA,cB⟩:wAK) ac bU bW ag ay aJ aM aS aK aL aN aT pF pe hs uy uC uH uL uP fm) rfl (T:=[ac]) rfl ⟨fun b h=>(by cases h;exact .head _),trivial⟩ ?_
 rintro i2 GP Im pG FY BK ⟨iQ,jH,rfl,rfl,uQ⟩
 have BL:sW w U i2 [.blk ac 94 [.slice iQ aw.bytes.length jH,jV aw.next,.int .u32 aw.state],.blk ab 28 B6,B0,.blk dt 45 ao,.blk du 45 ao] pG:=BK
 exact iA _ _ ⟨i2,iQ,jH,dt,du,rI,rJ,rK,rL,rM,rN,jT,jU,Z,rO,rP,(cQ.trans FY),BL,uQ⟩
 refine ZP (s:=gFw) (M:=fun σ_ w_=>∃ (U_:PHeap) (de:Option Addr) (dC:Nat) (cH:Nat),σ_ 5=.pointer (some ⟨ab,0,none⟩)/\σ_ 6=.slice aW aZ.length aX/\σ_ 8=.pointer (some ⟨ac,0,none⟩)/\σ_ 20=.pointer (some ⟨cH,0,none⟩)/\σ_ 118=jV (↑aY:Int)/\σ_ 120=.pointer (some ⟨ac,0,none⟩)/\σ_ 121=.agg B6.toArray/\σ_ 122=.agg bk.toArray/\σ_ 123=.pointer (some ⟨ac,0,none⟩)/\σ_ 124=.agg B6.toArray/\PHeap.Le ba U_/\sW w U U_ [.blk ac 94 [.slice de aw.bytes.length dC,jV aw.next,.int .u32 aw.state],.blk ab 28 B6,B0,.blk cH 45 ao] w_/\Sl U_ 1 de dC aw.bytes.length (hH KL.encB8 aw.bytes)) ?_ fun n5=>?_
 rintro Jh pH ⟨i3,de,dC,cH,jW,jX,jY,jZ,j0,j1,j2,j3,gB,gC,cR,mw,lH⟩
 refine zk ?_ ?_
 have uS:=bD.le aj
 have uT:=uS.le aq
 have uU:=uT.le au
 have uV:=uU.le cR
 have uW:=bE.le aj
 have uX:=uW.le aq
 have uY:=uX.le au
 have uZ:=uY.le cR
 have u3:=bF.le aj
 have u4:=u3.le aq
 have u5:=u4.le au
 have u6:=u5.le cR
 have u7:=bG.le aj
 have u9:=u7.le aq
 have va:=u9.le au
 have vb:=va.le cR
 refine zE 1 Z Z Z Z (zD Z Z Try.call14 (zB gB (zB gC zK)) Z) mw (fun hs=>wAq aw ac de dC ag ay aJ aM aS aK aL aN aT pH i3 hs lH uV uZ u6 vb fq) (.inl Z) ?_
 rintro i5 GR In pI FZ BM ⟨iR,jJ,rfl,rfl,vc⟩
 have BN:sW w U i5 [.blk ac 94 [.slice iR ai.bytes.length jJ,jV ai.next,.int .u32 ai.state],.blk ab 28 B6,B0,.blk cH 45 ao] pI:=BM
 exact m9 _ _ ⟨i5,iR,jJ,cH,jW,jX,jY,jZ,j0,j1,j2,j3,gB,gC,Z,(cR.trans FZ),BN,vc⟩
 refine zT (cs:=ao) Z Z Z Z Z Zb Z mw ?_
 intro Hr qs BO
 exact iA _ _ ⟨i3,de,dC,qs,cH,jW,jX,jY,rfl,jZ,j0,j1,j2,j3,gB,gC,cR,(BO.pick [1,2,3,0,4] _ (by decide) rfl),lH⟩
 refine ZP (s:=gFv) (M:=fun σ_ w_=>∃ (U_:PHeap) (df:Option Addr) (dD:Nat) (cI:Nat),σ_ 5=.pointer (some ⟨ab,0,none⟩)/\σ_ 6=.slice aW aZ.length aX/\σ_ 8=.pointer (some ⟨ac,0,none⟩)/\σ_ 19=.pointer (some ⟨cI,0,none⟩)/\σ_ 118=jV (↑aY:Int)/\σ_ 120=.pointer (some ⟨ac,0,none⟩)/\σ_ 121=.agg B6.toArray/\σ_ 122=.agg bk.toArray/\σ_ 123=.pointer (some ⟨ac,0,none⟩)/\σ_ 124=.agg B6.toArray/\PHeap.Le ba U_/\sW w U U_ [.blk ac 94 [.slice df aw.bytes.length dD,jV aw.next,.int .u32 aw.state],.blk ab 28 B6,B0,.blk cI 45 ao] w_/\Sl U_ 1 df dD aw.bytes.length (hH KL.encB8 aw.bytes)) ?_ fun n6=>?_
 rintro Ji pJ ⟨i6,df,dD,cI,j4,j5,j6,j7,j8,j9,k3,k5,gD,gE,cS,mx,lI⟩
 refine zk ?_ ?_
 have vd:=bD.le aj
 have ve:=vd.le aq
 have vf:=ve.le au
 have vg:=vf.le cS
 have vh:=bE.le aj
 have vi:=vh.le aq
 have vj:=vi.le au
 have vk:=vj.le cS
 have vl:=bF.le aj
 have vm:=vl.le aq
 have vn:=vm.le au
 have vo:=vn.le cS
 have vp:=bG.le aj
 have vq:=vp.le aq
 have vr:=vq.le au
 have vt:=vr.le cS
 refine zE 1 Z Z Z Z (zD Z Z Try.call14 (zB gD (zB gE zK)) Z) mx (fun hs=>wAq aw ac df dD ag ay aJ aM aS aK aL aN aT pJ i6 hs lI vg vk vo vt fq) (.inl Z) ?_
 rintro i7 GS Ip pK F1 BQ ⟨iS,jK,rfl,rfl,vu⟩
 have BR:sW w U i7 [.blk ac 94 [.slice iS ai.bytes.length jK,jV ai.next,.int .u32 ai.state],.blk ab 28 B6,B0,.blk cI 45 ao] pK:=BQ
 exact n3 _ _ ⟨i7,iS,jK,cI,j4,j5,j6,j7,j8,j9,k3,k5,gD,gE,Z,(cS.trans F1),BR,vu⟩
 refine zT (cs:=ao) Z Z Z Z Z Zb Z mx ?_
 intro Hs qt BS
 exact iA _ _ ⟨i6,df,dD,cI,qt,j4,j5,j6,j7,rfl,j8,j9,k3,k5,gD,gE,cS,(BS.pick [1,2,3,4,0] _ (by decide) rfl),lI⟩
 refine zr rfl rfl rfl rfl rfl bC (zl rfl rfl rfl rfl (cO.ldBA (j:=1) rfl rfl bB ze zZ (vs:=B6) rfl rfl) rfl (zr rfl rfl rfl rfl rfl bC (OKS.mt (T:=[ac]) [0] [1,2] [.blk ab 28 B6,B0] rfl rfl rfl rfl cO rfl ⟨⟨0,by decide,_,rfl,rfl⟩,trivial⟩ (by decide) rfl (by decide) (fun _ DN=>(DN.ldBA (j:=0) rfl rfl bB ze zZ (vs:=B6) rfl rfl)) rfl (zk ?_ ?_))))
 have vv:=bD.le aj
 have vw:=vv.le aq
 have lN:=vw.le au
 have vx:=bE.le aj
 have vy:=vx.le aq
 have lO:=vy.le au
 have vz:=bF.le aj
 have vA:=vz.le aq
 have lP:=vA.le au
 have vB:=bG.le aj
 have vC:=vB.le aq
 have lQ:=vC.le au
 refine yg 1 rfl rfl rfl rfl (zD rfl rfl Try.call14 (zB rfl (zB rfl zK)) rfl) cO (fun hs=>wAq (⟨bR,cA,cB⟩:wAK) ac bU bW ag ay aJ aM aS aK aL aN aT qm ba hs fk lN lO lP lQ fm) rfl (T:=[ac]) rfl ⟨fun b h=>(by cases h;exact .head _),trivial⟩ ?_
 rintro ey GT Iq jq bZ BT ⟨ek,eU,rfl,rfl,gT⟩
 have il:sW w U ey [.blk ac 94 [.slice ek aw.bytes.length eU,jV aw.next,.int .u32 aw.state],.blk ab 28 B6,B0] jq:=BT
 refine zk ?_ ?_
 have vD:=lN.le bZ
 have vE:=lO.le bZ
 have vF:=lP.le bZ
 have vG:=lQ.le bZ
 refine zE 1 Z Z Z Z (zD Z Z Try.call14 (zB Z (zB Z zK)) Z) il (fun hs=>wAq aw ac ek eU ag ay aJ aM aS aK aL aN aT jq ey hs gT vD vE vF vG fq) (.inl Z) ?_
 rintro fR GU Ir pL n7 BU ⟨fK,gq,rfl,rfl,lR⟩
 have mz:sW w U fR [.blk ac 94 [.slice fK ai.bytes.length gq,jV ai.next,.int .u32 ai.state],.blk ab 28 B6,B0] pL:=BU
 refine zk ?_ ?_
 refine zT (cs:=ao) Z Z Z Z Z Zb Z mz ?_
 intro Ht qu BV
 exact n3 _ _ ⟨fR,fK,gq,qu,bB,bX,bC,rfl,bM,rfl,rfl,rfl,rfl,rfl,rfl,(bZ.trans n7),(BV.pick [1,2,3,0] _ (by decide) rfl),lR⟩
 refine zT (cs:=ao) Z Z Z Z Z Zb Z mz ?_
 intro Hu qv BW
 exact m9 _ _ ⟨fR,fK,gq,qv,bB,bX,bC,rfl,bM,rfl,rfl,rfl,rfl,rfl,rfl,(bZ.trans n7),(BW.pick [1,2,3,0] _ (by decide) rfl),lR⟩
 refine zk ?_ ?_
 refine zT (cs:=ao) Z Z Z Z Z Zb Z il ?_
 intro Hv qw BX
 exact n6 _ _ ⟨ey,ek,eU,qw,bB,bX,bC,rfl,bM,rfl,rfl,rfl,rfl,rfl,bZ,(BX.pick [1,2,3,0] _ (by decide) rfl),gT⟩
 refine zT (cs:=ao) Z Z Z Z Z Zb Z il ?_
 intro Hw qx BY
 exact n5 _ _ ⟨ey,ek,eU,qx,bB,bX,bC,rfl,bM,rfl,rfl,rfl,rfl,rfl,bZ,(BY.pick [1,2,3,0] _ (by decide) rfl),gT⟩
 refine zk ?_ ?_
 refine zT (cs:=ao) Z Z Z Z Z Zb Z cO ?_
 intro jr eI mA
 refine zk ?_ ?_
 have vI:=bD.le aj
 have vJ:=vI.le aq
 have vK:=vJ.le au
 have vL:=bE.le aj
 have vM:=vL.le aq
 have vN:=vM.le au
 have vO:=bF.le aj
 have vP:=vO.le aq
 have vQ:=vP.le au
 have vR:=bG.le aj
 have vS:=vR.le aq
 have vT:=vS.le au
 have BZ:sW w U ba [fN,.blk eI 45 ao,.blk ab 28 B6,B0] jr:=mA.pick [1,0,2,3] _ (by decide) rfl
 refine yg 1 rfl rfl rfl rfl (zD rfl rfl Try.call14 (zB rfl (zB rfl zK)) rfl) BZ (fun hs=>wAq (⟨bR,cA,cB⟩:wAK) ac bU bW ag ay aJ aM aS aK aL aN aT jr ba hs fk vK vN vQ vT fm) rfl (T:=[ac]) rfl ⟨fun b h=>(by cases h;exact .head _),trivial⟩ ?_
 rintro i9 GW It pM F2 Ca ⟨iT,jL,rfl,rfl,vU⟩
 have Cb:sW w U i9 [.blk ac 94 [.slice iT aw.bytes.length jL,jV aw.next,.int .u32 aw.state],.blk eI 45 ao,.blk ab 28 B6,B0] pM:=Ca
 exact n6 _ _ ⟨i9,iT,jL,eI,bB,bX,bC,rfl,bM,rfl,rfl,rfl,rfl,rfl,F2,(Cb.pick [0,2,3,1] _ (by decide) rfl),vU⟩
 refine zT (cs:=ao) Z Z Z Z Z Zb Z mA ?_
 intro Hx qy Cd
 exact n4 _ _ ⟨ba,eI,qy,bB,bX,bC,rfl,rfl,bM,rfl,rfl,rfl,rfl,(zW _),(Cd.pick [2,3,4,1,0] _ (by decide) rfl)⟩
 refine zT (cs:=ao) Z Z Z Z Z Zb Z cO ?_
 intro ju eJ mB
 refine zk ?_ ?_
 have vW:=bD.le aj
 have vX:=vW.le aq
 have vY:=vX.le au
 have vZ:=bE.le aj
 have v2:=vZ.le aq
 have v3:=v2.le au
 have v4:=bF.le aj
 have v5:=v4.le aq
 have v7:=v5.le au
 have v9:=bG.le aj
 have wc:=v9.le aq
 have wd:=wc.le au
 have Ce:sW w U ba [fN,.blk eJ 45 ao,.blk ab 28 B6,B0] ju:=mB.pick [1,0,2,3] _ (by decide) rfl
 refine yg 1 rfl rfl rfl rfl (zD rfl rfl Try.call14 (zB rfl (zB rfl zK)) rfl) Ce (fun hs=>wAq (⟨bR,cA,cB⟩:wAK) ac bU bW ag ay aJ aM aS aK aL aN aT ju ba hs fk vY v3 v7 wd fm) rfl (T:=[ac]) rfl ⟨fun b h=>(by cases h;exact .head _),trivial⟩ ?_
 rintro ja GX Iu pN F3 Cf ⟨iU,jN,rfl,rfl,we⟩
 have Cg:sW w U ja [.blk ac 94 [.slice iU aw.bytes.length jN,jV aw.next,.int .u32 aw.state],.blk eJ 45 ao,.blk ab 28 B6,B0] pN:=Cf
 exact n5 _ _ ⟨ja,iU,jN,eJ,bB,bX,bC,rfl,bM,rfl,rfl,rfl,rfl,rfl,F3,(Cg.pick [0,2,3,1] _ (by decide) rfl),we⟩
 refine zT (cs:=ao) Z Z Z Z Z Zb Z mB ?_
 intro Hy qz Ch
 exact n4 _ _ ⟨ba,qz,eJ,bB,bX,bC,rfl,rfl,bM,rfl,rfl,rfl,rfl,(zW _),(Ch.pick [2,3,4,0,1] _ (by decide) rfl)⟩
 rintro Jj pO ⟨pf,dk,dH,am,ap,gF,rQ,rS,gG,k6,rT,cU,ft,wg⟩
 refine sR (wCa (.fx 3 (wMF (.fx 7 (.fx 8 (.fl 9 .nil) .stop) .stop)) .stop)) Z (oL Z (ft.ldBA (j:=1) Z Z gF ze zZ (vs:=B6) Z Z) (oL Z (ft.ldBA (j:=3) Z Z gG ZW ZC (vs:=ak) Z Z) (oL Z (ft.ldBA (j:=4) Z Z k6 ZW ZC (vs:=an) Z Z) ?_)))
 have wh:=bD.le aj
 have wi:=wh.le aq
 have wj:=wi.le au
 have lS:=wj.le cU
 have wk:=bE.le aj
 have wl:=wk.le aq
 have wm:=wl.le au
 have lT:=wm.le cU
 have wn:=bF.le aj
 have wo:=wn.le aq
 have wp:=wo.le au
 have lU:=wp.le cU
 have wq:=bG.le aj
 have wr:=wq.le aq
 have ws:=wr.le au
 have lV:=ws.le cU
 have q:=bnd mX
 obtain ⟨⟨bq,oy⟩,wu,mK⟩:=q
 try dsimp only at mK
 refine zE 0 Z Z Z Z (zD Z Z Try.call25 (zB Z (zB Z (zB Z zK))) Z) ft (fun hs=>wEb ag ay aJ aM aS aK aL aN aT (⟨aV,bj⟩:wAI) (⟨bz,bS⟩:wAI) pO pf hs lS lT lU lV wu) (.inr Z) ?_
 rintro fS GY Iv pP ct Ci ⟨rfl,rfl⟩
 let aO:Res:=.blk ac 94 [.slice dk fD.length dH,jV oZ,.int .u32 o3]
 have Cj:sW w U fS [aO,.blk ab 28 B6,B0,.blk am 45 ak,.blk ap 45 an] pP:=Ci
 refine oM Z Z (oR Z (zP Z Z (v:=.agg #[jV bq.Lo,jV bq.Hi]) Z) (oR Z (zP Z Z (v:=jV oy) Z) ?_))
 let bL:List Value:=[jV 0,jV 0]
 refine zT (cs:=bL) Z Z Z Z Z ZJ Z Cj ?_
 intro Hz av Ck
 let az:List Value:=[jV bq.Lo,jV bq.Hi]
 refine zV (j:=0) (vs:=az) Z Z Z Z Ck Z Z Z Z zj (zA Z) Z Z Z ?_
 intro jv Cm
 have im:sW w U fS [.blk av 41 az,aO,.blk ab 28 B6,B0,.blk am 45 ak,.blk ap 45 an] jv:=Cm
 refine oA Z Z (eN (sR (.fl 0 (.fl 1 (.fx 2 (wJk gFq) .stop))) Z (oL Z (im.ldBA (j:=2) Z Z gF ze zZ (vs:=B6) Z Z) (oL Z (im.ldBA (j:=4) Z Z gG ZW ZC (vs:=ak) Z Z) ?_))))
 have gU:=lS.le ct
 have gV:=lT.le ct
 have gW:=lU.le ct
 have gX:=lV.le ct
 have q:=bnd mK
 obtain ⟨⟨cy,oz⟩,wv,mL⟩:=q
 try dsimp only at mL
 refine zE 0 Z Z Z Z (zD Z Z Try.call15 (zB Z (zB Z zK)) Z) im (fun hs=>wFB ag ay aJ aM aS aK aL aN aT (⟨aV,bj⟩:wAI) jv fS hs gU gV gW gX wv) (.inr Z) ?_
 rintro cE GZ Iw pQ bw Co ⟨rfl,rfl⟩
 have Cp:sW w U cE [.blk av 41 az,aO,.blk ab 28 B6,B0,.blk am 45 ak,.blk ap 45 an] pQ:=Co
 refine oM Z Z (oR Z (zP Z Z (v:=.agg #[jV cy.Lo,jV cy.Hi]) Z) (oR Z (zP Z Z (v:=jV oz) Z) (zT (cs:=bL) Z Z Z Z Z ZJ Z Cp ?_)))
 intro HA ax Cq
 let aU:List Value:=[jV cy.Lo,jV cy.Hi]
 refine zV (j:=0) (vs:=aU) Z Z Z Z Cq Z Z Z Z zj (zA Z) Z Z Z ?_
 intro f6 Cr
 have Cs:sW w U cE [.blk ax 41 aU,.blk av 41 az,aO,.blk ab 28 B6,B0,.blk am 45 ak,.blk ap 45 an] f6:=Cr
 refine oA Z Z (eN (zM (zM (yX fun bJ bu=>?_))))
 have rV:bJ 5=.pointer (some ⟨ab,0,none⟩):=(bu 5).trans gF
 have eZ:bJ 6=.slice aW aZ.length aX:=(bu 6).trans rQ
 have rW:bJ 8=.pointer (some ⟨ac,0,none⟩):=(bu 8).trans rS
 have dK:bJ 19=.pointer (some ⟨am,0,none⟩):=(bu 19).trans gG
 have gH:bJ 20=.pointer (some ⟨ap,0,none⟩):=(bu 20).trans k6
 have k7:bJ 21=.pointer (some ⟨av,0,none⟩):=(bu 21).trans rfl
 have rX:bJ 22=jV oy:=(bu 22).trans rfl
 have k8:bJ 23=.pointer (some ⟨ax,0,none⟩):=(bu 23).trans rfl
 have rY:bJ 24=jV oz:=(bu 24).trans rfl
 have rZ:bJ 118=jV (↑aY:Int):=(bu 118).trans rT
 clear bu
 refine ZA ZB [3,3,3,3,3,3,3,3,3,1,3,1,3,1,3,1,1,2,3,3,3,3,3,1,3,1,3,1,3,1,3,3,1,3,1,3,1,3,1,3,1,2,3,3] (wND (.fx 17 (wMI (.fx 41 (.fl 42 (.fl 43 .nil)) .stop)) .stop)) (by kernel_rfl) ?_
 have bN:=Cs.drew
 generalize hw_W1534:({ f6 with drawn:=f6.drawn + 1 }:World)=pR at bN ⊢
 refine oM Z rX (oR Z (ZN Z Z Z) (oM Z Z (ifc mL ?_ ?_)))
 intro cg D0
 refine zr Z Z Z (zF Z Z (zd (fun h=>h cg.out))) Z rY (zY Z Z Z (zF Z Z (zd (fun h=>h cg.out))) (fun _=>ZN Z Z Z) (oR Z (zb Z (zd (fun h=>h cg.out)) Z) (oM Z Z (ifc D0 ?_ ?_))))
 intro aP D1
 refine zr Z Z Z (zF Z Z (zd (fun h=>h aP.out))) Z eZ (zY Z Z Z (zF Z Z (zd (fun h=>h aP.out))) (fun _=>zJ Z dK Zk Z zC) (zl Z Z Z (zF Z Z (zd (fun h=>h aP.out))) (bN.ldB (j:=5) Z Z Z zG (v:=jV aV) Z) Z (bnK D1 fun fI cJ D5=>?_)))
 have ww:=lG.le cq
 have wx:=ww.le cr
 have wy:=wx.le ca
 have wz:=wy.le cu
 have wA:=wz.le cb
 have wB:=wA.le aj
 have wC:=wB.le aq
 have wD:=wC.le au
 have wE:=wD.le cU
 have wG:=wE.le ct
 have l3:=wG.le bw
 have q:=l3.el (wAW cJ)
 obtain ⟨qA,Ge,IV,Bf,ie,FD⟩:=q
 obtain ⟨od,oj,rfl,wI⟩:=FD
 replace ie:Cl cE qA (Ge + aV.toNat * 1) [.slice od fI.length oj]:=ie
 refine zY Z Z Z (zF Z Z (zd (fun h=>h aP.out))) (fun _=>ZO Z Z Bf Z Zg zq (wBJ cJ) (wBL cJ)) (zl Z Z Z (zF Z Z (zd (fun h=>h aP.out))) (bN.ldC (f:=0) ie (v:=.slice od fI.length oj) Z Z zy Z) Z (zY Z Z Z (zF Z Z (zd (fun h=>h aP.out))) (fun _=>zJ Z dK Zk Z zC) (zl Z Z Z (zF Z Z (zd (fun h=>h aP.out))) (bN.ldB (j:=5) Z Z Z zG (v:=jV bj) Z) Z (bnK D5 fun fJ cK D6=>?_))))
 have q:=wI.el (fun _=>rfl) (wAW cK)
 obtain ⟨HJ,H8,Bg,Bt⟩:=q
 refine zY Z Z Z (zF Z Z (zd (fun h=>h aP.out))) (fun _=>ZO Z Z Bg Z zH zC (wBJ cK) (wBL cK)) (zl Z Z Z (zF Z Z (zd (fun h=>h aP.out))) (bN.ldC (f:=0) Bt (v:=jV fJ) Z Z zG Z) Z (zl Z Z Z (zF Z Z (zd (fun h=>h aP.out))) (bN.ldBA (j:=0) Z Z k8 Zn zj (vs:=aU) Z Z) Z (bnK D6 fun I3 wJ D7=>zE 0 Z Z Z (zF Z Z (zd (fun h=>h aP.out))) (zD Z Z Try.call22 (zB Z (zB Z zK)) Z) bN (fun hs=>wCN fJ cy pR cE hs wJ) (.inr Z) ?_)))
 rintro dp G0 Ix jw bx Ct ⟨rfl,rfl⟩
 have bt:sW w U dp [.blk ax 41 aU,.blk av 41 az,aO,.blk ab 28 B6,B0,.blk am 45 ak,.blk ap 45 an] jw:=Ct
 refine zY Z Z Z (zF Z Z (zd (fun h=>h aP.out))) (fun _=>ZT Z Z) (oR Z (zb Z (zd (fun h=>h aP.out)) Z) (oM Z Z (ifc D7 ?_ ?_)))
 intro ah D8
 refine zr Z Z Z (zF Z Z (nC ah.out)) Z eZ (zY Z Z Z (zF Z Z (nC ah.out)) (fun _=>zJ Z gH Zk Z zC) (zl Z Z Z (zF Z Z (nC ah.out)) (bt.ldB (j:=6) Z Z Z zG (v:=jV bz) Z) Z (bnK D8 fun oD gY D9=>?_)))
 have l4:=l3.le bx
 have q:=l4.el (wAW gY)
 obtain ⟨qB,Gf,IW,Bh,ig,FE⟩:=q
 obtain ⟨oe,om,rfl,wK⟩:=FE
 replace ig:Cl dp qB (Gf + bz.toNat * 1) [.slice oe oD.length om]:=ig
 refine zY Z Z Z (zF Z Z (nC ah.out)) (fun _=>ZO Z Z Bh Z Zg zq (wBJ gY) (wBL gY)) (zl Z Z Z (zF Z Z (nC ah.out)) (bt.ldC (f:=0) ig (v:=.slice oe oD.length om) Z Z zy Z) Z (zY Z Z Z (zF Z Z (nC ah.out)) (fun _=>zJ Z gH Zk Z zC) (zl Z Z Z (zF Z Z (nC ah.out)) (bt.ldB (j:=6) Z Z Z zG (v:=jV bS) Z) Z (bnK D9 fun oE gZ Ea=>?_))))
 have q:=wK.el (fun _=>rfl) (wAW gZ)
 obtain ⟨HK,H9,Bi,Bu⟩:=q
 refine zY Z Z Z (zF Z Z (nC ah.out)) (fun _=>ZO Z Z Bi Z zH zC (wBJ gZ) (wBL gZ)) (zl Z Z Z (zF Z Z (nC ah.out)) (bt.ldC (f:=0) Bu (v:=jV oE) Z Z zG Z) Z (zr Z Z Z (zF Z Z (nC ah.out)) Z eZ (zY Z Z Z (zF Z Z (nC ah.out)) (fun _=>zJ Z dK Zk Z zC) (zl Z Z Z (zF Z Z (nC ah.out)) (bt.ldB (j:=5) Z Z Z zG (v:=jV aV) Z) Z ?_))))
 have q:=l4.el (wAW cJ)
 obtain ⟨qC,Gg,IX,Bj,ii,FF⟩:=q
 obtain ⟨og,oq,rfl,wL⟩:=FF
 replace ii:Cl dp qC (Gg + aV.toNat * 1) [.slice og fI.length oq]:=ii
 refine zY Z Z Z (zF Z Z (nC ah.out)) (fun _=>ZO Z Z Bj Z Zg zq (wBJ cJ) (wBL cJ)) (zl Z Z Z (zF Z Z (nC ah.out)) (bt.ldC (f:=0) ii (v:=.slice og fI.length oq) Z Z zy Z) Z (zY Z Z Z (zF Z Z (nC ah.out)) (fun _=>zJ Z dK Zk Z zC) (zl Z Z Z (zF Z Z (nC ah.out)) (bt.ldB (j:=5) Z Z Z zG (v:=jV bj) Z) Z ?_)))
 have q:=wL.el (fun _=>rfl) (wAW cK)
 obtain ⟨HL,Ia,Bk,Bv⟩:=q
 refine zY Z Z Z (zF Z Z (nC ah.out)) (fun _=>ZO Z Z Bk Z zH zC (wBJ cK) (wBL cK)) (zl Z Z Z (zF Z Z (nC ah.out)) (bt.ldC (f:=0) Bv (v:=jV fJ) Z Z zG Z) Z (zY Z Z Z (zF Z Z (nC ah.out)) (fun _=>yH Z Z Z) (zl Z Z Z (zF Z Z (nC ah.out)) (bt.ldBA (j:=1) Z Z k7 Zn zj (vs:=az) Z Z) Z (bnK Ea fun I4 wM Eb=>zE 0 Z Z Z (zF Z Z (nC ah.out)) (zD Z Z Try.call22 (zB Z (zB Z zK)) Z) bt (fun hs=>wCN (w64 (oE - fJ)) bq jw dp hs wM) (.inr Z) ?_))))
 rintro dr G2 IA pS bH Cu ⟨rfl,rfl⟩
 have mD:sW w U dr [.blk ax 41 aU,.blk av 41 az,aO,.blk ab 28 B6,B0,.blk am 45 ak,.blk ap 45 an] pS:=Cu
 refine zY Z Z Z (zF Z Z (nC ah.out)) (fun _=>ZT Z Z) (oR Z (zb Z (nC ah.out) Z) (eN (ifc Eb ?_ ?_)))
 intro gt dT
 refine zn (nC gt.out) (kN (zM (zM (yX fun cc bQ=>?_))))
 have r6:cc 5=.pointer (some ⟨ab,0,none⟩):=(bQ 5).trans rV
 have r7:cc 6=.slice aW aZ.length aX:=(bQ 6).trans eZ
 have r8:cc 8=.pointer (some ⟨ac,0,none⟩):=(bQ 8).trans rW
 have r9:cc 19=.pointer (some ⟨am,0,none⟩):=(bQ 19).trans dK
 have sc:cc 20=.pointer (some ⟨ap,0,none⟩):=(bQ 20).trans gH
 have sd:cc 21=.pointer (some ⟨av,0,none⟩):=(bQ 21).trans k7
 have sf:cc 23=.pointer (some ⟨ax,0,none⟩):=(bQ 23).trans k8
 have sg:cc 118=jV (↑aY:Int):=(bQ 118).trans rZ
 clear bQ
 refine rR (.fx 0 (.fl 1 (.fl 2 .nil)) .stop) Z (ZE (pv:=[(0,.bool false),(1,.bool true)]) (zs:=[.bool false,.bool false]) (cs:=[.bool false,.bool true]) Z Z Z Z Z (wAF Z (wAF Z wAO)) Try.runUnderlying60 yC Try.zeroValue4 Z Z Z Z Z mD ?_)
 intro pT gh Cw
 let a5:Res:=.row (some ⟨gh,0,none⟩) 2 4 1 (hH KL.encT [false,true])
 have Cx:sW w U dr [a5,.blk ax 41 aU,.blk av 41 az,aO,.blk ab 28 B6,B0,.blk am 45 ak,.blk ap 45 an] pT:=Cw
 refine oR Z (zz Z Z Try.runUnderlying60) (oM Z Z (eN (zc ?_)))
 have q:=wBg dT
 obtain ⟨Ii,dR⟩:=q
 have q:=wBf dR
 obtain ⟨iv,DT⟩:=q
 replace iv:=zS iv
 refine yL (fun bY _ σ_ w_=>∃ (U_:PHeap),σ_ 185=jV (↑bY:Int)/\σ_ 5=.pointer (some ⟨ab,0,none⟩)/\σ_ 6=.slice aW aZ.length aX/\σ_ 8=.pointer (some ⟨ac,0,none⟩)/\σ_ 19=.pointer (some ⟨am,0,none⟩)/\σ_ 20=.pointer (some ⟨ap,0,none⟩)/\σ_ 21=.pointer (some ⟨av,0,none⟩)/\σ_ 23=.pointer (some ⟨ax,0,none⟩)/\σ_ 118=jV (↑aY:Int)/\σ_ 183=.slice (some ⟨gh,0,none⟩) ([false,true].length) 2/\σ_ 184=jV 2/\PHeap.Le dr U_/\sW w U U_ [.blk ax 41 aU,.blk av 41 az,aO,.blk ab 28 B6,B0,.blk am 45 ak,.blk ap 45 an,a5] w_) DT ?_ ?_ ?_
 exact ⟨dr,rfl,r6,r7,r8,r9,sc,sd,sf,sg,rfl,rfl,(zW _),(Cx.pick [1,2,3,4,5,6,7,0] _ (by decide) rfl)⟩
 rintro bY ⟨⟩ Jb Jk pU ir ⟨pg,fd,k9,sh,sj,lc,lf,sk,sl,sm,lg,lh,dV,dP⟩ m6 ip
 try dsimp only at m6
 have jP:Hid ((↑bY:Int) < 2):=zS (wBD ir)
 replace ir:=zS ir
 have DX:Hid (w64 ((↑bY:Int) + 1)=(↑(bY + 1):Int)):=zS (by have h1:=iv.out;have h2:=jP.out;rw [wAU] <;> omega)
 refine sR fL1 Z (oR Z (zh Z fd lh) (eN (zM (cT Z jP (kN (zM (zc (sR fL5 Z (oM Z fd (bnK m6 fun _ l5 Ec=>oR Z (Zi Z lg Z fd Try.runUnderlying60 yC (wAa l5)) ?_))))))))))
 have DW:=wBy (xs:=[false,true]) (wAa l5)
 refine zl rfl rfl rfl rfl (dP.ldR (j:=7) rfl rfl rfl rfl yK (wAj (sz:=1) (fun _=>rfl) _ _ 0 _ DW (by first | omega | rfl | simp) rfl)) rfl (yD rfl rfl rfl rfl rfl rfl (yD rfl rfl rfl rfl rfl rfl (eN (sR (wDe (.fx 4 (wNL (.nil)) .stop)) rfl (zl rfl rfl rfl rfl (dP.ldBA (j:=3) rfl rfl k9 ze zZ (vs:=B6) rfl rfl) rfl (zl rfl rfl rfl rfl (dP.ldBA (j:=5) rfl rfl lc ZW ZC (vs:=ak) rfl rfl) rfl (zl rfl rfl rfl rfl (dP.ldBA (j:=6) rfl rfl lf ZW ZC (vs:=an) rfl rfl) rfl (zr rfl rfl rfl rfl rfl rfl ?_))))))))
 have wN:=gU.le bw
 have wO:=wN.le bx
 have wP:=wO.le bH
 have l6:=wP.le dV
 have wQ:=gV.le bw
 have wR:=wQ.le bx
 have wS:=wR.le bH
 have l7:=wS.le dV
 have wU:=gW.le bw
 have wV:=wU.le bx
 have wW:=wV.le bH
 have l8:=wW.le dV
 have wX:=gX.le bw
 have wY:=wX.le bx
 have wZ:=wY.le bH
 have ma:=wZ.le dV
 have q:=bnd Ec
 obtain ⟨⟨iJ,db,oG⟩,w5,mN⟩:=q
 try dsimp only at mN
 refine zE 0 Z Z Z Z (zD Z Z Try.call39 (zB Z (zB Z (zB Z (zB Z zK)))) Z) dP (fun hs=>wIB ag ay aJ aM aS aK aL aN aT (⟨aV,bj⟩:wAI) (⟨bz,bS⟩:wAI) (gd [false,true] bY) pU pg hs l6 l7 l8 ma w5) (.inr Z) ?_
 rintro jb G3 IB f8 dW Cy ⟨en,eV,qF,eo,eW,rfl,rfl,w6⟩
 let iX:Res:=.row eo eW 3 1 (hH KL.encI db)
 have Cz:sW w U jb [.row en eV 23 1 qF,iX,.blk ax 41 aU,.blk av 41 az,aO,.blk ab 28 B6,B0,.blk am 45 ak,.blk ap 45 an,a5] f8:=Cy
 refine oM Z Z (oR Z (zP Z Z (v:=.slice en iJ.length eV) Z) (oR Z (zP Z Z (v:=.slice eo db.length eW) Z) (oR Z (zP Z Z (v:=jV oG) Z) (oA Z Z (oA Z Z (oA Z Z (eN (zM (yX fun bh be=>?_)))))))))
 have li:bh 5=.pointer (some ⟨ab,0,none⟩):=(be 5).trans k9
 have sq:bh 6=.slice aW aZ.length aX:=(be 6).trans sh
 have ss:bh 8=.pointer (some ⟨ac,0,none⟩):=(be 8).trans sj
 have gJ:bh 19=.pointer (some ⟨am,0,none⟩):=(be 19).trans lc
 have gK:bh 20=.pointer (some ⟨ap,0,none⟩):=(be 20).trans lf
 have gL:bh 21=.pointer (some ⟨av,0,none⟩):=(be 21).trans sk
 have su:bh 23=.pointer (some ⟨ax,0,none⟩):=(be 23).trans sl
 have sv:bh 25=jV (↑bY:Int):=(be 25).trans rfl
 have gM:bh 27=.slice en iJ.length eV:=(be 27).trans rfl
 have sA:bh 28=.slice eo db.length eW:=(be 28).trans rfl
 have sB:bh 29=jV oG:=(be 29).trans rfl
 have sC:bh 118=jV (↑aY:Int):=(be 118).trans sm
 have sD:bh 183=.slice (some ⟨gh,0,none⟩) ([false,true].length) 2:=(be 183).trans lg
 have sE:bh 184=jV 2:=(be 184).trans lh
 have sF:bh 185=jV (↑bY:Int):=(be 185).trans fd
 clear be
 refine ZA ZB [3,3,3,1,3,3,2,3,3,3,3,3,1,3,1,3,1,3,1,3,3,1,3,1,3,1,3,1,3,3,1,3,1,3,3,3,3,3] (wFr (.fx 6 (wNN (.nil)) .stop)) (by kernel_rfl) ?_
 have fu:=Cz.drew
 generalize hw_W1727:({ f8 with drawn:=f8.drawn + 1 }:World)=f9 at fu ⊢
 refine oM Z sB (oR Z (ZN Z Z Z) (oM Z Z (ifc mN ?_ ?_)))
 intro bm Ee
 refine zl Z Z Z (zF Z Z (zd (fun h=>h bm.out))) (fu.ldBA (j:=5) Z Z li ze zZ (vs:=B6) Z Z) Z (zr Z Z Z (zF Z Z (zd (fun h=>h bm.out))) Z gM (zr Z Z Z (zF Z Z (zd (fun h=>h bm.out))) Z sA ?_))
 have q:=fu.freezeRR (R:=wHb) (k:=0) rfl w6 rfl (by decide)
 obtain ⟨ph,dX,FI,CA⟩:=q
 have CB:sW w U ph [iX,.blk ax 41 aU,.blk av 41 az,aO,.blk ab 28 B6,B0,.blk am 45 ak,.blk ap 45 an,a5] f9:=CA
 have q:=CB.freezeR (k:=0) (n:=db.length) rfl (wAE (f:=KL.encI) (sz:=1) (fun _=>rfl) db) (by decide)
 obtain ⟨jc,cV,FJ,CC⟩:=q
 have CD:sW w U jc [.blk ax 41 aU,.blk av 41 az,aO,.blk ab 28 B6,B0,.blk am 45 ak,.blk ap 45 an,a5] f9:=CC
 have w7:=l6.le dW
 have w8:=w7.le dX
 have w9:=w8.le cV
 have xa:=l7.le dW
 have xb:=xa.le dX
 have xc:=xb.le cV
 have xd:=l8.le dW
 have xe:=xd.le dX
 have xf:=xe.le cV
 have xg:=ma.le dW
 have xh:=xg.le dX
 have xi:=xh.le cV
 have mb:=FI.le cV
 refine bnK Ee fun I5 xj Ef=>zE 0 Z Z Z (zF Z Z (zd (fun h=>h bm.out))) (zD Z Z Try.call24 (zB Z (zB Z (zB Z zK))) Z) CD (fun hs=>wEI ag ay aJ aM aS aK aL aN aT iJ en eV db eo eW f9 jc hs w9 xc xf xi mb FJ xj) (.inr Z) ?_
 rintro cG G4 IC pV n8 CE ⟨rfl,rfl⟩
 have bp:sW w U cG [.blk ax 41 aU,.blk av 41 az,aO,.blk ab 28 B6,B0,.blk am 45 ak,.blk ap 45 an,a5] pV:=CE
 refine zY Z Z Z (zF Z Z (zd (fun h=>h bm.out))) (fun _=>ZT Z Z) (oR Z (zb Z (zd (fun h=>h bm.out)) Z) (oM Z Z (ifc Ef ?_ ?_)))
 intro af Eg
 refine zr Z Z Z (zF Z Z (nC af.out)) Z gM (zY Z Z Z (zF Z Z (nC af.out)) (fun _=>zJ Z gK Zk Z zC) (zl Z Z Z (zF Z Z (nC af.out)) (bp.ldB (j:=6) Z Z Z zG (v:=jV bz) Z) Z (bnK Eg fun oH g6 Eh=>?_)))
 have mc:=mb.le n8
 have q:=mc.el (wAW g6)
 obtain ⟨qD,Gh,IY,Bl,ij,FG⟩:=q
 obtain ⟨oh,ot,rfl,xk⟩:=FG
 replace ij:Cl cG qD (Gh + bz.toNat * 1) [.slice oh oH.length ot]:=ij
 refine zY Z Z Z (zF Z Z (nC af.out)) (fun _=>ZO Z Z Bl Z Zg zq (wBJ g6) (wBL g6)) (zl Z Z Z (zF Z Z (nC af.out)) (bp.ldC (f:=0) ij (v:=.slice oh oH.length ot) Z Z zy Z) Z (zY Z Z Z (zF Z Z (nC af.out)) (fun _=>zJ Z gK Zk Z zC) (zl Z Z Z (zF Z Z (nC af.out)) (bp.ldB (j:=6) Z Z Z zG (v:=jV bS) Z) Z (bnK Eh fun GH g7 Ei=>?_))))
 have q:=xk.el (fun _=>rfl) (wAW g7)
 obtain ⟨HM,Ib,Bm,Bw⟩:=q
 refine zY Z Z Z (zF Z Z (nC af.out)) (fun _=>ZO Z Z Bm Z zH zC (wBJ g7) (wBL g7)) (zl Z Z Z (zF Z Z (nC af.out)) (bp.ldC (f:=0) Bw (v:=jV GH) Z Z zG Z) Z (zr Z Z Z (zF Z Z (nC af.out)) Z gM (zY Z Z Z (zF Z Z (nC af.out)) (fun _=>zJ Z gJ Zk Z zC) (zl Z Z Z (zF Z Z (nC af.out)) (bp.ldB (j:=5) Z Z Z zG (v:=jV aV) Z) Z (bnK Ei fun oI g8 Ej=>?_)))))
 have q:=mc.el (wAW g8)
 obtain ⟨qE,Gi,IZ,Bn,ik,FH⟩:=q
 obtain ⟨oi,ou,rfl,xl⟩:=FH
 replace ik:Cl cG qE (Gi + aV.toNat * 1) [.slice oi oI.length ou]:=ik
 refine zY Z Z Z (zF Z Z (nC af.out)) (fun _=>ZO Z Z Bn Z Zg zq (wBJ g8) (wBL g8)) (zl Z Z Z (zF Z Z (nC af.out)) (bp.ldC (f:=0) ik (v:=.slice oi oI.length ou) Z Z zy Z) Z (zY Z Z Z (zF Z Z (nC af.out)) (fun _=>zJ Z gJ Zk Z zC) (zl Z Z Z (zF Z Z (nC af.out)) (bp.ldB (j:=5) Z Z Z zG (v:=jV bj) Z) Z (bnK Ej fun GI g9 Ek=>?_))))
 have q:=xl.el (fun _=>rfl) (wAW g9)
 obtain ⟨HN,Ic,Bo,Bx⟩:=q
 refine zY Z Z Z (zF Z Z (nC af.out)) (fun _=>ZO Z Z Bo Z zH zC (wBJ g9) (wBL g9)) (zl Z Z Z (zF Z Z (nC af.out)) (bp.ldC (f:=0) Bx (v:=jV GI) Z Z zG Z) Z (zY Z Z Z (zF Z Z (nC af.out)) (fun _=>yH Z Z Z) (zY Z Z Z (zF Z Z (nC af.out)) (fun _=>zJ Z gL ZK Z zC) (zl Z Z Z (zF Z Z (nC af.out)) (bp.ldB (j:=1) Z Z Z zG (v:=jV bq.Lo) Z) Z (zY Z Z Z (zF Z Z (nC af.out)) (fun _=>zJ Z gL ZK Z zC) (zl Z Z Z (zF Z Z (nC af.out)) (bp.ldB (j:=1) Z Z Z zG (v:=jV bq.Hi) Z) Z (zY Z Z Z (zF Z Z (nC af.out)) (fun _=>Runs.buildA (pv:=[(0,jV bq.Lo),(1,jV bq.Hi)]) (z:=bL) (cs:=az) Z (wAF Z (wAF Z wAO)) Try.zeroValue64 Try.runUnderlying64 zC Z Z) (zr Z Z Z (zF Z Z (nC af.out)) Z sv (bnK Ek fun I6 ib El=>zY Z Z Z (zF Z Z (nC af.out)) (fun _=>yj (cs:=hH KL.encI ([bq.Lo,bq.Hi]:List Int)) Z Z Z Try.runUnderlying64 zC (wBJ ib) (wBL ib) (wEW zG (wED (sz:=1) (fun _=>Z) _ _ 0 _ _ (wAW ib) Z))) (zY Z Z Z (zF Z Z (nC af.out)) (fun _=>ZN Z Z Z) (oR Z (zb Z (nC af.out) Z) (eN (ifc El ?_ ?_)))))))))))))
 intro gu Em
 refine zn (zd (fun h=>h gu.out)) (Zl (ZH (zL (rR fL2 Z (oR Z (ZS (zf Z sF Z) (congrArg (jV) DX.out)) (oM Z Z (zg ?_)))))))
 obtain rfl:=hD Em
 exact zL ⟨Z,_,Z,⟨cG,Z,li,sq,ss,gJ,gK,gL,su,sC,sD,sE,((((dV.trans dW).trans dX).trans cV).trans n8),bp⟩⟩
 intro gu En
 refine cT Z gu (sR fL1 Z (oA Z Z (eN (zU (zX (zN ?_))))))
 have q:=wAV En
 obtain ⟨Gj,Ep,qL⟩:=q
 obtain rfl:=wAk dT dR (ip Gj qL)
 refine zN (zX (zN (zX (zN ?_))))
 have q:=wAV Ep
 obtain ⟨Gk,Er,qM⟩:=q
 obtain rfl:=wAk a6 a7 (bd Gk qM)
 refine zN (zX (zN ?_))
 have hE:=hD Er;first | subst r | cases hE
 exact ⟨rfl,_,(ZL rfl),cG,_,(bp.pick [] _ (by decide) rfl),rfl,rfl⟩
 intro af Es
 refine zt Z Z Z (zO Z Z (nF (af.out)) Z) (zt Z Z Z (zO Z Z (nF (af.out)) Z) (zt Z Z Z (zO Z Z (nF (af.out)) Z) (zt Z Z Z (zO Z Z (nF (af.out)) Z) (zt Z Z Z (zO Z Z (nF (af.out)) Z) (zt Z Z Z (zO Z Z (nF (af.out)) Z) (zt Z Z Z (zO Z Z (nF (af.out)) Z) (zt Z Z Z (zO Z Z (nF (af.out)) Z) (zt Z Z Z (zO Z Z (nF (af.out)) Z) (zt Z Z Z (zO Z Z (nF (af.out)) Z) (zt Z Z Z (zO Z Z (nF (af.out)) Z) (zt Z Z Z (zO Z Z (nF (af.out)) Z) (zt Z Z Z (zO Z Z (nF (af.out)) Z) (zt Z Z Z (zO Z Z (nF (af.out)) Z) (zt Z Z Z (zO Z Z (nF (af.out)) Z) (zt Z Z Z (zO Z Z (nF (af.out)) Z) (zt Z Z Z (zO Z Z (nF (af.out)) Z) (zt Z Z Z (zO Z Z (nF (af.out)) Z) (zt Z Z Z (zO Z Z (nF (af.out)) Z) (zt Z Z Z (zO Z Z (nF (af.out)) Z) (zt Z Z Z (zO Z Z (nF (af.out)) Z) (zt Z Z Z (zO Z Z (nF (af.out)) Z) (zt Z Z Z (zO Z Z (nF (af.out)) Z) (zt Z Z Z (zO Z Z (nF (af.out)) Z) (zt Z Z Z (zO Z Z (nF (af.out)) Z) (zt Z Z Z (zO Z Z (nF (af.out)) Z) (zt Z Z Z (zO Z Z (nF (af.out)) Z) (oR Z (zR Z (nF (af.out)) Z) (eN (ZD Z (sR fL1 Z (oA Z Z (eN (zU (zX (zN ?_)))))))))))))))))))))))))))))))))))
 have q:=wAV Es
 obtain ⟨Gl,Et,qN⟩:=q
 obtain rfl:=wAk dT dR (ip Gl qN)
 refine zN (zX (zN (zX (zN ?_))))
 have q:=wAV Et
 obtain ⟨Gm,Eu,qO⟩:=q
 obtain rfl:=wAk a6 a7 (bd Gm qO)
 refine zN (zX (zN ?_))
 have hE:=hD Eu;first | subst r | cases hE
 exact ⟨rfl,_,(ZL rfl),cG,_,(bp.pick [] _ (by decide) rfl),rfl,rfl⟩
 intro bm Ev
 refine oT Z bm (oT Z bm (oT Z bm (ZG Z Z Z (zO Z Z (Zh bm.out) Z) (oT Z bm (oR Z (zR Z (Zh bm.out) Z) (oM Z Z (oN Z (oN Z (oN Z (oN Z (oN Z (oN Z (oN Z (oN Z (oN Z (oN Z (oN Z (oN Z (oN Z (oN Z (oN Z (oN Z (oN Z (oN Z (oN Z (oN Z (oN Z (oN Z (oN Z (oN Z (oN Z (oN Z (oN Z (oR Z (zR Z Z Z) (eN (ZD Z (sR fL1 Z (oA Z Z (eN (zU (zX (zN ?_))))))))))))))))))))))))))))))))))))))))))
 have q:=wAV Ev
 obtain ⟨Gn,Ew,qP⟩:=q
 obtain rfl:=wAk dT dR (ip Gn qP)
 refine zN (zX (zN (zX (zN ?_))))
 have q:=wAV Ew
 obtain ⟨Gp,Ex,qQ⟩:=q
 obtain rfl:=wAk a6 a7 (bd Gp qQ)
 refine zN (zX (zN ?_))
 have hE:=hD Ex;first | subst r | cases hE
 exact ⟨rfl,_,(ZL rfl),jb,_,(fu.pick [] _ (by decide) rfl),rfl,rfl⟩
 rintro ⟨⟩ Jl pW ⟨pj,tT,dL,sM,sN,dM,fb,sO,sP,sQ,HS,sS,cW,fw⟩ DQ
 have mO:=wCV dT dR DQ
 try dsimp only at mO
 have qG:Hid (¬ ((↑((2:Int) - 0).toNat:Int) < 2)):=zS (wAh)
 refine sR fL1 Z (oR Z (zh Z tT sS) (eN (zM (cF Z qG (Zf (zx (zx (Zc (zL (sR (wCa (.fx 3 (wJA (.nil)) .stop)) Z (oL Z (fw.ldBA (j:=3) Z Z dL ze zZ (vs:=B6) Z Z) (oL Z (fw.ldBA (j:=5) Z Z dM ZW ZC (vs:=ak) Z Z) (oL Z (fw.ldBA (j:=6) Z Z fb ZW ZC (vs:=an) Z Z) ?_)))))))))))))
 have xm:=gU.le bw
 have xn:=xm.le bx
 have xo:=xn.le bH
 have md:=xo.le cW
 have xp:=gV.le bw
 have xq:=xp.le bx
 have xr:=xq.le bH
 have me:=xr.le cW
 have xt:=gW.le bw
 have xu:=xt.le bx
 have xv:=xu.le bH
 have mf:=xv.le cW
 have xw:=gX.le bw
 have xx:=xw.le bx
 have xz:=xx.le bH
 have mg:=xz.le cW
 have q:=bnd mO
 obtain ⟨⟨ef,oJ⟩,xA,mP⟩:=q
 try dsimp only at mP
 refine zE 0 Z Z Z Z (zD Z Z Try.call40 (zB Z (zB Z (zB Z zK))) Z) fw (fun hs=>wGF ag ay aJ aM aS aK aL aN aT (⟨aV,bj⟩:wAI) (⟨bz,bS⟩:wAI) pW pj hs md me mf mg xA) (.inr Z) ?_
 rintro jd G5 ID jx cX CF ⟨fL,gv,rfl,rfl⟩
 let iY:Res:=.row fL gv 78 4 (hH wAQ ef)
 have fy:sW w U jd [iY,.blk ax 41 aU,.blk av 41 az,aO,.blk ab 28 B6,B0,.blk am 45 ak,.blk ap 45 an,a5] jx:=CF
 refine oM Z Z (oR Z (zP Z Z (v:=.slice fL ef.length gv) Z) (oR Z (zP Z Z (v:=jV oJ) Z) (oA Z Z (oA Z Z (eN (sR (wCa (.fx 3 (wJA (.nil)) .stop)) Z (oL Z (fy.ldBA (j:=4) Z Z dL ze zZ (vs:=B6) Z Z) (oL Z (fy.ldBA (j:=7) Z Z fb ZW ZC (vs:=an) Z Z) (oL Z (fy.ldBA (j:=6) Z Z dM ZW ZC (vs:=ak) Z Z) ?_)))))))))
 have mh:=md.le cX
 have mi:=me.le cX
 have mj:=mf.le cX
 have ml:=mg.le cX
 have q:=bnd mP
 obtain ⟨⟨eg,oK⟩,xB,mQ⟩:=q
 try dsimp only at mQ
 refine zE 0 Z Z Z Z (zD Z Z Try.call40 (zB Z (zB Z (zB Z zK))) Z) fy (fun hs=>wGF ag ay aJ aM aS aK aL aN aT (⟨bz,bS⟩:wAI) (⟨aV,bj⟩:wAI) jx jd hs mh mi mj ml xB) (.inr Z) ?_
 rintro pm G6 IE ga cY CG ⟨fM,gw,rfl,rfl⟩
 let fO:Res:=.row fM gw 78 4 (hH wAQ eg)
 have fz:sW w U pm [fO,iY,.blk ax 41 aU,.blk av 41 az,aO,.blk ab 28 B6,B0,.blk am 45 ak,.blk ap 45 an,a5] ga:=CG
 refine oM Z Z (oR Z (zP Z Z (v:=.slice fM eg.length gw) Z) (oR Z (zP Z Z (v:=jV oK) Z) (oA Z Z (oA Z Z (eN (sR (wDe (.fx 4 (wGi (.nil)) .stop)) Z (oL Z (fz.ldBA (j:=5) Z Z dL ze zZ (vs:=B6) Z Z) (oL Z (fz.ldBA (j:=7) Z Z dM ZW ZC (vs:=ak) Z Z) (oL Z (fz.ldBA (j:=8) Z Z fb ZW ZC (vs:=an) Z Z) (oM Z Z ?_))))))))))
 have q:=fz.freezeR (k:=1) (n:=ef.length) rfl (wAE (f:=wAQ) (sz:=4) (fun _=>rfl) ef) (by decide)
 obtain ⟨je,cZ,FK,CH⟩:=q
 have CI:sW w U je [fO,.blk ax 41 aU,.blk av 41 az,aO,.blk ab 28 B6,B0,.blk am 45 ak,.blk ap 45 an,a5] ga:=CH
 have xC:=mh.le cY
 have mm:=xC.le cZ
 have xD:=mi.le cY
 have mn:=xD.le cZ
 have xE:=mj.le cY
 have mo:=xE.le cZ
 have xF:=ml.le cY
 have mp:=xF.le cZ
 have q:=bnd mQ
 obtain ⟨⟨oO,oP⟩,xG,mR⟩:=q
 try dsimp only at mR
 refine zE 0 Z Z Z Z (zD Z Z Try.call41 (zB Z (zB Z (zB Z (zB Z zK)))) Z) CI (fun hs=>wEn ag ay aJ aM aS aK aL aN aT (⟨aV,bj⟩:wAI) (⟨bz,bS⟩:wAI) ef fL gv ga je hs mm mn mo mp FK xG) (.inr Z) ?_
 rintro pn G7 IF gb c6 CL ⟨rfl,rfl⟩
 have fA:sW w U pn [fO,.blk ax 41 aU,.blk av 41 az,aO,.blk ab 28 B6,B0,.blk am 45 ak,.blk ap 45 an,a5] gb:=CL
 refine oM Z Z (oR Z (zP Z Z (v:=jV oO) Z) (oR Z (zP Z Z (v:=jV oP) Z) (oA Z Z (oA Z Z (eN (sR (wDe (.fx 4 (wGi (.nil)) .stop)) Z (oL Z (fA.ldBA (j:=4) Z Z dL ze zZ (vs:=B6) Z Z) (oL Z (fA.ldBA (j:=7) Z Z fb ZW ZC (vs:=an) Z Z) (oL Z (fA.ldBA (j:=6) Z Z dM ZW ZC (vs:=ak) Z Z) (oM Z Z ?_))))))))))
 have q:=fA.freezeR (k:=0) (n:=eg.length) rfl (wAE (f:=wAQ) (sz:=4) (fun _=>rfl) eg) (by decide)
 obtain ⟨jf,c8,FM,CM⟩:=q
 have CN:sW w U jf [.blk ax 41 aU,.blk av 41 az,aO,.blk ab 28 B6,B0,.blk am 45 ak,.blk ap 45 an,a5] gb:=CM
 have xI:=mm.le c6
 have dO:=xI.le c8
 have xJ:=mn.le c6
 have ff:=xJ.le c8
 have xK:=mo.le c6
 have fg:=xK.le c8
 have xL:=mp.le c6
 have fh:=xL.le c8
 have q:=bnd mR
 obtain ⟨⟨oQ,oS⟩,xM,mS⟩:=q
 try dsimp only at mS
 refine zE 0 Z Z Z Z (zD Z Z Try.call41 (zB Z (zB Z (zB Z (zB Z zK)))) Z) CN (fun hs=>wEn ag ay aJ aM aS aK aL aN aT (⟨bz,bS⟩:wAI) (⟨aV,bj⟩:wAI) eg fM gw gb jf hs dO ff fg fh FM xM) (.inr Z) ?_
 rintro bA G8 IG ge bg CP ⟨rfl,rfl⟩
 have bP:sW w U bA [.blk ax 41 aU,.blk av 41 az,aO,.blk ab 28 B6,B0,.blk am 45 ak,.blk ap 45 an,a5] ge:=CP
 refine oM Z Z (oR Z (zP Z Z (v:=jV oQ) Z) (oR Z (zP Z Z (v:=jV oS) Z) (oA Z Z (oA Z Z (eN (zM (zM (yX fun br bi=>?_))))))))
 have fc:br 5=.pointer (some ⟨ab,0,none⟩):=(bi 5).trans dL
 have gN:br 6=.slice aW aZ.length aX:=(bi 6).trans sM
 have gO:br 8=.pointer (some ⟨ac,0,none⟩):=(bi 8).trans sN
 have dN:br 19=.pointer (some ⟨am,0,none⟩):=(bi 19).trans dM
 have lk:br 21=.pointer (some ⟨av,0,none⟩):=(bi 21).trans sO
 have sT:br 22=jV oJ:=(bi 22).trans rfl
 have gP:br 23=.pointer (some ⟨ax,0,none⟩):=(bi 23).trans sP
 have sU:br 24=jV oK:=(bi 24).trans rfl
 have sV:br 32=jV oO:=(bi 32).trans rfl
 have sX:br 33=jV oP:=(bi 33).trans rfl
 have sY:br 34=jV oQ:=(bi 34).trans rfl
 have sZ:br 35=jV oS:=(bi 35).trans rfl
 have gQ:br 118=jV (↑aY:Int):=(bi 118).trans sQ
 clear bi
 refine rR fL27 Z (oM Z sT (oR Z (ZN Z Z Z) (oM Z Z (ifc mS ?_ ?_))))
 intro cn EB
 refine zr Z Z Z (zF Z Z (zd (fun h=>h cn.out))) Z sU (zY Z Z Z (zF Z Z (zd (fun h=>h cn.out))) (fun _=>ZN Z Z Z) (oR Z (zb Z (zd (fun h=>h cn.out)) Z) (oM Z Z (ifc EB ?_ ?_))))
 intro co EC
 refine zr Z Z Z (zF Z Z (zd (fun h=>h co.out))) Z sX (zY Z Z Z (zF Z Z (zd (fun h=>h co.out))) (fun _=>ZN Z Z Z) (oR Z (zb Z (zd (fun h=>h co.out)) Z) (oM Z Z (ifc EC ?_ ?_))))
 intro cp ED
 refine zr Z Z Z (zF Z Z (zd (fun h=>h cp.out))) Z sZ (zY Z Z Z (zF Z Z (zd (fun h=>h cp.out))) (fun _=>ZN Z Z Z) (oR Z (zb Z (zd (fun h=>h cp.out)) Z) (oM Z Z (ifc ED ?_ ?_))))
 intro bs EE
 refine zr Z Z Z (zF Z Z (zd (fun h=>h bs.out))) Z sV (zY Z Z Z (zF Z Z (zd (fun h=>h bs.out))) (fun _=>zJ Z lk ZK Z zC) (zl Z Z Z (zF Z Z (zd (fun h=>h bs.out))) (bP.ldB (j:=1) Z Z Z zG (v:=jV bq.Hi) Z) Z (zY Z Z Z (zF Z Z (zd (fun h=>h bs.out))) (fun _=>ZN Z Z Z) (oR Z (zb Z (zd (fun h=>h bs.out)) Z) (oM Z Z (ifc EE ?_ ?_))))))
 intro bo EF
 refine zr Z Z Z (zF Z Z (zd (fun h=>h bo.out))) Z sY (zY Z Z Z (zF Z Z (zd (fun h=>h bo.out))) (fun _=>Runs.negw Z Z) (zY Z Z Z (zF Z Z (zd (fun h=>h bo.out))) (fun _=>zJ Z lk ZK Z zC) (zl Z Z Z (zF Z Z (zd (fun h=>h bo.out))) (bP.ldB (j:=1) Z Z Z zG (v:=jV bq.Lo) Z) Z (zY Z Z Z (zF Z Z (zd (fun h=>h bo.out))) (fun _=>ZN Z Z Z) (oR Z (zb Z (zd (fun h=>h bo.out)) Z) (eN (ifc EF ?_ ?_)))))))
 intro gx EG
 refine zn (zd (fun h=>h gx.out)) (kN ?_)
 have q:=bnd EG
 obtain ⟨⟨GJ,oU,oV⟩,FR,mT⟩:=q
 try dsimp only at mT
 refine yN (fun σ_ w_=>∃ (U_:PHeap) (gi:Nat),σ_ 5=.pointer (some ⟨ab,0,none⟩)/\σ_ 6=.slice aW aZ.length aX/\σ_ 8=.pointer (some ⟨ac,0,none⟩)/\σ_ 19=.pointer (some ⟨am,0,none⟩)/\σ_ 22=jV GJ/\σ_ 23=.pointer (some ⟨ax,0,none⟩)/\σ_ 36=.pointer (some ⟨gi,0,none⟩)/\σ_ 118=jV (↑aY:Int)/\PHeap.Le bA U_/\sW w U U_ [.blk ax 41 aU,.blk av 41 az,aO,.blk ab 28 B6,B0,.blk am 45 ak,.blk ap 45 an,.blk gi 41 [jV oU,jV oV]] w_) ?_ ?_
 refine bnK FR fun iL mq EH=>?_
 have q:=bnd EH
 obtain ⟨⟨a8,iM⟩,ic,fC⟩:=q
 try dsimp only at fC
 refine ZA ZB [1,3,1,2,1,2,3,3,3,2,0,3] (wCa (.fl 4 (.fx 3 (.fx 5 (wLC (.fx 9 gFp .stop)) (.fx 9 (.fx 5 (wLC gFp) (.stop)) (.stop))) (.fx 9 (.fx 3 (.fx 5 (wLC gFp) (.stop)) (.stop)) (.stop))))) (by kernel_rfl) ?_
 have cN:=bP.drew
 generalize hw_W2019:({ ge with drawn:=ge.drawn + 1 }:World)=pX at cN ⊢
 refine oL Z (cN.ldBA (j:=3) Z Z fc ze zZ (vs:=B6) Z Z) (oR Z (zJ Z dN Zk Z zC) (oL Z (cN.ldB (j:=5) Z Z Z zG (v:=jV aV) Z) (oL Z (cN.ldBA (j:=5) Z Z dN ZW ZC (vs:=ak) Z Z) (zk ?_ ?_))))
 refine zE 0 Z Z Z Z (zD Z Z yq (zB Z (zB Z zK)) Z) cN (fun hs=>wAp aV 0 pX bA hs mq) (.inr Z) ?_
 rintro fT G9 IH jy bI CS ⟨rfl,rfl⟩
 have mE:sW w U fT [.blk ax 41 aU,.blk av 41 az,aO,.blk ab 28 B6,B0,.blk am 45 ak,.blk ap 45 an,a5] jy:=CS
 refine zk ?_ ?_
 have xR:=dO.le bg
 have xS:=xR.le bI
 have xU:=ff.le bg
 have xV:=xU.le bI
 have xW:=fg.le bg
 have xX:=xW.le bI
 have xY:=fh.le bg
 have xZ:=xY.le bI
 refine zE 0 Z Z Z Z (zD Z Z Try.call25 (zB Z (zB Z (zB Z zK))) Z) mE (fun hs=>wEb ag ay aJ aM aS aK aL aN aT iL (⟨aV,bj⟩:wAI) jy fT hs xS xV xX xZ ic) (.inr Z) ?_
 rintro fU Ha II pY F4 CT ⟨rfl,rfl⟩
 have CU:sW w U fU [.blk ax 41 aU,.blk av 41 az,aO,.blk ab 28 B6,B0,.blk am 45 ak,.blk ap 45 an,a5] pY:=CT
 refine oM Z Z (oR Z (zP Z Z (v:=.agg #[jV a8.Lo,jV a8.Hi]) Z) (oR Z (zP Z Z (v:=jV iM) Z) (zT (cs:=bL) Z Z Z Z Z ZJ Z CU ?_)))
 intro HB jF CV
 refine zV (j:=0) (vs:=[jV a8.Lo,jV a8.Hi]) Z Z Z Z CV Z Z Z Z zj (zA Z) Z Z Z ?_
 intro pZ CW
 have CX:sW w U fU [.blk jF 41 [jV a8.Lo,jV a8.Hi],.blk ax 41 aU,.blk av 41 az,aO,.blk ab 28 B6,B0,.blk am 45 ak,.blk ap 45 an,a5] pZ:=CW
 refine oA Z Z (zg ?_)
 cases fC
 exact zL ⟨rfl,⟨fU,jF,fc,gN,gO,dN,rfl,gP,rfl,gQ,(bI.trans F4),(CX.pick [1,2,3,4,5,6,7,0] _ (by decide) rfl)⟩⟩
 refine zT (cs:=bL) Z Z Z Z Z ZJ Z mE ?_
 intro p6 gj CY
 have yy:=dO.le bg
 have yz:=yy.le bI
 have y4:=ff.le bg
 have y5:=y4.le bI
 have y6:=fg.le bg
 have y7:=y6.le bI
 have y8:=fh.le bg
 have y9:=y8.le bI
 refine zE 0 Z Z Z Z (zD Z Z Try.call25 (zB Z (zB Z (zB Z zK))) Z) CY (fun hs=>wEb ag ay aJ aM aS aK aL aN aT iL (⟨aV,bj⟩:wAI) p6 fT hs yz y5 y7 y9 ic) (.inr Z) ?_
 rintro fW Hb IJ p7 F5 CZ ⟨rfl,rfl⟩
 have C0:sW w U fW [.blk gj 41 bL,.blk ax 41 aU,.blk av 41 az,aO,.blk ab 28 B6,B0,.blk am 45 ak,.blk ap 45 an,a5] p7:=CZ
 refine oM Z Z (oR Z (zP Z Z (v:=.agg #[jV a8.Lo,jV a8.Hi]) Z) (oR Z (zP Z Z (v:=jV iM) Z) (zV (j:=0) (vs:=[jV a8.Lo,jV a8.Hi]) Z Z Z Z C0 Z Z Z Z zj (zA Z) Z Z Z ?_)))
 intro p8 C1
 have C2:sW w U fW [.blk gj 41 [jV a8.Lo,jV a8.Hi],.blk ax 41 aU,.blk av 41 az,aO,.blk ab 28 B6,B0,.blk am 45 ak,.blk ap 45 an,a5] p8:=C1
 refine oA Z Z (zg ?_)
 cases fC
 exact zL ⟨rfl,⟨fW,gj,fc,gN,gO,dN,rfl,gP,rfl,gQ,(bI.trans F5),(C2.pick [1,2,3,4,5,6,7,0] _ (by decide) rfl)⟩⟩
 refine zT (cs:=bL) Z Z Z Z Z ZJ Z cN ?_
 intro p9 eK C3
 refine zE 0 Z Z Z Z (zD Z Z yq (zB Z (zB Z zK)) Z) C3 (fun hs=>wAp aV 0 p9 bA hs mq) (.inr Z) ?_
 rintro jh Hc IK jz dY C4 ⟨rfl,rfl⟩
 have C5:sW w U jh [.blk eK 41 bL,.blk ax 41 aU,.blk av 41 az,aO,.blk ab 28 B6,B0,.blk am 45 ak,.blk ap 45 an,a5] jz:=C4
 have z4:=dO.le bg
 have z5:=z4.le dY
 have z6:=ff.le bg
 have z7:=z6.le dY
 have z8:=fg.le bg
 have z9:=z8.le dY
 have Aa:=fh.le bg
 have Ab:=Aa.le dY
 refine zE 0 Z Z Z Z (zD Z Z Try.call25 (zB Z (zB Z (zB Z zK))) Z) C5 (fun hs=>wEb ag ay aJ aM aS aK aL aN aT iL (⟨aV,bj⟩:wAI) jz jh hs z5 z7 z9 Ab ic) (.inr Z) ?_
 rintro fY Hd IL qa F6 C6 ⟨rfl,rfl⟩
 have C7:sW w U fY [.blk eK 41 bL,.blk ax 41 aU,.blk av 41 az,aO,.blk ab 28 B6,B0,.blk am 45 ak,.blk ap 45 an,a5] qa:=C6
 refine oM Z Z (oR Z (zP Z Z (v:=.agg #[jV a8.Lo,jV a8.Hi]) Z) (oR Z (zP Z Z (v:=jV iM) Z) (zV (j:=0) (vs:=[jV a8.Lo,jV a8.Hi]) Z Z Z Z C7 Z Z Z Z zj (zA Z) Z Z Z ?_)))
 intro qb C8
 have C9:sW w U fY [.blk eK 41 [jV a8.Lo,jV a8.Hi],.blk ax 41 aU,.blk av 41 az,aO,.blk ab 28 B6,B0,.blk am 45 ak,.blk ap 45 an,a5] qb:=C8
 refine oA Z Z (zg ?_)
 cases fC
 exact zL ⟨rfl,⟨fY,eK,fc,gN,gO,dN,rfl,gP,rfl,gQ,(dY.trans F6),(C9.pick [1,2,3,4,5,6,7,0] _ (by decide) rfl)⟩⟩
 rintro Jm jA ⟨eA,gi,gR,s3,s4,lm,s5,ln,lp,s6,iB,Da⟩
 refine zM (ZA ZB [3,3,3,3,1,3,1,3,1,3,1,3,3,1,3,3,3,3,1,3,1,3,1,3,1,3,3,1,3,3] fL30 (by kernel_rfl) ?_)
 have bf:=Da.drew
 generalize hw_W2137:({ jA with drawn:=jA.drawn + 1 }:World)=HC at bf ⊢
 refine oM Z s5 (oR Z (ZN Z Z Z) (oM Z Z (ifc mT ?_ ?_)))
 intro aQ EI
 refine zY Z Z Z (zF Z Z (zd (fun h=>h aQ.out))) (fun _=>zJ Z lp ZK Z zC) (zl Z Z Z (zF Z Z (zd (fun h=>h aQ.out))) (bf.ldB (j:=7) Z Z Z zG (v:=jV oU) Z) Z (zY Z Z Z (zF Z Z (zd (fun h=>h aQ.out))) (fun _=>zJ Z gR zQ Z zq) (zl Z Z Z (zF Z Z (zd (fun h=>h aQ.out))) (bf.ldB (j:=3) Z Z Z zy (v:=.slice ay ag.Starts.length aJ) Z) Z (zY Z Z Z (zF Z Z (zd (fun h=>h aQ.out))) (fun _=>zJ Z lm Zk Z zC) (zl Z Z Z (zF Z Z (zd (fun h=>h aQ.out))) (bf.ldB (j:=5) Z Z Z zG (v:=jV aV) Z) Z (bnK EI fun oW cL EK=>?_))))))
 have Ae:=dO.le bg
 have mr:=Ae.le iB
 have q:=mr.el (fun _=>rfl) (wAW cL)
 obtain ⟨HO,Ie,Bp,By⟩:=q
 refine zY Z Z Z (zF Z Z (zd (fun h=>h aQ.out))) (fun _=>ZO Z Z Bp Z zH zC (wBJ cL) (wBL cL)) (zl Z Z Z (zF Z Z (zd (fun h=>h aQ.out))) (bf.ldC (f:=0) By (v:=jV oW) Z Z zG Z) Z (zY Z Z Z (zF Z Z (zd (fun h=>h aQ.out))) (fun _=>zf Z Z Z) (zY Z Z Z (zF Z Z (zd (fun h=>h aQ.out))) (fun _=>zJ Z ln ZK Z zC) (zl Z Z Z (zF Z Z (zd (fun h=>h aQ.out))) (bf.ldB (j:=0) Z Z Z zG (v:=jV cy.Lo) Z) Z (zY Z Z Z (zF Z Z (zd (fun h=>h aQ.out))) (fun _=>ZN Z Z Z) (oR Z (zb Z (zd (fun h=>h aQ.out)) Z) (oM Z Z (ifc EK ?_ ?_))))))))
 intro aR EL
 refine zY Z Z Z (zF Z Z (zd (fun h=>h aR.out))) (fun _=>zJ Z lp ZK Z zC) (zl Z Z Z (zF Z Z (zd (fun h=>h aR.out))) (bf.ldB (j:=7) Z Z Z zG (v:=jV oV) Z) Z (zY Z Z Z (zF Z Z (zd (fun h=>h aR.out))) (fun _=>zJ Z gR zQ Z zq) (zl Z Z Z (zF Z Z (zd (fun h=>h aR.out))) (bf.ldB (j:=3) Z Z Z zy (v:=.slice ay ag.Starts.length aJ) Z) Z (zY Z Z Z (zF Z Z (zd (fun h=>h aR.out))) (fun _=>zJ Z lm Zk Z zC) (zl Z Z Z (zF Z Z (zd (fun h=>h aR.out))) (bf.ldB (j:=5) Z Z Z zG (v:=jV aV) Z) Z ?_)))))
 have q:=mr.el (fun _=>rfl) (wAW cL)
 obtain ⟨HP,If,Bq,Bz⟩:=q
 refine zY Z Z Z (zF Z Z (zd (fun h=>h aR.out))) (fun _=>ZO Z Z Bq Z zH zC (wBJ cL) (wBL cL)) (zl Z Z Z (zF Z Z (zd (fun h=>h aR.out))) (bf.ldC (f:=0) Bz (v:=jV oW) Z Z zG Z) Z (zY Z Z Z (zF Z Z (zd (fun h=>h aR.out))) (fun _=>zf Z Z Z) (zY Z Z Z (zF Z Z (zd (fun h=>h aR.out))) (fun _=>zJ Z ln ZK Z zC) (zl Z Z Z (zF Z Z (zd (fun h=>h aR.out))) (bf.ldB (j:=0) Z Z Z zG (v:=jV cy.Hi) Z) Z (zY Z Z Z (zF Z Z (zd (fun h=>h aR.out))) (fun _=>ZN Z Z Z) (oR Z (zb Z (zd (fun h=>h aR.out)) Z) (eN (ifc EL ?_ ?_))))))))
 intro gy EM
 refine zn (zd (fun h=>h gy.out)) (Zl (ZH (zL (rR fL2 Z (oR Z (ZS (zf Z s6 Z) (congrArg (jV) DZ.out)) (oM Z Z (zg ?_)))))))
 obtain rfl:=hD EM
 have Af:=wg.le ct
 have Ag:=Af.le bw
 have Ah:=Ag.le bx
 have Ai:=Ah.le bH
 have Aj:=Ai.le cW
 have Ak:=Aj.le cX
 have Al:=Ak.le cY
 have Am:=Al.le cZ
 have An:=Am.le c6
 have Ao:=An.le c8
 have Ap:=Ao.le bg
 have Aq:=Ap.le iB
 exact zL ⟨rfl,_,rfl,⟨eA,dk,dH,rfl,gR,s3,s4,(((((((((((((au.trans cU).trans ct).trans bw).trans bx).trans bH).trans cW).trans cX).trans cY).trans cZ).trans c6).trans c8).trans bg).trans iB),(bf.pick [2,3,4] _ (by decide) rfl),Aq⟩⟩
 intro gy EN
 refine cT Z gy (sR fL1 Z (oA Z Z (eN (zU (zX (zN ?_))))))
 have q:=wAV EN
 obtain ⟨Gq,EO,qR⟩:=q
 obtain rfl:=wAk a6 a7 (bd Gq qR)
 refine zN (zX (zN ?_))
 have hE:=hD EO;first | subst r | cases hE
 exact ⟨rfl,_,(ZL rfl),eA,_,(bf.pick [] _ (by decide) rfl),rfl,rfl⟩
 intro aR EP
 refine oT Z aR (oT Z aR (oT Z aR (oT Z aR (oT Z aR (oT Z aR (oT Z aR (oT Z aR (oT Z aR (oT Z aR (oT Z aR (oT Z aR (oR Z (zR Z (Zh aR.out) Z) (eN (ZD Z (sR fL1 Z (oA Z Z (eN (zU (zX (zN ?_))))))))))))))))))))
 have q:=wAV EP
 obtain ⟨Gr,EQ,qS⟩:=q
 obtain rfl:=wAk a6 a7 (bd Gr qS)
 refine zN (zX (zN ?_))
 have hE:=hD EQ;first | subst r | cases hE
 exact ⟨rfl,_,(ZL rfl),eA,_,(bf.pick [] _ (by decide) rfl),rfl,rfl⟩
 intro aQ ER
 refine oT Z aQ (oT Z aQ (oT Z aQ (oT Z aQ (oT Z aQ (oT Z aQ (oT Z aQ (oT Z aQ (oT Z aQ (oT Z aQ (oT Z aQ (oT Z aQ (oR Z (zR Z (Zh aQ.out) Z) (oM Z Z (oN Z (oN Z (oN Z (oN Z (oN Z (oN Z (oN Z (oN Z (oN Z (oN Z (oN Z (oN Z (oR Z (zR Z Z Z) (eN (ZD Z (sR fL1 Z (oA Z Z (eN (zU (zX (zN ?_))))))))))))))))))))))))))))))))))
 have q:=wAV ER
 obtain ⟨Gs,ES,qT⟩:=q
 obtain rfl:=wAk a6 a7 (bd Gs qT)
 refine zN (zX (zN ?_))
 have hE:=hD ES;first | subst r | cases hE
 exact ⟨rfl,_,(ZL rfl),eA,_,(bf.pick [] _ (by decide) rfl),rfl,rfl⟩
 intro gx ET
 refine cT Z gx (sR fL1 Z (oA Z Z (eN (zU (zN (zX (zN ?_)))))))
 have q:=wAV ET
 obtain ⟨Gt,EU,qU⟩:=q
 obtain rfl:=wAk a6 a7 (bd Gt qU)
 refine zN (zX (zN ?_))
 have hE:=hD EU;first | subst r | cases hE
 exact ⟨rfl,_,(ZL rfl),bA,_,(bP.pick [] _ (by decide) rfl),rfl,rfl⟩
 intro bo EV
 refine oT Z bo (oT Z bo (oT Z bo (oT Z bo (oT Z bo (oR Z (zR Z (Zh bo.out) Z) (eN (ZD Z (sR fL1 Z (oA Z Z (eN (zU (zN (zX (zN ?_))))))))))))))
 have q:=wAV EV
 obtain ⟨Gu,EW,qV⟩:=q
 obtain rfl:=wAk a6 a7 (bd Gu qV)
 refine zN (zX (zN ?_))
 have hE:=hD EW;first | subst r | cases hE
 exact ⟨rfl,_,(ZL rfl),bA,_,(bP.pick [] _ (by decide) rfl),rfl,rfl⟩
 intro bs EX
 refine oT Z bs (oT Z bs (oT Z bs (oT Z bs (oR Z (zR Z (Zh bs.out) Z) (oM Z Z (oN Z (oN Z (oN Z (oN Z (oN Z (oR Z (zR Z Z Z) (eN (ZD Z (sR fL1 Z (oA Z Z (eN (zU (zN (zX (zN ?_))))))))))))))))))))
 have q:=wAV EX
 obtain ⟨Gw,EY,qW⟩:=q
 obtain rfl:=wAk a6 a7 (bd Gw qW)
 refine zN (zX (zN ?_))
 have hE:=hD EY;first | subst r | cases hE
 exact ⟨rfl,_,(ZL rfl),bA,_,(bP.pick [] _ (by decide) rfl),rfl,rfl⟩
 intro cp EZ
 refine oT Z cp (oT Z cp (oR Z (zR Z (Zh cp.out) Z) (oM Z Z (oN Z (oN Z (oN Z (oN Z (oR Z (zR Z Z Z) (oM Z Z (oN Z (oN Z (oN Z (oN Z (oN Z (oR Z (zR Z Z Z) (eN (ZD Z (sR fL1 Z (oA Z Z (eN (zU (zN (zX (zN ?_))))))))))))))))))))))))
 have q:=wAV EZ
 obtain ⟨Gx,E0,qX⟩:=q
 obtain rfl:=wAk a6 a7 (bd Gx qX)
 refine zN (zX (zN ?_))
 have hE:=hD E0;first | subst r | cases hE
 exact ⟨rfl,_,(ZL rfl),bA,_,(bP.pick [] _ (by decide) rfl),rfl,rfl⟩
 intro co E1
 refine oT Z co (oT Z co (oR Z (zR Z (Zh co.out) Z) (oM Z Z (oN Z (oN Z (oR Z (zR Z Z Z) (oM Z Z (oN Z (oN Z (oN Z (oN Z (oR Z (zR Z Z Z) (oM Z Z (oN Z (oN Z (oN Z (oN Z (oN Z (oR Z (zR Z Z Z) (eN (ZD Z (sR fL1 Z (oA Z Z (eN (zU (zN (zX (zN ?_))))))))))))))))))))))))))))
 have q:=wAV E1
 obtain ⟨Gy,E2,qY⟩:=q
 obtain rfl:=wAk a6 a7 (bd Gy qY)
 refine zN (zX (zN ?_))
 have hE:=hD E2;first | subst r | cases hE
 exact ⟨rfl,_,(ZL rfl),bA,_,(bP.pick [] _ (by decide) rfl),rfl,rfl⟩
 intro cn E3
 refine oT Z cn (oT Z cn (oR Z (zR Z (Zh cn.out) Z) (oM Z Z (oN Z (oN Z (oR Z (zR Z Z Z) (oM Z Z (oN Z (oN Z (oR Z (zR Z Z Z) (oM Z Z (oN Z (oN Z (oN Z (oN Z (oR Z (zR Z Z Z) (oM Z Z (oN Z (oN Z (oN Z (oN Z (oN Z (oR Z (zR Z Z Z) (eN (ZD Z (sR fL1 Z (oA Z Z (eN (zU (zN (zX (zN ?_))))))))))))))))))))))))))))))))
 have q:=wAV E3
 obtain ⟨Gz,E4,qZ⟩:=q
 obtain rfl:=wAk a6 a7 (bd Gz qZ)
 refine zN (zX (zN ?_))
 have hE:=hD E4;first | subst r | cases hE
 exact ⟨rfl,_,(ZL rfl),bA,_,(bP.pick [] _ (by decide) rfl),rfl,rfl⟩
 intro gt E5
 refine ZD (nF (gt.out)) (sR fL1 Z (oA Z Z (eN (zU (zN (zX (zN ?_)))))))
 have q:=wAV E5
 obtain ⟨GA,E6,q5⟩:=q
 obtain rfl:=wAk a6 a7 (bd GA q5)
 refine zN (zX (zN ?_))
 have hE:=hD E6;first | subst r | cases hE
 exact ⟨rfl,_,(ZL rfl),dr,_,(mD.pick [] _ (by decide) rfl),rfl,rfl⟩
 intro ah E7
 refine zt Z Z Z (zO Z Z (nF (ah.out)) Z) (zt Z Z Z (zO Z Z (nF (ah.out)) Z) (zt Z Z Z (zO Z Z (nF (ah.out)) Z) (zt Z Z Z (zO Z Z (nF (ah.out)) Z) (zt Z Z Z (zO Z Z (nF (ah.out)) Z) (zt Z Z Z (zO Z Z (nF (ah.out)) Z) (zt Z Z Z (zO Z Z (nF (ah.out)) Z) (zt Z Z Z (zO Z Z (nF (ah.out)) Z) (zt Z Z Z (zO Z Z (nF (ah.out)) Z) (zt Z Z Z (zO Z Z (nF (ah.out)) Z) (zt Z Z Z (zO Z Z (nF (ah.out)) Z) (zt Z Z Z (zO Z Z (nF (ah.out)) Z) (zt Z Z Z (zO Z Z (nF (ah.out)) Z) (zt Z Z Z (zO Z Z (nF (ah.out)) Z) (zt Z Z Z (zO Z Z (nF (ah.out)) Z) (zt Z Z Z (zO Z Z (nF (ah.out)) Z) (zt Z Z Z (zO Z Z (nF (ah.out)) Z) (zt Z Z Z (zO Z Z (nF (ah.out)) Z) (zt Z Z Z (zO Z Z (nF (ah.out)) Z) (zt Z Z Z (zO Z Z (nF (ah.out)) Z) (ZG Z Z Z (zO Z Z (nF (ah.out)) Z) (zt Z Z Z (zO Z Z (nF (ah.out)) Z) (oR Z (zR Z (nF (ah.out)) Z) (eN (ZD Z (sR fL1 Z (oA Z Z (eN (zU (zN (zX (zN ?_)))))))))))))))))))))))))))))))
 have q:=wAV E7
 obtain ⟨GB,E8,q6⟩:=q
 obtain rfl:=wAk a6 a7 (bd GB q6)
 refine zN (zX (zN ?_))
 have hE:=hD E8;first | subst r | cases hE
 exact ⟨rfl,_,(ZL rfl),dp,_,(bt.pick [] _ (by decide) rfl),rfl,rfl⟩
 intro aP E9
 refine oT Z aP (oT Z aP (oT Z aP (oT Z aP (oT Z aP (oT Z aP (oT Z aP (oT Z aP (oT Z aP (oT Z aP (ZG Z Z Z (zO Z Z (Zh aP.out) Z) (oT Z aP (oR Z (zR Z (Zh aP.out) Z) (oM Z Z (oN Z (oN Z (oN Z (oN Z (oN Z (oN Z (oN Z (oN Z (oN Z (oN Z (oN Z (oN Z (oN Z (oN Z (oN Z (oN Z (oN Z (oN Z (oN Z (oN Z (ZG Z Z Z (zO Z Z Z Z) (oN Z (oR Z (zR Z Z Z) (eN (ZD Z (sR fL1 Z (oA Z Z (eN (zU (zN (zX (zN ?_)))))))))))))))))))))))))))))))))))))))))))))
 have q:=wAV E9
 obtain ⟨GC,Fa,q7⟩:=q
 obtain rfl:=wAk a6 a7 (bd GC q7)
 refine zN (zX (zN ?_))
 have hE:=hD Fa;first | subst r | cases hE
 exact ⟨rfl,_,(ZL rfl),cE,_,(bN.pick [] _ (by decide) rfl),rfl,rfl⟩
 intro cg Fb
 refine oT Z cg (oT Z cg (oR Z (zR Z (Zh cg.out) Z) (oM Z Z (oN Z (oN Z (oN Z (oN Z (oN Z (oN Z (oN Z (oN Z (oN Z (oN Z (ZG Z Z Z (zO Z Z Z Z) (oN Z (oR Z (zR Z Z Z) (oM Z Z (oN Z (oN Z (oN Z (oN Z (oN Z (oN Z (oN Z (oN Z (oN Z (oN Z (oN Z (oN Z (oN Z (oN Z (oN Z (oN Z (oN Z (oN Z (oN Z (oN Z (ZG Z Z Z (zO Z Z Z Z) (oN Z (oR Z (zR Z Z Z) (eN (ZD Z (sR fL1 Z (oA Z Z (eN (zU (zN (zX (zN ?_)))))))))))))))))))))))))))))))))))))))))))))))))
 have q:=wAV Fb
 obtain ⟨GD,Fc,q8⟩:=q
 obtain rfl:=wAk a6 a7 (bd GD q8)
 refine zN (zX (zN ?_))
 have hE:=hD Fc;first | subst r | cases hE
 exact ⟨rfl,_,(ZL rfl),cE,_,(bN.pick [] _ (by decide) rfl),rfl,rfl⟩
 rintro ⟨GL,GM,GN⟩ Jn qd ⟨po,o7,qH,tU,HT,HU,HV,H6,Dc,H4⟩ DR
 have mV:=wCV a6 a7 DR
 try dsimp only at mV
 have qI:Hid (¬ ((↑((4:Int) - 0).toNat:Int) < 4)):=zS (wAh)
 refine sR fL1 Z (oR Z (zh Z tU Z) (eN (zM (cF Z qI (Zf (zx (zx (Zc (zL (sR (.fx 0 (.fl 1 .nil) .stop) Z (bnK mV fun I8 Ar Fd=>zE 0 Z Z Z Z (zD Z Z Try.call19 zK Z) Dc (fun hs=>wFJ qd po hs Ar) (.inr Z) ?_)))))))))))
 rintro ji Hf IN qe H7 Dd ⟨rfl,rfl⟩
 have De:sW w U ji [.blk ac 94 [.slice o7 GL.length qH,jV GM,.int .u32 GN],.blk ab 28 B6,B0] qe:=Dd
 refine oA Z Z (eN (zU ?_))
 have hE:=hD Fd;first | subst r | cases hE
 exact ⟨rfl,_,(ZL rfl),ji,_,(De.pick [] _ (by decide) rfl),rfl,rfl⟩
 intro gz Ff
 refine ZD (nF (gz.out)) (sR fL1 Z (oA Z Z (eN (zU (zN ?_)))))
 have hE:=hD Ff;first | subst r | cases hE
 exact ⟨rfl,_,(ZL rfl),eB,_,(io.pick [] _ (by decide) rfl),rfl,rfl⟩
 intro bn Fg
 refine zt Z Z Z (zO Z Z (nF (bn.out)) Z) (zt Z Z Z (zO Z Z (nF (bn.out)) Z) (zt Z Z Z (zO Z Z (nF (bn.out)) Z) (ZG Z Z Z (zO Z Z (nF (bn.out)) Z) (zt Z Z Z (zO Z Z (nF (bn.out)) Z) (oR Z (zR Z (nF (bn.out)) Z) (eN (ZD Z (sR fL1 Z (oA Z Z (eN (zU (zN ?_))))))))))))
 have hE:=hD Fg;first | subst r | cases hE
 exact ⟨rfl,_,(ZL rfl),dq,_,(cM.pick [] _ (by decide) rfl),rfl,rfl⟩
 intro cm Fh
 refine oT Z cm (oT Z cm (oR Z (zR Z (Zh cm.out) Z) (oM Z Z (oN Z (oN Z (oN Z (ZG Z Z Z (zO Z Z Z Z) (oN Z (oR Z (zR Z Z Z) (eN (ZD Z (sR fL1 Z (oA Z Z (eN (zU (zN ?_))))))))))))))))
 have hE:=hD Fh;first | subst r | cases hE
 exact ⟨rfl,_,(ZL rfl),dq,_,(cM.pick [] _ (by decide) rfl),rfl,rfl⟩
 intro cj Fi
 refine oT Z cj (oT Z cj (oR Z (zR Z (Zh cj.out) Z) (oM Z Z (oN Z (oN Z (oR Z (zR Z Z Z) (oM Z Z (oN Z (oN Z (oN Z (ZG Z Z Z (zO Z Z Z Z) (oN Z (oR Z (zR Z Z Z) (eN (ZD Z (sR fL1 Z (oA Z Z (eN (zU (zN ?_))))))))))))))))))))
 have hE:=hD Fi;first | subst r | cases hE
 exact ⟨rfl,_,(ZL rfl),dq,_,(cM.pick [] _ (by decide) rfl),rfl,rfl⟩
 intro ci Fj
 refine oT Z ci (oT Z ci (oR Z (zR Z (Zh ci.out) Z) (oM Z Z (oN Z (oN Z (oR Z (zR Z Z Z) (oM Z Z (oN Z (oN Z (oR Z (zR Z Z Z) (oM Z Z (oN Z (oN Z (oN Z (ZG Z Z Z (zO Z Z Z Z) (oN Z (oR Z (zR Z Z Z) (eN (ZD Z (sR fL1 Z (oA Z Z (eN (zU (zN ?_))))))))))))))))))))))))
 have hE:=hD Fj;first | subst r | cases hE
 exact ⟨rfl,_,(ZL rfl),dq,_,(cM.pick [] _ (by decide) rfl),rfl,rfl⟩
end Go.Proofs.Ytlnfbjphfoipaaa
