import Derived.Test.YtlnfbjphfoipaaaZ4
import Derived.Test.YtlnfbjphfoipaaaZ3
import Derived.Test.YtlnfbjphfoipaaaZ5
set_option linter.all false
open List renaming flatMap->hD,set->nB,getElem_cons_succ->nD,getElem_cons_zero->nE,getElem_toArray->nG,length_set->nH
open Go.Value renaming bool->hH
open Bool renaming eq_false_iff->hJ
open Option.some renaming inj->nA
open Int renaming toNat_natCast->nI
namespace Go.Proofs.Ytlnfbjphfoipaaa
open Go.KL
def gDq:Sch:=.fx 11 (.fx 12 .nil .stop) .stop
def gDr:Sch:=.fx 2 (.fl 3 .nil) .stop
def gDs:Sch:=.fl 0 (.fx 1 .nil .stop)
def gDt:Sch:=.fx 0 (.fl 1 .nil) .stop
def gDu:Sch:=.fx 1 (.fl 2 .nil) .stop
def gDv:Sch:=.fx 0 (.fx 1 .nil .stop) .stop
def gDw:Sch:=.fx 2 (.fx 3 (.fl 4 .nil) .stop) .stop
def gDx:Sch:=.fx 13 (.fl 14 (.fl 15 .nil)) .stop
def gDy:Sch:=.fx 0 (.fl 1 (.fl 2 .nil)) .stop
def gDz:Sch:=.fx 3 (.fl 4 (.fx 5 .nil .stop)) .stop
def gEa:Sch:=.fx 3 (.fl 4 (.fl 5 .nil)) .stop
def gEb:Sch:=.fx 0 gDu .stop
def gEc:Sch:=.fx 5 (.fl 6 (.fl 7 .nil)) .stop
def gEd:Sch:=.fx 14 (.fl 15 (.fl 16 .nil)) .stop
def gEe:Sch:=.fx 2 (.fl 3 (.fl 4 .nil)) .stop
def gEf:Sch:=.fx 10 (.fl 11 (.fl 12 .nil)) .stop
def gEg:Sch:=.fx 6 (.fx 7 (.fl 8 (.fl 9 .nil)) .stop) .stop
def gEh:Sch:=.fx 0 (.fx 1 gDr .stop) .stop
def gEi:Sch:=.fl 0 (.fl 1 (.fx 2 (.fx 3 .nil .stop) .stop))
def gEj:Sch:=.fl 0 (.fl 1 gDr)
def gEk:Sch:=.fl 0 (.fx 1 (.fl 2 (.fl 3 .nil)) .stop)
def gEl:Sch:=.fx 12 gDx .stop
def gEm:Sch:=.fx 3 (.fx 4 (.fx 5 (.fl 6 .nil) .stop) .stop) .stop
def gEn:Sch:=.fx 13 gEd .stop
def gEo:Sch:=.fx 6 (.fx 7 (.fx 8 (.fx 9 (.fl 10 .nil) .stop) .stop) .stop) .stop
def gEp:Sch:=.fx 0 (.fx 1 gEe .stop) .stop
def gEq:Sch:=.fx 5 (.fl 6 (.fx 7 (.fx 8 .nil .stop) .stop)) (.fx 7 (.fx 5 (.fl 6 (.fx 8 .nil .stop)) .stop) .stop)
def gEr:Sch:=.fl 0 (.fl 1 gEe)
def gEs:Sch:=.fl 0 (.fl 1 (.fx 2 gEm .stop))
def gEt:Sch:=.fl 0 (.fl 2 (.fx 1 gEm .stop))
def gEu:Sch:=.fl 0 (.fl 1 (.fl 3 (.fx 2 (.fx 4 (.fx 5 (.fx 6 (.fl 7 .nil) .stop) .stop) .stop) .stop)))
def gEv:Sch:=.fl 0 (.fl 1 (.fx 2 (.fl 3 (.fl 5 (.fl 6 (.fl 9 (.fl 10 (.fx 4 (.fl 7 (.fl 8 (.fx 11 (.fl 12 (.fl 13 .nil)) .stop))) .stop)))))) .stop))
set_option maxHeartbeats 4000000
theorem wDx (p0:wAY) (aj:Nat) (ao:Option Addr) (au:Nat) (ap:Option Addr) (av:Nat) (aq:Option Addr) (aw:Nat) (aP:Option Addr) (aS:Nat) (ab:Nat) (ac:Array MapEntry) (ae:Nat) (aQ:Option Addr) (aT:Nat) (p1:List Int) (aR:Option Addr) (aU:Nat) (w:World) (U:PHeap) (hS:St0 w U [.blk aj 124 [.slice ao p0.Race.Starts.length au,.slice ap p0.Race.Splits.length av,.slice aq p0.Race.Clocks.length aw,.slice aP p0.Race.Readings.length aS,.map (some ab),.slice aQ p0.edges.length aT],.obj ab (.map ac ae)]) (fH:Sl U 1 ao au p0.Race.Starts.length (hD KL.encI p0.Race.Starts)) (fI:Sl U 2 ap av p0.Race.Splits.length (hD wAG p0.Race.Splits)) (fJ:Sl U 3 aq aw p0.Race.Clocks.length (hD wAA p0.Race.Clocks)) (fK:Sl U 4 aP aS p0.Race.Readings.length (hD wAB p0.Race.Readings)) (cp:MpR ac wBB wBC p0.number) (fL:Sl U 7 aQ aT p0.edges.length (hD wAP p0.edges)) (bm:Sl U 1 aR aU p1.length (hD KL.encI p1)) {r:(List (List Int)) × (List Int)} (hm:wBp p0 p1=some r):Gv Try.prog 58 [.pointer (some ⟨aj,0,none⟩),.slice aR p1.length aU] w (wCB w [.blk aj 124 [.slice ao p0.Race.Starts.length au,.slice ap p0.Race.Splits.length av,.slice aq p0.Race.Clocks.length aw,.slice aP p0.Race.Readings.length aS,.map (some ab),.slice aQ p0.edges.length aT],.obj ab (.map ac ae)] U (fun U_ L_ v=>∃ (A0:Option Addr) (c0:Nat) (bQ:List Value) (A1:Option Addr) (c1:Nat),v=.tuple #[.slice A0 r.1.length c0,.slice A1 r.2.length c1]/\L_=[.row A0 c0 23 1 bQ,.row A1 c1 3 1 (hD KL.encI r.2),.blk aj 124 [.slice ao p0.Race.Starts.length au,.slice ap p0.Race.Splits.length av,.slice aq p0.Race.Clocks.length aw,.slice aP p0.Race.Readings.length aS,.map (some ab),.slice aQ p0.edges.length aT],.obj ab (.map ac ae)]/\RlL U_ wHb r.1 bQ)):=by
 unfold wBp at hm
 refine Gv.of Try.func58 Z Try.ntmps58 Try.results58 Z (sR fL2 Z (oA Z Z (oA Z Z (eN (sR fL4 Z (oM Z Z (bnK hm fun x3 h4 eV=>?_)))))))
 have q:=bm.el (fun _=>rfl) (wAW h4)
 obtain ⟨b6,fO,dQ,dT⟩:=q
 refine oR Z (Zi Z Z dQ Z zH zC (wBi h4)) (oL Z (hS.ldC (f:=0) dT (v:=jV x3) Z Z zG Z) (oA Z Z (eN (sR fL1 Z (oA Z Z (eN (zM (sR fL7 Z (oM Z Z (oR Z (Za Z Z) (oR Z (zJ Z Z ZF Z zZ) (oR Z (zJ Z Z zQ Z zq) (oL Z (hS.ldB (j:=0) Z Z Z zy (v:=.slice ao p0.Race.Starts.length au) Z) (oR Z (zz Z Z zH) (oM Z Z (eN (zc (bnK eV fun fj ey eU=>?_))))))))))))))))))
 have q:=wBn ey
 obtain ⟨br,eA⟩:=q
 replace br:=zS br
 let B0:Res:=.blk aj 124 [.slice ao p0.Race.Starts.length au,.slice ap p0.Race.Splits.length av,.slice aq p0.Race.Clocks.length aw,.slice aP p0.Race.Readings.length aS,.map (some ab),.slice aQ p0.edges.length aT]
 refine CK.forN' (fun ah aN σ_ w_=>∃ (U_:PHeap) (az:Option Addr) (aL:Nat) (a7:List Value),σ_ 22=jV (↑ah:Int)/\σ_ 0=.pointer (some ⟨aj,0,none⟩)/\σ_ 1=.slice aR p1.length aU/\σ_ 6=jV x3/\σ_ 7=.slice az aN.length aL/\σ_ 21=jV (↑p0.Race.Starts.length:Int)/\PHeap.Le U U_/\SW w [B0,.obj ab (.map ac ae)] U U_ [B0,.obj ab (.map ac ae),.row az aL 23 1 a7] w_/\RlL U_ wHb aN a7) eA ?_ ?_ ?_
 have ep:=hS.nilrow 23 1
 exact ⟨U,none,0,[],rfl,rfl,rfl,rfl,rfl,rfl,(zW _),(ep.pick [1,2,0] _ (by decide) rfl),RlL.nil⟩
 rintro ah aN fR f4 fu bo ⟨bE,az,aL,a7,bf,bZ,dn,dp,dq,ca,cx,co,dN⟩ fb
 have bP:Hid ((↑ah:Int) < (↑p0.Race.Starts.length:Int)):=zS (wBD bo)
 replace bo:=zS bo
 have eH:Hid (w64 ((↑ah:Int) + 1)=(↑(ah + 1):Int)):=zS (by have h1:=br.out;have h2:=bP.out;rw [wAU] <;> omega)
 refine sR fL1 Z (oR Z (zh Z bf ca) (eN (zM (cT Z bP (kN (zM (zc (sR fL2 Z (oM Z bf (oA Z Z (eN (sR fL1 Z (oA Z Z (eN (zM (sR fL8 Z (oM Z bZ (oR Z (Za Z Z) (oR Z (zJ Z Z ZF Z zZ) (oR Z (zJ Z Z zQ Z yE) (oL Z (co.ldB (j:=0) Z Z Z yS (v:=.slice ap p0.Race.Splits.length av) Z) (oR Z (zz Z Z ZQ) (oR Z (zf Z Z Z) (oM Z Z (eN (zc (bnK fb fun am eB eW=>?_)))))))))))))))))))))))))))
 have q:=wBn eB
 obtain ⟨bs,eD⟩:=q
 replace bs:=zS bs
 let B1:Res:=.row az aL 23 1 a7
 refine CK.forN' (fun ai aO σ_ w_=>∃ (U_:PHeap) (aW:Option Addr) (a6:Nat),σ_ 32=jV (↑ai:Int)/\σ_ 0=.pointer (some ⟨aj,0,none⟩)/\σ_ 1=.slice aR p1.length aU/\σ_ 6=jV x3/\σ_ 7=.slice az aN.length aL/\σ_ 8=jV (↑ah:Int)/\σ_ 9=.slice aW aO.length a6/\σ_ 21=jV (↑p0.Race.Starts.length:Int)/\σ_ 22=jV (↑ah:Int)/\σ_ 31=jV (w64 ((↑p0.Race.Splits.length:Int) + 1))/\PHeap.Le bE U_/\SW w [B0,.obj ab (.map ac ae)] U U_ [B0,.obj ab (.map ac ae),B1,.row aW a6 3 1 (hD KL.encI aO)] w_) eD ?_ ?_ ?_
 have er:=co.nilrow 3 1
 exact ⟨bE,none,0,rfl,bZ,dn,dp,dq,rfl,rfl,ca,bf,rfl,(zW _),(er.pick [1,2,3,0] _ (by decide) rfl)⟩
 rintro ai aO fS f5 fw bp ⟨bb,aW,a6,bg,cb,cc,cd,dr,cf,dt,du,dv,bS,cy,a8⟩ fc
 have bI:Hid ((↑ai:Int) < (w64 ((↑p0.Race.Splits.length:Int) + 1))):=zS (wBD bp)
 replace bp:=zS bp
 have eE:Hid (w64 ((↑ai:Int) + 1)=(↑(ai + 1):Int)):=zS (by have h1:=bs.out;have h2:=bI.out;rw [wAU] <;> omega)
 refine sR fL1 Z (oR Z (zh Z bg bS) (eN (zM (cT Z bI (kN (zM (zc (sR fL2 Z (oM Z bg (oA Z Z (eN (rR (wNA (.fx 14 (.fx 15 (.fl 16 .nil) .stop) .stop)) Z (oM Z dt (oM Z cc (oM Z cb (oR Z (Za Z Z) (oR Z (zJ Z Z ZF Z Zs) (oL Z (a8.ldB (j:=0) Z Z Z Zx (v:=.map (some ab)) Z) (oM Z cf (oM Z Z (oR Z (zo (pv:=[(0,jV (↑ah:Int)),(1,jV (↑ai:Int))]) (z:=[jV 0,jV 0]) (cs:=[jV (↑ah:Int),jV (↑ai:Int)]) Z (wAF Z (wAF Z wAO)) za wBa Z Z) (oL Z (a8.lookup1 (j:=1) (mk:=wBB) (mv:=wBC) (a:=(⟨(↑ah:Int),(↑ai:Int)⟩:wAH)) (z:=0) Z Z Z Z (wBV ZI) wCH zw cp) (bnK fc fun ax bh eI=>?_)))))))))))))))))))))))
 have dA:=bm.le cx
 have dB:=dA.le cy
 have q:=dB.el (fun _=>rfl) (wAW bh)
 obtain ⟨fy,fM,dO,dR⟩:=q
 refine oR Z (ZO Z Z dO Z zH zC (wBJ bh) (wBL bh)) (oL Z (a8.ldC (f:=0) dR (v:=jV ax) Z Z zG Z) (oM Z cd (oR Z (yH Z Z Z) (ZE (pv:=[(0,jV (w64 (ax - x3)))]) (zs:=[jV 0]) (cs:=[jV (w64 (ax - x3))]) Z Z Z Z Z (wAF Z wAO) zH zC zw Z Z Z Z Z a8 ?_))))
 intro cE cO dU
 let B2:Res:=.row (some ⟨cO,0,none⟩) 1 3 1 (hD KL.encI [w64 (ax - x3)])
 have ci:SW w [B0,.obj ab (.map ac ae)] U bb [B2,B0,.obj ab (.map ac ae),B1,.row aW a6 3 1 (hD KL.encI aO)] cE:=dU
 refine bnK eI fun cz dC eJ=>yP (j:=4) (enc:=KL.encI) (xs:=aO) (ys:=[w64 (ax - x3)]) (zs:=cz) rfl rfl rfl rfl rfl yr wIe rfl rfl rfl rfl rfl rfl ci rfl rfl rfl (ci.srcR (j:=0) rfl (by decide) (wAE (f:=KL.encI) (sz:=1) (fun _=>rfl) [w64 (ax - x3)])) (fun _=>rfl) (fun _=>rfl) dC rfl ?_
 intro bv bJ cG dV
 have dW:SW w [B0,.obj ab (.map ac ae)] U bb [B2,B0,.obj ab (.map ac ae),B1,.row bv bJ 3 1 (hD KL.encI cz)] cG:=dV
 refine oA Z Z (zg (ZH (zL (rR fL2 Z (oR Z (ZS (zf Z bg Z) (congrArg (jV) eE.out)) (oM Z Z (zg ?_)))))))
 cases eJ
 exact zL ⟨rfl,⟨bb,bv,bJ,rfl,cb,cc,cd,dr,cf,rfl,du,dv,bS,cy,(dW.pick [1,2,3,4] _ (by decide) rfl)⟩⟩
 rintro fU cH ⟨fm,a9,bc,dw,cW,cX,cY,cZ,fB,c6,c8,da,db,cr,dX⟩
 have cR:Hid (¬ ((↑((w64 ((↑p0.Race.Splits.length:Int) + 1):Int) - 0).toNat:Int) < (w64 ((↑p0.Race.Splits.length:Int) + 1)))):=zS (wAh)
 refine sR fL1 Z (oR Z (zh Z dw db) (eN (zM (cF Z cR (Zf (zx (zx (Zc (zL (rR (.fl 0 (.fl 1 gDw)) Z (oM Z cZ (oM Z c6 ?_))))))))))))
 have q:=dX.freezeR (k:=3) (n:=am.length) rfl (wAE (f:=KL.encI) (sz:=1) (fun _=>rfl) am) (by decide)
 obtain ⟨aK,ct,eY,dZ⟩:=q
 have d7:SW w [B0,.obj ab (.map ac ae)] U aK [B0,.obj ab (.map ac ae),B1] cH:=dZ
 let B3:List Value:=[.slice a9 am.length bc]
 refine ZE (pv:=[(0,.slice a9 am.length bc)]) (zs:=[.slice none 0 0]) (cs:=B3) Z Z Z Z Z (wAF Z wAO) Zg zq Try.zeroValue23 Z Z Z Z Z d7 ?_
 intro cI cP dY
 have cq:RlL aK wHb [am] B3:=(RlL.cons (R:=wHb) (x:=am) (vs:=B3) ⟨a9,bc,rfl,eY⟩ RlL.nil)
 let B4:Res:=.row (some ⟨cP,0,none⟩) 1 23 1 B3
 have cj:SW w [B0,.obj ab (.map ac ae)] U aK [B4,B0,.obj ab (.map ac ae),B1] cI:=dY
 refine bnK eW fun fg dD eK=>?_
 have dE:=dN.le cr
 have dF:=dE.le ct
 refine OKS.appendR (R:=wHb) (j:=3) (xs:=aN) (ys:=[am]) (zs:=fg) rfl rfl rfl rfl rfl Try.underlying29 wLN rfl rfl rfl rfl rfl rfl rfl cj rfl rfl rfl dF cq (cj.srcR (j:=0) rfl (by decide) (RlL.len cq)) dD rfl ?_
 intro bw bK bR cJ d9 eX
 have ec:SW w [B0,.obj ab (.map ac ae)] U aK [B4,B0,.obj ab (.map ac ae),.row bw bK 23 1 bR] cJ:=d9
 refine oA Z Z (zg (ZH (zL (rR fL2 Z (oR Z (ZS (zf Z da Z) (congrArg (jV) eH.out)) (oM Z Z (zg ?_)))))))
 cases eK
 exact zL ⟨rfl,⟨aK,bw,bK,bR,rfl,cW,cX,cY,rfl,c8,((cx.trans cr).trans ct),(ec.pick [1,2,3] _ (by decide) rfl),eX⟩⟩
 rintro fW fq ⟨bD,ba,bd,bL,dx,bU,dd,de,df,dg,fd,cm,dG⟩
 have cS:Hid (¬ ((↑(((↑p0.Race.Starts.length:Int):Int) - 0).toNat:Int) < (↑p0.Race.Starts.length:Int))):=zS (wAh)
 refine sR fL1 Z (oR Z (zh Z dx dg) (eN (zM (cF Z cS (Zf (zx (zx (Zc (zL (sR fL1 Z (oA Z Z (eN (zM (sR fL7 Z (oM Z bU (oR Z (Za Z Z) (oR Z (zJ Z Z ZF Z zZ) (oR Z (zJ Z Z zQ Z Zm) (oL Z (cm.ldB (j:=0) Z Z Z yA (v:=.slice aq p0.Race.Clocks.length aw) Z) (oR Z (zz Z Z ZR) (oM Z Z (eN (zc (bnK eU fun fT eu eL=>?_))))))))))))))))))))))))
 have q:=wBn eu
 obtain ⟨bq,ew⟩:=q
 replace bq:=zS bq
 let B5:Res:=.row ba bd 23 1 bL
 refine CK.forN' (fun an aM σ_ w_=>∃ (U_:PHeap) (aV:Option Addr) (a5:Nat),σ_ 63=jV (↑an:Int)/\σ_ 0=.pointer (some ⟨aj,0,none⟩)/\σ_ 1=.slice aR p1.length aU/\σ_ 6=jV x3/\σ_ 7=.slice ba fj.length bd/\σ_ 11=.slice aV aM.length a5/\σ_ 62=jV (↑p0.Race.Clocks.length:Int)/\PHeap.Le bD U_/\SW w [B0,.obj ab (.map ac ae)] U U_ [B0,.obj ab (.map ac ae),B5,.row aV a5 3 1 (hD KL.encI aM)] w_) ew ?_ ?_ ?_
 have ef:=cm.nilrow 3 1
 exact ⟨bD,none,0,rfl,bU,dd,de,df,rfl,rfl,(zW _),(ef.pick [1,2,3,0] _ (by decide) rfl)⟩
 rintro an aM fQ fY bF bn ⟨cC,aV,a5,be,bV,bW,bX,dh,di,bY,cu,eg⟩ eZ
 have bM:Hid ((↑an:Int) < (↑p0.Race.Clocks.length:Int)):=zS (wBD bn)
 replace bn:=zS bn
 have eG:Hid (w64 ((↑an:Int) + 1)=(↑(an + 1):Int)):=zS (by have h1:=bq.out;have h2:=bM.out;rw [wAU] <;> omega)
 refine sR fL1 rfl (zY rfl rfl rfl rfl (fun _=>zh rfl be bY) (eN (zM (cT Z bM (kN (zM (zc (sR fL2 rfl (zr rfl rfl rfl rfl rfl be (yD rfl rfl rfl rfl rfl rfl (eN (ZA ZB [3,3,3,3,3,3,1,3,2,1,3,1,3,2,0,3] (wMC (.fx 8 (wEe (.fx 13 (.fx 14 (.fl 15 .nil) .stop) .stop)) .stop)) (by kernel_rfl) ?_))))))))))))
 have bj:=eg.drew
 generalize hw_W242:({ bF with drawn:=bF.drawn + 1 }:World)=cK at bj ⊢
 refine oM Z di (oM Z bX (oM Z bW (oM Z bV (oR Z (Za Z Z) (oR Z (zJ Z Z ZF Z Zs) (oL Z (bj.ldB (j:=0) Z Z Z Zx (v:=.map (some ab)) Z) (oM Z Z (bnK eZ fun fh dH eM=>zE 0 Z Z Z Z (zD Z Z Try.call82 (zB Z zK) Z) bj (fun hs=>wBx (↑an:Int) cK cC hs dH) (.inr Z) ?_))))))))
 rintro aZ fk fP cL cw eh ⟨rfl,rfl⟩
 let B6:Res:=.row aV a5 3 1 (hD KL.encI aM)
 have bk:SW w [B0,.obj ab (.map ac ae)] U aZ [B0,.obj ab (.map ac ae),B5,B6] cL:=eh
 refine oL Z (bk.lookup1 (j:=1) (mk:=wBB) (mv:=wBC) (a:=fh) (z:=0) Z Z Z Z (wBV ZI) wCH zw cp) (bnK eM fun ay bi eO=>?_)
 have dI:=bm.le fd
 have dJ:=dI.le cu
 have dK:=dJ.le cw
 have q:=dK.el (fun _=>rfl) (wAW bi)
 obtain ⟨fz,fN,dP,dS⟩:=q
 refine oR Z (ZO Z Z dP Z zH zC (wBJ bi) (wBL bi)) (oL Z (bk.ldC (f:=0) dS (v:=jV ay) Z Z zG Z) (oR Z (yH Z Z Z) (ZE (pv:=[(0,jV (w64 (x3 - ay)))]) (zs:=[jV 0]) (cs:=[jV (w64 (x3 - ay))]) Z Z Z Z Z (wAF Z wAO) zH zC zw Z Z Z Z Z bk ?_)))
 intro cM cQ ej
 let B7:Res:=.row (some ⟨cQ,0,none⟩) 1 3 1 (hD KL.encI [w64 (x3 - ay)])
 have cn:SW w [B0,.obj ab (.map ac ae)] U aZ [B7,B0,.obj ab (.map ac ae),B5,B6] cM:=ej
 refine bnK eO fun cA dL eQ=>yP (j:=4) (enc:=KL.encI) (xs:=aM) (ys:=[w64 (x3 - ay)]) (zs:=cA) rfl rfl rfl rfl rfl yr wIe rfl rfl rfl rfl rfl rfl cn rfl rfl rfl (cn.srcR (j:=0) rfl (by decide) (wAE (f:=KL.encI) (sz:=1) (fun _=>rfl) [w64 (x3 - ay)])) (fun _=>rfl) (fun _=>rfl) dL rfl ?_
 intro bx bN cN ek
 have en:SW w [B0,.obj ab (.map ac ae)] U aZ [B7,B0,.obj ab (.map ac ae),B5,.row bx bN 3 1 (hD KL.encI cA)] cN:=ek
 refine oA Z Z (zg (ZH (zL (rR fL2 Z (oR Z (ZS (zf Z be Z) (congrArg (jV) eG.out)) (oM Z Z (zg ?_)))))))
 cases eQ
 exact zL ⟨rfl,⟨aZ,bx,bN,rfl,bV,bW,bX,dh,rfl,bY,(cu.trans cw),(en.pick [1,2,3,4] _ (by decide) rfl)⟩⟩
 rintro fZ ft ⟨cD,cB,cU,dz,fC,fD,fG,dk,dl,dm,ff,eo⟩
 have cV:Hid (¬ ((↑(((↑p0.Race.Clocks.length:Int):Int) - 0).toNat:Int) < (↑p0.Race.Clocks.length:Int))):=zS (wAh)
 refine sR fL1 Z (oR Z (zh Z dz dm) (eN (zM (cF Z cV (Zf (zx (zx (Zc (zL (sR fL4 Z (oM Z dk (oM Z dl (oA Z Z (oA Z Z (eN (zU ?_))))))))))))))))
 have dM:=dG.le ff
 cases eL
 exact ⟨rfl,_,(wDv rfl rfl),cD,_,(eo.pick [2,3,0,1] _ (by decide) rfl),ba,bd,bL,cB,cU,rfl,rfl,dM⟩
theorem wGE (p0:wAC) (aM:Option Addr) (aQ:Nat) (aN:Option Addr) (aR:Nat) (aO:Option Addr) (aS:Nat) (aP:Option Addr) (aT:Nat) (w:World) (U:PHeap) (hS:St0 w U []) (cD:Sl U 1 aM aQ p0.Starts.length (hD KL.encI p0.Starts)) (cE:Sl U 2 aN aR p0.Splits.length (hD wAG p0.Splits)) (cG:Sl U 3 aO aS p0.Clocks.length (hD wAA p0.Clocks)) (cH:Sl U 4 aP aT p0.Readings.length (hD wAB p0.Readings)) {r:(List (List Int)) × (List Int) × Int} (hm:wCp p0=some r):Gv Try.prog 27 [.agg #[.slice aM p0.Starts.length aQ,.slice aN p0.Splits.length aR,.slice aO p0.Clocks.length aS,.slice aP p0.Readings.length aT]] w (wCB w [] U (fun U_ L_ v=>∃ (A0:Option Addr) (c0:Nat) (bs:List Value) (A1:Option Addr) (c1:Nat),v=.tuple #[.slice A0 r.1.length c0,.slice A1 r.2.1.length c1,jV r.2.2]/\L_=[.row A0 c0 23 1 bs,.row A1 c1 3 1 (hD KL.encI r.2.1)]/\RlL U_ wHb r.1 bs)):=by
 unfold wCp at hm
 refine Gv.of Try.func27 Z Try.ntmps27 Try.results27 Z (sR (.fx 0 (fC1_3 (.nil)) .stop) Z ?_)
 let B0:List Value:=[.slice aM p0.Starts.length aQ,.slice aN p0.Splits.length aR,.slice aO p0.Clocks.length aS,.slice aP p0.Readings.length aT]
 refine zu (cs:=B0) rfl rfl rfl rfl rfl rfl (by rfl) hS ?_
 intro W1 b2 bB
 refine oA Z Z (oA Z Z (oA Z Z (eN (sR (.fl 0 (.fx 1 (wGM (.nil)) .stop)) Z (oL Z (bB.ldBA (j:=0) Z Z Z ze zZ (vs:=B0) Z Z) ?_)))))
 have q:=bnd hm
 obtain ⟨⟨x5,x6⟩,h7,ap⟩:=q
 try dsimp only at ap
 refine zE 0 Z Z Z Z (zD Z Z Try.call60 (zB Z zK) Z) bB (fun hs=>wDK p0 aM aQ aN aR aO aS aP aT W1 U hs cD cE cG cH h7) (.inr Z) ?_
 rintro U9 cU c8 ax cZ bA bz
 rcases x5 with _ | ae
 try dsimp only at ap
 obtain ⟨rfl,rfl⟩:=bz
 have cq:sW w U U9 [.blk b2 28 B0] ax:=bA
 refine oM Z Z (oR Z (zP Z Z (v:=.pointer none) Z) (oR Z (zP Z Z (v:=jV x6) Z) (oA Z Z (oA Z Z (eN (zM (sR fL2 Z (oM Z Z (oR Z (ZN Z Z Z) (eN (ifc ap ?_ ?_)))))))))))
 intro be cK
 refine zn (zd (fun h=>h be.out)) (kN (sR (.fl 0 (.fx 1 (wKX gEg) .stop)) Z (oM Z Z ?_)))
 cases cK
 intro be cL
 refine cT Z be (sR fL4 Z (oM Z Z (oA Z Z (oA Z Z (oA Z Z (eN (zU (zN ?_))))))))
 have cr:=cq.nilrow 23 1
 have ct:=cr.nilrow 3 1
 cases cL
 exact ⟨rfl,_,(wLF rfl rfl rfl),U9,_,(ct.pick [1,0] _ (by decide) rfl),none,0,[],none,0,rfl,rfl,RlL.nil⟩
 try dsimp only at ap
 obtain ⟨az,aW,ba,aX,bb,aY,bc,aZ,bd,ac,ah,ag,av,aK,rfl,rfl,bP,bQ,bR,bS,bt⟩:=bz
 let B1:Res:=.blk az 124 [.slice aW ae.Race.Starts.length ba,.slice aX ae.Race.Splits.length bb,.slice aY ae.Race.Clocks.length bc,.slice aZ ae.Race.Readings.length bd,.map (some ac),.slice av ae.edges.length aK]
 have bC:sW w U U9 [B1,.obj ac (.map ah ag),.row av aK 130 7 (hD wAP ae.edges),.blk b2 28 B0] ax:=bA
 refine oM Z Z (oR Z (zP Z Z (v:=.pointer (some ⟨az,0,none⟩)) Z) (oR Z (zP Z Z (v:=jV x6) Z) (oA Z Z (oA Z Z (eN (zM (sR fL2 Z (oM Z Z (oR Z (ZN Z Z Z) (eN (ifc ap ?_ ?_)))))))))))
 intro bf cM
 refine zn (zd (fun h=>h bf.out)) (kN (sR (.fl 0 (.fx 1 (wKX gEg) .stop)) Z (oM Z Z ?_)))
 have q:=bC.freezeR (k:=2) (n:=ae.edges.length) rfl (wAE (f:=wAP) (sz:=7) (fun _=>rfl) ae.edges) (by decide)
 obtain ⟨bo,aL,bF,cu⟩:=q
 have cw:sW w U bo [B1,.obj ac (.map ah ag),.blk b2 28 B0] ax:=cu
 have bu:=bP.le aL
 have bv:=bQ.le aL
 have bw:=bR.le aL
 have bx:=bS.le aL
 have q:=bnd cM
 obtain ⟨⟨af,cR,cS⟩,bU,bE⟩:=q
 try dsimp only at bE
 refine zE 2 Z Z Z Z (zD Z Z ye (zB Z (zB Z (zB Z zK))) Z) cw (fun hs=>wAb ae az aW ba aX bb aY bc aZ bd ac ah ag av aK (-1) false ax bo hs bu bv bw bx bt bF bU) (.inl Z) ?_
 rintro a6 cW da bK aq cx ⟨ak,ao,a5,bg,rfl,rfl⟩
 let B2:Res:=.row a5 bg 3 1 (hD KL.encI af.by_)
 let B3:Res:=.row ak ao 3 1 (hD KL.encI af.far)
 have cy:sW w U a6 [B3,B2,B1,.obj ac (.map ah ag),.blk b2 28 B0] bK:=cx
 refine oM Z Z (oR Z (zP Z Z (v:=.agg #[.slice ak af.far.length ao,.slice a5 af.by_.length bg]) Z) (oR Z (zP Z Z (v:=jV cR) Z) (oR Z (zP Z Z (v:=.bool cS) Z) (zT (cs:=[.slice none 0 0,.slice none 0 0]) Z Z Z Z Z Zd Z cy ?_))))
 intro cX aJ cz
 let B4:List Value:=[.slice ak af.far.length ao,.slice a5 af.by_.length bg]
 refine zV (j:=0) (vs:=B4) Z Z Z Z cz Z Z Z Z Zj (zA Z) Z Z Z ?_
 intro ay cA
 have bi:sW w U a6 [.blk aJ 118 B4,B3,B2,B1,.obj ac (.map ah ag),.blk b2 28 B0] ay:=cA
 refine oA Z Z (oA Z Z (eN (zM (sR fL2 Z (oM Z Z (oR Z (ZT Z Z) (eN (ifc bE ?_ ?_))))))))
 intro bh cN
 refine zn (nC bh.out) (kN (sR (wCa (.fx 3 (wJA (.nil)) .stop)) Z (oM Z Z (oR Z (zJ Z Z ZV Z zq) (oL Z (bi.ldB (j:=0) Z Z Z zy (v:=.slice ak af.far.length ao) Z) ?_)))))
 have q:=bi.freezeR (k:=1) (n:=af.far.length) rfl (wAE (f:=KL.encI) (sz:=1) (fun _=>rfl) af.far) (by decide)
 obtain ⟨a7,au,cO,cB⟩:=q
 have cC:sW w U a7 [.blk aJ 118 B4,B2,B1,.obj ac (.map ah ag),.blk b2 28 B0] ay:=cB
 have bW:=bu.le aq
 have bX:=bW.le au
 have bY:=bv.le aq
 have bZ:=bY.le au
 have ca:=bw.le aq
 have cb:=ca.le au
 have cc:=bx.le aq
 have cd:=cc.le au
 have cf:=bF.le aq
 have bL:=cf.le au
 have q:=bnd cN
 obtain ⟨⟨cP,bG⟩,bM,bD⟩:=q
 try dsimp only at bD
 have cg:sW w U a7 [B1,.obj ac (.map ah ag),.blk aJ 118 B4,B2,.blk b2 28 B0] ay:=cC.pick [2,3,0,1,4] _ (by decide) rfl
 refine zE 2 Z Z Z Z (zD Z Z Try.call58 (zB Z (zB Z zK)) Z) cg (fun hs=>wDx ae az aW ba aX bb aY bc aZ bd ac ah ag av aK af.far ak ao ay a7 hs bX bZ cb cd bt bL cO bM) (.inl Z) ?_
 rintro bn cV c6 bJ cY ci ⟨aU,a8,br,aV,a9,rfl,rfl,bN⟩
 have cj:sW w U bn [.row aU a8 23 1 br,.row aV a9 3 1 (hD KL.encI bG),B1,.obj ac (.map ah ag),.blk aJ 118 B4,B2,.blk b2 28 B0] bJ:=ci
 refine oM Z Z (oR Z (zP Z Z (v:=.slice aU cP.length a8) Z) (oR Z (zP Z Z (v:=.slice aV bG.length a9) Z) (oA Z Z (oA Z Z (eN (sR fL5 Z (oM Z Z (oM Z Z (oA Z Z (oA Z Z (oA Z Z (eN (zU ?_)))))))))))))
 cases bD
 exact ⟨rfl,_,(wLF rfl rfl rfl),bn,_,(cj.pick [0,1] _ (by decide) rfl),aU,a8,br,aV,a9,rfl,rfl,bN⟩
 intro bh cI
 refine ZD (nF (bh.out)) (sR fL3 Z (oA Z Z (oA Z Z (oA Z Z (eN (zU (zN ?_)))))))
 have cm:=bi.nilrow 23 1
 have cn:=cm.nilrow 3 1
 cases cI
 exact ⟨rfl,_,(wLF rfl rfl rfl),a6,_,(cn.pick [1,0] _ (by decide) rfl),none,0,[],none,0,rfl,rfl,RlL.nil⟩
 intro bf cJ
 refine cT Z bf (sR fL4 Z (oM Z Z (oA Z Z (oA Z Z (oA Z Z (eN (zU (zN ?_))))))))
 have co:=bC.nilrow 23 1
 have cp:=co.nilrow 3 1
 cases cJ
 exact ⟨rfl,_,(wLF rfl rfl rfl),U9,_,(cp.pick [1,0] _ (by decide) rfl),none,0,[],none,0,rfl,rfl,RlL.nil⟩
theorem wHB (p0:Int) (p1:Int) (ac:Nat) (w:World) (U:PHeap) (hS:St0 w U []) (ae:Cl U ac 0 [jV p1]) {r:Bool} (hm:wCz p0 p1=some r):Gv Try.prog 62 [jV p0,.pointer (some ⟨ac,0,none⟩)] w (wCB w [] U (fun U_ L_ v=>v=.bool r/\L_=[])):=by
 unfold wCz at hm
 refine Gv.of Try.func62 Z Try.ntmps62 Try.results62 Z (sR fL1 Z (oA Z Z (eN (sR fL4 Z (oM Z Z (oL Z (hS.ldC (f:=0) ae (v:=jV p1) Z Z zG Z) (oR Z (yO Z Z Z) (oA Z Z (eN (zU ?_))))))))))
 first | (obtain rfl:=nA hm) | cases hm
 exact ⟨Z,_,(ZL Z),U,_,hS,Z,Z⟩
theorem wFR (n_:Nat):∀ (p0:Int) (p1:wAe) (au:Nat) (aR:Option Addr) (aW:Nat) (az:Option Addr) (aK:Nat) (p2:List wAD) (ag:Nat) (ak:Option Addr) (am:Nat) (p3:(Int->Option Bool)) (aJ:Nat) (aQ:Value) (p4:wAY) (av:Nat) (aP:Nat) (aS:Option Addr) (aX:Nat) (aT:Option Addr) (aY:Nat) (aU:Option Addr) (aZ:Nat) (aV:Option Addr) (a5:Nat) (a6:Nat) (bs:Array MapEntry) (bt:Nat) (aN:Option Addr) (aO:Nat) (p5:Unit) (aw:Nat) (w:World) (U:PHeap) (hS:St0 w U [.blk ag 69 [.slice ak p2.length am],.row ak am 78 4 (hD wAQ p2)]) (bn:Cl U au 0 [.slice aR p1.far.length aW,.slice az p1.by_.length aK]) (bK:Sl U 1 aR aW p1.far.length (hD KL.encI p1.far)) (bo:Sl U 1 az aK p1.by_.length (hD KL.encI p1.by_)) (bp:Cl U aJ 0 [aQ]) (bq:FnOK Try.prog U aQ wKB wKC p3) (bQ:Cl U av 0 [.pointer (some ⟨aP,0,none⟩)]) (bR:Cl U aP 0 [.slice aS p4.Race.Starts.length aX,.slice aT p4.Race.Splits.length aY,.slice aU p4.Race.Clocks.length aZ,.slice aV p4.Race.Readings.length a5,.map (some a6),.slice aN p4.edges.length aO]) (bS:Sl U 1 aS aX p4.Race.Starts.length (hD KL.encI p4.Race.Starts)) (bU:Sl U 2 aT aY p4.Race.Splits.length (hD wAG p4.Race.Splits)) (bV:Sl U 3 aU aZ p4.Race.Clocks.length (hD wAA p4.Race.Clocks)) (bL:Sl U 4 aV a5 p4.Race.Readings.length (hD wAB p4.Race.Readings)) (bM:MpF U a6 bs bt wBB wBC p4.number) (bN:Sl U 7 aN aO p4.edges.length (hD wAP p4.edges)) (bP:Cl U aw 0 [.func (.func 90) #[] #[.pointer (some ⟨au,0,none⟩),.pointer (some ⟨ag,0,none⟩),.pointer (some ⟨aJ,0,none⟩),.pointer (some ⟨av,0,none⟩),.pointer (some ⟨aw,0,none⟩)]]) {r:(List wAD)} (hm:wCD n_ p0 p1 p2 p3 p4 p5=some r),Gv Try.prog 90 [jV p0,.pointer (some ⟨au,0,none⟩),.pointer (some ⟨ag,0,none⟩),.pointer (some ⟨aJ,0,none⟩),.pointer (some ⟨av,0,none⟩),.pointer (some ⟨aw,0,none⟩)] w (wCB w [.blk ag 69 [.slice ak p2.length am],.row ak am 78 4 (hD wAQ p2)] U (fun U_ L_ v=>∃ (bu:Option Addr) (bz:Nat),v=.tuple #[]/\L_=[.row bu bz 78 4 (hD wAQ r),.blk ag 69 [.slice bu r.length bz]])):=by
 induction n_ with
 | zero =>
  intros
  rename_i hm
  have cR:(none:Option ((List wAD)))=some _:=hm
  cases cR
 | succ n_ ih =>
  intro p0 p1 au aR aW az aK p2 ag ak am p3 aJ aQ p4 av aP aS aX aT aY aU aZ aV a5 a6 bs bt aN aO p5 aw w U hS bn bK bo bp bq bQ bR bS bU bV bL bM bN bP r hm
  have hm:wBF (wCD n_) p0 p1 p2 p3 p4 p5=some r:=hm
  unfold wBF at hm
  refine Gv.of Try.func90 Z Try.ntmps90 Try.results90 Z (zM (bnK hm fun b3 df da=>?_))
  let B0:Res:=.row ak am 78 4 (hD wAQ p2)
  let B1:Res:=.blk ag 69 [.slice ak p2.length am]
  refine yN (fun σ_ w_=>∃ (U_:PHeap),σ_ 0=jV p0/\σ_ 1=.pointer (some ⟨au,0,none⟩)/\σ_ 2=.pointer (some ⟨ag,0,none⟩)/\σ_ 4=.pointer (some ⟨av,0,none⟩)/\σ_ 5=.pointer (some ⟨aw,0,none⟩)/\σ_ 23=.bool b3/\PHeap.Le U U_/\SW w [B1,B0] U U_ [B0,B1] w_) ?_ ?_
  ·refine rR (wLU gDx) Z (oR Z (zJ Z Z ZV Z zq) (oL Z (hS.ldC (f:=1) bn (v:=.slice az p1.by_.length aK) Z Z zy Z) (oM Z Z (bnK df fun x7 h8 de=>?_))))
   have q:=bo.el (fun _=>rfl) (wAW h8)
   obtain ⟨dp,du,cz,cC⟩:=q
   refine oR Z (ZO Z Z cz Z zH zC (wBJ h8) (wBL h8)) (oL Z (hS.ldC (f:=0) cC (v:=jV x7) Z Z zG Z) (oR Z (zh Z Z Z) (oM Z Z (ifc de ?_ ?_))))
   ·intro ac cU
    refine oT Z ac (oT Z ac (oT Z ac (oT Z ac (zt Z Z Z (wIZ Z Z Z) (zt Z Z Z (wIZ Z Z Z) (ZG Z Z Z (wIZ Z Z Z) (oT Z ac (oR Z (zR Z (Zh ac.out) Z) (zg ?_)))))))))
    cases cU
    exact zL ⟨rfl,⟨U,rfl,rfl,rfl,rfl,rfl,rfl,(zW _),(hS.pick [1,0] _ (by decide) rfl)⟩⟩
   ·intro ac cV
    refine zl Z Z Z (wF Z ac) (hS.ldB (j:=0) Z Z Z Try.isAgg69 (v:=.slice ak p2.length am) Z) Z (rU Z (wF Z ac) (zz Z Z Zo) (rU Z (wF Z ac) (yn Z Z Z) (zr Z Z Z (wF Z ac) Z Z (ifc cV ?_ ?_))))
    ·intro an cW
     refine zl Z Z Z (wT Z an) (hS.ldC (f:=0) bp (v:=aQ) Z Z Try.isAgg76 Z) Z (zr Z Z Z (wT Z an) Z Z (bnK cW fun dA cn cX=>yv (a:=p0) Z Z Z (wT Z an) Z Z (zB Z zK) hS bq Z cn ?_))
     rintro bw dl dz bY dg cJ ⟨rfl,rfl⟩
     have cK:SW w [B1,B0] U bw [B1,B0] bY:=cJ
     refine rU Z (wF Z ac) (zR Z (Zh an.out) Z) (oR Z (zb Z (zd ac.out) Z) (zg ?_))
     cases cX
     exact zL ⟨rfl,⟨bw,rfl,rfl,rfl,rfl,rfl,rfl,dg,(cK.pick [1,0] _ (by decide) rfl)⟩⟩
    ·intro an cY
     refine oF Z an (oF Z an (ZG Z Z Z (zO Z Z (zd an.out) Z) (rU Z (wF Z ac) (zb Z (zd an.out) Z) (oR Z (zb Z (zd ac.out) Z) (zg ?_)))))
     cases cY
     exact zL ⟨rfl,⟨U,rfl,rfl,rfl,rfl,rfl,rfl,(zW _),(hS.pick [1,0] _ (by decide) rfl)⟩⟩
  ·rintro dB bx ⟨ap,cf,cg,bA,ci,cj,bB,ae,bI⟩
   refine ifc da ?_ ?_
   ·intro bf cZ
    refine ZD (bB.trans (congrArg hH bf.out)) (zU (zN ?_))
    have hE:=nA cZ;first | subst r | cases hE
    exact ⟨Z,_,(wLE),ap,_,bI,ak,am,Z,Z⟩
   ·intro bf c6
    refine zn (bB.trans (congrArg hH (hJ.2 bf.out))) (kN (zM (ZA ZB [1,3,3,1,3,1,3,3,1,3,1,2,0] (wMy gDq) (by kernel_rfl) ?_)))
    have aq:=bI.drew
    generalize hw_W48:({ bx with drawn:=bx.drawn + 1 }:World)=dm at aq ⊢
    have bC:=bQ.le ae
    refine oL Z (aq.ldC (f:=0) bC (v:=.pointer (some ⟨aP,0,none⟩)) Z ci ya Z) (oR Z (Za Z Z) (oR Z (zJ Z Z ZF Z yh) ?_))
    have bD:=bR.le ae
    refine oL Z (aq.ldC (f:=5) bD (v:=.slice aN p4.edges.length aO) Z Z Try.isAgg122 Z) (oR Z (zJ Z cg ZV Z zq) ?_)
    have bE:=bn.le ae
    refine oL Z (aq.ldC (f:=1) bE (v:=.slice az p1.by_.length aK) Z Z zy Z) (oM Z cf (bnK c6 fun dh bh c8=>?_))
    have bF:=bo.le ae
    have q:=bF.el (fun _=>rfl) (wAW bh)
    obtain ⟨dq,dv,cA,cD⟩:=q
    refine oR Z (ZO Z Z cA Z zH zC (wBJ bh) (wBL bh)) (oL Z (aq.ldC (f:=0) cD (v:=jV dh) Z Z zG Z) (bnK c8 fun aa bi db=>?_))
    have bG:=bN.le ae
    have q:=bG.el (fun _=>rfl) (wAW bi)
    obtain ⟨dr,dw,cB,cE⟩:=q
    refine oR Z (ZO Z Z cB Z yl ym (wBJ bi) (wBL bi)) (oL Z (aq.ldCA (f:=0) cE Z Z Try.isAgg130 ym (us:=[jV aa.step.Kind,jV aa.step.Skier,jV aa.step.Index,.bool aa.step.Up,jV aa.from_,jV aa.to_,jV aa.count]) Z Z) (zT (cs:=[jV 0,jV 0,jV 0,.bool false,jV 0,jV 0,jV 0]) Z Z Z Z Z Try.zeroValue130 Z aq ?_))
    intro dn ax cL
    let B2:List Value:=[jV aa.step.Kind,jV aa.step.Skier,jV aa.step.Index,.bool aa.step.Up,jV aa.from_,jV aa.to_,jV aa.count]
    refine zV (j:=0) (vs:=B2) Z Z Z Z cL Z Z Z Z ym (zA Z) Z Z Z ?_
    intro bZ cM
    have bk:SW w [B1,B0] U ap [.blk ax 130 B2,B0,B1] bZ:=cM
    refine eN (sR (wCa (.fx 3 (.fx 4 (.fx 5 .nil .stop) .stop) .stop)) Z (oL Z (bk.ldB (j:=2) Z Z bA Try.isAgg69 (v:=.slice ak p2.length am) Z) (oR Z (zJ Z Z yR Z ZU) ?_)))
    let B3:List Value:=[jV aa.step.Kind,jV aa.step.Skier,jV aa.step.Index,.bool aa.step.Up]
    refine oL Z (bk.ldBA (j:=0) Z Z Z Zt ZU (vs:=B3) Z Z) (ZE (pv:=[(0,.agg B3.toArray)]) (zs:=[jV 0,jV 0,jV 0,.bool false]) (cs:=B3) Z Z Z Z Z (wAF Z wAO) Zo ZU Zv Z Z Z Z Z bk ?_)
    intro ca cd cN
    let B4:Res:=.row (some ⟨cd,0,none⟩) 1 78 4 (hD wAQ [aa.step])
    have bJ:SW w [B1,B0] U ap [B4,.blk ax 130 B2,B0,B1] ca:=cN
    refine bnK db fun a7 co dd=>yP (j:=2) (enc:=wAQ) (xs:=p2) (ys:=[aa.step]) (zs:=a7) rfl rfl rfl rfl rfl Try.underlying69 wMj rfl rfl rfl rfl rfl rfl bJ rfl rfl rfl (bJ.srcR (j:=0) rfl (by decide) (wAE (f:=wAQ) (sz:=4) (fun _=>rfl) [aa.step])) (fun _=>rfl) (fun _=>rfl) co rfl ?_
    intro a9 bg cb cO
    let B5:Res:=.row a9 bg 78 4 (hD wAQ a7)
    have cP:SW w [B1,B0] U ap [B4,.blk ax 130 B2,B5,B1] cb:=cO
    let B6:List Value:=[.slice a9 a7.length bg]
    refine zV (j:=3) (vs:=B6) Z Z Z Z cP Z bA Z Z Try.sizeOf69 (zA Z) Z Z Z ?_
    intro bd cQ
    have bm:SW w [B1,B0] U ap [B4,.blk ax 130 B2,B5,.blk ag 69 B6] bd:=cQ
    refine eN (rR (wCa (.fx 3 .nil .stop)) Z ?_)
    have bH:=bP.le ae
    refine oL Z (bm.ldC (f:=0) bH (v:=.func (.func 90) #[] #[.pointer (some ⟨au,0,none⟩),.pointer (some ⟨ag,0,none⟩),.pointer (some ⟨aJ,0,none⟩),.pointer (some ⟨av,0,none⟩),.pointer (some ⟨aw,0,none⟩)]) Z cj Try.isAgg156 Z) (oR Z (zJ Z Z yR Z zC) (oL Z (bm.ldB (j:=1) Z Z Z zG (v:=jV aa.from_) Z) ?_))
    have cp:=bK.le ae
    have cq:=bp.le ae
    have cr:=bq.le ae
    have ct:=bS.le ae
    have cu:=bU.le ae
    have cw:=bV.le ae
    have cx:=bL.le ae
    have cy:=bM.le ae
    refine bnK dd fun bW cm cS=>?_
    have cG:SW w [B1,B0] U ap [.blk ag 69 B6,B5,B4,.blk ax 130 B2] bd:=bm.pick [3,2,0,1] _ (by decide) rfl
    refine zE 2 Z Z Z Z (zD Z Z Try.call90 (zB Z zK) Z) cG (fun hs=>ih aa.from_ p1 au aR aW az aK a7 ag a9 bg p3 aJ aQ p4 av aP aS aX aT aY aU aZ aV a5 a6 bs bt aN aO () aw bd ap hs bE cp bF cq cr bC bD ct cu cw cx cy bG bH cm) (.inl Z) ?_
    rintro bv dk dx bX dt cH ⟨a8,be,rfl,rfl⟩
    have cI:SW w [B1,B0] U bv [.row a8 be 78 4 (hD wAQ bW),.blk ag 69 [.slice a8 bW.length be],B4,.blk ax 130 B2] bX:=cH
    refine zg ?_
    have hE:=nA cS;first | subst r | cases hE
    exact ⟨rfl,_,(wLE),bv,_,(cI.pick [0,1] _ (by decide) rfl),a8,be,rfl,rfl⟩
end Go.Proofs.Ytlnfbjphfoipaaa
namespace Go.Proofs.Ytlnfbjphfoipaaa
open Go.KL
set_option maxHeartbeats 4000000
theorem wDD (p0:List wAD) (ae:Option Addr) (af:Nat) (w:World) (U:PHeap) (hS:St0 w U [.row ae af 78 4 (hD wAQ p0)])  {r:(List wAD)} (hm:wAf p0=some r):Gv Try.prog 91 [.slice ae p0.length af] w (wCB w [.row ae af 78 4 (hD wAQ p0)] U (fun U_ L_ v=>v=.tuple #[]/\L_=[.row ae af 78 4 (hD wAQ r)]/\r.length=p0.length)):=by
 unfold wAf at hm
 refine Gv.of Try.func91 Z Try.ntmps91 Try.results91 Z (sR fL5 Z (oM Z Z (oR Z (zz Z Z Zo) (oR Z (yH Z Z Z) (oA Z Z (oA Z Z (eN (zc ?_))))))))
 let B0:Res:=.row ae af 78 4 (hD wAQ p0)
 refine CK.iter (fun (aa,ab,ac) σ_ w_=>∃ (U_:PHeap),σ_ 0=.slice ae aa.length af/\σ_ 2=jV ab/\σ_ 3=jV ac/\PHeap.Le U U_/\SW w [B0] U U_ [.row ae af 78 4 (hD wAQ aa)] w_/\aa.length=p0.length) hm ?_ ?_
 exact ⟨U,Z,Z,Z,(zW _),hS,Z⟩
 rintro ⟨aa,ab,ac⟩ bc bd az ⟨an,ak,ao,ap,a8,aK,aJ⟩ aw aU
 try dsimp only at aw
 refine zM (sR fL3 Z (oM Z ao (oM Z ap (oR Z (zh Z Z Z) (eN ?_)))))
 by_cases ag:ab < ac
 have aL:=aw;rw [if_pos ag] at aL;replace ag:=zS ag
 refine cT Z ag (kN (zM (zc (ZA ZB [3,3,3,3,3,3,3,1,3,3,3,1,3,0,3,0] (wLU (.fx 13 (.fl 14 (.fx 15 .nil .stop)) .stop)) (by kernel_rfl) ?_))))
 have am:=aK.drew
 generalize hw_W31:({ az with drawn:=az.drawn + 1 }:World)=ba at am ⊢
 refine oM Z ak (oM Z ao (oM Z ak (oM Z ap (oM Z ak (oM Z ap (bnK aL fun _ aq aZ=>?_))))))
 obtain ⟨bb,ah⟩:=am.rowSome (j:=0) rfl (by rw [wAE (f:=wAQ) (sz:=4) (fun _=>rfl) aa];have hz:=wAa aq;omega)
 refine oR Z (ZO Z Z ah Z Zo ZU (wBl aq) (wBm aq)) ?_
 have aV:=wBy (xs:=aa) (wAa aq)
 let B1:List Value:=[jV ((gd aa ac.toNat).Kind),jV ((gd aa ac.toNat).Skier),jV ((gd aa ac.toNat).Index),.bool ((gd aa ac.toNat).Up)]
 refine zl rfl rfl rfl rfl (am.ldRA (j:=0) rfl ah rfl rfl Zt ZU (vs:=B1) (wEh (sz:=4) (fun _=>rfl) _ _ _ aV (by first | omega | rfl | simp) rfl) rfl) rfl (zr rfl rfl rfl rfl rfl ak (zr rfl rfl rfl rfl rfl ao (bnK aZ fun _ ai a5=>zY rfl rfl rfl rfl (fun _=>ZO rfl rfl ah rfl Zo ZU (wBl ai) (wBm ai)) ?_)))
 have aW:=wBy (xs:=aa) (wAa ai)
 let B2:List Value:=[jV ((gd aa ab.toNat).Kind),jV ((gd aa ab.toNat).Skier),jV ((gd aa ab.toNat).Index),.bool ((gd aa ab.toNat).Up)]
 refine zl rfl rfl rfl rfl (am.ldRA (j:=0) rfl ah rfl rfl Zt ZU (vs:=B2) (wEh (sz:=4) (fun _=>rfl) _ _ _ aW (by first | omega | rfl | simp) rfl) rfl) rfl (zY rfl rfl rfl rfl (fun _=>ZO rfl rfl ah rfl Zo ZU (wBl ai) (wBm ai)) ?_)
 have aX:=wBy (xs:=aa) (wAa ai)
 refine yu (j:=0) (vs:=B1) (cs':=hD wAQ (nB aa ab.toNat (gd aa ac.toNat))) rfl rfl rfl rfl am rfl ah rfl rfl rfl ZU (by rw [wAE (f:=wAQ) (sz:=4) (fun _=>rfl)];have hz:=wAa ai;show _ + 4 <= _;first | omega | (simp only [nI];omega) | (simp only [nG,nD,nE];omega)) rfl (wDP (sz:=4) (fo:=0) (fun _=>rfl) _ _ _ _ aX (by first | omega | (simp only [nI];omega) | (simp only [nG,nD,nE];omega)) (zA rfl) rfl) rfl ?_
 intro aN aQ
 have aR:SW w [B0] U an [.row ae af 78 4 (hD wAQ (nB aa ab.toNat (gd aa ac.toNat)))] aN:=aQ
 refine bnK a5 fun _ au a6=>zY rfl rfl rfl rfl (fun _=>ZO rfl (Eq.trans (b:=(.slice ae aa.length af:Value)) (c:=(.slice ae ((nB aa ab.toNat (gd aa ac.toNat)).length) af:Value)) rfl (by simp only [nH])) ah rfl Zo ZU (wBl au) (wBm au)) ?_
 have aY:=wBy (xs:=(nB aa ab.toNat (gd aa ac.toNat))) (wAa au)
 refine yu (j:=0) (vs:=B2) (cs':=hD wAQ (nB (nB aa ab.toNat (gd aa ac.toNat)) ac.toNat (gd aa ab.toNat))) rfl rfl rfl rfl aR rfl ah rfl rfl rfl ZU (by rw [wAE (f:=wAQ) (sz:=4) (fun _=>rfl)];have hz:=wAa au;show _ + 4 <= _;first | omega | (simp only [nI];omega) | (simp only [nG,nD,nE];omega)) rfl (wDP (sz:=4) (fo:=0) (fun _=>rfl) _ _ _ _ aY (by first | omega | (simp only [nI];omega) | (simp only [nG,nD,nE];omega)) (zA rfl) rfl) rfl ?_
 intro aO aS
 have aT:SW w [B0] U an [.row ae af 78 4 (hD wAQ (nB (nB aa ab.toNat (gd aa ac.toNat)) ac.toNat (gd aa ab.toNat)))] aO:=aS
 refine zg (ZH (zL (rR fL6 Z (oM Z ao (oR Z (zf Z Z Z) (oM Z ap (oR Z (yH Z Z Z) (oA Z Z (oA Z Z (zg ?_))))))))))
 obtain rfl:=nA a6
 exact zL ⟨rfl,_,rfl,⟨an,(Eq.trans (b:=(.slice ae ((nB aa ab.toNat (gd aa ac.toNat)).length) af:Value)) (c:=(.slice ae ((nB (nB aa ab.toNat (gd aa ac.toNat)) ac.toNat (gd aa ab.toNat)).length) af:Value)) (Eq.trans (b:=(.slice ae aa.length af:Value)) (c:=(.slice ae ((nB aa ab.toNat (gd aa ac.toNat)).length) af:Value)) ak (by simp only [nH])) (by simp only [nH])),rfl,rfl,a8,aT,((nH.trans nH).trans aJ)⟩⟩
 have aM:=aw;rw [if_neg ag] at aM;replace ag:=zS ag
 refine cF Z ag (Zf (zx ?_))
 have q:=wAV aM
 obtain ⟨a9,a7,aP⟩:=q
 obtain rfl:=aU a9 aP
 refine zx (Zc ?_)
 have hE:=nA a7;first | subst r | cases hE
 exact ⟨Z,_,(wLE),an,_,aK,Z,Z,aJ⟩
theorem wEa (p0:wAY) (aK:Nat) (aT:Option Addr) (aY:Nat) (aU:Option Addr) (aZ:Nat) (aV:Option Addr) (a5:Nat) (aW:Option Addr) (a6:Nat) (a8:Nat) (bt:Array MapEntry) (bu:Nat) (aX:Option Addr) (a7:Nat) (p1:wAe) (az:Option Addr) (aL:Nat) (aJ:Option Addr) (aM:Nat) (p2:(Int->Option Bool)) (av:Value) (p3:Int) (w:World) (U:PHeap) (hS:St0 w U []) (cZ:Cl U aK 0 [.slice aT p0.Race.Starts.length aY,.slice aU p0.Race.Splits.length aZ,.slice aV p0.Race.Clocks.length a5,.slice aW p0.Race.Readings.length a6,.map (some a8),.slice aX p0.edges.length a7]) (c6:Sl U 1 aT aY p0.Race.Starts.length (hD KL.encI p0.Race.Starts)) (c8:Sl U 2 aU aZ p0.Race.Splits.length (hD wAG p0.Race.Splits)) (da:Sl U 3 aV a5 p0.Race.Clocks.length (hD wAA p0.Race.Clocks)) (db:Sl U 4 aW a6 p0.Race.Readings.length (hD wAB p0.Race.Readings)) (dd:MpF U a8 bt bu wBB wBC p0.number) (de:Sl U 7 aX a7 p0.edges.length (hD wAP p0.edges)) (df:Sl U 1 az aL p1.far.length (hD KL.encI p1.far)) (dg:Sl U 1 aJ aM p1.by_.length (hD KL.encI p1.by_)) (dh:FnOK Try.prog U av wKB wKC p2) {r:(List wAD)} (hm:wCY p0 p1 p2 p3=some r):Gv Try.prog 61 [.pointer (some ⟨aK,0,none⟩),.agg #[.slice az p1.far.length aL,.slice aJ p1.by_.length aM],av,jV p3] w (wCB w [] U (fun U_ L_ v=>∃ (A0:Option Addr) (c0:Nat),v=.slice A0 r.length c0/\L_=[.row A0 c0 78 4 (hD wAQ r)])):=by
 unfold wCY at hm
 refine Gv.of Try.func61 Z Try.ntmps61 Try.results61 Z (sR gEh Z ?_)
 let B0:List Value:=[.pointer (some ⟨aK,0,none⟩)]
 refine zu (cs:=B0) rfl rfl rfl rfl rfl rfl (by rfl) hS ?_
 intro W1 b2 cN
 have q:=cN.freeze (k:=0) rfl
 obtain ⟨U5,af,au,cW⟩:=q
 replace au:=Cl.of au
 have cX:sW w U U5 [] W1:=cW
 replace au:Cl U5 b2 0 B0:=au
 let B1:List Value:=[.slice az p1.far.length aL,.slice aJ p1.by_.length aM]
 refine zu (cs:=B1) rfl rfl rfl rfl rfl rfl (by rfl) cX ?_
 intro bw aw cH
 have q:=cH.freeze (k:=0) rfl
 obtain ⟨bi,ae,ao,cI⟩:=q
 replace ao:=Cl.of ao
 have cJ:sW w U bi [] bw:=cI
 replace ao:Cl bi aw 0 B1:=ao
 have bB:=dh.le af
 have bp:=bB.le ae
 refine zu (cs:=[av]) Z Z Z Z Z Z (FnOK.cells bp) cJ ?_
 intro bx ay cK
 have q:=cK.freeze (k:=0) rfl
 obtain ⟨aQ,ac,ap,cL⟩:=q
 replace ap:=Cl.of ap
 have cM:sW w U aQ [] bx:=cL
 replace ap:Cl aQ ay 0 [av]:=ap
 refine oA Z Z (eN (sR (.fx 0 .nil .stop) Z (zT (cs:=[.slice none 0 0]) Z Z Z Z Z Try.zeroValue69 Z cM ?_)))
 intro dn aj cO
 refine eN (sR (.fx 0 .nil .stop) Z (zT (cs:=[.nilFunc]) Z Z Z Z Z Try.zeroValue156 Z cO ?_))
 intro dp an cP
 refine eN (sR gDs Z (oR Z (yc Z zK (zB Z (zB Z (zB Z (zB Z (zB Z zK)))))) ?_))
 let B2:List Value:=[.func (.func 90) #[] #[.pointer (some ⟨aw,0,none⟩),.pointer (some ⟨aj,0,none⟩),.pointer (some ⟨ay,0,none⟩),.pointer (some ⟨b2,0,none⟩),.pointer (some ⟨an,0,none⟩)]]
 refine zV (j:=0) (vs:=B2) Z Z Z Z cP Z Z Z Z Try.sizeOf156 (zA Z) Z Z Z ?_
 intro am cQ
 let B3:Res:=.blk aj 69 [.slice none 0 0]
 have bs:sW w U aQ [.blk an 156 B2,B3] am:=cQ
 refine eN (sR (.fl 0 (.fl 1 (.fx 2 .nil .stop))) Z (oL Z (bs.ldB (j:=0) Z Z Z Try.isAgg156 (v:=.func (.func 90) #[] #[.pointer (some ⟨aw,0,none⟩),.pointer (some ⟨aj,0,none⟩),.pointer (some ⟨ay,0,none⟩),.pointer (some ⟨b2,0,none⟩),.pointer (some ⟨an,0,none⟩)]) Z) (oM Z Z ?_)))
 have q:=bs.freeze (k:=0) rfl
 obtain ⟨ak,ab,aq,cR⟩:=q
 replace aq:=Cl.of aq
 have cS:sW w U ak [B3] am:=cR
 replace aq:Cl ak an 0 B2:=aq
 have cU:=cS.nilrow 78 4
 let B4:Res:=.row none 0 78 4 (hD wAQ ([]:List wAD))
 let B5:Res:=.blk aj 69 [.slice none (([]:List wAD).length) 0]
 have cV:sW w U ak [B4,B5] am:=cU
 have bC:=ao.le ac
 have bD:=bC.le ab
 have bE:=df.le af
 have bF:=bE.le ae
 have bG:=bF.le ac
 have bH:=bG.le ab
 have bI:=dg.le af
 have bJ:=bI.le ae
 have bK:=bJ.le ac
 have bL:=bK.le ab
 have bM:=ap.le ab
 have bN:=bp.le ac
 have bP:=bN.le ab
 have bQ:=au.le ae
 have bR:=bQ.le ac
 have bS:=bR.le ab
 have bU:=cZ.le af
 have bV:=bU.le ae
 have bW:=bV.le ac
 have bX:=bW.le ab
 have bY:=c6.le af
 have bZ:=bY.le ae
 have ca:=bZ.le ac
 have cb:=ca.le ab
 have cc:=c8.le af
 have cd:=cc.le ae
 have cf:=cd.le ac
 have cg:=cf.le ab
 have ci:=da.le af
 have cj:=ci.le ae
 have cm:=cj.le ac
 have cn:=cm.le ab
 have co:=db.le af
 have cp:=co.le ae
 have cq:=cp.le ac
 have cr:=cq.le ab
 have ct:=dd.le af
 have cu:=ct.le ae
 have cw:=cu.le ac
 have cx:=cw.le ab
 have cy:=de.le af
 have cz:=cy.le ae
 have cA:=cz.le ac
 have cB:=cA.le ab
 refine bnK hm fun aN cC dk=>?_
 have cY:sW w U ak [B5,B4] am:=cV.pick [1,0] _ (by decide) rfl
 refine zE 2 Z Z Z Z (zD Z Z Try.call90 (zB Z zK) Z) cY (fun hs=>wFR 1000 p3 p1 aw az aL aJ aM ([]:List wAD) aj none 0 p2 ay av p0 b2 aK aT aY aU aZ aV a5 aW a6 a8 bt bu aX a7 () an am ak hs bD bH bL bM bP bS bX cb cg cn cr cx cB aq cC) (.inl Z) ?_
 rintro bk dm du bm dq cD ⟨ah,ai,rfl,rfl⟩
 let B6:Res:=.blk aj 69 [.slice ah aN.length ai]
 have bq:sW w U bk [.row ah ai 78 4 (hD wAQ aN),B6] bm:=cD
 refine eN (sR gDs Z (oL Z (bq.ldB (j:=1) Z Z Z Try.isAgg69 (v:=.slice ah aN.length ai) Z) (bnK dk fun a9 bz di=>zE 1 Z Z Z Z (zD Z Z Try.call91 (zB Z zK) Z) bq (fun hs=>wDD aN ah ai bm bk hs bz) (.inl Z) ?_)))
 rintro aP dl dt bn dr cE ⟨rfl,rfl,bA⟩
 let B7:Res:=.row ah ai 78 4 (hD wAQ a9)
 have cG:sW w U aP [B7,B6] bn:=cE
 have br:sW w U aP [B7,.blk aj 69 [.slice ah a9.length ai]] bn:=by rw [bA];exact cG
 refine eN (sR fL2 Z (oL Z (br.ldB (j:=1) Z Z Z Try.isAgg69 (v:=.slice ah a9.length ai) Z) (oA Z Z (eN (zU ?_)))))
 have hE:=nA di;first | subst r | cases hE
 exact ⟨rfl,_,(ZL rfl),aP,_,(br.pick [0] _ (by decide) rfl),ah,ai,rfl,rfl⟩
theorem wIA (p0:wAC) (a9:Option Addr) (bd:Nat) (ba:Option Addr) (be:Nat) (bb:Option Addr) (bf:Nat) (bc:Option Addr) (bg:Nat) (w:World) (U:PHeap) (hS:St0 w U []) (eE:Sl U 1 a9 bd p0.Starts.length (hD KL.encI p0.Starts)) (eG:Sl U 2 ba be p0.Splits.length (hD wAG p0.Splits)) (eH:Sl U 3 bb bf p0.Clocks.length (hD wAA p0.Clocks)) (eI:Sl U 4 bc bg p0.Readings.length (hD wAB p0.Readings)) {r:(List wAD) × Int} (hm:wDs p0=some r):Gv Try.prog 28 [.agg #[.slice a9 p0.Starts.length bd,.slice ba p0.Splits.length be,.slice bb p0.Clocks.length bf,.slice bc p0.Readings.length bg]] w (wCB w [] U (fun U_ L_ v=>∃ (A0:Option Addr) (c0:Nat),v=.tuple #[.slice A0 r.1.length c0,jV r.2]/\L_=[.row A0 c0 78 4 (hD wAQ r.1)])):=by
 unfold wDs at hm
 refine Gv.of Try.func28 Z Try.ntmps28 Try.results28 Z (sR gDy Z ?_)
 let B0:List Value:=[.slice a9 p0.Starts.length bd,.slice ba p0.Splits.length be,.slice bb p0.Clocks.length bf,.slice bc p0.Readings.length bg]
 refine zu (cs:=B0) rfl rfl rfl rfl rfl rfl (by rfl) hS ?_
 intro W1 b2 cg
 refine oA Z Z (oA Z Z (eN (sR (.fl 0 (.fx 1 (wGM (.nil)) .stop)) Z (oL Z (cg.ldBA (j:=0) Z Z Z ze zZ (vs:=B0) Z Z) ?_))))
 have q:=bnd hm
 obtain ⟨⟨x5,x6⟩,h7,aS⟩:=q
 try dsimp only at aS
 refine zE 0 Z Z Z Z (zD Z Z Try.call60 (zB Z zK) Z) cg (fun hs=>wDK p0 a9 bd ba be bb bf bc bg W1 U hs eE eG eH eI h7) (.inr Z) ?_
 rintro U9 fw fL aZ fI cc cb
 rcases x5 with _ | af
 try dsimp only at aS
 obtain ⟨rfl,rfl⟩:=cb
 have ej:sW w U U9 [.blk b2 28 B0] aZ:=cc
 refine oM Z Z (oR Z (zP Z Z (v:=.pointer none) Z) (oR Z (zP Z Z (v:=jV x6) Z) (oA Z Z (oA Z Z (eN (zM (sR fL2 Z (oM Z Z (oR Z (ZN Z Z Z) (eN (ifc aS ?_ ?_)))))))))))
 intro bq eY
 refine zn (zd (fun h=>h bq.out)) (kN (sR (.fl 0 (.fx 1 (wKX gEo) .stop)) Z (oM Z Z ?_)))
 cases eY
 intro bq eZ
 refine cT Z bq (sR fL3 Z (oM Z Z (oA Z Z (oA Z Z (eN (zU (zN ?_)))))))
 have ek:=ej.nilrow 78 4
 cases eZ
 exact ⟨rfl,_,(wDv rfl rfl),U9,_,(ek.pick [0] _ (by decide) rfl),none,0,rfl,rfl⟩
 try dsimp only at aS
 obtain ⟨ac,bh,bm,bi,bn,bj,bo,bk,bp,ag,an,am,aN,aP,rfl,rfl,dG,dH,dI,dJ,bv⟩:=cb
 let B1:List Value:=[.slice bh af.Race.Starts.length bm,.slice bi af.Race.Splits.length bn,.slice bj af.Race.Clocks.length bo,.slice bk af.Race.Readings.length bp,.map (some ag),.slice aN af.edges.length aP]
 have ci:sW w U U9 [.blk ac 124 B1,.obj ag (.map an am),.row aN aP 130 7 (hD wAP af.edges),.blk b2 28 B0] aZ:=cc
 refine oM Z Z (oR Z (zP Z Z (v:=.pointer (some ⟨ac,0,none⟩)) Z) (oR Z (zP Z Z (v:=jV x6) Z) (oA Z Z (oA Z Z (eN (zM (sR fL2 Z (oM Z Z (oR Z (ZN Z Z Z) (eN (ifc aS ?_ ?_)))))))))))
 intro br fb
 refine zn (zd (fun h=>h br.out)) (kN (sR (.fl 0 (.fx 1 (wKX gEo) .stop)) Z (oM Z Z ?_)))
 have q:=ci.freezeR (k:=2) (n:=af.edges.length) rfl (wAE (f:=wAP) (sz:=7) (fun _=>rfl) af.edges) (by decide)
 obtain ⟨bJ,a8,bz,en⟩:=q
 have eo:sW w U bJ [.blk ac 124 B1,.obj ag (.map an am),.blk b2 28 B0] aZ:=en
 have bW:=dG.le a8
 have bX:=dH.le a8
 have bY:=dI.le a8
 have bZ:=dJ.le a8
 have q:=bnd fb
 obtain ⟨⟨ah,bB,fu⟩,dK,cj⟩:=q
 try dsimp only at cj
 refine zE 2 Z Z Z Z (zD Z Z ye (zB Z (zB Z (zB Z zK))) Z) eo (fun hs=>wAb af ac bh bm bi bn bj bo bk bp ag an am aN aP (-1) false aZ bJ hs bW bX bY bZ bv bz dK) (.inl Z) ?_
 rintro ay fz fN cx aL ep ⟨aW,a5,aO,aQ,rfl,rfl⟩
 let B2:Res:=.row aO aQ 3 1 (hD KL.encI ah.by_)
 let B3:Res:=.row aW a5 3 1 (hD KL.encI ah.far)
 have er:sW w U ay [B3,B2,.blk ac 124 B1,.obj ag (.map an am),.blk b2 28 B0] cx:=ep
 refine oM Z Z (oR Z (zP Z Z (v:=.agg #[.slice aW ah.far.length a5,.slice aO ah.by_.length aQ]) Z) (oR Z (zP Z Z (v:=jV bB) Z) (oR Z (zP Z Z (v:=.bool fu) Z) (zT (cs:=[.slice none 0 0,.slice none 0 0]) Z Z Z Z Z Zd Z er ?_))))
 intro fC ak eu
 refine zT (cs:=[jV 0]) Z Z Z Z Z zw Z eu ?_
 intro fD ao ew
 let B4:List Value:=[.slice aW ah.far.length a5,.slice aO ah.by_.length aQ]
 refine zV (j:=1) (vs:=B4) Z Z Z Z ew Z Z Z Z Zj (zA Z) Z Z Z ?_
 intro cy ey
 have eA:sW w U ay [.blk ao 3 [jV 0],.blk ak 118 B4,B3,B2,.blk ac 124 B1,.obj ag (.map an am),.blk b2 28 B0] cy:=ey
 refine zV (j:=0) (vs:=[jV bB]) Z Z Z Z eA Z Z Z Z zC (zA Z) Z Z Z ?_
 intro cz eB
 have a7:sW w U ay [.blk ao 3 [jV bB],.blk ak 118 B4,B3,B2,.blk ac 124 B1,.obj ag (.map an am),.blk b2 28 B0] cz:=eB
 refine oA Z Z (eN (zM (sR fL1 Z (oM Z Z (eN (ifc cj ?_ ?_))))))
 intro bs fc
 refine ZD (congrArg hH bs.out) (sR fL2 Z (oA Z Z (oA Z Z (eN (zU (zN ?_))))))
 have eD:=a7.nilrow 78 4
 cases fc
 exact ⟨rfl,_,(wDv rfl rfl),ay,_,(eD.pick [0] _ (by decide) rfl),none,0,rfl,rfl⟩
 intro bs fd
 refine zn (congrArg hH (hJ.2 bs.out)) (kN (zM (sR fL6 Z (oM Z Z (oR Z (Za Z Z) (oR Z (zJ Z Z ZF Z Zs) (oL Z (a7.ldB (j:=4) Z Z Z Zx (v:=.map (some ag)) Z) (oL Z (a7.lenM (j:=5) (mk:=wBB) (mv:=wBC) Z Z Z (wBV ZI) bv) (oM Z Z (eN (zc (bnK fd fun aM eJ eQ=>?_))))))))))))
 have q:=wBn eJ
 obtain ⟨bx,eK⟩:=q
 replace bx:=zS bx
 refine CK.forN' (fun aT bC σ_ w_=>∃ (U_:PHeap),σ_ 29=jV (↑aT:Int)/\σ_ 4=.pointer (some ⟨ac,0,none⟩)/\σ_ 6=.pointer (some ⟨ak,0,none⟩)/\σ_ 7=.pointer (some ⟨ao,0,none⟩)/\σ_ 28=jV (↑(af.number.length):Int)/\PHeap.Le ay U_/\sW w U U_ [.blk ao 3 [jV bC],B3,B2,.blk ak 118 B4,.blk ac 124 B1,.obj ag (.map an am),.blk b2 28 B0] w_) eK ?_ ?_ ?_
 exact ⟨ay,rfl,rfl,rfl,rfl,rfl,(zW _),(a7.pick [0,2,3,1,4,5,6] _ (by decide) rfl)⟩
 rintro aT bC fO fP bK bw ⟨bG,bV,bQ,bR,bt,bS,cm,dP⟩ fh
 have bN:Hid ((↑aT:Int) < (↑(af.number.length):Int)):=zS (wBD bw)
 replace bw:=zS bw
 have eO:Hid (w64 ((↑aT:Int) + 1)=(↑(aT + 1):Int)):=zS (by have h1:=bx.out;have h2:=bN.out;rw [wAU] <;> omega)
 refine sR fL1 rfl (zY rfl rfl rfl rfl (fun _=>zh rfl bV bS) (eN (zM (cT Z bN (kN (zM (zc (ZA ZB [3,3,3,1,3,1,1,3,1,3,3,1,0] (wMz (.fx 12 .nil .stop)) (by kernel_rfl) ?_))))))))
 have aq:=dP.drew
 generalize hw_W123:({ bK with drawn:=bK.drawn + 1 }:World)=fB at aq ⊢
 refine oM Z bQ (oR Z (Za Z Z) (oR Z (zJ Z Z ZF Z yh) (oL Z (aq.ldB (j:=4) Z Z Z Try.isAgg122 (v:=.slice aN af.edges.length aP) Z) (oR Z (zJ Z bR ZV Z zq) (oL Z (aq.ldB (j:=3) Z Z Z zy (v:=.slice aO ah.by_.length aQ) Z) (oL Z (aq.ldB (j:=0) Z Z bt zG (v:=jV bC) Z) (bnK fh fun _ a6 eU=>?_)))))))
 obtain ⟨fG,ca⟩:=aq.rowSome (j:=2) rfl (by rw [wAE (f:=KL.encI) (sz:=1) (fun _=>rfl) ah.by_];have hz:=wAa a6;omega)
 refine oR Z (ZO Z Z ca Z zH zC (wBl a6) (wBm a6)) ?_
 have eM:=wBy (xs:=ah.by_) (wAa a6)
 refine zl rfl rfl rfl rfl (aq.ldR (j:=2) rfl ca rfl rfl zG (wAj (sz:=1) (fun _=>rfl) _ _ 0 _ eM (by first | omega | rfl | simp) rfl)) rfl (bnK eU fun bA bu eV=>?_)
 have cG:=bz.le aL
 have cH:=cG.le cm
 have q:=cH.el (fun _=>rfl) (wAW bu)
 obtain ⟨fH,fK,dM,dN⟩:=q
 refine oR Z (ZO Z Z dM Z yl ym (wBJ bu) (wBL bu)) (oR Z (zJ Z Z yR Z zC) (oL Z (aq.ldC (f:=4) dN (v:=jV bA.from_) Z Z zG Z) (zV (j:=0) (vs:=[jV bA.from_]) Z Z Z Z aq Z bt Z Z zC (zA Z) Z Z Z ?_)))
 intro cw dQ
 have dR:sW w U bG [.blk ao 3 [jV bA.from_],B3,B2,.blk ak 118 B4,.blk ac 124 B1,.obj ag (.map an am),.blk b2 28 B0] cw:=dQ
 refine zg (ZH (zL (rR fL2 Z (oR Z (ZS (zf Z bV Z) (congrArg (jV) eO.out)) (oM Z Z (zg ?_))))))
 cases eV
 exact zL ⟨Z,⟨bG,Z,bQ,bR,bt,bS,cm,dR⟩⟩
 rintro fQ az ⟨fA,cE,cB,cC,bU,cD,aU,cd⟩
 have cA:Hid (¬ ((↑(((↑(af.number.length):Int):Int) - 0).toNat:Int) < (↑(af.number.length):Int))):=zS (wAh)
 refine sR fL1 Z (oR Z (zh Z cE cD) (eN (zM (cF Z cA (Zf (zx (zx (Zc (zL (sR (wDe (.fx 4 (.fl 5 (.fl 6 .nil)) .stop)) Z (oM Z cB (oL Z (cd.ldBA (j:=3) Z Z cC Try.isAgg118 Zj (vs:=B4) Z Z) ?_))))))))))))
 have q:=cd.freeze (k:=0) rfl
 obtain ⟨bH,aV,aJ,dS⟩:=q
 replace aJ:=Cl.of aJ
 have cf:sW w U bH [B3,B2,.blk ak 118 B4,.blk ac 124 B1,.obj ag (.map an am),.blk b2 28 B0] az:=dS
 replace aJ:Cl bH ao 0 [jV aM]:=aJ
 refine oR Z (yc Z zK (zB bU zK)) (oL Z (cf.ldC (f:=0) aJ (v:=jV aM) Z bU zG Z) ?_)
 have q:=cf.freezeR (k:=0) (n:=ah.far.length) rfl (wAE (f:=KL.encI) (sz:=1) (fun _=>rfl) ah.far) (by decide)
 obtain ⟨cp,aK,ff,dT⟩:=q
 have dU:sW w U cp [B2,.blk ak 118 B4,.blk ac 124 B1,.obj ag (.map an am),.blk b2 28 B0] az:=dT
 have q:=dU.freezeR (k:=0) (n:=ah.by_.length) rfl (wAE (f:=KL.encI) (sz:=1) (fun _=>rfl) ah.by_) (by decide)
 obtain ⟨cq,aw,fg,dV⟩:=q
 have dW:sW w U cq [.blk ak 118 B4,.blk ac 124 B1,.obj ag (.map an am),.blk b2 28 B0] az:=dV
 have q:=dW.freezeM (k:=2) rfl bv
 obtain ⟨cr,au,eL,dY⟩:=q
 have dZ:sW w U cr [.blk ak 118 B4,.blk ac 124 B1,.blk b2 28 B0] az:=dY
 have q:=dZ.freezeTB (k:=1) rfl
 obtain ⟨aX,ap,aR,dX,fk⟩:=q
 replace aR:=Cl.of aR
 have d7:sW w U aX [.blk ak 118 B4,.blk b2 28 B0] az:=dX
 replace aR:Cl aX ac 0 B1:=aR
 have cI:=bW.le aL
 have cJ:=cI.le aU
 have cK:=cJ.le aV
 have cL:=cK.le aK
 have cM:=cL.le aw
 have cN:=cM.le au
 have cO:=cN.le ap
 have cP:=bX.le aL
 have cQ:=cP.le aU
 have cR:=cQ.le aV
 have cS:=cR.le aK
 have cU:=cS.le aw
 have cV:=cU.le au
 have cW:=cV.le ap
 have cX:=bY.le aL
 have cY:=cX.le aU
 have cZ:=cY.le aV
 have c6:=cZ.le aK
 have c8:=c6.le aw
 have da:=c8.le au
 have db:=da.le ap
 have dd:=bZ.le aL
 have de:=dd.le aU
 have df:=de.le aV
 have dg:=df.le aK
 have dh:=dg.le aw
 have di:=dh.le au
 have dk:=di.le ap
 have dl:=eL.le ap
 have dm:=bz.le aL
 have dn:=dm.le aU
 have dp:=dn.le aV
 have dq:=dp.le aK
 have dr:=dq.le aw
 have dt:=dr.le au
 have du:=dt.le ap
 have dv:=ff.le aw
 have dw:=dv.le au
 have dx:=dw.le ap
 have dz:=fg.le au
 have dA:=dz.le ap
 have dB:=aJ.le aK
 have dC:=dB.le aw
 have dD:=dC.le au
 have dE:=dD.le ap
 have dO:FnOK Try.prog aX (.func (.func 62) #[] #[.pointer (some ⟨ao,0,none⟩)]) wKB wKC (fun x=>wCz x aM):=⟨62,[],[.pointer (some ⟨ao,0,none⟩)],rfl,Try.call62,fun U1 w1 x y vs le hs ha hm=>by obtain rfl:=ha;exact wHB x aM ao w1 U1 hs (dE.le le) hm⟩
 refine bnK eQ fun fq dF eW=>zE 0 Z Z Z Z (zD Z Z Try.call61 (zB Z (zB Z (zB Z (zB Z zK)))) Z) d7 (fun hs=>wEa af ac bh bm bi bn bj bo bk bp ag an am aN aP ah aW a5 aO aQ (fun x=>wCz x aM) (.func (.func 62) #[] #[.pointer (some ⟨ao,0,none⟩)]) aM az aX hs aR cO cW db dk dl du dx dA dO dF) (.inr Z) ?_
 rintro ct fy fM bL fj d9 ⟨bE,bP,rfl,rfl⟩
 let B5:Res:=.row bE bP 78 4 (hD wAQ fq)
 have ec:sW w U ct [B5,.blk ak 118 B4,.blk b2 28 B0] bL:=d9
 have q:=fk _ _ _ fj ec
 obtain ⟨bI,fJ,ef⟩:=q
 have eg:sW w U bI [.blk ac 124 B1,B5,.blk ak 118 B4,.blk b2 28 B0] bL:=ef
 refine oA Z Z (oA Z Z (eN (zU ?_)))
 cases eW
 exact ⟨rfl,_,(wDv rfl rfl),bI,_,(eg.pick [1] _ (by decide) rfl),bE,bP,rfl,rfl⟩
 intro br eX
 refine cT Z br (sR fL3 Z (oM Z Z (oA Z Z (oA Z Z (eN (zU (zN ?_)))))))
 have eh:=ci.nilrow 78 4
 cases eX
 exact ⟨rfl,_,(wDv rfl rfl),U9,_,(eh.pick [0] _ (by decide) rfl),none,0,rfl,rfl⟩
theorem wEI (p0:wAC) (bn:Option Addr) (bo:Nat) (aT:Option Addr) (aU:Nat) (aJ:Option Addr) (aL:Nat) (a7:Option Addr) (a8:Nat) (p1:List (List Int)) (aq:Option Addr) (au:Nat) (p2:List Int) (aK:Option Addr) (aM:Nat) (w:World) (U:PHeap) (hS:St0 w U []) (gM:Sl U 1 bn bo p0.Starts.length (hD KL.encI p0.Starts)) (gN:Sl U 2 aT aU p0.Splits.length (hD wAG p0.Splits)) (dd:Sl U 3 aJ aL p0.Clocks.length (hD wAA p0.Clocks)) (gO:Sl U 4 a7 a8 p0.Readings.length (hD wAB p0.Readings)) (de:SlR U wHb aq au p1) (df:Sl U 1 aK aM p2.length (hD KL.encI p2)) {r:Bool} (hm:wBQ p0 p1 p2=some r):Gv Try.prog 24 [.agg #[.slice bn p0.Starts.length bo,.slice aT p0.Splits.length aU,.slice aJ p0.Clocks.length aL,.slice a7 p0.Readings.length a8],.slice aq p1.length au,.slice aK p2.length aM] w (wCB w [] U (fun U_ L_ v=>v=.bool r/\L_=[])):=by
 unfold wBQ at hm
 refine Gv.of Try.func24 Z Try.ntmps24 Try.results24 Z (sR gDt Z ?_)
 let B0:List Value:=[.slice bn p0.Starts.length bo,.slice aT p0.Splits.length aU,.slice aJ p0.Clocks.length aL,.slice a7 p0.Readings.length a8]
 refine zu (cs:=B0) rfl rfl rfl rfl rfl rfl (by rfl) hS ?_
 intro W1 b2 be
 refine oA Z Z (eN (zM (sR fL14 Z (oM Z Z (oR Z (zz Z Z Zg) (oR Z (zJ Z Z zQ Z zq) (oL Z (be.ldB (j:=0) Z Z Z zy (v:=.slice bn p0.Starts.length bo) Z) (oR Z (zz Z Z zH) (oR Z (ZN Z Z Z) (oM Z Z ?_))))))))))
 by_cases c5:(↑p1.length:Int)=(↑p0.Starts.length:Int)
 have dm:=hm;rw [if_pos c5] at dm;replace c5:=zS c5
 refine zr Z Z Z (zF Z Z (zd (fun h=>h c5.out))) Z Z (zY Z Z Z (zF Z Z (zd (fun h=>h c5.out))) (fun _=>zz Z Z zH) (zY Z Z Z (zF Z Z (zd (fun h=>h c5.out))) (fun _=>zJ Z Z zQ Z Zm) (zl Z Z Z (zF Z Z (zd (fun h=>h c5.out))) (be.ldB (j:=0) Z Z Z yA (v:=.slice aJ p0.Clocks.length aL) Z) Z (zY Z Z Z (zF Z Z (zd (fun h=>h c5.out))) (fun _=>zz Z Z ZR) (zY Z Z Z (zF Z Z (zd (fun h=>h c5.out))) (fun _=>ZN Z Z Z) (oR Z (zb Z (zd (fun h=>h c5.out)) Z) (eN (ifc dm ?_ ?_))))))))
 intro c7 aQ
 refine zn (zd (fun h=>h c7.out)) (kN (zM (sR fL3 Z (oM Z Z (oR Z (zz Z Z Zg) (oM Z Z (eN (zc ?_))))))))
 have q:=wBg aQ
 obtain ⟨lg,aP⟩:=q
 have q:=wBf aP
 obtain ⟨cb,gT⟩:=q
 replace cb:=zS cb
 refine yL (fun az _ σ_ w_=>∃ (U_:PHeap),σ_ 32=jV (↑az:Int)/\σ_ 1=.slice aq p1.length au/\σ_ 2=.slice aK p2.length aM/\σ_ 3=.pointer (some ⟨b2,0,none⟩)/\σ_ 30=.slice aq p1.length au/\σ_ 31=jV (↑p1.length:Int)/\PHeap.Le U U_/\sW w U U_ [.blk b2 28 B0] w_) gT ?_ ?_ ?_
 exact ⟨U,Z,Z,Z,Z,Z,Z,(zW _),be⟩
 rintro az ⟨⟩ ln lu ct bX ⟨bb,br,eB,eD,bq,cE,cG,bz,c6⟩ dn bg
 try dsimp only at dn
 have cx:Hid ((↑az:Int) < (↑p1.length:Int)):=zS (wBD bX)
 replace bX:=zS bX
 have gY:Hid (w64 ((↑az:Int) + 1)=(↑(az + 1):Int)):=zS (by have h1:=cb.out;have h2:=cx.out;rw [wAU] <;> omega)
 refine sR fL1 Z (oR Z (zh Z br cG) (eN (zM (cT Z cx (kN (zM (zc (sR fL5 Z (oM Z br (bnK dn fun bD cR iE=>?_))))))))))
 have fy:=de.le bz
 have q:=fy.el (wAW cR)
 obtain ⟨dE,i2,lm,f5,bV,iV⟩:=q
 obtain ⟨bB,bC,rfl,cU⟩:=iV
 replace bV:Cl bb dE (i2 + az * 1) [.slice bB bD.length bC]:=bV
 refine zY rfl rfl rfl rfl (fun _=>Zi rfl cE f5 br Zg zq (wBi cR)) (zl rfl rfl rfl rfl (c6.ldC (f:=0) bV (v:=.slice bB bD.length bC) rfl rfl zy rfl) rfl (yD rfl rfl rfl rfl rfl rfl (yD rfl rfl rfl rfl rfl rfl (eN (zM (zM (ZA ZB [3,3,3,1,3,3,3,3,3,3,1,3,1,3,3,1,3,3] fL18 (by kernel_rfl) ?_)))))))
 have aw:=c6.drew
 generalize hw_W46:({ ct with drawn:=ct.drawn + 1 }:World)=jy at aw ⊢
 refine oM Z Z (oR Z (zz Z Z zH) (oR Z (zJ Z bq zQ Z yE) (oL Z (aw.ldB (j:=0) Z Z Z yS (v:=.slice aT p0.Splits.length aU) Z) (oR Z (zz Z Z ZQ) (oR Z (zf Z Z Z) (oR Z (ZN Z Z Z) (oM Z Z (ifc iE ?_ ?_))))))))
 intro af iQ
 refine zr Z Z Z (zF Z Z (zd (fun h=>h af.out))) Z Z (bnK iQ fun jh cV iR=>?_)
 have q:=cU.el (fun _=>rfl) (wAW cV)
 obtain ⟨jO,k9,f9,gz⟩:=q
 refine zY Z Z Z (zF Z Z (zd (fun h=>h af.out))) (fun _=>Zi Z Z f9 Z zH zC (wBi cV)) (zl Z Z Z (zF Z Z (zd (fun h=>h af.out))) (aw.ldC (f:=0) gz (v:=jV jh) Z Z zG Z) Z (zY Z Z Z (zF Z Z (zd (fun h=>h af.out))) (fun _=>zJ Z bq zQ Z zq) (zl Z Z Z (zF Z Z (zd (fun h=>h af.out))) (aw.ldB (j:=0) Z Z Z zy (v:=.slice bn p0.Starts.length bo) Z) Z (zr Z Z Z (zF Z Z (zd (fun h=>h af.out))) Z Z (bnK iR fun ji cW iS=>?_)))))
 have fI:=gM.le bz
 have q:=fI.el (fun _=>rfl) (wAW cW)
 obtain ⟨jP,lc,ga,gA⟩:=q
 refine zY Z Z Z (zF Z Z (zd (fun h=>h af.out))) (fun _=>Zi Z Z ga Z zH zC (wBi cW)) (zl Z Z Z (zF Z Z (zd (fun h=>h af.out))) (aw.ldC (f:=0) gA (v:=jV ji) Z Z zG Z) Z (zY Z Z Z (zF Z Z (zd (fun h=>h af.out))) (fun _=>ZN Z Z Z) (oR Z (zb Z (zd (fun h=>h af.out)) Z) (eN (ifc iS ?_ ?_)))))
 intro bK bj
 refine zn (zd (fun h=>h bK.out)) (kN (sR fL4 Z (oR Z (zJ Z bq zQ Z yE) (oL Z (aw.ldB (j:=0) Z Z Z yS (v:=.slice aT p0.Splits.length aU) Z) (oR Z (zz Z Z ZQ) (oM Z Z (eN (zc ?_))))))))
 have q:=wBg bj
 obtain ⟨lj,bf⟩:=q
 have q:=wBf bf
 obtain ⟨cf,gW⟩:=q
 replace cf:=zS cf
 refine yL (fun aS _ σ_ w_=>∃ (U_:PHeap),σ_ 58=jV (↑aS:Int)/\σ_ 1=.slice aq p1.length au/\σ_ 2=.slice aK p2.length aM/\σ_ 3=.pointer (some ⟨b2,0,none⟩)/\σ_ 8=.slice bB bD.length bC/\σ_ 30=.slice aq p1.length au/\σ_ 31=jV (↑p1.length:Int)/\σ_ 32=jV (↑az:Int)/\σ_ 56=.slice aT p0.Splits.length aU/\σ_ 57=jV (↑p0.Splits.length:Int)/\PHeap.Le bb U_/\sW w U U_ [.blk b2 28 B0] w_) gW ?_ ?_ ?_
 exact ⟨bb,Z,eB,eD,bq,Z,cE,cG,br,Z,Z,(zW _),aw⟩
 rintro aS ⟨⟩ ls lD jz ca ⟨bd,bt,eU,eV,eW,eX,eY,eZ,fb,cM,cN,ci,db⟩ dr bW
 try dsimp only at dr
 have cz:Hid ((↑aS:Int) < (↑p0.Splits.length:Int)):=zS (wBD ca)
 replace ca:=zS ca
 have bx:Hid (w64 ((↑aS:Int) + 1)=(↑(aS + 1):Int)):=zS (by have h1:=cf.out;have h2:=cz.out;rw [wAU] <;> omega)
 refine sR fL1 Z (oR Z (zh Z bt cN) (eN (zM (cT Z cz (kN (zM (zc (sR (wCa gDz) Z (oM Z bt (bnK dr fun a9 cX iT=>?_))))))))))
 have fJ:=gN.le bz
 have fK:=fJ.le ci
 have q:=fK.el (fun _=>rfl) (wAW cX)
 obtain ⟨jQ,lf,fL,gb⟩:=q
 refine oR Z (Zi Z cM fL bt ZQ zj (wBi cX)) (oL Z (db.ldCA (f:=0) gb Z Z Zn zj (us:=[jV a9.Lo,jV a9.Hi]) Z Z) (zT (cs:=[jV 0,jV 0]) Z Z Z Z Z ZJ Z db ?_))
 intro jk cu gB
 refine oA Z Z ?_
 let B1:List Value:=[jV a9.Lo,jV a9.Hi]
 refine zV (j:=0) (vs:=B1) Z Z Z Z gB Z Z Z Z zj (zA Z) Z Z Z ?_
 intro bE gC
 have gD:sW w U bd [.blk cu 41 B1,.blk b2 28 B0] bE:=gC
 refine eN (zM (yX fun ap ao=>?_))
 have dV:ap 1=.slice aq p1.length au:=(ao 1).trans eU
 have dW:ap 2=.slice aK p2.length aM:=(ao 2).trans eV
 have dX:ap 3=.pointer (some ⟨b2,0,none⟩):=(ao 3).trans eW
 have aO:ap 8=.slice bB bD.length bC:=(ao 8).trans eX
 have aV:ap 9=jV (↑aS:Int):=(ao 9).trans rfl
 have cA:ap 10=.pointer (some ⟨cu,0,none⟩):=(ao 10).trans rfl
 have dY:ap 30=.slice aq p1.length au:=(ao 30).trans eY
 have dZ:ap 31=jV (↑p1.length:Int):=(ao 31).trans eZ
 have d7:ap 32=jV (↑az:Int):=(ao 32).trans fb
 have d9:ap 56=.slice aT p0.Splits.length aU:=(ao 56).trans cM
 have ec:ap 57=jV (↑p0.Splits.length:Int):=(ao 57).trans cN
 have ef:ap 58=jV (↑aS:Int):=(ao 58).trans bt
 clear ao
 refine ZA ZB [3,3,3,3,1,3,3,3,1,3,3,3,3,3,3,1,3,3,3,1,3,3,1,3,3,3,3,3,3,3,1,3,3,3,1,3,3,1,3,3] fL40 (by kernel_rfl) ?_
 have an:=gD.drew
 generalize hw_W124:({ bE with drawn:=bE.drawn + 1 }:World)=jl at an ⊢
 refine oM Z aO (oM Z aV (oR Z (ZS (zf Z Z Z) (congrArg (jV) bx.out)) (bnK iT fun cj aW g6=>?_)))
 have aX:=cU.le ci
 have q:=aX.el (fun _=>rfl) (wAW aW)
 obtain ⟨jA,j1,fM,ge⟩:=q
 refine oR Z (Zi Z Z fM Z zH zC (wBi aW)) (oL Z (an.ldC (f:=0) ge (v:=jV cj) Z Z zG Z) (oM Z aO (oM Z aV (bnK g6 fun cm aY g7=>?_))))
 have q:=aX.el (fun _=>rfl) (wAW aY)
 obtain ⟨jB,j2,fN,gf⟩:=q
 refine oR Z (Zi Z Z fN Z zH zC (wBi aY)) (oL Z (an.ldC (f:=0) gf (v:=jV cm) Z Z zG Z) (oR Z (zh Z Z Z) (oM Z Z (ifc g7 ?_ ?_))))
 intro ab g8
 refine oT Z ab (oT Z ab (oT Z ab (oT Z ab (oT Z ab (oT Z ab (oT Z ab (oT Z ab (oT Z ab (oT Z ab (oT Z ab (oT Z ab (oT Z ab (oR Z (zR Z (Zh ab.out) Z) (oM Z Z (oN Z (oN Z (oN Z (oN Z (oN Z (oN Z (oN Z (oN Z (oN Z (oN Z (oN Z (oN Z (oN Z (oR Z (zR Z Z Z) (eN (ZD Z (sR fL1 Z (oA Z Z (eN (zU (zX (zN ?_))))))))))))))))))))))))))))))))))))
 have q:=wAV g8
 obtain ⟨i3,g9,dJ⟩:=q
 obtain rfl:=wAk bj bf (bW i3 dJ)
 refine zN (zX (zX (zN ?_)))
 have q:=wAV g9
 obtain ⟨i4,ib,dK⟩:=q
 obtain rfl:=wAk aQ aP (bg i4 dK)
 refine zN (zX (zN ?_))
 have hE:=nA ib;first | subst r | cases hE
 exact ⟨rfl,_,(ZL rfl),bd,_,(an.pick [] _ (by decide) rfl),rfl,rfl⟩
 intro ab ic
 refine zr Z Z Z (wF Z ab) Z aO (zr Z Z Z (wF Z ab) Z aV (rU Z (wF Z ab) (ZS (zf Z Z Z) (congrArg (jV) bx.out)) ?_))
 have q:=aX.el (fun _=>rfl) (wAW aW)
 obtain ⟨jC,j3,fO,gg⟩:=q
 refine rU Z (wF Z ab) (Zi Z Z fO Z zH zC (wBi aW)) (zl Z Z Z (wF Z ab) (an.ldC (f:=0) gg (v:=jV cj) Z Z zG Z) Z (zr Z Z Z (wF Z ab) Z aO (zr Z Z Z (wF Z ab) Z aV ?_)))
 have q:=aX.el (fun _=>rfl) (wAW aY)
 obtain ⟨jD,j4,fP,gh⟩:=q
 refine rU Z (wF Z ab) (Zi Z Z fP Z zH zC (wBi aY)) (zl Z Z Z (wF Z ab) (an.ldC (f:=0) gh (v:=jV cm) Z Z zG Z) Z (rU Z (wF Z ab) (yH Z Z Z) (rU Z (wF Z ab) (zJ Z cA ZK Z zC) (zl Z Z Z (wF Z ab) (an.ldB (j:=0) Z Z Z zG (v:=jV a9.Lo) Z) Z (rU Z (wF Z ab) (zh Z Z Z) (oR Z (zb Z (zd ab.out) Z) (oM Z Z (ifc ic ?_ ?_))))))))
 intro ac ie
 refine oT Z ac (oT Z ac (oT Z ac (oT Z ac (oT Z ac (oT Z ac (oT Z ac (oT Z ac (oT Z ac (oT Z ac (oT Z ac (oT Z ac (oT Z ac (oR Z (zR Z (Zh ac.out) Z) (eN (ZD Z (sR fL1 Z (oA Z Z (eN (zU (zX (zN ?_)))))))))))))))))))))
 have q:=wAV ie
 obtain ⟨i5,ig,dL⟩:=q
 obtain rfl:=wAk bj bf (bW i5 dL)
 refine zN (zX (zX (zN ?_)))
 have q:=wAV ig
 obtain ⟨i6,ii,dM⟩:=q
 obtain rfl:=wAk aQ aP (bg i6 dM)
 refine zN (zX (zN ?_))
 have hE:=nA ii;first | subst r | cases hE
 exact ⟨rfl,_,(ZL rfl),bd,_,(an.pick [] _ (by decide) rfl),rfl,rfl⟩
 intro ac ij
 refine zr Z Z Z (wF Z ac) Z aO (zr Z Z Z (wF Z ac) Z aV (rU Z (wF Z ac) (ZS (zf Z Z Z) (congrArg (jV) bx.out)) ?_))
 have q:=aX.el (fun _=>rfl) (wAW aW)
 obtain ⟨jE,j5,fQ,gi⟩:=q
 refine rU Z (wF Z ac) (Zi Z Z fQ Z zH zC (wBi aW)) (zl Z Z Z (wF Z ac) (an.ldC (f:=0) gi (v:=jV cj) Z Z zG Z) Z (zr Z Z Z (wF Z ac) Z aO (zr Z Z Z (wF Z ac) Z aV ?_)))
 have q:=aX.el (fun _=>rfl) (wAW aY)
 obtain ⟨jF,j6,fR,gj⟩:=q
 refine rU Z (wF Z ac) (Zi Z Z fR Z zH zC (wBi aY)) (zl Z Z Z (wF Z ac) (an.ldC (f:=0) gj (v:=jV cm) Z Z zG Z) Z (rU Z (wF Z ac) (yH Z Z Z) (rU Z (wF Z ac) (zJ Z cA ZK Z zC) (zl Z Z Z (wF Z ac) (an.ldB (j:=0) Z Z Z zG (v:=jV a9.Hi) Z) Z (rU Z (wF Z ac) (yn Z Z Z) (oR Z (zb Z (zd ac.out) Z) (eN (ifc ij ?_ ?_))))))))
 intro bH ik
 refine cT Z bH (sR fL1 Z (oA Z Z (eN (zU (zX (zN ?_))))))
 have q:=wAV ik
 obtain ⟨i7,il,dN⟩:=q
 obtain rfl:=wAk bj bf (bW i7 dN)
 refine zN (zX (zX (zN ?_)))
 have q:=wAV il
 obtain ⟨i8,im,dO⟩:=q
 obtain rfl:=wAk aQ aP (bg i8 dO)
 refine zN (zX (zN ?_))
 have hE:=nA im;first | subst r | cases hE
 exact ⟨rfl,_,(ZL rfl),bd,_,(an.pick [] _ (by decide) rfl),rfl,rfl⟩
 intro bH io
 refine cF Z bH (Zl (ZH (zL (rR fL2 Z (oR Z (ZS (zf Z ef Z) (congrArg (jV) bx.out)) (oM Z Z (zg ?_)))))))
 obtain rfl:=nA io
 exact zL ⟨rfl,_,rfl,⟨bd,rfl,dV,dW,dX,aO,dY,dZ,d7,d9,ec,ci,(an.pick [1] _ (by decide) rfl)⟩⟩
 rintro ⟨⟩ lv jm ⟨dz,fc,eg,eh,ej,jR,ek,en,eo,jS,ep,iY,gE⟩ gP
 have di:=wCV bj bf gP
 try dsimp only at di
 have dF:Hid (¬ ((↑(((↑p0.Splits.length:Int):Int) - 0).toNat:Int) < (↑p0.Splits.length:Int))):=zS (wAh)
 refine sR fL1 Z (oR Z (zh Z fc ep) (eN (zM (cF Z dF (Zf (zx (zx (Zc (ZH (zL (rR fL2 Z (oR Z (ZS (zf Z eo Z) (congrArg (jV) gY.out)) (oM Z Z (zg ?_))))))))))))))
 obtain rfl:=nA di
 exact zL ⟨Z,_,Z,⟨dz,Z,eg,eh,ej,ek,en,(bz.trans iY),gE⟩⟩
 intro bK ip
 refine cT Z bK (sR fL1 Z (oA Z Z (eN (zU (zN (zX (zN ?_)))))))
 have q:=wAV ip
 obtain ⟨i9,iq,dP⟩:=q
 obtain rfl:=wAk aQ aP (bg i9 dP)
 refine zN (zX (zN ?_))
 have hE:=nA iq;first | subst r | cases hE
 exact ⟨rfl,_,(ZL rfl),bb,_,(aw.pick [] _ (by decide) rfl),rfl,rfl⟩
 intro af ir
 refine oT Z af (oT Z af (oT Z af (oT Z af (oT Z af (oT Z af (oT Z af (oT Z af (oT Z af (oR Z (zR Z (Zh af.out) Z) (eN (ZD Z (sR fL1 Z (oA Z Z (eN (zU (zN (zX (zN ?_))))))))))))))))))
 have q:=wAV ir
 obtain ⟨ja,it,dQ⟩:=q
 obtain rfl:=wAk aQ aP (bg ja dQ)
 refine zN (zX (zN ?_))
 have hE:=nA it;first | subst r | cases hE
 exact ⟨rfl,_,(ZL rfl),bb,_,(aw.pick [] _ (by decide) rfl),rfl,rfl⟩
 rintro ⟨⟩ lw jo ⟨cq,fd,er,eu,cB,jT,ew,a6,cY⟩ gQ
 have bh:=wCV aQ aP gQ
 try dsimp only at bh
 have dG:Hid (¬ ((↑(((↑p1.length:Int):Int) - 0).toNat:Int) < (↑p1.length:Int))):=zS (wAh)
 refine sR fL1 Z (oR Z (zh Z fd ew) (eN (zM (cF Z dG (Zf (zx (zx (Zc (zL (zM (sR fL4 Z (oR Z (zJ Z cB zQ Z Zm) (oL Z (cY.ldB (j:=0) Z Z Z yA (v:=.slice aJ p0.Clocks.length aL) Z) (oR Z (zz Z Z ZR) (oM Z Z (eN (zc ?_)))))))))))))))))
 have q:=wBg bh
 obtain ⟨lh,bv⟩:=q
 have q:=wBf bv
 obtain ⟨cc,gU⟩:=q
 replace cc:=zS cc
 refine yL (fun bk _ σ_ w_=>∃ (U_:PHeap),σ_ 108=jV (↑bk:Int)/\σ_ 1=.slice aq p1.length au/\σ_ 2=.slice aK p2.length aM/\σ_ 3=.pointer (some ⟨b2,0,none⟩)/\σ_ 106=.slice aJ p0.Clocks.length aL/\σ_ 107=jV (↑p0.Clocks.length:Int)/\PHeap.Le cq U_/\sW w U U_ [.blk b2 28 B0] w_) gU ?_ ?_ ?_
 exact ⟨cq,Z,er,eu,cB,Z,Z,(zW _),cY⟩
 rintro bk ⟨⟩ lp lx jp bY ⟨bp,bs,ey,bM,eA,cC,cD,cg,cZ⟩ dp dg
 try dsimp only at dp
 have cw:Hid ((↑bk:Int) < (↑p0.Clocks.length:Int)):=zS (wBD bY)
 replace bY:=zS bY
 have gX:Hid (w64 ((↑bk:Int) + 1)=(↑(bk + 1):Int)):=zS (by have h1:=cc.out;have h2:=cw.out;rw [wAU] <;> omega)
 refine sR fL1 Z (oR Z (zh Z bs cD) (eN (zM (cT Z cw (kN (zM (zc (sR (wCa gDz) Z (oM Z bs (bnK dp fun aN cO iu=>?_))))))))))
 have fh:=dd.le a6
 have fj:=fh.le cg
 have q:=fj.el (fun _=>rfl) (wAW cO)
 obtain ⟨jG,j7,fS,gp⟩:=q
 refine oR Z (Zi Z cC fS bs ZR Zw (wBi cO)) (oL Z (cZ.ldCA (f:=0) gp Z Z Try.isAgg43 Zw (us:=[jV aN.Offset.Lo,jV aN.Offset.Hi,jV aN.Error]) Z Z) (zT (cs:=[jV 0,jV 0,jV 0]) Z Z Z Z Z yd Z cZ ?_))
 intro jq dB gF
 refine oA Z Z ?_
 let B2:List Value:=[jV aN.Offset.Lo,jV aN.Offset.Hi,jV aN.Error]
 refine zV (j:=0) (vs:=B2) Z Z Z Z gF Z Z Z Z Zw (zA Z) Z Z Z ?_
 intro bF gG
 have gH:sW w U bp [.blk dB 43 B2,.blk b2 28 B0] bF:=gG
 refine eN (zM (ZA ZB [3,3,3,1,3,3,1,3,3,3,3,3,1,3,3,1,3,3] fL18 (by kernel_rfl) ?_))
 have ay:=gH.drew
 generalize hw_W263:({ bF with drawn:=bF.drawn + 1 }:World)=jr at ay ⊢
 refine oM Z bM (oM Z Z (bnK iu fun dv bu iv=>?_))
 have fk:=df.le a6
 have cP:=fk.le cg
 have q:=cP.el (fun _=>rfl) (wAW bu)
 obtain ⟨jH,j8,fT,gq⟩:=q
 refine oR Z (Zi Z Z fT Z zH zC (wBi bu)) (oL Z (ay.ldC (f:=0) gq (v:=jV dv) Z Z zG Z) (oR Z (zJ Z Z Zy Z zj) (oR Z (zJ Z Z ZK Z zC) (oL Z (ay.ldB (j:=0) Z Z Z zG (v:=jV aN.Offset.Lo) Z) (oR Z (zh Z Z Z) (oM Z Z (ifc iv ?_ ?_)))))))
 intro ah iw
 refine oT Z ah (oT Z ah (oT Z ah (oT Z ah (oT Z ah (oT Z ah (oT Z ah (oT Z ah (oR Z (zR Z (Zh ah.out) Z) (eN (ZD Z (sR fL1 Z (oA Z Z (eN (zU (zX (zN ?_))))))))))))))))
 have q:=wAV iw
 obtain ⟨jb,iy,dR⟩:=q
 obtain rfl:=wAk bh bv (dg jb dR)
 refine zN (zX (zN ?_))
 have hE:=nA iy;first | subst r | cases hE
 exact ⟨rfl,_,(ZL rfl),bp,_,(ay.pick [] _ (by decide) rfl),rfl,rfl⟩
 intro ah iz
 refine zr Z Z Z (wF Z ah) Z bM (zr Z Z Z (wF Z ah) Z Z ?_)
 have q:=cP.el (fun _=>rfl) (wAW bu)
 obtain ⟨jI,j9,fU,gt⟩:=q
 refine rU Z (wF Z ah) (Zi Z Z fU Z zH zC (wBi bu)) (zl Z Z Z (wF Z ah) (ay.ldC (f:=0) gt (v:=jV dv) Z Z zG Z) Z (rU Z (wF Z ah) (zJ Z Z Zy Z zj) (rU Z (wF Z ah) (zJ Z Z ZK Z zC) (zl Z Z Z (wF Z ah) (ay.ldB (j:=0) Z Z Z zG (v:=jV aN.Offset.Hi) Z) Z (rU Z (wF Z ah) (yn Z Z Z) (oR Z (zb Z (zd ah.out) Z) (eN (ifc iz ?_ ?_))))))))
 intro bI iA
 refine cT Z bI (sR fL1 Z (oA Z Z (eN (zU (zX (zN ?_))))))
 have q:=wAV iA
 obtain ⟨jc,iB,dS⟩:=q
 obtain rfl:=wAk bh bv (dg jc dS)
 refine zN (zX (zN ?_))
 have hE:=nA iB;first | subst r | cases hE
 exact ⟨rfl,_,(ZL rfl),bp,_,(ay.pick [] _ (by decide) rfl),rfl,rfl⟩
 intro bI iC
 refine cF Z bI (Zl (ZH (zL (rR fL2 Z (oR Z (ZS (zf Z bs Z) (congrArg (jV) gX.out)) (oM Z Z (zg ?_)))))))
 obtain rfl:=nA iC
 exact zL ⟨rfl,_,rfl,⟨bp,rfl,ey,bM,eA,cC,cD,cg,(ay.pick [1] _ (by decide) rfl)⟩⟩
 rintro ⟨⟩ ly jt ⟨cr,ff,eE,eG,cH,jU,eH,bA,c8⟩ gR
 have bi:=wCV bh bv gR
 try dsimp only at bi
 have dH:Hid (¬ ((↑(((↑p0.Clocks.length:Int):Int) - 0).toNat:Int) < (↑p0.Clocks.length:Int))):=zS (wAh)
 refine sR fL1 Z (oR Z (zh Z ff eH) (eN (zM (cF Z dH (Zf (zx (zx (Zc (zL (zM (sR fL4 Z (oR Z (zJ Z cH zQ Z Zr) (oL Z (c8.ldB (j:=0) Z Z Z yM (v:=.slice a7 p0.Readings.length a8) Z) (oR Z (zz Z Z ZX) (oM Z Z (eN (zc ?_)))))))))))))))))
 have q:=wBg bi
 obtain ⟨li,bw⟩:=q
 have q:=wBf bw
 obtain ⟨cd,gV⟩:=q
 replace cd:=zS cd
 refine yL (fun a5 _ σ_ w_=>∃ (U_:PHeap),σ_ 135=jV (↑a5:Int)/\σ_ 1=.slice aq p1.length au/\σ_ 2=.slice aK p2.length aM/\σ_ 3=.pointer (some ⟨b2,0,none⟩)/\σ_ 133=.slice a7 p0.Readings.length a8/\σ_ 134=jV (↑p0.Readings.length:Int)/\PHeap.Le cr U_/\sW w U U_ [.blk b2 28 B0] w_) gV ?_ ?_ ?_
 exact ⟨cr,Z,eE,eG,cH,Z,Z,(zW _),c8⟩
 rintro a5 ⟨⟩ lq lz ju bZ ⟨bc,bP,cI,cJ,bN,cK,cL,bm,da⟩ dq dh
 try dsimp only at dq
 have cy:Hid ((↑a5:Int) < (↑p0.Readings.length:Int)):=zS (wBD bZ)
 replace bZ:=zS bZ
 have gZ:Hid (w64 ((↑a5:Int) + 1)=(↑(a5 + 1):Int)):=zS (by have h1:=cd.out;have h2:=cy.out;rw [wAU] <;> omega)
 refine sR fL1 Z (oR Z (zh Z bP cL) (eN (zM (cT Z cy (kN (zM (zc (sR gEi Z (bnK dq fun ak cQ iD=>?_)))))))))
 have fm:=gO.le a6
 have fq:=fm.le bA
 have ft:=fq.le bm
 have q:=ft.el (fun _=>rfl) (wAW cQ)
 obtain ⟨jJ,k3,fW,gu⟩:=q
 refine oR Z (Zi Z cK fW bP ZX Ze (wBi cQ)) (oL Z (da.ldCA (f:=0) gu Z Z yo Ze (us:=[jV ak.Skier,jV ak.Mat,jV ak.Clock,jV ak.Time]) Z Z) (zT (cs:=[jV 0,jV 0,jV 0,jV 0]) Z Z Z Z Z Zp Z da ?_))
 intro jv dC gI
 let B3:List Value:=[jV ak.Skier,jV ak.Mat,jV ak.Clock,jV ak.Time]
 refine zV (j:=0) (vs:=B3) Z Z Z Z gI Z Z Z Z Ze (zA Z) Z Z Z ?_
 intro bG gJ
 have gK:sW w U bc [.blk dC 39 B3,.blk b2 28 B0] bG:=gJ
 refine eN (zM (ZA ZB [3,1,3,3,1,3,1,3,1,3,1,3,3,3,1,3,1,3,3] fL19 (by kernel_rfl) ?_))
 have aj:=gK.drew
 generalize hw_W344:({ bG with drawn:=bG.drawn + 1 }:World)=jw at aj ⊢
 refine oR Z (zJ Z Z ZM Z zC) (oL Z (aj.ldB (j:=0) Z Z Z zG (v:=jV ak.Time) Z) (oM Z cI (oR Z (zJ Z Z ZM Z zC) (oL Z (aj.ldB (j:=0) Z Z Z zG (v:=jV ak.Skier) Z) (bnK iD fun dw bQ iF=>?_)))))
 have fu:=de.le a6
 have fw:=fu.le bA
 have fz:=fw.le bm
 have q:=fz.el (wAW bQ)
 obtain ⟨dD,iZ,lk,fY,bU,iU⟩:=q
 obtain ⟨dt,du,rfl,fA⟩:=iU
 replace bU:Cl bc dD (iZ + ak.Skier.toNat * 1) [.slice dt dw.length du]:=bU
 refine oR Z (ZO Z Z fY Z Zg zq (wBJ bQ) (wBL bQ)) (oL Z (aj.ldC (f:=0) bU (v:=.slice dt dw.length du) Z Z zy Z) (oR Z (zJ Z Z ZM Z zC) (oL Z (aj.ldB (j:=0) Z Z Z zG (v:=jV ak.Mat) Z) (bnK iF fun jf bR iG=>?_))))
 have q:=fA.el (fun _=>rfl) (wAW bR)
 obtain ⟨jK,k5,fZ,gv⟩:=q
 refine oR Z (ZO Z Z fZ Z zH zC (wBJ bR) (wBL bR)) (oL Z (aj.ldC (f:=0) gv (v:=jV jf) Z Z zG Z) (oR Z (yH Z Z Z) (oM Z cJ (oR Z (zJ Z Z ZM Z zC) (oL Z (aj.ldB (j:=0) Z Z Z zG (v:=jV ak.Clock) Z) (bnK iG fun jg bS iH=>?_))))))
 have fB:=df.le a6
 have fC:=fB.le bA
 have fD:=fC.le bm
 have q:=fD.el (fun _=>rfl) (wAW bS)
 obtain ⟨jL,k6,f4,gw⟩:=q
 refine oR Z (ZO Z Z f4 Z zH zC (wBJ bS) (wBL bS)) (oL Z (aj.ldC (f:=0) gw (v:=jV jg) Z Z zG Z) (oR Z (yH Z Z Z) (oA Z Z (eN (sR fL21 Z (oM Z Z (oR Z (zJ Z bN zQ Z Zm) (oL Z (aj.ldB (j:=1) Z Z Z yA (v:=.slice aJ p0.Clocks.length aL) Z) (oR Z (zJ Z Z ZM Z zC) (oL Z (aj.ldB (j:=0) Z Z Z zG (v:=jV ak.Clock) Z) (bnK iH fun dx aZ iI=>?_)))))))))))
 have fG:=dd.le a6
 have fH:=fG.le bA
 have cS:=fH.le bm
 have q:=cS.el (fun _=>rfl) (wAW aZ)
 obtain ⟨jM,k7,f6,gx⟩:=q
 refine oR Z (ZO Z Z f6 Z ZR Zw (wBJ aZ) (wBL aZ)) (oR Z (zJ Z Z Zy Z zC) (oL Z (aj.ldC (f:=2) gx (v:=jV dx.Error) Z Z zG Z) (oR Z (yn Z Z Z) (oM Z Z (ifc iI ?_ ?_)))))
 intro ae iJ
 refine oT Z ae (oT Z ae (oT Z ae (oT Z ae (oT Z ae (oT Z ae (oT Z ae (oT Z ae (oT Z ae (oT Z ae (oR Z (zR Z (Zh ae.out) Z) (eN (ZD Z (zM (yX fun lA iW=>?_))))))))))))))
 clear iW
 refine rR fL1 Z (oA Z Z (eN (zU (zX (zN ?_)))))
 have q:=wAV iJ
 obtain ⟨jd,iK,dT⟩:=q
 obtain rfl:=wAk bi bw (dh jd dT)
 refine zN (zX (zN ?_))
 have hE:=nA iK;first | subst r | cases hE
 exact ⟨rfl,_,(ZL rfl),bc,_,(aj.pick [] _ (by decide) rfl),rfl,rfl⟩
 intro ae iL
 refine zr Z Z Z (wF Z ae) Z Z (rU Z (wF Z ae) (Runs.negw Z Z) (rU Z (wF Z ae) (zJ Z bN zQ Z Zm) (zl Z Z Z (wF Z ae) (aj.ldB (j:=1) Z Z Z yA (v:=.slice aJ p0.Clocks.length aL) Z) Z (rU Z (wF Z ae) (zJ Z Z ZM Z zC) (zl Z Z Z (wF Z ae) (aj.ldB (j:=0) Z Z Z zG (v:=jV ak.Clock) Z) Z ?_)))))
 have q:=cS.el (fun _=>rfl) (wAW aZ)
 obtain ⟨jN,k8,f8,gy⟩:=q
 refine rU Z (wF Z ae) (ZO Z Z f8 Z ZR Zw (wBJ aZ) (wBL aZ)) (rU Z (wF Z ae) (zJ Z Z Zy Z zC) (zl Z Z Z (wF Z ae) (aj.ldC (f:=2) gy (v:=jV dx.Error) Z Z zG Z) Z (rU Z (wF Z ae) (yn Z Z Z) (oR Z (zb Z (zd ae.out) Z) (eN (ifc iL ?_ ?_))))))
 intro bJ iM
 refine cT Z bJ (zM (yX fun lB iX=>?_))
 clear iX
 refine rR fL1 Z (oA Z Z (eN (zU (zX (zN ?_)))))
 have q:=wAV iM
 obtain ⟨je,iN,dU⟩:=q
 obtain rfl:=wAk bi bw (dh je dU)
 refine zN (zX (zN ?_))
 have hE:=nA iN;first | subst r | cases hE
 exact ⟨rfl,_,(ZL rfl),bc,_,(aj.pick [] _ (by decide) rfl),rfl,rfl⟩
 intro bJ iO
 refine cF Z bJ (Zl (ZH (zL (yX fun ba aR=>?_))))
 have eI:ba 1=.slice aq p1.length au:=(aR 1).trans cI
 have eJ:ba 2=.slice aK p2.length aM:=(aR 2).trans cJ
 have eK:ba 3=.pointer (some ⟨b2,0,none⟩):=(aR 3).trans bN
 have eL:ba 133=.slice a7 p0.Readings.length a8:=(aR 133).trans cK
 have eM:ba 134=jV (↑p0.Readings.length:Int):=(aR 134).trans cL
 have eO:ba 135=jV (↑a5:Int):=(aR 135).trans bP
 clear aR
 refine rR fL2 Z (oR Z (ZS (zf Z eO Z) (congrArg (jV) gZ.out)) (oM Z Z (zg ?_)))
 obtain rfl:=nA iO
 exact zL ⟨rfl,_,rfl,⟨bc,rfl,eI,eJ,eK,eL,eM,bm,(aj.pick [1] _ (by decide) rfl)⟩⟩
 rintro ⟨⟩ lC jx ⟨dA,fg,jW,jX,jY,jZ,eQ,j0,gL⟩ gS
 have dk:=wCV bi bw gS
 try dsimp only at dk
 have dI:Hid (¬ ((↑(((↑p0.Readings.length:Int):Int) - 0).toNat:Int) < (↑p0.Readings.length:Int))):=zS (wAh)
 refine sR fL1 Z (oR Z (zh Z fg eQ) (eN (zM (cF Z dI (Zf (zx (zx (Zc (zL (sR fL1 Z (oA Z Z (eN (zU ?_)))))))))))))
 have hE:=nA dk;first | subst r | cases hE
 exact ⟨rfl,_,(ZL rfl),dA,_,(gL.pick [] _ (by decide) rfl),rfl,rfl⟩
 intro c7 iP
 refine cT Z c7 (sR fL1 Z (oA Z Z (eN (zU (zN ?_)))))
 have hE:=nA iP;first | subst r | cases hE
 exact ⟨rfl,_,(ZL rfl),U,_,(be.pick [] _ (by decide) rfl),rfl,rfl⟩
 have dl:=hm;rw [if_neg c5] at dl;replace c5:=zS c5
 refine oT Z c5 (oT Z c5 (oT Z c5 (oT Z c5 (oT Z c5 (oT Z c5 (oR Z (zR Z (Zh c5.out) Z) (eN (ZD Z (sR fL1 Z (oA Z Z (eN (zU (zN ?_)))))))))))))
 have hE:=nA dl;first | subst r | cases hE
 exact ⟨rfl,_,(ZL rfl),U,_,(be.pick [] _ (by decide) rfl),rfl,rfl⟩
end Go.Proofs.Ytlnfbjphfoipaaa
namespace Go.Proofs.Ytlnfbjphfoipaaa
open Go.KL
set_option maxHeartbeats 4000000
theorem wDU (p0:List wAI) (an:Option Addr) (ao:Nat) (p1:(wAI->Option Bool)) (ap:Value) (w:World) (U:PHeap) (hS:St0 w U []) (ba:Sl U 2 an ao p0.length (hD wAT p0)) (bb:FnOK Try.prog U ap wLd wLe p1) {r:Bool} (hm:wBI p0 p1=some r):Gv Try.prog 85 [.slice an p0.length ao,ap] w (wCB w [] U (fun U_ L_ v=>v=.bool r/\L_=[])):=by
 unfold wBI at hm
 refine Gv.of Try.func85 Z Try.ntmps85 Try.results85 Z (sR fL1 Z (oA Z Z (eN (zM (sR fL3 Z (oM Z Z (oR Z (zz Z Z Zq) (oM Z Z (eN (zc ?_))))))))))
 have q:=wBg hm
 obtain ⟨r3,ai⟩:=q
 have q:=wBf ai
 obtain ⟨ak,be⟩:=q
 replace ak:=zS ak
 refine yL (fun k2 _ σ_ w_=>∃ (U_:PHeap),σ_ 9=jV (↑k2:Int)/\σ_ 1=ap/\σ_ 7=.slice an p0.length ao/\σ_ 8=jV (↑p0.length:Int)/\PHeap.Le U U_/\sW w U U_ [] w_) be ?_ ?_ ?_
 exact ⟨U,Z,Z,Z,Z,(zW _),hS⟩
 rintro k2 ⟨⟩ bB bD W8 aj ⟨aO,ah,av,aw,ax,am,az⟩ aM bc
 try dsimp only at aM
 have au:Hid ((↑k2:Int) < (↑p0.length:Int)):=zS (wBD aj)
 replace aj:=zS aj
 have bf:Hid (w64 ((↑k2:Int) + 1)=(↑(k2 + 1):Int)):=zS (by have h1:=ak.out;have h2:=au.out;rw [wAU] <;> omega)
 refine sR fL1 Z (oR Z (zh Z ah ax) (eN (zM (cT Z au (kN (zM (zc (sR gEi Z (bnK aM fun ac ay bg=>?_)))))))))
 have aW:=ba.le am
 have q:=aW.el (fun _=>rfl) (wAW ay)
 obtain ⟨bs,bw,aZ,a5⟩:=q
 refine oR Z (Zi Z aw aZ ah Zq ZC (wBi ay)) (oL Z (az.ldCA (f:=0) a5 Z Z ZW ZC (us:=[jV ac.Skier,jV ac.Mat]) Z Z) (zT (cs:=[jV 0,jV 0]) Z Z Z Z Z Zb Z az ?_))
 intro bp aq a6
 let B0:List Value:=[jV ac.Skier,jV ac.Mat]
 refine zV (j:=0) (vs:=B0) Z Z Z Z a6 Z Z Z Z ZC (zA Z) Z Z Z ?_
 intro aQ a7
 have aJ:sW w U aO [.blk aq 45 B0] aQ:=a7
 refine eN (sR gEj Z (oM Z av (oL Z (aJ.ldBA (j:=0) Z Z Z ZW ZC (vs:=B0) Z Z) (bnK bg fun bA aX bh=>?_))))
 have aY:=bb.le am
 refine yv (a:=ac) Z Z Z Z Z Z (zB Z zK) aJ aY Z aX ?_
 rintro af bo bz aR bm a8 ⟨rfl,rfl⟩
 have aK:sW w U af [.blk aq 45 B0] aR:=a8
 refine oR Z (ZT Z Z) (eN (ifc bh ?_ ?_))
 intro ag bi
 refine zn (nC ag.out) (Zl (ZH (zL (rR fL2 Z (oR Z (ZS (zf Z ah Z) (congrArg (jV) bf.out)) (oM Z Z (zg ?_)))))))
 obtain rfl:=nA bi
 exact zL ⟨rfl,_,rfl,⟨af,rfl,av,aw,ax,(am.trans bm),(aK.pick [] _ (by decide) rfl)⟩⟩
 intro ag bj
 refine ZD (nF (ag.out)) (sR fL1 Z (oA Z Z (eN (zU (zX (zN ?_))))))
 have q:=wAV bj
 obtain ⟨bn,bk,aT⟩:=q
 obtain rfl:=wAk hm ai (bc bn aT)
 refine zN (zX (zN ?_))
 have hE:=nA bk;first | subst r | cases hE
 exact ⟨rfl,_,(ZL rfl),af,_,(aK.pick [] _ (by decide) rfl),rfl,rfl⟩
 rintro ⟨⟩ bC bq ⟨aP,aV,bt,bu,aU,bv,a9⟩ bd
 have aL:=wCV hm ai bd
 try dsimp only at aL
 have aS:Hid (¬ ((↑(((↑p0.length:Int):Int) - 0).toNat:Int) < (↑p0.length:Int))):=zS (wAh)
 refine sR fL1 Z (oR Z (zh Z aV aU) (eN (zM (cF Z aS (Zf (zx (zx (Zc (zL (sR fL1 Z (oA Z Z (eN (zU ?_)))))))))))))
 have hE:=nA aL;first | subst r | cases hE
 exact ⟨Z,_,(ZL Z),aP,_,a9,Z,Z⟩
theorem wCA (p0:wAY) (ak:Nat) (af:Option Addr) (am:Nat) (ag:Option Addr) (an:Nat) (ah:Option Addr) (ao:Nat) (ai:Option Addr) (ap:Nat) (ab:Nat) (ac:Array MapEntry) (ae:Nat) (aj:Option Addr) (aq:Nat) (w:World) (U:PHeap) (hS:St0 w U [.blk ak 124 [.slice af p0.Race.Starts.length am,.slice ag p0.Race.Splits.length an,.slice ah p0.Race.Clocks.length ao,.slice ai p0.Race.Readings.length ap,.map (some ab),.slice aj p0.edges.length aq],.obj ab (.map ac ae)]) (aX:Sl U 1 af am p0.Race.Starts.length (hD KL.encI p0.Race.Starts)) (aY:Sl U 2 ag an p0.Race.Splits.length (hD wAG p0.Race.Splits)) (aZ:Sl U 3 ah ao p0.Race.Clocks.length (hD wAA p0.Race.Clocks)) (a5:Sl U 4 ai ap p0.Race.Readings.length (hD wAB p0.Race.Readings)) (a6:MpR ac wBB wBC p0.number) (a7:Sl U 7 aj aq p0.edges.length (hD wAP p0.edges)) {r:Bool} (hm:wAx p0=some r):Gv Try.prog 63 [.pointer (some ⟨ak,0,none⟩)] w (wCB w [.blk ak 124 [.slice af p0.Race.Starts.length am,.slice ag p0.Race.Splits.length an,.slice ah p0.Race.Clocks.length ao,.slice ai p0.Race.Readings.length ap,.map (some ab),.slice aj p0.edges.length aq],.obj ab (.map ac ae)] U (fun U_ L_ v=>v=.bool r/\L_=[.blk ak 124 [.slice af p0.Race.Starts.length am,.slice ag p0.Race.Splits.length an,.slice ah p0.Race.Clocks.length ao,.slice ai p0.Race.Readings.length ap,.map (some ab),.slice aj p0.edges.length aq],.obj ab (.map ac ae)])):=by
 unfold wAx at hm
 refine Gv.of Try.func63 Z Try.ntmps63 Try.results63 Z (sR fL1 Z (oA Z Z (eN (sR (.fl 0 (.fx 1 (wKX gEg) .stop)) Z (oM Z Z ?_)))))
 have q:=bnd hm
 obtain ⟨⟨x3,x4,x5⟩,h6,aN⟩:=q
 try dsimp only at aN
 refine zE 2 Z Z Z Z (zD Z Z ye (zB Z (zB Z (zB Z zK))) Z) hS (fun hs=>wAb p0 ak af am ag an ah ao ai ap ab ac ae aj aq (-1) false w U hs aX aY aZ a5 a6 a7 h6) (.inl Z) ?_
 rintro U8 L9 bd aO bc aS ⟨aw,az,ax,aJ,rfl,rfl⟩
 let B0:Res:=.blk ak 124 [.slice af p0.Race.Starts.length am,.slice ag p0.Race.Splits.length an,.slice ah p0.Race.Clocks.length ao,.slice ai p0.Race.Readings.length ap,.map (some ab),.slice aj p0.edges.length aq]
 let B1:Res:=.row aw az 3 1 (hD KL.encI x3.far)
 let B2:Res:=.row ax aJ 3 1 (hD KL.encI x3.by_)
 have aT:SW w [B0,.obj ab (.map ac ae)] U U8 [B1,B2,B0,.obj ab (.map ac ae)] aO:=aS
 refine oM Z Z (oR Z (zP Z Z (v:=.agg #[.slice aw x3.far.length az,.slice ax x3.by_.length aJ]) Z) (oR Z (zP Z Z (v:=jV x4) Z) (oR Z (zP Z Z (v:=.bool x5) Z) (zT (cs:=[.slice none 0 0,.slice none 0 0]) Z Z Z Z Z Zd Z aT ?_))))
 intro bb aQ aU
 let B3:List Value:=[.slice aw x3.far.length az,.slice ax x3.by_.length aJ]
 refine zV (j:=0) (vs:=B3) Z Z Z Z aU Z Z Z Z Zj (zA Z) Z Z Z ?_
 intro aP aV
 have aW:SW w [B0,.obj ab (.map ac ae)] U U8 [.blk aQ 118 B3,B1,B2,B0,.obj ab (.map ac ae)] aP:=aV
 refine oA Z Z (oA Z Z (eN (sR fL2 Z (oM Z Z (oA Z Z (eN (zU ?_)))))))
 have hE:=nA aN;first | subst r | cases hE
 exact ⟨rfl,_,(ZL rfl),U8,_,(aW.pick [3,4] _ (by decide) rfl),rfl,rfl⟩
theorem wDL (p0:wAC) (am:Option Addr) (aq:Nat) (an:Option Addr) (au:Nat) (ao:Option Addr) (av:Nat) (ap:Option Addr) (aw:Nat) (p1:List wAI) (aP:Option Addr) (aQ:Nat) (w:World) (U:PHeap) (hS:St0 w U []) (be:Sl U 1 am aq p0.Starts.length (hD KL.encI p0.Starts)) (bf:Sl U 2 an au p0.Splits.length (hD wAG p0.Splits)) (bg:Sl U 3 ao av p0.Clocks.length (hD wAA p0.Clocks)) (bh:Sl U 4 ap aw p0.Readings.length (hD wAB p0.Readings)) (bA:Sl U 2 aP aQ p1.length (hD wAT p1)) {r:(Option wAY) × Int} (hm:wBw p0 p1=some r):Gv Try.prog 46 [.agg #[.slice am p0.Starts.length aq,.slice an p0.Splits.length au,.slice ao p0.Clocks.length av,.slice ap p0.Readings.length aw],.slice aP p1.length aQ] w (wCB w [] U (fun U_ L_ v=>match r.1 with | none=>v=.tuple #[.pointer none,jV r.2]/\L_=[] | some d=>∃ (b0:Nat) (A0p00:Option Addr) (c0p00:Nat) (A0p01:Option Addr) (c0p01:Nat) (A0p02:Option Addr) (c0p02:Nat) (A0p03:Option Addr) (c0p03:Nat) (m0p1:Nat) (es0p1:Array MapEntry) (ck0p1:Nat) (A0p2:Option Addr) (c0p2:Nat),v=.tuple #[.pointer (some ⟨b0,0,none⟩),jV r.2]/\L_=[.blk b0 124 [.slice A0p00 d.Race.Starts.length c0p00,.slice A0p01 d.Race.Splits.length c0p01,.slice A0p02 d.Race.Clocks.length c0p02,.slice A0p03 d.Race.Readings.length c0p03,.map (some m0p1),.slice A0p2 d.edges.length c0p2],.obj m0p1 (.map es0p1 ck0p1)]/\Sl U_ 1 A0p00 c0p00 d.Race.Starts.length (hD KL.encI d.Race.Starts)/\Sl U_ 2 A0p01 c0p01 d.Race.Splits.length (hD wAG d.Race.Splits)/\Sl U_ 3 A0p02 c0p02 d.Race.Clocks.length (hD wAA d.Race.Clocks)/\Sl U_ 4 A0p03 c0p03 d.Race.Readings.length (hD wAB d.Race.Readings)/\MpR es0p1 wBB wBC d.number/\Sl U_ 7 A0p2 c0p2 d.edges.length (hD wAP d.edges))):=by
 unfold wBw at hm
 refine Gv.of Try.func46 Z Try.ntmps46 Try.results46 Z (sR gDy Z ?_)
 let B0:List Value:=[.slice am p0.Starts.length aq,.slice an p0.Splits.length au,.slice ao p0.Clocks.length av,.slice ap p0.Readings.length aw]
 refine zu (cs:=B0) rfl rfl rfl rfl rfl rfl (by rfl) hS ?_
 intro W1 b2 bx
 refine oA Z Z (oA Z Z (eN (sR (.fl 0 (.fx 1 (wGM (.nil)) .stop)) Z (oL Z (bx.ldBA (j:=0) Z Z Z ze zZ (vs:=B0) Z Z) ?_))))
 have q:=bnd hm
 obtain ⟨⟨x5,x6⟩,h7,ax⟩:=q
 try dsimp only at ax
 refine zE 0 Z Z Z Z (zD Z Z Try.call60 (zB Z zK) Z) bx (fun hs=>wDK p0 am aq an au ao av ap aw W1 U hs be bf bg bh h7) (.inr Z) ?_
 rintro U9 cM cS aK ac bw bu
 rcases x5 with _ | ae
 try dsimp only at ax
 obtain ⟨rfl,rfl⟩:=bu
 have bc:sW w U U9 [.blk b2 28 B0] aK:=bw
 refine oM Z Z (oR Z (zP Z Z (v:=.pointer none) Z) (oR Z (zP Z Z (v:=jV x6) Z) (oA Z Z (oA Z Z (eN (zM (zc (sR fL3 Z (oM Z Z (oR Z (ZN Z Z Z) (oA Z Z (eN (ifc ax ?_ ?_)))))))))))))
 intro a8 cB
 refine zn (zd (fun h=>h a8.out)) (sR (wCa gEa) Z (oM Z Z (oL Z (bc.ldBA (j:=0) Z Z Z ze zZ (vs:=B0) Z Z) (oR Z (yc Z (zB Z zK) zK) ?_))))
 have bL:=bA.le ac
 have bM:=be.le ac
 have bN:=bf.le ac
 have bP:=bg.le ac
 have bQ:=bh.le ac
 have cn:FnOK Try.prog U9 (.func (.func 84) #[.agg B0.toArray] #[]) wLd wLe (fun x=>wAl p0 x):=⟨84,[.agg B0.toArray],[],rfl,Try.call84,fun U1 w1 x y vs le hs ha hm=>by obtain rfl:=ha;exact wCe p0 am aq an au ao av ap aw x w1 U1 hs (bM.le le) (bN.le le) (bP.le le) (bQ.le le) hm⟩
 refine bnK cB fun cW bR cC=>zE 0 Z Z Z Z (zD Z Z Try.call85 (zB Z (zB Z zK)) Z) bc (fun hs=>wDU p1 aP aQ (fun x=>wAl p0 x) (.func (.func 84) #[.agg B0.toArray] #[]) aK U9 hs bL cn bR) (.inr Z) ?_
 rintro bk cO cU bF cQ cq ⟨rfl,rfl⟩
 have cr:sW w U bk [.blk b2 28 B0] bF:=cq
 refine oR Z (ZT Z Z) (oA Z Z (eN (ifc cC ?_ ?_)))
 intro a9 cD
 refine zn (nC a9.out) (sR gEk Z (oM Z Z ?_))
 cases cD
 intro a9 cE
 refine ZD (nF (a9.out)) (sR fL2 Z (oA Z Z (oA Z Z (eN (zU (zX (zN ?_)))))))
 cases cE
 exact ⟨rfl,_,(wDv rfl rfl),bk,_,(cr.pick [] _ (by decide) rfl),rfl,rfl⟩
 intro a8 cG
 refine cT Z a8 (sR fL3 Z (oM Z Z (oA Z Z (oA Z Z (eN (zU (zX (zN ?_))))))))
 cases cG
 exact ⟨rfl,_,(wDv rfl rfl),U9,_,(bc.pick [] _ (by decide) rfl),rfl,rfl⟩
 try dsimp only at ax
 obtain ⟨aL,aR,aZ,aS,a5,aT,a6,aU,a7,ag,aj,ai,az,aM,rfl,rfl,bS,bU,bV,bW,bp⟩:=bu
 let B1:Res:=.blk aL 124 [.slice aR ae.Race.Starts.length aZ,.slice aS ae.Race.Splits.length a5,.slice aT ae.Race.Clocks.length a6,.slice aU ae.Race.Readings.length a7,.map (some ag),.slice az ae.edges.length aM]
 let B2:Res:=.row az aM 130 7 (hD wAP ae.edges)
 have bd:sW w U U9 [B1,.obj ag (.map aj ai),B2,.blk b2 28 B0] aK:=bw
 refine oM Z Z (oR Z (zP Z Z (v:=.pointer (some ⟨aL,0,none⟩)) Z) (oR Z (zP Z Z (v:=jV x6) Z) (oA Z Z (oA Z Z (eN (zM (zc (sR fL3 Z (oM Z Z (oR Z (ZN Z Z Z) (oA Z Z (eN (ifc ax ?_ ?_)))))))))))))
 intro ba cH
 refine zn (zd (fun h=>h ba.out)) (sR (wCa gEa) Z (oM Z Z (oL Z (bd.ldBA (j:=3) Z Z Z ze zZ (vs:=B0) Z Z) (oR Z (yc Z (zB Z zK) zK) ?_))))
 have bX:=bA.le ac
 have bY:=be.le ac
 have bZ:=bf.le ac
 have ca:=bg.le ac
 have cb:=bh.le ac
 have co:FnOK Try.prog U9 (.func (.func 84) #[.agg B0.toArray] #[]) wLd wLe (fun x=>wAl p0 x):=⟨84,[.agg B0.toArray],[],rfl,Try.call84,fun U1 w1 x y vs le hs ha hm=>by obtain rfl:=ha;exact wCe p0 am aq an au ao av ap aw x w1 U1 hs (bY.le le) (bZ.le le) (ca.le le) (cb.le le) hm⟩
 refine bnK cH fun cX cd cI=>zE 0 Z Z Z Z (zD Z Z Try.call85 (zB Z (zB Z zK)) Z) bd (fun hs=>wDU p1 aP aQ (fun x=>wAl p0 x) (.func (.func 84) #[.agg B0.toArray] #[]) aK U9 hs bX co cd) (.inr Z) ?_
 rintro bm cP cV aX aN ct ⟨rfl,rfl⟩
 have bz:sW w U bm [B1,.obj ag (.map aj ai),B2,.blk b2 28 B0] aX:=ct
 refine oR Z (ZT Z Z) (oA Z Z (eN (ifc cI ?_ ?_)))
 intro bb cJ
 refine zn (nC bb.out) (sR gEk Z (oM Z Z ?_))
 have q:=bz.freezeR (k:=2) (n:=ae.edges.length) rfl (wAE (f:=wAP) (sz:=7) (fun _=>rfl) ae.edges) (by decide)
 obtain ⟨bn,aO,bB,cu⟩:=q
 have cw:sW w U bn [B1,.obj ag (.map aj ai),.blk b2 28 B0] aX:=cu
 have cf:=bS.le aN
 have bq:=cf.le aO
 have cg:=bU.le aN
 have br:=cg.le aO
 have ci:=bV.le aN
 have bs:=ci.le aO
 have cj:=bW.le aN
 have bt:=cj.le aO
 refine bnK cJ fun cY cm cK=>zE 2 Z Z Z Z (zD Z Z Try.call63 (zB Z zK) Z) cw (fun hs=>wCA ae aL aR aZ aS a5 aT a6 aU a7 ag aj ai az aM aX bn hs bq br bs bt bp bB cm) (.inl Z) ?_
 rintro aW cN cR bE ay cp ⟨rfl,rfl⟩
 have bv:sW w U aW [B1,.obj ag (.map aj ai),.blk b2 28 B0] bE:=cp
 refine oR Z (ZT Z Z) (oA Z Z (eN (ifc cK ?_ ?_)))
 intro aY cx
 refine zn (nC aY.out) (Zl (ZH (zL (sR fL3 Z (oM Z Z (oA Z Z (oA Z Z (eN (zU ?_)))))))))
 have bG:=bq.le ay
 have bH:=br.le ay
 have bI:=bs.le ay
 have bJ:=bt.le ay
 have bK:=bB.le ay
 cases cx
 exact ⟨rfl,_,(wDv rfl rfl),aW,_,(bv.pick [0,1] _ (by decide) rfl),aL,aR,aZ,aS,a5,aT,a6,aU,a7,ag,aj,ai,az,aM,rfl,rfl,bG,bH,bI,bJ,bp,bK⟩
 intro aY cy
 refine ZD (nF (aY.out)) (sR fL2 Z (oA Z Z (oA Z Z (eN (zU (zX (zN ?_)))))))
 cases cy
 exact ⟨rfl,_,(wDv rfl rfl),aW,_,(bv.pick [] _ (by decide) rfl),rfl,rfl⟩
 intro bb cz
 refine ZD (nF (bb.out)) (sR fL2 Z (oA Z Z (oA Z Z (eN (zU (zX (zN ?_)))))))
 cases cz
 exact ⟨rfl,_,(wDv rfl rfl),bm,_,(bz.pick [] _ (by decide) rfl),rfl,rfl⟩
 intro ba cA
 refine cT Z ba (sR fL3 Z (oM Z Z (oA Z Z (oA Z Z (eN (zU (zX (zN ?_))))))))
 cases cA
 exact ⟨rfl,_,(wDv rfl rfl),U9,_,(bd.pick [] _ (by decide) rfl),rfl,rfl⟩
theorem wDH (p0:wAY) (av:Nat) (az:Option Addr) (aN:Nat) (aJ:Option Addr) (aO:Nat) (aK:Option Addr) (aP:Nat) (aL:Option Addr) (aQ:Nat) (ab:Nat) (ac:Array MapEntry) (ae:Nat) (aM:Option Addr) (aR:Nat) (p1:wAH) (p2:wAH) (w:World) (U:PHeap) (hS:St0 w U [.blk av 124 [.slice az p0.Race.Starts.length aN,.slice aJ p0.Race.Splits.length aO,.slice aK p0.Race.Clocks.length aP,.slice aL p0.Race.Readings.length aQ,.map (some ab),.slice aM p0.edges.length aR],.obj ab (.map ac ae)]) (bC:Sl U 1 az aN p0.Race.Starts.length (hD KL.encI p0.Race.Starts)) (bD:Sl U 2 aJ aO p0.Race.Splits.length (hD wAG p0.Race.Splits)) (bE:Sl U 3 aK aP p0.Race.Clocks.length (hD wAA p0.Race.Clocks)) (bF:Sl U 4 aL aQ p0.Race.Readings.length (hD wAB p0.Race.Readings)) (aS:MpR ac wBB wBC p0.number) (bG:Sl U 7 aM aR p0.edges.length (hD wAP p0.edges)) {r:wAJ} (hm:wAi p0 p1 p2=some r):Gv Try.prog 47 [.pointer (some ⟨av,0,none⟩),.agg #[jV p1.skier,jV p1.mat],.agg #[jV p2.skier,jV p2.mat]] w (wCB w [.blk av 124 [.slice az p0.Race.Starts.length aN,.slice aJ p0.Race.Splits.length aO,.slice aK p0.Race.Clocks.length aP,.slice aL p0.Race.Readings.length aQ,.map (some ab),.slice aM p0.edges.length aR],.obj ab (.map ac ae)] U (fun U_ L_ v=>v=.agg #[jV r.Lo,jV r.Hi]/\L_=[.blk av 124 [.slice az p0.Race.Starts.length aN,.slice aJ p0.Race.Splits.length aO,.slice aK p0.Race.Clocks.length aP,.slice aL p0.Race.Readings.length aQ,.map (some ab),.slice aM p0.edges.length aR],.obj ab (.map ac ae)])):=by
 unfold wAi at hm
 refine Gv.of Try.func47 Z Try.ntmps47 Try.results47 Z (sR (.fx 0 (.fx 1 (.fx 2 .nil .stop) .stop) .stop) Z ?_)
 let B0:List Value:=[jV p1.skier,jV p1.mat]
 refine zu (cs:=B0) rfl rfl rfl rfl rfl rfl (by rfl) hS ?_
 intro W3 b4 dH
 let B1:List Value:=[jV p2.skier,jV p2.mat]
 refine zu (cs:=B1) rfl rfl rfl rfl rfl rfl (by rfl) dH ?_
 intro W7 b8 dP
 let B2:List Value:=[jV 0,jV 0]
 refine zT (cs:=B2) Z Z Z Z Z ZJ Z dP ?_
 intro cj ai dr
 refine eN ?_
 have q:=bnd hm
 obtain ⟨⟨ay,bI⟩,dW,cH⟩:=q
 try dsimp only at cH
 let B3:Res:=.blk av 124 [.slice az p0.Race.Starts.length aN,.slice aJ p0.Race.Splits.length aO,.slice aK p0.Race.Clocks.length aP,.slice aL p0.Race.Readings.length aQ,.map (some ab),.slice aM p0.edges.length aR]
 refine yN (fun σ_ w_=>∃ (U_:PHeap) (ba:Nat) (aX:Option Addr) (aZ:Nat) (a8:Option Addr) (bc:Nat),σ_ 0=.pointer (some ⟨av,0,none⟩)/\σ_ 4=.pointer (some ⟨b4,0,none⟩)/\σ_ 5=.pointer (some ⟨b8,0,none⟩)/\σ_ 6=.pointer (some ⟨ai,0,none⟩)/\σ_ 7=.pointer (some ⟨ba,0,none⟩)/\PHeap.Le U U_/\SW w [B3,.obj ab (.map ac ae)] U U_ [B3,.obj ab (.map ac ae),.blk ai 41 B2,.blk b8 104 B1,.blk b4 104 B0,.blk ba 118 [.slice aX ay.length aZ,.slice a8 bI.length bc],.row aX aZ 3 1 (hD KL.encI ay),.row a8 bc 3 1 (hD KL.encI bI)] w_) ?_ ?_
 have q:=bnd dW
 obtain ⟨⟨ap,cK,cL⟩,cB,bS⟩:=q
 try dsimp only at bS
 refine ZA ZB [3,3,3,3,1,1,1,0,3,3,3,3,2,0,3,3] (wLA (.fx 7 (wIT gEl) (.fx 12 (.fx 7 (wIT gDx) (.stop)) (.stop)))) (by kernel_rfl) ?_
 have a6:=dr.drew
 generalize hw_W54:({ cj with drawn:=cj.drawn + 1 }:World)=cp at a6 ⊢
 refine oM Z Z (oM Z Z (oR Z (Za Z Z) (oR Z (zJ Z Z ZF Z Zs) (oL Z (a6.ldB (j:=3) Z Z Z Zx (v:=.map (some ab)) Z) (oL Z (a6.ldBA (j:=2) Z Z Z zi zI (vs:=B0) Z Z) (oL Z (a6.lookup1 (j:=4) (mk:=wBB) (mv:=wBC) (a:=p1) (z:=0) Z Z Z Z (wBV ZI) wCH zw aS) (zk ?_ ?_)))))))
 have dI:SW w [B3,.obj ab (.map ac ae)] U U [B3,.obj ab (.map ac ae),.blk ai 41 B2,.blk b8 104 B1,.blk b4 104 B0] cp:=a6.pick [3,4,0,1,2] _ (by decide) rfl
 refine zE 2 Z Z Z Z (zD Z Z ye (zB Z (zB Z (zB Z zK))) Z) dI (fun hs=>wAb p0 av az aN aJ aO aK aP aL aQ ab ac ae aM aR (wAr p0.number p1 0) false cp U hs bC bD bE bF aS bG cB) (.inl Z) ?_
 rintro bN ef eA cU dZ dJ ⟨bj,bw,bk,bx,rfl,rfl⟩
 let B4:Res:=.row bj bw 3 1 (hD KL.encI ap.far)
 let B5:Res:=.row bk bx 3 1 (hD KL.encI ap.by_)
 have dK:SW w [B3,.obj ab (.map ac ae)] U bN [B4,B5,B3,.obj ab (.map ac ae),.blk ai 41 B2,.blk b8 104 B1,.blk b4 104 B0] cU:=dJ
 refine oM Z Z (oR Z (zP Z Z (v:=.agg #[.slice bj ap.far.length bw,.slice bk ap.by_.length bx]) Z) (oR Z (zP Z Z (v:=jV cK) Z) (oR Z (zP Z Z (v:=.bool cL) Z) (zT (cs:=[.slice none 0 0,.slice none 0 0]) Z Z Z Z Z Zd Z dK ?_))))
 intro eo ct dL
 let B6:List Value:=[.slice bj ap.far.length bw,.slice bk ap.by_.length bx]
 refine zV (j:=0) (vs:=B6) Z Z Z Z dL Z Z Z Z Zj (zA Z) Z Z Z ?_
 intro cV dM
 have dN:SW w [B3,.obj ab (.map ac ae)] U bN [.blk ct 118 B6,B4,B5,B3,.obj ab (.map ac ae),.blk ai 41 B2,.blk b8 104 B1,.blk b4 104 B0] cV:=dM
 refine oA Z Z (oA Z Z (zg ?_))
 cases bS
 exact zL ⟨rfl,⟨bN,ct,bj,bw,bk,bx,rfl,rfl,rfl,rfl,rfl,dZ,(dN.pick [3,4,5,6,7,0,1,2] _ (by decide) rfl)⟩⟩
 let B7:List Value:=[.slice none 0 0,.slice none 0 0]
 refine zT (cs:=B7) Z Z Z Z Z Zd Z a6 ?_
 intro cq bp dO
 have dQ:SW w [B3,.obj ab (.map ac ae)] U U [B3,.obj ab (.map ac ae),.blk bp 118 B7,.blk ai 41 B2,.blk b8 104 B1,.blk b4 104 B0] cq:=dO.pick [4,5,0,1,2,3] _ (by decide) rfl
 refine zE 2 Z Z Z Z (zD Z Z ye (zB Z (zB Z (zB Z zK))) Z) dQ (fun hs=>wAb p0 av az aN aJ aO aK aP aL aQ ab ac ae aM aR (wAr p0.number p1 0) false cq U hs bC bD bE bF aS bG cB) (.inl Z) ?_
 rintro bP eg eB cW d7 dl ⟨bd,bq,be,br,rfl,rfl⟩
 let B8:Res:=.row bd bq 3 1 (hD KL.encI ap.far)
 let B9:Res:=.row be br 3 1 (hD KL.encI ap.by_)
 have dm:SW w [B3,.obj ab (.map ac ae)] U bP [B8,B9,B3,.obj ab (.map ac ae),.blk bp 118 B7,.blk ai 41 B2,.blk b8 104 B1,.blk b4 104 B0] cW:=dl
 refine oM Z Z (oR Z (zP Z Z (v:=.agg #[.slice bd ap.far.length bq,.slice be ap.by_.length br]) Z) (oR Z (zP Z Z (v:=jV cK) Z) (oR Z (zP Z Z (v:=.bool cL) Z) ?_)))
 let bU:List Value:=[.slice bd ap.far.length bq,.slice be ap.by_.length br]
 refine zV (j:=4) (vs:=bU) Z Z Z Z dm Z Z Z Z Zj (zA Z) Z Z Z ?_
 intro cM dn
 have dp:SW w [B3,.obj ab (.map ac ae)] U bP [B8,B9,B3,.obj ab (.map ac ae),.blk bp 118 bU,.blk ai 41 B2,.blk b8 104 B1,.blk b4 104 B0] cM:=dn
 refine oA Z Z (oA Z Z (zg ?_))
 cases bS
 exact zL ⟨rfl,⟨bP,bp,bd,bq,be,br,rfl,rfl,rfl,rfl,rfl,d7,(dp.pick [2,3,5,6,7,4,0,1] _ (by decide) rfl)⟩⟩
 rintro eD cm ⟨bm,ba,aX,aZ,a8,bc,bz,cu,bQ,cw,cx,aw,dq⟩
 have q:=bnd cH
 obtain ⟨⟨ax,bH⟩,dV,cG⟩:=q
 try dsimp only at cG
 let aT:Res:=.blk ba 118 [.slice aX ay.length aZ,.slice a8 bI.length bc]
 let aU:Res:=.row aX aZ 3 1 (hD KL.encI ay)
 let aV:Res:=.row a8 bc 3 1 (hD KL.encI bI)
 refine yN (fun σ_ w_=>∃ (U_:PHeap) (bn:Nat) (aW:Option Addr) (aY:Nat) (a7:Option Addr) (bb:Nat),σ_ 0=.pointer (some ⟨av,0,none⟩)/\σ_ 4=.pointer (some ⟨b4,0,none⟩)/\σ_ 5=.pointer (some ⟨b8,0,none⟩)/\σ_ 6=.pointer (some ⟨ai,0,none⟩)/\σ_ 7=.pointer (some ⟨ba,0,none⟩)/\σ_ 10=.pointer (some ⟨bn,0,none⟩)/\PHeap.Le bm U_/\SW w [B3,.obj ab (.map ac ae)] U U_ [B3,.obj ab (.map ac ae),.blk ai 41 B2,.blk b8 104 B1,.blk b4 104 B0,aU,aV,aT,.blk bn 118 [.slice aW ax.length aY,.slice a7 bH.length bb],.row aW aY 3 1 (hD KL.encI ax),.row a7 bb 3 1 (hD KL.encI bH)] w_) ?_ ?_
 have q:=bnd dV
 obtain ⟨⟨ao,cI,cJ⟩,cA,bR⟩:=q
 try dsimp only at bR
 refine ZA ZB [3,3,3,3,1,1,1,0,3,3,3,3,2,0,3,3] (wLA (.fx 7 (wIT gEl) (.fx 12 (.fx 7 (wIT gDx) (.stop)) (.stop)))) (by kernel_rfl) ?_
 have a5:=dq.drew
 generalize hw_W172:({ cm with drawn:=cm.drawn + 1 }:World)=cN at a5 ⊢
 refine oM Z bz (oM Z bz (oR Z (Za Z Z) (oR Z (zJ Z Z ZF Z Zs) (oL Z (a5.ldB (j:=0) Z Z Z Zx (v:=.map (some ab)) Z) (oL Z (a5.ldBA (j:=3) Z Z bQ zi zI (vs:=B1) Z Z) (oL Z (a5.lookup1 (j:=1) (mk:=wBB) (mv:=wBC) (a:=p2) (z:=0) Z Z Z Z (wBV ZI) wCH zw aS) (zk ?_ ?_)))))))
 have c8:=bC.le aw
 have da:=bD.le aw
 have db:=bE.le aw
 have dd:=bF.le aw
 have de:=bG.le aw
 refine zE 2 Z Z Z Z (zD Z Z ye (zB Z (zB Z (zB Z zK))) Z) a5 (fun hs=>wAb p0 av az aN aJ aO aK aP aL aQ ab ac ae aM aR (wAr p0.number p2 0) false cN bm hs c8 da db dd aS de cA) (.inl Z) ?_
 rintro bL d9 ew cO dX dt ⟨bf,bs,bg,bt,rfl,rfl⟩
 let bV:Res:=.row bf bs 3 1 (hD KL.encI ao.far)
 let bW:Res:=.row bg bt 3 1 (hD KL.encI ao.by_)
 have du:SW w [B3,.obj ab (.map ac ae)] U bL [bV,bW,B3,.obj ab (.map ac ae),.blk ai 41 B2,.blk b8 104 B1,.blk b4 104 B0,aT,aU,aV] cO:=dt
 refine oM Z Z (oR Z (zP Z Z (v:=.agg #[.slice bf ao.far.length bs,.slice bg ao.by_.length bt]) Z) (oR Z (zP Z Z (v:=jV cI) Z) (oR Z (zP Z Z (v:=.bool cJ) Z) (zT (cs:=[.slice none 0 0,.slice none 0 0]) Z Z Z Z Z Zd Z du ?_))))
 intro eh cr dv
 let bX:List Value:=[.slice bf ao.far.length bs,.slice bg ao.by_.length bt]
 refine zV (j:=0) (vs:=bX) Z Z Z Z dv Z Z Z Z Zj (zA Z) Z Z Z ?_
 intro cP dw
 have dx:SW w [B3,.obj ab (.map ac ae)] U bL [.blk cr 118 bX,bV,bW,B3,.obj ab (.map ac ae),.blk ai 41 B2,.blk b8 104 B1,.blk b4 104 B0,aT,aU,aV] cP:=dw
 refine oA Z Z (oA Z Z (zg ?_))
 cases bR
 exact zL ⟨rfl,⟨bL,cr,bf,bs,bg,bt,bz,cu,bQ,cw,cx,rfl,dX,(dx.pick [3,4,5,6,7,9,10,8,0,1,2] _ (by decide) rfl)⟩⟩
 let bJ:List Value:=[.slice none 0 0,.slice none 0 0]
 refine zT (cs:=bJ) Z Z Z Z Z Zd Z a5 ?_
 intro cn bo dz
 have df:=bC.le aw
 have dg:=bD.le aw
 have dh:=bE.le aw
 have di:=bF.le aw
 have dk:=bG.le aw
 have dA:SW w [B3,.obj ab (.map ac ae)] U bm [B3,.obj ab (.map ac ae),.blk bo 118 bJ,.blk ai 41 B2,.blk b8 104 B1,.blk b4 104 B0,aT,aU,aV] cn:=dz.pick [1,2,0,3,4,5,6,7,8] _ (by decide) rfl
 refine zE 2 Z Z Z Z (zD Z Z ye (zB Z (zB Z (zB Z zK))) Z) dA (fun hs=>wAb p0 av az aN aJ aO aK aP aL aQ ab ac ae aM aR (wAr p0.number p2 0) false cn bm hs df dg dh di aS dk cA) (.inl Z) ?_
 rintro bM ec ey cQ dY dB ⟨bh,bu,bi,bv,rfl,rfl⟩
 let bY:Res:=.row bh bu 3 1 (hD KL.encI ao.far)
 let bZ:Res:=.row bi bv 3 1 (hD KL.encI ao.by_)
 have dC:SW w [B3,.obj ab (.map ac ae)] U bM [bY,bZ,B3,.obj ab (.map ac ae),.blk bo 118 bJ,.blk ai 41 B2,.blk b8 104 B1,.blk b4 104 B0,aT,aU,aV] cQ:=dB
 refine oM Z Z (oR Z (zP Z Z (v:=.agg #[.slice bh ao.far.length bu,.slice bi ao.by_.length bv]) Z) (oR Z (zP Z Z (v:=jV cI) Z) (oR Z (zP Z Z (v:=.bool cJ) Z) ?_)))
 let ca:List Value:=[.slice bh ao.far.length bu,.slice bi ao.by_.length bv]
 refine zV (j:=4) (vs:=ca) Z Z Z Z dC Z Z Z Z Zj (zA Z) Z Z Z ?_
 intro cR dD
 have dE:SW w [B3,.obj ab (.map ac ae)] U bM [bY,bZ,B3,.obj ab (.map ac ae),.blk bo 118 ca,.blk ai 41 B2,.blk b8 104 B1,.blk b4 104 B0,aT,aU,aV] cR:=dD
 refine oA Z Z (oA Z Z (zg ?_))
 cases bR
 exact zL ⟨rfl,⟨bM,bo,bh,bu,bi,bv,bz,cu,bQ,cw,cx,rfl,dY,(dE.pick [2,3,5,6,7,9,10,8,4,0,1] _ (by decide) rfl)⟩⟩
 rintro eE co ⟨ci,bn,aW,aY,a7,bb,cy,cX,cY,cz,cZ,c6,eu,dF⟩
 refine zM (ZA ZB [3,1,3,3,3,1,1,1,3,1,3,3,1,3,3,3,1,1,1,3,1,3,0] (wNH (.fx 22 .nil .stop)) (by kernel_rfl) ?_)
 have an:=dF.drew
 generalize hw_W258:({ co with drawn:=co.drawn + 1 }:World)=ej at an ⊢
 refine oR Z (zJ Z c6 ZV Z zq) (oL Z (an.ldB (j:=8) Z Z Z zy (v:=.slice aW ax.length aY) Z) (oM Z cy (oR Z (Za Z Z) (oR Z (zJ Z Z ZF Z Zs) (oL Z (an.ldB (j:=0) Z Z Z Zx (v:=.map (some ab)) Z) (oL Z (an.ldBA (j:=4) Z Z cX zi zI (vs:=B0) Z Z) (oL Z (an.lookup1 (j:=1) (mk:=wBB) (mv:=wBC) (a:=p1) (z:=0) Z Z Z Z (wBV ZI) wCH zw aS) (bnK cG fun _ bA dT=>?_))))))))
 obtain ⟨ep,cC⟩:=an.rowSome (j:=9) rfl (by rw [wAE (f:=KL.encI) (sz:=1) (fun _=>rfl) ax];have hz:=wAa bA;omega)
 refine oR Z (ZO Z Z cC Z zH zC (wBl bA) (wBm bA)) ?_
 have dR:=wBy (xs:=ax) (wAa bA)
 refine zl rfl rfl rfl rfl (an.ldR (j:=9) rfl cC rfl rfl zG (wAj (sz:=1) (fun _=>rfl) _ _ 0 _ dR (by first | omega | rfl | simp) rfl)) rfl (zY rfl rfl rfl rfl (fun _=>Runs.negw rfl rfl) (zY rfl rfl rfl rfl (fun _=>zJ rfl cZ ZV rfl zq) (zl rfl rfl rfl rfl (an.ldB (j:=7) rfl rfl rfl zy (v:=.slice aX ay.length aZ) rfl) rfl (zr rfl rfl rfl rfl rfl cy (zY rfl rfl rfl rfl (fun _=>Za rfl rfl) (zY rfl rfl rfl rfl (fun _=>zJ rfl rfl ZF rfl Zs) (zl rfl rfl rfl rfl (an.ldB (j:=0) rfl rfl rfl Zx (v:=.map (some ab)) rfl) rfl (zl rfl rfl rfl rfl (an.ldBA (j:=3) rfl rfl cY zi zI (vs:=B1) rfl rfl) rfl (zl rfl rfl rfl rfl (an.lookup1 (j:=1) (mk:=wBB) (mv:=wBC) (a:=p2) (z:=0) rfl rfl rfl rfl (wBV ZI) wCH zw aS) rfl (bnK dT fun _ bB dU=>?_))))))))))
 obtain ⟨er,cD⟩:=an.rowSome (j:=5) rfl (by rw [wAE (f:=KL.encI) (sz:=1) (fun _=>rfl) ay];have hz:=wAa bB;omega)
 refine oR Z (ZO Z Z cD Z zH zC (wBl bB) (wBm bB)) ?_
 have dS:=wBy (xs:=ay) (wAa bB)
 refine zl rfl rfl rfl rfl (an.ldR (j:=5) rfl cD rfl rfl zG (wAj (sz:=1) (fun _=>rfl) _ _ 0 _ dS (by first | omega | rfl | simp) rfl)) rfl ?_
 let a9:List Value:=[jV (w64 (-(gd ax (wAr p0.number p1 0).toNat))),jV (gd ay (wAr p0.number p2 0).toNat)]
 refine oR Z (zo (pv:=[(0,jV (w64 (-(gd ax (wAr p0.number p1 0).toNat)))),(1,jV (gd ay (wAr p0.number p2 0).toNat))]) (z:=B2) (cs:=a9) Z (wAF Z (wAF Z wAO)) ZJ wBo Z Z) (zV (j:=2) (vs:=a9) Z Z Z Z an Z cz Z Z zj (zA Z) Z Z Z ?_)
 intro cS dG
 have cE:SW w [B3,.obj ab (.map ac ae)] U ci [B3,.obj ab (.map ac ae),.blk ai 41 a9,.blk b8 104 B1,.blk b4 104 B0,aU,aV,aT,.blk bn 118 [.slice aW ax.length aY,.slice a7 bH.length bb],.row aW aY 3 1 (hD KL.encI ax),.row a7 bb 3 1 (hD KL.encI bH)] cS:=dG
 refine eN (zU ?_)
 cases dU
 exact ⟨rfl,_,(wGl (v:=.agg a9.toArray) ⟨⟨_,cz,(wAy Zn zj (cE.blkAt (k:=2) rfl) (vs:=a9) rfl rfl)⟩,trivial⟩),ci,_,(cE.pick [0,1] _ (by decide) rfl),rfl,rfl⟩
theorem wIh (p0:wAC) (aw:Option Addr) (az:Nat) (ax:Option Addr) (aJ:Nat) (am:Option Addr) (an:Nat) (ay:Option Addr) (aK:Nat) (p1:Int) (w:World) (U:PHeap) (hS:St0 w U []) (bz:Sl U 1 aw az p0.Starts.length (hD KL.encI p0.Starts)) (bA:Sl U 2 ax aJ p0.Splits.length (hD wAG p0.Splits)) (bB:Sl U 3 am an p0.Clocks.length (hD wAA p0.Clocks)) (bC:Sl U 4 ay aK p0.Readings.length (hD wAB p0.Readings)) {r:wAJ × Int} (hm:wEG p0 p1=some r):Gv Try.prog 38 [.agg #[.slice aw p0.Starts.length az,.slice ax p0.Splits.length aJ,.slice am p0.Clocks.length an,.slice ay p0.Readings.length aK],jV p1] w (wCB w [] U (fun U_ L_ v=>v=.tuple #[.agg #[jV r.1.Lo,jV r.1.Hi],jV r.2]/\L_=[])):=by
 unfold wEG at hm
 refine Gv.of Try.func38 Z Try.ntmps38 Try.results38 Z (sR gEb Z ?_)
 let B0:List Value:=[.slice aw p0.Starts.length az,.slice ax p0.Splits.length aJ,.slice am p0.Clocks.length an,.slice ay p0.Readings.length aK]
 refine zu (cs:=B0) rfl rfl rfl rfl rfl rfl (by rfl) hS ?_
 intro W1 b2 cO
 let B1:List Value:=[jV 0,jV 0]
 refine zT (cs:=B1) Z Z Z Z Z ZJ Z cO ?_
 intro W5 b6 bw
 refine oA Z Z (eN (sR (.fl 0 gDu) Z (oL Z (bw.ldBA (j:=1) Z Z Z ze zZ (vs:=B0) Z Z) (bnK hm fun x9 bN cW=>zE 0 Z Z Z Z (zD Z Z Try.call68 (zB Z zK) Z) bw (fun hs=>wDt p0 aw az ax aJ am an ay aK W5 U hs bz bA bB bC bN) (.inr Z) ?_))))
 rintro aM dq dG bf aP cM ⟨rfl,rfl⟩
 have aY:sW w U aM [.blk b6 41 B1,.blk b2 28 B0] bf:=cM
 refine oA Z Z (eN (zM (zc (sR fL3 Z (oM Z Z (oR Z (ZN Z Z Z) (oA Z Z (eN (ifc cW ?_ ?_)))))))))
 intro aV da
 refine zn (zd (fun h=>h aV.out)) (sR (wGL gEc) Z (oM Z Z (oR Z (zJ Z Z zQ Z Zm) (oL Z (aY.ldB (j:=1) Z Z Z yA (v:=.slice am p0.Clocks.length an) Z) (oR Z (zz Z Z ZR) (oR Z (yH Z Z Z) (bnK da fun dM cg db=>zE 0 Z Z Z Z (zD Z Z yJ (zB Z (zB Z (zB Z zK))) Z) aY (fun hs=>wBb p1 0 (w64 ((↑p0.Clocks.length:Int) - 1)) bf aM hs cg) (.inr Z) ?_)))))))
 rintro aN dt dI bg aQ cN ⟨rfl,rfl⟩
 have aZ:sW w U aN [.blk b6 41 B1,.blk b2 28 B0] bg:=cN
 refine oR Z (ZT Z Z) (oA Z Z (eN (ifc db ?_ ?_)))
 intro aW dd
 refine zn (nC aW.out) (Zl (ZH (zL (sR (.fl 0 (.fx 1 (wGM (.nil)) .stop)) Z (oL Z (aZ.ldBA (j:=1) Z Z Z ze zZ (vs:=B0) Z Z) ?_)))))
 have ci:=bz.le aP
 have cj:=ci.le aQ
 have cm:=bA.le aP
 have cn:=cm.le aQ
 have co:=bB.le aP
 have cp:=co.le aQ
 have cq:=bC.le aP
 have cr:=cq.le aQ
 have q:=bnd dd
 obtain ⟨⟨dl,aR⟩,ct,ap⟩:=q
 try dsimp only at ap
 refine zE 0 rfl rfl rfl rfl (zD rfl rfl Try.call46 (zB rfl (zB rfl zK)) rfl) aZ (fun hs=>wDL p0 aw az ax aJ am an ay aK [] none 0 bg aN hs cj cn cp cr (by first | exact Sl.nil _ _ _ _ | exact SlR.nil) ct) (.inr rfl) ?_
 rintro ag du dJ aO dB bu bo
 rcases dl with _ | ao
 try dsimp only at ap
 obtain ⟨rfl,rfl⟩:=bo
 have bv:sW w U ag [.blk b6 41 B1,.blk b2 28 B0] aO:=bu
 refine oM Z Z (oR Z (zP Z Z (v:=.pointer none) Z) (oR Z (zP Z Z (v:=jV aR) Z) (oA Z Z (oA Z Z (eN (zM (sR fL2 Z (oM Z Z (oR Z (ZN Z Z Z) (eN (ifc ap ?_ ?_)))))))))))
 intro aX de
 refine zn (zd (fun h=>h aX.out)) (kN (sR gEs Z (oM Z Z (oM Z Z (bnK de fun dN cu df=>zE 0 Z Z Z Z (zD Z Z Try.call82 (zB Z zK) Z) bv (fun hs=>wBx p1 aO ag hs cu) (.inr Z) ?_)))))
 rintro bc dv dK bh dC cP ⟨rfl,rfl⟩
 have cQ:sW w U bc [.blk b6 41 B1,.blk b2 28 B0] bh:=cP
 refine bnK df fun dO cw dg=>zE 0 Z Z Z Z (zD Z Z yY zK Z) cQ (fun hs=>wBK bh bc hs cw) (.inr Z) ?_
 rintro bE dw dL bL dD cR ⟨rfl,rfl⟩
 have dz:sW w U bE [.blk b6 41 B1,.blk b2 28 B0] bL:=cR
 cases dg
 intro aX dh
 refine cT Z aX (sR gEj Z (oR Z (zo (pv:=[]) (z:=B1) (cs:=B1) Z wAO ZJ wBo Z Z) (oM Z Z (zV (j:=0) (vs:=B1) Z Z Z Z bv Z Z Z Z zj (zA Z) Z Z Z ?_))))
 intro bM cS
 have bx:sW w U ag [.blk b6 41 B1,.blk b2 28 B0] bM:=cS
 refine oA Z Z (eN (zU (zN ?_)))
 cases dh
 exact ⟨rfl,_,(wCT (rs:=[.cell 4 41,.tmp 5]) (vs:=[.agg B1.toArray,jV aR]) ⟨⟨_,rfl,(wAy Zn zj (bx.blkAt (k:=0) rfl) (vs:=B1) rfl rfl)⟩,⟨rfl,trivial⟩⟩ rfl),ag,_,(bx.pick [] _ (by decide) rfl),rfl,rfl⟩
 try dsimp only at ap
 obtain ⟨aT,a5,bi,a6,bj,a7,bk,a8,bm,ah,aj,ai,a9,bn,rfl,rfl,cx,cy,cz,cA,bP,bQ⟩:=bo
 let B2:Res:=.blk aT 124 [.slice a5 ao.Race.Starts.length bi,.slice a6 ao.Race.Splits.length bj,.slice a7 ao.Race.Clocks.length bk,.slice a8 ao.Race.Readings.length bm,.map (some ah),.slice a9 ao.edges.length bn]
 have bp:sW w U ag [B2,.obj ah (.map aj ai),.blk b6 41 B1,.blk b2 28 B0] aO:=bu
 refine oM Z Z (oR Z (zP Z Z (v:=.pointer (some ⟨aT,0,none⟩)) Z) (oR Z (zP Z Z (v:=jV aR) Z) (oA Z Z (oA Z Z (eN (zM (sR fL2 Z (oM Z Z (oR Z (ZN Z Z Z) (eN (ifc ap ?_ ?_)))))))))))
 intro aU cU
 refine zn (zd (fun h=>h aU.out)) (kN (sR gEs Z (oM Z Z (oM Z Z (bnK cU fun di bR cV=>zE 0 Z Z Z Z (zD Z Z Try.call82 (zB Z zK) Z) bp (fun hs=>wBx p1 aO ag hs bR) (.inr Z) ?_)))))
 rintro ba dn dE bd aq cB ⟨rfl,rfl⟩
 have cC:sW w U ba [B2,.obj ah (.map aj ai),.blk b6 41 B1,.blk b2 28 B0] bd:=cB
 refine bnK cV fun dk bS cX=>zE 0 Z Z Z Z (zD Z Z yY zK Z) cC (fun hs=>wBK bd ba hs bS) (.inr Z) ?_
 rintro bb dp dF be au cD ⟨rfl,rfl⟩
 have cE:sW w U bb [B2,.obj ah (.map aj ai),.blk b6 41 B1,.blk b2 28 B0] be:=cD
 have bU:=cx.le aq
 have bV:=bU.le au
 have bW:=cy.le aq
 have bX:=bW.le au
 have bY:=cz.le aq
 have bZ:=bY.le au
 have ca:=cA.le aq
 have cb:=ca.le au
 have cc:=bQ.le aq
 have cd:=cc.le au
 refine bnK cX fun bD cf cY=>zE 2 Z Z Z Z (zD Z Z Try.call47 (zB Z (zB Z (zB Z zK))) Z) cE (fun hs=>wDH ao aT a5 bi a6 bj a7 bk a8 bm ah aj ai a9 bn di dk be bb hs bV bX bZ cb bP cd cf) (.inl Z) ?_
 rintro aS dr dH bF dA cG ⟨rfl,rfl⟩
 have cH:sW w U aS [B2,.obj ah (.map aj ai),.blk b6 41 B1,.blk b2 28 B0] bF:=cG
 let B3:List Value:=[jV bD.Lo,jV bD.Hi]
 refine zV (j:=2) (vs:=B3) Z Z Z Z cH Z Z Z Z zj (zA Z) Z Z Z ?_
 intro bG cI
 have bq:sW w U aS [B2,.obj ah (.map aj ai),.blk b6 41 B3,.blk b2 28 B0] bG:=cI
 refine oA Z Z (eN (zU ?_))
 cases cY
 exact ⟨rfl,_,(wCT (rs:=[.cell 4 41,.tmp 5]) (vs:=[.agg B3.toArray,jV 0]) ⟨⟨_,rfl,(wAy Zn zj (bq.blkAt (k:=2) rfl) (vs:=B3) rfl rfl)⟩,⟨rfl,trivial⟩⟩ rfl),aS,_,(bq.pick [] _ (by decide) rfl),rfl,rfl⟩
 intro aU cZ
 refine cT Z aU (sR gEj Z (oR Z (zo (pv:=[]) (z:=B1) (cs:=B1) Z wAO ZJ wBo Z Z) (oM Z Z (zV (j:=2) (vs:=B1) Z Z Z Z bp Z Z Z Z zj (zA Z) Z Z Z ?_))))
 intro bH cJ
 have br:sW w U ag [B2,.obj ah (.map aj ai),.blk b6 41 B1,.blk b2 28 B0] bH:=cJ
 refine oA Z Z (eN (zU (zN ?_)))
 cases cZ
 exact ⟨rfl,_,(wCT (rs:=[.cell 4 41,.tmp 5]) (vs:=[.agg B1.toArray,jV aR]) ⟨⟨_,rfl,(wAy Zn zj (br.blkAt (k:=2) rfl) (vs:=B1) rfl rfl)⟩,⟨rfl,trivial⟩⟩ rfl),ag,_,(br.pick [] _ (by decide) rfl),rfl,rfl⟩
 intro aW c6
 refine ZD (nF (aW.out)) (sR (.fl 0 gDu) Z (oR Z (zo (pv:=[]) (z:=B1) (cs:=B1) Z wAO ZJ wBo Z Z) (zV (j:=0) (vs:=B1) Z Z Z Z aZ Z Z Z Z zj (zA Z) Z Z Z ?_)))
 intro bI cK
 have bs:sW w U aN [.blk b6 41 B1,.blk b2 28 B0] bI:=cK
 refine oA Z Z (eN (zU (zX (zN ?_))))
 cases c6
 exact ⟨rfl,_,(wCT (rs:=[.cell 4 41,.tmp 5]) (vs:=[.agg B1.toArray,jV 1]) ⟨⟨_,rfl,(wAy Zn zj (bs.blkAt (k:=0) rfl) (vs:=B1) rfl rfl)⟩,⟨rfl,trivial⟩⟩ rfl),aN,_,(bs.pick [] _ (by decide) rfl),rfl,rfl⟩
 intro aV c8
 refine cT Z aV (sR gEj Z (oR Z (zo (pv:=[]) (z:=B1) (cs:=B1) Z wAO ZJ wBo Z Z) (oM Z Z (zV (j:=0) (vs:=B1) Z Z Z Z aY Z Z Z Z zj (zA Z) Z Z Z ?_))))
 intro bJ cL
 have bt:sW w U aM [.blk b6 41 B1,.blk b2 28 B0] bJ:=cL
 refine oA Z Z (eN (zU (zX (zN ?_))))
 cases c8
 exact ⟨rfl,_,(wCT (rs:=[.cell 4 41,.tmp 5]) (vs:=[.agg B1.toArray,jV x9]) ⟨⟨_,rfl,(wAy Zn zj (bt.blkAt (k:=0) rfl) (vs:=B1) rfl rfl)⟩,⟨rfl,trivial⟩⟩ rfl),aM,_,(bt.pick [] _ (by decide) rfl),rfl,rfl⟩
end Go.Proofs.Ytlnfbjphfoipaaa
namespace Go.Proofs.Ytlnfbjphfoipaaa
open Go.KL
set_option maxHeartbeats 4000000
theorem wCN (p0:Int) (p1:wAJ) (w:World) (U:PHeap) (hS:St0 w U [])  {r:Bool} (hm:wAu p0 p1=some r):Gv Try.prog 22 [jV p0,.agg #[jV p1.Lo,jV p1.Hi]] w (wCB w [] U (fun U_ L_ v=>v=.bool r/\L_=[])):=by
 unfold wAu at hm
 refine Gv.of Try.func22 rfl Try.ntmps22 Try.results22 rfl (sR gDt rfl (zu (cs:=[jV p1.Lo,jV p1.Hi]) rfl rfl rfl rfl rfl rfl (by rfl) hS ?_))
 intro W1 b2 ac
 refine oA Z Z (eN (sR wMQ Z (oM Z Z (oR Z (zJ Z Z ZK Z zC) (oL Z (ac.ldB (j:=0) Z Z Z zG (v:=jV p1.Lo) Z) (oR Z (Runs.geq Z Z Z) (oM Z Z ?_)))))))
 by_cases c5:p1.Lo <= p0
 have ae:=hm;rw [if_pos c5] at ae;replace c5:=zS c5
 refine zr Z Z Z (wT Z c5) Z Z (rU Z (wT Z c5) (zJ Z Z ZK Z zC) (zl Z Z Z (wT Z c5) (ac.ldB (j:=0) Z Z Z zG (v:=jV p1.Hi) Z) Z (rU Z (wT Z c5) (Runs.leq Z Z Z) (oR Z (zR Z (Zh c5.out) Z) (oA Z Z (eN (zU ?_)))))))
 first | (obtain rfl:=nA ae) | cases ae
 exact ⟨rfl,_,(ZL rfl),U,_,(ac.pick [] _ (by decide) rfl),rfl,rfl⟩
 have ag:=hm;rw [if_neg c5] at ag;replace c5:=zS c5
 refine oF Z c5 (oF Z c5 (oF Z c5 (oF Z c5 (oR Z (zb Z (zd c5.out) Z) (oA Z Z (eN (zU ?_)))))))
 have hE:=nA ag;first | subst r | cases hE
 exact ⟨rfl,_,(ZL rfl),U,_,(ac.pick [] _ (by decide) rfl),rfl,rfl⟩
theorem wAp (p0:Int) (p1:Int) (w:World) (U:PHeap) (hS:St0 w U [])  {r:wAI} (hm:wAd p0 p1=some r):Gv Try.prog 16 [jV p0,jV p1] w (wCB w [] U (fun U_ L_ v=>v=.agg #[jV r.Skier,jV r.Mat]/\L_=[])):=by
 unfold wAd at hm
 refine Gv.of Try.func16 Z Try.ntmps16 Try.results16 Z (sR (.fx 0 .nil .stop) Z (zT (cs:=[jV 0,jV 0]) Z Z Z Z Z Zb Z hS ?_))
 intro W1 b2 ah
 refine eN (sR (wCa (.fx 3 .nil .stop)) Z (oM Z Z (oM Z Z ?_)))
 let B0:List Value:=[jV p0,jV p1]
 refine oR Z (zo (pv:=[(0,jV p0),(1,jV p1)]) (z:=[jV 0,jV 0]) (cs:=B0) Z (wAF Z (wAF Z wAO)) Zb wFF Z Z) (zV (j:=0) (vs:=B0) Z Z Z Z ah Z Z Z Z ZC (zA Z) Z Z Z ?_)
 intro W5 ai
 have ae:sW w U U [.blk b2 45 B0] W5:=ai
 refine eN (zU ?_)
 cases hm
 exact ⟨rfl,_,(wGl (v:=.agg B0.toArray) ⟨⟨_,rfl,(wAy ZW ZC (ae.blkAt (k:=0) rfl) (vs:=B0) rfl rfl)⟩,trivial⟩),U,_,(ae.pick [] _ (by decide) rfl),rfl,rfl⟩
theorem wAq (p0:wAK) (ac:Nat) (aj:Option Addr) (ak:Nat) (p1:wAC) (ao:Option Addr) (aq:Nat) (ap:Option Addr) (au:Nat) (ay:Option Addr) (aJ:Nat) (az:Option Addr) (aK:Nat) (w:World) (U:PHeap) (hS:St0 w U [.blk ac 94 [.slice aj p0.bytes.length ak,jV p0.next,.int .u32 p0.state]]) (br:Sl U 1 aj ak p0.bytes.length (hD KL.encB8 p0.bytes)) (bB:Sl U 1 ao aq p1.Starts.length (hD KL.encI p1.Starts)) (bC:Sl U 2 ap au p1.Splits.length (hD wAG p1.Splits)) (bD:Sl U 3 ay aJ p1.Clocks.length (hD wAA p1.Clocks)) (bE:Sl U 4 az aK p1.Readings.length (hD wAB p1.Readings)) {r:wAI × wAK} (hm:wBM p0 p1=some r):Gv Try.prog 14 [.pointer (some ⟨ac,0,none⟩),.agg #[.slice ao p1.Starts.length aq,.slice ap p1.Splits.length au,.slice ay p1.Clocks.length aJ,.slice az p1.Readings.length aK]] w (wCB w [.blk ac 94 [.slice aj p0.bytes.length ak,jV p0.next,.int .u32 p0.state]] U (fun U_ L_ v=>∃ (aO:Option Addr) (aX:Nat),v=.agg #[jV r.1.Skier,jV r.1.Mat]/\L_=[.blk ac 94 [.slice aO r.2.bytes.length aX,jV r.2.next,.int .u32 r.2.state]]/\Sl U_ 1 aO aX r.2.bytes.length (hD KL.encB8 r.2.bytes))):=by
 unfold wBM at hm
 refine Gv.of Try.func14 Z Try.ntmps14 Try.results14 Z (sR gDv Z ?_)
 let B0:List Value:=[.slice ao p1.Starts.length aq,.slice ap p1.Splits.length au,.slice ay p1.Clocks.length aJ,.slice az p1.Readings.length aK]
 refine zu (cs:=B0) rfl rfl rfl rfl rfl rfl (by rfl) hS ?_
 intro W2 b3 bf
 let B1:List Value:=[jV 0,jV 0]
 refine zT (cs:=B1) Z Z Z Z Z Zb Z bf ?_
 intro W6 b7 bj
 refine eN (zM (ZA ZB [3,3,1,3,1005,3,3,1004,3,3,0,2,0,ac] (wDe (wGi (.fx 4 (.fx 10 gDq .stop) .stop))) (by kernel_rfl) ?_))
 have an:=bj.drew
 generalize hw_W54:({ W6 with drawn:=W6.drawn + 1 }:World)=aR at an ⊢
 refine zr rfl rfl rfl rfl rfl rfl (zY rfl rfl rfl rfl (fun _=>zJ rfl rfl zQ rfl zq) (zl rfl rfl rfl rfl (an.ldB (j:=1) rfl rfl rfl zy (v:=.slice ao p1.Starts.length aq) rfl) rfl (zY rfl rfl rfl rfl (fun _=>zz rfl rfl zH) (zr rfl rfl rfl rfl rfl rfl (zY rfl rfl rfl rfl (fun _=>zJ rfl rfl zQ rfl yE) (OKS.mt (T:=[ac]) [2] [0,1] [.blk b7 45 B1,.blk b3 28 B0] rfl rfl rfl rfl an rfl ⟨⟨2,by decide,_,rfl,rfl⟩,trivial⟩ (by decide) rfl (by decide) (fun _ bq=>(bq.ldB (j:=1) rfl rfl rfl yS (v:=.slice ap p1.Splits.length au) rfl)) rfl (zY rfl rfl rfl rfl (fun _=>zz rfl rfl ZQ) (zY rfl rfl rfl rfl (fun _=>zf rfl rfl rfl) ?_))))))))
 have q:=bnd hm
 obtain ⟨⟨bu,av⟩,a9,aZ⟩:=q
 try dsimp only at aZ
 let B2:Res:=.blk ac 94 [.slice aj p0.bytes.length ak,jV p0.next,.int .u32 p0.state]
 have bg:SW w [B2] U U [B2,.blk b7 45 B1,.blk b3 28 B0] aR:=an.pick [2,0,1] _ (by decide) rfl
 refine yg 1 rfl rfl rfl rfl (zD rfl rfl yI (zB rfl (zB rfl zK)) rfl) bg (fun hs=>wAS p0 ac aj ak (↑p1.Starts.length:Int) aR U hs br a9) rfl (T:=[ac]) rfl ⟨fun b h=>(by cases h;exact .head _),trivial⟩ ?_
 rintro aP bw bH aT bF bh ⟨aM,aV,rfl,rfl,ba⟩
 have bi:SW w [B2] U aP [.blk ac 94 [.slice aM av.bytes.length aV,jV av.next,.int .u32 av.state],.blk b7 45 B1,.blk b3 28 B0] aT:=bh
 have q:=bnd aZ
 obtain ⟨⟨bv,aL⟩,bb,a5⟩:=q
 try dsimp only at a5
 refine zE 1 Z Z Z Z (zD Z Z yI (zB Z (zB Z zK)) Z) bi (fun hs=>wAS av ac aM aV (w64 ((↑p1.Splits.length:Int) + 1)) aT aP hs ba bb) (.inl Z) ?_
 rintro aQ bx bI aU bG bk ⟨aN,aW,rfl,rfl,bc⟩
 let B3:Res:=.blk ac 94 [.slice aN aL.bytes.length aW,jV aL.next,.int .u32 aL.state]
 have bm:SW w [B2] U aQ [B3,.blk b7 45 B1,.blk b3 28 B0] aU:=bk
 refine bnK a5 fun a6 bd bs=>zE 0 Z Z Z Z (zD Z Z yq (zB Z (zB Z zK)) Z) bm (fun hs=>wAp bu bv aU aQ hs bd) (.inr Z) ?_
 rintro ax bz bJ a7 bt bn ⟨rfl,rfl⟩
 have bo:SW w [B2] U ax [B3,.blk b7 45 B1,.blk b3 28 B0] a7:=bn
 let B4:List Value:=[jV a6.Skier,jV a6.Mat]
 refine zV (j:=1) (vs:=B4) Z Z Z Z bo Z Z Z Z ZC (zA Z) Z Z Z ?_
 intro a8 bp
 have aY:SW w [B2] U ax [B3,.blk b7 45 B4,.blk b3 28 B0] a8:=bp
 refine eN (zU ?_)
 have be:=bc.le bt
 cases bs
 exact ⟨rfl,_,(wGl (v:=.agg B4.toArray) ⟨⟨_,rfl,(wAy ZW ZC (aY.blkAt (k:=1) rfl) (vs:=B4) rfl rfl)⟩,trivial⟩),ax,_,(aY.pick [0] _ (by decide) rfl),aN,aW,rfl,rfl,be⟩
theorem wBr (p0:wAI) (w:World) (U:PHeap) (hS:St0 w U [])  {r:wAH} (hm:wBT p0=some r):Gv Try.prog 49 [.agg #[jV p0.Skier,jV p0.Mat]] w (wCB w [] U (fun U_ L_ v=>v=.agg #[jV r.skier,jV r.mat]/\L_=[])):=by
 unfold wBT at hm
 refine Gv.of Try.func49 Z Try.ntmps49 Try.results49 Z (sR gDv Z ?_)
 let B0:List Value:=[jV p0.Skier,jV p0.Mat]
 refine zu (cs:=B0) rfl rfl rfl rfl rfl rfl (by rfl) hS ?_
 intro W1 b2 aj
 refine zT (cs:=[jV 0,jV 0]) Z Z Z Z Z za Z aj ?_
 intro W5 b6 ac
 refine eN (sR (wGL (.fx 5 .nil .stop)) Z (oR Z (zJ Z Z Zk Z zC) (oL Z (ac.ldB (j:=1) Z Z Z zG (v:=jV p0.Skier) Z) (oR Z (zJ Z Z Zk Z zC) (oL Z (ac.ldB (j:=1) Z Z Z zG (v:=jV p0.Mat) Z) (oR Z (zo (pv:=[(0,jV p0.Skier),(1,jV p0.Mat)]) (z:=[jV 0,jV 0]) (cs:=B0) Z (wAF Z (wAF Z wAO)) za wBa Z Z) (zV (j:=0) (vs:=B0) Z Z Z Z ac Z Z Z Z zI (zA Z) Z Z Z ?_)))))))
 intro W9 ai
 have ae:sW w U U [.blk b6 104 B0,.blk b2 45 B0] W9:=ai
 refine eN (zU ?_)
 cases hm
 exact ⟨rfl,_,(wGl (v:=.agg B0.toArray) ⟨⟨_,rfl,(wAy zi zI (ae.blkAt (k:=0) rfl) (vs:=B0) rfl rfl)⟩,trivial⟩),U,_,(ae.pick [] _ (by decide) rfl),rfl,rfl⟩
theorem wEb (p0:wAC) (aO:Option Addr) (aS:Nat) (aP:Option Addr) (aT:Nat) (aQ:Option Addr) (aU:Nat) (aR:Option Addr) (aV:Nat) (p1:wAI) (p2:wAI) (w:World) (U:PHeap) (hS:St0 w U []) (cJ:Sl U 1 aO aS p0.Starts.length (hD KL.encI p0.Starts)) (cK:Sl U 2 aP aT p0.Splits.length (hD wAG p0.Splits)) (cL:Sl U 3 aQ aU p0.Clocks.length (hD wAA p0.Clocks)) (cM:Sl U 4 aR aV p0.Readings.length (hD wAB p0.Readings)) {r:wAJ × Int} (hm:wCu p0 p1 p2=some r):Gv Try.prog 25 [.agg #[.slice aO p0.Starts.length aS,.slice aP p0.Splits.length aT,.slice aQ p0.Clocks.length aU,.slice aR p0.Readings.length aV],.agg #[jV p1.Skier,jV p1.Mat],.agg #[jV p2.Skier,jV p2.Mat]] w (wCB w [] U (fun U_ L_ v=>v=.tuple #[.agg #[jV r.1.Lo,jV r.1.Hi],jV r.2]/\L_=[])):=by
 unfold wCu at hm
 refine Gv.of Try.func25 Z Try.ntmps25 Try.results25 Z (sR (.fx 0 (.fx 1 gDw .stop) .stop) Z ?_)
 let B0:List Value:=[.slice aO p0.Starts.length aS,.slice aP p0.Splits.length aT,.slice aQ p0.Clocks.length aU,.slice aR p0.Readings.length aV]
 refine zu (cs:=B0) rfl rfl rfl rfl rfl rfl (by rfl) hS ?_
 intro W1 b2 cC
 let B1:List Value:=[jV p1.Skier,jV p1.Mat]
 refine zu (cs:=B1) rfl rfl rfl rfl rfl rfl (by rfl) cC ?_
 intro W5 b6 cD
 let B2:List Value:=[jV p2.Skier,jV p2.Mat]
 refine zu (cs:=B2) rfl rfl rfl rfl rfl rfl (by rfl) cD ?_
 intro W9 ai cp
 let B3:List Value:=[jV 0,jV 0]
 refine zT (cs:=B3) Z Z Z Z Z ZJ Z cp ?_
 intro dh aj aK
 refine oA Z Z (eN (sR (wCa (.fx 3 (.fx 4 (wGi (.nil)) .stop) .stop)) Z (oL Z (aK.ldBA (j:=3) Z Z Z ze zZ (vs:=B0) Z Z) (oL Z (aK.ldBA (j:=2) Z Z Z ZW ZC (vs:=B1) Z Z) (oL Z (aK.ldBA (j:=1) Z Z Z ZW ZC (vs:=B2) Z Z) (ZE (pv:=[(0,.agg B1.toArray),(1,.agg B2.toArray)]) (zs:=[jV 0,jV 0,jV 0,jV 0]) (cs:=[jV p1.Skier,jV p1.Mat,jV p2.Skier,jV p2.Mat]) Z Z Z Z Z (wAF Z (wAF Z wAO)) Zq ZC Zb Z Z Z Z Z aK ?_))))))
 intro aY bj cy
 have cz:sW w U U [.row (some ⟨bj,0,none⟩) 2 45 2 (hD wAT [p1,p2]),.blk aj 41 B3,.blk ai 45 B2,.blk b6 45 B1,.blk b2 28 B0] aY:=cy
 have q:=cz.freezeR (k:=0) (n:=[p1,p2].length) rfl (wAE (f:=wAT) (sz:=2) (fun _=>rfl) [p1,p2]) (by decide)
 obtain ⟨be,aN,cX,cA⟩:=q
 have cB:sW w U be [.blk aj 41 B3,.blk ai 45 B2,.blk b6 45 B1,.blk b2 28 B0] aY:=cA
 have bW:=cJ.le aN
 have bX:=cK.le aN
 have bY:=cL.le aN
 have bZ:=cM.le aN
 have q:=bnd hm
 obtain ⟨⟨cZ,aW⟩,ca,ax⟩:=q
 try dsimp only at ax
 refine zE 0 Z Z Z Z (zD Z Z Try.call46 (zB Z (zB Z zK)) Z) cB (fun hs=>wDL p0 aO aS aP aT aQ aU aR aV [p1,p2] (some ⟨bj,0,none⟩) 2 aY be hs bW bX bY bZ cX ca) (.inr Z) ?_
 rintro an dd dv av dn bt bq
 rcases cZ with _ | aw
 try dsimp only at ax
 obtain ⟨rfl,rfl⟩:=bq
 have bu:sW w U an [.blk aj 41 B3,.blk ai 45 B2,.blk b6 45 B1,.blk b2 28 B0] av:=bt
 refine oM Z Z (oR Z (zP Z Z (v:=.pointer none) Z) (oR Z (zP Z Z (v:=jV aW) Z) (oA Z Z (oA Z Z (eN (zM (sR fL2 Z (oM Z Z (oR Z (ZN Z Z Z) (eN (ifc ax ?_ ?_)))))))))))
 intro a5 cR
 refine zn (zd (fun h=>h a5.out)) (kN (zM (ZA ZB [3,1,2,1,2,0,0,3] gEu (by kernel_rfl) ?_)))
 have aL:=bu.drew
 generalize hw_W61:({ av with drawn:=av.drawn + 1 }:World)=bD at aL ⊢
 refine oM Z Z (oL Z (aL.ldBA (j:=2) Z Z Z ZW ZC (vs:=B1) Z Z) (oL Z (aL.ldBA (j:=1) Z Z Z ZW ZC (vs:=B2) Z Z) (bnK cR fun dz cb cS=>zE 0 Z Z Z Z (zD Z Z yZ (zB Z zK) Z) aL (fun hs=>wBr p1 bD an hs cb) (.inr Z) ?_)))
 rintro bf de dw bi dp cE ⟨rfl,rfl⟩
 have cG:sW w U bf [.blk aj 41 B3,.blk ai 45 B2,.blk b6 45 B1,.blk b2 28 B0] bi:=cE
 refine bnK cS fun dA cc cU=>zE 0 Z Z Z Z (zD Z Z yZ (zB Z zK) Z) cG (fun hs=>wBr p2 bi bf hs cc) (.inr Z) ?_
 rintro bz df dx bE dq cH ⟨rfl,rfl⟩
 have dl:sW w U bz [.blk aj 41 B3,.blk ai 45 B2,.blk b6 45 B1,.blk b2 28 B0] bE:=cH
 cases cU
 intro a5 cV
 refine cT Z a5 (sR gEj Z (oR Z (zo (pv:=[]) (z:=B3) (cs:=B3) Z wAO ZJ wBo Z Z) (oM Z Z (zV (j:=0) (vs:=B3) Z Z Z Z bu Z Z Z Z zj (zA Z) Z Z Z ?_))))
 intro bF cI
 have bv:sW w U an [.blk aj 41 B3,.blk ai 45 B2,.blk b6 45 B1,.blk b2 28 B0] bF:=cI
 refine oA Z Z (eN (zU (zN ?_)))
 cases cV
 exact ⟨rfl,_,(wCT (rs:=[.cell 6 41,.tmp 7]) (vs:=[.agg B3.toArray,jV aW]) ⟨⟨_,rfl,(wAy Zn zj (bv.blkAt (k:=0) rfl) (vs:=B3) rfl rfl)⟩,⟨rfl,trivial⟩⟩ rfl),an,_,(bv.pick [] _ (by decide) rfl),rfl,rfl⟩
 try dsimp only at ax
 obtain ⟨aZ,a7,bk,a8,bm,a9,bn,ba,bo,ao,aq,ap,bb,bp,rfl,rfl,cd,cf,cg,ci,cj,cm⟩:=bq
 let B4:Res:=.blk aZ 124 [.slice a7 aw.Race.Starts.length bk,.slice a8 aw.Race.Splits.length bm,.slice a9 aw.Race.Clocks.length bn,.slice ba aw.Race.Readings.length bo,.map (some ao),.slice bb aw.edges.length bp]
 have bw:sW w U an [B4,.obj ao (.map aq ap),.blk aj 41 B3,.blk ai 45 B2,.blk b6 45 B1,.blk b2 28 B0] av:=bt
 refine oM Z Z (oR Z (zP Z Z (v:=.pointer (some ⟨aZ,0,none⟩)) Z) (oR Z (zP Z Z (v:=jV aW) Z) (oA Z Z (oA Z Z (eN (zM (sR fL2 Z (oM Z Z (oR Z (ZN Z Z Z) (eN (ifc ax ?_ ?_)))))))))))
 intro a6 cW
 refine zn (zd (fun h=>h a6.out)) (kN (zM (ZA ZB [3,1,2,1,2,0,0,3] gEu (by kernel_rfl) ?_)))
 have aM:=bw.drew
 generalize hw_W98:({ av with drawn:=av.drawn + 1 }:World)=bG at aM ⊢
 refine oM Z Z (oL Z (aM.ldBA (j:=4) Z Z Z ZW ZC (vs:=B1) Z Z) (oL Z (aM.ldBA (j:=3) Z Z Z ZW ZC (vs:=B2) Z Z) (bnK cW fun c6 bH cN=>zE 0 Z Z Z Z (zD Z Z yZ (zB Z zK) Z) aM (fun hs=>wBr p1 bG an hs bH) (.inr Z) ?_)))
 rintro bc c8 dr bg ay cn ⟨rfl,rfl⟩
 have co:sW w U bc [B4,.obj ao (.map aq ap),.blk aj 41 B3,.blk ai 45 B2,.blk b6 45 B1,.blk b2 28 B0] bg:=cn
 refine bnK cN fun cY bI cO=>zE 0 Z Z Z Z (zD Z Z yZ (zB Z zK) Z) co (fun hs=>wBr p2 bg bc hs bI) (.inr Z) ?_
 rintro bd da dt bh az cq ⟨rfl,rfl⟩
 have cr:sW w U bd [B4,.obj ao (.map aq ap),.blk aj 41 B3,.blk ai 45 B2,.blk b6 45 B1,.blk b2 28 B0] bh:=cq
 have bJ:=cd.le ay
 have bK:=bJ.le az
 have bL:=cf.le ay
 have bM:=bL.le az
 have bN:=cg.le ay
 have bP:=bN.le az
 have bQ:=ci.le ay
 have bR:=bQ.le az
 have bS:=cm.le ay
 have bU:=bS.le az
 refine bnK cO fun bx bV cP=>zE 2 Z Z Z Z (zD Z Z Try.call47 (zB Z (zB Z (zB Z zK))) Z) cr (fun hs=>wDH aw aZ a7 bk a8 bm a9 bn ba bo ao aq ap bb bp c6 cY bh bd hs bK bM bP bR cj bU bV) (.inl Z) ?_
 rintro aX db du bA dm ct ⟨rfl,rfl⟩
 have cu:sW w U aX [B4,.obj ao (.map aq ap),.blk aj 41 B3,.blk ai 45 B2,.blk b6 45 B1,.blk b2 28 B0] bA:=ct
 let B5:List Value:=[jV bx.Lo,jV bx.Hi]
 refine zV (j:=2) (vs:=B5) Z Z Z Z cu Z Z Z Z zj (zA Z) Z Z Z ?_
 intro bB cw
 have br:sW w U aX [B4,.obj ao (.map aq ap),.blk aj 41 B5,.blk ai 45 B2,.blk b6 45 B1,.blk b2 28 B0] bB:=cw
 refine oA Z Z (eN (zU ?_))
 cases cP
 exact ⟨rfl,_,(wCT (rs:=[.cell 6 41,.tmp 7]) (vs:=[.agg B5.toArray,jV 0]) ⟨⟨_,rfl,(wAy Zn zj (br.blkAt (k:=2) rfl) (vs:=B5) rfl rfl)⟩,⟨rfl,trivial⟩⟩ rfl),aX,_,(br.pick [] _ (by decide) rfl),rfl,rfl⟩
 intro a6 cQ
 refine cT Z a6 (sR gEj Z (oR Z (zo (pv:=[]) (z:=B3) (cs:=B3) Z wAO ZJ wBo Z Z) (oM Z Z (zV (j:=2) (vs:=B3) Z Z Z Z bw Z Z Z Z zj (zA Z) Z Z Z ?_))))
 intro bC cx
 have bs:sW w U an [B4,.obj ao (.map aq ap),.blk aj 41 B3,.blk ai 45 B2,.blk b6 45 B1,.blk b2 28 B0] bC:=cx
 refine oA Z Z (eN (zU (zN ?_)))
 cases cQ
 exact ⟨rfl,_,(wCT (rs:=[.cell 6 41,.tmp 7]) (vs:=[.agg B3.toArray,jV aW]) ⟨⟨_,rfl,(wAy Zn zj (bs.blkAt (k:=2) rfl) (vs:=B3) rfl rfl)⟩,⟨rfl,trivial⟩⟩ rfl),an,_,(bs.pick [] _ (by decide) rfl),rfl,rfl⟩
theorem wFB (p0:wAC) (az:Option Addr) (aM:Nat) (aJ:Option Addr) (aN:Nat) (aK:Option Addr) (aO:Nat) (aL:Option Addr) (aP:Nat) (p1:wAI) (w:World) (U:PHeap) (hS:St0 w U []) (cE:Sl U 1 az aM p0.Starts.length (hD KL.encI p0.Starts)) (cG:Sl U 2 aJ aN p0.Splits.length (hD wAG p0.Splits)) (cH:Sl U 3 aK aO p0.Clocks.length (hD wAA p0.Clocks)) (cI:Sl U 4 aL aP p0.Readings.length (hD wAB p0.Readings)) {r:wAJ × Int} (hm:wCM p0 p1=some r):Gv Try.prog 15 [.agg #[.slice az p0.Starts.length aM,.slice aJ p0.Splits.length aN,.slice aK p0.Clocks.length aO,.slice aL p0.Readings.length aP],.agg #[jV p1.Skier,jV p1.Mat]] w (wCB w [] U (fun U_ L_ v=>v=.tuple #[.agg #[jV r.1.Lo,jV r.1.Hi],jV r.2]/\L_=[])):=by
 unfold wCM at hm
 refine Gv.of Try.func15 Z Try.ntmps15 Try.results15 Z (sR gEh Z ?_)
 let B0:List Value:=[.slice az p0.Starts.length aM,.slice aJ p0.Splits.length aN,.slice aK p0.Clocks.length aO,.slice aL p0.Readings.length aP]
 refine zu (cs:=B0) rfl rfl rfl rfl rfl rfl (by rfl) hS ?_
 intro W1 b2 cy
 let B1:List Value:=[jV p1.Skier,jV p1.Mat]
 refine zu (cs:=B1) rfl rfl rfl rfl rfl rfl (by rfl) cy ?_
 intro W5 b6 cB
 let B2:List Value:=[jV 0,jV 0]
 refine zT (cs:=B2) Z Z Z Z Z ZJ Z cB ?_
 intro W9 af aW
 refine oA Z Z (eN (sR (.fl 0 (.fl 1 (.fx 2 (.fx 3 (wJA (.nil)) .stop) .stop))) Z (oL Z (aW.ldBA (j:=2) Z Z Z ze zZ (vs:=B0) Z Z) (oL Z (aW.ldBA (j:=1) Z Z Z ZW ZC (vs:=B1) Z Z) (ZE (pv:=[(0,.agg B1.toArray)]) (zs:=B2) (cs:=B1) Z Z Z Z Z (wAF Z wAO) Zq ZC Zb Z Z Z Z Z aW ?_)))))
 intro aS bg ct
 have cu:sW w U U [.row (some ⟨bg,0,none⟩) 1 45 2 (hD wAT [p1]),.blk af 41 B2,.blk b6 45 B1,.blk b2 28 B0] aS:=ct
 have q:=cu.freezeR (k:=0) (n:=[p1].length) rfl (wAE (f:=wAT) (sz:=2) (fun _=>rfl) [p1]) (by decide)
 obtain ⟨ba,ay,cS,cw⟩:=q
 have cx:sW w U ba [.blk af 41 B2,.blk b6 45 B1,.blk b2 28 B0] aS:=cw
 have bR:=cE.le ay
 have bS:=cG.le ay
 have bU:=cH.le ay
 have bV:=cI.le ay
 have q:=bnd hm
 obtain ⟨⟨cV,aQ⟩,bW,au⟩:=q
 try dsimp only at au
 refine zE 0 Z Z Z Z (zD Z Z Try.call46 (zB Z (zB Z zK)) Z) cx (fun hs=>wDL p0 az aM aJ aN aK aO aL aP [p1] (some ⟨bg,0,none⟩) 1 aS ba hs bR bS bU bV cS bW) (.inr Z) ?_
 rintro aj cZ dp ap dh bq bn
 rcases cV with _ | aq
 try dsimp only at au
 obtain ⟨rfl,rfl⟩:=bn
 have br:sW w U aj [.blk af 41 B2,.blk b6 45 B1,.blk b2 28 B0] ap:=bq
 refine oM Z Z (oR Z (zP Z Z (v:=.pointer none) Z) (oR Z (zP Z Z (v:=jV aQ) Z) (oA Z Z (oA Z Z (eN (zM (sR fL2 Z (oM Z Z (oR Z (ZN Z Z Z) (eN (ifc au ?_ ?_)))))))))))
 intro aU cM
 refine zn (zd (fun h=>h aU.out)) (kN (zM (ZA ZB [3,2,1,2,0,0,3] gEt (by kernel_rfl) ?_)))
 have aX:=br.drew
 generalize hw_W57:({ ap with drawn:=ap.drawn + 1 }:World)=bA at aX ⊢
 refine oM Z Z (oL Z (aX.ldBA (j:=1) Z Z Z ZW ZC (vs:=B1) Z Z) (bnK cM fun dt bX cN=>zE 0 Z Z Z Z (zD Z Z yY zK Z) aX (fun hs=>wBK bA aj hs bX) (.inr Z) ?_))
 rintro bb c6 dq bf di cz ⟨rfl,rfl⟩
 have cA:sW w U bb [.blk af 41 B2,.blk b6 45 B1,.blk b2 28 B0] bf:=cz
 refine bnK cN fun du bY cO=>zE 0 Z Z Z Z (zD Z Z yZ (zB Z zK) Z) cA (fun hs=>wBr p1 bf bb hs bY) (.inr Z) ?_
 rintro bv c8 dr bB dk cC ⟨rfl,rfl⟩
 have df:sW w U bv [.blk af 41 B2,.blk b6 45 B1,.blk b2 28 B0] bB:=cC
 cases cO
 intro aU cP
 refine cT Z aU (sR gEj Z (oR Z (zo (pv:=[]) (z:=B2) (cs:=B2) Z wAO ZJ wBo Z Z) (oM Z Z (zV (j:=0) (vs:=B2) Z Z Z Z br Z Z Z Z zj (zA Z) Z Z Z ?_))))
 intro bC cD
 have bs:sW w U aj [.blk af 41 B2,.blk b6 45 B1,.blk b2 28 B0] bC:=cD
 refine oA Z Z (eN (zU (zN ?_)))
 cases cP
 exact ⟨rfl,_,(wCT (rs:=[.cell 4 41,.tmp 5]) (vs:=[.agg B2.toArray,jV aQ]) ⟨⟨_,rfl,(wAy Zn zj (bs.blkAt (k:=0) rfl) (vs:=B2) rfl rfl)⟩,⟨rfl,trivial⟩⟩ rfl),aj,_,(bs.pick [] _ (by decide) rfl),rfl,rfl⟩
 try dsimp only at au
 obtain ⟨aT,aZ,bh,a5,bi,a6,bj,a7,bk,ak,an,am,a8,bm,rfl,rfl,bZ,ca,cb,cc,cd,cf⟩:=bn
 let B3:Res:=.blk aT 124 [.slice aZ aq.Race.Starts.length bh,.slice a5 aq.Race.Splits.length bi,.slice a6 aq.Race.Clocks.length bj,.slice a7 aq.Race.Readings.length bk,.map (some ak),.slice a8 aq.edges.length bm]
 have bt:sW w U aj [B3,.obj ak (.map an am),.blk af 41 B2,.blk b6 45 B1,.blk b2 28 B0] ap:=bq
 refine oM Z Z (oR Z (zP Z Z (v:=.pointer (some ⟨aT,0,none⟩)) Z) (oR Z (zP Z Z (v:=jV aQ) Z) (oA Z Z (oA Z Z (eN (zM (sR fL2 Z (oM Z Z (oR Z (ZN Z Z Z) (eN (ifc au ?_ ?_)))))))))))
 intro aV cQ
 refine zn (zd (fun h=>h aV.out)) (kN (zM (ZA ZB [3,2,1,2,0,0,3] gEt (by kernel_rfl) ?_)))
 have aY:=bt.drew
 generalize hw_W94:({ ap with drawn:=ap.drawn + 1 }:World)=bD at aY ⊢
 refine oM Z Z (oL Z (aY.ldBA (j:=3) Z Z Z ZW ZC (vs:=B1) Z Z) (bnK cQ fun cW cg cR=>zE 0 Z Z Z Z (zD Z Z yY zK Z) aY (fun hs=>wBK bD aj hs cg) (.inr Z) ?_))
 rintro bc da dl bd av ci ⟨rfl,rfl⟩
 have cj:sW w U bc [B3,.obj ak (.map an am),.blk af 41 B2,.blk b6 45 B1,.blk b2 28 B0] bd:=ci
 refine bnK cR fun cU bE cJ=>zE 0 Z Z Z Z (zD Z Z yZ (zB Z zK) Z) cj (fun hs=>wBr p1 bd bc hs bE) (.inr Z) ?_
 rintro a9 cX dm be aw cm ⟨rfl,rfl⟩
 have cn:sW w U a9 [B3,.obj ak (.map an am),.blk af 41 B2,.blk b6 45 B1,.blk b2 28 B0] be:=cm
 have bF:=bZ.le av
 have bG:=bF.le aw
 have bH:=ca.le av
 have bI:=bH.le aw
 have bJ:=cb.le av
 have bK:=bJ.le aw
 have bL:=cc.le av
 have bM:=bL.le aw
 have bN:=cf.le av
 have bP:=bN.le aw
 refine bnK cJ fun bu bQ cK=>zE 2 Z Z Z Z (zD Z Z Try.call47 (zB Z (zB Z (zB Z zK))) Z) cn (fun hs=>wDH aq aT aZ bh a5 bi a6 bj a7 bk ak an am a8 bm cW cU be a9 hs bG bI bK bM cd bP bQ) (.inl Z) ?_
 rintro aR cY dn bw dg co ⟨rfl,rfl⟩
 have cp:sW w U aR [B3,.obj ak (.map an am),.blk af 41 B2,.blk b6 45 B1,.blk b2 28 B0] bw:=co
 let B4:List Value:=[jV bu.Lo,jV bu.Hi]
 refine zV (j:=2) (vs:=B4) Z Z Z Z cp Z Z Z Z zj (zA Z) Z Z Z ?_
 intro bx cq
 have bo:sW w U aR [B3,.obj ak (.map an am),.blk af 41 B4,.blk b6 45 B1,.blk b2 28 B0] bx:=cq
 refine oA Z Z (eN (zU ?_))
 cases cK
 exact ⟨rfl,_,(wCT (rs:=[.cell 4 41,.tmp 5]) (vs:=[.agg B4.toArray,jV 0]) ⟨⟨_,rfl,(wAy Zn zj (bo.blkAt (k:=2) rfl) (vs:=B4) rfl rfl)⟩,⟨rfl,trivial⟩⟩ rfl),aR,_,(bo.pick [] _ (by decide) rfl),rfl,rfl⟩
 intro aV cL
 refine cT Z aV (sR gEj Z (oR Z (zo (pv:=[]) (z:=B2) (cs:=B2) Z wAO ZJ wBo Z Z) (oM Z Z (zV (j:=2) (vs:=B2) Z Z Z Z bt Z Z Z Z zj (zA Z) Z Z Z ?_))))
 intro bz cr
 have bp:sW w U aj [B3,.obj ak (.map an am),.blk af 41 B2,.blk b6 45 B1,.blk b2 28 B0] bz:=cr
 refine oA Z Z (eN (zU (zN ?_)))
 cases cL
 exact ⟨rfl,_,(wCT (rs:=[.cell 4 41,.tmp 5]) (vs:=[.agg B2.toArray,jV aQ]) ⟨⟨_,rfl,(wAy Zn zj (bp.blkAt (k:=2) rfl) (vs:=B2) rfl rfl)⟩,⟨rfl,trivial⟩⟩ rfl),aj,_,(bp.pick [] _ (by decide) rfl),rfl,rfl⟩
theorem wIB (p0:wAC) (cn:Option Addr) (cr:Nat) (co:Option Addr) (ct:Nat) (cp:Option Addr) (cu:Nat) (cq:Option Addr) (cw:Nat) (p1:wAI) (p2:wAI) (p3:Bool) (w:World) (U:PHeap) (hS:St0 w U []) (iT:Sl U 1 cn cr p0.Starts.length (hD KL.encI p0.Starts)) (iU:Sl U 2 co ct p0.Splits.length (hD wAG p0.Splits)) (iV:Sl U 3 cp cu p0.Clocks.length (hD wAA p0.Clocks)) (iW:Sl U 4 cq cw p0.Readings.length (hD wAB p0.Readings)) {r:(List (List Int)) × (List Int) × Int} (hm:wCq p0 p1 p2 p3=some r):Gv Try.prog 39 [.agg #[.slice cn p0.Starts.length cr,.slice co p0.Splits.length ct,.slice cp p0.Clocks.length cu,.slice cq p0.Readings.length cw],.agg #[jV p1.Skier,jV p1.Mat],.agg #[jV p2.Skier,jV p2.Mat],.bool p3] w (wCB w [] U (fun U_ L_ v=>∃ (A0:Option Addr) (c0:Nat) (d9:List Value) (A1:Option Addr) (c1:Nat),v=.tuple #[.slice A0 r.1.length c0,.slice A1 r.2.1.length c1,jV r.2.2]/\L_=[.row A0 c0 23 1 d9,.row A1 c1 3 1 (hD KL.encI r.2.1)]/\RlL U_ wHb r.1 d9)):=by
 unfold wCq at hm
 refine Gv.of Try.func39 Z Try.ntmps39 Try.results39 Z (sR (.fx 0 (.fx 1 (.fx 2 (wJk (.nil)) .stop) .stop) .stop) Z ?_)
 let B0:List Value:=[.slice cn p0.Starts.length cr,.slice co p0.Splits.length ct,.slice cp p0.Clocks.length cu,.slice cq p0.Readings.length cw]
 refine zu (cs:=B0) rfl rfl rfl rfl rfl rfl (by rfl) hS ?_
 intro W1 b2 ie
 let B1:List Value:=[jV p1.Skier,jV p1.Mat]
 refine zu (cs:=B1) rfl rfl rfl rfl rfl rfl (by rfl) ie ?_
 intro W5 b6 iS
 let B2:List Value:=[jV p2.Skier,jV p2.Mat]
 refine zu (cs:=B2) rfl rfl rfl rfl rfl rfl (by rfl) iS ?_
 intro W9 ag cb
 refine oA Z Z (oA Z Z (oA Z Z (eN (sR (wCa (.fx 3 (.fx 4 (wGi (.nil)) .stop) .stop)) Z (oL Z (cb.ldBA (j:=2) Z Z Z ze zZ (vs:=B0) Z Z) (oL Z (cb.ldBA (j:=1) Z Z Z ZW ZC (vs:=B1) Z Z) (oL Z (cb.ldBA (j:=0) Z Z Z ZW ZC (vs:=B2) Z Z) (ZE (pv:=[(0,.agg B1.toArray),(1,.agg B2.toArray)]) (zs:=[jV 0,jV 0,jV 0,jV 0]) (cs:=[jV p1.Skier,jV p1.Mat,jV p2.Skier,jV p2.Mat]) Z Z Z Z Z (wAF Z (wAF Z wAO)) Zq ZC Zb Z Z Z Z Z cb ?_))))))))
 intro cM dU gH
 have gK:sW w U U [.row (some ⟨dU,0,none⟩) 2 45 2 (hD wAT [p1,p2]),.blk ag 45 B2,.blk b6 45 B1,.blk b2 28 B0] cM:=gH
 have q:=gK.freezeR (k:=0) (n:=[p1,p2].length) rfl (wAE (f:=wAT) (sz:=2) (fun _=>rfl) [p1,p2]) (by decide)
 obtain ⟨dJ,cm,i9,gS⟩:=q
 have gV:sW w U dJ [.blk ag 45 B2,.blk b6 45 B1,.blk b2 28 B0] cM:=gS
 have fB:=iT.le cm
 have fJ:=iU.le cm
 have fK:=iV.le cm
 have fL:=iW.le cm
 have q:=bnd hm
 obtain ⟨⟨jk,eA⟩,fZ,bk⟩:=q
 try dsimp only at bk
 refine zE 0 Z Z Z Z (zD Z Z Try.call46 (zB Z (zB Z zK)) Z) gV (fun hs=>wDL p0 cn cr co ct cp cu cq cw [p1,p2] (some ⟨dU,0,none⟩) 2 cM dJ hs fB fJ fK fL i9 fZ) (.inr Z) ?_
 rintro av jv jU a7 jM ek eg
 rcases jk with _ | am
 try dsimp only at bk
 obtain ⟨rfl,rfl⟩:=eg
 have cc:sW w U av [.blk ag 45 B2,.blk b6 45 B1,.blk b2 28 B0] a7:=ek
 refine oM Z Z (oR Z (zP Z Z (v:=.pointer none) Z) (oR Z (zP Z Z (v:=jV eA) Z) (oA Z Z (oA Z Z (eN (zM (sR fL2 Z (oM Z Z (oR Z (ZN Z Z Z) (eN (ifc bk ?_ ?_)))))))))))
 intro cW i3
 refine zn (zd (fun h=>h cW.out)) (kN (zM (sR fL2 Z (oM Z Z (oR Z (ZT Z Z) (eN (ifc i3 ?_ ?_)))))))
 intro cX i4
 refine zn (nC cX.out) (kN (zM (ZA ZB [3,3,3,3,1,1,2,1,0,3,3,3,3,2,0,3,3] (wFr (.fx 6 (.fl 7 (.fx 8 (wEe gEn) (.fx 13 (.fx 8 (wEe gEd) (.stop)) (.stop)))) (.fx 13 (.fx 6 (.fl 7 (.fx 8 (wEe gEd) (.stop))) (.stop)) (.stop)))) (by kernel_rfl) ?_)))
 have iM:=cc.drew
 generalize hw_W59:({ a7 with drawn:=a7.drawn + 1 }:World)=jI at iM ⊢
 refine oM Z Z (oM Z Z ?_)
 cases i4
 intro cX i5
 refine ZD (nF (cX.out)) (rR gDs Z (oL Z (cc.ldBA (j:=0) Z Z Z ZW ZC (vs:=B2) Z Z) (zV (j:=1) (vs:=B2) Z Z Z Z cc Z Z Z Z ZC (zA Z) Z Z Z ?_)))
 intro cQ iN
 have iO:sW w U av [.blk ag 45 B2,.blk b6 45 B2,.blk b2 28 B0] cQ:=iN
 refine eN (zM (ZA ZB [3,3,3,3,1,1,2,1,0,3,3,3,3,2,0,3,3] (wFr (.fx 6 (.fl 7 (.fx 8 (wEe gEn) (.fx 13 (.fx 8 (wEe gEd) (.stop)) (.stop)))) (.fx 13 (.fx 6 (.fl 7 (.fx 8 (wEe gEd) (.stop))) (.stop)) (.stop)))) (by kernel_rfl) ?_))
 have iP:=iO.drew
 generalize hw_W65:({ cQ with drawn:=cQ.drawn + 1 }:World)=jJ at iP ⊢
 refine oM Z Z (oM Z Z ?_)
 cases i5
 intro cW i6
 refine cT Z cW (sR fL4 Z (oM Z Z (oA Z Z (oA Z Z (oA Z Z (eN (zU (zN ?_))))))))
 have iQ:=cc.nilrow 23 1
 have iR:=iQ.nilrow 3 1
 cases i6
 exact ⟨rfl,_,(wLF rfl rfl rfl),av,_,(iR.pick [1,0] _ (by decide) rfl),none,0,[],none,0,rfl,rfl,RlL.nil⟩
 try dsimp only at bk
 obtain ⟨aw,aJ,aO,aK,aP,aL,aQ,aM,aR,ab,ae,ac,aN,aS,rfl,rfl,aT,aU,aV,aW,ax,aX⟩:=eg
 let B3:Res:=.blk aw 124 [.slice aJ am.Race.Starts.length aO,.slice aK am.Race.Splits.length aP,.slice aL am.Race.Clocks.length aQ,.slice aM am.Race.Readings.length aR,.map (some ab),.slice aN am.edges.length aS]
 have cd:sW w U av [B3,.obj ab (.map ae ac),.blk ag 45 B2,.blk b6 45 B1,.blk b2 28 B0] a7:=ek
 refine oM Z Z (oR Z (zP Z Z (v:=.pointer (some ⟨aw,0,none⟩)) Z) (oR Z (zP Z Z (v:=jV eA) Z) (oA Z Z (oA Z Z (eN (zM (sR fL2 Z (oM Z Z (oR Z (ZN Z Z Z) (eN (ifc bk ?_ ?_)))))))))))
 intro cY i7
 refine zn (zd (fun h=>h cY.out)) (kN (zM (sR fL2 Z (oM Z Z (oR Z (ZT Z Z) (eN (ifc i7 ?_ ?_)))))))
 intro cZ i8
 refine zn (nC cZ.out) (kN ?_)
 have q:=bnd i8
 obtain ⟨⟨aZ,cj⟩,jd,ew⟩:=q
 try dsimp only at ew
 refine yN (fun σ_ w_=>∃ (U_:PHeap) (bM:Nat) (a6:Option Addr) (a9:Nat) (bd:Option Addr) (bh:Nat),σ_ 11=.pointer (some ⟨aw,0,none⟩)/\σ_ 13=.pointer (some ⟨bM,0,none⟩)/\PHeap.Le av U_/\sW w U U_ [B3,.obj ab (.map ae ac),.blk ag 45 B2,.blk b6 45 B1,.blk b2 28 B0,.blk bM 118 [.slice a6 aZ.length a9,.slice bd cj.length bh],.row a6 a9 3 1 (hD KL.encI aZ),.row bd bh 3 1 (hD KL.encI cj)] w_) ?_ ?_
 refine bnK jd fun br ef iX=>?_
 have q:=bnd iX
 obtain ⟨⟨ao,dd,de⟩,c6,cf⟩:=q
 try dsimp only at cf
 refine ZA ZB [3,3,3,3,1,1,2,1,0,3,3,3,3,2,0,3,3] (wFr (.fx 6 (.fl 7 (.fx 8 (wEe gEn) (.fx 13 (.fx 8 (wEe gEd) (.stop)) (.stop)))) (.fx 13 (.fx 6 (.fl 7 (.fx 8 (wEe gEd) (.stop))) (.stop)) (.stop)))) (by kernel_rfl) ?_
 have bi:=cd.drew
 generalize hw_W138:({ a7 with drawn:=a7.drawn + 1 }:World)=eE at bi ⊢
 refine oM Z Z (oM Z Z (oR Z (Za Z Z) (oR Z (zJ Z Z ZF Z Zs) (oL Z (bi.ldB (j:=0) Z Z Z Zx (v:=.map (some ab)) Z) (oL Z (bi.ldBA (j:=3) Z Z Z ZW ZC (vs:=B1) Z Z) (zk ?_ ?_))))))
 refine zE 0 Z Z Z Z (zD Z Z yZ (zB Z zK) Z) bi (fun hs=>wBr p1 eE av hs ef) (.inr Z) ?_
 rintro bH jo jO dO ay gG ⟨rfl,rfl⟩
 have da:sW w U bH [B3,.obj ab (.map ae ac),.blk ag 45 B2,.blk b6 45 B1,.blk b2 28 B0] dO:=gG
 refine oL Z (da.lookup1 (j:=1) (mk:=wBB) (mv:=wBC) (a:=br) (z:=0) Z Z Z Z (wBV ZI) wCH zw ax) (zk ?_ ?_)
 have fj:=aT.le ay
 have fk:=aU.le ay
 have fm:=aV.le ay
 have fq:=aW.le ay
 have ft:=aX.le ay
 refine zE 2 Z Z Z Z (zD Z Z ye (zB Z (zB Z (zB Z zK))) Z) da (fun hs=>wAb am aw aJ aO aK aP aL aQ aM aR ab ae ac aN aS (wAr am.number br 0) false dO bH hs fj fk fm fq ax ft c6) (.inl Z) ?_
 rintro cD jp jP eG je gI ⟨bs,bN,bt,bP,rfl,rfl⟩
 let B4:Res:=.row bs bN 3 1 (hD KL.encI ao.far)
 let B5:Res:=.row bt bP 3 1 (hD KL.encI ao.by_)
 have gJ:sW w U cD [B4,B5,B3,.obj ab (.map ae ac),.blk ag 45 B2,.blk b6 45 B1,.blk b2 28 B0] eG:=gI
 refine oM Z Z (oR Z (zP Z Z (v:=.agg #[.slice bs ao.far.length bN,.slice bt ao.by_.length bP]) Z) (oR Z (zP Z Z (v:=jV dd) Z) (oR Z (zP Z Z (v:=.bool de) Z) (zT (cs:=[.slice none 0 0,.slice none 0 0]) Z Z Z Z Z Zd Z gJ ?_))))
 intro jF dV gL
 let B6:List Value:=[.slice bs ao.far.length bN,.slice bt ao.by_.length bP]
 refine zV (j:=0) (vs:=B6) Z Z Z Z gL Z Z Z Z Zj (zA Z) Z Z Z ?_
 intro eH gM
 have gN:sW w U cD [.blk dV 118 B6,B4,B5,B3,.obj ab (.map ae ac),.blk ag 45 B2,.blk b6 45 B1,.blk b2 28 B0] eH:=gM
 refine oA Z Z (oA Z Z (zg ?_))
 cases cf
 exact zL ⟨rfl,⟨cD,dV,bs,bN,bt,bP,rfl,rfl,(ay.trans je),(gN.pick [3,4,5,6,7,0,1,2] _ (by decide) rfl)⟩⟩
 let B7:List Value:=[.slice none 0 0,.slice none 0 0]
 refine zT (cs:=B7) Z Z Z Z Z Zd Z da ?_
 intro dP bJ gO
 have fu:=aT.le ay
 have fw:=aU.le ay
 have fy:=aV.le ay
 have fz:=aW.le ay
 have fA:=aX.le ay
 have gP:sW w U bH [B3,.obj ab (.map ae ac),.blk bJ 118 B7,.blk ag 45 B2,.blk b6 45 B1,.blk b2 28 B0] dP:=gO.pick [1,2,0,3,4,5] _ (by decide) rfl
 refine zE 2 Z Z Z Z (zD Z Z ye (zB Z (zB Z (zB Z zK))) Z) gP (fun hs=>wAb am aw aJ aO aK aP aL aQ aM aR ab ae ac aN aS (wAr am.number br 0) false dP bH hs fu fw fy fz ax fA c6) (.inl Z) ?_
 rintro cE jq jQ eI jf gQ ⟨bu,bQ,bv,bR,rfl,rfl⟩
 let B8:Res:=.row bu bQ 3 1 (hD KL.encI ao.far)
 let B9:Res:=.row bv bR 3 1 (hD KL.encI ao.by_)
 have gR:sW w U cE [B8,B9,B3,.obj ab (.map ae ac),.blk bJ 118 B7,.blk ag 45 B2,.blk b6 45 B1,.blk b2 28 B0] eI:=gQ
 refine oM Z Z (oR Z (zP Z Z (v:=.agg #[.slice bu ao.far.length bQ,.slice bv ao.by_.length bR]) Z) (oR Z (zP Z Z (v:=jV dd) Z) (oR Z (zP Z Z (v:=.bool de) Z) ?_)))
 let dk:List Value:=[.slice bu ao.far.length bQ,.slice bv ao.by_.length bR]
 refine zV (j:=4) (vs:=dk) Z Z Z Z gR Z Z Z Z Zj (zA Z) Z Z Z ?_
 intro eJ gT
 have gU:sW w U cE [B8,B9,B3,.obj ab (.map ae ac),.blk bJ 118 dk,.blk ag 45 B2,.blk b6 45 B1,.blk b2 28 B0] eJ:=gT
 refine oA Z Z (oA Z Z (zg ?_))
 cases cf
 exact zL ⟨rfl,⟨cE,bJ,bu,bQ,bv,bR,rfl,rfl,(ay.trans jf),(gU.pick [2,3,5,6,7,4,0,1] _ (by decide) rfl)⟩⟩
 let bF:List Value:=[.slice none 0 0,.slice none 0 0]
 refine zT (cs:=bF) Z Z Z Z Z Zd Z bi ?_
 intro eK be gW
 refine zE 0 Z Z Z Z (zD Z Z yZ (zB Z zK) Z) gW (fun hs=>wBr p1 eK av hs ef) (.inr Z) ?_
 rintro cG jr jR cN ba gX ⟨rfl,rfl⟩
 have eh:sW w U cG [.blk be 118 bF,B3,.obj ab (.map ae ac),.blk ag 45 B2,.blk b6 45 B1,.blk b2 28 B0] cN:=gX
 refine oL Z (eh.lookup1 (j:=2) (mk:=wBB) (mv:=wBC) (a:=br) (z:=0) Z Z Z Z (wBV ZI) wCH zw ax) ?_
 have fC:=aT.le ba
 have fD:=aU.le ba
 have fG:=aV.le ba
 have fH:=aW.le ba
 have fI:=aX.le ba
 have gY:sW w U cG [B3,.obj ab (.map ae ac),.blk be 118 bF,.blk ag 45 B2,.blk b6 45 B1,.blk b2 28 B0] cN:=eh.pick [1,2,0,3,4,5] _ (by decide) rfl
 refine zE 2 Z Z Z Z (zD Z Z ye (zB Z (zB Z (zB Z zK))) Z) gY (fun hs=>wAb am aw aJ aO aK aP aL aQ aM aR ab ae ac aN aS (wAr am.number br 0) false cN cG hs fC fD fG fH ax fI c6) (.inl Z) ?_
 rintro cH jt jS eL jg gZ ⟨bw,bS,bx,bU,rfl,rfl⟩
 let dl:Res:=.row bw bS 3 1 (hD KL.encI ao.far)
 let dm:Res:=.row bx bU 3 1 (hD KL.encI ao.by_)
 have g6:sW w U cH [dl,dm,B3,.obj ab (.map ae ac),.blk be 118 bF,.blk ag 45 B2,.blk b6 45 B1,.blk b2 28 B0] eL:=gZ
 refine oM Z Z (oR Z (zP Z Z (v:=.agg #[.slice bw ao.far.length bS,.slice bx ao.by_.length bU]) Z) (oR Z (zP Z Z (v:=jV dd) Z) (oR Z (zP Z Z (v:=.bool de) Z) ?_)))
 let dn:List Value:=[.slice bw ao.far.length bS,.slice bx ao.by_.length bU]
 refine zV (j:=4) (vs:=dn) Z Z Z Z g6 Z Z Z Z Zj (zA Z) Z Z Z ?_
 intro eM g7
 have g8:sW w U cH [dl,dm,B3,.obj ab (.map ae ac),.blk be 118 dn,.blk ag 45 B2,.blk b6 45 B1,.blk b2 28 B0] eM:=g7
 refine oA Z Z (oA Z Z (zg ?_))
 cases cf
 exact zL ⟨rfl,⟨cH,be,bw,bS,bx,bU,rfl,rfl,(ba.trans jg),(g8.pick [2,3,5,6,7,4,0,1] _ (by decide) rfl)⟩⟩
 rintro j2 dQ ⟨jC,bM,a6,a9,bd,bh,fd,ff,bm,ej⟩
 refine sR (wCa (.fx 3 (wJA (.nil)) .stop)) Z (oM Z fd (oR Z (zJ Z ff ZV Z zq) (oL Z (ej.ldB (j:=5) Z Z Z zy (v:=.slice a6 aZ.length a9) Z) ?_)))
 have q:=ej.freezeR (k:=6) (n:=aZ.length) rfl (wAE (f:=KL.encI) (sz:=1) (fun _=>rfl) aZ) (by decide)
 obtain ⟨dK,bn,ja,g9⟩:=q
 let dp:Res:=.blk bM 118 [.slice a6 aZ.length a9,.slice bd cj.length bh]
 let dq:Res:=.row bd bh 3 1 (hD KL.encI cj)
 have ib:sW w U dK [B3,.obj ab (.map ae ac),.blk ag 45 B2,.blk b6 45 B1,.blk b2 28 B0,dp,dq] dQ:=g9
 have fM:=aT.le bm
 have fN:=fM.le bn
 have fO:=aU.le bm
 have fP:=fO.le bn
 have fQ:=aV.le bm
 have fR:=fQ.le bn
 have fS:=aW.le bm
 have fT:=fS.le bn
 have fU:=aX.le bm
 have fW:=fU.le bn
 have q:=bnd ew
 obtain ⟨⟨jl,eB⟩,fY,ep⟩:=q
 try dsimp only at ep
 refine zE 2 Z Z Z Z (zD Z Z Try.call58 (zB Z (zB Z zK)) Z) ib (fun hs=>wDx am aw aJ aO aK aP aL aQ aM aR ab ae ac aN aS aZ a6 a9 dQ dK hs fN fP fR fT ax fW ja fY) (.inl Z) ?_
 rintro dL ju jT eO jL ic ⟨cx,cR,dZ,cy,cS,rfl,rfl,f4⟩
 have ig:sW w U dL [.row cx cR 23 1 dZ,.row cy cS 3 1 (hD KL.encI eB),B3,.obj ab (.map ae ac),.blk ag 45 B2,.blk b6 45 B1,.blk b2 28 B0,dp,dq] eO:=ic
 refine oM Z Z (oR Z (zP Z Z (v:=.slice cx jl.length cR) Z) (oR Z (zP Z Z (v:=.slice cy eB.length cS) Z) (oA Z Z (oA Z Z (eN (sR fL5 Z (oM Z Z (oM Z Z (oA Z Z (oA Z Z (oA Z Z (eN (zU ?_)))))))))))))
 cases ep
 exact ⟨rfl,_,(wLF rfl rfl rfl),dL,_,(ig.pick [0,1] _ (by decide) rfl),cx,cR,dZ,cy,cS,rfl,rfl,f4⟩
 intro cZ iY
 refine ZD (nF (cZ.out)) (rR gDs Z (oL Z (cd.ldBA (j:=2) Z Z Z ZW ZC (vs:=B2) Z Z) (zV (j:=3) (vs:=B2) Z Z Z Z cd Z Z Z Z ZC (zA Z) Z Z Z ?_)))
 intro cO ii
 have ij:sW w U av [B3,.obj ab (.map ae ac),.blk ag 45 B2,.blk b6 45 B2,.blk b2 28 B0] cO:=ii
 refine eN ?_
 have q:=bnd iY
 obtain ⟨⟨aY,ci⟩,jc,er⟩:=q
 try dsimp only at er
 refine yN (fun σ_ w_=>∃ (U_:PHeap) (bK:Nat) (a5:Option Addr) (a8:Nat) (bc:Option Addr) (bg:Nat),σ_ 11=.pointer (some ⟨aw,0,none⟩)/\σ_ 13=.pointer (some ⟨bK,0,none⟩)/\PHeap.Le av U_/\sW w U U_ [B3,.obj ab (.map ae ac),.blk ag 45 B2,.blk b6 45 B2,.blk b2 28 B0,.blk bK 118 [.slice a5 aY.length a8,.slice bc ci.length bg],.row a5 a8 3 1 (hD KL.encI aY),.row bc bg 3 1 (hD KL.encI ci)] w_) ?_ ?_
 refine bnK jc fun bq ec iZ=>?_
 have q:=bnd iZ
 obtain ⟨⟨ap,df,dg⟩,c8,cg⟩:=q
 try dsimp only at cg
 refine ZA ZB [3,3,3,3,1,1,2,1,0,3,3,3,3,2,0,3,3] (wFr (.fx 6 (.fl 7 (.fx 8 (wEe gEn) (.fx 13 (.fx 8 (wEe gEd) (.stop)) (.stop)))) (.fx 13 (.fx 6 (.fl 7 (.fx 8 (wEe gEd) (.stop))) (.stop)) (.stop)))) (by kernel_rfl) ?_
 have bj:=ij.drew
 generalize hw_W364:({ cO with drawn:=cO.drawn + 1 }:World)=eQ at bj ⊢
 refine oM Z Z (oM Z Z (oR Z (Za Z Z) (oR Z (zJ Z Z ZF Z Zs) (oL Z (bj.ldB (j:=0) Z Z Z Zx (v:=.map (some ab)) Z) (oL Z (bj.ldBA (j:=3) Z Z Z ZW ZC (vs:=B2) Z Z) (zk ?_ ?_))))))
 refine zE 0 Z Z Z Z (zD Z Z yZ (zB Z zK) Z) bj (fun hs=>wBr p2 eQ av hs ec) (.inr Z) ?_
 rintro bI jw jW dR az ik ⟨rfl,rfl⟩
 have db:sW w U bI [B3,.obj ab (.map ae ac),.blk ag 45 B2,.blk b6 45 B2,.blk b2 28 B0] dR:=ik
 refine oL Z (db.lookup1 (j:=1) (mk:=wBB) (mv:=wBC) (a:=bq) (z:=0) Z Z Z Z (wBV ZI) wCH zw ax) (zk ?_ ?_)
 have f5:=aT.le az
 have f6:=aU.le az
 have f8:=aV.le az
 have f9:=aW.le az
 have ga:=aX.le az
 refine zE 2 Z Z Z Z (zD Z Z ye (zB Z (zB Z (zB Z zK))) Z) db (fun hs=>wAb am aw aJ aO aK aP aL aQ aM aR ab ae ac aN aS (wAr am.number bq 0) false dR bI hs f5 f6 f8 f9 ax ga c8) (.inl Z) ?_
 rintro cI jx jX eU jh il ⟨bz,bV,bA,bW,rfl,rfl⟩
 let dr:Res:=.row bz bV 3 1 (hD KL.encI ap.far)
 let dt:Res:=.row bA bW 3 1 (hD KL.encI ap.by_)
 have im:sW w U cI [dr,dt,B3,.obj ab (.map ae ac),.blk ag 45 B2,.blk b6 45 B2,.blk b2 28 B0] eU:=il
 refine oM Z Z (oR Z (zP Z Z (v:=.agg #[.slice bz ap.far.length bV,.slice bA ap.by_.length bW]) Z) (oR Z (zP Z Z (v:=jV df) Z) (oR Z (zP Z Z (v:=.bool dg) Z) (zT (cs:=[.slice none 0 0,.slice none 0 0]) Z Z Z Z Z Zd Z im ?_))))
 intro jG dW io
 let du:List Value:=[.slice bz ap.far.length bV,.slice bA ap.by_.length bW]
 refine zV (j:=0) (vs:=du) Z Z Z Z io Z Z Z Z Zj (zA Z) Z Z Z ?_
 intro eV ip
 have iq:sW w U cI [.blk dW 118 du,dr,dt,B3,.obj ab (.map ae ac),.blk ag 45 B2,.blk b6 45 B2,.blk b2 28 B0] eV:=ip
 refine oA Z Z (oA Z Z (zg ?_))
 cases cg
 exact zL ⟨rfl,⟨cI,dW,bz,bV,bA,bW,rfl,rfl,(az.trans jh),(iq.pick [3,4,5,6,7,0,1,2] _ (by decide) rfl)⟩⟩
 let cB:List Value:=[.slice none 0 0,.slice none 0 0]
 refine zT (cs:=cB) Z Z Z Z Z Zd Z db ?_
 intro dS bL ir
 have gb:=aT.le az
 have ge:=aU.le az
 have gf:=aV.le az
 have gg:=aW.le az
 have gh:=aX.le az
 have it:sW w U bI [B3,.obj ab (.map ae ac),.blk bL 118 cB,.blk ag 45 B2,.blk b6 45 B2,.blk b2 28 B0] dS:=ir.pick [1,2,0,3,4,5] _ (by decide) rfl
 refine zE 2 Z Z Z Z (zD Z Z ye (zB Z (zB Z (zB Z zK))) Z) it (fun hs=>wAb am aw aJ aO aK aP aL aQ aM aR ab ae ac aN aS (wAr am.number bq 0) false dS bI hs gb ge gf gg ax gh c8) (.inl Z) ?_
 rintro cJ jy jY eW ji iu ⟨bB,bX,bC,bY,rfl,rfl⟩
 let dv:Res:=.row bB bX 3 1 (hD KL.encI ap.far)
 let dw:Res:=.row bC bY 3 1 (hD KL.encI ap.by_)
 have iv:sW w U cJ [dv,dw,B3,.obj ab (.map ae ac),.blk bL 118 cB,.blk ag 45 B2,.blk b6 45 B2,.blk b2 28 B0] eW:=iu
 refine oM Z Z (oR Z (zP Z Z (v:=.agg #[.slice bB ap.far.length bX,.slice bC ap.by_.length bY]) Z) (oR Z (zP Z Z (v:=jV df) Z) (oR Z (zP Z Z (v:=.bool dg) Z) ?_)))
 let dx:List Value:=[.slice bB ap.far.length bX,.slice bC ap.by_.length bY]
 refine zV (j:=4) (vs:=dx) Z Z Z Z iv Z Z Z Z Zj (zA Z) Z Z Z ?_
 intro eX iw
 have iy:sW w U cJ [dv,dw,B3,.obj ab (.map ae ac),.blk bL 118 dx,.blk ag 45 B2,.blk b6 45 B2,.blk b2 28 B0] eX:=iw
 refine oA Z Z (oA Z Z (zg ?_))
 cases cg
 exact zL ⟨rfl,⟨cJ,bL,bB,bX,bC,bY,rfl,rfl,(az.trans ji),(iy.pick [2,3,5,6,7,4,0,1] _ (by decide) rfl)⟩⟩
 let bG:List Value:=[.slice none 0 0,.slice none 0 0]
 refine zT (cs:=bG) Z Z Z Z Z Zd Z bj ?_
 intro eY bf iz
 refine zE 0 Z Z Z Z (zD Z Z yZ (zB Z zK) Z) iz (fun hs=>wBr p2 eY av hs ec) (.inr Z) ?_
 rintro cK jz jZ cP bb iA ⟨rfl,rfl⟩
 have en:sW w U cK [.blk bf 118 bG,B3,.obj ab (.map ae ac),.blk ag 45 B2,.blk b6 45 B2,.blk b2 28 B0] cP:=iA
 refine oL Z (en.lookup1 (j:=2) (mk:=wBB) (mv:=wBC) (a:=bq) (z:=0) Z Z Z Z (wBV ZI) wCH zw ax) ?_
 have gi:=aT.le bb
 have gj:=aU.le bb
 have gp:=aV.le bb
 have gq:=aW.le bb
 have gt:=aX.le bb
 have iB:sW w U cK [B3,.obj ab (.map ae ac),.blk bf 118 bG,.blk ag 45 B2,.blk b6 45 B2,.blk b2 28 B0] cP:=en.pick [1,2,0,3,4,5] _ (by decide) rfl
 refine zE 2 Z Z Z Z (zD Z Z ye (zB Z (zB Z (zB Z zK))) Z) iB (fun hs=>wAb am aw aJ aO aK aP aL aQ aM aR ab ae ac aN aS (wAr am.number bq 0) false cP cK hs gi gj gp gq ax gt c8) (.inl Z) ?_
 rintro cL jA j0 eZ jj iC ⟨bD,bZ,bE,ca,rfl,rfl⟩
 let dz:Res:=.row bD bZ 3 1 (hD KL.encI ap.far)
 let dA:Res:=.row bE ca 3 1 (hD KL.encI ap.by_)
 have iD:sW w U cL [dz,dA,B3,.obj ab (.map ae ac),.blk bf 118 bG,.blk ag 45 B2,.blk b6 45 B2,.blk b2 28 B0] eZ:=iC
 refine oM Z Z (oR Z (zP Z Z (v:=.agg #[.slice bD ap.far.length bZ,.slice bE ap.by_.length ca]) Z) (oR Z (zP Z Z (v:=jV df) Z) (oR Z (zP Z Z (v:=.bool dg) Z) ?_)))
 let dB:List Value:=[.slice bD ap.far.length bZ,.slice bE ap.by_.length ca]
 refine zV (j:=4) (vs:=dB) Z Z Z Z iD Z Z Z Z Zj (zA Z) Z Z Z ?_
 intro fb iE
 have iF:sW w U cL [dz,dA,B3,.obj ab (.map ae ac),.blk bf 118 dB,.blk ag 45 B2,.blk b6 45 B2,.blk b2 28 B0] fb:=iE
 refine oA Z Z (oA Z Z (zg ?_))
 cases cg
 exact zL ⟨rfl,⟨cL,bf,bD,bZ,bE,ca,rfl,rfl,(bb.trans jj),(iF.pick [2,3,5,6,7,4,0,1] _ (by decide) rfl)⟩⟩
 rintro j3 dT ⟨jD,bK,a5,a8,bc,bg,fg,fh,bo,eo⟩
 refine sR (wCa (.fx 3 (wJA (.nil)) .stop)) Z (oM Z fg (oR Z (zJ Z fh ZV Z zq) (oL Z (eo.ldB (j:=5) Z Z Z zy (v:=.slice a5 aY.length a8) Z) ?_)))
 have q:=eo.freezeR (k:=6) (n:=aY.length) rfl (wAE (f:=KL.encI) (sz:=1) (fun _=>rfl) aY) (by decide)
 obtain ⟨dM,bp,jb,iG⟩:=q
 let dC:Res:=.blk bK 118 [.slice a5 aY.length a8,.slice bc ci.length bg]
 let dD:Res:=.row bc bg 3 1 (hD KL.encI ci)
 have iH:sW w U dM [B3,.obj ab (.map ae ac),.blk ag 45 B2,.blk b6 45 B2,.blk b2 28 B0,dC,dD] dT:=iG
 have gu:=aT.le bo
 have gv:=gu.le bp
 have gw:=aU.le bo
 have gx:=gw.le bp
 have gy:=aV.le bo
 have gz:=gy.le bp
 have gA:=aW.le bo
 have gB:=gA.le bp
 have gC:=aX.le bo
 have gD:=gC.le bp
 have q:=bnd er
 obtain ⟨⟨jm,eD⟩,gE,eu⟩:=q
 try dsimp only at eu
 refine zE 2 Z Z Z Z (zD Z Z Try.call58 (zB Z (zB Z zK)) Z) iH (fun hs=>wDx am aw aJ aO aK aP aL aQ aM aR ab ae ac aN aS aY a5 a8 dT dM hs gv gx gz gB ax gD jb gE) (.inl Z) ?_
 rintro dN jB j1 fc jN iI ⟨cz,cU,d7,cA,cV,rfl,rfl,gF⟩
 have iJ:sW w U dN [.row cz cU 23 1 d7,.row cA cV 3 1 (hD KL.encI eD),B3,.obj ab (.map ae ac),.blk ag 45 B2,.blk b6 45 B2,.blk b2 28 B0,dC,dD] fc:=iI
 refine oM Z Z (oR Z (zP Z Z (v:=.slice cz jm.length cU) Z) (oR Z (zP Z Z (v:=.slice cA eD.length cV) Z) (oA Z Z (oA Z Z (eN (sR fL5 Z (oM Z Z (oM Z Z (oA Z Z (oA Z Z (oA Z Z (eN (zU ?_)))))))))))))
 cases eu
 exact ⟨rfl,_,(wLF rfl rfl rfl),dN,_,(iJ.pick [0,1] _ (by decide) rfl),cz,cU,d7,cA,cV,rfl,rfl,gF⟩
 intro cY i2
 refine cT Z cY (sR fL4 Z (oM Z Z (oA Z Z (oA Z Z (oA Z Z (eN (zU (zN ?_))))))))
 have iK:=cd.nilrow 23 1
 have iL:=iK.nilrow 3 1
 cases i2
 exact ⟨rfl,_,(wLF rfl rfl rfl),av,_,(iL.pick [1,0] _ (by decide) rfl),none,0,[],none,0,rfl,rfl,RlL.nil⟩
end Go.Proofs.Ytlnfbjphfoipaaa
namespace Go.Proofs.Ytlnfbjphfoipaaa
open Go.KL
set_option maxHeartbeats 4000000
theorem wHC (p0:Int) (p1:Int) (ac:Nat) (w:World) (U:PHeap) (hS:St0 w U []) (ae:Cl U ac 0 [jV p1]) {r:Bool} (hm:wCl p0 p1=some r):Gv Try.prog 83 [jV p0,.pointer (some ⟨ac,0,none⟩)] w (wCB w [] U (fun U_ L_ v=>v=.bool r/\L_=[])):=by
 unfold wCl at hm
 refine Gv.of Try.func83 Z Try.ntmps83 Try.results83 Z (sR fL1 Z (oA Z Z (eN (sR fL4 Z (oM Z Z (oL Z (hS.ldC (f:=0) ae (v:=jV p1) Z Z zG Z) (oR Z (yO Z Z Z) (oA Z Z (eN (zU ?_))))))))))
 first | (obtain rfl:=nA hm) | cases hm
 exact ⟨Z,_,(ZL Z),U,_,hS,Z,Z⟩
theorem wGF (p0:wAC) (bc:Option Addr) (bg:Nat) (bd:Option Addr) (bh:Nat) (be:Option Addr) (bi:Nat) (bf:Option Addr) (bj:Nat) (p1:wAI) (p2:wAI) (w:World) (U:PHeap) (hS:St0 w U []) (fd:Sl U 1 bc bg p0.Starts.length (hD KL.encI p0.Starts)) (ff:Sl U 2 bd bh p0.Splits.length (hD wAG p0.Splits)) (fg:Sl U 3 be bi p0.Clocks.length (hD wAA p0.Clocks)) (fh:Sl U 4 bf bj p0.Readings.length (hD wAB p0.Readings)) {r:(List wAD) × Int} (hm:wCc p0 p1 p2=some r):Gv Try.prog 40 [.agg #[.slice bc p0.Starts.length bg,.slice bd p0.Splits.length bh,.slice be p0.Clocks.length bi,.slice bf p0.Readings.length bj],.agg #[jV p1.Skier,jV p1.Mat],.agg #[jV p2.Skier,jV p2.Mat]] w (wCB w [] U (fun U_ L_ v=>∃ (A0:Option Addr) (c0:Nat),v=.tuple #[.slice A0 r.1.length c0,jV r.2]/\L_=[.row A0 c0 78 4 (hD wAQ r.1)])):=by
 unfold wCc at hm
 refine Gv.of Try.func40 Z Try.ntmps40 Try.results40 Z (sR gEp Z ?_)
 let B0:List Value:=[.slice bc p0.Starts.length bg,.slice bd p0.Splits.length bh,.slice be p0.Clocks.length bi,.slice bf p0.Readings.length bj]
 refine zu (cs:=B0) rfl rfl rfl rfl rfl rfl (by rfl) hS ?_
 intro W1 b2 eY
 let B1:List Value:=[jV p1.Skier,jV p1.Mat]
 refine zu (cs:=B1) rfl rfl rfl rfl rfl rfl (by rfl) eY ?_
 intro W5 b6 fc
 let B2:List Value:=[jV p2.Skier,jV p2.Mat]
 refine zu (cs:=B2) rfl rfl rfl rfl rfl rfl (by rfl) fc ?_
 intro W9 ae ba
 refine oA Z Z (oA Z Z (eN (sR (wCa (.fx 3 (.fx 4 (wGi (.nil)) .stop) .stop)) Z (oL Z (ba.ldBA (j:=2) Z Z Z ze zZ (vs:=B0) Z Z) (oL Z (ba.ldBA (j:=1) Z Z Z ZW ZC (vs:=B1) Z Z) (oL Z (ba.ldBA (j:=0) Z Z Z ZW ZC (vs:=B2) Z Z) (ZE (pv:=[(0,.agg B1.toArray),(1,.agg B2.toArray)]) (zs:=[jV 0,jV 0,jV 0,jV 0]) (cs:=[jV p1.Skier,jV p1.Mat,jV p2.Skier,jV p2.Mat]) Z Z Z Z Z (wAF Z (wAF Z wAO)) Zq ZC Zb Z Z Z Z Z ba ?_)))))))
 intro bu bV en
 have eu:sW w U U [.row (some ⟨bV,0,none⟩) 2 45 2 (hD wAT [p1,p2]),.blk ae 45 B2,.blk b6 45 B1,.blk b2 28 B0] bu:=en
 have q:=eu.freezeR (k:=0) (n:=[p1,p2].length) rfl (wAE (f:=wAT) (sz:=2) (fun _=>rfl) [p1,p2]) (by decide)
 obtain ⟨bP,bb,fB,eM⟩:=q
 have eO:sW w U bP [.blk ae 45 B2,.blk b6 45 B1,.blk b2 28 B0] bu:=eM
 have dl:=fd.le bb
 have dz:=ff.le bb
 have dK:=fg.le bb
 have dS:=fh.le bb
 have q:=bnd hm
 obtain ⟨⟨fN,cw⟩,dT,aV⟩:=q
 try dsimp only at aV
 refine zE 0 Z Z Z Z (zD Z Z Try.call46 (zB Z (zB Z zK)) Z) eO (fun hs=>wDL p0 bc bg bd bh be bi bf bj [p1,p2] (some ⟨bV,0,none⟩) 2 bu bP hs dl dz dK dS fB dT) (.inr Z) ?_
 rintro aK fT gg aN f8 co cg
 rcases fN with _ | aw
 try dsimp only at aV
 obtain ⟨rfl,rfl⟩:=cg
 have cp:sW w U aK [.blk ae 45 B2,.blk b6 45 B1,.blk b2 28 B0] aN:=co
 refine oM Z Z (oR Z (zP Z Z (v:=.pointer none) Z) (oR Z (zP Z Z (v:=jV cw) Z) (oA Z Z (oA Z Z (eN (zM (sR fL2 Z (oM Z Z (oR Z (ZN Z Z Z) (eN (ifc aV ?_ ?_)))))))))))
 intro bD ft
 refine zn (zd (fun h=>h bD.out)) (kN (zM (ZA ZB [3,3,3,1,1,2,1,2,0] (wGL gEq) (by kernel_rfl) ?_)))
 have eZ:=cp.drew
 generalize hw_W57:({ aN with drawn:=aN.drawn + 1 }:World)=f4 at eZ ⊢
 refine oM Z Z ?_
 cases ft
 intro bD fu
 refine cT Z bD (sR fL3 Z (oM Z Z (oA Z Z (oA Z Z (eN (zU (zN ?_)))))))
 have fb:=cp.nilrow 78 4
 cases fu
 exact ⟨rfl,_,(wDv rfl rfl),aK,_,(fb.pick [0] _ (by decide) rfl),none,0,rfl,rfl⟩
 try dsimp only at aV
 obtain ⟨ag,bm,bx,bn,bz,bo,bA,bp,bB,aj,an,am,bq,bC,rfl,rfl,dU,dV,dW,dX,aR,dY⟩:=cg
 let B3:List Value:=[.slice bm aw.Race.Starts.length bx,.slice bn aw.Race.Splits.length bz,.slice bo aw.Race.Clocks.length bA,.slice bp aw.Race.Readings.length bB,.map (some aj),.slice bq aw.edges.length bC]
 have cq:sW w U aK [.blk ag 124 B3,.obj aj (.map an am),.blk ae 45 B2,.blk b6 45 B1,.blk b2 28 B0] aN:=co
 refine oM Z Z (oR Z (zP Z Z (v:=.pointer (some ⟨ag,0,none⟩)) Z) (oR Z (zP Z Z (v:=jV cw) Z) (oA Z Z (oA Z Z (eN (zM (sR fL2 Z (oM Z Z (oR Z (ZN Z Z Z) (eN (ifc aV ?_ ?_)))))))))))
 intro bE fw
 refine zn (zd (fun h=>h bE.out)) (kN (bnK fw fun az fC fy=>yN (fun σ_ w_=>∃ (U_:PHeap) (av:Nat),σ_ 5=.pointer (some ⟨ae,0,none⟩)/\σ_ 8=.pointer (some ⟨ag,0,none⟩)/\σ_ 10=.pointer (some ⟨av,0,none⟩)/\PHeap.Le aK U_/\sW w U U_ [.blk ag 124 B3,.obj aj (.map an am),.blk ae 45 B2,.blk b6 45 B1,.blk b2 28 B0,.blk av 3 [jV az]] w_) ?_ ?_))
 refine bnK fC fun bk cf ct=>ZA ZB [3,3,3,1,1,2,1,2,0] (wGL gEq) (by kernel_rfl) ?_
 have aU:=cq.drew
 generalize hw_W97:({ aN with drawn:=aN.drawn + 1 }:World)=cM at aU ⊢
 refine oM Z Z (oR Z (Za Z Z) (oR Z (zJ Z Z ZF Z Zs) (oL Z (aU.ldB (j:=0) Z Z Z Zx (v:=.map (some aj)) Z) (oL Z (aU.ldBA (j:=3) Z Z Z ZW ZC (vs:=B1) Z Z) (zk ?_ ?_)))))
 refine zE 0 Z Z Z Z (zD Z Z yZ (zB Z zK) Z) aU (fun hs=>wBr p1 cM aK hs cf) (.inr Z) ?_
 rintro bt fO f9 cE fD d7 ⟨rfl,rfl⟩
 have ci:sW w U bt [.blk ag 124 B3,.obj aj (.map an am),.blk ae 45 B2,.blk b6 45 B1,.blk b2 28 B0] cE:=d7
 refine oL Z (ci.lookup1 (j:=1) (mk:=wBB) (mv:=wBC) (a:=bk) (z:=0) Z Z Z Z (wBV ZI) wCH zw aR) (zT (cs:=[jV 0]) Z Z Z Z Z zw Z ci ?_)
 intro fW bU d9
 let B4:List Value:=[jV (wAr aw.number bk 0)]
 refine zV (j:=0) (vs:=B4) Z Z Z Z d9 Z Z Z Z zC (zA Z) Z Z Z ?_
 intro cG ec
 have ef:sW w U bt [.blk bU 3 B4,.blk ag 124 B3,.obj aj (.map an am),.blk ae 45 B2,.blk b6 45 B1,.blk b2 28 B0] cG:=ec
 refine zg ?_
 cases ct
 exact zL ⟨rfl,⟨bt,bU,rfl,rfl,rfl,fD,(ef.pick [1,2,3,4,5,0] _ (by decide) rfl)⟩⟩
 refine zT (cs:=[jV 0]) Z Z Z Z Z zw Z aU ?_
 intro cH bw eg
 refine zE 0 Z Z Z Z (zD Z Z yZ (zB Z zK) Z) eg (fun hs=>wBr p1 cH aK hs cf) (.inr Z) ?_
 rintro br fP ga cI fG eh ⟨rfl,rfl⟩
 have cj:sW w U br [.blk bw 3 [jV 0],.blk ag 124 B3,.obj aj (.map an am),.blk ae 45 B2,.blk b6 45 B1,.blk b2 28 B0] cI:=eh
 refine oL Z (cj.lookup1 (j:=2) (mk:=wBB) (mv:=wBC) (a:=bk) (z:=0) Z Z Z Z (wBV ZI) wCH zw aR) ?_
 let B5:List Value:=[jV (wAr aw.number bk 0)]
 refine zV (j:=0) (vs:=B5) Z Z Z Z cj Z Z Z Z zC (zA Z) Z Z Z ?_
 intro cJ ej
 have ek:sW w U br [.blk bw 3 B5,.blk ag 124 B3,.obj aj (.map an am),.blk ae 45 B2,.blk b6 45 B1,.blk b2 28 B0] cJ:=ej
 refine zg ?_
 cases ct
 exact zL ⟨rfl,⟨br,bw,rfl,rfl,rfl,fG,(ek.pick [1,2,3,4,5,0] _ (by decide) rfl)⟩⟩
 rintro gh cK ⟨cy,av,cN,bF,bY,aW,cm⟩
 refine sR (.fl 0 (.fl 1 (.fx 2 (wIS (.fx 7 (.fx 8 (.fl 9 (.fl 10 .nil)) .stop) .stop)) .stop))) Z (oM Z bF (oL Z (cm.ldB (j:=5) Z Z bY zG (v:=jV az) Z) ?_))
 have bZ:=dU.le aW
 have ca:=dV.le aW
 have cb:=dW.le aW
 have cc:=dX.le aW
 have cd:=dY.le aW
 have q:=bnd fy
 obtain ⟨⟨au,fK,fL⟩,cO,cr⟩:=q
 try dsimp only at cr
 refine zE 2 Z Z Z Z (zD Z Z ye (zB Z (zB Z (zB Z zK))) Z) cm (fun hs=>wAb aw ag bm bx bn bz bo bA bp bB aj an am bq bC az false cK cy hs bZ ca cb cc aR cd cO) (.inl Z) ?_
 rintro bN fQ gb cL aX eo ⟨aZ,a8,a5,a9,rfl,rfl⟩
 let B6:Res:=.row a5 a9 3 1 (hD KL.encI au.by_)
 let B7:Res:=.row aZ a8 3 1 (hD KL.encI au.far)
 have ep:sW w U bN [B7,B6,.blk ag 124 B3,.obj aj (.map an am),.blk ae 45 B2,.blk b6 45 B1,.blk b2 28 B0,.blk av 3 [jV az]] cL:=eo
 refine oM Z Z (oR Z (zP Z Z (v:=.agg #[.slice aZ au.far.length a8,.slice a5 au.by_.length a9]) Z) (oR Z (zP Z Z (v:=jV fK) Z) (oR Z (zP Z Z (v:=.bool fL) Z) (zT (cs:=[.slice none 0 0,.slice none 0 0]) Z Z Z Z Z Zd Z ep ?_))))
 intro fY ax er
 let B8:List Value:=[.slice aZ au.far.length a8,.slice a5 au.by_.length a9]
 refine zV (j:=0) (vs:=B8) Z Z Z Z er Z Z Z Z Zj (zA Z) Z Z Z ?_
 intro bv ew
 have ey:sW w U bN [.blk ax 118 B8,B7,B6,.blk ag 124 B3,.obj aj (.map an am),.blk ae 45 B2,.blk b6 45 B1,.blk b2 28 B0,.blk av 3 [jV az]] bv:=ew
 refine yD rfl rfl rfl rfl rfl rfl (yD rfl rfl rfl rfl rfl rfl (eN (zM (ZA ZB [3,1,3,3,3,3,1,1,2,1,2,3,3] (wMC (.fx 8 (.fl 9 gEf) .stop)) (by kernel_rfl) ?_))))
 have bG:=ey.drew
 generalize hw_W173:({ bv with drawn:=bv.drawn + 1 }:World)=bR at bG ⊢
 refine oM Z bF (oL Z (bG.ldBA (j:=0) Z Z Z Try.isAgg118 Zj (vs:=B8) Z Z) ?_)
 have q:=bG.freeze (k:=8) rfl
 obtain ⟨bs,aY,aS,eA⟩:=q
 replace aS:=Cl.of aS
 have bH:sW w U bs [.blk ax 118 B8,B7,B6,.blk ag 124 B3,.obj aj (.map an am),.blk ae 45 B2,.blk b6 45 B1,.blk b2 28 B0] bR:=eA
 replace aS:Cl bs av 0 [jV az]:=aS
 refine oR Z (yc Z zK (zB bY zK)) (oM Z bF (oR Z (Za Z Z) (oR Z (zJ Z Z ZF Z Zs) (oL Z (bH.ldB (j:=3) Z Z Z Zx (v:=.map (some aj)) Z) (oL Z (bH.ldBA (j:=5) Z Z cN ZW ZC (vs:=B2) Z Z) (bnK cr fun cu cP fk=>zE 0 Z Z Z Z (zD Z Z yZ (zB Z zK) Z) bH (fun hs=>wBr p2 bR bs hs cP) (.inr Z) ?_))))))
 rintro cz fR ge aM aO eB ⟨rfl,rfl⟩
 have cn:sW w U cz [.blk ax 118 B8,B7,B6,.blk ag 124 B3,.obj aj (.map an am),.blk ae 45 B2,.blk b6 45 B1,.blk b2 28 B0] aM:=eB
 refine oL Z (cn.lookup1 (j:=4) (mk:=wBB) (mv:=wBC) (a:=cu) (z:=0) Z Z Z Z (wBV ZI) wCH zw aR) ?_
 have q:=cn.freezeR (k:=1) (n:=au.far.length) rfl (wAE (f:=KL.encI) (sz:=1) (fun _=>rfl) au.far) (by decide)
 obtain ⟨cA,aP,fz,eD⟩:=q
 have eE:sW w U cA [.blk ax 118 B8,B6,.blk ag 124 B3,.obj aj (.map an am),.blk ae 45 B2,.blk b6 45 B1,.blk b2 28 B0] aM:=eD
 have q:=eE.freezeR (k:=1) (n:=au.by_.length) rfl (wAE (f:=KL.encI) (sz:=1) (fun _=>rfl) au.by_) (by decide)
 obtain ⟨cB,aL,fA,eG⟩:=q
 have eH:sW w U cB [.blk ax 118 B8,.blk ag 124 B3,.obj aj (.map an am),.blk ae 45 B2,.blk b6 45 B1,.blk b2 28 B0] aM:=eG
 have q:=eH.freezeM (k:=2) rfl aR
 obtain ⟨cC,aJ,fj,eJ⟩:=q
 have eK:sW w U cC [.blk ax 118 B8,.blk ag 124 B3,.blk ae 45 B2,.blk b6 45 B1,.blk b2 28 B0] aM:=eJ
 have q:=eK.freezeTB (k:=1) rfl
 obtain ⟨a7,ay,aT,eI,fI⟩:=q
 replace aT:=Cl.of aT
 have eL:sW w U a7 [.blk ax 118 B8,.blk ae 45 B2,.blk b6 45 B1,.blk b2 28 B0] aM:=eI
 replace aT:Cl a7 ag 0 B3:=aT
 have cQ:=bZ.le aX
 have cR:=cQ.le aY
 have cS:=cR.le aO
 have cU:=cS.le aP
 have cV:=cU.le aL
 have cW:=cV.le aJ
 have cX:=cW.le ay
 have cY:=ca.le aX
 have cZ:=cY.le aY
 have c6:=cZ.le aO
 have c8:=c6.le aP
 have da:=c8.le aL
 have db:=da.le aJ
 have dd:=db.le ay
 have de:=cb.le aX
 have df:=de.le aY
 have dg:=df.le aO
 have dh:=dg.le aP
 have di:=dh.le aL
 have dk:=di.le aJ
 have dm:=dk.le ay
 have dn:=cc.le aX
 have dp:=dn.le aY
 have dq:=dp.le aO
 have dr:=dq.le aP
 have dt:=dr.le aL
 have du:=dt.le aJ
 have dv:=du.le ay
 have dw:=fj.le ay
 have dx:=cd.le aX
 have dA:=dx.le aY
 have dB:=dA.le aO
 have dC:=dB.le aP
 have dD:=dC.le aL
 have dE:=dD.le aJ
 have dF:=dE.le ay
 have dG:=fz.le aL
 have dH:=dG.le aJ
 have dI:=dH.le ay
 have dJ:=fA.le aJ
 have dL:=dJ.le ay
 have dM:=aS.le aO
 have dN:=dM.le aP
 have dO:=dN.le aL
 have dP:=dO.le aJ
 have dQ:=dP.le ay
 have dZ:FnOK Try.prog a7 (.func (.func 83) #[] #[.pointer (some ⟨av,0,none⟩)]) wKB wKC (fun x=>wCl x az):=⟨83,[],[.pointer (some ⟨av,0,none⟩)],rfl,Try.call83,fun U1 w1 x y vs le hs ha hm=>by obtain rfl:=ha;exact wHC x az av w1 U1 hs (dQ.le le) hm⟩
 refine bnK fk fun fM dR fm=>zE 0 Z Z Z Z (zD Z Z Try.call61 (zB Z (zB Z (zB Z (zB Z zK)))) Z) eL (fun hs=>wEa aw ag bm bx bn bz bo bA bp bB aj an am bq bC au aZ a8 a5 a9 (fun x=>wCl x az) (.func (.func 83) #[] #[.pointer (some ⟨av,0,none⟩)]) (wAr aw.number cu 0) aM a7 hs aT cX dd dm dv dw dF dI dL dZ dR) (.inr Z) ?_
 rintro cD fS gf bS fH eQ ⟨bJ,bX,rfl,rfl⟩
 let B9:Res:=.row bJ bX 78 4 (hD wAQ fM)
 have eU:sW w U cD [B9,.blk ax 118 B8,.blk ae 45 B2,.blk b6 45 B1,.blk b2 28 B0] bS:=eQ
 have q:=fI _ _ _ fH eU
 obtain ⟨bQ,f6,eV⟩:=q
 have eW:sW w U bQ [.blk ag 124 B3,B9,.blk ax 118 B8,.blk ae 45 B2,.blk b6 45 B1,.blk b2 28 B0] bS:=eV
 refine oA Z Z (oA Z Z (eN (zU ?_)))
 cases fm
 exact ⟨rfl,_,(wDv rfl rfl),bQ,_,(eW.pick [1] _ (by decide) rfl),bJ,bX,rfl,rfl⟩
 intro bE fq
 refine cT Z bE (sR fL3 Z (oM Z Z (oA Z Z (oA Z Z (eN (zU (zN ?_)))))))
 have eX:=cq.nilrow 78 4
 cases fq
 exact ⟨rfl,_,(wDv rfl rfl),aK,_,(eX.pick [0] _ (by decide) rfl),none,0,rfl,rfl⟩
theorem wFk (p0:wAC) (ai:Option Addr) (an:Nat) (aj:Option Addr) (ao:Nat) (ak:Option Addr) (ap:Nat) (am:Option Addr) (aq:Nat) (p1:wAD) (w:World) (U:PHeap) (hS:St0 w U []) (aV:Sl U 1 ai an p0.Starts.length (hD KL.encI p0.Starts)) (aW:Sl U 2 aj ao p0.Splits.length (hD wAG p0.Splits)) (aX:Sl U 3 ak ap p0.Clocks.length (hD wAA p0.Clocks)) (aY:Sl U 4 am aq p0.Readings.length (hD wAB p0.Readings)) {r:Bool} (hm:wBW p0 p1=some r):Gv Try.prog 101 [.agg #[.slice ai p0.Starts.length an,.slice aj p0.Splits.length ao,.slice ak p0.Clocks.length ap,.slice am p0.Readings.length aq],.agg #[jV p1.Kind,jV p1.Skier,jV p1.Index,.bool p1.Up]] w (wCB w [] U (fun U_ L_ v=>v=.bool r/\L_=[])):=by
 unfold wBW at hm
 refine Gv.of Try.func101 Z Try.ntmps101 Try.results101 Z ?_
 by_cases c1:p1.Kind=0
 have cf:=hm;rw [if_pos c1] at cf
 refine sR gEb Z ?_
 let B0:List Value:=[.slice ai p0.Starts.length an,.slice aj p0.Splits.length ao,.slice ak p0.Clocks.length ap,.slice am p0.Readings.length aq]
 refine zu (cs:=B0) rfl rfl rfl rfl rfl rfl (by rfl) hS ?_
 intro W6 b7 d7
 let B1:List Value:=[jV p1.Kind,jV p1.Skier,jV p1.Index,.bool p1.Up]
 refine zu (cs:=B1) rfl rfl rfl rfl rfl rfl (by rfl) d7 ?_
 intro bF bi dB
 refine yD rfl rfl rfl rfl rfl rfl (eN (zM (ZA ZB [3,1,2,3,2,3,1,3,3,1,1,2,3,3] gEv (by kernel_rfl) ?_)))
 have bs:=dB.drew
 generalize hw_W15:({ bF with drawn:=bF.drawn + 1 }:World)=co at bs ⊢
 refine oR Z (zJ Z Z zm Z yQ) (oL Z (bs.ldB (j:=0) Z Z Z yV (v:=jV p1.Kind) Z) (bnK cf fun fR cK eo=>zE 0 Z Z Z Z (zD Z Z yJ (zB Z (zB Z (zB Z zK))) Z) bs (fun hs=>wBb p1.Kind 0 3 co U hs cK) (.inr Z) ?_))
 rintro be eU fI bN a8 dS ⟨rfl,rfl⟩
 have aQ:sW w U be [.blk bi 78 B1,.blk b7 28 B0] bN:=dS
 refine oM Z Z (ifc eo ?_ ?_)
 intro af eB
 refine zY Z Z Z (zF Z Z (congrArg hH af.out)) (fun _=>zJ Z Z zm Z yQ) (zl Z Z Z (zF Z Z (congrArg hH af.out)) (aQ.ldB (j:=0) Z Z Z yV (v:=jV p1.Kind) Z) Z (zl Z Z Z (zF Z Z (congrArg hH af.out)) (aQ.ldBA (j:=1) Z Z Z ze zZ (vs:=B0) Z Z) Z (zl Z Z Z (zF Z Z (congrArg hH af.out)) (aQ.ldBA (j:=0) Z Z Z Zt ZU (vs:=B1) Z Z) Z ?_)))
 have q:=bnd eB
 obtain ⟨⟨⟩,cZ,cd⟩:=q
 try dsimp only at cd
 refine zE 0 Z Z Z (zF Z Z (congrArg hH af.out)) (zD Z Z yW zK Z) aQ (fun hs=>wBG bN be hs cZ) (.inr Z) ?_
 rintro bB eY fL bQ a9 dT ⟨rfl,rfl⟩
 have dU:sW w U bB [.blk bi 78 B1,.blk b7 28 B0] bQ:=dT
 refine zY rfl rfl rfl (zF rfl rfl (congrArg hH af.out)) (fun _=>(yj (i:=0) rfl rfl (congrArg (jV) c1) Zu ZZ (by decide) (by decide) (wCr yf ZZ rfl))) (zY rfl rfl rfl (zF rfl rfl (congrArg hH af.out)) (fun _=>Runs.fld rfl rfl Zz rfl (wEW Try.isAgg165 (v:=.func (.func 108) #[] #[]) rfl)) ?_)
 have c6:=aV.le a8
 have c8:=c6.le a9
 have da:=aW.le a8
 have db:=da.le a9
 have dd:=aX.le a8
 have de:=dd.le a9
 have df:=aY.le a8
 have dg:=df.le a9
 refine bnK cd fun fW dh eD=>zE 0 Z Z Z (zF Z Z (congrArg hH af.out)) (zD Z Z Try.call108 (zB Z (zB Z zK)) Z) dU (fun hs=>wGs p0 ai an aj ao ak ap am aq p1 bQ bB hs c8 db de dg dh) (.inr Z) ?_
 rintro bC eZ fM cw fy dV ⟨rfl,rfl⟩
 have dW:sW w U bC [.blk bi 78 B1,.blk b7 28 B0] cw:=dV
 refine oR Z (zR Z (congrArg hH af.out) Z) (oA Z Z (eN (zU ?_)))
 have hE:=nA eD;first | subst r | cases hE
 exact ⟨rfl,_,(ZL rfl),bC,_,(dW.pick [] _ (by decide) rfl),rfl,rfl⟩
 intro af eE
 refine zt Z Z Z (zO Z Z (congrArg hH (hJ.2 af.out)) Z) (zt Z Z Z (zO Z Z (congrArg hH (hJ.2 af.out)) Z) (zt Z Z Z (zO Z Z (congrArg hH (hJ.2 af.out)) Z) (zt Z Z Z (zO Z Z (congrArg hH (hJ.2 af.out)) Z) (ZG Z Z Z (zO Z Z (congrArg hH (hJ.2 af.out)) Z) (zt Z Z Z (zO Z Z (congrArg hH (hJ.2 af.out)) Z) (zt Z Z Z (zO Z Z (congrArg hH (hJ.2 af.out)) Z) (ZG Z Z Z (zO Z Z (congrArg hH (hJ.2 af.out)) Z) (oR Z (zb Z (congrArg hH (hJ.2 af.out)) Z) (oA Z Z (eN (zU ?_)))))))))))
 have hE:=nA eE;first | subst r | cases hE
 exact ⟨rfl,_,(ZL rfl),be,_,(aQ.pick [] _ (by decide) rfl),rfl,rfl⟩
 by_cases c2:p1.Kind=1
 have cg:=hm;rw [if_neg c1,if_pos c2] at cg
 refine sR gEb Z ?_
 let B2:List Value:=[.slice ai p0.Starts.length an,.slice aj p0.Splits.length ao,.slice ak p0.Clocks.length ap,.slice am p0.Readings.length aq]
 refine zu (cs:=B2) rfl rfl rfl rfl rfl rfl (by rfl) hS ?_
 intro fh bn dX
 let B3:List Value:=[jV p1.Kind,jV p1.Skier,jV p1.Index,.bool p1.Up]
 refine zu (cs:=B3) rfl rfl rfl rfl rfl rfl (by rfl) dX ?_
 intro bR bo dY
 refine yD rfl rfl rfl rfl rfl rfl (eN (zM (ZA ZB [3,1,2,3,2,3,1,3,3,1,1,2,3,3] gEv (by kernel_rfl) ?_)))
 have bv:=dY.drew
 generalize hw_W66:({ bR with drawn:=bR.drawn + 1 }:World)=cx at bv ⊢
 refine oR Z (zJ Z Z zm Z yQ) (oL Z (bv.ldB (j:=0) Z Z Z yV (v:=jV p1.Kind) Z) (bnK cg fun fY di eG=>zE 0 Z Z Z Z (zD Z Z yJ (zB Z (zB Z (zB Z zK))) Z) bv (fun hs=>wBb p1.Kind 0 3 cx U hs di) (.inr Z) ?_))
 rintro bg fb fN bS ba dZ ⟨rfl,rfl⟩
 have aR:sW w U bg [.blk bo 78 B3,.blk bn 28 B2] bS:=dZ
 refine oM Z Z (ifc eG ?_ ?_)
 intro ag eH
 refine zY Z Z Z (zF Z Z (congrArg hH ag.out)) (fun _=>zJ Z Z zm Z yQ) (zl Z Z Z (zF Z Z (congrArg hH ag.out)) (aR.ldB (j:=0) Z Z Z yV (v:=jV p1.Kind) Z) Z (zl Z Z Z (zF Z Z (congrArg hH ag.out)) (aR.ldBA (j:=1) Z Z Z ze zZ (vs:=B2) Z Z) Z (zl Z Z Z (zF Z Z (congrArg hH ag.out)) (aR.ldBA (j:=0) Z Z Z Zt ZU (vs:=B3) Z Z) Z ?_)))
 have q:=bnd eH
 obtain ⟨⟨⟩,dk,ci⟩:=q
 try dsimp only at ci
 refine zE 0 Z Z Z (zF Z Z (congrArg hH ag.out)) (zD Z Z yW zK Z) aR (fun hs=>wBG bS bg hs dk) (.inr Z) ?_
 rintro bD fc fO bU bb d9 ⟨rfl,rfl⟩
 have ec:sW w U bD [.blk bo 78 B3,.blk bn 28 B2] bU:=d9
 refine zY rfl rfl rfl (zF rfl rfl (congrArg hH ag.out)) (fun _=>(yj (i:=1) rfl rfl (congrArg (jV) c2) Zu ZZ (by decide) (by decide) (wCr yf ZZ rfl))) (zY rfl rfl rfl (zF rfl rfl (congrArg hH ag.out)) (fun _=>Runs.fld rfl rfl Zz rfl (wEW Try.isAgg165 (v:=.func (.func 111) #[] #[]) rfl)) ?_)
 have dl:=aV.le ba
 have dm:=dl.le bb
 have dn:=aW.le ba
 have dp:=dn.le bb
 have dq:=aX.le ba
 have dr:=dq.le bb
 have dt:=aY.le ba
 have du:=dt.le bb
 refine bnK ci fun fZ dv eI=>zE 0 Z Z Z (zF Z Z (congrArg hH ag.out)) (zD Z Z Try.call111 (zB Z (zB Z zK)) Z) ec (fun hs=>wGv p0 ai an aj ao ak ap am aq p1 bU bD hs dm dp dr du dv) (.inr Z) ?_
 rintro bE eJ fz cm fm dw ⟨rfl,rfl⟩
 have dx:sW w U bE [.blk bo 78 B3,.blk bn 28 B2] cm:=dw
 refine oR Z (zR Z (congrArg hH ag.out) Z) (oA Z Z (eN (zU ?_)))
 have hE:=nA eI;first | subst r | cases hE
 exact ⟨rfl,_,(ZL rfl),bE,_,(dx.pick [] _ (by decide) rfl),rfl,rfl⟩
 intro ag ef
 refine zt Z Z Z (zO Z Z (congrArg hH (hJ.2 ag.out)) Z) (zt Z Z Z (zO Z Z (congrArg hH (hJ.2 ag.out)) Z) (zt Z Z Z (zO Z Z (congrArg hH (hJ.2 ag.out)) Z) (zt Z Z Z (zO Z Z (congrArg hH (hJ.2 ag.out)) Z) (ZG Z Z Z (zO Z Z (congrArg hH (hJ.2 ag.out)) Z) (zt Z Z Z (zO Z Z (congrArg hH (hJ.2 ag.out)) Z) (zt Z Z Z (zO Z Z (congrArg hH (hJ.2 ag.out)) Z) (ZG Z Z Z (zO Z Z (congrArg hH (hJ.2 ag.out)) Z) (oR Z (zb Z (congrArg hH (hJ.2 ag.out)) Z) (oA Z Z (eN (zU ?_)))))))))))
 have hE:=nA ef;first | subst r | cases hE
 exact ⟨rfl,_,(ZL rfl),bg,_,(aR.pick [] _ (by decide) rfl),rfl,rfl⟩
 by_cases c3:p1.Kind=2
 have bX:=hm;rw [if_neg c1,if_neg c2,if_pos c3] at bX
 refine sR gEb Z ?_
 let B4:List Value:=[.slice ai p0.Starts.length an,.slice aj p0.Splits.length ao,.slice ak p0.Clocks.length ap,.slice am p0.Readings.length aq]
 refine zu (cs:=B4) rfl rfl rfl rfl rfl rfl (by rfl) hS ?_
 intro fd bh dz
 let B5:List Value:=[jV p1.Kind,jV p1.Skier,jV p1.Index,.bool p1.Up]
 refine zu (cs:=B5) rfl rfl rfl rfl rfl rfl (by rfl) dz ?_
 intro bG bj dA
 refine yD rfl rfl rfl rfl rfl rfl (eN (zM (ZA ZB [3,1,2,3,2,3,1,3,3,1,1,2,3,3] gEv (by kernel_rfl) ?_)))
 have br:=dA.drew
 generalize hw_W117:({ bG with drawn:=bG.drawn + 1 }:World)=cn at br ⊢
 refine oR Z (zJ Z Z zm Z yQ) (oL Z (br.ldB (j:=0) Z Z Z yV (v:=jV p1.Kind) Z) (bnK bX fun fP cy eg=>zE 0 Z Z Z Z (zD Z Z yJ (zB Z (zB Z (zB Z zK))) Z) br (fun hs=>wBb p1.Kind 0 3 cn U hs cy) (.inr Z) ?_))
 rintro bc eK fA bH aZ dC ⟨rfl,rfl⟩
 have aN:sW w U bc [.blk bj 78 B5,.blk bh 28 B4] bH:=dC
 refine oM Z Z (ifc eg ?_ ?_)
 intro ac eh
 refine zY Z Z Z (zF Z Z (congrArg hH ac.out)) (fun _=>zJ Z Z zm Z yQ) (zl Z Z Z (zF Z Z (congrArg hH ac.out)) (aN.ldB (j:=0) Z Z Z yV (v:=jV p1.Kind) Z) Z (zl Z Z Z (zF Z Z (congrArg hH ac.out)) (aN.ldBA (j:=1) Z Z Z ze zZ (vs:=B4) Z Z) Z (zl Z Z Z (zF Z Z (congrArg hH ac.out)) (aN.ldBA (j:=0) Z Z Z Zt ZU (vs:=B5) Z Z) Z ?_)))
 have q:=bnd eh
 obtain ⟨⟨⟩,cz,bY⟩:=q
 try dsimp only at bY
 refine zE 0 Z Z Z (zF Z Z (congrArg hH ac.out)) (zD Z Z yW zK Z) aN (fun hs=>wBG bH bc hs cz) (.inr Z) ?_
 rintro bw eL fB bI a5 dD ⟨rfl,rfl⟩
 have dE:sW w U bw [.blk bj 78 B5,.blk bh 28 B4] bI:=dD
 refine zY rfl rfl rfl (zF rfl rfl (congrArg hH ac.out)) (fun _=>(yj (i:=2) rfl rfl (congrArg (jV) c3) Zu ZZ (by decide) (by decide) (wCr yf ZZ rfl))) (zY rfl rfl rfl (zF rfl rfl (congrArg hH ac.out)) (fun _=>Runs.fld rfl rfl Zz rfl (wEW Try.isAgg165 (v:=.func (.func 114) #[] #[]) rfl)) ?_)
 have cA:=aV.le aZ
 have cB:=cA.le a5
 have cC:=aW.le aZ
 have cD:=cC.le a5
 have cE:=aX.le aZ
 have cG:=cE.le a5
 have cH:=aY.le aZ
 have cI:=cH.le a5
 refine bnK bY fun fQ cJ ej=>zE 0 Z Z Z (zF Z Z (congrArg hH ac.out)) (zD Z Z Try.call114 (zB Z (zB Z zK)) Z) dE (fun hs=>wGy p0 ai an aj ao ak ap am aq p1 bI bw hs cB cD cG cI cJ) (.inr Z) ?_
 rintro bx eM fC cp fq dF ⟨rfl,rfl⟩
 have dG:sW w U bx [.blk bj 78 B5,.blk bh 28 B4] cp:=dF
 refine oR Z (zR Z (congrArg hH ac.out) Z) (oA Z Z (eN (zU ?_)))
 have hE:=nA ej;first | subst r | cases hE
 exact ⟨rfl,_,(ZL rfl),bx,_,(dG.pick [] _ (by decide) rfl),rfl,rfl⟩
 intro ac ek
 refine zt Z Z Z (zO Z Z (congrArg hH (hJ.2 ac.out)) Z) (zt Z Z Z (zO Z Z (congrArg hH (hJ.2 ac.out)) Z) (zt Z Z Z (zO Z Z (congrArg hH (hJ.2 ac.out)) Z) (zt Z Z Z (zO Z Z (congrArg hH (hJ.2 ac.out)) Z) (ZG Z Z Z (zO Z Z (congrArg hH (hJ.2 ac.out)) Z) (zt Z Z Z (zO Z Z (congrArg hH (hJ.2 ac.out)) Z) (zt Z Z Z (zO Z Z (congrArg hH (hJ.2 ac.out)) Z) (ZG Z Z Z (zO Z Z (congrArg hH (hJ.2 ac.out)) Z) (oR Z (zb Z (congrArg hH (hJ.2 ac.out)) Z) (oA Z Z (eN (zU ?_)))))))))))
 have hE:=nA ek;first | subst r | cases hE
 exact ⟨rfl,_,(ZL rfl),bc,_,(aN.pick [] _ (by decide) rfl),rfl,rfl⟩
 by_cases c4:p1.Kind=3
 have bZ:=hm;rw [if_neg c1,if_neg c2,if_neg c3,if_pos c4] at bZ
 refine sR gEb Z ?_
 let B6:List Value:=[.slice ai p0.Starts.length an,.slice aj p0.Splits.length ao,.slice ak p0.Clocks.length ap,.slice am p0.Readings.length aq]
 refine zu (cs:=B6) rfl rfl rfl rfl rfl rfl (by rfl) hS ?_
 intro ff bk dH
 let B7:List Value:=[jV p1.Kind,jV p1.Skier,jV p1.Index,.bool p1.Up]
 refine zu (cs:=B7) rfl rfl rfl rfl rfl rfl (by rfl) dH ?_
 intro bJ bm dI
 refine yD rfl rfl rfl rfl rfl rfl (eN (zM (ZA ZB [3,1,2,3,2,3,1,3,3,1,1,2,3,3] gEv (by kernel_rfl) ?_)))
 have bt:=dI.drew
 generalize hw_W168:({ bJ with drawn:=bJ.drawn + 1 }:World)=cq at bt ⊢
 refine oR Z (zJ Z Z zm Z yQ) (oL Z (bt.ldB (j:=0) Z Z Z yV (v:=jV p1.Kind) Z) (bnK bZ fun fS cL en=>zE 0 Z Z Z Z (zD Z Z yJ (zB Z (zB Z (zB Z zK))) Z) bt (fun hs=>wBb p1.Kind 0 3 cq U hs cL) (.inr Z) ?_))
 rintro bd eO fD bK a6 dJ ⟨rfl,rfl⟩
 have aO:sW w U bd [.blk bm 78 B7,.blk bk 28 B6] bK:=dJ
 refine oM Z Z (ifc en ?_ ?_)
 intro ae ep
 refine zY Z Z Z (zF Z Z (congrArg hH ae.out)) (fun _=>zJ Z Z zm Z yQ) (zl Z Z Z (zF Z Z (congrArg hH ae.out)) (aO.ldB (j:=0) Z Z Z yV (v:=jV p1.Kind) Z) Z (zl Z Z Z (zF Z Z (congrArg hH ae.out)) (aO.ldBA (j:=1) Z Z Z ze zZ (vs:=B6) Z Z) Z (zl Z Z Z (zF Z Z (congrArg hH ae.out)) (aO.ldBA (j:=0) Z Z Z Zt ZU (vs:=B7) Z Z) Z ?_)))
 have q:=bnd ep
 obtain ⟨⟨⟩,cM,ca⟩:=q
 try dsimp only at ca
 refine zE 0 Z Z Z (zF Z Z (congrArg hH ae.out)) (zD Z Z yW zK Z) aO (fun hs=>wBG bK bd hs cM) (.inr Z) ?_
 rintro bz eQ fG bL a7 dK ⟨rfl,rfl⟩
 have dL:sW w U bz [.blk bm 78 B7,.blk bk 28 B6] bL:=dK
 refine zY rfl rfl rfl (zF rfl rfl (congrArg hH ae.out)) (fun _=>(yj (i:=3) rfl rfl (congrArg (jV) c4) Zu ZZ (by decide) (by decide) (wCr yf ZZ rfl))) (zY rfl rfl rfl (zF rfl rfl (congrArg hH ae.out)) (fun _=>Runs.fld rfl rfl Zz rfl (wEW Try.isAgg165 (v:=.func (.func 117) #[] #[]) rfl)) ?_)
 have cN:=aV.le a6
 have cO:=cN.le a7
 have cP:=aW.le a6
 have cQ:=cP.le a7
 have cR:=aX.le a6
 have cS:=cR.le a7
 have cU:=aY.le a6
 have cV:=cU.le a7
 refine bnK ca fun fT cW er=>zE 0 Z Z Z (zF Z Z (congrArg hH ae.out)) (zD Z Z Try.call117 (zB Z (zB Z zK)) Z) dL (fun hs=>wGY p0 ai an aj ao ak ap am aq p1 bL bz hs cO cQ cS cV cW) (.inr Z) ?_
 rintro bA eV fH cr ft dM ⟨rfl,rfl⟩
 have dN:sW w U bA [.blk bm 78 B7,.blk bk 28 B6] cr:=dM
 refine oR Z (zR Z (congrArg hH ae.out) Z) (oA Z Z (eN (zU ?_)))
 have hE:=nA er;first | subst r | cases hE
 exact ⟨rfl,_,(ZL rfl),bA,_,(dN.pick [] _ (by decide) rfl),rfl,rfl⟩
 intro ae eu
 refine zt Z Z Z (zO Z Z (congrArg hH (hJ.2 ae.out)) Z) (zt Z Z Z (zO Z Z (congrArg hH (hJ.2 ae.out)) Z) (zt Z Z Z (zO Z Z (congrArg hH (hJ.2 ae.out)) Z) (zt Z Z Z (zO Z Z (congrArg hH (hJ.2 ae.out)) Z) (ZG Z Z Z (zO Z Z (congrArg hH (hJ.2 ae.out)) Z) (zt Z Z Z (zO Z Z (congrArg hH (hJ.2 ae.out)) Z) (zt Z Z Z (zO Z Z (congrArg hH (hJ.2 ae.out)) Z) (ZG Z Z Z (zO Z Z (congrArg hH (hJ.2 ae.out)) Z) (oR Z (zb Z (congrArg hH (hJ.2 ae.out)) Z) (oA Z Z (eN (zU ?_)))))))))))
 have hE:=nA eu;first | subst r | cases hE
 exact ⟨rfl,_,(ZL rfl),bd,_,(aO.pick [] _ (by decide) rfl),rfl,rfl⟩
 have cb:=hm;rw [if_neg c1,if_neg c2,if_neg c3,if_neg c4] at cb
 refine sR gEb Z ?_
 let B8:List Value:=[.slice ai p0.Starts.length an,.slice aj p0.Splits.length ao,.slice ak p0.Clocks.length ap,.slice am p0.Readings.length aq]
 refine zu (cs:=B8) rfl rfl rfl rfl rfl rfl (by rfl) hS ?_
 intro fg bV dO
 let B9:List Value:=[jV p1.Kind,jV p1.Skier,jV p1.Index,.bool p1.Up]
 refine zu (cs:=B9) rfl rfl rfl rfl rfl rfl (by rfl) dO ?_
 intro bM bW dP
 refine yD rfl rfl rfl rfl rfl rfl (eN (zM (ZA ZB [3,1,2,3,2,3,1,3,3,1,1,2,3,3] gEv (by kernel_rfl) ?_)))
 have bu:=dP.drew
 generalize hw_W219:({ bM with drawn:=bM.drawn + 1 }:World)=ct at bu ⊢
 refine oR Z (zJ Z Z zm Z yQ) (oL Z (bu.ldB (j:=0) Z Z Z yV (v:=jV p1.Kind) Z) (bnK cb fun fU cX ew=>zE 0 Z Z Z Z (zD Z Z yJ (zB Z (zB Z (zB Z zK))) Z) bu (fun hs=>wBb p1.Kind 0 3 ct U hs cX) (.inr Z) ?_))
 rintro bf eW fJ bP fu dQ ⟨rfl,rfl⟩
 have aP:sW w U bf [.blk bW 78 B9,.blk bV 28 B8] bP:=dQ
 refine oM Z Z (ifc ew ?_ ?_)
 intro ah ey
 refine zY Z Z Z (zF Z Z (congrArg hH ah.out)) (fun _=>zJ Z Z zm Z yQ) (zl Z Z Z (zF Z Z (congrArg hH ah.out)) (aP.ldB (j:=0) Z Z Z yV (v:=jV p1.Kind) Z) Z (zl Z Z Z (zF Z Z (congrArg hH ah.out)) (aP.ldBA (j:=1) Z Z Z ze zZ (vs:=B8) Z Z) Z (zl Z Z Z (zF Z Z (congrArg hH ah.out)) (aP.ldBA (j:=0) Z Z Z Zt ZU (vs:=B9) Z Z) Z ?_)))
 have q:=bnd ey
 obtain ⟨⟨⟩,cY,cc⟩:=q
 try dsimp only at cc
 refine zE 0 Z Z Z (zF Z Z (congrArg hH ah.out)) (zD Z Z yW zK Z) aP (fun hs=>wBG bP bf hs cY) (.inr Z) ?_
 rintro cj eX fK cu fw dR ⟨rfl,rfl⟩
 have fk:sW w U cj [.blk bW 78 B9,.blk bV 28 B8] cu:=dR
 cases cc
 intro ah eA
 refine zt Z Z Z (zO Z Z (congrArg hH (hJ.2 ah.out)) Z) (zt Z Z Z (zO Z Z (congrArg hH (hJ.2 ah.out)) Z) (zt Z Z Z (zO Z Z (congrArg hH (hJ.2 ah.out)) Z) (zt Z Z Z (zO Z Z (congrArg hH (hJ.2 ah.out)) Z) (ZG Z Z Z (zO Z Z (congrArg hH (hJ.2 ah.out)) Z) (zt Z Z Z (zO Z Z (congrArg hH (hJ.2 ah.out)) Z) (zt Z Z Z (zO Z Z (congrArg hH (hJ.2 ah.out)) Z) (ZG Z Z Z (zO Z Z (congrArg hH (hJ.2 ah.out)) Z) (oR Z (zb Z (congrArg hH (hJ.2 ah.out)) Z) (oA Z Z (eN (zU ?_)))))))))))
 have hE:=nA eA;first | subst r | cases hE
 exact ⟨rfl,_,(ZL rfl),bf,_,(aP.pick [] _ (by decide) rfl),rfl,rfl⟩
end Go.Proofs.Ytlnfbjphfoipaaa
namespace Go.Proofs.Ytlnfbjphfoipaaa
open Go.KL
set_option maxHeartbeats 4000000
theorem wEm (p0:List wAD) (an:Option Addr) (ao:Nat) (p1:(wAD->Option Bool)) (ap:Value) (w:World) (U:PHeap) (hS:St0 w U []) (ba:Sl U 4 an ao p0.length (hD wAQ p0)) (bb:FnOK Try.prog U ap wKD wMh p1) {r:Bool} (hm:wBX p0 p1=some r):Gv Try.prog 102 [.slice an p0.length ao,ap] w (wCB w [] U (fun U_ L_ v=>v=.bool r/\L_=[])):=by
 unfold wBX at hm
 refine Gv.of Try.func102 Z Try.ntmps102 Try.results102 Z (sR fL1 Z (oA Z Z (eN (zM (sR fL3 Z (oM Z Z (oR Z (zz Z Z Zo) (oM Z Z (eN (zc ?_))))))))))
 have q:=wBg hm
 obtain ⟨r3,ai⟩:=q
 have q:=wBf ai
 obtain ⟨ak,be⟩:=q
 replace ak:=zS ak
 refine yL (fun k2 _ σ_ w_=>∃ (U_:PHeap),σ_ 9=jV (↑k2:Int)/\σ_ 1=ap/\σ_ 7=.slice an p0.length ao/\σ_ 8=jV (↑p0.length:Int)/\PHeap.Le U U_/\sW w U U_ [] w_) be ?_ ?_ ?_
 exact ⟨U,Z,Z,Z,Z,(zW _),hS⟩
 rintro k2 ⟨⟩ bB bD W8 aj ⟨aO,ah,av,aw,ax,am,az⟩ aM bc
 try dsimp only at aM
 have au:Hid ((↑k2:Int) < (↑p0.length:Int)):=zS (wBD aj)
 replace aj:=zS aj
 have bf:Hid (w64 ((↑k2:Int) + 1)=(↑(k2 + 1):Int)):=zS (by have h1:=ak.out;have h2:=au.out;rw [wAU] <;> omega)
 refine sR fL1 Z (oR Z (zh Z ah ax) (eN (zM (cT Z au (kN (zM (zc (sR gEi Z (bnK aM fun ab ay bg=>?_)))))))))
 have aW:=ba.le am
 have q:=aW.el (fun _=>rfl) (wAW ay)
 obtain ⟨bs,bw,aZ,a5⟩:=q
 refine oR Z (Zi Z aw aZ ah Zo ZU (wBi ay)) (oL Z (az.ldCA (f:=0) a5 Z Z Zt ZU (us:=[jV ab.Kind,jV ab.Skier,jV ab.Index,.bool ab.Up]) Z Z) (zT (cs:=[jV 0,jV 0,jV 0,.bool false]) Z Z Z Z Z Zv Z az ?_))
 intro bp aq a6
 let B0:List Value:=[jV ab.Kind,jV ab.Skier,jV ab.Index,.bool ab.Up]
 refine zV (j:=0) (vs:=B0) Z Z Z Z a6 Z Z Z Z ZU (zA Z) Z Z Z ?_
 intro aQ a7
 have aJ:sW w U aO [.blk aq 78 B0] aQ:=a7
 refine eN (sR gEj Z (oM Z av (oL Z (aJ.ldBA (j:=0) Z Z Z Zt ZU (vs:=B0) Z Z) (bnK bg fun bA aX bh=>?_))))
 have aY:=bb.le am
 refine yv (a:=ab) Z Z Z Z Z Z (zB Z zK) aJ aY Z aX ?_
 rintro af bo bz aR bm a8 ⟨rfl,rfl⟩
 have aK:sW w U af [.blk aq 78 B0] aR:=a8
 refine oR Z (ZT Z Z) (eN (ifc bh ?_ ?_))
 intro ag bi
 refine zn (nC ag.out) (Zl (ZH (zL (rR fL2 Z (oR Z (ZS (zf Z ah Z) (congrArg (jV) bf.out)) (oM Z Z (zg ?_)))))))
 obtain rfl:=nA bi
 exact zL ⟨rfl,_,rfl,⟨af,rfl,av,aw,ax,(am.trans bm),(aK.pick [] _ (by decide) rfl)⟩⟩
 intro ag bj
 refine ZD (nF (ag.out)) (sR fL1 Z (oA Z Z (eN (zU (zX (zN ?_))))))
 have q:=wAV bj
 obtain ⟨bn,bk,aT⟩:=q
 obtain rfl:=wAk hm ai (bc bn aT)
 refine zN (zX (zN ?_))
 have hE:=nA bk;first | subst r | cases hE
 exact ⟨rfl,_,(ZL rfl),af,_,(aK.pick [] _ (by decide) rfl),rfl,rfl⟩
 rintro ⟨⟩ bC bq ⟨aP,aV,bt,bu,aU,bv,a9⟩ bd
 have aL:=wCV hm ai bd
 try dsimp only at aL
 have aS:Hid (¬ ((↑(((↑p0.length:Int):Int) - 0).toNat:Int) < (↑p0.length:Int))):=zS (wAh)
 refine sR fL1 Z (oR Z (zh Z aV aU) (eN (zM (cF Z aS (Zf (zx (zx (Zc (zL (sR fL1 Z (oA Z Z (eN (zU ?_)))))))))))))
 have hE:=nA aL;first | subst r | cases hE
 exact ⟨Z,_,(ZL Z),aP,_,a9,Z,Z⟩
theorem wEJ (p0:wAC) (af:Option Addr) (aj:Nat) (ag:Option Addr) (ak:Nat) (ah:Option Addr) (am:Nat) (ai:Option Addr) (an:Nat) (p1:List wAD) (au:Option Addr) (av:Nat) (w:World) (U:PHeap) (hS:St0 w U []) (aP:Sl U 1 af aj p0.Starts.length (hD KL.encI p0.Starts)) (aQ:Sl U 2 ag ak p0.Splits.length (hD wAG p0.Splits)) (aR:Sl U 3 ah am p0.Clocks.length (hD wAA p0.Clocks)) (aS:Sl U 4 ai an p0.Readings.length (hD wAB p0.Readings)) (aT:Sl U 4 au av p1.length (hD wAQ p1)) {r:Int} (hm:wCE p0 p1=some r):Gv Try.prog 69 [.agg #[.slice af p0.Starts.length aj,.slice ag p0.Splits.length ak,.slice ah p0.Clocks.length am,.slice ai p0.Readings.length an],.slice au p1.length av] w (wCB w [] U (fun U_ L_ v=>v=jV r/\L_=[])):=by
 unfold wCE at hm
 refine Gv.of Try.func69 Z Try.ntmps69 Try.results69 Z (sR gDt Z ?_)
 let B0:List Value:=[.slice af p0.Starts.length aj,.slice ag p0.Splits.length ak,.slice ah p0.Clocks.length am,.slice ai p0.Readings.length an]
 refine zu (cs:=B0) rfl rfl rfl rfl rfl rfl (by rfl) hS ?_
 intro W1 b2 aq
 refine oA Z Z (eN (sR fL3 Z (oL Z (aq.ldBA (j:=0) Z Z Z ze zZ (vs:=B0) Z Z) (oR Z (yc Z (zB Z zK) zK) (oA Z Z (eN (zM (zc (sR fL4 Z (oM Z Z (oR Z (zz Z Z Zo) (oR Z (yn Z Z Z) (oA Z Z (eN ?_))))))))))))))
 by_cases c5:80 < (↑p1.length:Int)
 have ax:=hm;rw [if_pos c5] at ax;replace c5:=zS c5
 refine cT Z c5 (sR fL1 Z (oA Z Z (eN (zU (zX (zN ?_))))))
 cases ax
 exact ⟨rfl,_,(ZL rfl),U,_,(aq.pick [] _ (by decide) rfl),rfl,rfl⟩
 have ay:=hm;rw [if_neg c5] at ay;replace c5:=zS c5
 refine cF Z c5 (sR gEr Z (oM Z Z (oM Z Z ?_)))
 have aN:FnOK Try.prog U (.func (.func 101) #[.agg B0.toArray] #[]) wKD wMh (fun x=>wBW p0 x):=⟨101,[.agg B0.toArray],[],rfl,Try.call101,fun U1 w1 x y vs le hs ha hm=>by obtain rfl:=ha;exact wFk p0 af aj ag ak ah am ai an x w1 U1 hs (aP.le le) (aQ.le le) (aR.le le) (aS.le le) hm⟩
 refine bnK ay fun x9 aM aU=>zE 0 Z Z Z Z (zD Z Z Try.call102 (zB Z (zB Z zK)) Z) aq (fun hs=>wEm p1 au av (fun x=>wBW p0 x) (.func (.func 101) #[.agg B0.toArray] #[]) W1 U hs aT aN aM) (.inr Z) ?_
 rintro ao aY a5 aK aZ aO ⟨rfl,rfl⟩
 have aw:sW w U ao [.blk b2 28 B0] aK:=aO
 refine oR Z (ZT Z Z) (oA Z Z (eN (ifc aU ?_ ?_)))
 intro ap aV
 refine zn (nC ap.out) (Zl (ZH (zL (sR fL1 Z (oA Z Z (eN (zU ?_)))))))
 cases aV
 exact ⟨rfl,_,(ZL rfl),ao,_,(aw.pick [] _ (by decide) rfl),rfl,rfl⟩
 intro ap aW
 refine ZD (nF (ap.out)) (sR fL1 Z (oA Z Z (eN (zU (zX (zN ?_))))))
 cases aW
 exact ⟨rfl,_,(ZL rfl),ao,_,(aw.pick [] _ (by decide) rfl),rfl,rfl⟩
theorem wCn (p0:wAC) (aL:Option Addr) (aP:Nat) (aM:Option Addr) (aQ:Nat) (aN:Option Addr) (aR:Nat) (aO:Option Addr) (aS:Nat) (p1:wAH) (p2:List wAD) (a8:Option Addr) (a9:Nat) (w:World) (U:PHeap) (hS:St0 w U []) (ci:Sl U 1 aL aP p0.Starts.length (hD KL.encI p0.Starts)) (cj:Sl U 2 aM aQ p0.Splits.length (hD wAG p0.Splits)) (cm:Sl U 3 aN aR p0.Clocks.length (hD wAA p0.Clocks)) (cn:Sl U 4 aO aS p0.Readings.length (hD wAB p0.Readings)) (co:Sl U 4 a8 a9 p2.length (hD wAQ p2)) {r:wAH × Int × Bool} (hm:wBY p0 p1 p2=some r):Gv Try.prog 71 [.agg #[.slice aL p0.Starts.length aP,.slice aM p0.Splits.length aQ,.slice aN p0.Clocks.length aR,.slice aO p0.Readings.length aS],.agg #[jV p1.skier,jV p1.mat],.slice a8 p2.length a9] w (wCB w [] U (fun U_ L_ v=>v=.tuple #[.agg #[jV r.1.skier,jV r.1.mat],jV r.2.1,.bool r.2.2]/\L_=[])):=by
 unfold wBY at hm
 refine Gv.of Try.func71 Z Try.ntmps71 Try.results71 Z (sR gEp Z ?_)
 let B0:List Value:=[.slice aL p0.Starts.length aP,.slice aM p0.Splits.length aQ,.slice aN p0.Clocks.length aR,.slice aO p0.Readings.length aS]
 refine zu (cs:=B0) rfl rfl rfl rfl rfl rfl (by rfl) hS ?_
 intro W1 b2 bS
 refine zu (cs:=[jV p1.skier,jV p1.mat]) rfl rfl rfl rfl rfl rfl (by rfl) bS ?_
 intro W5 b6 bW
 let B1:List Value:=[jV 0,jV 0]
 refine zT (cs:=B1) Z Z Z Z Z za Z bW ?_
 intro W9 af bQ
 refine oA Z Z (oA Z Z (eN (sR fL1 Z (oA Z Z (eN (zM (sR fL3 Z (oM Z Z (oR Z (zz Z Z Zo) (oM Z Z (eN (zc ?_))))))))))))
 have q:=wBg hm
 obtain ⟨cV,a5⟩:=q
 have q:=wBf a5
 obtain ⟨a7,cr⟩:=q
 replace a7:=zS a7
 refine yL (fun aw (aT,aU,br) σ_ w_=>∃ (U_:PHeap),σ_ 17=jV (↑aw:Int)/\σ_ 3=.pointer (some ⟨b2,0,none⟩)/\σ_ 4=.pointer (some ⟨b6,0,none⟩)/\σ_ 6=.pointer (some ⟨af,0,none⟩)/\σ_ 9=jV br/\σ_ 15=.slice a8 p2.length a9/\σ_ 16=jV (↑p2.length:Int)/\PHeap.Le U U_/\sW w U U_ [.blk af 104 B1,.blk b6 104 [jV aT,jV aU],.blk b2 28 B0] w_) cr ?_ ?_ ?_
 exact ⟨U,Z,Z,Z,Z,Z,Z,Z,(zW _),bQ⟩
 rintro aw ⟨aT,aU,br⟩ cX cZ cJ a6 ⟨bb,aY,bf,aK,aX,bE,bg,bh,av,bn⟩ bq cq
 try dsimp only at bq
 have bd:Hid ((↑aw:Int) < (↑p2.length:Int)):=zS (wBD a6)
 replace a6:=zS a6
 have ct:Hid (w64 ((↑aw:Int) + 1)=(↑(aw + 1):Int)):=zS (by have h1:=a7.out;have h2:=bd.out;rw [wAU] <;> omega)
 refine sR fL1 Z (oR Z (zh Z aY bh) (eN (zM (cT Z bd (kN (zM (zc (sR gEi Z (bnK bq fun aj bi cx=>?_)))))))))
 have bG:=co.le av
 have q:=bG.el (fun _=>rfl) (wAW bi)
 obtain ⟨cP,cU,bM,bN⟩:=q
 refine oR Z (Zi Z bg bM aY Zo ZU (wBi bi)) (oL Z (bn.ldCA (f:=0) bN Z Z Zt ZU (us:=[jV aj.Kind,jV aj.Skier,jV aj.Index,.bool aj.Up]) Z Z) (zT (cs:=[jV 0,jV 0,jV 0,.bool false]) Z Z Z Z Z Zv Z bn ?_))
 intro cL aq bU
 let B2:List Value:=[jV aj.Kind,jV aj.Skier,jV aj.Index,.bool aj.Up]
 refine zV (j:=0) (vs:=B2) Z Z Z Z bU Z Z Z Z ZU (zA Z) Z Z Z ?_
 intro bc bV
 let B3:List Value:=[jV aT,jV aU]
 have aZ:sW w U bb [.blk aq 78 B2,.blk af 104 B1,.blk b6 104 B3,.blk b2 28 B0] bc:=bV
 refine eN (sR (.fl 0 (.fl 1 (.fx 2 (wIS (.fx 7 (.fx 8 (.fx 9 (.fx 10 (.fl 11 .nil) .stop) .stop) .stop) .stop)) .stop))) Z (oL Z (aZ.ldBA (j:=3) Z Z bf ze zZ (vs:=B0) Z Z) (oL Z (aZ.ldBA (j:=0) Z Z Z Zt ZU (vs:=B2) Z Z) ?_)))
 have bH:=ci.le av
 have bI:=cj.le av
 have bJ:=cm.le av
 have bK:=cn.le av
 have q:=bnd cx
 obtain ⟨⟨ay,aV,cB⟩,bL,bp⟩:=q
 try dsimp only at bp
 refine zE 0 Z Z Z Z (zD Z Z yk (zB Z (zB Z zK)) Z) aZ (fun hs=>wAm p0 aL aP aM aQ aN aR aO aS aj bc bb hs bH bI bJ bK bL) (.inr Z) ?_
 rintro an cG cW bu cz bX ⟨rfl,rfl⟩
 have bY:sW w U an [.blk aq 78 B2,.blk af 104 B1,.blk b6 104 B3,.blk b2 28 B0] bu:=bX
 refine oM Z Z (oR Z (zP Z Z (v:=.agg #[jV ay.skier,jV ay.mat]) Z) (oR Z (zP Z Z (v:=.agg #[jV aV.skier,jV aV.mat]) Z) (oR Z (zP Z Z (v:=jV cB) Z) (zT (cs:=B1) Z Z Z Z Z za Z bY ?_))))
 intro cM az bZ
 refine zT (cs:=B1) Z Z Z Z Z za Z bZ ?_
 intro cN aJ ca
 let B4:List Value:=[jV ay.skier,jV ay.mat]
 refine zV (j:=1) (vs:=B4) Z Z Z Z ca Z Z Z Z zI (zA Z) Z Z Z ?_
 intro bv cb
 have cc:sW w U an [.blk aJ 104 B1,.blk az 104 B4,.blk aq 78 B2,.blk af 104 B1,.blk b6 104 B3,.blk b2 28 B0] bv:=cb
 let B5:List Value:=[jV aV.skier,jV aV.mat]
 refine zV (j:=0) (vs:=B5) Z Z Z Z cc Z Z Z Z zI (zA Z) Z Z Z ?_
 intro bw cd
 have au:sW w U an [.blk aJ 104 B5,.blk az 104 B4,.blk aq 78 B2,.blk af 104 B1,.blk b6 104 B3,.blk b2 28 B0] bw:=cd
 refine oA Z Z (eN (zM (sR fL3 Z (oL Z (au.ldBA (j:=1) Z Z Z zi zI (vs:=B4) Z Z) (oL Z (au.ldBA (j:=4) Z Z aK zi zI (vs:=B3) Z Z) (oR Z (ZS (Runs.neS (enc:=wBZ) (a:=ay) (b:=(⟨aT,aU⟩:wAH)) Z Z Z wJK wJJ) (congrArg hH (decide_not).symm)) (eN (ifc bp ?_ ?_))))))))
 intro aW cy
 refine zn (zd (fun h=>h aW.out)) (kN (rR (wDe (.fx 4 (.fl 5 .nil) .stop)) Z (oL Z (au.ldBA (j:=0) Z Z Z zi zI (vs:=B5) Z Z) (oM Z bE (oM Z Z (oR Z (zf Z Z Z) (zV (j:=4) (vs:=B5) Z Z Z Z au Z aK Z Z zI (zA Z) Z Z Z ?_)))))))
 intro bx cf
 have cg:sW w U an [.blk aJ 104 B5,.blk az 104 B4,.blk aq 78 B2,.blk af 104 B1,.blk b6 104 B5,.blk b2 28 B0] bx:=cf
 refine oA Z Z (zg (ZH (zL (rR fL2 Z (oR Z (ZS (zf Z aY Z) (congrArg (jV) ct.out)) (oM Z Z (zg ?_)))))))
 obtain rfl:=nA cy
 exact zL ⟨rfl,_,rfl,⟨an,rfl,bf,aK,aX,rfl,bg,bh,(av.trans cz),(cg.pick [3,4,5] _ (by decide) rfl)⟩⟩
 intro aW cu
 refine cT Z aW (sR gEk Z (oL Z (au.ldBA (j:=4) Z Z aK zi zI (vs:=B3) Z Z) (zV (j:=3) (vs:=B3) Z Z Z Z au Z aX Z Z zI (zA Z) Z Z Z ?_)))
 intro bs bP
 have bj:sW w U an [.blk aJ 104 B5,.blk az 104 B4,.blk aq 78 B2,.blk af 104 B3,.blk b6 104 B3,.blk b2 28 B0] bs:=bP
 refine oA Z Z (oA Z Z (eN (zU (zN (zX (zN ?_))))))
 have q:=wAV cu
 obtain ⟨cA,cw,bA⟩:=q
 obtain rfl:=wAk hm a5 (cq cA bA)
 refine zN (zX (zN ?_))
 cases cw
 exact ⟨rfl,_,(wCT (rs:=[.cell 6 104,.tmp 7,.tmp 8]) (vs:=[.agg B3.toArray,jV 0,.bool false]) ⟨⟨_,aX,(wAy zi zI (bj.blkAt (k:=3) rfl) (vs:=B3) rfl rfl)⟩,⟨rfl,⟨rfl,trivial⟩⟩⟩ rfl),an,_,(bj.pick [] _ (by decide) rfl),rfl,rfl⟩
 rintro ⟨cC,cD,cE⟩ cY cI ⟨ba,bF,cQ,bB,be,bC,cR,bD,cS,bk⟩ cp
 have bo:=wCV hm a5 cp
 try dsimp only at bo
 have bz:Hid (¬ ((↑(((↑p2.length:Int):Int) - 0).toNat:Int) < (↑p2.length:Int))):=zS (wAh)
 refine sR fL1 Z (oR Z (zh Z bF bD) (eN (zM (cF Z bz (Zf (zx (zx (Zc (zL (sR gEr Z ?_))))))))))
 let B6:List Value:=[jV cC,jV cD]
 refine oL Z (bk.ldBA (j:=1) Z Z bB zi zI (vs:=B6) Z Z) (oM Z bC (zV (j:=0) (vs:=B6) Z Z Z Z bk Z be Z Z zI (zA Z) Z Z Z ?_))
 intro bt bR
 have bm:sW w U ba [.blk af 104 B6,.blk b6 104 B6,.blk b2 28 B0] bt:=bR
 refine oA Z Z (oA Z Z (eN (zU ?_)))
 cases bo
 exact ⟨rfl,_,(wCT (rs:=[.cell 6 104,.tmp 7,.tmp 8]) (vs:=[.agg B6.toArray,jV cE,.bool true]) ⟨⟨_,be,(wAy zi zI (bm.blkAt (k:=0) rfl) (vs:=B6) rfl rfl)⟩,⟨rfl,⟨rfl,trivial⟩⟩⟩ rfl),ba,_,(bm.pick [] _ (by decide) rfl),rfl,rfl⟩
theorem wEn (p0:wAC) (ao:Option Addr) (av:Nat) (ap:Option Addr) (aw:Nat) (aq:Option Addr) (ax:Nat) (au:Option Addr) (ay:Nat) (p1:wAI) (p2:wAI) (p3:List wAD) (aM:Option Addr) (aN:Nat) (w:World) (U:PHeap) (hS:St0 w U []) (bX:Sl U 1 ao av p0.Starts.length (hD KL.encI p0.Starts)) (bY:Sl U 2 ap aw p0.Splits.length (hD wAG p0.Splits)) (bZ:Sl U 3 aq ax p0.Clocks.length (hD wAA p0.Clocks)) (ca:Sl U 4 au ay p0.Readings.length (hD wAB p0.Readings)) (dR:Sl U 4 aM aN p3.length (hD wAQ p3)) {r:Int × Int} (hm:wBu p0 p1 p2 p3=some r):Gv Try.prog 41 [.agg #[.slice ao p0.Starts.length av,.slice ap p0.Splits.length aw,.slice aq p0.Clocks.length ax,.slice au p0.Readings.length ay],.agg #[jV p1.Skier,jV p1.Mat],.agg #[jV p2.Skier,jV p2.Mat],.slice aM p3.length aN] w (wCB w [] U (fun U_ L_ v=>v=.tuple #[jV r.1,jV r.2]/\L_=[])):=by
 unfold wBu at hm
 refine Gv.of Try.func41 Z Try.ntmps41 Try.results41 Z (sR gEp Z ?_)
 let B0:List Value:=[.slice ao p0.Starts.length av,.slice ap p0.Splits.length aw,.slice aq p0.Clocks.length ax,.slice au p0.Readings.length ay]
 refine zu (cs:=B0) rfl rfl rfl rfl rfl rfl (by rfl) hS ?_
 intro W1 b2 dM
 let B1:List Value:=[jV p1.Skier,jV p1.Mat]
 refine zu (cs:=B1) rfl rfl rfl rfl rfl rfl (by rfl) dM ?_
 intro W5 b6 dP
 let B2:List Value:=[jV p2.Skier,jV p2.Mat]
 refine zu (cs:=B2) rfl rfl rfl rfl rfl rfl (by rfl) dP ?_
 intro W9 af bS
 refine oA Z Z (oA Z Z (eN (sR (.fl 0 gDu) Z (oL Z (bS.ldBA (j:=2) Z Z Z ze zZ (vs:=B0) Z Z) (bnK hm fun fk cG dT=>zE 0 Z Z Z Z (zD Z Z Try.call68 (zB Z zK) Z) bS (fun hs=>wDt p0 ao av ap aw aq ax au ay W9 U hs bX bY bZ ca cG) (.inr Z) ?_)))))
 rintro bd eE eZ bC aR dD ⟨rfl,rfl⟩
 have a6:sW w U bd [.blk af 45 B2,.blk b6 45 B1,.blk b2 28 B0] bC:=dD
 refine oA Z Z (eN (zM (zc (sR fL3 Z (oM Z Z (oR Z (ZN Z Z Z) (oA Z Z (eN (ifc dT ?_ ?_)))))))))
 intro bm dU
 refine zn (zd (fun h=>h bm.out)) (sR (.fl 0 (.fl 1 (.fx 2 (wIS (.fx 7 (wJY (.nil)) .stop)) .stop))) Z (oL Z (a6.ldBA (j:=2) Z Z Z ze zZ (vs:=B0) Z Z) (oL Z (a6.ldBA (j:=1) Z Z Z ZW ZC (vs:=B1) Z Z) ?_)))
 have bI:=bX.le aR
 have bJ:=bY.le aR
 have bK:=bZ.le aR
 have bL:=ca.le aR
 refine bnK dU fun fm di eg=>zE 0 Z Z Z Z (zD Z Z Try.call84 (zB Z (zB Z zK)) Z) a6 (fun hs=>wCe p0 ao av ap aw aq ax au ay p1 bC bd hs bI bJ bK bL di) (.inr Z) ?_
 rintro bh eK fg bF aS dN ⟨rfl,rfl⟩
 have a7:sW w U bh [.blk af 45 B2,.blk b6 45 B1,.blk b2 28 B0] bF:=dN
 refine oR Z (ZT Z Z) (oM Z Z (ifc eg ?_ ?_))
 intro an eh
 refine zl Z Z Z (zF Z Z (nC an.out)) (a7.ldBA (j:=2) Z Z Z ze zZ (vs:=B0) Z Z) Z (zl Z Z Z (zF Z Z (nC an.out)) (a7.ldBA (j:=0) Z Z Z ZW ZC (vs:=B2) Z Z) Z ?_)
 have bM:=bI.le aS
 have bN:=bJ.le aS
 have bP:=bK.le aS
 have bQ:=bL.le aS
 refine bnK eh fun fq dk ej=>zE 0 Z Z Z (zF Z Z (nC an.out)) (zD Z Z Try.call84 (zB Z (zB Z zK)) Z) a7 (fun hs=>wCe p0 ao av ap aw aq ax au ay p2 bF bh hs bM bN bP bQ dk) (.inr Z) ?_
 rintro bi eL fh bG aT dO ⟨rfl,rfl⟩
 have br:sW w U bi [.blk af 45 B2,.blk b6 45 B1,.blk b2 28 B0] bG:=dO
 refine zY Z Z Z (zF Z Z (nC an.out)) (fun _=>ZT Z Z) (oR Z (zb Z (nC an.out) Z) (oA Z Z (eN (ifc ej ?_ ?_))))
 intro bo ek
 refine zn (nC bo.out) (Zl (ZH (zL (zM (sR gEj Z (oL Z (br.ldBA (j:=2) Z Z Z ze zZ (vs:=B0) Z Z) (oM Z Z ?_)))))))
 have aW:=bM.le aT
 have aX:=bN.le aT
 have aY:=bP.le aT
 have aZ:=bQ.le aT
 have dl:=dR.le aR
 have dm:=dl.le aS
 have a5:=dm.le aT
 refine bnK ek fun ft dn en=>zE 0 Z Z Z Z (zD Z Z Try.call69 (zB Z (zB Z zK)) Z) br (fun hs=>wEJ p0 ao av ap aw aq ax au ay p3 aM aN bG bi hs aW aX aY aZ a5 dn) (.inr Z) ?_
 rintro aO eM fj bj ag dQ ⟨rfl,rfl⟩
 have bW:sW w U aO [.blk af 45 B2,.blk b6 45 B1,.blk b2 28 B0] bj:=dQ
 refine oA Z Z (eN (sR fL2 Z (oM Z Z (oR Z (ZN Z Z Z) (eN (ifc en ?_ ?_))))))
 intro bp eo
 refine zn (zd (fun h=>h bp.out)) (kN ?_)
 have q:=bnd eo
 obtain ⟨⟨cc,cd,eA,cw⟩,ep,cb⟩:=q
 try dsimp only at cb
 let B3:List Value:=[jV cc,jV cd]
 refine yN (fun σ_ w_=>∃ (U_:PHeap) (aV:Nat),σ_ 6=.pointer (some ⟨af,0,none⟩)/\σ_ 12=.pointer (some ⟨aV,0,none⟩)/\σ_ 13=jV eA/\σ_ 14=.bool cw/\PHeap.Le aO U_/\sW w U U_ [.blk af 45 B2,.blk b6 45 B1,.blk b2 28 B0,.blk aV 104 B3] w_) ?_ ?_
 refine bnK ep fun bu bR dS=>?_
 have q:=bnd dS
 obtain ⟨⟨ak,bs,bt⟩,bq,a8⟩:=q
 try dsimp only at a8
 refine ZA ZB [1,1,2,3,2,3,3,3,3,2,0,3,3] (.fl 0 (.fl 1 (.fl 3 (.fx 2 (.fx 4 (wHI (.fx 9 gEf .stop)) (.fx 9 (.fx 4 (wHI gEf) (.stop)) (.stop))) (.fx 9 (.fx 2 (.fx 4 (wHI gEf) (.stop)) (.stop)) (.stop)))))) (by kernel_rfl) ?_
 have aP:=bW.drew
 generalize hw_W127:({ bj with drawn:=bj.drawn + 1 }:World)=cf at aP ⊢
 refine oL Z (aP.ldBA (j:=2) Z Z Z ze zZ (vs:=B0) Z Z) (oL Z (aP.ldBA (j:=1) Z Z Z ZW ZC (vs:=B1) Z Z) (oM Z Z (zk ?_ ?_)))
 refine zE 0 Z Z Z Z (zD Z Z yZ (zB Z zK) Z) aP (fun hs=>wBr p1 cf aO hs bR) (.inr Z) ?_
 rintro bb eB eX bB aj dp ⟨rfl,rfl⟩
 have bU:sW w U bb [.blk af 45 B2,.blk b6 45 B1,.blk b2 28 B0] bB:=dp
 refine zk ?_ ?_
 have cB:=aW.le ag
 have cC:=cB.le aj
 have cD:=aX.le ag
 have cE:=cD.le aj
 have cH:=aY.le ag
 have cI:=cH.le aj
 have cJ:=aZ.le ag
 have cK:=cJ.le aj
 have cL:=a5.le ag
 have cM:=cL.le aj
 refine zE 0 Z Z Z Z (zD Z Z Try.call71 (zB Z (zB Z (zB Z zK))) Z) bU (fun hs=>wCn p0 ao av ap aw aq ax au ay bu p3 aM aN bB bb hs cC cE cI cK cM bq) (.inr Z) ?_
 rintro bc eD eY cg er dq ⟨rfl,rfl⟩
 have dr:sW w U bc [.blk af 45 B2,.blk b6 45 B1,.blk b2 28 B0] cg:=dq
 refine oM Z Z (oR Z (zP Z Z (v:=.agg #[jV ak.skier,jV ak.mat]) Z) (oR Z (zP Z Z (v:=jV bs) Z) (oR Z (zP Z Z (v:=.bool bt) Z) (zT (cs:=[jV 0,jV 0]) Z Z Z Z Z za Z dr ?_))))
 intro eQ bH dt
 let B4:List Value:=[jV ak.skier,jV ak.mat]
 refine zV (j:=0) (vs:=B4) Z Z Z Z dt Z Z Z Z zI (zA Z) Z Z Z ?_
 intro ci du
 have dv:sW w U bc [.blk bH 104 B4,.blk af 45 B2,.blk b6 45 B1,.blk b2 28 B0] ci:=du
 refine oA Z Z (oA Z Z (zg ?_))
 cases a8
 exact zL ⟨rfl,⟨bc,bH,rfl,rfl,rfl,rfl,(aj.trans er),(dv.pick [1,2,3,0] _ (by decide) rfl)⟩⟩
 refine zT (cs:=[jV 0,jV 0]) Z Z Z Z Z za Z bU ?_
 intro cj bk dw
 have cN:=aW.le ag
 have cO:=cN.le aj
 have cP:=aX.le ag
 have cQ:=cP.le aj
 have cR:=aY.le ag
 have cS:=cR.le aj
 have cU:=aZ.le ag
 have cV:=cU.le aj
 have cW:=a5.le ag
 have cX:=cW.le aj
 refine zE 0 Z Z Z Z (zD Z Z Try.call71 (zB Z (zB Z (zB Z zK))) Z) dw (fun hs=>wCn p0 ao av ap aw aq ax au ay bu p3 aM aN cj bb hs cO cQ cS cV cX bq) (.inr Z) ?_
 rintro be eG fb cm eu dx ⟨rfl,rfl⟩
 have dz:sW w U be [.blk bk 104 [jV 0,jV 0],.blk af 45 B2,.blk b6 45 B1,.blk b2 28 B0] cm:=dx
 refine oM Z Z (oR Z (zP Z Z (v:=.agg #[jV ak.skier,jV ak.mat]) Z) (oR Z (zP Z Z (v:=jV bs) Z) (oR Z (zP Z Z (v:=.bool bt) Z) ?_)))
 let B5:List Value:=[jV ak.skier,jV ak.mat]
 refine zV (j:=0) (vs:=B5) Z Z Z Z dz Z Z Z Z zI (zA Z) Z Z Z ?_
 intro cn dA
 have dB:sW w U be [.blk bk 104 B5,.blk af 45 B2,.blk b6 45 B1,.blk b2 28 B0] cn:=dA
 refine oA Z Z (oA Z Z (zg ?_))
 cases a8
 exact zL ⟨rfl,⟨be,bk,rfl,rfl,rfl,rfl,(aj.trans eu),(dB.pick [1,2,3,0] _ (by decide) rfl)⟩⟩
 let B6:List Value:=[jV 0,jV 0]
 refine zT (cs:=B6) Z Z Z Z Z za Z aP ?_
 intro co aU dC
 refine zE 0 Z Z Z Z (zD Z Z yZ (zB Z zK) Z) dC (fun hs=>wBr p1 co aO hs bR) (.inr Z) ?_
 rintro bz eH fc bD aL dE ⟨rfl,rfl⟩
 have dF:sW w U bz [.blk aU 104 B6,.blk af 45 B2,.blk b6 45 B1,.blk b2 28 B0] bD:=dE
 have cY:=aW.le ag
 have cZ:=cY.le aL
 have c6:=aX.le ag
 have c8:=c6.le aL
 have da:=aY.le ag
 have db:=da.le aL
 have dd:=aZ.le ag
 have de:=dd.le aL
 have df:=a5.le ag
 have dg:=df.le aL
 refine zE 0 Z Z Z Z (zD Z Z Try.call71 (zB Z (zB Z (zB Z zK))) Z) dF (fun hs=>wCn p0 ao av ap aw aq ax au ay bu p3 aM aN bD bz hs cZ c8 db de dg bq) (.inr Z) ?_
 rintro bf eI fd cp ew dG ⟨rfl,rfl⟩
 have dH:sW w U bf [.blk aU 104 B6,.blk af 45 B2,.blk b6 45 B1,.blk b2 28 B0] cp:=dG
 refine oM Z Z (oR Z (zP Z Z (v:=.agg #[jV ak.skier,jV ak.mat]) Z) (oR Z (zP Z Z (v:=jV bs) Z) (oR Z (zP Z Z (v:=.bool bt) Z) ?_)))
 let B7:List Value:=[jV ak.skier,jV ak.mat]
 refine zV (j:=0) (vs:=B7) Z Z Z Z dH Z Z Z Z zI (zA Z) Z Z Z ?_
 intro cq dI
 have dJ:sW w U bf [.blk aU 104 B7,.blk af 45 B2,.blk b6 45 B1,.blk b2 28 B0] cq:=dI
 refine oA Z Z (oA Z Z (zg ?_))
 cases a8
 exact zL ⟨rfl,⟨bf,aU,rfl,rfl,rfl,rfl,(aL.trans ew),(dJ.pick [1,2,3,0] _ (by decide) rfl)⟩⟩
 rintro fu bE ⟨bA,aV,cx,cy,cz,cA,eV,dK⟩
 refine zM (zM (ZA ZB [3,3,3,1,1,2,3,3] (wGL gEc) (by kernel_rfl) ?_))
 have aQ:=dK.drew
 generalize hw_W253:({ bE with drawn:=bE.drawn + 1 }:World)=cr at aQ ⊢
 refine oM Z cA (oR Z (ZT Z Z) (oM Z Z (ifc cb ?_ ?_)))
 intro am dV
 refine zl Z Z Z (zF Z Z (nC am.out)) (aQ.ldBA (j:=3) Z Z cy zi zI (vs:=B3) Z Z) Z (zl Z Z Z (zF Z Z (nC am.out)) (aQ.ldBA (j:=0) Z Z cx ZW ZC (vs:=B2) Z Z) Z (bnK dV fun ey dh dW=>zE 0 Z Z Z (zF Z Z (nC am.out)) (zD Z Z yZ (zB Z zK) Z) aQ (fun hs=>wBr p2 cr bA hs dh) (.inr Z) ?_))
 rintro bg eJ ff ct eW dL ⟨rfl,rfl⟩
 have bV:sW w U bg [.blk af 45 B2,.blk b6 45 B1,.blk b2 28 B0,.blk aV 104 B3] ct:=dL
 refine zY Z Z Z (zF Z Z (nC am.out)) (fun _=>ZS (Runs.neS (enc:=wBZ) (a:=(⟨cc,cd⟩:wAH)) (b:=ey) Z Z Z wJK wJJ) (congrArg hH (decide_not).symm)) (oR Z (zb Z (nC am.out) Z) (eN (ifc dW ?_ ?_)))
 intro bn dX
 refine zn (zd (fun h=>h bn.out)) (kN (sR fL3 Z (oM Z cz (oA Z Z (oA Z Z (eN (zU ?_)))))))
 cases dX
 exact ⟨rfl,_,(wDv rfl rfl),bg,_,(bV.pick [] _ (by decide) rfl),rfl,rfl⟩
 intro bn dY
 refine cT Z bn (sR fL2 Z (oA Z Z (oA Z Z (eN (zU (zN ?_))))))
 cases dY
 exact ⟨rfl,_,(wDv rfl rfl),bg,_,(bV.pick [] _ (by decide) rfl),rfl,rfl⟩
 intro am dZ
 refine zt Z Z Z (zO Z Z (nF (am.out)) Z) (zt Z Z Z (zO Z Z (nF (am.out)) Z) (ZG Z Z Z (zO Z Z (nF (am.out)) Z) (zt Z Z Z (zO Z Z (nF (am.out)) Z) (oR Z (zR Z (nF (am.out)) Z) (eN (ZD Z (sR fL2 Z (oA Z Z (oA Z Z (eN (zU (zN ?_))))))))))))
 cases dZ
 exact ⟨rfl,_,(wDv rfl rfl),bA,_,(aQ.pick [] _ (by decide) rfl),rfl,rfl⟩
 intro bp d7
 refine cT Z bp (sR fL3 Z (oM Z Z (oA Z Z (oA Z Z (eN (zU (zN ?_)))))))
 cases d7
 exact ⟨rfl,_,(wDv rfl rfl),aO,_,(bW.pick [] _ (by decide) rfl),rfl,rfl⟩
 intro bo d9
 refine ZD (nF (bo.out)) (sR fL2 Z (oA Z Z (oA Z Z (eN (zU (zX (zN ?_)))))))
 cases d9
 exact ⟨rfl,_,(wDv rfl rfl),bi,_,(br.pick [] _ (by decide) rfl),rfl,rfl⟩
 intro an ec
 refine zt Z Z Z (zO Z Z (nF (an.out)) Z) (zt Z Z Z (zO Z Z (nF (an.out)) Z) (ZG Z Z Z (zO Z Z (nF (an.out)) Z) (zt Z Z Z (zO Z Z (nF (an.out)) Z) (oR Z (zR Z (nF (an.out)) Z) (oA Z Z (eN (ZD Z (sR fL2 Z (oA Z Z (oA Z Z (eN (zU (zX (zN ?_))))))))))))))
 cases ec
 exact ⟨rfl,_,(wDv rfl rfl),bh,_,(a7.pick [] _ (by decide) rfl),rfl,rfl⟩
 intro bm ef
 refine cT Z bm (sR fL3 Z (oM Z Z (oA Z Z (oA Z Z (eN (zU (zX (zN ?_))))))))
 cases ef
 exact ⟨rfl,_,(wDv rfl rfl),bd,_,(a6.pick [] _ (by decide) rfl),rfl,rfl⟩
theorem wBc  (w:World) (U:PHeap) (hS:St0 w U [])  {r:wAC} (hm:wBA =some r):Gv Try.prog 52 [] w (wCB w [] U (fun U_ L_ v=>∃ (ap:Option Addr) (aK:Nat) (aq:Option Addr) (aL:Nat) (au:Option Addr) (aM:Nat) (av:Option Addr) (aN:Nat),v=.agg #[.slice ap r.Starts.length aK,.slice aq r.Splits.length aL,.slice au r.Clocks.length aM,.slice av r.Readings.length aN]/\L_=[.row ap aK 3 1 (hD KL.encI r.Starts),.row aq aL 41 2 (hD wAG r.Splits),.row au aM 43 3 (hD wAA r.Clocks),.row av aN 39 4 (hD wAB r.Readings)])):=by
 unfold wBA at hm
 refine Gv.of Try.func52 Z Try.ntmps52 Try.results52 Z (sR (.fx 0 .nil .stop) Z ?_)
 let B0:List Value:=[.slice none 0 0,.slice none 0 0,.slice none 0 0,.slice none 0 0]
 refine zT (cs:=B0) Z Z Z Z Z yp Z hS ?_
 intro W1 b2 a6
 refine eN (sR (.fx 0 (.fl 1 (.fl 2 (.fx 3 (.fl 4 (.fl 5 (.fx 6 (fC7_9 (.fx 10 (.fl 11 (.fx 12 .nil .stop)) .stop)) .stop))) .stop))) .stop) Z (ZE (pv:=[(0,jV 0),(1,jV 300)]) (zs:=[jV 0,jV 0]) (cs:=[jV 0,jV 300]) Z Z Z Z Z (wAF Z (wAF Z wAO)) zH zC zw Z Z Z Z Z a6 ?_))
 intro W5 b6 a7
 let B1:Res:=.row (some ⟨b6,0,none⟩) 2 3 1 (hD KL.encI [0,300])
 have a8:sW w U U [B1,.blk b2 28 B0] W5:=a7
 let B2:List Value:=[jV 0,jV 0]
 refine oR Z (zo (pv:=[(0,jV 1000),(1,jV 1200)]) (z:=B2) (cs:=[jV 1000,jV 1200]) Z (wAF Z (wAF Z wAO)) ZJ wBo Z Z) (oR Z (zo (pv:=[(0,jV 900),(1,jV 1500)]) (z:=B2) (cs:=[jV 900,jV 1500]) Z (wAF Z (wAF Z wAO)) ZJ wBo Z Z) (ZE (pv:=[(0,.agg #[jV 1000,jV 1200]),(1,.agg #[jV 900,jV 1500])]) (zs:=[jV 0,jV 0,jV 0,jV 0]) (cs:=[jV 1000,jV 1200,jV 900,jV 1500]) Z Z Z Z Z (wAF Z (wAF Z wAO)) ZQ zj ZJ Z Z Z Z Z a8 ?_))
 intro aP ag aU
 let B3:Res:=.row (some ⟨ag,0,none⟩) 2 41 2 (hD wAG [(⟨1000,1200⟩:wAJ),(⟨900,1500⟩:wAJ)])
 have aV:sW w U U [B3,B1,.blk b2 28 B0] aP:=aU
 refine oR Z (zo (pv:=[(0,jV (-5)),(1,jV 5)]) (z:=B2) (cs:=[jV (-5),jV 5]) Z (wAF Z (wAF Z wAO)) ZJ wBo Z Z) ?_
 let B4:List Value:=[jV (-5),jV 5,jV 1]
 let B5:List Value:=[jV 0,jV 0,jV 0]
 refine oR Z (zo (pv:=[(0,.agg #[jV (-5),jV 5]),(1,jV 1)]) (z:=B5) (cs:=B4) Z (wAF Z (wAF Z wAO)) yd wJH Z Z) (ZE (pv:=[(0,.agg B4.toArray)]) (zs:=B5) (cs:=B4) Z Z Z Z Z (wAF Z wAO) ZR Zw yd Z Z Z Z Z aV ?_)
 intro aQ ah aW
 let B6:Res:=.row (some ⟨ah,0,none⟩) 1 43 3 (hD wAA [(⟨(⟨-5,5⟩:wAJ),1⟩:wAM)])
 have aX:sW w U U [B6,B3,B1,.blk b2 28 B0] aQ:=aW
 let B7:List Value:=[jV 0,jV 0,jV 0,jV 0]
 let B8:List Value:=[jV 0,jV 2,jV 0,jV 2250]
 refine oR Z (zo (pv:=[(1,jV 2),(3,jV 2250)]) (z:=B7) (cs:=B8) Z (wAF Z (wAF Z wAO)) Zp wEl Z Z) ?_
 let B9:List Value:=[jV 1,jV 1,jV 0,jV 1400]
 refine oR Z (zo (pv:=[(0,jV 1),(1,jV 1),(3,jV 1400)]) (z:=B7) (cs:=B9) Z (wAF Z (wAF Z (wAF Z wAO))) Zp wEl Z Z) ?_
 let aw:List Value:=[jV 1,jV 2,jV 0,jV 2499]
 refine oR Z (zo (pv:=[(0,jV 1),(1,jV 2),(3,jV 2499)]) (z:=B7) (cs:=aw) Z (wAF Z (wAF Z (wAF Z wAO))) Zp wEl Z Z) (ZE (pv:=[(0,.agg B8.toArray),(1,.agg B9.toArray),(2,.agg aw.toArray)]) (zs:=[jV 0,jV 0,jV 0,jV 0,jV 0,jV 0,jV 0,jV 0,jV 0,jV 0,jV 0,jV 0]) (cs:=[jV 0,jV 2,jV 0,jV 2250,jV 1,jV 1,jV 0,jV 1400,jV 1,jV 2,jV 0,jV 2499]) Z Z Z Z Z (wAF Z (wAF Z (wAF Z wAO))) ZX Ze Zp Z Z Z Z Z aX ?_)
 intro aR ai aY
 let ax:Res:=.row (some ⟨ai,0,none⟩) 3 39 4 (hD wAB [(⟨0,2,0,2250⟩:wAL),(⟨1,1,0,1400⟩:wAL),(⟨1,2,0,2499⟩:wAL)])
 have aZ:sW w U U [ax,B6,B3,B1,.blk b2 28 B0] aR:=aY
 let ac:List Value:=[.slice (some ⟨b6,0,none⟩) 2 2,.slice (some ⟨ag,0,none⟩) 2 2,.slice (some ⟨ah,0,none⟩) 1 1,.slice (some ⟨ai,0,none⟩) 3 3]
 refine oR Z (zo (pv:=[(0,.slice (some ⟨b6,0,none⟩) 2 2),(1,.slice (some ⟨ag,0,none⟩) 2 2),(2,.slice (some ⟨ah,0,none⟩) 1 1),(3,.slice (some ⟨ai,0,none⟩) 3 3)]) (z:=B0) (cs:=ac) Z (wAF Z (wAF Z (wAF Z (wAF Z wAO)))) yp wKl Z Z) (zV (j:=4) (vs:=ac) Z Z Z Z aZ Z Z Z Z zZ (zA Z) Z Z Z ?_)
 intro aS a5
 have aO:sW w U U [ax,B6,B3,B1,.blk b2 28 ac] aS:=a5
 refine eN (zU ?_)
 cases hm
 exact ⟨rfl,_,(wGl (v:=.agg ac.toArray) ⟨⟨_,rfl,(wAy ze zZ (aO.blkAt (k:=4) rfl) (vs:=ac) rfl rfl)⟩,trivial⟩),U,_,(aO.pick [3,2,1,0] _ (by decide) rfl),(some ⟨b6,0,none⟩),2,(some ⟨ag,0,none⟩),2,(some ⟨ah,0,none⟩),1,(some ⟨ai,0,none⟩),3,rfl,rfl⟩
end Go.Proofs.Ytlnfbjphfoipaaa
