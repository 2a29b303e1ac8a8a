import Derived.Test.YtlnfbjphfoipaaaGreatT7
import Derived.Test.YtlnfbjphfoipaaaGreatT6
import Derived.Test.YtlnfbjphfoipaaaGreatT8
set_option linter.all false
open List renaming flatMap->hH,set->nE,getElem_cons_succ->nH,getElem_cons_zero->nI,getElem_toArray->nJ,length_set->nK,length_append->nO
open Option.some renaming inj->nA
open Go.Value renaming bool->nB,slice->nG
open Bool renaming eq_false_iff->nD
open Int renaming toNat_natCast->nL
open Eq renaming trans->nM
open Nat renaming lt_of_lt_of_eq->nN
namespace Go.Proofs.YtlnfbjphfoipaaaGreat
open Go.KL
def gDa:Sch:=.fx 3 (.fl 4 .nil) .stop
def gDb:Sch:=.fx 0 (.fl 1 .nil) .stop
def gDc:Sch:=.fx 1 (.fl 2 .nil) .stop
def gDd:Sch:=.fl 0 gDc
def gDe:Sch:=.fl 11 (.fl 12 (.fx 13 .nil .stop))
def gDf:Sch:=.fx 6 (.fx 7 (.fl 8 (.fl 9 .nil)) .stop) .stop
def gDg:Sch:=.fx 10 gDe .stop
def gDh:Sch:=.fl 0 (.fl 1 (.fx 2 gDa .stop))
def gDi:Sch:=.fx 9 gDg .stop
def gDj:Sch:=.fx 8 gDg .stop
def gDk:Sch:=.fx 7 gDg .stop
def gDl:Sch:=.fx 5 gDk .stop
def gDm:Sch:=.fx 7 gDi (.fx 9 gDk .stop)
def gDn:Sch:=.fx 7 gDj (.fx 8 gDk .stop)
def gDo:Sch:=.fx 3 gDl .stop
def gDp:Sch:=.fx 5 gDm (.fx 9 gDl .stop)
def gDq:Sch:=.fx 5 gDn (.fx 8 gDl .stop)
def gDr:Sch:=.fx 1 gDo .stop
def gDs:Sch:=.fx 3 gDp (.fx 9 gDo .stop)
def gDt:Sch:=.fx 3 gDq (.fx 8 gDo .stop)
set_option maxHeartbeats 4000000
theorem wGs (p0:wBT) (ap:Nat) (az:Option Addr) (aU:Nat) (aS:Option Addr) (aV:Nat) (aT:Option Addr) (aW:Nat) (bg:Option Addr) (bj:Nat) (ab:Nat) (ae:Array MapEntry) (ah:Nat) (bh:Option Addr) (bk:Nat) (p1:List Int) (bi:Option Addr) (bm:Nat) (w:World) (U:PHeap) (hS:St0 w U [.blk ap 139 [.slice az p0.Race.Starts.length aU,.slice aS p0.Race.Splits.length aV,.slice aT p0.Race.Clocks.length aW,.slice bg p0.Race.Readings.length bj,.map (some ab),.slice bh p0.edges.length bk],.obj ab (.map ae ah)]) (gh:Sl U 1 az aU p0.Race.Starts.length (hH KL.encI p0.Race.Starts)) (gi:Sl U 2 aS aV p0.Race.Splits.length (hH wAB p0.Race.Splits)) (gj:Sl U 3 aT aW p0.Race.Clocks.length (hH wAD p0.Race.Clocks)) (gk:Sl U 4 bg bj p0.Race.Readings.length (hH wAC p0.Race.Readings)) (cQ:MpR ae wBf wBo p0.number) (gm:Sl U 7 bh bk p0.edges.length (hH wAS p0.edges)) (bK:Sl U 1 bi bm p1.length (hH KL.encI p1)) {r:(List (List Int)) × (List Int)} (hm:wCa p0 p1=some r):Gv Tryz.prog 75 [.pointer (some ⟨ap,0,none⟩),.slice bi p1.length bm] w (wCs w [.blk ap 139 [.slice az p0.Race.Starts.length aU,.slice aS p0.Race.Splits.length aV,.slice aT p0.Race.Clocks.length aW,.slice bg p0.Race.Readings.length bj,.map (some ab),.slice bh p0.edges.length bk],.obj ab (.map ae ah)] U (fun U_ L_ v=>∃ (A0:Option Addr) (c0:Nat) (ct:List Value) (A1:Option Addr) (c1:Nat),v=.tuple #[.slice A0 r.1.length c0,.slice A1 r.2.length c1]/\L_=[.row A0 c0 22 1 ct,.row A1 c1 3 1 (hH KL.encI r.2),.blk ap 139 [.slice az p0.Race.Starts.length aU,.slice aS p0.Race.Splits.length aV,.slice aT p0.Race.Clocks.length aW,.slice bg p0.Race.Readings.length bj,.map (some ab),.slice bh p0.edges.length bk],.obj ab (.map ae ah)]/\RlL U_ wEx r.1 ct)):=by
 unfold wCa at hm
 refine Gv.of Tryz.func75 Z Tryz.ntmps75 Tryz.results75 Z (sR fL2 Z (oA Z Z (oA Z Z (eN (sR fL4 Z (oM Z Z (bnK hm fun x3 h4 fD=>?_)))))))
 have q:=bK.el (fun _=>rfl) (wAP h4)
 obtain ⟨b6,gt,eF,eI⟩:=q
 refine oR Z (ZJ Z Z eF Z zB zD (wBa h4)) (oL Z (hS.ldC (f:=0) eI (v:=jV x3) Z Z zG Z) (oA Z Z (eN (sR fL1 Z (oA Z Z (eN (zK (sR fL7 Z (oM Z Z (oR Z (yE Z Z) (oR Z (zF Z Z ZK Z zr) (oR Z (zF Z Z zQ Z zX) (oL Z (hS.ldB (j:=0) Z Z Z zY (v:=.slice az p0.Race.Starts.length aU) Z) (oR Z (zf Z Z zB) (oM Z Z (eN (zd (bnK fD fun fQ fd fC=>?_))))))))))))))))))
 have q:=wCl fd
 obtain ⟨bP,ff⟩:=q
 replace bP:=zL bP
 let B0:Res:=.blk ap 139 [.slice az p0.Race.Starts.length aU,.slice aS p0.Race.Splits.length aV,.slice aT p0.Race.Clocks.length aW,.slice bg p0.Race.Readings.length bj,.map (some ab),.slice bh p0.edges.length bk]
 refine CK.forN' (fun ak be σ_ w_=>∃ (U_:PHeap) (aZ:Option Addr) (bb:Nat) (bu:List Value),σ_ 22=jV (↑ak:Int)/\σ_ 0=.pointer (some ⟨ap,0,none⟩)/\σ_ 1=.slice bi p1.length bm/\σ_ 6=jV x3/\σ_ 7=.slice aZ be.length bb/\σ_ 21=jV (↑p0.Race.Starts.length:Int)/\PHeap.Le U U_/\SW w [B0,.obj ab (.map ae ah)] U U_ [B0,.obj ab (.map ae ah),.row aZ bb 22 1 bu] w_/\RlL U_ wEx be bu) ff ?_ ?_ ?_
 have e8:=hS.nilrow 22 1
 exact ⟨U,none,0,[],rfl,rfl,rfl,rfl,rfl,rfl,(zM _),(e8.pick [1,2,0] _ (by decide) rfl),RlL.nil⟩
 rintro ak be gw gD fV bM ⟨b9,aZ,bb,bu,bE,cD,dS,dT,dU,cE,cX,cP,eC⟩ fK
 have cr:Hid ((↑ak:Int) < (↑p0.Race.Starts.length:Int)):=zL (wBR bM)
 replace bM:=zL bM
 have fq:Hid (w64 ((↑ak:Int) + 1)=(↑(ak + 1):Int)):=zL (by have h1:=bP.out;have h2:=cr.out;rw [wAU] <;> omega)
 refine sR fL1 Z (oR Z (zg Z bE cE) (eN (zK (cT Z cr (kN (zK (zd (sR fL2 Z (oM Z bE (oA Z Z (eN (sR fL1 Z (oA Z Z (eN (zK (sR fL8 Z (oM Z cD (oR Z (yE Z Z) (oR Z (zF Z Z ZK Z zr) (oR Z (zF Z Z zQ Z ZX) (oL Z (cP.ldB (j:=0) Z Z Z Za (v:=.slice aS p0.Race.Splits.length aV) Z) (oR Z (zf Z Z zw) (oR Z (zi Z Z Z) (oM Z Z (eN (zd (bnK fK fun au fg fE=>?_)))))))))))))))))))))))))))
 have q:=wCl fg
 obtain ⟨bQ,fh⟩:=q
 replace bQ:=zL bQ
 let B1:Res:=.row aZ bb 22 1 bu
 refine CK.forN' (fun am bf σ_ w_=>∃ (U_:PHeap) (bo:Option Addr) (bt:Nat),σ_ 32=jV (↑am:Int)/\σ_ 0=.pointer (some ⟨ap,0,none⟩)/\σ_ 1=.slice bi p1.length bm/\σ_ 6=jV x3/\σ_ 7=.slice aZ be.length bb/\σ_ 8=jV (↑ak:Int)/\σ_ 9=.slice bo bf.length bt/\σ_ 21=jV (↑p0.Race.Starts.length:Int)/\σ_ 22=jV (↑ak:Int)/\σ_ 31=jV (w64 ((↑p0.Race.Splits.length:Int) + 1))/\PHeap.Le b9 U_/\SW w [B0,.obj ab (.map ae ah)] U U_ [B0,.obj ab (.map ae ah),B1,.row bo bt 3 1 (hH KL.encI bf)] w_) fh ?_ ?_ ?_
 have e9:=cP.nilrow 3 1
 exact ⟨b9,none,0,rfl,cD,dS,dT,dU,rfl,rfl,cE,bE,rfl,(zM _),(e9.pick [1,2,3,0] _ (by decide) rfl)⟩
 rintro am bf gx gE fW bN ⟨bA,bo,bt,bF,cG,cH,cI,dV,cJ,dW,dX,dY,cw,cY,bv⟩ fL
 have cg:Hid ((↑am:Int) < (w64 ((↑p0.Race.Splits.length:Int) + 1))):=zL (wBR bN)
 replace bN:=zL bN
 have fj:Hid (w64 ((↑am:Int) + 1)=(↑(am + 1):Int)):=zL (by have h1:=bQ.out;have h2:=cg.out;rw [wAU] <;> omega)
 refine sR fL1 Z (oR Z (zg Z bF cw) (eN (zK (cT Z cg (kN (zK (zd (sR fL2 Z (oM Z bF (oA Z Z (eN (rR (wTv (.fx 14 (.fx 15 (.fl 16 .nil) .stop) .stop)) Z (oM Z dW (oM Z cH (oM Z cG (oR Z (yE Z Z) (oR Z (zF Z Z ZK Z yP) (oL Z (bv.ldB (j:=0) Z Z Z yX (v:=.map (some ab)) Z) (oM Z cJ (oM Z Z (oR Z (ZP (pv:=[(0,jV (↑ak:Int)),(1,jV (↑am:Int))]) (z:=[jV 0,jV 0]) (cs:=[jV (↑ak:Int),jV (↑am:Int)]) Z (wAI Z (wAI Z wAY)) ze wBp Z Z) (oL Z (bv.lookup1 (j:=1) (mk:=wBf) (mv:=wBo) (a:=(⟨(↑ak:Int),(↑am:Int)⟩:wAE)) (z:=0) Z Z Z Z (wCO ZR) wEV Zj cQ) (bnK fL fun aX bG ft=>?_)))))))))))))))))))))))
 have d6:=bK.le cX
 have d7:=d6.le cY
 have q:=d7.el (fun _=>rfl) (wAP bG)
 obtain ⟨fY,gp,eD,eG⟩:=q
 refine oR Z (zz Z Z eD Z zB zD (wBG bG) (wBI bG)) (oL Z (bv.ldC (f:=0) eG (v:=jV aX) Z Z zG Z) (oM Z cI (oR Z (yg Z Z Z) (Zg (pv:=[(0,jV (w64 (aX - x3)))]) (zs:=[jV 0]) (cs:=[jV (w64 (aX - x3))]) Z Z Z Z Z (wAI Z wAY) zB zD Zj Z Z Z Z Z bv ?_))))
 intro dg du eJ
 let B2:Res:=.row (some ⟨du,0,none⟩) 1 3 1 (hH KL.encI [w64 (aX - x3)])
 have cL:SW w [B0,.obj ab (.map ae ah)] U bA [B2,B0,.obj ab (.map ae ah),B1,.row bo bt 3 1 (hH KL.encI bf)] dg:=eJ
 refine bnK ft fun cZ d8 fu=>yW (j:=4) (enc:=KL.encI) (xs:=bf) (ys:=[w64 (aX - x3)]) (zs:=cZ) rfl rfl rfl rfl rfl Tryz.underlying22 wOi rfl rfl rfl rfl rfl rfl cL rfl rfl rfl (cL.srcR (j:=0) rfl (by decide) (wAJ (f:=KL.encI) (sz:=1) (fun _=>rfl) [w64 (aX - x3)])) (fun _=>rfl) (fun _=>rfl) d8 rfl ?_
 intro bT cj dh eK
 have eL:SW w [B0,.obj ab (.map ae ah)] U bA [B2,B0,.obj ab (.map ae ah),B1,.row bT cj 3 1 (hH KL.encI cZ)] dh:=eK
 refine oA Z Z (zo (zt (zH (rR fL2 Z (oR Z (ZT (zi Z bF Z) (congrArg (jV) fj.out)) (oM Z Z (zo ?_)))))))
 cases fu
 exact zH ⟨rfl,⟨bA,bT,cj,rfl,cG,cH,cI,dV,cJ,rfl,dX,dY,cw,cY,(eL.pick [1,2,3,4] _ (by decide) rfl)⟩⟩
 rintro gz dk ⟨fS,bw,bB,dZ,dB,dC,dD,dE,gb,dF,dG,dH,dI,cS,eM⟩
 have dx:Hid (¬ ((↑((w64 ((↑p0.Race.Splits.length:Int) + 1):Int) - 0).toNat:Int) < (w64 ((↑p0.Race.Splits.length:Int) + 1)))):=zL (wAs)
 refine sR fL1 Z (oR Z (zg Z dZ dI) (eN (zK (cF Z dx (ZU (zk (zk (ZM (zH (rR gDh Z (oM Z dE (oM Z dF ?_))))))))))))
 have q:=eM.freezeR (k:=3) (n:=au.length) rfl (wAJ (f:=KL.encI) (sz:=1) (fun _=>rfl) au) (by decide)
 obtain ⟨ba,cU,fH,eP⟩:=q
 have eQ:SW w [B0,.obj ab (.map ae ah)] U ba [B0,.obj ab (.map ae ah),B1] dk:=eP
 let B3:List Value:=[.slice bw au.length bB]
 refine Zg (pv:=[(0,.slice bw au.length bB)]) (zs:=[.slice none 0 0]) (cs:=B3) Z Z Z Z Z (wAI Z wAY) zV zX Tryz.zeroValue22 Z Z Z Z Z eQ ?_
 intro dl dv eO
 have cR:RlL ba wEx [au] B3:=(RlL.cons (R:=wEx) (x:=au) (vs:=B3) ⟨bw,bB,rfl,fH⟩ RlL.nil)
 let B4:Res:=.row (some ⟨dv,0,none⟩) 1 22 1 B3
 have cM:SW w [B0,.obj ab (.map ae ah)] U ba [B4,B0,.obj ab (.map ae ah),B1] dl:=eO
 refine bnK fE fun fO d9 fw=>?_
 have ec:=eC.le cS
 have ef:=ec.le cU
 refine OKS.appendR (R:=wEx) (j:=3) (xs:=be) (ys:=[au]) (zs:=fO) rfl rfl rfl rfl rfl Tryz.underlying49 wOj rfl rfl rfl rfl rfl rfl rfl cM rfl rfl rfl ef cR (cM.srcR (j:=0) rfl (by decide) (RlL.len cR)) d9 rfl ?_
 intro bU cm cu dm eR fG
 have eS:SW w [B0,.obj ab (.map ae ah)] U ba [B4,B0,.obj ab (.map ae ah),.row bU cm 22 1 cu] dm:=eR
 refine oA Z Z (zo (zt (zH (rR fL2 Z (oR Z (ZT (zi Z dH Z) (congrArg (jV) fq.out)) (oM Z Z (zo ?_)))))))
 cases fw
 exact zH ⟨rfl,⟨ba,bU,cm,cu,rfl,dB,dC,dD,rfl,dG,((cX.trans cS).trans cU),(eS.pick [1,2,3] _ (by decide) rfl),fG⟩⟩
 rintro gA fT ⟨b5,bz,bC,cn,d4,cx,dJ,dK,dL,dM,fM,cN,eg⟩
 have dy:Hid (¬ ((↑(((↑p0.Race.Starts.length:Int):Int) - 0).toNat:Int) < (↑p0.Race.Starts.length:Int))):=zL (wAs)
 refine sR fL1 Z (oR Z (zg Z d4 dM) (eN (zK (cF Z dy (ZU (zk (zk (ZM (zH (sR fL1 Z (oA Z Z (eN (zK (sR fL7 Z (oM Z cx (oR Z (yE Z Z) (oR Z (zF Z Z ZK Z zr) (oR Z (zF Z Z zQ Z Zt) (oL Z (cN.ldB (j:=0) Z Z Z Zy (v:=.slice aT p0.Race.Clocks.length aW) Z) (oR Z (zf Z Z ZL) (oM Z Z (eN (zd (bnK fC fun gy fb fy=>?_))))))))))))))))))))))))
 have q:=wCl fb
 obtain ⟨bO,fc⟩:=q
 replace bO:=zL bO
 let B5:Res:=.row bz bC 22 1 cn
 refine CK.forN' (fun av bd σ_ w_=>∃ (U_:PHeap) (bn:Option Addr) (bs:Nat),σ_ 63=jV (↑av:Int)/\σ_ 0=.pointer (some ⟨ap,0,none⟩)/\σ_ 1=.slice bi p1.length bm/\σ_ 6=jV x3/\σ_ 7=.slice bz fQ.length bC/\σ_ 11=.slice bn bd.length bs/\σ_ 62=jV (↑p0.Race.Clocks.length:Int)/\PHeap.Le b5 U_/\SW w [B0,.obj ab (.map ae ah)] U U_ [B0,.obj ab (.map ae ah),B5,.row bn bs 3 1 (hH KL.encI bd)] w_) fc ?_ ?_ ?_
 have eT:=cN.nilrow 3 1
 exact ⟨b5,none,0,rfl,cx,dJ,dK,dL,rfl,rfl,(zM _),(eT.pick [1,2,3,0] _ (by decide) rfl)⟩
 rintro av bd gv gB cb bL ⟨de,bn,bs,bD,cy,cz,cA,dN,dO,cC,cV,eU⟩ fJ
 have cp:Hid ((↑av:Int) < (↑p0.Race.Clocks.length:Int)):=zL (wBR bL)
 replace bL:=zL bL
 have fm:Hid (w64 ((↑av:Int) + 1)=(↑(av + 1):Int)):=zL (by have h1:=bO.out;have h2:=cp.out;rw [wAU] <;> omega)
 refine sR fL1 rfl (zm rfl rfl rfl rfl (fun _=>zg rfl bD cC) (eN (zK (cT Z cp (kN (zK (zd (sR fL2 rfl (ZA rfl rfl rfl rfl rfl bD (yk rfl rfl rfl rfl rfl rfl (eN (zy zu [3,3,3,3,3,3,1,3,2,1,3,1,3,2,0,3] (wTt (.fx 8 (wUJ (.fx 13 (.fx 14 (.fl 15 .nil) .stop) .stop)) .stop)) (by kernel_rfl) ?_))))))))))))
 have bI:=eU.drew
 generalize hw_W242:({ cb with drawn:=cb.drawn + 1 }:World)=dp at bI ⊢
 refine oM Z dO (oM Z cA (oM Z cz (oM Z cy (oR Z (yE Z Z) (oR Z (zF Z Z ZK Z yP) (oL Z (bI.ldB (j:=0) Z Z Z yX (v:=.map (some ab)) Z) (oM Z Z (bnK fJ fun fP eh fz=>zI 0 Z Z Z Z (zJ Z Z Tryz.call70 (zC Z zP) Z) bI (fun hs=>wCj (↑av:Int) dp de hs eh) (.inr Z) ?_))))))))
 rintro br fR gu dq cW eV ⟨rfl,rfl⟩
 let B6:Res:=.row bn bs 3 1 (hH KL.encI bd)
 have bJ:SW w [B0,.obj ab (.map ae ah)] U br [B0,.obj ab (.map ae ah),B5,B6] dq:=eV
 refine oL Z (bJ.lookup1 (j:=1) (mk:=wBf) (mv:=wBo) (a:=fP) (z:=0) Z Z Z Z (wCO ZR) wEV Zj cQ) (bnK fz fun aY bH fA=>?_)
 have ej:=bK.le fM
 have en:=ej.le cV
 have eu:=en.le cW
 have q:=eu.el (fun _=>rfl) (wAP bH)
 obtain ⟨fZ,gq,eE,eH⟩:=q
 refine oR Z (zz Z Z eE Z zB zD (wBG bH) (wBI bH)) (oL Z (bJ.ldC (f:=0) eH (v:=jV aY) Z Z zG Z) (oR Z (yg Z Z Z) (Zg (pv:=[(0,jV (w64 (x3 - aY)))]) (zs:=[jV 0]) (cs:=[jV (w64 (x3 - aY))]) Z Z Z Z Z (wAI Z wAY) zB zD Zj Z Z Z Z Z bJ ?_)))
 intro dr dw eW
 let B7:Res:=.row (some ⟨dw,0,none⟩) 1 3 1 (hH KL.encI [w64 (x3 - aY)])
 have cO:SW w [B0,.obj ab (.map ae ah)] U br [B7,B0,.obj ab (.map ae ah),B5,B6] dr:=eW
 refine bnK fA fun da ey fB=>yW (j:=4) (enc:=KL.encI) (xs:=bd) (ys:=[w64 (x3 - aY)]) (zs:=da) rfl rfl rfl rfl rfl Tryz.underlying22 wOi rfl rfl rfl rfl rfl rfl cO rfl rfl rfl (cO.srcR (j:=0) rfl (by decide) (wAJ (f:=KL.encI) (sz:=1) (fun _=>rfl) [w64 (x3 - aY)])) (fun _=>rfl) (fun _=>rfl) ey rfl ?_
 intro bV cq dt eX
 have eY:SW w [B0,.obj ab (.map ae ah)] U br [B7,B0,.obj ab (.map ae ah),B5,.row bV cq 3 1 (hH KL.encI da)] dt:=eX
 refine oA Z Z (zo (zt (zH (rR fL2 Z (oR Z (ZT (zi Z bD Z) (congrArg (jV) fm.out)) (oM Z Z (zo ?_)))))))
 cases fB
 exact zH ⟨rfl,⟨br,bV,cq,rfl,cy,cz,cA,dN,rfl,cC,(cV.trans cW),(eY.pick [1,2,3,4] _ (by decide) rfl)⟩⟩
 rintro gC fU ⟨df,db,dz,d5,ge,gf,gg,dP,dQ,dR,fN,eZ⟩
 have dA:Hid (¬ ((↑(((↑p0.Race.Clocks.length:Int):Int) - 0).toNat:Int) < (↑p0.Race.Clocks.length:Int))):=zL (wAs)
 refine sR fL1 Z (oR Z (zg Z d5 dR) (eN (zK (cF Z dA (ZU (zk (zk (ZM (zH (sR fL4 Z (oM Z dP (oM Z dQ (oA Z Z (oA Z Z (eN (zR ?_))))))))))))))))
 have eA:=eg.le fN
 cases fy
 exact ⟨rfl,_,(wJS rfl rfl),df,_,(eZ.pick [2,3,0,1] _ (by decide) rfl),bz,bC,cn,db,dz,rfl,rfl,eA⟩
theorem wJt (p0:wAA) (bb:Option Addr) (bg:Nat) (bd:Option Addr) (bh:Nat) (be:Option Addr) (bi:Nat) (bf:Option Addr) (bj:Nat) (w:World) (U:PHeap) (hS:St0 w U []) (de:Sl U 1 bb bg p0.Starts.length (hH KL.encI p0.Starts)) (df:Sl U 2 bd bh p0.Splits.length (hH wAB p0.Splits)) (dg:Sl U 3 be bi p0.Clocks.length (hH wAD p0.Clocks)) (dh:Sl U 4 bf bj p0.Readings.length (hH wAC p0.Readings)) {r:(List (List Int)) × (List Int) × Int} (hm:wCr p0=some r):Gv Tryz.prog 37 [.agg #[.slice bb p0.Starts.length bg,.slice bd p0.Splits.length bh,.slice be p0.Clocks.length bi,.slice bf p0.Readings.length bj]] w (wCs w [] U (fun U_ L_ v=>∃ (A0:Option Addr) (c0:Nat) (bP:List Value) (A1:Option Addr) (c1:Nat),v=.tuple #[.slice A0 r.1.length c0,.slice A1 r.2.1.length c1,jV r.2.2]/\L_=[.row A0 c0 22 1 bP,.row A1 c1 3 1 (hH KL.encI r.2.1)]/\RlL U_ wEx r.1 bP)):=by
 unfold wCr at hm
 refine Gv.of Tryz.func37 Z Tryz.ntmps37 Tryz.results37 Z (sR (.fx 0 (fC1_3 (.nil)) .stop) Z ?_)
 let B0:List Value:=[.slice bb p0.Starts.length bg,.slice bd p0.Splits.length bh,.slice be p0.Clocks.length bi,.slice bf p0.Readings.length bj]
 refine ZH (cs:=B0) rfl rfl rfl rfl rfl rfl (by rfl) hS ?_
 intro W1 b2 bX
 refine oA Z Z (oA Z Z (oA Z Z (eN (sR (.fl 0 (.fx 1 (fC2_6 (.nil)) .stop)) Z (oL Z (bX.ldBA (j:=0) Z Z Z ZD zr (vs:=B0) Z Z) ?_)))))
 have q:=bnd hm
 obtain ⟨⟨x5,x6⟩,h7,az⟩:=q
 try dsimp only at az
 refine zI 0 Z Z Z Z (zJ Z Z Tryz.call80 (zC Z zP) Z) bX (fun hs=>wGn p0 bb bg bd bh be bi bf bj W1 U hs de df dg dh h7) (.inr Z) ?_
 rintro U9 dy dF aW dD bW bV
 rcases x5 with _ | ah
 try dsimp only at az
 obtain ⟨rfl,rfl⟩:=bV
 have cQ:sW w U U9 [.blk b2 27 B0] aW:=bW
 refine oM Z Z (oR Z (ZB Z Z (v:=.pointer none) Z) (oR Z (ZB Z Z (v:=jV x6) Z) (oA Z Z (oA Z Z (eN (zK (sR fL2 Z (oM Z Z (oR Z (Zu Z Z Z) (eN (ifc az ?_ ?_)))))))))))
 intro bC dm
 refine zx (Zh (fun h=>h bC.out)) (kN (sR (.fl 0 (.fx 1 (wUB gDf) .stop)) Z (oM Z Z ?_)))
 cases dm
 intro bC dp
 refine cT Z bC (sR fL4 Z (oM Z Z (oA Z Z (oA Z Z (oA Z Z (eN (zR (zN ?_))))))))
 have cR:=cQ.nilrow 22 1
 have cS:=cR.nilrow 3 1
 cases dp
 exact ⟨rfl,_,(res3 rfl rfl rfl),U9,_,(cS.pick [1,0] _ (by decide) rfl),none,0,[],none,0,rfl,rfl,RlL.nil⟩
 try dsimp only at az
 obtain ⟨aY,bn,bw,bo,bz,bp,bA,bq,bB,ae,aj,ai,aU,a0,rfl,rfl,cq,cr,ct,cu,bQ⟩:=bV
 let B1:Res:=.blk aY 139 [.slice bn ah.Race.Starts.length bw,.slice bo ah.Race.Splits.length bz,.slice bp ah.Race.Clocks.length bA,.slice bq ah.Race.Readings.length bB,.map (some ae),.slice aU ah.edges.length a0]
 have bY:sW w U U9 [B1,.obj ae (.map aj ai),.row aU a0 184 7 (hH wAS ah.edges),.blk b2 27 B0] aW:=bW
 refine oM Z Z (oR Z (ZB Z Z (v:=.pointer (some ⟨aY,0,none⟩)) Z) (oR Z (ZB Z Z (v:=jV x6) Z) (oA Z Z (oA Z Z (eN (zK (sR fL2 Z (oM Z Z (oR Z (Zu Z Z Z) (eN (ifc az ?_ ?_)))))))))))
 intro bD dq
 refine zx (Zh (fun h=>h bD.out)) (kN (sR (.fl 0 (.fx 1 (wUB gDf) .stop)) Z (oM Z Z ?_)))
 have q:=bY.freezeR (k:=2) (n:=ah.edges.length) rfl (wAJ (f:=wAS) (sz:=7) (fun _=>rfl) ah.edges) (by decide)
 obtain ⟨bL,ba,b9,cU⟩:=q
 have cV:sW w U bL [B1,.obj ae (.map aj ai),.blk b2 27 B0] aW:=cU
 have bR:=cq.le ba
 have bS:=cr.le ba
 have bT:=ct.le ba
 have bU:=cu.le ba
 have q:=bnd dq
 obtain ⟨⟨x59,dw,dx⟩,cw,b5⟩:=q
 try dsimp only at b5
 refine zI 2 Z Z Z Z (zJ Z Z Tryz.call74 (zC Z (zC Z (zC Z zP))) Z) cV (fun hs=>wGO ah aY bn bw bo bz bp bA bq bB ae aj ai aU a0 (-1) false aW bL hs bR bS bT bU bQ b9 cw) (.inl Z) ?_
 rintro bs dA dG cj aS cW ⟨ap,av,br,bE,rfl,rfl⟩
 let B2:Res:=.row br bE 3 1 (hH KL.encI x59.by_)
 let B3:Res:=.row ap av 3 1 (hH KL.encI x59.far)
 have cX:sW w U bs [B3,B2,B1,.obj ae (.map aj ai),.blk b2 27 B0] cj:=cW
 refine oM Z Z (oR Z (ZB Z Z (v:=.agg #[.slice ap x59.far.length av,.slice br x59.by_.length bE]) Z) (oR Z (ZB Z Z (v:=jV dw) Z) (oR Z (ZB Z Z (v:=.bool dx) Z) (zS (cs:=[.slice none 0 0,.slice none 0 0]) Z Z Z Z Z Zv Z cX ?_))))
 intro dB aZ cY
 let B4:List Value:=[.slice ap x59.far.length av,.slice br x59.by_.length bE]
 refine zW (j:=0) (vs:=B4) Z Z Z Z cY Z Z Z Z yb (zA Z) Z Z Z ?_
 intro aX cZ
 have bG:sW w U bs [.blk aZ 133 B4,B3,B2,B1,.obj ae (.map aj ai),.blk b2 27 B0] aX:=cZ
 refine oA Z Z (oA Z Z (eN (zK (sR fL2 Z (oM Z Z (oR Z (Zd Z Z) (eN (ifc b5 ?_ ?_))))))))
 intro bF dr
 refine zx (nC bF.out) (kN (sR (wFK (.fx 3 (wSN (.nil)) .stop)) Z (oM Z Z (oR Z (zF Z Z ZW Z zX) (oL Z (bG.ldB (j:=0) Z Z Z zY (v:=.slice ap x59.far.length av) Z) ?_)))))
 have q:=bG.freezeR (k:=1) (n:=x59.far.length) rfl (wAJ (f:=KL.encI) (sz:=1) (fun _=>rfl) x59.far) (by decide)
 obtain ⟨bt,aT,dt,da⟩:=q
 have db:sW w U bt [.blk aZ 133 B4,B2,B1,.obj ae (.map aj ai),.blk b2 27 B0] aX:=da
 have cy:=bR.le aS
 have cz:=cy.le aT
 have cA:=bS.le aS
 have cC:=cA.le aT
 have cD:=bT.le aS
 have cE:=cD.le aT
 have cG:=bU.le aS
 have cH:=cG.le aT
 have cI:=b9.le aS
 have cm:=cI.le aT
 have q:=bnd dr
 obtain ⟨⟨du,cb⟩,cn,bZ⟩:=q
 try dsimp only at bZ
 have cJ:sW w U bt [B1,.obj ae (.map aj ai),.blk aZ 133 B4,B2,.blk b2 27 B0] aX:=db.pick [2,3,0,1,4] _ (by decide) rfl
 refine zI 2 Z Z Z Z (zJ Z Z Tryz.call75 (zC Z (zC Z zP)) Z) cJ (fun hs=>wGs ah aY bn bw bo bz bp bA bq bB ae aj ai aU a0 x59.far ap av aX bt hs cz cC cE cH bQ cm dt cn) (.inl Z) ?_
 rintro bK dz dE cg dC cK ⟨bk,bu,bO,bm,bv,rfl,rfl,cp⟩
 have cL:sW w U bK [.row bk bu 22 1 bO,.row bm bv 3 1 (hH KL.encI cb),B1,.obj ae (.map aj ai),.blk aZ 133 B4,B2,.blk b2 27 B0] cg:=cK
 refine oM Z Z (oR Z (ZB Z Z (v:=.slice bk du.length bu) Z) (oR Z (ZB Z Z (v:=.slice bm cb.length bv) Z) (oA Z Z (oA Z Z (eN (sR fL5 Z (oM Z Z (oM Z Z (oA Z Z (oA Z Z (oA Z Z (eN (zR ?_)))))))))))))
 cases bZ
 exact ⟨rfl,_,(res3 rfl rfl rfl),bK,_,(cL.pick [0,1] _ (by decide) rfl),bk,bu,bO,bm,bv,rfl,rfl,cp⟩
 intro bF dk
 refine ZE (nF (bF.out)) (sR fL3 Z (oA Z Z (oA Z Z (oA Z Z (eN (zR (zN ?_)))))))
 have cM:=bG.nilrow 22 1
 have cN:=cM.nilrow 3 1
 cases dk
 exact ⟨rfl,_,(res3 rfl rfl rfl),bs,_,(cN.pick [1,0] _ (by decide) rfl),none,0,[],none,0,rfl,rfl,RlL.nil⟩
 intro bD dl
 refine cT Z bD (sR fL4 Z (oM Z Z (oA Z Z (oA Z Z (oA Z Z (eN (zR (zN ?_))))))))
 have cO:=bY.nilrow 22 1
 have cP:=cO.nilrow 3 1
 cases dl
 exact ⟨rfl,_,(res3 rfl rfl rfl),U9,_,(cP.pick [1,0] _ (by decide) rfl),none,0,[],none,0,rfl,rfl,RlL.nil⟩
theorem wBr (p0:wAK) (ah:Option Addr) (ak:Nat) (ab:Option Addr) (ae:Nat) (ai:Option Addr) (am:Nat) (aj:Option Addr) (ap:Nat) (p1:Int) (p2:Int) (w:World) (U:PHeap) (hS:St0 w U []) (aT:Sl U 1 ah ak p0.Starts.length (hH KL.encI p0.Starts)) (aU:Sl U 2 ab ae p0.Splits.length (hH wAB p0.Splits)) (aV:Sl U 3 ai am p0.Clocks.length (hH wAG p0.Clocks)) (aW:Sl U 4 aj ap p0.Readings.length (hH wAF p0.Readings)) {r:Int} (hm:wAT p0 p1 p2=some r):Gv Tryz.prog 68 [.agg #[.slice ah p0.Starts.length ak,.slice ab p0.Splits.length ae,.slice ai p0.Clocks.length am,.slice aj p0.Readings.length ap],jV p1,jV p2] w (wCs w [] U (fun U_ L_ v=>v=jV r/\L_=[])):=by
 unfold wAT at hm
 refine Gv.of Tryz.func68 rfl Tryz.ntmps68 Tryz.results68 rfl (sR gDb rfl (ZH (cs:=[.slice ah p0.Starts.length ak,.slice ab p0.Splits.length ae,.slice ai p0.Clocks.length am,.slice aj p0.Readings.length ap]) rfl rfl rfl rfl rfl rfl (by rfl) hS ?_))
 intro W1 b2 aq
 refine oA Z Z (eN (sR fL10 Z (oM Z Z (oR Z (zF Z Z zU Z ZX) (oL Z (aq.ldB (j:=0) Z Z Z Za (v:=.slice ab p0.Splits.length ae) Z) (oR Z (zf Z Z zw) (oR Z (zi Z Z Z) (oR Z (Runs.mulw Z Z Z) (oR Z (zi Z Z Z) (oM Z Z (oR Z (zi Z Z Z) (oA Z Z (eN (zR ?_))))))))))))))
 cases hm
 exact ⟨rfl,_,(ZF rfl),U,_,(aq.pick [] _ (by decide) rfl),rfl,rfl⟩
theorem wCz (p0:wAK) (ab:Option Addr) (ae:Nat) (ah:Option Addr) (ak:Nat) (ai:Option Addr) (am:Nat) (aj:Option Addr) (ap:Nat) (p1:Int) (w:World) (U:PHeap) (hS:St0 w U []) (aY:Sl U 1 ab ae p0.Starts.length (hH KL.encI p0.Starts)) (aZ:Sl U 2 ah ak p0.Splits.length (hH wAB p0.Splits)) (a0:Sl U 3 ai am p0.Clocks.length (hH wAG p0.Clocks)) (ba:Sl U 4 aj ap p0.Readings.length (hH wAF p0.Readings)) {r:Int} (hm:wAf p0 p1=some r):Gv Tryz.prog 73 [.agg #[.slice ab p0.Starts.length ae,.slice ah p0.Splits.length ak,.slice ai p0.Clocks.length am,.slice aj p0.Readings.length ap],jV p1] w (wCs w [] U (fun U_ L_ v=>v=jV r/\L_=[])):=by
 unfold wAf at hm
 refine Gv.of Tryz.func73 Z Tryz.ntmps73 Tryz.results73 Z (sR gDb Z ?_)
 let B0:List Value:=[.slice ab p0.Starts.length ae,.slice ah p0.Splits.length ak,.slice ai p0.Clocks.length am,.slice aj p0.Readings.length ap]
 refine ZH (cs:=B0) rfl rfl rfl rfl rfl rfl (by rfl) hS ?_
 intro W1 b2 au
 refine oA Z Z (eN (sR (wEf (.fx 4 (wOy (.nil)) .stop)) Z (oL Z (au.ldBA (j:=0) Z Z Z Zr Zc (vs:=B0) Z Z) (oR Z (zF Z Z zU Z zX) (oL Z (au.ldB (j:=0) Z Z Z zY (v:=.slice ab p0.Starts.length ae) Z) (oR Z (zf Z Z zB) (bnK hm fun x5 h6 bb=>zI 0 Z Z Z Z (zJ Z Z Tryz.call68 (zC Z (zC Z (zC Z zP))) Z) au (fun hs=>wBr p0 ab ae ah ak ai am aj ap (↑p0.Starts.length:Int) 0 W1 U hs aY aZ a0 ba h6) (.inr Z) ?_)))))))
 rintro U8 L9 bf aT be aW ⟨rfl,rfl⟩
 have aX:sW w U U8 [.blk b2 36 B0] aT:=aW
 refine oM Z Z (oR Z (zi Z Z Z) (oA Z Z (eN (zR ?_))))
 cases bb
 exact ⟨rfl,_,(ZF rfl),U8,_,(aX.pick [] _ (by decide) rfl),rfl,rfl⟩
theorem wFH (p0:wAK) (ah:Option Addr) (ak:Nat) (ai:Option Addr) (am:Nat) (ab:Option Addr) (ae:Nat) (aj:Option Addr) (ap:Nat) (w:World) (U:PHeap) (hS:St0 w U []) (aX:Sl U 1 ah ak p0.Starts.length (hH KL.encI p0.Starts)) (aY:Sl U 2 ai am p0.Splits.length (hH wAB p0.Splits)) (aZ:Sl U 3 ab ae p0.Clocks.length (hH wAG p0.Clocks)) (a0:Sl U 4 aj ap p0.Readings.length (hH wAF p0.Readings)) {r:Int} (hm:wBM p0=some r):Gv Tryz.prog 120 [.agg #[.slice ah p0.Starts.length ak,.slice ai p0.Splits.length am,.slice ab p0.Clocks.length ae,.slice aj p0.Readings.length ap]] w (wCs w [] U (fun U_ L_ v=>v=jV r/\L_=[])):=by
 unfold wBM at hm
 refine Gv.of Tryz.func120 Z Tryz.ntmps120 Tryz.results120 Z (sR gDb Z ?_)
 let B0:List Value:=[.slice ah p0.Starts.length ak,.slice ai p0.Splits.length am,.slice ab p0.Clocks.length ae,.slice aj p0.Readings.length ap]
 refine ZH (cs:=B0) rfl rfl rfl rfl rfl rfl (by rfl) hS ?_
 intro W1 b2 au
 refine oA Z Z (eN (sR (wEf (.fx 4 (.fl 5 .nil) .stop)) Z (oL Z (au.ldBA (j:=0) Z Z Z Zr Zc (vs:=B0) Z Z) (oR Z (zF Z Z zU Z Zp) (oL Z (au.ldB (j:=0) Z Z Z yC (v:=.slice ab p0.Clocks.length ae) Z) (oR Z (zf Z Z Zb) (bnK hm fun x5 h6 ba=>zI 0 Z Z Z Z (zJ Z Z Tryz.call73 (zC Z (zC Z zP)) Z) au (fun hs=>wCz p0 ah ak ai am ab ae aj ap (↑p0.Clocks.length:Int) W1 U hs aX aY aZ a0 h6) (.inr Z) ?_)))))))
 rintro U8 L9 be aS bd aV ⟨rfl,rfl⟩
 have aW:sW w U U8 [.blk b2 36 B0] aS:=aV
 refine oA Z Z (eN (zR ?_))
 have hE:=nA ba;first | subst r | cases hE
 exact ⟨rfl,_,(ZF rfl),U8,_,(aW.pick [] _ (by decide) rfl),rfl,rfl⟩
theorem wBQ (p0:wAN) (ak:Option Addr) (am:Nat) (ah:List Hd) (p1:Int) (p2:Int) (p3:Int) (p4:Int) (w:World) (U:PHeap) (hS:St0 w U [.row ak am 22 1 (hH wDU ah),inn 3 1 KL.encI ah p0.t])  {r:(List (List Int))} (hm:wAL p0 p1 p2 p3 p4=some r):Gv Tryz.prog 121 [.agg #[.slice ak p0.t.length am],jV p1,jV p2,jV p3,jV p4] w (wCs w [.row ak am 22 1 (hH wDU ah),inn 3 1 KL.encI ah p0.t] U (fun U_ L_ v=>v=.tuple #[]/\L_=[.row ak am 22 1 (hH wDU ah),inn 3 1 KL.encI ah r])):=by
 unfold wAL at hm
 refine Gv.of Tryz.func121 Z Tryz.ntmps121 Tryz.results121 Z (sR (.fx 0 .nil .stop) Z ?_)
 let B0:List Value:=[.slice ak p0.t.length am]
 refine ZH (cs:=B0) rfl rfl rfl rfl rfl rfl (by rfl) hS ?_
 intro W3 b4 bB
 refine eN (zK (zy zu [3,1,3,3,1,3,3,1,3,3,1,3,3,1,3,3,3,0] (wQg (.fx 17 .nil .stop)) (by kernel_rfl) ?_))
 have aS:=bB.drew
 generalize hw_W8:({ W3 with drawn:=W3.drawn + 1 }:World)=W8 at aS ⊢
 refine oR Z (zF Z Z Tryz.runUnderlying188 Z Tryz.sizeOf49) (oL Z (aS.ldB (j:=0) Z Z Z yV (v:=.slice ak p0.t.length am) Z) (oM Z Z (bnK hm fun _ h9 bR=>?_)))
 obtain ⟨b5,av⟩:=aS.rowSome (j:=1) rfl (by rw [wAJ (f:=wDU) (sz:=1) (fun _=>rfl),(aS.innFit (j:=2) rfl).len];have hz:=wAQ h9;omega)
 refine oR Z (zz Z Z av Z zV zX (wCn h9) (wCo h9)) ?_
 have bm:=aS.innFit (j:=2) rfl
 have bJ:=wBJ (xs:=ah) (k:=p1.toNat) (by rw [bm.len];exact (wAQ h9))
 have bW:nG (gd ah p1.toNat).A (gd ah p1.toNat).n (gd ah p1.toNat).c=.slice ((gd ah p1.toNat).A) ((gd p0.t p1.toNat).length) ((gd ah p1.toNat).c):=by rw [bm.at_ (k:=p1.toNat) (wAQ h9)]
 refine ZI rfl rfl rfl rfl (yp (aS.ldR (j:=1) rfl av rfl rfl zY (wAV (sz:=1) (fun _=>rfl) _ _ 0 _ bJ (by first | omega | rfl | simp) rfl)) bW) rfl ?_
 let B1:Res:=.row ak am 22 1 (hH wDU ah)
 have bs:SW w [B1,inn 3 1 KL.encI ah p0.t] U U [inn 3 1 KL.encI ah p0.t,.blk b4 188 B0,B1] W8:=aS.pick [2,0,1] _ (by decide) rfl
 have bt:=bs.innTake (k:=p1.toNat) (wAQ h9)
 have aW:SW w [B1,inn 3 1 KL.encI ah p0.t] U U [.row ((gd ah p1.toNat).A) ((gd ah p1.toNat).c) 3 1 (hH KL.encI (gd p0.t p1.toNat)),wJj 3 1 KL.encI ah p0.t p1.toNat,.blk b4 188 B0,B1] W8:=bt
 refine oM Z Z (oR Z (zF Z Z Tryz.runUnderlying188 Z Tryz.sizeOf49) (oL Z (aW.ldB (j:=2) Z Z Z yV (v:=.slice ak p0.t.length am) Z) (oM Z Z (oR Z (zz Z Z av Z zV zX (wCn h9) (wCo h9)) ?_))))
 have q:=aW.innHFit (j:=1) rfl
 obtain ⟨bn,bp⟩:=q
 have bK:=wBJ (xs:=ah) (k:=p1.toNat) (by rw [bn.len];exact bp)
 have bX:nG (gd ah p1.toNat).A (gd ah p1.toNat).n (gd ah p1.toNat).c=.slice ((gd ah p1.toNat).A) ((gd p0.t p1.toNat).length) ((gd ah p1.toNat).c):=congrArg (fun n_=>nG (gd ah p1.toNat).A n_ (gd ah p1.toNat).c) ((bn.at_ (k:=p1.toNat) bp).trans (Eq.symm rfl))
 refine ZI rfl rfl rfl rfl (yp (aW.ldR (j:=3) rfl av rfl rfl zY (wAV (sz:=1) (fun _=>rfl) _ _ 0 _ bK (by first | omega | rfl | simp) rfl)) bX) rfl (ZA rfl rfl rfl rfl rfl rfl (bnK bR fun _ ap bS=>?_))
 obtain ⟨b9,aZ⟩:=aW.rowSome (j:=0) rfl (by rw [wAJ (f:=KL.encI) (sz:=1) (fun _=>rfl) (gd p0.t p1.toNat)];have hz:=wAQ ap;omega)
 refine oR Z (zz Z Z aZ Z zB zD (wCn ap) (wCo ap)) ?_
 have bL:=wBJ (xs:=(gd p0.t p1.toNat)) (wAQ ap)
 refine ZI rfl rfl rfl rfl (aW.ldR (j:=0) rfl aZ rfl rfl zG (wAV (sz:=1) (fun _=>rfl) _ _ 0 _ bL (by first | omega | rfl | simp) rfl)) rfl (ZA rfl rfl rfl rfl rfl rfl (zm rfl rfl rfl rfl (fun _=>Runs.min rfl rfl rfl) (zm rfl rfl rfl rfl (fun _=>zz rfl rfl aZ rfl zB zD (wCn ap) (wCo ap)) ?_)))
 have bM:=wBJ (xs:=(gd p0.t p1.toNat)) (wAQ ap)
 refine yl (j:=0) (vs:=[jV (min (gd (gd p0.t p1.toNat) p2.toNat) p3)]) (cs':=hH KL.encI (nE (gd p0.t p1.toNat) p2.toNat (min (gd (gd p0.t p1.toNat) p2.toNat) p3))) rfl rfl rfl rfl aW rfl aZ rfl rfl rfl zD (by rw [wAJ (f:=KL.encI) (sz:=1) (fun _=>rfl)];have hz:=wAQ ap;show _ + 1 <= _;first | omega | (simp only [nL];omega) | (simp only [nJ,nH,nI];omega)) rfl (wDM (sz:=1) (fo:=0) (fun _=>rfl) _ _ _ _ bM (by first | omega | (simp only [nL];omega) | (simp only [nJ,nH,nI];omega)) (zA rfl) rfl) rfl ?_
 intro ba bu
 have bv:SW w [B1,inn 3 1 KL.encI ah p0.t] U U [.row ((gd ah p1.toNat).A) ((gd ah p1.toNat).c) 3 1 (hH KL.encI (nE (gd p0.t p1.toNat) p2.toNat (min (gd (gd p0.t p1.toNat) p2.toNat) p3))),wJj 3 1 KL.encI ah p0.t p1.toNat,.blk b4 188 B0,B1] ba:=bu
 refine eN (zy zu [3,1,3,3,1,3,3,1,3,3,1,3,3,1,3,3,3,0] (wQg (.fx 17 .nil .stop)) (by kernel_rfl) ?_)
 have aY:=bv.drew
 generalize hw_W34:({ ba with drawn:=ba.drawn + 1 }:World)=bb at aY ⊢
 refine oR Z (zF Z Z Tryz.runUnderlying188 Z Tryz.sizeOf49) (oL Z (aY.ldB (j:=2) Z Z Z yV (v:=.slice ak p0.t.length am) Z) (oM Z Z (bnK bS fun _ be bT=>oR Z (zz Z Z av Z zV zX (wCn be) (wCo be)) ?_)))
 have bH:=(aY.innHFit (j:=1) rfl).1
 have q:=aY.innHFit (j:=1) rfl
 obtain ⟨bI,bq⟩:=q
 have bq:(nE (gd p0.t p1.toNat) p2.toNat (min (gd (gd p0.t p1.toNat) p2.toNat) p3)).length=(gd ah p1.toNat).n:=nM nK (bI.at_ (k:=p1.toNat) bq).symm
 have bw:=aY.innBack nK
 have bz:SW w [B1,inn 3 1 KL.encI ah p0.t] U U [inn 3 1 KL.encI ah (nE p0.t p1.toNat (nE (gd p0.t p1.toNat) p2.toNat (min (gd (gd p0.t p1.toNat) p2.toNat) p3))),.blk b4 188 B0,B1] bb:=bw
 let B2:Res:=.blk b4 188 [.slice ak ((nE p0.t p1.toNat (nE (gd p0.t p1.toNat) p2.toNat (min (gd (gd p0.t p1.toNat) p2.toNat) p3))).length) am]
 have bf:SW w [B1,inn 3 1 KL.encI ah p0.t] U U [inn 3 1 KL.encI ah (nE p0.t p1.toNat (nE (gd p0.t p1.toNat) p2.toNat (min (gd (gd p0.t p1.toNat) p2.toNat) p3))),B2,B1] bb:=by simpa only [B0,B1,B2,nK] using bz
 have bg:=bf.innFit (j:=0) rfl
 have bh:p2.toNat < (nE p0.t p1.toNat (nE (gd p0.t p1.toNat) p2.toNat (min (gd (gd p0.t p1.toNat) p2.toNat) p3))).length:=nN (wAQ be) (bH.len.symm.trans bg.len)
 have bN:=wBJ (xs:=ah) (k:=p2.toNat) (by rw [bg.len];exact bh)
 have bY:nG (gd ah p2.toNat).A (gd ah p2.toNat).n (gd ah p2.toNat).c=.slice ((gd ah p2.toNat).A) ((gd (nE p0.t p1.toNat (nE (gd p0.t p1.toNat) p2.toNat (min (gd (gd p0.t p1.toNat) p2.toNat) p3))) p2.toNat).length) ((gd ah p2.toNat).c):=by rw [bg.at_ (k:=p2.toNat) bh]
 refine ZI rfl rfl rfl rfl (yp (bf.ldR (j:=2) rfl av rfl rfl zY (wAV (sz:=1) (fun _=>rfl) _ _ 0 _ bN (by first | omega | rfl | simp) rfl)) bY) rfl ?_
 have bA:=bf.innTake (k:=p2.toNat) bh
 have aX:SW w [B1,inn 3 1 KL.encI ah p0.t] U U [.row ((gd ah p2.toNat).A) ((gd ah p2.toNat).c) 3 1 (hH KL.encI (gd (nE p0.t p1.toNat (nE (gd p0.t p1.toNat) p2.toNat (min (gd (gd p0.t p1.toNat) p2.toNat) p3))) p2.toNat)),wJj 3 1 KL.encI ah (nE p0.t p1.toNat (nE (gd p0.t p1.toNat) p2.toNat (min (gd (gd p0.t p1.toNat) p2.toNat) p3))) p2.toNat,B2,B1] bb:=bA
 refine oM Z Z (oR Z (zF Z Z Tryz.runUnderlying188 Z Tryz.sizeOf49) (oL Z (aX.ldB (j:=2) Z Z Z yV (v:=.slice ak ((nE p0.t p1.toNat (nE (gd p0.t p1.toNat) p2.toNat (min (gd (gd p0.t p1.toNat) p2.toNat) p3))).length) am) Z) (oM Z Z (bnK bT fun _ bk bU=>oR Z (zz Z Z av Z zV zX (wCn bk) (wCo bk)) ?_))))
 have q:=aX.innHFit (j:=1) rfl
 obtain ⟨bo,br⟩:=q
 have bO:=wBJ (xs:=ah) (k:=p2.toNat) (by rw [bo.len];exact br)
 have bZ:nG (gd ah p2.toNat).A (gd ah p2.toNat).n (gd ah p2.toNat).c=.slice ((gd ah p2.toNat).A) ((gd (nE p0.t p1.toNat (nE (gd p0.t p1.toNat) p2.toNat (min (gd (gd p0.t p1.toNat) p2.toNat) p3))) p2.toNat).length) ((gd ah p2.toNat).c):=congrArg (fun n_=>nG (gd ah p2.toNat).A n_ (gd ah p2.toNat).c) ((bo.at_ (k:=p2.toNat) br).trans (Eq.symm rfl))
 refine ZI rfl rfl rfl rfl (yp (aX.ldR (j:=3) rfl av rfl rfl zY (wAV (sz:=1) (fun _=>rfl) _ _ 0 _ bO (by first | omega | rfl | simp) rfl)) bZ) rfl (ZA rfl rfl rfl rfl rfl rfl (bnK bU fun _ aq bV=>?_))
 obtain ⟨cb,a0⟩:=aX.rowSome (j:=0) rfl (by rw [wAJ (f:=KL.encI) (sz:=1) (fun _=>rfl) (gd (nE p0.t p1.toNat (nE (gd p0.t p1.toNat) p2.toNat (min (gd (gd p0.t p1.toNat) p2.toNat) p3))) p2.toNat)];have hz:=wAQ aq;omega)
 refine oR Z (zz Z Z a0 Z zB zD (wCn aq) (wCo aq)) ?_
 have bP:=wBJ (xs:=(gd (nE p0.t p1.toNat (nE (gd p0.t p1.toNat) p2.toNat (min (gd (gd p0.t p1.toNat) p2.toNat) p3))) p2.toNat)) (wAQ aq)
 refine ZI rfl rfl rfl rfl (aX.ldR (j:=0) rfl a0 rfl rfl zG (wAV (sz:=1) (fun _=>rfl) _ _ 0 _ bP (by first | omega | rfl | simp) rfl)) rfl (ZA rfl rfl rfl rfl rfl rfl (zm rfl rfl rfl rfl (fun _=>Runs.min rfl rfl rfl) (zm rfl rfl rfl rfl (fun _=>zz rfl rfl a0 rfl zB zD (wCn aq) (wCo aq)) ?_)))
 have bQ:=wBJ (xs:=(gd (nE p0.t p1.toNat (nE (gd p0.t p1.toNat) p2.toNat (min (gd (gd p0.t p1.toNat) p2.toNat) p3))) p2.toNat)) (wAQ aq)
 refine yl (j:=0) (vs:=[jV (min (gd (gd (nE p0.t p1.toNat (nE (gd p0.t p1.toNat) p2.toNat (min (gd (gd p0.t p1.toNat) p2.toNat) p3))) p2.toNat) p1.toNat) p4)]) (cs':=hH KL.encI (nE (gd (nE p0.t p1.toNat (nE (gd p0.t p1.toNat) p2.toNat (min (gd (gd p0.t p1.toNat) p2.toNat) p3))) p2.toNat) p1.toNat (min (gd (gd (nE p0.t p1.toNat (nE (gd p0.t p1.toNat) p2.toNat (min (gd (gd p0.t p1.toNat) p2.toNat) p3))) p2.toNat) p1.toNat) p4))) rfl rfl rfl rfl aX rfl a0 rfl rfl rfl zD (by rw [wAJ (f:=KL.encI) (sz:=1) (fun _=>rfl)];have hz:=wAQ aq;show _ + 1 <= _;first | omega | (simp only [nL];omega) | (simp only [nJ,nH,nI];omega)) rfl (wDM (sz:=1) (fo:=0) (fun _=>rfl) _ _ _ _ bQ (by first | omega | (simp only [nL];omega) | (simp only [nJ,nH,nI];omega)) (zA rfl) rfl) rfl ?_
 intro bd bC
 have bD:SW w [B1,inn 3 1 KL.encI ah p0.t] U U [.row ((gd ah p2.toNat).A) ((gd ah p2.toNat).c) 3 1 (hH KL.encI (nE (gd (nE p0.t p1.toNat (nE (gd p0.t p1.toNat) p2.toNat (min (gd (gd p0.t p1.toNat) p2.toNat) p3))) p2.toNat) p1.toNat (min (gd (gd (nE p0.t p1.toNat (nE (gd p0.t p1.toNat) p2.toNat (min (gd (gd p0.t p1.toNat) p2.toNat) p3))) p2.toNat) p1.toNat) p4))),wJj 3 1 KL.encI ah (nE p0.t p1.toNat (nE (gd p0.t p1.toNat) p2.toNat (min (gd (gd p0.t p1.toNat) p2.toNat) p3))) p2.toNat,B2,B1] bd:=bC
 refine zo ?_
 have bE:=bD.innBack nK
 have bF:SW w [B1,inn 3 1 KL.encI ah p0.t] U U [inn 3 1 KL.encI ah (nE (nE p0.t p1.toNat (nE (gd p0.t p1.toNat) p2.toNat (min (gd (gd p0.t p1.toNat) p2.toNat) p3))) p2.toNat (nE (gd (nE p0.t p1.toNat (nE (gd p0.t p1.toNat) p2.toNat (min (gd (gd p0.t p1.toNat) p2.toNat) p3))) p2.toNat) p1.toNat (min (gd (gd (nE p0.t p1.toNat (nE (gd p0.t p1.toNat) p2.toNat (min (gd (gd p0.t p1.toNat) p2.toNat) p3))) p2.toNat) p1.toNat) p4))),B2,B1] bd:=bE
 have bG:SW w [B1,inn 3 1 KL.encI ah p0.t] U U [inn 3 1 KL.encI ah (nE (nE p0.t p1.toNat (nE (gd p0.t p1.toNat) p2.toNat (min (gd (gd p0.t p1.toNat) p2.toNat) p3))) p2.toNat (nE (gd (nE p0.t p1.toNat (nE (gd p0.t p1.toNat) p2.toNat (min (gd (gd p0.t p1.toNat) p2.toNat) p3))) p2.toNat) p1.toNat (min (gd (gd (nE p0.t p1.toNat (nE (gd p0.t p1.toNat) p2.toNat (min (gd (gd p0.t p1.toNat) p2.toNat) p3))) p2.toNat) p1.toNat) p4))),.blk b4 188 [.slice ak ((nE (nE p0.t p1.toNat (nE (gd p0.t p1.toNat) p2.toNat (min (gd (gd p0.t p1.toNat) p2.toNat) p3))) p2.toNat (nE (gd (nE p0.t p1.toNat (nE (gd p0.t p1.toNat) p2.toNat (min (gd (gd p0.t p1.toNat) p2.toNat) p3))) p2.toNat) p1.toNat (min (gd (gd (nE p0.t p1.toNat (nE (gd p0.t p1.toNat) p2.toNat (min (gd (gd p0.t p1.toNat) p2.toNat) p3))) p2.toNat) p1.toNat) p4))).length) am],B1] bd:=by simpa only [B1,B2,nK] using bF
 cases bV
 exact ⟨rfl,_,(wSV),U,_,(bG.pick [2,0] _ (by decide) rfl),rfl,rfl⟩
end Go.Proofs.YtlnfbjphfoipaaaGreat
namespace Go.Proofs.YtlnfbjphfoipaaaGreat
open Go.KL
set_option maxHeartbeats 4000000
theorem wFT (p0:wAK) (bg:Option Addr) (bi:Nat) (bh:Option Addr) (bj:Nat) (bd:Option Addr) (be:Nat) (bq:Option Addr) (br:Nat) (w:World) (U:PHeap) (hS:St0 w U []) (dr:Sl U 1 bg bi p0.Starts.length (hH KL.encI p0.Starts)) (dt:Sl U 2 bh bj p0.Splits.length (hH wAB p0.Splits)) (du:Sl U 3 bd be p0.Clocks.length (hH wAG p0.Clocks)) (dv:Sl U 4 bq br p0.Readings.length (hH wAF p0.Readings)) {r:(List (List Int))} (hm:wBP p0=some r):Gv Tryz.prog 67 [.agg #[.slice bg p0.Starts.length bi,.slice bh p0.Splits.length bj,.slice bd p0.Clocks.length be,.slice bq p0.Readings.length br]] w (wCs w [] U (fun U_ L_ v=>∃ (A0:Option Addr) (c0:Nat) (iW:List Hd),v=.slice A0 r.length c0/\L_=[.row A0 c0 22 1 (hH wDU iW),inn 3 1 KL.encI iW r])):=by
 unfold wBP at hm
 refine Gv.of Tryz.func67 Z Tryz.ntmps67 Tryz.results67 Z (sR gDb Z ?_)
 let B0:List Value:=[.slice bg p0.Starts.length bi,.slice bh p0.Splits.length bj,.slice bd p0.Clocks.length be,.slice bq p0.Readings.length br]
 refine ZH (cs:=B0) rfl rfl rfl rfl rfl rfl (by rfl) hS ?_
 intro W1 b2 gW
 refine oA Z Z (eN (sR gDd Z (oL Z (gW.ldBA (j:=0) Z Z Z Zr Zc (vs:=B0) Z Z) (bnK hm fun x5 h6 rk=>zI 0 Z Z Z Z (zJ Z Z Tryz.call120 (zC Z zP) Z) gW (fun hs=>wFH p0 bg bi bh bj bd be bq br W1 U hs dr dt du dv h6) (.inr Z) ?_))))
 rintro U8 L9 tv fH bo mY ⟨rfl,rfl⟩
 have m6:sW w U U8 [.blk b2 36 B0] fH:=mY
 refine oA Z Z (eN (sR fL1 Z (oA Z Z (eN (zK (sR fL1 Z (oA Z Z (eN (zd (bnK rk fun fj pQ qL=>?_))))))))))
 have q:=wCl pQ
 obtain ⟨eW,pR⟩:=q
 replace eW:=zL eW
 refine CK.forN' (fun bU bm σ_ w_=>∃ (U_:PHeap) (cx:Option Addr) (cz:Nat) (aY:List Hd),σ_ 5=jV (↑bU:Int)/\σ_ 1=.pointer (some ⟨b2,0,none⟩)/\σ_ 3=jV x5/\σ_ 4=.slice cx bm.length cz/\PHeap.Le U8 U_/\sW w U U_ [.blk b2 36 B0,.row cx cz 22 1 (hH wDU aY),inn 3 1 KL.encI aY bm] w_) pR ?_ ?_ ?_
 have ox:=m6.nilrow 22 1
 have oy:=ox.innNil 3 1 KL.encI
 have oz:sW w U U8 [inn 3 1 KL.encI ([]:List Hd) ([]:List (List Int)),.row none 0 22 1 [],.blk b2 36 B0] fH:=oy
 exact ⟨U8,none,0,[],rfl,rfl,rfl,rfl,(zM _),(oz.pick [2,1,0] _ (by decide) rfl)⟩
 rintro bU bm tM t8 sH eR ⟨dT,cx,cz,aY,gF,jy,d8,jB,rX,oX⟩ rK
 have gf:Hid ((↑bU:Int) < x5):=zL (wBR eR)
 replace eR:=zL eR
 have qx:Hid (w64 ((↑bU:Int) + 1)=(↑(bU + 1):Int)):=zL (by have h1:=eW.out;have h2:=gf.out;rw [wAU] <;> omega)
 refine zK (sR fL3 Z (oM Z gF (oM Z d8 (oR Z (zg Z Z Z) (eN (cT Z gf (kN (zK (zd (sR gDd Z (oM Z d8 (bnK rK fun x64 mE qY=>OKS.makeSlice (enc:=KL.encI) (z:=(0:Int)) (v:=jV 0) Z Z Z Z Z (wCO zB) wOi Z Z Z Z Z Z mE oX ?_))))))))))))
 intro jg aV o7
 let B1:Res:=.row cx cz 22 1 (hH wDU aY)
 have pf:sW w U dT [.row (some ⟨aV,0,none⟩) x64.length 3 1 (hH KL.encI x64),.blk b2 36 B0,B1,inn 3 1 KL.encI aY bm] jg:=o7
 refine oA Z Z (eN (zK (sR fL1 Z (oA Z Z (eN (zd (bnK qY fun aZ p9 rx=>?_)))))))
 have q:=wCl p9
 obtain ⟨e8,qa⟩:=q
 replace e8:=zL e8
 refine CK.forN' (fun bz bB σ_ w_=>∃ (U_:PHeap),σ_ 7=jV (↑bz:Int)/\σ_ 1=.pointer (some ⟨b2,0,none⟩)/\σ_ 3=jV x5/\σ_ 4=.slice cx bm.length cz/\σ_ 5=jV (↑bU:Int)/\σ_ 6=.slice (some ⟨aV,0,none⟩) bB.length x64.length/\PHeap.Le dT U_/\sW w U U_ [.blk b2 36 B0,B1,inn 3 1 KL.encI aY bm,.row (some ⟨aV,0,none⟩) x64.length 3 1 (hH KL.encI bB)] w_/\bB.length=x64.length) qa ?_ ?_ ?_
 exact ⟨dT,rfl,jy,d8,jB,gF,rfl,(zM _),(pf.pick [1,2,3,0] _ (by decide) rfl),rfl⟩
 rintro bz bB tR uf sN eV ⟨dU,cD,gD,eg,gE,eh,ej,iZ,ie,gR⟩ iX
 have fZ:Hid ((↑bz:Int) < x5):=zL (wBR eV)
 replace eV:=zL eV
 have iC:Hid (w64 ((↑bz:Int) + 1)=(↑(bz + 1):Int)):=zL (by have h1:=e8.out;have h2:=fZ.out;rw [wAU] <;> omega)
 refine zK (sR fL3 Z (oM Z cD (oM Z eg (oR Z (zg Z Z Z) (eN (cT Z fZ (kN (zK (zd (sR fL3 Z (oM Z eh (oM Z cD (oR Z (Zu Z Z Z) (eN ?_))))))))))))))
 by_cases bE:(↑bU:Int)=(↑bz:Int)
 have iE:=iX;rw [if_pos bE] at iE;replace bE:=zL bE
 refine zx (Zh (fun h=>h bE.out)) (Ze (zt (zH (rR fL3 Z (oM Z cD (oR Z (ZT (zi Z Z Z) (congrArg (jV) iC.out)) (oA Z Z (zo ?_))))))))
 cases iE
 exact zH ⟨Z,⟨dU,Z,gD,eg,gE,eh,ej,iZ,ie,gR⟩⟩
 have iF:=iX;rw [if_neg bE] at iF;replace bE:=zL bE
 refine cT Z bE (rR (wFK (.fx 3 .nil .stop)) Z (oM Z ej (oM Z cD (bnK iF fun _ en qz=>oR Z (ZJ Z Z Z Z zB zD (wAQ en)) ?_))))
 have qb:=wBJ (xs:=bB) (wAQ en)
 refine yl (j:=3) (vs:=[jV 1125899906842624]) (cs':=hH KL.encI (nE bB bz 1125899906842624)) rfl rfl rfl rfl ie rfl rfl rfl rfl rfl zD (by rw [wAJ (f:=KL.encI) (sz:=1) (fun _=>rfl)];have hz:=wAQ en;show _ + 1 <= _;first | omega | (simp only [nL];omega) | (simp only [nJ,nH,nI];omega)) rfl (wDM (sz:=1) (fo:=0) (fun _=>rfl) _ _ _ _ qb (by first | omega | (simp only [nL];omega) | (simp only [nJ,nH,nI];omega)) (zA rfl) rfl) rfl ?_
 intro ja mV
 have mW:sW w U dU [.blk b2 36 B0,B1,inn 3 1 KL.encI aY bm,.row (some ⟨aV,0,none⟩) x64.length 3 1 (hH KL.encI (nE bB bz 1125899906842624))] ja:=mV
 refine zo (zt (zH (rR fL3 Z (oM Z cD (oR Z (ZT (zi Z Z Z) (congrArg (jV) iC.out)) (oA Z Z (zo ?_)))))))
 cases qz
 exact zH ⟨rfl,⟨dU,rfl,gD,eg,gE,eh,(nM (b:=(.slice (some ⟨aV,0,none⟩) bB.length x64.length:Value)) (c:=(.slice (some ⟨aV,0,none⟩) ((nE bB bz 1125899906842624).length) x64.length:Value)) ej (by simp only [nK])),iZ,mW,(nK.trans gR)⟩⟩
 rintro tV sC ⟨bD,k9,jr,gh,jt,ju,jv,rO,mX,s8⟩
 have jh:Hid (¬ ((↑((x5:Int) - 0).toNat:Int) < x5)):=zL (wAs)
 refine zK (sR fL3 Z (oM Z k9 (oM Z gh (oR Z (zg Z Z Z) (eN (cF Z jh (ZU (zk (zk (ZM (zH (rR gDh Z (oM Z jt (oM Z jv ?_))))))))))))))
 let B2:List Value:=[.slice (some ⟨aV,0,none⟩) aZ.length x64.length]
 refine Zg (pv:=[(0,.slice (some ⟨aV,0,none⟩) aZ.length x64.length)]) (zs:=[.slice none 0 0]) (cs:=B2) Z Z Z Z Z (wAI Z wAY) zV zX Tryz.zeroValue22 Z Z Z Z Z mX ?_
 intro dV fW mZ
 let B3:Res:=.row (some ⟨aV,0,none⟩) x64.length 3 1 (hH KL.encI aZ)
 let B4:Res:=.row (some ⟨fW,0,none⟩) 1 22 1 B2
 have m0:sW w U bD [B4,.blk b2 36 B0,B1,inn 3 1 KL.encI aY bm,B3] dV:=mZ
 have m4:sW w U bD [B3,B4,.blk b2 36 B0,B1,inn 3 1 KL.encI aY bm] dV:=m0.pick [4,0,1,2,3] _ (by decide) rfl
 have m5:=m4.innOne
 let B5:Res:=.row (some ⟨fW,0,none⟩) 1 22 1 (hH wDU [(⟨(some ⟨aV,0,none⟩),aZ.length,x64.length⟩:Hd)])
 have dl:sW w U bD [inn 3 1 KL.encI [(⟨(some ⟨aV,0,none⟩),aZ.length,x64.length⟩:Hd)] [aZ],B5,.blk b2 36 B0,B1,inn 3 1 KL.encI aY bm] dV:=m5
 refine bnK rx fun x140 lj qA=>?_
 have eP:=dl.innFit (j:=4) rfl
 have eQ:=dl.innFit (j:=0) rfl
 have q:=wQP lj eP eQ
 obtain ⟨pL,iY⟩:=q
 refine yW (j:=3) (enc:=wDU) (xs:=aY) (ys:=[(⟨(some ⟨aV,0,none⟩),aZ.length,x64.length⟩:Hd)]) rfl rfl rfl rfl rfl Tryz.underlying49 wOj rfl rfl rfl rfl rfl rfl dl rfl (slen rfl eP) (slen rfl eQ) (dl.srcR (j:=1) rfl (by decide) (wAJ (f:=wDU) (sz:=1) (fun _=>rfl) [(⟨(some ⟨aV,0,none⟩),aZ.length,x64.length⟩:Hd)])) (fun _=>rfl) (fun _=>rfl) pL rfl ?_
 intro fq ga da m7
 have qy:(aY ++ [(⟨(some ⟨aV,0,none⟩),aZ.length,x64.length⟩:Hd)]:List Hd).length=x140.length:=by rw [iY,nO,nO,eP.len,eQ.len]
 rw [qy]
 let B6:Res:=.row fq ga 22 1 (hH wDU (aY ++ [(⟨(some ⟨aV,0,none⟩),aZ.length,x64.length⟩:Hd)]:List Hd))
 have m8:sW w U bD [inn 3 1 KL.encI [(⟨(some ⟨aV,0,none⟩),aZ.length,x64.length⟩:Hd)] [aZ],B5,.blk b2 36 B0,B6,inn 3 1 KL.encI aY bm] da:=m7
 have m9:sW w U bD [inn 3 1 KL.encI aY bm,inn 3 1 KL.encI [(⟨(some ⟨aV,0,none⟩),aZ.length,x64.length⟩:Hd)] [aZ],B5,.blk b2 36 B0,B6] da:=m8.pick [4,0,1,2,3] _ (by decide) rfl
 have gS:=m9.innApp
 rw [<- iY] at gS
 have n5:sW w U bD [inn 3 1 KL.encI (aY ++ [(⟨(some ⟨aV,0,none⟩),aZ.length,x64.length⟩:Hd)]:List Hd) x140,B5,.blk b2 36 B0,B6] da:=gS
 have n6:=n5.drop 1
 have n7:sW w U bD [inn 3 1 KL.encI (aY ++ [(⟨(some ⟨aV,0,none⟩),aZ.length,x64.length⟩:Hd)]:List Hd) x140,.blk b2 36 B0,B6] da:=n6
 refine oA Z Z (zo (zt (zH (rR fL3 Z (oM Z ju (oR Z (ZT (zi Z Z Z) (congrArg (jV) qx.out)) (oA Z Z (zo ?_))))))))
 cases qA
 exact zH ⟨rfl,⟨bD,fq,ga,(aY ++ [(⟨(some ⟨aV,0,none⟩),aZ.length,x64.length⟩:Hd)]:List Hd),rfl,jr,gh,rfl,(rX.trans rO),(n7.pick [1,2,0] _ (by decide) rfl)⟩⟩
 rintro tW sD ⟨dM,am,ap,aa,lf,jw,gi,gj,bp,n8⟩
 have ji:Hid (¬ ((↑((x5:Int) - 0).toNat:Int) < x5)):=zL (wAs)
 refine zK (sR fL3 Z (oM Z lf (oM Z gi (oR Z (zg Z Z Z) (eN (cF Z ji (ZU (zk (zk (ZM (zH (sR (.fl 0 (.fl 1 (.fx 2 (.fx 3 .nil .stop) .stop))) Z (oM Z gj ?_)))))))))))))
 let B7:List Value:=[.slice am fj.length ap]
 refine oR Z (ZP (pv:=[(0,.slice am fj.length ap)]) (z:=[.slice none 0 0]) (cs:=B7) Z (wAI Z wAY) Tryz.zeroValue188 wOh Z Z) (zS (cs:=[.slice none 0 0]) Z Z Z Z Z Tryz.zeroValue188 Z n8 ?_)
 intro sE az n9
 refine zW (j:=0) (vs:=B7) Z Z Z Z n9 Z Z Z Z Tryz.sizeOf188 (zA Z) Z Z Z ?_
 intro jb oa
 let B8:Res:=.row am ap 22 1 (hH wDU aa)
 have oc:sW w U dM [.blk az 188 B7,.blk b2 36 B0,B8,inn 3 1 KL.encI aa fj] jb:=oa
 refine eN (zK (sR fL1 Z (oA Z Z (eN (zd (yq (fun (bM,bV) σ_ w_=>∃ (U_:PHeap),σ_ 1=.pointer (some ⟨b2,0,none⟩)/\σ_ 3=jV x5/\σ_ 4=.slice am bM.length ap/\σ_ 8=.pointer (some ⟨az,0,none⟩)/\σ_ 9=jV bV/\PHeap.Le dM U_/\sW w U U_ [B8,inn 3 1 KL.encI aa bM,.blk az 188 [.slice am bM.length ap],.blk b2 36 B0] w_) qL ?_ ?_))))))
 exact ⟨dM,jw,gi,gj,rfl,rfl,(zM _),(oc.pick [2,3,0,1] _ (by decide) rfl)⟩
 rintro ⟨bM,bV⟩ tI tX fJ ⟨dN,bY,gk,gm,d4,cA,bf,eE⟩ fb pM
 try dsimp only at fb
 refine zK (sR fL5 Z (oM Z cA (oR Z (zF Z bY zU Z zX) (oL Z (eE.ldB (j:=3) Z Z Z zY (v:=.slice bg p0.Starts.length bi) Z) (oR Z (zf Z Z zB) (oR Z (zg Z Z Z) (eN ?_)))))))
 by_cases bF:bV < (↑p0.Starts.length:Int)
 have iG:=fb;rw [if_pos bF] at iG;replace bF:=zL bF
 refine cT Z bF (kN (zK (zd (zK (zy zu [1,1,3,2,3,1,3,3,1,3,1,3,3,1,3,0] (wFK (wUD (.fx 3 (.fx 15 .nil .stop) .stop))) (by kernel_rfl) ?_)))))
 have bK:=eE.drew
 generalize hw_W213:({ fJ with drawn:=fJ.drawn + 1 }:World)=jc at bK ⊢
 let B9:List Value:=[.slice am bM.length ap]
 refine oL Z (bK.ldBA (j:=2) Z Z d4 Tryz.isAgg188 Tryz.sizeOf188 (vs:=B9) Z Z) (oL Z (bK.ldBA (j:=3) Z Z bY Zr Zc (vs:=B0) Z Z) (oM Z cA (oR Z (zF Z bY zU Z zX) (oL Z (bK.ldB (j:=3) Z Z Z zY (v:=.slice bg p0.Starts.length bi) Z) (oM Z cA (bnK iG fun dA cb qB=>?_))))))
 have lm:=dr.le bo
 have ln:=lm.le bp
 have dh:=ln.le bf
 have q:=dh.el (fun _=>rfl) (wAP cb)
 obtain ⟨sP,th,mF,mN⟩:=q
 refine oR Z (zz Z Z mF Z zB zD (wBG cb) (wBI cb)) (oL Z (bK.ldC (f:=0) mN (v:=jV dA) Z Z zG Z) (oR Z (zF Z bY zU Z zX) (oL Z (bK.ldB (j:=3) Z Z Z zY (v:=.slice bg p0.Starts.length bi) Z) (oM Z cA ?_))))
 have q:=dh.el (fun _=>rfl) (wAP cb)
 obtain ⟨sQ,tj,mG,mO⟩:=q
 refine oR Z (zz Z Z mG Z zB zD (wBG cb) (wBI cb)) (oL Z (bK.ldC (f:=0) mO (v:=jV dA) Z Z zG Z) (oR Z (Runs.negw Z Z) ?_))
 have lp:=dt.le bo
 have ls:=lp.le bp
 have gJ:=ls.le bf
 have lu:=du.le bo
 have lv:=lu.le bp
 have gK:=lv.le bf
 have lw:=dv.le bo
 have lx:=lw.le bp
 have gL:=lx.le bf
 refine bnK qB fun sc ly qC=>zI 0 Z Z Z Z (zJ Z Z Tryz.call68 (zC Z (zC Z (zC Z zP))) Z) bK (fun hs=>wBr p0 bg bi bh bj bd be bq br bV 0 jc dN hs dh gJ gK gL ly) (.inr Z) ?_
 rintro fy sj tw fK cH od ⟨rfl,rfl⟩
 have gT:sW w U fy [B8,inn 3 1 KL.encI aa bM,.blk az 188 B9,.blk b2 36 B0] fK:=od
 refine bnK qC fun dB lz qD=>?_
 have ig:=gT.innFit (j:=1) rfl
 refine zI 2 Z Z Z Z (zJ Z Z Tryz.call121 (zC Z (zC Z (zC Z (zC Z (zC Z zP))))) Z) gT (fun hs=>wBQ (⟨bM⟩:wAN) am ap aa 0 sc dA (w64 (-dA)) fK fy hs lz) (.inl Z) ?_
 rintro cX sk tz fL cI oe ⟨rfl,rfl⟩
 have gU:sW w U cX [B8,inn 3 1 KL.encI aa dB,.blk az 188 B9,.blk b2 36 B0] fL:=oe
 have ii:=gU.innFit (j:=1) rfl
 have og:sW w U cX [B8,inn 3 1 KL.encI aa dB,.blk az 188 [.slice am dB.length ap],.blk b2 36 B0] fL:=by rw [ii.len.symm.trans ig.len];exact gU
 refine eN (sR fL1 Z (oA Z Z (eN (zd (yq (fun (bA,cM) σ_ w_=>∃ (U_:PHeap),σ_ 1=.pointer (some ⟨b2,0,none⟩)/\σ_ 3=jV x5/\σ_ 4=.slice am bA.length ap/\σ_ 8=.pointer (some ⟨az,0,none⟩)/\σ_ 9=jV bV/\σ_ 10=jV cM/\PHeap.Le cX U_/\sW w U U_ [B8,inn 3 1 KL.encI aa bA,.blk az 188 [.slice am bA.length ap],.blk b2 36 B0] w_) qD ?_ ?_)))))
 exact ⟨cX,bY,gk,(nM (b:=(.slice am bM.length ap:Value)) (c:=(.slice am dB.length ap:Value)) gm (by rw [ii.len.symm.trans ig.len])),d4,cA,rfl,(zM _),og⟩
 rintro ⟨bA,cM⟩ tJ tY fM ⟨fz,bP,gp,gq,d5,de,bZ,cw,eF⟩ fc pN
 try dsimp only at fc
 refine zK (sR fL5 Z (oM Z bZ (oR Z (zF Z bP zU Z ZX) (oL Z (eF.ldB (j:=3) Z Z Z Za (v:=.slice bh p0.Splits.length bj) Z) (oR Z (zf Z Z zw) (oR Z (zg Z Z Z) (eN ?_)))))))
 by_cases bG:cM < (↑p0.Splits.length:Int)
 have iH:=fc;rw [if_pos bG] at iH;replace bG:=zL bG
 refine cT Z bG (kN (zK (zd (zy zu [1,1,3,3,2,1,3,3,3,2,3,1,3,3,3,1,3,1,3,3,3,1,3,0] (wEf (fC5_8 (wSO (.fx 4 (.fx 9 (.fx 23 .nil .stop) .stop) .stop)))) (by kernel_rfl) ?_))))
 have bv:=eF.drew
 generalize hw_W287:({ fM with drawn:=fM.drawn + 1 }:World)=jd at bv ⊢
 let cS:List Value:=[.slice am bA.length ap]
 refine oL Z (bv.ldBA (j:=2) Z Z d5 Tryz.isAgg188 Tryz.sizeOf188 (vs:=cS) Z Z) (oL Z (bv.ldBA (j:=3) Z Z bP Zr Zc (vs:=B0) Z Z) (oM Z de (oM Z bZ (oL Z (bv.ldBA (j:=3) Z Z bP Zr Zc (vs:=B0) Z Z) (oM Z de (oM Z bZ (oR Z (zi Z Z Z) (oR Z (zF Z bP zU Z ZX) (oL Z (bv.ldB (j:=3) Z Z Z Za (v:=.slice bh p0.Splits.length bj) Z) (oM Z bZ (bnK iH fun dC cd qE=>?_)))))))))))
 have lA:=gJ.le cH
 have lB:=lA.le cI
 have dk:=lB.le cw
 have q:=dk.el (fun _=>rfl) (wAP cd)
 obtain ⟨sS,tl,mH,mP⟩:=q
 refine oR Z (zz Z Z mH Z zw ZS (wBG cd) (wBI cd)) (oR Z (zF Z Z ZN Z zD) (oL Z (bv.ldC (f:=1) mP (v:=jV dC.Hi) Z Z zG Z) (oR Z (zF Z bP zU Z ZX) (oL Z (bv.ldB (j:=3) Z Z Z Za (v:=.slice bh p0.Splits.length bj) Z) (oM Z bZ ?_)))))
 have q:=dk.el (fun _=>rfl) (wAP cd)
 obtain ⟨sU,tm,mI,mQ⟩:=q
 refine oR Z (zz Z Z mI Z zw ZS (wBG cd) (wBI cd)) (oR Z (zF Z Z ZN Z zD) (oL Z (bv.ldC (f:=0) mQ (v:=jV dC.Lo) Z Z zG Z) (oR Z (Runs.negw Z Z) ?_)))
 have lD:=dh.le cH
 have lE:=lD.le cI
 have gM:=lE.le cw
 have lF:=gK.le cH
 have lG:=lF.le cI
 have gN:=lG.le cw
 have lH:=gL.le cH
 have lI:=lH.le cI
 have gO:=lI.le cw
 refine bnK qE fun sd lJ qF=>zI 0 Z Z Z Z (zJ Z Z Tryz.call68 (zC Z (zC Z (zC Z zP))) Z) bv (fun hs=>wBr p0 bg bi bh bj bd be bq br bV cM jd fz hs gM dk gN gO lJ) (.inr Z) ?_
 rintro fA sm tA fN cJ oh ⟨rfl,rfl⟩
 have oi:sW w U fA [B8,inn 3 1 KL.encI aa bA,.blk az 188 cS,.blk b2 36 B0] fN:=oh
 have lK:=gM.le cJ
 have lL:=dk.le cJ
 have lM:=gN.le cJ
 have lN:=gO.le cJ
 refine bnK qF fun se lO qG=>zI 0 Z Z Z Z (zJ Z Z Tryz.call68 (zC Z (zC Z (zC Z zP))) Z) oi (fun hs=>wBr p0 bg bi bh bj bd be bq br bV (w64 (cM + 1)) fN fA hs lK lL lM lN lO) (.inr Z) ?_
 rintro fB sn tB fO rP oj ⟨rfl,rfl⟩
 have gX:sW w U fB [B8,inn 3 1 KL.encI aa bA,.blk az 188 cS,.blk b2 36 B0] fO:=oj
 refine bnK qG fun dD lP qH=>?_
 have ij:=gX.innFit (j:=1) rfl
 refine zI 2 Z Z Z Z (zJ Z Z Tryz.call121 (zC Z (zC Z (zC Z (zC Z (zC Z zP))))) Z) gX (fun hs=>wBQ (⟨bA⟩:wAN) am ap aa sd se dC.Hi (w64 (-dC.Lo)) fO fB hs lP) (.inl Z) ?_
 rintro dO sq tC fP rQ om ⟨rfl,rfl⟩
 have gZ:sW w U dO [B8,inn 3 1 KL.encI aa dD,.blk az 188 cS,.blk b2 36 B0] fP:=om
 have ik:=gZ.innFit (j:=1) rfl
 have oq:sW w U dO [B8,inn 3 1 KL.encI aa dD,.blk az 188 [.slice am dD.length ap],.blk b2 36 B0] fP:=by rw [ik.len.symm.trans ij.len];exact gZ
 refine zo (zt (zH (rR fL3 Z (oM Z bZ (oR Z (zi Z Z Z) (oA Z Z (zo ?_)))))))
 obtain rfl:=nA qH
 exact zH ⟨rfl,_,rfl,⟨dO,bP,gp,(nM (b:=(.slice am bA.length ap:Value)) (c:=(.slice am dD.length ap:Value)) gq (by rw [ik.len.symm.trans ij.len])),d5,de,rfl,(((cw.trans cJ).trans rP).trans rQ),oq⟩⟩
 have iI:=fc;rw [if_neg bG] at iI;replace bG:=zL bG
 refine cF Z bG (ZU (zk ?_))
 have q:=wAR iI
 obtain ⟨r7,qI,jm⟩:=q
 obtain rfl:=pN r7 jm
 refine zk (ZM (zt (zH (rR fL3 Z (oM Z de (oR Z (zi Z Z Z) (oA Z Z (zo ?_))))))))
 obtain rfl:=nA qI
 exact zH ⟨Z,_,Z,⟨fz,bP,gp,gq,d5,Z,(((bf.trans cH).trans cI).trans cw),eF⟩⟩
 have iJ:=fb;rw [if_neg bF] at iJ;replace bF:=zL bF
 refine cF Z bF (ZU (zk ?_))
 have q:=wAR iJ
 obtain ⟨r8,qJ,jo⟩:=q
 obtain rfl:=pM r8 jo
 refine zk (ZM (zH (zK (sR fL1 Z (oA Z Z (eN (zd (yq (fun (bN,dE) σ_ w_=>∃ (U_:PHeap),σ_ 1=.pointer (some ⟨b2,0,none⟩)/\σ_ 3=jV x5/\σ_ 4=.slice am bN.length ap/\σ_ 8=.pointer (some ⟨az,0,none⟩)/\σ_ 11=jV dE/\PHeap.Le dN U_/\sW w U U_ [B8,inn 3 1 KL.encI aa bN,.blk az 188 [.slice am bN.length ap],.blk b2 36 B0] w_) qJ ?_ ?_))))))))
 exact ⟨dN,bY,gk,gm,d4,Z,(zM _),eE⟩
 rintro ⟨bN,dE⟩ tK tZ fQ ⟨dP,b5,gt,gu,d6,cC,bC,eG⟩ fd pO
 try dsimp only at fd
 refine zK (sR fL5 Z (oM Z cC (oR Z (zF Z b5 zU Z Zp) (oL Z (eG.ldB (j:=3) Z Z Z yC (v:=.slice bd p0.Clocks.length be) Z) (oR Z (zf Z Z Zb) (oR Z (zg Z Z Z) (eN ?_)))))))
 by_cases bH:dE < (↑p0.Clocks.length:Int)
 have iK:=fd;rw [if_pos bH] at iK;replace bH:=zL bH
 refine cT Z bH (kN (zK (zd (zy zu [1,1,3,2,3,1,3,3,3,3,1,3,3,1,3,3,3,3,1,0] (wFK (wUE (.fx 3 (.fx 19 .nil .stop) .stop))) (by kernel_rfl) ?_))))
 have bL:=eG.drew
 generalize hw_W386:({ fQ with drawn:=fQ.drawn + 1 }:World)=je at bL ⊢
 let dI:List Value:=[.slice am bN.length ap]
 refine oL Z (bL.ldBA (j:=2) Z Z d6 Tryz.isAgg188 Tryz.sizeOf188 (vs:=dI) Z Z) (oL Z (bL.ldBA (j:=3) Z Z b5 Zr Zc (vs:=B0) Z Z) (oM Z cC (oR Z (zF Z b5 zU Z Zp) (oL Z (bL.ldB (j:=3) Z Z Z yC (v:=.slice bd p0.Clocks.length be) Z) (oM Z cC (bnK iK fun dF cf qK=>?_))))))
 have lQ:=du.le bo
 have lR:=lQ.le bp
 have lS:=lR.le bf
 have eu:=lS.le bC
 have q:=eu.el (fun _=>rfl) (wAP cf)
 obtain ⟨sV,tn,mJ,mR⟩:=q
 refine oR Z (zz Z Z mJ Z Zb yZ (wBG cf) (wBI cf)) (oR Z (zF Z Z yH Z ZS) (oR Z (zF Z Z ZN Z zD) (oL Z (bL.ldC (f:=0) mR (v:=jV dF.Offset.Lo) Z Z zG Z) (oR Z (Runs.negw Z Z) (oR Z (zF Z b5 zU Z Zp) (oL Z (bL.ldB (j:=3) Z Z Z yC (v:=.slice bd p0.Clocks.length be) Z) (oM Z cC ?_)))))))
 have q:=eu.el (fun _=>rfl) (wAP cf)
 obtain ⟨sX,tp,mK,mS⟩:=q
 refine oR Z (zz Z Z mK Z Zb yZ (wBG cf) (wBI cf)) (oR Z (zF Z Z yH Z ZS) (oR Z (zF Z Z ZN Z zD) (oL Z (bL.ldC (f:=1) mS (v:=jV dF.Offset.Hi) Z Z zG Z) ?_)))
 have lT:=dr.le bo
 have lU:=lT.le bp
 have lV:=lU.le bf
 have lW:=lV.le bC
 have lX:=dt.le bo
 have lY:=lX.le bp
 have lZ:=lY.le bf
 have l3:=lZ.le bC
 have l4:=dv.le bo
 have l5:=l4.le bp
 have l6:=l5.le bf
 have l7:=l6.le bC
 refine bnK qK fun sf l8 qM=>zI 0 Z Z Z Z (zJ Z Z Tryz.call73 (zC Z (zC Z zP)) Z) bL (fun hs=>wCz p0 bg bi bh bj bd be bq br dE je dP hs lW l3 eu l7 l8) (.inr Z) ?_
 rintro fC ss tD fR rS ot ⟨rfl,rfl⟩
 have g7:sW w U fC [B8,inn 3 1 KL.encI aa bN,.blk az 188 dI,.blk b2 36 B0] fR:=ot
 refine bnK qM fun dG ma qN=>?_
 have il:=g7.innFit (j:=1) rfl
 refine zI 2 Z Z Z Z (zJ Z Z Tryz.call121 (zC Z (zC Z (zC Z (zC Z (zC Z zP))))) Z) g7 (fun hs=>wBQ (⟨bN⟩:wAN) am ap aa 0 sf (w64 (-dF.Offset.Lo)) dF.Offset.Hi fR fC hs ma) (.inl Z) ?_
 rintro dQ su tE fS rT ou ⟨rfl,rfl⟩
 have g8:sW w U dQ [B8,inn 3 1 KL.encI aa dG,.blk az 188 dI,.blk b2 36 B0] fS:=ou
 have im:=g8.innFit (j:=1) rfl
 have ow:sW w U dQ [B8,inn 3 1 KL.encI aa dG,.blk az 188 [.slice am dG.length ap],.blk b2 36 B0] fS:=by rw [im.len.symm.trans il.len];exact g8
 refine zo (zt (zH (rR fL3 Z (oM Z cC (oR Z (zi Z Z Z) (oA Z Z (zo ?_)))))))
 obtain rfl:=nA qN
 exact zH ⟨rfl,_,rfl,⟨dQ,b5,gt,(nM (b:=(.slice am bN.length ap:Value)) (c:=(.slice am dG.length ap:Value)) gu (by rw [im.len.symm.trans il.len])),d6,rfl,((bC.trans rS).trans rT),ow⟩⟩
 have iL:=fd;rw [if_neg bH] at iL;replace bH:=zL bH
 refine cF Z bH (ZU (zk ?_))
 have q:=wAR iL
 obtain ⟨r9,qO,jp⟩:=q
 obtain rfl:=pO r9 jp
 refine zk (ZM (zH (zK (sR fL1 Z (oA Z Z (eN (zd (yq (fun (bn,fg) σ_ w_=>∃ (U_:PHeap),σ_ 1=.pointer (some ⟨b2,0,none⟩)/\σ_ 3=jV x5/\σ_ 4=.slice am bn.length ap/\σ_ 8=.pointer (some ⟨az,0,none⟩)/\σ_ 12=jV fg/\PHeap.Le dP U_/\sW w U U_ [B8,inn 3 1 KL.encI aa bn,.blk az 188 [.slice am bn.length ap],.blk b2 36 B0] w_) qO ?_ ?_))))))))
 exact ⟨dP,b5,gt,gu,d6,Z,(zM _),eG⟩
 rintro ⟨bn,fg⟩ tL t7 sF ⟨cY,b9,gv,gw,gx,d7,cK,cG⟩ ff pP
 try dsimp only at ff
 refine zK (sR fL5 Z (oM Z d7 (oR Z (zF Z b9 zU Z yL) (oL Z (cG.ldB (j:=3) Z Z Z yd (v:=.slice bq p0.Readings.length br) Z) (oR Z (zf Z Z Zw) (oR Z (zg Z Z Z) (eN ?_)))))))
 by_cases bI:fg < (↑p0.Readings.length:Int)
 have iM:=ff;rw [if_pos bI] at iM;replace bI:=zL bI
 refine cT Z bI (kN (zK (zd (sR (wHz (.fx 5 (.fx 6 .nil .stop) .stop)) Z (oR Z (zF Z b9 zU Z yL) (oL Z (cG.ldB (j:=3) Z Z Z yd (v:=.slice bq p0.Readings.length br) Z) (oM Z d7 (bnK iM fun aX ey qP=>?_))))))))
 have mb:=dv.le bo
 have mc:=mb.le bp
 have md:=mc.le bf
 have me:=md.le bC
 have eA:=me.le cK
 have q:=eA.el (fun _=>rfl) (wAP ey)
 obtain ⟨sY,tq,mL,mT⟩:=q
 refine oR Z (zz Z Z mL Z Zw yM (wBG ey) (wBI ey)) (oL Z (cG.ldCA (f:=0) mT Z Z Tryz.isAgg117 yM (us:=[jV aX.Skier,jV aX.Mat,jV aX.Clock,jV aX.Time]) Z Z) (zS (cs:=[jV 0,jV 0,jV 0,jV 0]) Z Z Z Z Z Tryz.zeroValue117 Z cG ?_))
 intro sG bX oB
 let bO:List Value:=[jV aX.Skier,jV aX.Mat,jV aX.Clock,jV aX.Time]
 refine zW (j:=0) (vs:=bO) Z Z Z Z oB Z Z Z Z yM (zA Z) Z Z Z ?_
 intro dW oG
 let cy:Res:=.blk az 188 [.slice am bn.length ap]
 have dm:sW w U cY [.blk bX 117 bO,B8,inn 3 1 KL.encI aa bn,cy,.blk b2 36 B0] dW:=oG
 refine eN (sR fL8 Z (oR Z (zF Z b9 zU Z Zp) (oL Z (dm.ldB (j:=4) Z Z Z yC (v:=.slice bd p0.Clocks.length be) Z) (oR Z (zF Z Z ZY Z zD) (oL Z (dm.ldB (j:=0) Z Z Z zG (v:=jV aX.Clock) Z) (bnK qP fun fh eC qQ=>?_))))))
 have mf:=du.le bo
 have mg:=mf.le bp
 have mh:=mg.le bf
 have mi:=mh.le bC
 have eD:=mi.le cK
 have q:=eD.el (fun _=>rfl) (wAP eC)
 obtain ⟨sZ,tu,mM,mU⟩:=q
 refine zm rfl rfl rfl rfl (fun _=>zz rfl rfl mM rfl Zb yZ (wBG eC) (wBI eC)) (zm rfl rfl rfl rfl (fun _=>zF rfl rfl yH rfl zD) (ZI rfl rfl rfl rfl (dm.ldC (f:=2) mU (v:=jV fh.Error) rfl rfl zG rfl) rfl (yk rfl rfl rfl rfl rfl rfl (eN (zy zu [1,1,3,1,2,1,3,1,3,1,2,3,1,3,3,3,3,1,3,0] (wEf (wLP (wSR (.fx 4 (.fx 10 (.fx 19 .nil .stop) .stop) .stop)))) (by kernel_rfl) ?_)))))
 have bt:=dm.drew
 generalize hw_W500:({ dW with drawn:=dW.drawn + 1 }:World)=jf at bt ⊢
 refine oL Z (bt.ldBA (j:=3) Z Z gx Tryz.isAgg188 Tryz.sizeOf188 (vs:=[.slice am bn.length ap]) Z Z) (oL Z (bt.ldBA (j:=4) Z Z b9 Zr Zc (vs:=B0) Z Z) (oR Z (zF Z Z ZY Z zD) (oL Z (bt.ldB (j:=0) Z Z Z zG (v:=jV aX.Clock) Z) (oL Z (bt.ldBA (j:=4) Z Z b9 Zr Zc (vs:=B0) Z Z) (oR Z (zF Z Z ZY Z zD) (oL Z (bt.ldB (j:=0) Z Z Z zG (v:=jV aX.Skier) Z) (oR Z (zF Z Z ZY Z zD) (oL Z (bt.ldB (j:=0) Z Z Z zG (v:=jV aX.Mat) Z) (oR Z (zF Z Z ZY Z zD) (oL Z (bt.ldB (j:=0) Z Z Z zG (v:=jV aX.Time) Z) (oM Z Z (oR Z (zi Z Z Z) (oM Z Z (oR Z (zF Z Z ZY Z zD) (oL Z (bt.ldB (j:=0) Z Z Z zG (v:=jV aX.Time) Z) (oR Z (yg Z Z Z) ?_))))))))))))))))
 have mj:=dr.le bo
 have ml:=mj.le bp
 have mn:=ml.le bf
 have mo:=mn.le bC
 have gP:=mo.le cK
 have mp:=dt.le bo
 have mq:=mp.le bp
 have mr:=mq.le bf
 have ms:=mr.le bC
 have gQ:=ms.le cK
 refine bnK qQ fun sg mu qR=>zI 0 Z Z Z Z (zJ Z Z Tryz.call73 (zC Z (zC Z zP)) Z) bt (fun hs=>wCz p0 bg bi bh bj bd be bq br aX.Clock jf cY hs gP gQ eD eA mu) (.inr Z) ?_
 rintro fD sv tF fT cL oH ⟨rfl,rfl⟩
 have oI:sW w U fD [.blk bX 117 bO,B8,inn 3 1 KL.encI aa bn,cy,.blk b2 36 B0] fT:=oH
 have mw:=gP.le cL
 have my:=gQ.le cL
 have mz:=eD.le cL
 have mA:=eA.le cL
 refine bnK qR fun sh mB qS=>zI 0 Z Z Z Z (zJ Z Z Tryz.call68 (zC Z (zC Z (zC Z zP))) Z) oI (fun hs=>wBr p0 bg bi bh bj bd be bq br aX.Skier aX.Mat fT fD hs mw my mz mA mB) (.inr Z) ?_
 rintro dR sw tG dX rV oK ⟨rfl,rfl⟩
 have g9:sW w U dR [.blk bX 117 bO,B8,inn 3 1 KL.encI aa bn,cy,.blk b2 36 B0] dX:=oK
 refine bnK qS fun dH mC qT=>?_
 have io:=g9.innFit (j:=2) rfl
 have oO:sW w U dR [B8,inn 3 1 KL.encI aa bn,.blk bX 117 bO,cy,.blk b2 36 B0] dX:=g9.pick [1,2,0,3,4] _ (by decide) rfl
 refine zI 2 Z Z Z Z (zJ Z Z Tryz.call121 (zC Z (zC Z (zC Z (zC Z (zC Z zP))))) Z) oO (fun hs=>wBQ (⟨bn⟩:wAN) am ap aa sg sh (w64 (aX.Time + fh.Error)) (w64 (fh.Error - aX.Time)) dX dR hs mC) (.inl Z) ?_
 rintro dS sA tH fU rW oP ⟨rfl,rfl⟩
 have ib:sW w U dS [B8,inn 3 1 KL.encI aa dH,.blk bX 117 bO,cy,.blk b2 36 B0] fU:=oP
 have ip:=ib.innFit (j:=1) rfl
 have oU:sW w U dS [B8,inn 3 1 KL.encI aa dH,.blk bX 117 bO,.blk az 188 [.slice am dH.length ap],.blk b2 36 B0] fU:=by rw [ip.len.symm.trans io.len];exact ib
 refine zo (zt (zH (rR fL3 Z (oM Z d7 (oR Z (zi Z Z Z) (oA Z Z (zo ?_)))))))
 obtain rfl:=nA qT
 exact zH ⟨rfl,_,rfl,⟨dS,b9,gv,(nM (b:=(.slice am bn.length ap:Value)) (c:=(.slice am dH.length ap:Value)) gw (by rw [ip.len.symm.trans io.len])),gx,rfl,(((cK.trans cL).trans rV).trans rW),(oU.pick [0,1,3,4] _ (by decide) rfl)⟩⟩
 have iN:=ff;rw [if_neg bI] at iN;replace bI:=zL bI
 refine cF Z bI (ZU (zk ?_))
 have q:=wAR iN
 obtain ⟨sb,qU,jq⟩:=q
 obtain rfl:=pP sb jq
 refine zk (ZM (zH (zK (sR fL1 Z (oA Z Z (eN (zd (bnK qU fun tS pS qV=>?_))))))))
 have q:=wCl pS
 obtain ⟨eX,pT⟩:=q
 replace eX:=zL eX
 refine CK.forN' (fun ah dx σ_ w_=>∃ (U_:PHeap),σ_ 15=jV (↑ah:Int)/\σ_ 3=jV x5/\σ_ 4=.slice am dx.length ap/\PHeap.Le cY U_/\sW w U U_ [B8,inn 3 1 KL.encI aa dx,.blk az 188 [.slice am dx.length ap],.blk b2 36 B0] w_) pT ?_ ?_ ?_
 exact ⟨cY,Z,gv,gw,(zM _),cG⟩
 rintro ah dx tO t9 sI eS ⟨fE,gG,gy,jx,rY,oW⟩ rL
 have gb:Hid ((↑ah:Int) < x5):=zL (wBR eS)
 replace eS:=zL eS
 have qv:Hid (w64 ((↑ah:Int) + 1)=(↑(ah + 1):Int)):=zL (by have h1:=eX.out;have h2:=gb.out;rw [wAU] <;> omega)
 refine zK (sR fL3 Z (oM Z gG (oM Z gy (oR Z (zg Z Z Z) (eN (cT Z gb (kN (zK (zd (sR fL1 Z (oA Z Z (eN (zd (bnK rL fun tT pU qW=>?_))))))))))))))
 have q:=wCl pU
 obtain ⟨eY,pV⟩:=q
 replace eY:=zL eY
 refine CK.forN' (fun ab dy σ_ w_=>∃ (U_:PHeap),σ_ 16=jV (↑ab:Int)/\σ_ 3=jV x5/\σ_ 4=.slice am dy.length ap/\σ_ 15=jV (↑ah:Int)/\PHeap.Le fE U_/\sW w U U_ [B8,inn 3 1 KL.encI aa dy,.blk az 188 [.slice am dy.length ap],.blk b2 36 B0] w_) pV ?_ ?_ ?_
 exact ⟨fE,Z,gy,jx,gG,(zM _),oW⟩
 rintro ab dy tP ua sJ eT ⟨fG,gH,gz,jz,jA,rZ,oY⟩ rM
 have ge:Hid ((↑ab:Int) < x5):=zL (wBR eT)
 replace eT:=zL eT
 have qw:Hid (w64 ((↑ab:Int) + 1)=(↑(ab + 1):Int)):=zL (by have h1:=eY.out;have h2:=ge.out;rw [wAU] <;> omega)
 refine zK (sR fL3 Z (oM Z gH (oM Z gz (oR Z (zg Z Z Z) (eN (cT Z ge (kN (zK (zd (sR fL1 Z (oA Z Z (eN (zd (bnK rM fun tU pW qX=>?_))))))))))))))
 have q:=wCl pW
 obtain ⟨eZ,pX⟩:=q
 replace eZ:=zL eZ
 refine CK.forN' (fun aT ae σ_ w_=>∃ (U_:PHeap),σ_ 17=jV (↑aT:Int)/\σ_ 3=jV x5/\σ_ 4=.slice am ae.length ap/\σ_ 15=jV (↑ah:Int)/\σ_ 16=jV (↑ab:Int)/\PHeap.Le fG U_/\sW w U U_ [B8,inn 3 1 KL.encI aa ae,.blk az 188 [.slice am ae.length ap],.blk b2 36 B0] w_) pX ?_ ?_ ?_
 exact ⟨fG,Z,gz,jz,jA,gH,(zM _),oY⟩
 rintro aT ae tQ ub fV eU ⟨aS,gI,gA,jC,jD,jE,dz,o0⟩ rN
 have gg:Hid ((↑aT:Int) < x5):=zL (wBR eU)
 replace eU:=zL eU
 have dw:Hid (w64 ((↑aT:Int) + 1)=(↑(aT + 1):Int)):=zL (by have h1:=eZ.out;have h2:=gg.out;rw [wAU] <;> omega)
 refine zK (sR fL3 Z (oM Z gI (oM Z gA (oR Z (zg Z Z Z) (eN (cT Z gg (kN (zK (zd (zK (yi fun cN cp=>?_)))))))))))
 have df:cN 3=jV x5:=(cp 3).trans gA
 have bu:cN 4=.slice am ae.length ap:=(cp 4).trans jC
 have bJ:cN 15=jV (↑ah:Int):=(cp 15).trans jD
 have bQ:cN 16=jV (↑ab:Int):=(cp 16).trans jE
 have bR:cN 17=jV (↑aT:Int):=(cp 17).trans gI
 clear cp
 refine zy zu [3,3,3,1,3,3,1,3,3,3,3,3,1,3,3,1,3,3,3,3,3,3,1,3,3,1,3,3,3,1,3,3,1,3,3,3,3,1,3,3,1,3,3] fL43 (by kernel_rfl) ?_
 have cj:=o0.drew
 generalize hw_W662:({ fV with drawn:=fV.drawn + 1 }:World)=bb at cj ⊢
 refine oM Z bu (oM Z bQ (bnK rN fun _ a0 qZ=>?_))
 obtain ⟨s5,ba⟩:=cj.rowSome (j:=0) rfl (by rw [wAJ (f:=wDU) (sz:=1) (fun _=>rfl),(cj.innFit (j:=1) rfl).len];have hz:=wAQ a0;omega)
 refine oR Z (ZJ Z Z ba Z zV zX (wAQ a0)) ?_
 have iq:=cj.innFit (j:=1) rfl
 have qc:=wBJ (xs:=aa) (k:=ab) (by rw [iq.len];exact (wAQ a0))
 have rC:nG (gd aa ab).A (gd aa ab).n (gd aa ab).c=.slice ((gd aa ab).A) ((gd ae ab).length) ((gd aa ab).c):=by rw [iq.at_ (k:=ab) (wAQ a0)]
 refine ZI rfl rfl rfl rfl (yp (cj.ldR (j:=0) rfl ba rfl rfl zY (wAV (sz:=1) (fun _=>rfl) _ _ 0 _ qc (by first | omega | rfl | simp) rfl)) rC) rfl ?_
 let aU:Res:=.blk az 188 [.slice am ae.length ap]
 have o3:sW w U aS [inn 3 1 KL.encI aa ae,B8,aU,.blk b2 36 B0] bb:=cj.pick [1,0,2,3] _ (by decide) rfl
 have o5:=o3.innTake (k:=ab) (wAQ a0)
 let cU:Res:=.row ((gd aa ab).A) ((gd aa ab).c) 3 1 (hH KL.encI (gd ae ab))
 have cm:sW w U aS [cU,wJj 3 1 KL.encI aa ae ab,B8,aU,.blk b2 36 B0] bb:=o5
 refine oM Z bJ (bnK qZ fun _ bS rc=>?_)
 obtain ⟨s6,bs⟩:=cm.rowSome (j:=0) rfl (by rw [wAJ (f:=KL.encI) (sz:=1) (fun _=>rfl) (gd ae ab)];have hz:=wAQ bS;omega)
 refine oR Z (ZJ Z Z bs Z zB zD (wAQ bS)) ?_
 have qd:=wBJ (xs:=(gd ae ab)) (wAQ bS)
 refine ZI rfl rfl rfl rfl (cm.ldR (j:=0) rfl bs rfl rfl zG (wAV (sz:=1) (fun _=>rfl) _ _ 0 _ qd (by first | omega | rfl | simp) rfl)) rfl (zm rfl rfl rfl rfl (fun _=>zg rfl rfl rfl) (ZA rfl rfl rfl rfl rfl rfl (ifc rc ?_ ?_)))
 intro aW re
 refine ZA Z Z Z (wT Z aW) Z bu (ZA Z Z Z (wT Z aW) Z bJ (bnK re fun _ bk ri=>rU Z (wT Z aW) (ZJ Z Z ba Z zV zX (wAQ bk)) ?_))
 have s9:=(cm.innHFit (j:=1) rfl).1
 have q:=cm.innHFit (j:=1) rfl
 obtain ⟨pY,iO⟩:=q
 have iO:(gd ae ab).length=(gd aa ab).n:=nM rfl (pY.at_ (k:=ab) iO).symm
 have o6:=cm.innBack0
 have eH:sW w U aS [inn 3 1 KL.encI aa ae,B8,aU,.blk b2 36 B0] bb:=o6
 have ir:=eH.innFit (j:=0) rfl
 have qe:=wBJ (xs:=aa) (k:=ah) (by rw [ir.len];exact (wAQ bk))
 have rD:nG (gd aa ah).A (gd aa ah).n (gd aa ah).c=.slice ((gd aa ah).A) ((gd ae ah).length) ((gd aa ah).c):=by rw [ir.at_ (k:=ah) (wAQ bk)]
 refine ZI rfl rfl rfl (zO rfl rfl (Zk aW.out)) (yp (eH.ldR (j:=1) rfl ba rfl rfl zY (wAV (sz:=1) (fun _=>rfl) _ _ 0 _ qe (by first | omega | rfl | simp) rfl)) rD) rfl ?_
 have o8:=eH.innTake (k:=ah) (wAQ bk)
 let dJ:Res:=.row ((gd aa ah).A) ((gd aa ah).c) 3 1 (hH KL.encI (gd ae ah))
 have cn:sW w U aS [dJ,wJj 3 1 KL.encI aa ae ah,B8,aU,.blk b2 36 B0] bb:=o8
 refine ZA Z Z Z (wT Z aW) Z bR (bnK ri fun _ bT rj=>?_)
 obtain ⟨s7,cg⟩:=cn.rowSome (j:=0) rfl (by rw [wAJ (f:=KL.encI) (sz:=1) (fun _=>rfl) (gd ae ah)];have hz:=wAQ bT;omega)
 refine rU Z (wT Z aW) (ZJ Z Z cg Z zB zD (wAQ bT)) ?_
 have qf:=wBJ (xs:=(gd ae ah)) (wAQ bT)
 refine ZI rfl rfl rfl (zO rfl rfl (Zk aW.out)) (cn.ldR (j:=0) rfl cg rfl rfl zG (wAV (sz:=1) (fun _=>rfl) _ _ 0 _ qf (by first | omega | rfl | simp) rfl)) rfl (zm rfl rfl rfl (zO rfl rfl (Zk aW.out)) (fun _=>zg rfl rfl rfl) (zm rfl rfl rfl rfl (fun _=>zn rfl (Zk aW.out) rfl) (ZA rfl rfl rfl rfl rfl rfl (ifc rj ?_ ?_))))
 intro ak rn
 refine ZA Z Z Z (wT Z ak) Z bu (ZA Z Z Z (wT Z ak) Z bQ (rU Z (wT Z ak) (ZJ Z Z ba Z zV zX (wAQ a0)) ?_))
 have tc:=(cn.innHFit (j:=1) rfl).1
 have q:=cn.innHFit (j:=1) rfl
 obtain ⟨pZ,iP⟩:=q
 have iP:(gd ae ah).length=(gd aa ah).n:=nM rfl (pZ.at_ (k:=ah) iP).symm
 have o9:=cn.innBack0
 have eI:sW w U aS [inn 3 1 KL.encI aa ae,B8,aU,.blk b2 36 B0] bb:=o9
 have it:=eI.innFit (j:=0) rfl
 have qh:=wBJ (xs:=aa) (k:=ab) (by rw [it.len];exact (wAQ a0))
 have rE:nG (gd aa ab).A (gd aa ab).n (gd aa ab).c=.slice ((gd aa ab).A) ((gd ae ab).length) ((gd aa ab).c):=by rw [it.at_ (k:=ab) (wAQ a0)]
 refine ZI rfl rfl rfl (zO rfl rfl (Zk ak.out)) (yp (eI.ldR (j:=1) rfl ba rfl rfl zY (wAV (sz:=1) (fun _=>rfl) _ _ 0 _ qh (by first | omega | rfl | simp) rfl)) rE) rfl ?_
 have pe:=eI.innTake (k:=ab) (wAQ a0)
 have dp:sW w U aS [cU,wJj 3 1 KL.encI aa ae ab,B8,aU,.blk b2 36 B0] bb:=pe
 refine ZA Z Z Z (wT Z ak) Z bJ (rU Z (wT Z ak) (ZJ Z Z bs Z zB zD (wAQ bS)) ?_)
 have qi:=wBJ (xs:=(gd ae ab)) (wAQ bS)
 refine ZI rfl rfl rfl (zO rfl rfl (Zk ak.out)) (dp.ldR (j:=0) rfl bs rfl rfl zG (wAV (sz:=1) (fun _=>rfl) _ _ 0 _ qi (by first | omega | rfl | simp) rfl)) rfl (ZA rfl rfl rfl (zO rfl rfl (Zk ak.out)) rfl bu (ZA rfl rfl rfl (zO rfl rfl (Zk ak.out)) rfl bJ (zm rfl rfl rfl (zO rfl rfl (Zk ak.out)) (fun _=>ZJ rfl rfl ba rfl zV zX (wAQ bk)) ?_)))
 have td:=(dp.innHFit (j:=1) rfl).1
 have q:=dp.innHFit (j:=1) rfl
 obtain ⟨p6,iQ⟩:=q
 have iQ:(gd ae ab).length=(gd aa ab).n:=nM rfl (p6.at_ (k:=ab) iQ).symm
 have pg:=dp.innBack0
 have eJ:sW w U aS [inn 3 1 KL.encI aa ae,B8,aU,.blk b2 36 B0] bb:=pg
 have iu:=eJ.innFit (j:=0) rfl
 have qj:=wBJ (xs:=aa) (k:=ah) (by rw [iu.len];exact (wAQ bk))
 have rF:nG (gd aa ah).A (gd aa ah).n (gd aa ah).c=.slice ((gd aa ah).A) ((gd ae ah).length) ((gd aa ah).c):=by rw [iu.at_ (k:=ah) (wAQ bk)]
 refine ZI rfl rfl rfl (zO rfl rfl (Zk ak.out)) (yp (eJ.ldR (j:=1) rfl ba rfl rfl zY (wAV (sz:=1) (fun _=>rfl) _ _ 0 _ qj (by first | omega | rfl | simp) rfl)) rF) rfl ?_
 have ph:=eJ.innTake (k:=ah) (wAQ bk)
 have dq:sW w U aS [dJ,wJj 3 1 KL.encI aa ae ah,B8,aU,.blk b2 36 B0] bb:=ph
 refine ZA Z Z Z (wT Z ak) Z bR (rU Z (wT Z ak) (ZJ Z Z cg Z zB zD (wAQ bT)) ?_)
 have qk:=wBJ (xs:=(gd ae ah)) (wAQ bT)
 refine ZI rfl rfl rfl (zO rfl rfl (Zk ak.out)) (dq.ldR (j:=0) rfl cg rfl rfl zG (wAV (sz:=1) (fun _=>rfl) _ _ 0 _ qk (by first | omega | rfl | simp) rfl)) rfl (zm rfl rfl rfl (zO rfl rfl (Zk ak.out)) (fun _=>zi rfl rfl rfl) (ZA rfl rfl rfl (zO rfl rfl (Zk ak.out)) rfl bu (ZA rfl rfl rfl (zO rfl rfl (Zk ak.out)) rfl bQ (zm rfl rfl rfl (zO rfl rfl (Zk ak.out)) (fun _=>ZJ rfl rfl ba rfl zV zX (wAQ a0)) ?_))))
 have te:=(dq.innHFit (j:=1) rfl).1
 have q:=dq.innHFit (j:=1) rfl
 obtain ⟨p7,iR⟩:=q
 have iR:(gd ae ah).length=(gd aa ah).n:=nM rfl (p7.at_ (k:=ah) iR).symm
 have pj:=dq.innBack0
 have eK:sW w U aS [inn 3 1 KL.encI aa ae,B8,aU,.blk b2 36 B0] bb:=pj
 have iv:=eK.innFit (j:=0) rfl
 have qm:=wBJ (xs:=aa) (k:=ab) (by rw [iv.len];exact (wAQ a0))
 have rG:nG (gd aa ab).A (gd aa ab).n (gd aa ab).c=.slice ((gd aa ab).A) ((gd ae ab).length) ((gd aa ab).c):=by rw [iv.at_ (k:=ab) (wAQ a0)]
 refine ZI rfl rfl rfl (zO rfl rfl (Zk ak.out)) (yp (eK.ldR (j:=1) rfl ba rfl rfl zY (wAV (sz:=1) (fun _=>rfl) _ _ 0 _ qm (by first | omega | rfl | simp) rfl)) rG) rfl ?_
 have pk:=eK.innTake (k:=ab) (wAQ a0)
 have eL:sW w U aS [cU,wJj 3 1 KL.encI aa ae ab,B8,aU,.blk b2 36 B0] bb:=pk
 refine ZA Z Z Z (wT Z ak) Z bR (bnK rn fun _ cE ro=>rU Z (wT Z ak) (ZJ Z Z bs Z zB zD (wAQ cE)) ?_)
 have qn:=wBJ (xs:=(gd ae ab)) (wAQ cE)
 refine ZI rfl rfl rfl (zO rfl rfl (Zk ak.out)) (eL.ldR (j:=0) rfl bs rfl rfl zG (wAV (sz:=1) (fun _=>rfl) _ _ 0 _ qn (by first | omega | rfl | simp) rfl)) rfl (zm rfl rfl rfl (zO rfl rfl (Zk ak.out)) (fun _=>zg rfl rfl rfl) (zm rfl rfl rfl rfl (fun _=>zn rfl (Zk ak.out) rfl) (eN (ifc ro ?_ ?_))))
 intro dZ rp
 refine cT Z dZ (yi fun cO cq=>?_)
 have jG:cO 3=jV x5:=(cq 3).trans df
 have dg:cO 4=.slice am ae.length ap:=(cq 4).trans bu
 have d9:cO 15=jV (↑ah:Int):=(cq 15).trans bJ
 have ec:cO 16=jV (↑ab:Int):=(cq 16).trans bQ
 have ef:cO 17=jV (↑aT:Int):=(cq 17).trans bR
 clear cq
 refine zy zu [3,3,3,1,3,3,3,3,1,3,3,1,3,3,3,1,3,3,1,3,3,3,0] (wTy (.fx 22 .nil .stop)) (by kernel_rfl) ?_
 have bw:=eL.drew
 generalize hw_W749:({ bb with drawn:=bb.drawn + 1 }:World)=db at bw ⊢
 refine oM Z dg (oM Z ec (oR Z (ZJ Z Z ba Z zV zX (wAQ a0)) ?_))
 have q:=bw.innHFit (j:=1) rfl
 obtain ⟨iw,iT⟩:=q
 have qo:=wBJ (xs:=aa) (k:=ab) (by rw [iw.len];exact iT)
 have rH:nG (gd aa ab).A (gd aa ab).n (gd aa ab).c=.slice ((gd aa ab).A) ((gd ae ab).length) ((gd aa ab).c):=congrArg (fun n_=>nG (gd aa ab).A n_ (gd aa ab).c) ((iw.at_ (k:=ab) iT).trans (Eq.symm rfl))
 refine ZI rfl rfl rfl rfl (yp (bw.ldR (j:=2) rfl ba rfl rfl zY (wAV (sz:=1) (fun _=>rfl) _ _ 0 _ qo (by first | omega | rfl | simp) rfl)) rH) rfl (ZA rfl rfl rfl rfl rfl ef (ZA rfl rfl rfl rfl rfl dg (ZA rfl rfl rfl rfl rfl ec (zm rfl rfl rfl rfl (fun _=>ZJ rfl rfl ba rfl zV zX (wAQ a0)) ?_))))
 have q:=bw.innHFit (j:=1) rfl
 obtain ⟨iy,iU⟩:=q
 have qp:=wBJ (xs:=aa) (k:=ab) (by rw [iy.len];exact iU)
 have rI:nG (gd aa ab).A (gd aa ab).n (gd aa ab).c=.slice ((gd aa ab).A) ((gd ae ab).length) ((gd aa ab).c):=congrArg (fun n_=>nG (gd aa ab).A n_ (gd aa ab).c) ((iy.at_ (k:=ab) iU).trans (Eq.symm rfl))
 refine ZI rfl rfl rfl rfl (yp (bw.ldR (j:=2) rfl ba rfl rfl zY (wAV (sz:=1) (fun _=>rfl) _ _ 0 _ qp (by first | omega | rfl | simp) rfl)) rI) rfl (ZA rfl rfl rfl rfl rfl d9 (zm rfl rfl rfl rfl (fun _=>ZJ rfl rfl bs rfl zB zD (wAQ bS)) ?_))
 have qq:=wBJ (xs:=(gd ae ab)) (wAQ bS)
 refine ZI rfl rfl rfl rfl (bw.ldR (j:=0) rfl bs rfl rfl zG (wAV (sz:=1) (fun _=>rfl) _ _ 0 _ qq (by first | omega | rfl | simp) rfl)) rfl (ZA rfl rfl rfl rfl rfl dg (ZA rfl rfl rfl rfl rfl d9 (zm rfl rfl rfl rfl (fun _=>ZJ rfl rfl ba rfl zV zX (wAQ bk)) ?_)))
 have tf:=(bw.innHFit (j:=1) rfl).1
 have q:=bw.innHFit (j:=1) rfl
 obtain ⟨iz,e9⟩:=q
 have e9:(gd ae ab).length=(gd aa ab).n:=nM rfl (iz.at_ (k:=ab) e9).symm
 have pm:=bw.innBack0
 have eM:sW w U aS [inn 3 1 KL.encI aa ae,B8,aU,.blk b2 36 B0] db:=pm
 have iA:=eM.innFit (j:=0) rfl
 have qr:=wBJ (xs:=aa) (k:=ah) (by rw [iA.len];exact (wAQ bk))
 have rJ:nG (gd aa ah).A (gd aa ah).n (gd aa ah).c=.slice ((gd aa ah).A) ((gd ae ah).length) ((gd aa ah).c):=by rw [iA.at_ (k:=ah) (wAQ bk)]
 refine ZI rfl rfl rfl rfl (yp (eM.ldR (j:=1) rfl ba rfl rfl zY (wAV (sz:=1) (fun _=>rfl) _ _ 0 _ qr (by first | omega | rfl | simp) rfl)) rJ) rfl ?_
 have pn:=eM.innTake (k:=ah) (wAQ bk)
 have eO:sW w U aS [dJ,wJj 3 1 KL.encI aa ae ah,B8,aU,.blk b2 36 B0] db:=pn
 refine oM Z ef (oR Z (ZJ Z Z cg Z zB zD (wAQ bT)) ?_)
 have qt:=wBJ (xs:=(gd ae ah)) (wAQ bT)
 refine ZI rfl rfl rfl rfl (eO.ldR (j:=0) rfl cg rfl rfl zG (wAV (sz:=1) (fun _=>rfl) _ _ 0 _ qt (by first | omega | rfl | simp) rfl)) rfl (zm rfl rfl rfl rfl (fun _=>zi rfl rfl rfl) (zm rfl rfl rfl rfl (fun _=>Runs.max rfl rfl rfl) ?_))
 have q:=eO.innHFit (j:=1) rfl
 obtain ⟨p8,iV⟩:=q
 have iV:(gd ae ah).length=(gd aa ah).n:=nM rfl (p8.at_ (k:=ah) iV).symm
 have po:=eO.innBack0
 have ic:sW w U aS [inn 3 1 KL.encI aa ae,B8,aU,.blk b2 36 B0] db:=po
 have iB:=ic.innFit (j:=0) rfl
 have iD:ab < ae.length:=nN (wAQ a0) (iz.len.symm.trans iB.len)
 have pp:=ic.innTake (k:=ab) iD
 have pq:sW w U aS [cU,wJj 3 1 KL.encI aa ae ab,B8,aU,.blk b2 36 B0] db:=pp
 refine oR Z (ZJ Z (nM (b:=(.slice ((gd aa ab).A) ((gd aa ab).n) ((gd aa ab).c):Value)) (c:=(.slice ((gd aa ab).A) ((gd ae ab).length) ((gd aa ab).c):Value)) (nM (b:=(.slice ((gd aa ab).A) ((gd ae ab).length) ((gd aa ab).c):Value)) (c:=(.slice ((gd aa ab).A) ((gd aa ab).n) ((gd aa ab).c):Value)) Z (congrArg (fun n_=>nG ((gd aa ab).A) n_ ((gd aa ab).c)) e9)) (congrArg (fun n_=>nG ((gd aa ab).A) n_ ((gd aa ab).c)) (iB.at_ (k:=ab) iD))) bs Z zB zD (wAQ cE)) ?_
 have qu:=wBJ (xs:=(gd ae ab)) (wAQ cE)
 refine yl (j:=0) (vs:=[jV (max (w64 ((gd (gd ae ab) ah) + (gd (gd ae ah) aT))) (-1125899906842624))]) (cs':=hH KL.encI (nE (gd ae ab) aT (max (w64 ((gd (gd ae ab) ah) + (gd (gd ae ah) aT))) (-1125899906842624)))) rfl rfl rfl rfl pq rfl bs rfl rfl rfl zD (by rw [wAJ (f:=KL.encI) (sz:=1) (fun _=>rfl)];have hz:=wAQ cE;show _ + 1 <= _;first | omega | (simp only [nL];omega) | (simp only [nJ,nH,nI];omega)) rfl (wDM (sz:=1) (fo:=0) (fun _=>rfl) _ _ _ _ qu (by first | omega | (simp only [nL];omega) | (simp only [nJ,nH,nI];omega)) (zA rfl) rfl) rfl ?_
 intro dY pt
 have pu:sW w U aS [.row ((gd aa ab).A) ((gd aa ab).c) 3 1 (hH KL.encI (nE (gd ae ab) aT (max (w64 ((gd (gd ae ab) ah) + (gd (gd ae ah) aT))) (-1125899906842624)))),wJj 3 1 KL.encI aa ae ab,B8,aU,.blk b2 36 B0] dY:=pt
 refine zo (zt (zH (rR fL3 Z (oM Z ef (oR Z (ZT (zi Z Z Z) (congrArg (jV) dw.out)) (oA Z Z (zo ?_)))))))
 have py:=pu.innBack nK
 have pz:sW w U aS [inn 3 1 KL.encI aa (nE ae ab (nE (gd ae ab) aT (max (w64 ((gd (gd ae ab) ah) + (gd (gd ae ah) aT))) (-1125899906842624)))),B8,aU,.blk b2 36 B0] dY:=py
 have pB:sW w U aS [inn 3 1 KL.encI aa (nE ae ab (nE (gd ae ab) aT (max (w64 ((gd (gd ae ab) ah) + (gd (gd ae ah) aT))) (-1125899906842624)))),B8,.blk az 188 [.slice am ((nE ae ab (nE (gd ae ab) aT (max (w64 ((gd (gd ae ab) ah) + (gd (gd ae ah) aT))) (-1125899906842624)))).length) ap],.blk b2 36 B0] dY:=by simpa only [B0,aU,B8,nK] using pz
 cases rp
 exact zH ⟨rfl,⟨aS,rfl,jG,(nM (b:=(.slice am ae.length ap:Value)) (c:=(.slice am ((nE ae ab (nE (gd ae ab) aT (max (w64 ((gd (gd ae ab) ah) + (gd (gd ae ah) aT))) (-1125899906842624)))).length) ap:Value)) dg (by simp only [nK])),d9,ec,dz,(pB.pick [1,0,2,3] _ (by decide) rfl)⟩⟩
 intro dZ rq
 refine cF Z dZ (Ze (zt (zH (yi fun cP cr=>?_))))
 have jH:cP 3=jV x5:=(cr 3).trans df
 have jJ:cP 4=.slice am ae.length ap:=(cr 4).trans bu
 have jK:cP 15=jV (↑ah:Int):=(cr 15).trans bJ
 have jL:cP 16=jV (↑ab:Int):=(cr 16).trans bQ
 have jM:cP 17=jV (↑aT:Int):=(cr 17).trans bR
 clear cr
 refine rR fL3 Z (oM Z jM (oR Z (ZT (zi Z Z Z) (congrArg (jV) dw.out)) (oA Z Z (zo ?_))))
 have pC:=eL.innBack0
 have pD:sW w U aS [inn 3 1 KL.encI aa ae,B8,aU,.blk b2 36 B0] bb:=pC
 cases rq
 exact zH ⟨rfl,⟨aS,rfl,jH,jJ,jK,jL,dz,(pD.pick [1,0,2,3] _ (by decide) rfl)⟩⟩
 intro ak ry
 refine oF Z ak (oF Z ak (oF Z ak (oF Z ak (oF Z ak (oF Z ak (oF Z ak (oF Z ak (oF Z ak (oF Z ak (oF Z ak (oF Z ak (oF Z ak (oF Z ak (oF Z ak (oF Z ak (oF Z ak (oF Z ak (oF Z ak (oF Z ak (oF Z ak (oF Z ak (oF Z ak (oR Z (zq Z (Zh ak.out) Z) (eN (zx Z (Ze (zt (zH (yi fun cQ ct=>?_)))))))))))))))))))))))))))))
 have jN:cQ 3=jV x5:=(ct 3).trans df
 have jO:cQ 4=.slice am ae.length ap:=(ct 4).trans bu
 have jP:cQ 15=jV (↑ah:Int):=(ct 15).trans bJ
 have jQ:cQ 16=jV (↑ab:Int):=(ct 16).trans bQ
 have jR:cQ 17=jV (↑aT:Int):=(ct 17).trans bR
 clear ct
 refine rR fL3 Z (oM Z jR (oR Z (ZT (zi Z Z Z) (congrArg (jV) dw.out)) (oA Z Z (zo ?_))))
 have pE:=cn.innBack0
 have pF:sW w U aS [inn 3 1 KL.encI aa ae,B8,aU,.blk b2 36 B0] bb:=pE
 cases ry
 exact zH ⟨rfl,⟨aS,rfl,jN,jO,jP,jQ,dz,(pF.pick [1,0,2,3] _ (by decide) rfl)⟩⟩
 intro aW rA
 refine oF Z aW (oF Z aW (oF Z aW (oF Z aW (oF Z aW (oF Z aW (oF Z aW (oF Z aW (oR Z (zq Z (Zh aW.out) Z) (oM Z Z (oN Z (oN Z (oN Z (oN Z (oN Z (oN Z (oN Z (oN Z (oN Z (oN Z (oN Z (oN Z (oN Z (oN Z (oN Z (oN Z (oN Z (oN Z (oN Z (oN Z (oN Z (oN Z (oN Z (oR Z (zq Z Z Z) (eN (zx Z (Ze (zt (zH (yi fun cR cu=>?_)))))))))))))))))))))))))))))))))))))))
 have jS:cR 3=jV x5:=(cu 3).trans df
 have jU:cR 4=.slice am ae.length ap:=(cu 4).trans bu
 have jW:cR 15=jV (↑ah:Int):=(cu 15).trans bJ
 have jX:cR 16=jV (↑ab:Int):=(cu 16).trans bQ
 have jY:cR 17=jV (↑aT:Int):=(cu 17).trans bR
 clear cu
 refine rR fL3 Z (oM Z jY (oR Z (ZT (zi Z Z Z) (congrArg (jV) dw.out)) (oA Z Z (zo ?_))))
 have pG:=cm.innBack0
 have pH:sW w U aS [inn 3 1 KL.encI aa ae,B8,aU,.blk b2 36 B0] bb:=pG
 cases rA
 exact zH ⟨rfl,⟨aS,rfl,jS,jU,jW,jX,dz,(pH.pick [1,0,2,3] _ (by decide) rfl)⟩⟩
 rintro ud sK ⟨i4,lg,gB,jZ,j0,j5,r0,pI⟩
 have jj:Hid (¬ ((↑((x5:Int) - 0).toNat:Int) < x5)):=zL (wAs)
 refine zK (sR fL3 Z (oM Z lg (oM Z gB (oR Z (zg Z Z Z) (eN (cF Z jj (ZU (zk (zk (ZM (zt (zH (rR fL3 Z (oM Z j5 (oR Z (ZT (zi Z Z Z) (congrArg (jV) qw.out)) (oA Z Z (zo ?_)))))))))))))))))
 cases qX
 exact zH ⟨Z,⟨i4,Z,gB,jZ,j0,(rZ.trans r0),pI⟩⟩
 rintro ue sL ⟨i6,lh,gC,j6,j7,r6,pJ⟩
 have jk:Hid (¬ ((↑((x5:Int) - 0).toNat:Int) < x5)):=zL (wAs)
 refine zK (sR fL3 Z (oM Z lh (oM Z gC (oR Z (zg Z Z Z) (eN (cF Z jk (ZU (zk (zk (ZM (zt (zH (rR fL3 Z (oM Z j7 (oR Z (ZT (zi Z Z Z) (congrArg (jV) qv.out)) (oA Z Z (zo ?_)))))))))))))))))
 cases qW
 exact zH ⟨Z,⟨i6,Z,gC,j6,(rY.trans r6),pJ⟩⟩
 rintro ug sM ⟨i8,li,j8,j9,tg,pK⟩
 have jl:Hid (¬ ((↑((x5:Int) - 0).toNat:Int) < x5)):=zL (wAs)
 refine zK (sR fL3 Z (oM Z li (oM Z j8 (oR Z (zg Z Z Z) (eN (cF Z jl (ZU (zk (zk (ZM (zH (sR fL2 Z (oM Z j9 (oA Z Z (eN (zR ?_))))))))))))))))
 have hE:=nA qV;first | subst r | cases hE
 exact ⟨rfl,_,(ZF rfl),i8,_,(pK.pick [0,1] _ (by decide) rfl),am,ap,aa,rfl,rfl⟩
end Go.Proofs.YtlnfbjphfoipaaaGreat
namespace Go.Proofs.YtlnfbjphfoipaaaGreat
open Go.KL
set_option maxHeartbeats 4000000
theorem wFU (p0:wAK) (ak:Option Addr) (au:Nat) (am:Option Addr) (av:Nat) (ap:Option Addr) (az:Nat) (aq:Option Addr) (aS:Nat) (w:World) (U:PHeap) (hS:St0 w U []) (bM:Sl U 1 ak au p0.Starts.length (hH KL.encI p0.Starts)) (bN:Sl U 2 am av p0.Splits.length (hH wAB p0.Splits)) (bO:Sl U 3 ap az p0.Clocks.length (hH wAG p0.Clocks)) (bP:Sl U 4 aq aS p0.Readings.length (hH wAF p0.Readings)) {r:Bool} (hm:wBm p0=some r):Gv Tryz.prog 72 [.agg #[.slice ak p0.Starts.length au,.slice am p0.Splits.length av,.slice ap p0.Clocks.length az,.slice aq p0.Readings.length aS]] w (wCs w [] U (fun U_ L_ v=>v=.bool r/\L_=[])):=by
 unfold wBm at hm
 refine Gv.of Tryz.func72 Z Tryz.ntmps72 Tryz.results72 Z (sR gDb Z ?_)
 let B0:List Value:=[.slice ak p0.Starts.length au,.slice am p0.Splits.length av,.slice ap p0.Clocks.length az,.slice aq p0.Readings.length aS]
 refine ZH (cs:=B0) rfl rfl rfl rfl rfl rfl (by rfl) hS ?_
 intro W1 b2 bk
 refine oA Z Z (eN (sR gDd Z (oL Z (bk.ldBA (j:=0) Z Z Z Zr Zc (vs:=B0) Z Z) (bnK hm fun x5 h6 bb=>zI 0 Z Z Z Z (zJ Z Z Tryz.call67 (zC Z zP) Z) bk (fun hs=>wFT p0 ak au am av ap az aq aS W1 U hs bM bN bO bP h6) (.inr Z) ?_))))
 rintro U8 L9 ct be cm bH ⟨bd,bf,bh,rfl,rfl⟩
 have bI:sW w U U8 [.row bd bf 22 1 (hH wDU bh),inn 3 1 KL.encI bh x5,.blk b2 36 B0] be:=bH
 have q:=St.freezeN (R:=wEx) bI (fun _ _ _ _ h=>⟨_,_,rfl,h⟩) (fun _=>rfl) (by decide) rfl
 obtain ⟨aT,cn,b5,bJ⟩:=q
 have bK:sW w U aT [.blk b2 36 B0] be:=bJ
 refine oA Z Z (eN (zK (sR fL1 Z (oA Z Z (eN (zd ?_))))))
 have q:=wCD bb
 obtain ⟨cr,aZ⟩:=q
 have q:=wCC aZ
 obtain ⟨ba,bS⟩:=q
 replace ba:=zL ba
 refine yK (fun ab _ σ_ w_=>∃ (U_:PHeap),σ_ 4=jV (↑ab:Int)/\σ_ 3=.slice bd x5.length bf/\PHeap.Le aT U_/\sW w U U_ [.blk b2 36 B0] w_) bS ?_ ?_ ?_
 exact ⟨aT,Z,Z,(zM _),bK⟩
 rintro ab ⟨⟩ cw cx cf a0 ⟨aU,ai,aX,bo,aj⟩ bn bQ
 try dsimp only at bn
 have bg:Hid ((↑ab:Int) < (↑x5.length:Int)):=zL (wBR a0)
 replace a0:=zL a0
 have bT:Hid (w64 ((↑ab:Int) + 1)=(↑(ab + 1):Int)):=zL (by have h1:=ba.out;have h2:=bg.out;rw [wAU] <;> omega)
 refine zK (sR fL4 Z (oM Z ai (oM Z aX (oR Z (zf Z Z zV) (oR Z (zg Z Z Z) (eN (cT Z bg (kN (zK (zd (sR fL8 Z (oM Z aX (oM Z ai (bnK bn fun x44 bi bU=>?_))))))))))))))
 have bB:=b5.le bo
 have q:=bB.el (wAP bi)
 obtain ⟨bu,b9,cu,bE,aY,bZ⟩:=q
 obtain ⟨bp,bq,rfl,bC⟩:=bZ
 replace aY:Cl aU bu (b9 + ab * 1) [.slice bp x44.length bq]:=aY
 refine oR Z (ZJ Z Z bE Z zV zX (wBa bi)) (oL Z (aj.ldC (f:=0) aY (v:=.slice bp x44.length bq) Z Z zY Z) (oM Z ai (bnK bU fun x57 bj bV=>?_)))
 have q:=bC.el (fun _=>rfl) (wAP bj)
 obtain ⟨cj,cq,bF,bG⟩:=q
 refine oR Z (ZJ Z Z bF Z zB zD (wBa bj)) (oL Z (aj.ldC (f:=0) bG (v:=jV x57) Z Z zG Z) (oR Z (zg Z Z Z) (eN (ifc bV ?_ ?_))))
 intro aW bW
 refine cT Z aW (sR fL1 Z (oA Z Z (eN (zR (zZ (zN ?_))))))
 have q:=wAR bW
 obtain ⟨cb,bX,bw⟩:=q
 obtain rfl:=wCE bb aZ (bQ cb bw)
 refine zN (zZ (zN ?_))
 have hE:=nA bX;first | subst r | cases hE
 exact ⟨rfl,_,(ZF rfl),aU,_,(aj.pick [] _ (by decide) rfl),rfl,rfl⟩
 intro aW bY
 refine cF Z aW (Ze (zt (zH (rR fL3 Z (oM Z ai (oR Z (ZT (zi Z Z Z) (congrArg (jV) bT.out)) (oA Z Z (zo ?_))))))))
 obtain rfl:=nA bY
 exact zH ⟨Z,_,Z,⟨aU,Z,aX,bo,aj⟩⟩
 rintro ⟨⟩ cy cg ⟨br,bA,bz,cp,bL⟩ bR
 have bm:=wCp bb aZ bR
 try dsimp only at bm
 have bv:Hid (¬ ((↑(((↑x5.length:Int):Int) - 0).toNat:Int) < (↑x5.length:Int))):=zL (wAs)
 refine zK (sR fL4 Z (oM Z bA (oM Z bz (oR Z (zf Z Z zV) (oR Z (zg Z Z Z) (eN (cF Z bv (ZU (zk (zk (ZM (zH (sR fL1 Z (oA Z Z (eN (zR ?_))))))))))))))))
 have hE:=nA bm;first | subst r | cases hE
 exact ⟨rfl,_,(ZF rfl),br,_,(bL.pick [] _ (by decide) rfl),rfl,rfl⟩
theorem wFI (p0:wAK) (ae:Option Addr) (ak:Nat) (ah:Option Addr) (am:Nat) (ai:Option Addr) (ap:Nat) (aj:Option Addr) (aq:Nat) (w:World) (U:PHeap) (hS:St0 w U []) (aZ:Sl U 1 ae ak p0.Starts.length (hH KL.encI p0.Starts)) (a0:Sl U 2 ah am p0.Splits.length (hH wAB p0.Splits)) (ba:Sl U 3 ai ap p0.Clocks.length (hH wAG p0.Clocks)) (bb:Sl U 4 aj aq p0.Readings.length (hH wAF p0.Readings)) {r:Int} (hm:wBe p0=some r):Gv Tryz.prog 38 [.agg #[.slice ae p0.Starts.length ak,.slice ah p0.Splits.length am,.slice ai p0.Clocks.length ap,.slice aj p0.Readings.length aq]] w (wCs w [] U (fun U_ L_ v=>v=jV r/\L_=[])):=by
 unfold wBe at hm
 refine Gv.of Tryz.func38 Z Tryz.ntmps38 Tryz.results38 Z (sR gDb Z ?_)
 let B0:List Value:=[.slice ae p0.Starts.length ak,.slice ah p0.Splits.length am,.slice ai p0.Clocks.length ap,.slice aj p0.Readings.length aq]
 refine ZH (cs:=B0) rfl rfl rfl rfl rfl rfl (by rfl) hS ?_
 intro W1 b2 aX
 refine oA Z Z (eN (zK (sR gDd Z (oL Z (aX.ldBA (j:=0) Z Z Z Zr Zc (vs:=B0) Z Z) (bnK hm fun x5 h6 bt=>zI 0 Z Z Z Z (zJ Z Z Tryz.call34 (zC Z zP) Z) aX (fun hs=>wCy p0 ae ak ah am ai ap aj aq W1 U hs aZ a0 ba bb h6) (.inr Z) ?_)))))
 rintro U8 L9 bz aV au bm ⟨rfl,rfl⟩
 have aU:sW w U U8 [.blk b2 36 B0] aV:=bm
 refine oA Z Z (eN (sR fL2 Z (oM Z Z (oR Z (Zu Z Z Z) (eN (ifc bt ?_ ?_))))))
 intro aS bo
 refine zx (Zh (fun h=>h aS.out)) (kN (zK (sR (.fl 0 (.fx 1 .nil .stop)) Z (oL Z (aU.ldBA (j:=0) Z Z Z Zr Zc (vs:=B0) Z Z) ?_))))
 have bf:=aZ.le au
 have bg:=a0.le au
 have bh:=ba.le au
 have bi:=bb.le au
 refine bnK bo fun bB bj bp=>zI 0 Z Z Z Z (zJ Z Z Tryz.call72 (zC Z zP) Z) aU (fun hs=>wFU p0 ae ak ah am ai ap aj aq aV U8 hs bf bg bh bi bj) (.inr Z) ?_
 rintro av bu bA be bw bn ⟨rfl,rfl⟩
 have aY:sW w U av [.blk b2 36 B0] be:=bn
 refine eN (ifc bp ?_ ?_)
 intro aT bq
 refine ZE (congrArg nB aT.out) (sR fL1 Z (oA Z Z (eN (zR (zN ?_)))))
 cases bq
 exact ⟨rfl,_,(ZF rfl),av,_,(aY.pick [] _ (by decide) rfl),rfl,rfl⟩
 intro aT br
 refine zx (congrArg nB (nD.2 aT.out)) (kN (sR fL1 Z (oA Z Z (eN (zR ?_)))))
 cases br
 exact ⟨rfl,_,(ZF rfl),av,_,(aY.pick [] _ (by decide) rfl),rfl,rfl⟩
 intro aS bs
 refine cT Z aS (sR fL2 Z (oM Z Z (oA Z Z (eN (zR (zN ?_))))))
 have hE:=nA bs;first | subst r | cases hE
 exact ⟨rfl,_,(ZF rfl),U8,_,(aU.pick [] _ (by decide) rfl),rfl,rfl⟩
theorem wFV (p0:wAA) (aS:Option Addr) (aW:Nat) (aT:Option Addr) (aX:Nat) (aU:Option Addr) (aY:Nat) (aV:Option Addr) (aZ:Nat) (p1:List (List Int)) (bg:Option Addr) (bi:Nat) (p2:List Int) (bh:Option Addr) (bj:Nat) (p3:Int) (p4:Int) (w:World) (U:PHeap) (hS:St0 w U []) (cu:Sl U 1 aS aW p0.Starts.length (hH KL.encI p0.Starts)) (cw:Sl U 2 aT aX p0.Splits.length (hH wAB p0.Splits)) (cx:Sl U 3 aU aY p0.Clocks.length (hH wAD p0.Clocks)) (cy:Sl U 4 aV aZ p0.Readings.length (hH wAC p0.Readings)) (cz:SlR U wEx bg bi p1) (cA:Sl U 1 bh bj p2.length (hH KL.encI p2)) {r:Bool} (hm:wAr p0 p1 p2 p3 p4=some r):Gv Tryz.prog 19 [.agg #[.slice aS p0.Starts.length aW,.slice aT p0.Splits.length aX,.slice aU p0.Clocks.length aY,.slice aV p0.Readings.length aZ],.slice bg p1.length bi,.slice bh p2.length bj,jV p3,jV p4] w (wCs w [] U (fun U_ L_ v=>v=.bool r/\L_=[])):=by
 unfold wAr at hm
 refine Gv.of Tryz.func19 Z Tryz.ntmps19 Tryz.results19 Z (sR gDb Z ?_)
 let B0:List Value:=[.slice aS p0.Starts.length aW,.slice aT p0.Splits.length aX,.slice aU p0.Clocks.length aY,.slice aV p0.Readings.length aZ]
 refine ZH (cs:=B0) rfl rfl rfl rfl rfl rfl (by rfl) hS ?_
 intro W1 b2 am
 refine oA Z Z (eN (zK (sR fL3 Z (oM Z Z (oM Z Z (oR Z (Zu Z Z Z) (eN ?_)))))))
 by_cases c5:p3=p4
 have bw:=hm;rw [if_pos c5] at bw;replace c5:=zL c5
 refine zx (Zh (fun h=>h c5.out)) (kN (zK (sR fL2 Z (oM Z Z (oR Z (Zu Z Z Z) (eN (ifc bw ?_ ?_)))))))
 intro c7 cE
 refine zx (Zh (fun h=>h c7.out)) (kN (sR (.fl 0 (.fx 1 (.fl 2 (.fl 3 (.fx 4 (wLP (.nil)) .stop))) .stop)) Z (oL Z (am.ldBA (j:=0) Z Z Z ZD zr (vs:=B0) Z Z) (bnK cE fun x9 bK cC=>zI 0 Z Z Z Z (zJ Z Z Tryz.call11 (zC Z zP) Z) am (fun hs=>wCH p0 aS aW aT aX aU aY aV aZ W1 U hs cu cw cx cy bK) (.inr Z) ?_))))
 rintro bE cP cS ai bC cb ⟨bk,br,bm,bs,bn,bt,bo,bu,rfl,rfl⟩
 let B1:Res:=.row bo bu 117 4 (hH wAF x9.Readings)
 let B2:Res:=.row bn bt 116 3 (hH wAG x9.Clocks)
 let B3:Res:=.row bm bs 39 2 (hH wAB x9.Splits)
 have cd:sW w U bE [.row bk br 3 1 (hH KL.encI x9.Starts),B3,B2,B1,.blk b2 27 B0] ai:=cb
 refine oM Z Z (oM Z Z ?_)
 have q:=cd.freezeR (k:=0) (n:=x9.Starts.length) rfl (wAJ (f:=KL.encI) (sz:=1) (fun _=>rfl) x9.Starts) (by decide)
 obtain ⟨bF,bD,cJ,cf⟩:=q
 have cg:sW w U bF [B3,B2,B1,.blk b2 27 B0] ai:=cf
 have q:=cg.freezeR (k:=0) (n:=x9.Splits.length) rfl (wAJ (f:=wAB) (sz:=2) (fun _=>rfl) x9.Splits) (by decide)
 obtain ⟨bG,bd,cK,cj⟩:=q
 have cm:sW w U bG [B2,B1,.blk b2 27 B0] ai:=cj
 have q:=cm.freezeR (k:=0) (n:=x9.Clocks.length) rfl (wAJ (f:=wAG) (sz:=3) (fun _=>rfl) x9.Clocks) (by decide)
 obtain ⟨bH,av,cL,cn⟩:=q
 have cp:sW w U bH [B1,.blk b2 27 B0] ai:=cn
 have q:=cp.freezeR (k:=0) (n:=x9.Readings.length) rfl (wAJ (f:=wAF) (sz:=4) (fun _=>rfl) x9.Readings) (by decide)
 obtain ⟨bq,ap,cM,cq⟩:=q
 have cr:sW w U bq [.blk b2 27 B0] ai:=cq
 have bL:=cJ.le bd
 have bM:=bL.le av
 have bN:=bM.le ap
 have bO:=cK.le av
 have bP:=bO.le ap
 have bQ:=cL.le ap
 have bR:=cz.le bC
 have bS:=bR.le bD
 have bT:=bS.le bd
 have bU:=bT.le av
 have bV:=bU.le ap
 have bW:=cA.le bC
 have bX:=bW.le bD
 have bY:=bX.le bd
 have bZ:=bY.le av
 have b5:=bZ.le ap
 have q:=bnd cC
 obtain ⟨⟨cN,cO⟩,b9,bz⟩:=q
 try dsimp only at bz
 refine zI 0 Z Z Z Z (zJ Z Z Tryz.call36 (zC Z (zC Z (zC Z zP))) Z) cr (fun hs=>wEI x9 bk br bm bs bn bt bo bu p1 bg bi p2 bh bj ai bq hs bN bP bQ cM bV b5 b9) (.inr Z) ?_
 rintro ba cQ cU bJ cR ct ⟨rfl,rfl⟩
 have bv:sW w U ba [.blk b2 27 B0] bJ:=ct
 refine oM Z Z (oR Z (ZB Z Z (v:=.bool cN) Z) (oR Z (ZB Z Z (v:=jV cO) Z) (oA Z Z (oA Z Z (eN (sR fL6 Z (oM Z Z (oR Z (Runs.eql Z Z Z) (oM Z Z (ifc bz ?_ ?_))))))))))
 intro ak cD
 refine ZA Z Z Z (wT Z ak) Z Z (oR Z (zn Z (Zk ak.out) Z) (oA Z Z (eN (zR ?_))))
 have hE:=nA cD;first | subst r | cases hE
 exact ⟨rfl,_,(ZF rfl),ba,_,(bv.pick [] _ (by decide) rfl),rfl,rfl⟩
 intro ak cG
 refine oF Z ak (oR Z (zq Z (Zh ak.out) Z) (oA Z Z (eN (zR ?_))))
 have hE:=nA cG;first | subst r | cases hE
 exact ⟨rfl,_,(ZF rfl),ba,_,(bv.pick [] _ (by decide) rfl),rfl,rfl⟩
 intro c7 cH
 refine cT Z c7 (sR fL9 Z (oM Z Z (oR Z (zf Z Z zV) (oR Z (Runs.eql Z Z Z) (oM Z Z (ifc cH ?_ ?_))))))
 intro ab bA
 refine ZA Z Z Z (wT Z ab) Z Z (rU Z (wT Z ab) (zf Z Z zB) (rU Z (wT Z ab) (Runs.eql Z Z Z) (oR Z (zn Z (Zk ab.out) Z) (oA Z Z (eN (zR (zN ?_)))))))
 first | (obtain rfl:=nA bA) | cases bA
 exact ⟨rfl,_,(ZF rfl),U,_,(am.pick [] _ (by decide) rfl),rfl,rfl⟩
 intro ab cI
 refine oF Z ab (oF Z ab (oF Z ab (oR Z (zq Z (Zh ab.out) Z) (oA Z Z (eN (zR (zN ?_)))))))
 have hE:=nA cI;first | subst r | cases hE
 exact ⟨rfl,_,(ZF rfl),U,_,(am.pick [] _ (by decide) rfl),rfl,rfl⟩
 have bB:=hm;rw [if_neg c5] at bB;replace c5:=zL c5
 refine cT Z c5 (sR fL1 Z (oA Z Z (eN (zR (zN ?_)))))
 have hE:=nA bB;first | subst r | cases hE
 exact ⟨rfl,_,(ZF rfl),U,_,(am.pick [] _ (by decide) rfl),rfl,rfl⟩
theorem wCk (p0:List Int) (az:Option Addr) (aT:Nat) (p1:List Int) (aS:Option Addr) (aU:Nat) (w:World) (U:PHeap) (hS:St0 w U []) (bu:Sl U 1 az aT p0.length (hH KL.encI p0)) (bv:Sl U 1 aS aU p1.length (hH KL.encI p1)) {r:Bool} (hm:wAj p0 p1=some r):Gv Tryz.prog 26 [.slice az p0.length aT,.slice aS p1.length aU] w (wCs w [] U (fun U_ L_ v=>v=.bool r/\L_=[])):=by
 unfold wAj at hm
 refine Gv.of Tryz.func26 Z Tryz.ntmps26 Tryz.results26 Z (sR fL1 Z (oA Z Z (eN (zK (sR fL5 Z (oM Z Z (oR Z (zf Z Z zB) (oM Z Z (oR Z (zf Z Z zB) (oR Z (Zu Z Z Z) (eN ?_)))))))))))
 by_cases c1:(↑p0.length:Int)=(↑p1.length:Int)
 have aj:=hm;rw [if_pos c1] at aj;replace c1:=zL c1
 refine zx (Zh (fun h=>h c1.out)) (kN (zK (sR fL3 Z (oM Z Z (oR Z (zf Z Z zB) (oM Z Z (eN (zd ?_))))))))
 have q:=wCD aj
 obtain ⟨r5,ap⟩:=q
 have q:=wCC ap
 obtain ⟨au,bA⟩:=q
 replace au:=zL au
 refine yK (fun k4 _ σ_ w_=>∃ (U_:PHeap),σ_ 13=jV (↑k4:Int)/\σ_ 0=.slice az p0.length aT/\σ_ 1=.slice aS p1.length aU/\σ_ 12=jV (↑p0.length:Int)/\PHeap.Le U U_/\sW w U U_ [] w_) bA ?_ ?_ ?_
 exact ⟨U,Z,Z,Z,Z,(zM _),hS⟩
 rintro k4 ⟨⟩ bT bV aW aq ⟨aV,am,aY,aZ,a0,av,bs⟩ bf bw
 try dsimp only at bf
 have aX:Hid ((↑k4:Int) < (↑p0.length:Int)):=zL (wBR aq)
 replace aq:=zL aq
 have bB:Hid (w64 ((↑k4:Int) + 1)=(↑(k4 + 1):Int)):=zL (by have h1:=au.out;have h2:=aX.out;rw [wAU] <;> omega)
 refine sR fL1 rfl (zm rfl rfl rfl rfl (fun _=>zg rfl am a0) (eN (zK (cT Z aX (kN (zK (zd (sR fL2 rfl (ZA rfl rfl rfl rfl rfl am (yk rfl rfl rfl rfl rfl rfl (eN (zK (zy zu [3,3,3,1,3,3,3,1,3] fL9 (by kernel_rfl) ?_)))))))))))))
 have ah:=bs.drew
 generalize hw_W25:({ aW with drawn:=aW.drawn + 1 }:World)=bJ at ah ⊢
 refine oM Z aY (oM Z Z (bnK bf fun x26 ba bC=>?_))
 have bm:=bu.le av
 have q:=bm.el (fun _=>rfl) (wAP ba)
 obtain ⟨bL,bQ,bo,bq⟩:=q
 refine oR Z (ZJ Z Z bo Z zB zD (wBa ba)) (oL Z (ah.ldC (f:=0) bq (v:=jV x26) Z Z zG Z) (oM Z aZ (oM Z Z (bnK bC fun bI bb bD=>?_))))
 have bn:=bv.le av
 have q:=bn.el (fun _=>rfl) (wAP bb)
 obtain ⟨bM,bR,bp,br⟩:=q
 refine oR Z (ZJ Z Z bp Z zB zD (wBa bb)) (oL Z (ah.ldC (f:=0) br (v:=jV bI) Z Z zG Z) (oR Z (Zu Z Z Z) (eN (ifc bD ?_ ?_))))
 intro ak bE
 refine zx (Zh (fun h=>h ak.out)) (Ze (zt (zH (rR fL2 Z (oR Z (ZT (zi Z am Z) (congrArg (jV) bB.out)) (oM Z Z (zo ?_)))))))
 obtain rfl:=nA bE
 exact zH ⟨Z,_,Z,⟨aV,Z,aY,aZ,a0,av,ah⟩⟩
 intro ak bF
 refine cT Z ak (sR fL1 Z (oA Z Z (eN (zR (zZ (zN ?_))))))
 have q:=wAR bF
 obtain ⟨bH,bG,bi⟩:=q
 obtain rfl:=wCE aj ap (bw bH bi)
 refine zN (zZ (zN ?_))
 have hE:=nA bG;first | subst r | cases hE
 exact ⟨Z,_,(ZF Z),aV,_,ah,Z,Z⟩
 rintro ⟨⟩ bU bK ⟨bg,bk,bN,bO,bj,bP,bt⟩ bz
 have bd:=wCp aj ap bz
 try dsimp only at bd
 have bh:Hid (¬ ((↑(((↑p0.length:Int):Int) - 0).toNat:Int) < (↑p0.length:Int))):=zL (wAs)
 refine sR fL1 Z (oR Z (zg Z bk bj) (eN (zK (cF Z bh (ZU (zk (zk (ZM (zH (sR fL1 Z (oA Z Z (eN (zR ?_)))))))))))))
 have hE:=nA bd;first | subst r | cases hE
 exact ⟨Z,_,(ZF Z),bg,_,bt,Z,Z⟩
 have be:=hm;rw [if_neg c1] at be;replace c1:=zL c1
 refine cT Z c1 (sR fL1 Z (oA Z Z (eN (zR (zN ?_)))))
 have hE:=nA be;first | subst r | cases hE
 exact ⟨Z,_,(ZF Z),U,_,hS,Z,Z⟩
theorem wEJ (p0:List wAX) (az:Option Addr) (aT:Nat) (p1:List wAX) (aS:Option Addr) (aU:Nat) (w:World) (U:PHeap) (hS:St0 w U []) (bv:Sl U 2 az aT p0.length (hH wAB p0)) (bw:Sl U 2 aS aU p1.length (hH wAB p1)) {r:Bool} (hm:wBN p0 p1=some r):Gv Tryz.prog 44 [.slice az p0.length aT,.slice aS p1.length aU] w (wCs w [] U (fun U_ L_ v=>v=.bool r/\L_=[])):=by
 unfold wBN at hm
 refine Gv.of Tryz.func44 Z Tryz.ntmps44 Tryz.results44 Z (sR fL1 Z (oA Z Z (eN (zK (sR fL5 Z (oM Z Z (oR Z (zf Z Z zw) (oM Z Z (oR Z (zf Z Z zw) (oR Z (Zu Z Z Z) (eN ?_)))))))))))
 by_cases c1:(↑p0.length:Int)=(↑p1.length:Int)
 have aj:=hm;rw [if_pos c1] at aj;replace c1:=zL c1
 refine zx (Zh (fun h=>h c1.out)) (kN (zK (sR fL3 Z (oM Z Z (oR Z (zf Z Z zw) (oM Z Z (eN (zd ?_))))))))
 have q:=wCD aj
 obtain ⟨r5,ap⟩:=q
 have q:=wCC ap
 obtain ⟨au,bB⟩:=q
 replace au:=zL au
 refine yK (fun k4 _ σ_ w_=>∃ (U_:PHeap),σ_ 13=jV (↑k4:Int)/\σ_ 0=.slice az p0.length aT/\σ_ 1=.slice aS p1.length aU/\σ_ 12=jV (↑p0.length:Int)/\PHeap.Le U U_/\sW w U U_ [] w_) bB ?_ ?_ ?_
 exact ⟨U,Z,Z,Z,Z,(zM _),hS⟩
 rintro k4 ⟨⟩ bT bV aX aq ⟨aW,am,aZ,a0,ba,av,bt⟩ bg bz
 try dsimp only at bg
 have aY:Hid ((↑k4:Int) < (↑p0.length:Int)):=zL (wBR aq)
 replace aq:=zL aq
 have bC:Hid (w64 ((↑k4:Int) + 1)=(↑(k4 + 1):Int)):=zL (by have h1:=au.out;have h2:=aY.out;rw [wAU] <;> omega)
 refine sR fL1 rfl (zm rfl rfl rfl rfl (fun _=>zg rfl am ba) (eN (zK (cT Z aY (kN (zK (zd (sR fL2 rfl (ZA rfl rfl rfl rfl rfl am (yk rfl rfl rfl rfl rfl rfl (eN (zK (zy zu [3,3,3,1,3,3,3,1,3] fL9 (by kernel_rfl) ?_)))))))))))))
 have ah:=bt.drew
 generalize hw_W25:({ aX with drawn:=aX.drawn + 1 }:World)=bJ at ah ⊢
 refine oM Z aZ (oM Z Z (bnK bg fun x26 bb bD=>?_))
 have bn:=bv.le av
 have q:=bn.el (fun _=>rfl) (wAP bb)
 obtain ⟨bL,bQ,bp,br⟩:=q
 refine oR Z (ZJ Z Z bp Z zw ZS (wBa bb)) (oL Z (ah.ldCA (f:=0) br Z Z ym ZS (us:=[jV x26.Lo,jV x26.Hi]) Z Z) (oM Z a0 (oM Z Z (bnK bD fun aV bd bE=>?_))))
 have bo:=bw.le av
 have q:=bo.el (fun _=>rfl) (wAP bd)
 obtain ⟨bM,bR,bq,bs⟩:=q
 refine oR Z (ZJ Z Z bq Z zw ZS (wBa bd)) (oL Z (ah.ldCA (f:=0) bs Z Z ym ZS (us:=[jV aV.Lo,jV aV.Hi]) Z Z) (oR Z (ZT (Runs.neS (enc:=wAB) (a:=x26) (b:=aV) Z Z Z eqT39 eqG39) (congrArg nB (decide_not).symm)) (eN (ifc bE ?_ ?_))))
 intro ak bF
 refine zx (Zh (fun h=>h ak.out)) (Ze (zt (zH (rR fL2 Z (oR Z (ZT (zi Z am Z) (congrArg (jV) bC.out)) (oM Z Z (zo ?_)))))))
 obtain rfl:=nA bF
 exact zH ⟨Z,_,Z,⟨aW,Z,aZ,a0,ba,av,ah⟩⟩
 intro ak bG
 refine cT Z ak (sR fL1 Z (oA Z Z (eN (zR (zZ (zN ?_))))))
 have q:=wAR bG
 obtain ⟨bI,bH,bj⟩:=q
 obtain rfl:=wCE aj ap (bz bI bj)
 refine zN (zZ (zN ?_))
 have hE:=nA bH;first | subst r | cases hE
 exact ⟨Z,_,(ZF Z),aW,_,ah,Z,Z⟩
 rintro ⟨⟩ bU bK ⟨bh,bm,bN,bO,bk,bP,bu⟩ bA
 have be:=wCp aj ap bA
 try dsimp only at be
 have bi:Hid (¬ ((↑(((↑p0.length:Int):Int) - 0).toNat:Int) < (↑p0.length:Int))):=zL (wAs)
 refine sR fL1 Z (oR Z (zg Z bm bk) (eN (zK (cF Z bi (ZU (zk (zk (ZM (zH (sR fL1 Z (oA Z Z (eN (zR ?_)))))))))))))
 have hE:=nA be;first | subst r | cases hE
 exact ⟨Z,_,(ZF Z),bh,_,bu,Z,Z⟩
 have bf:=hm;rw [if_neg c1] at bf;replace c1:=zL c1
 refine cT Z c1 (sR fL1 Z (oA Z Z (eN (zR (zN ?_)))))
 have hE:=nA bf;first | subst r | cases hE
 exact ⟨Z,_,(ZF Z),U,_,hS,Z,Z⟩
theorem wDt (p0:List wAZ) (aS:Option Addr) (aU:Nat) (p1:List wAZ) (aT:Option Addr) (aV:Nat) (w:World) (U:PHeap) (hS:St0 w U []) (bv:Sl U 3 aS aU p0.length (hH wAD p0)) (bw:Sl U 3 aT aV p1.length (hH wAD p1)) {r:Bool} (hm:wBF p0 p1=some r):Gv Tryz.prog 76 [.slice aS p0.length aU,.slice aT p1.length aV] w (wCs w [] U (fun U_ L_ v=>v=.bool r/\L_=[])):=by
 unfold wBF at hm
 refine Gv.of Tryz.func76 Z Tryz.ntmps76 Tryz.results76 Z (sR fL1 Z (oA Z Z (eN (zK (sR fL5 Z (oM Z Z (oR Z (zf Z Z ZL) (oM Z Z (oR Z (zf Z Z ZL) (oR Z (Zu Z Z Z) (eN ?_)))))))))))
 by_cases c1:(↑p0.length:Int)=(↑p1.length:Int)
 have aj:=hm;rw [if_pos c1] at aj;replace c1:=zL c1
 refine zx (Zh (fun h=>h c1.out)) (kN (zK (sR fL3 Z (oM Z Z (oR Z (zf Z Z ZL) (oM Z Z (eN (zd ?_))))))))
 have q:=wCD aj
 obtain ⟨r5,aq⟩:=q
 have q:=wCC aq
 obtain ⟨av,bB⟩:=q
 replace av:=zL av
 refine yK (fun k4 _ σ_ w_=>∃ (U_:PHeap),σ_ 13=jV (↑k4:Int)/\σ_ 0=.slice aS p0.length aU/\σ_ 1=.slice aT p1.length aV/\σ_ 12=jV (↑p0.length:Int)/\PHeap.Le U U_/\sW w U U_ [] w_) bB ?_ ?_ ?_
 exact ⟨U,Z,Z,Z,Z,(zM _),hS⟩
 rintro k4 ⟨⟩ bT bV aX au ⟨aW,ap,aZ,a0,ba,az,bt⟩ bg bz
 try dsimp only at bg
 have aY:Hid ((↑k4:Int) < (↑p0.length:Int)):=zL (wBR au)
 replace au:=zL au
 have bC:Hid (w64 ((↑k4:Int) + 1)=(↑(k4 + 1):Int)):=zL (by have h1:=av.out;have h2:=aY.out;rw [wAU] <;> omega)
 refine sR fL1 rfl (zm rfl rfl rfl rfl (fun _=>zg rfl ap ba) (eN (zK (cT Z aY (kN (zK (zd (sR fL2 rfl (ZA rfl rfl rfl rfl rfl ap (yk rfl rfl rfl rfl rfl rfl (eN (zK (zy zu [3,3,3,1,3,3,3,1,3] fL9 (by kernel_rfl) ?_)))))))))))))
 have ah:=bt.drew
 generalize hw_W25:({ aX with drawn:=aX.drawn + 1 }:World)=bJ at ah ⊢
 refine oM Z aZ (oM Z Z (bnK bg fun x26 bb bD=>?_))
 have bn:=bv.le az
 have q:=bn.el (fun _=>rfl) (wAP bb)
 obtain ⟨bL,bQ,bp,br⟩:=q
 refine oR Z (ZJ Z Z bp Z ZL Zo (wBa bb)) (oL Z (ah.ldCA (f:=0) br Z Z Tryz.isAgg112 Zo (us:=[jV x26.Offset.Lo,jV x26.Offset.Hi,jV x26.Error]) Z Z) (oM Z a0 (oM Z Z (bnK bD fun ak bd bE=>?_))))
 have bo:=bw.le az
 have q:=bo.el (fun _=>rfl) (wAP bd)
 obtain ⟨bM,bR,bq,bs⟩:=q
 refine oR Z (ZJ Z Z bq Z ZL Zo (wBa bd)) (oL Z (ah.ldCA (f:=0) bs Z Z Tryz.isAgg112 Zo (us:=[jV ak.Offset.Lo,jV ak.Offset.Hi,jV ak.Error]) Z Z) (oR Z (ZT (Runs.neS (enc:=wAD) (a:=x26) (b:=ak) Z Z Z wTa wTZ) (congrArg nB (decide_not).symm)) (eN (ifc bE ?_ ?_))))
 intro am bF
 refine zx (Zh (fun h=>h am.out)) (Ze (zt (zH (rR fL2 Z (oR Z (ZT (zi Z ap Z) (congrArg (jV) bC.out)) (oM Z Z (zo ?_)))))))
 obtain rfl:=nA bF
 exact zH ⟨Z,_,Z,⟨aW,Z,aZ,a0,ba,az,ah⟩⟩
 intro am bG
 refine cT Z am (sR fL1 Z (oA Z Z (eN (zR (zZ (zN ?_))))))
 have q:=wAR bG
 obtain ⟨bI,bH,bj⟩:=q
 obtain rfl:=wCE aj aq (bz bI bj)
 refine zN (zZ (zN ?_))
 have hE:=nA bH;first | subst r | cases hE
 exact ⟨Z,_,(ZF Z),aW,_,ah,Z,Z⟩
 rintro ⟨⟩ bU bK ⟨bh,bm,bN,bO,bk,bP,bu⟩ bA
 have be:=wCp aj aq bA
 try dsimp only at be
 have bi:Hid (¬ ((↑(((↑p0.length:Int):Int) - 0).toNat:Int) < (↑p0.length:Int))):=zL (wAs)
 refine sR fL1 Z (oR Z (zg Z bm bk) (eN (zK (cF Z bi (ZU (zk (zk (ZM (zH (sR fL1 Z (oA Z Z (eN (zR ?_)))))))))))))
 have hE:=nA be;first | subst r | cases hE
 exact ⟨Z,_,(ZF Z),bh,_,bu,Z,Z⟩
 have bf:=hm;rw [if_neg c1] at bf;replace c1:=zL c1
 refine cT Z c1 (sR fL1 Z (oA Z Z (eN (zR (zN ?_)))))
 have hE:=nA bf;first | subst r | cases hE
 exact ⟨Z,_,(ZF Z),U,_,hS,Z,Z⟩
theorem wDb (p0:List wAO) (aS:Option Addr) (aU:Nat) (p1:List wAO) (aT:Option Addr) (aV:Nat) (w:World) (U:PHeap) (hS:St0 w U []) (bv:Sl U 4 aS aU p0.length (hH wAC p0)) (bw:Sl U 4 aT aV p1.length (hH wAC p1)) {r:Bool} (hm:wAy p0 p1=some r):Gv Tryz.prog 77 [.slice aS p0.length aU,.slice aT p1.length aV] w (wCs w [] U (fun U_ L_ v=>v=.bool r/\L_=[])):=by
 unfold wAy at hm
 refine Gv.of Tryz.func77 Z Tryz.ntmps77 Tryz.results77 Z (sR fL1 Z (oA Z Z (eN (zK (sR fL5 Z (oM Z Z (oR Z (zf Z Z Zf) (oM Z Z (oR Z (zf Z Z Zf) (oR Z (Zu Z Z Z) (eN ?_)))))))))))
 by_cases c1:(↑p0.length:Int)=(↑p1.length:Int)
 have ak:=hm;rw [if_pos c1] at ak;replace c1:=zL c1
 refine zx (Zh (fun h=>h c1.out)) (kN (zK (sR fL3 Z (oM Z Z (oR Z (zf Z Z Zf) (oM Z Z (eN (zd ?_))))))))
 have q:=wCD ak
 obtain ⟨r5,aq⟩:=q
 have q:=wCC aq
 obtain ⟨av,bB⟩:=q
 replace av:=zL av
 refine yK (fun k4 _ σ_ w_=>∃ (U_:PHeap),σ_ 13=jV (↑k4:Int)/\σ_ 0=.slice aS p0.length aU/\σ_ 1=.slice aT p1.length aV/\σ_ 12=jV (↑p0.length:Int)/\PHeap.Le U U_/\sW w U U_ [] w_) bB ?_ ?_ ?_
 exact ⟨U,Z,Z,Z,Z,(zM _),hS⟩
 rintro k4 ⟨⟩ bT bV aX au ⟨aW,ap,aZ,a0,ba,az,bt⟩ bg bz
 try dsimp only at bg
 have aY:Hid ((↑k4:Int) < (↑p0.length:Int)):=zL (wBR au)
 replace au:=zL au
 have bC:Hid (w64 ((↑k4:Int) + 1)=(↑(k4 + 1):Int)):=zL (by have h1:=av.out;have h2:=aY.out;rw [wAU] <;> omega)
 refine sR fL1 rfl (zm rfl rfl rfl rfl (fun _=>zg rfl ap ba) (eN (zK (cT Z aY (kN (zK (zd (sR fL2 rfl (ZA rfl rfl rfl rfl rfl ap (yk rfl rfl rfl rfl rfl rfl (eN (zK (zy zu [3,3,3,1,3,3,3,1,3] fL9 (by kernel_rfl) ?_)))))))))))))
 have ah:=bt.drew
 generalize hw_W25:({ aX with drawn:=aX.drawn + 1 }:World)=bJ at ah ⊢
 refine oM Z aZ (oM Z Z (bnK bg fun x26 bb bD=>?_))
 have bn:=bv.le az
 have q:=bn.el (fun _=>rfl) (wAP bb)
 obtain ⟨bL,bQ,bp,br⟩:=q
 refine oR Z (ZJ Z Z bp Z Zf Zl (wBa bb)) (oL Z (ah.ldCA (f:=0) br Z Z yh Zl (us:=[jV x26.Skier,jV x26.Mat,jV x26.Clock,jV x26.Time]) Z Z) (oM Z a0 (oM Z Z (bnK bD fun aj bd bE=>?_))))
 have bo:=bw.le az
 have q:=bo.el (fun _=>rfl) (wAP bd)
 obtain ⟨bM,bR,bq,bs⟩:=q
 refine oR Z (ZJ Z Z bq Z Zf Zl (wBa bd)) (oL Z (ah.ldCA (f:=0) bs Z Z yh Zl (us:=[jV aj.Skier,jV aj.Mat,jV aj.Clock,jV aj.Time]) Z Z) (oR Z (ZT (Runs.neS (enc:=wAC) (a:=x26) (b:=aj) Z Z Z wTd wTc) (congrArg nB (decide_not).symm)) (eN (ifc bE ?_ ?_))))
 intro am bF
 refine zx (Zh (fun h=>h am.out)) (Ze (zt (zH (rR fL2 Z (oR Z (ZT (zi Z ap Z) (congrArg (jV) bC.out)) (oM Z Z (zo ?_)))))))
 obtain rfl:=nA bF
 exact zH ⟨Z,_,Z,⟨aW,Z,aZ,a0,ba,az,ah⟩⟩
 intro am bG
 refine cT Z am (sR fL1 Z (oA Z Z (eN (zR (zZ (zN ?_))))))
 have q:=wAR bG
 obtain ⟨bI,bH,bj⟩:=q
 obtain rfl:=wCE ak aq (bz bI bj)
 refine zN (zZ (zN ?_))
 have hE:=nA bH;first | subst r | cases hE
 exact ⟨Z,_,(ZF Z),aW,_,ah,Z,Z⟩
 rintro ⟨⟩ bU bK ⟨bh,bm,bN,bO,bk,bP,bu⟩ bA
 have be:=wCp ak aq bA
 try dsimp only at be
 have bi:Hid (¬ ((↑(((↑p0.length:Int):Int) - 0).toNat:Int) < (↑p0.length:Int))):=zL (wAs)
 refine sR fL1 Z (oR Z (zg Z bm bk) (eN (zK (cF Z bi (ZU (zk (zk (ZM (zH (sR fL1 Z (oA Z Z (eN (zR ?_)))))))))))))
 have hE:=nA be;first | subst r | cases hE
 exact ⟨Z,_,(ZF Z),bh,_,bu,Z,Z⟩
 have bf:=hm;rw [if_neg c1] at bf;replace c1:=zL c1
 refine cT Z c1 (sR fL1 Z (oA Z Z (eN (zR (zN ?_)))))
 have hE:=nA bf;first | subst r | cases hE
 exact ⟨Z,_,(ZF Z),U,_,hS,Z,Z⟩
theorem wFq (p0:wAA) (ap:Option Addr) (aV:Nat) (aq:Option Addr) (aW:Nat) (au:Option Addr) (aX:Nat) (av:Option Addr) (aY:Nat) (p1:wAA) (az:Option Addr) (aZ:Nat) (aS:Option Addr) (a0:Nat) (aT:Option Addr) (ba:Nat) (aU:Option Addr) (bb:Nat) (w:World) (U:PHeap) (hS:St0 w U []) (bT:Sl U 1 ap aV p0.Starts.length (hH KL.encI p0.Starts)) (bU:Sl U 2 aq aW p0.Splits.length (hH wAB p0.Splits)) (bV:Sl U 3 au aX p0.Clocks.length (hH wAD p0.Clocks)) (bW:Sl U 4 av aY p0.Readings.length (hH wAC p0.Readings)) (bX:Sl U 1 az aZ p1.Starts.length (hH KL.encI p1.Starts)) (bY:Sl U 2 aS a0 p1.Splits.length (hH wAB p1.Splits)) (bZ:Sl U 3 aT ba p1.Clocks.length (hH wAD p1.Clocks)) (b5:Sl U 4 aU bb p1.Readings.length (hH wAC p1.Readings)) {r:Bool} (hm:wCG p0 p1=some r):Gv Tryz.prog 21 [.agg #[.slice ap p0.Starts.length aV,.slice aq p0.Splits.length aW,.slice au p0.Clocks.length aX,.slice av p0.Readings.length aY],.agg #[.slice az p1.Starts.length aZ,.slice aS p1.Splits.length a0,.slice aT p1.Clocks.length ba,.slice aU p1.Readings.length bb]] w (wCs w [] U (fun U_ L_ v=>v=.bool r/\L_=[])):=by
 unfold wCG at hm
 refine Gv.of Tryz.func21 Z Tryz.ntmps21 Tryz.results21 Z (sR (.fx 0 gDc .stop) Z ?_)
 let B0:List Value:=[.slice ap p0.Starts.length aV,.slice aq p0.Splits.length aW,.slice au p0.Clocks.length aX,.slice av p0.Readings.length aY]
 refine ZH (cs:=B0) rfl rfl rfl rfl rfl rfl (by rfl) hS ?_
 intro W1 b2 bO
 let B1:List Value:=[.slice az p1.Starts.length aZ,.slice aS p1.Splits.length a0,.slice aT p1.Clocks.length ba,.slice aU p1.Readings.length bb]
 refine ZH (cs:=B1) rfl rfl rfl rfl rfl rfl (by rfl) bO ?_
 intro W5 b6 bn
 refine oA Z Z (eN (sR (wEf (.fx 4 (wLP (.fx 10 (wSQ (.fx 17 (wSU (.fx 24 (.fl 25 (.fl 26 .nil)) .stop)) .stop)) .stop)) .stop)) Z (oR Z (zF Z Z zQ Z zX) (oL Z (bn.ldB (j:=1) Z Z Z zY (v:=.slice ap p0.Starts.length aV) Z) (oR Z (zF Z Z zQ Z zX) (oL Z (bn.ldB (j:=0) Z Z Z zY (v:=.slice az p1.Starts.length aZ) Z) (bnK hm fun x9 bv b9=>zI 0 Z Z Z Z (zJ Z Z Tryz.call26 (zC Z (zC Z zP)) Z) bn (fun hs=>wCk p0.Starts ap aV p1.Starts az aZ W5 U hs bT bX bv) (.inr Z) ?_)))))))
 rintro bj cr cz bp aj bN ⟨rfl,rfl⟩
 have bf:sW w U bj [.blk b6 27 B1,.blk b2 27 B0] bp:=bN
 refine oM Z Z (ifc b9 ?_ ?_)
 intro ae cb
 refine zm Z Z Z (zO Z Z (congrArg nB ae.out)) (fun _=>zF Z Z zQ Z ZX) (ZI Z Z Z (zO Z Z (congrArg nB ae.out)) (bf.ldB (j:=1) Z Z Z Za (v:=.slice aq p0.Splits.length aW) Z) Z (zm Z Z Z (zO Z Z (congrArg nB ae.out)) (fun _=>zF Z Z zQ Z ZX) (ZI Z Z Z (zO Z Z (congrArg nB ae.out)) (bf.ldB (j:=0) Z Z Z Za (v:=.slice aS p1.Splits.length a0) Z) Z ?_)))
 have bw:=bU.le aj
 have bz:=bY.le aj
 refine bnK cb fun cE bA cd=>zI 0 Z Z Z (zO Z Z (congrArg nB ae.out)) (zJ Z Z Tryz.call44 (zC Z (zC Z zP)) Z) bf (fun hs=>wEJ p0.Splits aq aW p1.Splits aS a0 bp bj hs bw bz bA) (.inr Z) ?_
 rintro bk ct cA bq bi bP ⟨rfl,rfl⟩
 have bg:sW w U bk [.blk b6 27 B1,.blk b2 27 B0] bq:=bP
 refine oR Z (zn Z (congrArg nB ae.out) Z) (oM Z Z (ifc cd ?_ ?_))
 intro ah cf
 refine zm Z Z Z (zO Z Z (congrArg nB ah.out)) (fun _=>zF Z Z zQ Z Zt) (ZI Z Z Z (zO Z Z (congrArg nB ah.out)) (bg.ldB (j:=1) Z Z Z Zy (v:=.slice au p0.Clocks.length aX) Z) Z (zm Z Z Z (zO Z Z (congrArg nB ah.out)) (fun _=>zF Z Z zQ Z Zt) (ZI Z Z Z (zO Z Z (congrArg nB ah.out)) (bg.ldB (j:=0) Z Z Z Zy (v:=.slice aT p1.Clocks.length ba) Z) Z ?_)))
 have bB:=bV.le aj
 have bC:=bB.le bi
 have bD:=bZ.le aj
 have bE:=bD.le bi
 refine bnK cf fun cG bF cg=>zI 0 Z Z Z (zO Z Z (congrArg nB ah.out)) (zJ Z Z Tryz.call76 (zC Z (zC Z zP)) Z) bg (fun hs=>wDt p0.Clocks au aX p1.Clocks aT ba bq bk hs bC bE bF) (.inr Z) ?_
 rintro bm cu cC br bs bQ ⟨rfl,rfl⟩
 have bh:sW w U bm [.blk b6 27 B1,.blk b2 27 B0] br:=bQ
 refine oR Z (zn Z (congrArg nB ah.out) Z) (oM Z Z (ifc cg ?_ ?_))
 intro ai cj
 refine zm Z Z Z (zO Z Z (congrArg nB ai.out)) (fun _=>zF Z Z zQ Z yO) (ZI Z Z Z (zO Z Z (congrArg nB ai.out)) (bh.ldB (j:=1) Z Z Z yQ (v:=.slice av p0.Readings.length aY) Z) Z (zm Z Z Z (zO Z Z (congrArg nB ai.out)) (fun _=>zF Z Z zQ Z yO) (ZI Z Z Z (zO Z Z (congrArg nB ai.out)) (bh.ldB (j:=0) Z Z Z yQ (v:=.slice aU p1.Readings.length bb) Z) Z ?_)))
 have bG:=bW.le aj
 have bH:=bG.le bi
 have bI:=bH.le bs
 have bJ:=b5.le aj
 have bK:=bJ.le bi
 have bL:=bK.le bs
 refine bnK cj fun x57 bM cm=>zI 0 Z Z Z (zO Z Z (congrArg nB ai.out)) (zJ Z Z Tryz.call77 (zC Z (zC Z zP)) Z) bh (fun hs=>wDb p0.Readings av aY p1.Readings aU bb br bm hs bI bL bM) (.inr Z) ?_
 rintro bo cw cD bu cy bR ⟨rfl,rfl⟩
 have bS:sW w U bo [.blk b6 27 B1,.blk b2 27 B0] bu:=bR
 refine oR Z (zn Z (congrArg nB ai.out) Z) (oA Z Z (eN (zR ?_)))
 have hE:=nA cm;first | subst r | cases hE
 exact ⟨rfl,_,(ZF rfl),bo,_,(bS.pick [] _ (by decide) rfl),rfl,rfl⟩
 intro ai cn
 refine ZO Z Z Z (zh Z Z (congrArg nB (nD.2 ai.out)) Z) (ZO Z Z Z (zh Z Z (congrArg nB (nD.2 ai.out)) Z) (ZO Z Z Z (zh Z Z (congrArg nB (nD.2 ai.out)) Z) (ZO Z Z Z (zh Z Z (congrArg nB (nD.2 ai.out)) Z) (yD Z Z Z (zh Z Z (congrArg nB (nD.2 ai.out)) Z) (oR Z (zq Z (congrArg nB (nD.2 ai.out)) Z) (oA Z Z (eN (zR ?_))))))))
 have hE:=nA cn;first | subst r | cases hE
 exact ⟨rfl,_,(ZF rfl),bm,_,(bh.pick [] _ (by decide) rfl),rfl,rfl⟩
 intro ah cp
 refine ZO Z Z Z (zh Z Z (congrArg nB (nD.2 ah.out)) Z) (ZO Z Z Z (zh Z Z (congrArg nB (nD.2 ah.out)) Z) (ZO Z Z Z (zh Z Z (congrArg nB (nD.2 ah.out)) Z) (ZO Z Z Z (zh Z Z (congrArg nB (nD.2 ah.out)) Z) (yD Z Z Z (zh Z Z (congrArg nB (nD.2 ah.out)) Z) (oR Z (zq Z (congrArg nB (nD.2 ah.out)) Z) (oM Z Z (oN Z (oN Z (oN Z (oN Z (yD Z Z Z (zh Z Z Z Z) (oR Z (zq Z Z Z) (oA Z Z (eN (zR ?_)))))))))))))))
 have hE:=nA cp;first | subst r | cases hE
 exact ⟨rfl,_,(ZF rfl),bk,_,(bg.pick [] _ (by decide) rfl),rfl,rfl⟩
 intro ae cq
 refine ZO Z Z Z (zh Z Z (congrArg nB (nD.2 ae.out)) Z) (ZO Z Z Z (zh Z Z (congrArg nB (nD.2 ae.out)) Z) (ZO Z Z Z (zh Z Z (congrArg nB (nD.2 ae.out)) Z) (ZO Z Z Z (zh Z Z (congrArg nB (nD.2 ae.out)) Z) (yD Z Z Z (zh Z Z (congrArg nB (nD.2 ae.out)) Z) (oR Z (zq Z (congrArg nB (nD.2 ae.out)) Z) (oM Z Z (oN Z (oN Z (oN Z (oN Z (yD Z Z Z (zh Z Z Z Z) (oR Z (zq Z Z Z) (oM Z Z (oN Z (oN Z (oN Z (oN Z (yD Z Z Z (zh Z Z Z Z) (oR Z (zq Z Z Z) (oA Z Z (eN (zR ?_))))))))))))))))))))))
 have hE:=nA cq;first | subst r | cases hE
 exact ⟨rfl,_,(ZF rfl),bj,_,(bf.pick [] _ (by decide) rfl),rfl,rfl⟩
end Go.Proofs.YtlnfbjphfoipaaaGreat
namespace Go.Proofs.YtlnfbjphfoipaaaGreat
open Go.KL
set_option maxHeartbeats 4000000
theorem wEW (p0:List (List Int)) (aV:Option Addr) (aZ:Nat) (p1:List (List Int)) (aW:Option Addr) (a0:Nat) (w:World) (U:PHeap) (hS:St0 w U []) (bL:SlR U wEx aV aZ p0) (bM:SlR U wEx aW a0 p1) {r:Bool} (hm:wBC p0 p1=some r):Gv Tryz.prog 39 [.slice aV p0.length aZ,.slice aW p1.length a0] w (wCs w [] U (fun U_ L_ v=>v=.bool r/\L_=[])):=by
 unfold wBC at hm
 refine Gv.of Tryz.func39 Z Tryz.ntmps39 Tryz.results39 Z (sR fL1 Z (oA Z Z (eN (zK (sR fL5 Z (oM Z Z (oR Z (zf Z Z zV) (oM Z Z (oR Z (zf Z Z zV) (oR Z (Zu Z Z Z) (eN ?_)))))))))))
 by_cases c1:(↑p0.length:Int)=(↑p1.length:Int)
 have aj:=hm;rw [if_pos c1] at aj;replace c1:=zL c1
 refine zx (Zh (fun h=>h c1.out)) (kN (zK (sR fL3 Z (oM Z Z (oR Z (zf Z Z zV) (oM Z Z (eN (zd ?_))))))))
 have q:=wCD aj
 obtain ⟨r5,az⟩:=q
 have q:=wCC az
 obtain ⟨aT,bP⟩:=q
 replace aT:=zL aT
 refine yK (fun k4 _ σ_ w_=>∃ (U_:PHeap),σ_ 13=jV (↑k4:Int)/\σ_ 0=.slice aV p0.length aZ/\σ_ 1=.slice aW p1.length a0/\σ_ 12=jV (↑p0.length:Int)/\PHeap.Le U U_/\sW w U U_ [] w_) bP ?_ ?_ ?_
 exact ⟨U,Z,Z,Z,Z,(zM _),hS⟩
 rintro k4 ⟨⟩ cu cx be aS ⟨ak,aq,bg,bh,bi,aU,bI⟩ bp bN
 try dsimp only at bp
 have bf:Hid ((↑k4:Int) < (↑p0.length:Int)):=zL (wBR aS)
 replace aS:=zL aS
 have bQ:Hid (w64 ((↑k4:Int) + 1)=(↑(k4 + 1):Int)):=zL (by have h1:=aT.out;have h2:=bf.out;rw [wAU] <;> omega)
 refine sR fL1 rfl (zm rfl rfl rfl rfl (fun _=>zg rfl aq bi) (eN (zK (cT Z bf (kN (zK (zd (sR fL2 rfl (ZA rfl rfl rfl rfl rfl aq (yk rfl rfl rfl rfl rfl rfl (eN (zK (zy zu [3,3,3,1,3,3,3,1,2,3] (wTt (.fx 8 (.fl 9 .nil) .stop)) (by kernel_rfl) ?_)))))))))))))
 have ai:=bI.drew
 generalize hw_W25:({ be with drawn:=be.drawn + 1 }:World)=br at ai ⊢
 refine oM Z bg (oM Z Z (bnK bp fun x26 bj bR=>?_))
 have bB:=bL.le aU
 have q:=bB.el (wAP bj)
 obtain ⟨bt,b5,cq,bG,au,bX⟩:=q
 obtain ⟨aX,ba,rfl,bC⟩:=bX
 replace au:Cl ak bt (b5 + k4 * 1) [.slice aX x26.length ba]:=au
 refine oR Z (ZJ Z Z bG Z zV zX (wBa bj)) (oL Z (ai.ldC (f:=0) au (v:=.slice aX x26.length ba) Z Z zY Z) (oM Z bh (oM Z Z (bnK bR fun bd bk bS=>?_))))
 have bD:=bM.le aU
 have q:=bD.el (wAP bk)
 obtain ⟨bu,b9,cr,bH,av,bY⟩:=q
 obtain ⟨aY,bb,rfl,bE⟩:=bY
 replace av:Cl ak bu (b9 + k4 * 1) [.slice aY bd.length bb]:=av
 refine oR Z (ZJ Z Z bH Z zV zX (wBa bk)) (oL Z (ai.ldC (f:=0) av (v:=.slice aY bd.length bb) Z Z zY Z) (bnK bS fun ct bF bT=>zI 0 Z Z Z Z (zJ Z Z Tryz.call26 (zC Z (zC Z zP)) Z) ai (fun hs=>wCk x26 aX ba bd aY bb br ak hs bC bE bF) (.inr Z) ?_))
 rintro am cd cp bs bZ bJ ⟨rfl,rfl⟩
 have bm:sW w U am [] bs:=bJ
 refine oR Z (Zd Z Z) (eN (ifc bT ?_ ?_))
 intro ap bU
 refine zx (nC ap.out) (Ze (zt (zH (rR fL2 Z (oR Z (ZT (zi Z aq Z) (congrArg (jV) bQ.out)) (oM Z Z (zo ?_)))))))
 obtain rfl:=nA bU
 exact zH ⟨Z,_,Z,⟨am,Z,bg,bh,bi,(aU.trans bZ),bm⟩⟩
 intro ap bV
 refine ZE (nF (ap.out)) (sR fL1 Z (oA Z Z (eN (zR (zZ (zN ?_))))))
 have q:=wAR bV
 obtain ⟨cb,bW,bw⟩:=q
 obtain rfl:=wCE aj az (bN cb bw)
 refine zN (zZ (zN ?_))
 have hE:=nA bW;first | subst r | cases hE
 exact ⟨Z,_,(ZF Z),am,_,bm,Z,Z⟩
 rintro ⟨⟩ cw cf ⟨bq,bA,cg,cj,bz,cm,bK⟩ bO
 have bn:=wCp aj az bO
 try dsimp only at bn
 have bv:Hid (¬ ((↑(((↑p0.length:Int):Int) - 0).toNat:Int) < (↑p0.length:Int))):=zL (wAs)
 refine sR fL1 Z (oR Z (zg Z bA bz) (eN (zK (cF Z bv (ZU (zk (zk (ZM (zH (sR fL1 Z (oA Z Z (eN (zR ?_)))))))))))))
 have hE:=nA bn;first | subst r | cases hE
 exact ⟨Z,_,(ZF Z),bq,_,bK,Z,Z⟩
 have bo:=hm;rw [if_neg c1] at bo;replace c1:=zL c1
 refine cT Z c1 (sR fL1 Z (oA Z Z (eN (zR (zN ?_)))))
 have hE:=nA bo;first | subst r | cases hE
 exact ⟨Z,_,(ZF Z),U,_,hS,Z,Z⟩
theorem wEX (p0:wAA) (bi:Option Addr) (bn:Nat) (bj:Option Addr) (bo:Nat) (bk:Option Addr) (bp:Nat) (bm:Option Addr) (bq:Nat) (p1:List (List Int)) (aq:Option Addr) (au:Nat) (p2:List Int) (av:Option Addr) (az:Nat) (w:World) (U:PHeap) (hS:St0 w U []) (cm:Sl U 1 bi bn p0.Starts.length (hH KL.encI p0.Starts)) (cn:Sl U 2 bj bo p0.Splits.length (hH wAB p0.Splits)) (cp:Sl U 3 bk bp p0.Clocks.length (hH wAD p0.Clocks)) (cq:Sl U 4 bm bq p0.Readings.length (hH wAC p0.Readings)) (fb:SlR U wEx aq au p1) (iq:Sl U 1 av az p2.length (hH KL.encI p2)) {r:Bool} (hm:wBb p0 p1 p2=some r):Gv Tryz.prog 5 [.agg #[.slice bi p0.Starts.length bn,.slice bj p0.Splits.length bo,.slice bk p0.Clocks.length bp,.slice bm p0.Readings.length bq],.slice aq p1.length au,.slice av p2.length az] w (wCs w [] U (fun U_ L_ v=>v=.bool r/\L_=[])):=by
 unfold wBb at hm
 refine Gv.of Tryz.func5 Z Tryz.ntmps5 Tryz.results5 Z (sR gDb Z ?_)
 let B0:List Value:=[.slice bi p0.Starts.length bn,.slice bj p0.Splits.length bo,.slice bk p0.Clocks.length bp,.slice bm p0.Readings.length bq]
 refine ZH (cs:=B0) rfl rfl rfl rfl rfl rfl (by rfl) hS ?_
 intro W1 b2 su
 refine oA Z Z (eN (zK (sR (.fl 0 (.fx 1 (wUC (.nil)) .stop)) Z (oL Z (su.ldBA (j:=0) Z Z Z ZD zr (vs:=B0) Z Z) (bnK hm fun x5 h6 Ik=>zI 0 Z Z Z Z (zJ Z Z Tryz.call8 (zC Z zP) Z) su (fun hs=>wFp p0 bi bn bj bo bk bp bm bq W1 U hs cm cn cp cq h6) (.inr Z) ?_)))))
 rintro U8 L9 Ki i4 ak FB ⟨rfl,rfl⟩
 have jK:sW w U U8 [.blk b2 27 B0] i4:=FB
 refine oM Z Z (ifc Ik ?_ ?_)
 intro bX HI
 refine ZO Z Z Z (zh Z Z (congrArg nB bX.out) Z) (ZO Z Z Z (zh Z Z (congrArg nB bX.out) Z) (ZO Z Z Z (zh Z Z (congrArg nB bX.out) Z) (oR Z (zn Z (congrArg nB bX.out) Z) (oM Z Z (oN Z (oN Z (oN Z (oR Z (zn Z Z Z) (eN (ZE Z (sR gDb Z (bnK HI fun KQ xM HJ=>zI 0 Z Z Z Z (zJ Z Z Tryz.call9 zP Z) jK (fun hs=>wBq i4 U8 hs xM) (.inr Z) ?_))))))))))))
 rintro n5 Ja Ks ub Kc Gz ⟨rfl,rfl⟩
 have GG:sW w U n5 [.blk b2 27 B0] ub:=Gz
 refine oA Z Z (eN (zR (zN ?_)))
 have hE:=nA HJ;first | subst r | cases hE
 exact ⟨rfl,_,(ZF rfl),n5,_,(GG.pick [] _ (by decide) rfl),rfl,rfl⟩
 intro bX HN
 refine ZA Z Z Z (zO Z Z (congrArg nB (nD.2 bX.out))) Z Z (zm Z Z Z (zO Z Z (congrArg nB (nD.2 bX.out))) (fun _=>zf Z Z zV) (zm Z Z Z (zO Z Z (congrArg nB (nD.2 bX.out))) (fun _=>yN Z Z Z) (oR Z (zq Z (congrArg nB (nD.2 bX.out)) Z) (oM Z Z (ifc HN ?_ ?_)))))
 intro cb HX
 refine oT Z cb (oT Z cb (oT Z cb (oR Z (zn Z (Zk cb.out) Z) (eN (ZE Z (sR gDb Z (bnK HX fun KU Fh Ig=>zI 0 Z Z Z Z (zJ Z Z Tryz.call9 zP Z) jK (fun hs=>wBq i4 U8 hs Fh) (.inr Z) ?_)))))))
 rintro ou Ju KM ul Kf Hw ⟨rfl,rfl⟩
 have Hx:sW w U ou [.blk b2 27 B0] ul:=Hw
 refine oA Z Z (eN (zR (zN ?_)))
 have hE:=nA Ig;first | subst r | cases hE
 exact ⟨rfl,_,(ZF rfl),ou,_,(Hx.pick [] _ (by decide) rfl),rfl,rfl⟩
 intro cb Ih
 refine ZA Z Z Z (wF Z cb) Z Z (rU Z (wF Z cb) (zf Z Z zB) (rU Z (wF Z cb) (yN Z Z Z) (oR Z (zq Z (Zh cb.out) Z) (eN (ifc Ih ?_ ?_)))))
 intro lw Ii
 refine cT Z lw (sR gDb Z (bnK Ii fun K1 Fi Ij=>zI 0 Z Z Z Z (zJ Z Z Tryz.call9 zP Z) jK (fun hs=>wBq i4 U8 hs Fi) (.inr Z) ?_))
 rintro ow Jv KN um Kg Hy ⟨rfl,rfl⟩
 have Hz:sW w U ow [.blk b2 27 B0] um:=Hy
 refine oA Z Z (eN (zR (zN ?_)))
 have hE:=nA Ij;first | subst r | cases hE
 exact ⟨rfl,_,(ZF rfl),ow,_,(Hz.pick [] _ (by decide) rfl),rfl,rfl⟩
 intro lw lQ
 refine cF Z lw (kN (zK (sR fL3 Z (oM Z Z (oR Z (zf Z Z zV) (oM Z Z (eN (zd ?_))))))))
 have q:=wCD lQ
 obtain ⟨Kh,lN⟩:=q
 have q:=wCC lN
 obtain ⟨lP,HD⟩:=q
 replace lP:=zL lP
 refine yK (fun fd _ σ_ w_=>∃ (U_:PHeap),σ_ 34=jV (↑fd:Int)/\σ_ 1=.slice aq p1.length au/\σ_ 2=.slice av p2.length az/\σ_ 3=.pointer (some ⟨b2,0,none⟩)/\σ_ 32=.slice aq p1.length au/\σ_ 33=jV (↑p1.length:Int)/\PHeap.Le U8 U_/\sW w U U_ [.blk b2 27 B0] w_) HD ?_ ?_ ?_
 exact ⟨U8,Z,Z,Z,Z,Z,Z,(zM _),jK⟩
 rintro fd ⟨⟩ K5 Lp uo lO ⟨j9,lG,wM,wN,wO,re,ri,td,lM⟩ sJ HB
 try dsimp only at sJ
 have pK:Hid ((↑fd:Int) < (↑p1.length:Int)):=zL (wBR lO)
 replace lO:=zL lO
 have HF:Hid (w64 ((↑fd:Int) + 1)=(↑(fd + 1):Int)):=zL (by have h1:=lP.out;have h2:=pK.out;rw [wAU] <;> omega)
 refine sR fL1 Z (oR Z (zg Z lG ri) (eN (zK (cT Z pK (kN (zK (zd (sR fL3 Z (bnK sJ fun tg sd Il=>?_)))))))))
 have Fk:=fb.le ak
 have Fm:=Fk.le td
 have q:=Fm.el (wAP sd)
 obtain ⟨uL,IT,KP,Fp,lH,Io⟩:=q
 obtain ⟨te,tf,rfl,Ka⟩:=Io
 replace lH:Cl j9 uL (IT + fd * 1) [.slice te tg.length tf]:=lH
 refine oR Z (ZJ Z re Fp lG zV zX (wBa sd)) (oL Z (lM.ldC (f:=0) lH (v:=.slice te tg.length tf) Z Z zY Z) (oA Z Z (eN (sR fL3 Z (oM Z Z (oR Z (zf Z Z zB) (oR Z (yN Z Z Z) (eN (ifc Il ?_ ?_)))))))))
 intro lx Im
 refine cT Z lx (sR gDb Z (bnK Im fun x93 Fo In=>zI 0 Z Z Z Z (zJ Z Z Tryz.call9 zP Z) lM (fun hs=>wBq uo j9 hs Fo) (.inr Z) ?_))
 rintro ox Jx KO uq Kb Fq ⟨rfl,rfl⟩
 have Fs:sW w U ox [.blk b2 27 B0] uq:=Fq
 refine oA Z Z (eN (zR (zZ (zN ?_))))
 have q:=wAR In
 obtain ⟨IU,HG,uN⟩:=q
 obtain rfl:=wCE lQ lN (HB IU uN)
 refine zN (zZ (zN ?_))
 have hE:=nA HG;first | subst r | cases hE
 exact ⟨rfl,_,(ZF rfl),ox,_,(Fs.pick [] _ (by decide) rfl),rfl,rfl⟩
 intro lx HH
 refine cF Z lx (Ze (zt (zH (rR fL2 Z (oR Z (ZT (zi Z lG Z) (congrArg (jV) HF.out)) (oM Z Z (zo ?_)))))))
 obtain rfl:=nA HH
 exact zH ⟨Z,_,Z,⟨j9,Z,wM,wN,wO,re,ri,td,lM⟩⟩
 rintro ⟨⟩ K6 oy ⟨aZ,wP,br,bs,bf,J8,uX,ap,Fu⟩ HA
 have sB:=wCp lQ lN HA
 try dsimp only at sB
 have uM:Hid (¬ ((↑(((↑p1.length:Int):Int) - 0).toNat:Int) < (↑p1.length:Int))):=zL (wAs)
 refine sR fL1 Z (oR Z (zg Z wP uX) (eN (zK (cF Z uM (ZU (zk (zk (ZM (zH ?_)))))))))
 have q:=bnd sB
 obtain ⟨⟨cr,bI,bJ,bK,ir,cM,ct,cu,cw,cx⟩,IA,sC⟩:=q
 try dsimp only at sC
 refine yY (fun σ_ w_=>∃ (U_:PHeap) (aV:Nat) (cz:Option Addr) (cH:Nat) (bN:Option Addr) (bU:Nat) (bO:Option Addr) (bV:Nat) (bP:Option Addr) (bW:Nat) (du:Option Addr) (eu:Nat) (cS:Option Addr) (de:Nat) (aW:Nat) (cA:Option Addr) (cI:Nat) (cC:Option Addr) (cJ:Nat) (cD:Option Addr) (cK:Nat) (cE:Option Addr) (cL:Nat),σ_ 1=.slice aq p1.length au/\σ_ 2=.slice av p2.length az/\σ_ 3=.pointer (some ⟨b2,0,none⟩)/\σ_ 9=.pointer (some ⟨aV,0,none⟩)/\σ_ 10=.slice du ir.length eu/\σ_ 11=.slice cS cM.length de/\σ_ 12=.pointer (some ⟨aW,0,none⟩)/\PHeap.Le aZ U_/\sW w U U_ [.blk b2 27 B0,.blk aV 27 [.slice cz cr.length cH,.slice bN bI.length bU,.slice bO bJ.length bV,.slice bP bK.length bW],.row cz cH 3 1 (hH KL.encI cr),.row bN bU 39 2 (hH wAB bI),.row bO bV 112 3 (hH wAD bJ),.row bP bW 115 4 (hH wAC bK),.row cS de 3 1 (hH KL.encI cM),.blk aW 36 [.slice cA ct.length cI,.slice cC cu.length cJ,.slice cD cw.length cK,.slice cE cx.length cL],.row cA cI 3 1 (hH KL.encI ct),.row cC cJ 39 2 (hH wAB cu),.row cD cK 116 3 (hH wAG cw),.row cE cL 117 4 (hH wAF cx)] w_/\SlR U_ wEx du eu ir) ?_ ?_
 refine bnK IA fun aa jE HP=>bnK HP fun aT jG HT=>bnK HT fun aX jH HU=>bnK HU fun ah jJ HV=>zy zu [1,2,3,2,3,2,1,2,2,2,0,3,3,0] (.fl 0 (.fl 2 (.fl 4 (.fl 6 (.fx 1 (.fx 3 (.fx 5 (.fx 7 (.fx 8 gDi (.fx 9 gDj .stop)) (.fx 8 gDm (.fx 9 gDn .stop))) (.fx 8 gDp (.fx 9 gDq .stop))) (.fx 8 gDs (.fx 9 gDt .stop))) (.fx 8 (.fx 1 gDs (.fx 9 gDr .stop)) (.fx 9 (.fx 1 gDt (.fx 8 gDr .stop)) .stop))))))) (by kernel_rfl) ?_
 have e9:=Fu.drew
 generalize hw_W286:({ oy with drawn:=oy.drawn + 1 }:World)=uj at e9 ⊢
 refine ZC (s:=.nil) (M:=fun σ_ w_=>∃ (U_:PHeap) (i8:Nat) (fm:Option Addr) (gC:Nat) (fq:Option Addr) (gD:Nat) (ft:Option Addr) (gE:Nat) (fu:Option Addr) (gF:Nat) (iv:Option Addr) (jc:Nat) (fw:Option Addr) (gG:Nat) (i9:Nat) (fy:Option Addr) (gH:Nat) (fz:Option Addr) (gI:Nat) (fA:Option Addr) (gJ:Nat) (fB:Option Addr) (gK:Nat) (jR:Option Addr) (lj:Nat),σ_ 1=.slice aq p1.length au/\σ_ 2=.slice av p2.length az/\σ_ 3=.pointer (some ⟨b2,0,none⟩)/\σ_ 9=.pointer (some ⟨i8,0,none⟩)/\σ_ 10=.slice iv aT.length jc/\σ_ 11=.slice fw aX.length gG/\σ_ 12=.pointer (some ⟨i9,0,none⟩)/\σ_ 43=.agg B0.toArray/\σ_ 44=.agg #[.slice fm aa.Starts.length gC,.slice fq aa.Splits.length gD,.slice ft aa.Clocks.length gE,.slice fu aa.Readings.length gF]/\σ_ 45=.slice aq p1.length au/\σ_ 46=.slice jR aT.length lj/\σ_ 47=.slice av p2.length az/\σ_ 48=.slice fw aX.length gG/\σ_ 49=.agg B0.toArray/\σ_ 50=.agg #[.slice fy ah.Starts.length gH,.slice fz ah.Splits.length gI,.slice fA ah.Clocks.length gJ,.slice fB ah.Readings.length gK]/\PHeap.Le aZ U_/\sW w U U_ [.blk b2 27 B0,.blk i8 27 [.slice fm aa.Starts.length gC,.slice fq aa.Splits.length gD,.slice ft aa.Clocks.length gE,.slice fu aa.Readings.length gF],.row fm gC 3 1 (hH KL.encI aa.Starts),.row fq gD 39 2 (hH wAB aa.Splits),.row ft gE 112 3 (hH wAD aa.Clocks),.row fu gF 115 4 (hH wAC aa.Readings),.row fw gG 3 1 (hH KL.encI aX),.blk i9 36 [.slice fy ah.Starts.length gH,.slice fz ah.Splits.length gI,.slice fA ah.Clocks.length gJ,.slice fB ah.Readings.length gK],.row fy gH 3 1 (hH KL.encI ah.Starts),.row fz gI 39 2 (hH wAB ah.Splits),.row fA gJ 116 3 (hH wAG ah.Clocks),.row fB gK 117 4 (hH wAF ah.Readings)] w_/\SlR U_ wEx iv jc aT/\SlR U_ wEx jR lj aT) ?_ fun IB=>?_
 rintro K7 Jz ⟨th,i8,fm,gC,fq,gD,ft,gE,fu,gF,iv,jc,fw,gG,i9,fy,gH,fz,gI,fA,gJ,fB,gK,jR,lj,uO,uP,uQ,uR,uS,uT,uU,JX,JY,JZ,J3,J4,J5,J6,J7,ID,Ft,wQ,J9⟩
 refine zo ?_
 cases HV
 exact zH ⟨Z,⟨th,i8,fm,gC,fq,gD,ft,gE,fu,gF,iv,jc,fw,gG,i9,fy,gH,fz,gI,fA,gJ,fB,gK,uO,uP,uQ,uR,uS,uT,uU,ID,Ft,wQ⟩⟩
 let B1:List Value:=[.slice none 0 0,.slice none 0 0,.slice none 0 0,.slice none 0 0]
 refine ZC (s:=gDe) (M:=fun σ_ w_=>∃ (U_:PHeap) (gq:Nat) (cO:Option Addr) (cY:Nat) (cP:Option Addr) (cZ:Nat) (cQ:Option Addr) (da:Nat) (cR:Option Addr) (db:Nat) (gt:Nat) (fC:Option Addr) (gL:Nat) (fD:Option Addr) (gM:Nat) (dh:Option Addr) (d8:Nat) (dk:Option Addr) (d9:Nat) (dl:Option Addr) (ec:Nat) (dm:Option Addr) (ef:Nat),σ_ 1=.slice aq p1.length au/\σ_ 2=.slice av p2.length az/\σ_ 3=.pointer (some ⟨b2,0,none⟩)/\σ_ 9=.pointer (some ⟨gq,0,none⟩)/\σ_ 12=.pointer (some ⟨gt,0,none⟩)/\σ_ 43=.agg B0.toArray/\σ_ 44=.agg #[.slice cO aa.Starts.length cY,.slice cP aa.Splits.length cZ,.slice cQ aa.Clocks.length da,.slice cR aa.Readings.length db]/\σ_ 45=.slice aq p1.length au/\σ_ 46=.slice fC aT.length gL/\σ_ 47=.slice av p2.length az/\σ_ 48=.slice fD aX.length gM/\σ_ 49=.agg B0.toArray/\σ_ 50=.agg #[.slice dh ah.Starts.length d8,.slice dk ah.Splits.length d9,.slice dl ah.Clocks.length ec,.slice dm ah.Readings.length ef]/\PHeap.Le aZ U_/\sW w U U_ [.blk b2 27 B0,.blk gq 27 [.slice cO aa.Starts.length cY,.slice cP aa.Splits.length cZ,.slice cQ aa.Clocks.length da,.slice cR aa.Readings.length db],.row cO cY 3 1 (hH KL.encI aa.Starts),.row cP cZ 39 2 (hH wAB aa.Splits),.row cQ da 112 3 (hH wAD aa.Clocks),.row cR db 115 4 (hH wAC aa.Readings),.blk gt 36 B1,.row fD gM 3 1 (hH KL.encI aX),.row dh d8 3 1 (hH KL.encI ah.Starts),.row dk d9 39 2 (hH wAB ah.Splits),.row dl ec 116 3 (hH wAG ah.Clocks),.row dm ef 117 4 (hH wAF ah.Readings)] w_/\SlR U_ wEx fC gL aT) ?_ fun IC=>?_
 rintro K8 JA ⟨mU,gq,cO,cY,cP,cZ,cQ,da,cR,db,gt,fC,gL,fD,gM,dh,d8,dk,d9,dl,ec,dm,ef,uV,uW,uY,uZ,pL,u0,u7,u9,pM,va,pN,vb,pO,IE,Fv,rj⟩
 refine oA Z pM (oA Z pN ?_)
 let B2:List Value:=[.slice dh ah.Starts.length d8,.slice dk ah.Splits.length d9,.slice dl ah.Clocks.length ec,.slice dm ah.Readings.length ef]
 refine zW (j:=6) (vs:=B2) Z Z Z Z Fv Z pL pO Z Zc (zA Z) Z Z Z ?_
 intro tK Fw
 have Fx:sW w U mU [.blk b2 27 B0,.blk gq 27 [.slice cO aa.Starts.length cY,.slice cP aa.Splits.length cZ,.slice cQ aa.Clocks.length da,.slice cR aa.Readings.length db],.row cO cY 3 1 (hH KL.encI aa.Starts),.row cP cZ 39 2 (hH wAB aa.Splits),.row cQ da 112 3 (hH wAD aa.Clocks),.row cR db 115 4 (hH wAC aa.Readings),.blk gt 36 B2,.row fD gM 3 1 (hH KL.encI aX),.row dh d8 3 1 (hH KL.encI ah.Starts),.row dk d9 39 2 (hH wAB ah.Splits),.row dl ec 116 3 (hH wAG ah.Clocks),.row dm ef 117 4 (hH wAF ah.Readings)] tK:=Fw
 exact IB _ _ ⟨mU,gq,cO,cY,cP,cZ,cQ,da,cR,db,fC,gL,fD,gM,gt,dh,d8,dk,d9,dl,ec,dm,ef,fC,gL,uV,uW,uY,uZ,rfl,rfl,pL,u0,u7,u9,pM,va,pN,vb,pO,IE,(Fx.pick [0,1,2,3,4,5,7,6,8,9,10,11] _ (by decide) rfl),rj,rj⟩
 refine ZC (s:=gDg) (M:=fun σ_ w_=>∃ (U_:PHeap) (gu:Nat) (gv:Nat) (dp:Option Addr) (eg:Nat) (dq:Option Addr) (eh:Nat) (dr:Option Addr) (ej:Nat) (dt:Option Addr) (en:Nat) (iw:Option Addr) (jd:Nat) (fE:Option Addr) (gN:Nat) (fG:Option Addr) (gO:Nat) (fH:Option Addr) (gP:Nat) (fJ:Option Addr) (gQ:Nat) (fK:Option Addr) (gR:Nat),σ_ 1=.slice aq p1.length au/\σ_ 2=.slice av p2.length az/\σ_ 3=.pointer (some ⟨b2,0,none⟩)/\σ_ 9=.pointer (some ⟨gu,0,none⟩)/\σ_ 12=.pointer (some ⟨gv,0,none⟩)/\σ_ 43=.agg B0.toArray/\σ_ 44=.agg #[.slice dp aa.Starts.length eg,.slice dq aa.Splits.length eh,.slice dr aa.Clocks.length ej,.slice dt aa.Readings.length en]/\σ_ 45=.slice aq p1.length au/\σ_ 46=.slice iw aT.length jd/\σ_ 47=.slice av p2.length az/\σ_ 48=.slice fE aX.length gN/\σ_ 49=.agg B0.toArray/\σ_ 50=.agg #[.slice fG ah.Starts.length gO,.slice fH ah.Splits.length gP,.slice fJ ah.Clocks.length gQ,.slice fK ah.Readings.length gR]/\PHeap.Le aZ U_/\sW w U U_ [.blk b2 27 B0,.blk gu 27 B1,.blk gv 36 B1,.row dp eg 3 1 (hH KL.encI aa.Starts),.row dq eh 39 2 (hH wAB aa.Splits),.row dr ej 112 3 (hH wAD aa.Clocks),.row dt en 115 4 (hH wAC aa.Readings),.row fE gN 3 1 (hH KL.encI aX),.row fG gO 3 1 (hH KL.encI ah.Starts),.row fH gP 39 2 (hH wAB ah.Splits),.row fJ gQ 116 3 (hH wAG ah.Clocks),.row fK gR 117 4 (hH wAF ah.Readings)] w_/\SlR U_ wEx iw jd aT) ?_ fun lR=>?_
 rintro K9 JB ⟨mV,gu,gv,dp,eg,dq,eh,dr,ej,dt,en,iw,jd,fE,gN,fG,gO,fH,gP,fJ,gQ,fK,gR,vc,vd,ve,pP,vg,vh,pQ,vi,vj,vk,vl,vm,vn,IF,Fy,wR⟩
 let B3:List Value:=[.slice dp aa.Starts.length eg,.slice dq aa.Splits.length eh,.slice dr aa.Clocks.length ej,.slice dt aa.Readings.length en]
 refine zW (j:=1) (vs:=B3) Z Z Z Z Fy Z pP pQ Z zr (zA Z) Z Z Z ?_
 intro tL Fz
 have FA:sW w U mV [.blk b2 27 B0,.blk gu 27 B3,.blk gv 36 B1,.row dp eg 3 1 (hH KL.encI aa.Starts),.row dq eh 39 2 (hH wAB aa.Splits),.row dr ej 112 3 (hH wAD aa.Clocks),.row dt en 115 4 (hH wAC aa.Readings),.row fE gN 3 1 (hH KL.encI aX),.row fG gO 3 1 (hH KL.encI ah.Starts),.row fH gP 39 2 (hH wAB ah.Splits),.row fJ gQ 116 3 (hH wAG ah.Clocks),.row fK gR 117 4 (hH wAF ah.Readings)] tL:=Fz
 exact IC _ _ ⟨mV,gu,dp,eg,dq,eh,dr,ej,dt,en,gv,iw,jd,fE,gN,fG,gO,fH,gP,fJ,gQ,fK,gR,vc,vd,ve,pP,vg,vh,pQ,vi,vj,vk,vl,vm,vn,IF,(FA.pick [0,1,3,4,5,6,2,7,8,9,10,11] _ (by decide) rfl),wR⟩
 refine ZC (s:=gDk) (M:=fun σ_ w_=>∃ (U_:PHeap) (gw:Nat) (gx:Nat) (fL:Option Addr) (gS:Nat) (fM:Option Addr) (gT:Nat) (fN:Option Addr) (gU:Nat) (fO:Option Addr) (gW:Nat) (iy:Option Addr) (je:Nat) (fP:Option Addr) (gX:Nat),σ_ 1=.slice aq p1.length au/\σ_ 2=.slice av p2.length az/\σ_ 3=.pointer (some ⟨b2,0,none⟩)/\σ_ 9=.pointer (some ⟨gw,0,none⟩)/\σ_ 12=.pointer (some ⟨gx,0,none⟩)/\σ_ 43=.agg B0.toArray/\σ_ 44=.agg #[.slice fL aa.Starts.length gS,.slice fM aa.Splits.length gT,.slice fN aa.Clocks.length gU,.slice fO aa.Readings.length gW]/\σ_ 45=.slice aq p1.length au/\σ_ 46=.slice iy aT.length je/\σ_ 47=.slice av p2.length az/\σ_ 48=.slice fP aX.length gX/\σ_ 49=.agg B0.toArray/\PHeap.Le aZ U_/\sW w U U_ [.blk b2 27 B0,.blk gw 27 B1,.blk gx 36 B1,.row fL gS 3 1 (hH KL.encI aa.Starts),.row fM gT 39 2 (hH wAB aa.Splits),.row fN gU 112 3 (hH wAD aa.Clocks),.row fO gW 115 4 (hH wAC aa.Readings),.row fP gX 3 1 (hH KL.encI aX)] w_/\SlR U_ wEx iy je aT) ?_ fun lS=>?_
 rintro La tM ⟨tj,gw,gx,fL,gS,fM,gT,fN,gU,fO,gW,iy,je,fP,gX,vo,vp,vq,vr,vt,vu,vv,vw,vx,vy,vz,pR,it,FC,wS⟩
 have wU:=cm.le ak
 have wV:=wU.le ap
 have wW:=wV.le it
 have wX:=cn.le ak
 have wY:=wX.le ap
 have wZ:=wY.le it
 have w5:=cp.le ak
 have w6:=w5.le ap
 have w7:=w6.le it
 have w8:=cq.le ak
 have w9:=w8.le ap
 have xa:=w9.le it
 refine zI 0 Z Z Z Z (zJ Z Z Tryz.call11 (zC pR zP) Z) FC (fun hs=>wCH p0 bi bn bj bo bk bp bm bq tM tj hs wW wZ w7 xa jJ) (.inr Z) ?_
 rintro mW I0 Kj tO sX FD ⟨l4,o0,l5,o3,l6,o5,l7,o6,rfl,rfl⟩
 have FF:sW w U mW [.row l4 o0 3 1 (hH KL.encI ah.Starts),.row l5 o3 39 2 (hH wAB ah.Splits),.row l6 o5 116 3 (hH wAG ah.Clocks),.row l7 o6 117 4 (hH wAF ah.Readings),.blk b2 27 B0,.blk gw 27 B1,.blk gx 36 B1,.row fL gS 3 1 (hH KL.encI aa.Starts),.row fM gT 39 2 (hH wAB aa.Splits),.row fN gU 112 3 (hH wAD aa.Clocks),.row fO gW 115 4 (hH wAC aa.Readings),.row fP gX 3 1 (hH KL.encI aX)] tO:=FD
 have xb:=wS.le sX
 exact lR _ _ ⟨mW,gw,gx,fL,gS,fM,gT,fN,gU,fO,gW,iy,je,fP,gX,l4,o0,l5,o3,l6,o5,l7,o6,vo,vp,vq,vr,vt,vu,vv,vw,vx,vy,vz,pR,rfl,(it.trans sX),(FF.pick [4,5,6,7,8,9,10,11,0,1,2,3] _ (by decide) rfl),xb⟩
 refine ZC (s:=gDj) (M:=fun σ_ w_=>∃ (U_:PHeap) (ja:Nat) (iz:Option Addr) (jf:Nat) (iA:Option Addr) (jg:Nat) (iB:Option Addr) (jh:Nat) (iC:Option Addr) (ji:Nat) (iD:Option Addr) (jj:Nat) (iE:Option Addr) (jk:Nat) (iF:Option Addr) (jl:Nat) (iG:Option Addr) (jm:Nat) (iH:Option Addr) (jo:Nat) (iI:Option Addr) (jp:Nat),σ_ 1=.slice aq p1.length au/\σ_ 2=.slice av p2.length az/\σ_ 3=.pointer (some ⟨b2,0,none⟩)/\σ_ 12=.pointer (some ⟨ja,0,none⟩)/\σ_ 43=.agg B0.toArray/\σ_ 44=.agg #[.slice iz aa.Starts.length jf,.slice iA aa.Splits.length jg,.slice iB aa.Clocks.length jh,.slice iC aa.Readings.length ji]/\σ_ 45=.slice aq p1.length au/\σ_ 46=.slice iD aT.length jj/\σ_ 47=.slice av p2.length az/\σ_ 48=.slice iE aX.length jk/\σ_ 49=.agg B0.toArray/\σ_ 50=.agg #[.slice iF ah.Starts.length jl,.slice iG ah.Splits.length jm,.slice iH ah.Clocks.length jo,.slice iI ah.Readings.length jp]/\PHeap.Le aZ U_/\sW w U U_ [.blk b2 27 B0,.blk ja 36 B1,.row iz jf 3 1 (hH KL.encI aa.Starts),.row iA jg 39 2 (hH wAB aa.Splits),.row iB jh 112 3 (hH wAD aa.Clocks),.row iC ji 115 4 (hH wAC aa.Readings),.row iE jk 3 1 (hH KL.encI aX),.row iF jl 3 1 (hH KL.encI ah.Starts),.row iG jm 39 2 (hH wAB ah.Splits),.row iH jo 116 3 (hH wAG ah.Clocks),.row iI jp 117 4 (hH wAF ah.Readings)] w_/\SlR U_ wEx iD jj aT) ?_ fun sK=>?_
 rintro Lb JC ⟨tl,ja,iz,jf,iA,jg,iB,jh,iC,ji,iD,jj,iE,jk,iF,jl,iG,jm,iH,jo,iI,jp,vA,vB,vC,vD,vE,vG,vH,vJ,vK,vL,vM,vN,IG,FG,xc⟩
 refine zS (cs:=B1) Z Z Z Z Z Zz Z FG ?_
 intro JD ur FH
 exact lR _ _ ⟨tl,ur,ja,iz,jf,iA,jg,iB,jh,iC,ji,iD,jj,iE,jk,iF,jl,iG,jm,iH,jo,iI,jp,vA,vB,vC,rfl,vD,vE,vG,vH,vJ,vK,vL,vM,vN,IG,(FH.pick [1,0,2,3,4,5,6,7,8,9,10,11] _ (by decide) rfl),xc⟩
 refine ZC (s:=gDi) (M:=fun σ_ w_=>∃ (U_:PHeap) (jb:Nat) (iJ:Option Addr) (jq:Nat) (iK:Option Addr) (jr:Nat) (iL:Option Addr) (jt:Nat) (iM:Option Addr) (ju:Nat) (iN:Option Addr) (jv:Nat) (iO:Option Addr) (jw:Nat) (iP:Option Addr) (jx:Nat) (iQ:Option Addr) (jy:Nat) (iR:Option Addr) (jz:Nat) (iT:Option Addr) (jA:Nat),σ_ 1=.slice aq p1.length au/\σ_ 2=.slice av p2.length az/\σ_ 3=.pointer (some ⟨b2,0,none⟩)/\σ_ 9=.pointer (some ⟨jb,0,none⟩)/\σ_ 43=.agg B0.toArray/\σ_ 44=.agg #[.slice iJ aa.Starts.length jq,.slice iK aa.Splits.length jr,.slice iL aa.Clocks.length jt,.slice iM aa.Readings.length ju]/\σ_ 45=.slice aq p1.length au/\σ_ 46=.slice iN aT.length jv/\σ_ 47=.slice av p2.length az/\σ_ 48=.slice iO aX.length jw/\σ_ 49=.agg B0.toArray/\σ_ 50=.agg #[.slice iP ah.Starts.length jx,.slice iQ ah.Splits.length jy,.slice iR ah.Clocks.length jz,.slice iT ah.Readings.length jA]/\PHeap.Le aZ U_/\sW w U U_ [.blk b2 27 B0,.blk jb 27 B1,.row iJ jq 3 1 (hH KL.encI aa.Starts),.row iK jr 39 2 (hH wAB aa.Splits),.row iL jt 112 3 (hH wAD aa.Clocks),.row iM ju 115 4 (hH wAC aa.Readings),.row iO jw 3 1 (hH KL.encI aX),.row iP jx 3 1 (hH KL.encI ah.Starts),.row iQ jy 39 2 (hH wAB ah.Splits),.row iR jz 116 3 (hH wAG ah.Clocks),.row iT jA 117 4 (hH wAF ah.Readings)] w_/\SlR U_ wEx iN jv aT) ?_ fun sL=>?_
 rintro Lc JE ⟨tm,jb,iJ,jq,iK,jr,iL,jt,iM,ju,iN,jv,iO,jw,iP,jx,iQ,jy,iR,jz,iT,jA,vO,vP,vQ,vR,vS,vU,vV,vW,vX,vY,vZ,v4,II,FI,xd⟩
 refine zS (cs:=B1) Z Z Z Z Z Zi Z FI ?_
 intro JF uu FJ
 exact lR _ _ ⟨tm,jb,uu,iJ,jq,iK,jr,iL,jt,iM,ju,iN,jv,iO,jw,iP,jx,iQ,jy,iR,jz,iT,jA,vO,vP,vQ,vR,rfl,vS,vU,vV,vW,vX,vY,vZ,v4,II,(FJ.pick [1,2,0,3,4,5,6,7,8,9,10,11] _ (by decide) rfl),xd⟩
 refine ZC (s:=gDl) (M:=fun σ_ w_=>∃ (U_:PHeap) (gy:Nat) (gz:Nat) (fQ:Option Addr) (gZ:Nat) (fR:Option Addr) (g7:Nat) (fS:Option Addr) (g8:Nat) (fT:Option Addr) (g9:Nat) (iU:Option Addr) (jB:Nat),σ_ 1=.slice aq p1.length au/\σ_ 2=.slice av p2.length az/\σ_ 3=.pointer (some ⟨b2,0,none⟩)/\σ_ 9=.pointer (some ⟨gy,0,none⟩)/\σ_ 12=.pointer (some ⟨gz,0,none⟩)/\σ_ 43=.agg B0.toArray/\σ_ 44=.agg #[.slice fQ aa.Starts.length gZ,.slice fR aa.Splits.length g7,.slice fS aa.Clocks.length g8,.slice fT aa.Readings.length g9]/\σ_ 45=.slice aq p1.length au/\σ_ 46=.slice iU aT.length jB/\σ_ 47=.slice av p2.length az/\σ_ 49=.agg B0.toArray/\PHeap.Le aZ U_/\sW w U U_ [.blk b2 27 B0,.blk gy 27 B1,.blk gz 36 B1,.row fQ gZ 3 1 (hH KL.encI aa.Starts),.row fR g7 39 2 (hH wAB aa.Splits),.row fS g8 112 3 (hH wAD aa.Clocks),.row fT g9 115 4 (hH wAC aa.Readings)] w_/\SlR U_ wEx iU jB aT) ?_ fun lT=>?_
 rintro Ld tP ⟨tn,gy,gz,fQ,gZ,fR,g7,fS,g8,fT,g9,iU,jB,v5,v7,v8,v9,wa,wb,wc,wd,we,pS,wg,sY,FK,xe⟩
 have xf:=iq.le ak
 have xg:=xf.le ap
 have xh:=xg.le sY
 refine zI 0 Z Z Z Z (zJ Z Z Tryz.call32 (zC pS zP) Z) FK (fun hs=>wAk p2 av az tP tn hs xh jH) (.inr Z) ?_
 rintro mX I3 Kk tQ sZ FL ⟨l8,o7,rfl,rfl⟩
 have FM:sW w U mX [.row l8 o7 3 1 (hH KL.encI aX),.blk b2 27 B0,.blk gy 27 B1,.blk gz 36 B1,.row fQ gZ 3 1 (hH KL.encI aa.Starts),.row fR g7 39 2 (hH wAB aa.Splits),.row fS g8 112 3 (hH wAD aa.Clocks),.row fT g9 115 4 (hH wAC aa.Readings)] tQ:=FL
 have xi:=xe.le sZ
 exact lS _ _ ⟨mX,gy,gz,fQ,gZ,fR,g7,fS,g8,fT,g9,iU,jB,l8,o7,v5,v7,v8,v9,wa,wb,wc,wd,we,pS,rfl,wg,(sY.trans sZ),(FM.pick [1,2,3,4,5,6,7,0] _ (by decide) rfl),xi⟩
 refine ZC (s:=gDn) (M:=fun σ_ w_=>∃ (U_:PHeap) (dY:Nat) (dv:Option Addr) (ey:Nat) (dw:Option Addr) (eA:Nat) (dx:Option Addr) (eC:Nat) (dy:Option Addr) (eD:Nat) (fU:Option Addr) (ib:Nat) (dz:Option Addr) (eE:Nat),σ_ 1=.slice aq p1.length au/\σ_ 2=.slice av p2.length az/\σ_ 3=.pointer (some ⟨b2,0,none⟩)/\σ_ 12=.pointer (some ⟨dY,0,none⟩)/\σ_ 43=.agg B0.toArray/\σ_ 44=.agg #[.slice dv aa.Starts.length ey,.slice dw aa.Splits.length eA,.slice dx aa.Clocks.length eC,.slice dy aa.Readings.length eD]/\σ_ 45=.slice aq p1.length au/\σ_ 46=.slice fU aT.length ib/\σ_ 47=.slice av p2.length az/\σ_ 48=.slice dz aX.length eE/\σ_ 49=.agg B0.toArray/\PHeap.Le aZ U_/\sW w U U_ [.blk b2 27 B0,.blk dY 36 B1,.row dv ey 3 1 (hH KL.encI aa.Starts),.row dw eA 39 2 (hH wAB aa.Splits),.row dx eC 112 3 (hH wAD aa.Clocks),.row dy eD 115 4 (hH wAC aa.Readings),.row dz eE 3 1 (hH KL.encI aX)] w_/\SlR U_ wEx fU ib aT) ?_ fun sM=>?_
 rintro Lf tR ⟨mY,dY,dv,ey,dw,eA,dx,eC,dy,eD,fU,ib,dz,eE,pT,pU,pV,pW,pX,pY,pZ,p6,p7,p8,ly,ff,se,rk⟩
 refine zl ?_ ?_
 have xj:=cm.le ak
 have xk:=xj.le ap
 have xl:=xk.le ff
 have xm:=cn.le ak
 have xn:=xm.le ap
 have xo:=xn.le ff
 have xp:=cp.le ak
 have xq:=xp.le ap
 have xr:=xq.le ff
 have xt:=cq.le ak
 have xu:=xt.le ap
 have xw:=xu.le ff
 refine zI 0 Z Z Z Z (zJ Z Z Tryz.call11 (zC ly zP) Z) se (fun hs=>wCH p0 bi bn bj bo bk bp bm bq tR mY hs xl xo xr xw jJ) (.inr Z) ?_
 rintro mZ I4 Kl tS s5 FN ⟨ma,o8,mb,o9,mc,pe,md,pf,rfl,rfl⟩
 have FO:sW w U mZ [.row ma o8 3 1 (hH KL.encI ah.Starts),.row mb o9 39 2 (hH wAB ah.Splits),.row mc pe 116 3 (hH wAG ah.Clocks),.row md pf 117 4 (hH wAF ah.Readings),.blk b2 27 B0,.blk dY 36 B1,.row dv ey 3 1 (hH KL.encI aa.Starts),.row dw eA 39 2 (hH wAB aa.Splits),.row dx eC 112 3 (hH wAD aa.Clocks),.row dy eD 115 4 (hH wAC aa.Readings),.row dz eE 3 1 (hH KL.encI aX)] tS:=FN
 have xx:=rk.le s5
 exact sK _ _ ⟨mZ,dY,dv,ey,dw,eA,dx,eC,dy,eD,fU,ib,dz,eE,ma,o8,mb,o9,mc,pe,md,pf,pT,pU,pV,pW,pX,pY,pZ,p6,p7,p8,ly,rfl,(ff.trans s5),(FO.pick [4,5,6,7,8,9,10,0,1,2,3] _ (by decide) rfl),xx⟩
 refine zS (cs:=B1) Z Z Z Z Z Zz Z se ?_
 intro JG uv FP
 exact lS _ _ ⟨mY,uv,dY,dv,ey,dw,eA,dx,eC,dy,eD,fU,ib,dz,eE,pT,pU,pV,rfl,pW,pX,pY,pZ,p6,p7,p8,ly,ff,(FP.pick [1,0,2,3,4,5,6,7] _ (by decide) rfl),rk⟩
 refine ZC (s:=gDm) (M:=fun σ_ w_=>∃ (U_:PHeap) (dZ:Nat) (dA:Option Addr) (eF:Nat) (dB:Option Addr) (eG:Nat) (dC:Option Addr) (eH:Nat) (dD:Option Addr) (eI:Nat) (fV:Option Addr) (ic:Nat) (dE:Option Addr) (eJ:Nat),σ_ 1=.slice aq p1.length au/\σ_ 2=.slice av p2.length az/\σ_ 3=.pointer (some ⟨b2,0,none⟩)/\σ_ 9=.pointer (some ⟨dZ,0,none⟩)/\σ_ 43=.agg B0.toArray/\σ_ 44=.agg #[.slice dA aa.Starts.length eF,.slice dB aa.Splits.length eG,.slice dC aa.Clocks.length eH,.slice dD aa.Readings.length eI]/\σ_ 45=.slice aq p1.length au/\σ_ 46=.slice fV aT.length ic/\σ_ 47=.slice av p2.length az/\σ_ 48=.slice dE aX.length eJ/\σ_ 49=.agg B0.toArray/\PHeap.Le aZ U_/\sW w U U_ [.blk b2 27 B0,.blk dZ 27 B1,.row dA eF 3 1 (hH KL.encI aa.Starts),.row dB eG 39 2 (hH wAB aa.Splits),.row dC eH 112 3 (hH wAD aa.Clocks),.row dD eI 115 4 (hH wAC aa.Readings),.row dE eJ 3 1 (hH KL.encI aX)] w_/\SlR U_ wEx fV ic aT) ?_ fun sN=>?_
 rintro Lg tT ⟨m0,dZ,dA,eF,dB,eG,dC,eH,dD,eI,fV,ic,dE,eJ,p9,qa,qb,qc,qd,qe,qf,qh,qi,qj,lz,fg,sf,rn⟩
 refine zl ?_ ?_
 have xz:=cm.le ak
 have xA:=xz.le ap
 have xB:=xA.le fg
 have xC:=cn.le ak
 have xD:=xC.le ap
 have xE:=xD.le fg
 have xF:=cp.le ak
 have xG:=xF.le ap
 have xH:=xG.le fg
 have xI:=cq.le ak
 have xJ:=xI.le ap
 have xK:=xJ.le fg
 refine zI 0 Z Z Z Z (zJ Z Z Tryz.call11 (zC lz zP) Z) sf (fun hs=>wCH p0 bi bn bj bo bk bp bm bq tT m0 hs xB xE xH xK jJ) (.inr Z) ?_
 rintro m4 I5 Km tU s6 FQ ⟨me,pg,mf,ph,mg,pj,mh,pk,rfl,rfl⟩
 have FR:sW w U m4 [.row me pg 3 1 (hH KL.encI ah.Starts),.row mf ph 39 2 (hH wAB ah.Splits),.row mg pj 116 3 (hH wAG ah.Clocks),.row mh pk 117 4 (hH wAF ah.Readings),.blk b2 27 B0,.blk dZ 27 B1,.row dA eF 3 1 (hH KL.encI aa.Starts),.row dB eG 39 2 (hH wAB aa.Splits),.row dC eH 112 3 (hH wAD aa.Clocks),.row dD eI 115 4 (hH wAC aa.Readings),.row dE eJ 3 1 (hH KL.encI aX)] tU:=FQ
 have xL:=rn.le s6
 exact sL _ _ ⟨m4,dZ,dA,eF,dB,eG,dC,eH,dD,eI,fV,ic,dE,eJ,me,pg,mf,ph,mg,pj,mh,pk,p9,qa,qb,qc,qd,qe,qf,qh,qi,qj,lz,rfl,(fg.trans s6),(FR.pick [4,5,6,7,8,9,10,0,1,2,3] _ (by decide) rfl),xL⟩
 refine zS (cs:=B1) Z Z Z Z Z Zi Z sf ?_
 intro JH uw FS
 exact lS _ _ ⟨m0,dZ,uw,dA,eF,dB,eG,dC,eH,dD,eI,fV,ic,dE,eJ,p9,qa,qb,qc,rfl,qd,qe,qf,qh,qi,qj,lz,fg,(FS.pick [1,2,0,3,4,5,6,7] _ (by decide) rfl),rn⟩
 refine ZC (s:=gDo) (M:=fun σ_ w_=>∃ (U_:PHeap) (d4:Nat) (d5:Nat) (fW:Option Addr) (ie:Nat) (fY:Option Addr) (ig:Nat) (fZ:Option Addr) (ii:Nat) (ga:Option Addr) (ij:Nat),σ_ 1=.slice aq p1.length au/\σ_ 2=.slice av p2.length az/\σ_ 3=.pointer (some ⟨b2,0,none⟩)/\σ_ 9=.pointer (some ⟨d4,0,none⟩)/\σ_ 12=.pointer (some ⟨d5,0,none⟩)/\σ_ 43=.agg B0.toArray/\σ_ 44=.agg #[.slice fW aa.Starts.length ie,.slice fY aa.Splits.length ig,.slice fZ aa.Clocks.length ii,.slice ga aa.Readings.length ij]/\σ_ 45=.slice aq p1.length au/\σ_ 47=.slice av p2.length az/\σ_ 49=.agg B0.toArray/\PHeap.Le aZ U_/\sW w U U_ [.blk b2 27 B0,.blk d4 27 B1,.blk d5 36 B1,.row fW ie 3 1 (hH KL.encI aa.Starts),.row fY ig 39 2 (hH wAB aa.Splits),.row fZ ii 112 3 (hH wAD aa.Clocks),.row ga ij 115 4 (hH wAC aa.Readings)] w_) ?_ fun lU=>?_
 rintro Lh tV ⟨tp,d4,d5,fW,ie,fY,ig,fZ,ii,ga,ij,wh,wi,wj,wk,wl,wn,wo,qk,wp,wq,s7,FT⟩
 have xN:=fb.le ak
 have xO:=xN.le ap
 have xP:=xO.le s7
 refine zI 0 Z Z Z Z (zJ Z Z Tryz.call31 (zC qk zP) Z) FT (fun hs=>wBc p1 aq au tV tp hs xP jG) (.inr Z) ?_
 rintro tq I6 Kn oz IJ FU ⟨mi,pm,ro,rfl,rfl⟩
 let B4:Res:=.row ga ij 115 4 (hH wAC aa.Readings)
 let B5:Res:=.row fZ ii 112 3 (hH wAD aa.Clocks)
 let B6:Res:=.row fY ig 39 2 (hH wAB aa.Splits)
 let B7:Res:=.row fW ie 3 1 (hH KL.encI aa.Starts)
 have FV:sW w U tq [.row mi pm 22 1 (hH wDU ro),inn 3 1 KL.encI ro aT,.blk b2 27 B0,.blk d4 27 B1,.blk d5 36 B1,B7,B6,B5,B4] oz:=FU
 have q:=St.freezeN (R:=wEx) FV (fun _ _ _ _ h=>⟨_,_,rfl,h⟩) (fun _=>rfl) (by decide) rfl
 obtain ⟨m5,IK,Ip,FW⟩:=q
 have FX:sW w U m5 [.blk b2 27 B0,.blk d4 27 B1,.blk d5 36 B1,B7,B6,B5,B4] oz:=FW
 exact lT _ _ ⟨m5,d4,d5,fW,ie,fY,ig,fZ,ii,ga,ij,mi,pm,wh,wi,wj,wk,wl,wn,wo,qk,Z,wp,wq,((s7.trans IJ).trans IK),FX,Ip⟩
 refine ZC (s:=gDq) (M:=fun σ_ w_=>∃ (U_:PHeap) (d6:Nat) (dF:Option Addr) (eK:Nat) (dG:Option Addr) (eL:Nat) (dH:Option Addr) (eM:Nat) (dI:Option Addr) (eO:Nat) (gb:Option Addr) (ik:Nat),σ_ 1=.slice aq p1.length au/\σ_ 2=.slice av p2.length az/\σ_ 3=.pointer (some ⟨b2,0,none⟩)/\σ_ 12=.pointer (some ⟨d6,0,none⟩)/\σ_ 43=.agg B0.toArray/\σ_ 44=.agg #[.slice dF aa.Starts.length eK,.slice dG aa.Splits.length eL,.slice dH aa.Clocks.length eM,.slice dI aa.Readings.length eO]/\σ_ 45=.slice aq p1.length au/\σ_ 46=.slice gb aT.length ik/\σ_ 47=.slice av p2.length az/\σ_ 49=.agg B0.toArray/\PHeap.Le aZ U_/\sW w U U_ [.blk b2 27 B0,.blk d6 36 B1,.row dF eK 3 1 (hH KL.encI aa.Starts),.row dG eL 39 2 (hH wAB aa.Splits),.row dH eM 112 3 (hH wAD aa.Clocks),.row dI eO 115 4 (hH wAC aa.Readings)] w_/\SlR U_ wEx gb ik aT) ?_ fun sP=>?_
 rintro Li tW ⟨m6,d6,dF,eK,dG,eL,dH,eM,dI,eO,gb,ik,qm,qn,qo,qp,qq,qr,qt,qu,lA,qv,lV,sg,rp⟩
 refine zl ?_ ?_
 have xR:=iq.le ak
 have xS:=xR.le ap
 have xT:=xS.le lV
 refine zI 0 Z Z Z Z (zJ Z Z Tryz.call32 (zC lA zP) Z) sg (fun hs=>wAk p2 av az tW m6 hs xT jH) (.inr Z) ?_
 rintro m7 I7 Ko tX s8 FZ ⟨mj,pn,rfl,rfl⟩
 have F0:sW w U m7 [.row mj pn 3 1 (hH KL.encI aX),.blk b2 27 B0,.blk d6 36 B1,.row dF eK 3 1 (hH KL.encI aa.Starts),.row dG eL 39 2 (hH wAB aa.Splits),.row dH eM 112 3 (hH wAD aa.Clocks),.row dI eO 115 4 (hH wAC aa.Readings)] tX:=FZ
 have xU:=rp.le s8
 exact sM _ _ ⟨m7,d6,dF,eK,dG,eL,dH,eM,dI,eO,gb,ik,mj,pn,qm,qn,qo,qp,qq,qr,qt,qu,lA,rfl,qv,(lV.trans s8),(F0.pick [1,2,3,4,5,6,0] _ (by decide) rfl),xU⟩
 refine zS (cs:=B1) Z Z Z Z Z Zz Z sg ?_
 intro JI ux F1
 exact lT _ _ ⟨m6,ux,d6,dF,eK,dG,eL,dH,eM,dI,eO,gb,ik,qm,qn,qo,rfl,qp,qq,qr,qt,qu,lA,qv,lV,(F1.pick [1,0,2,3,4,5,6] _ (by decide) rfl),rp⟩
 refine ZC (s:=gDp) (M:=fun σ_ w_=>∃ (U_:PHeap) (d7:Nat) (dJ:Option Addr) (eP:Nat) (dK:Option Addr) (eQ:Nat) (dL:Option Addr) (eR:Nat) (dM:Option Addr) (eS:Nat) (ge:Option Addr) (il:Nat),σ_ 1=.slice aq p1.length au/\σ_ 2=.slice av p2.length az/\σ_ 3=.pointer (some ⟨b2,0,none⟩)/\σ_ 9=.pointer (some ⟨d7,0,none⟩)/\σ_ 43=.agg B0.toArray/\σ_ 44=.agg #[.slice dJ aa.Starts.length eP,.slice dK aa.Splits.length eQ,.slice dL aa.Clocks.length eR,.slice dM aa.Readings.length eS]/\σ_ 45=.slice aq p1.length au/\σ_ 46=.slice ge aT.length il/\σ_ 47=.slice av p2.length az/\σ_ 49=.agg B0.toArray/\PHeap.Le aZ U_/\sW w U U_ [.blk b2 27 B0,.blk d7 27 B1,.row dJ eP 3 1 (hH KL.encI aa.Starts),.row dK eQ 39 2 (hH wAB aa.Splits),.row dL eR 112 3 (hH wAD aa.Clocks),.row dM eS 115 4 (hH wAC aa.Readings)] w_/\SlR U_ wEx ge il aT) ?_ fun sQ=>?_
 rintro Lj tY ⟨m8,d7,dJ,eP,dK,eQ,dL,eR,dM,eS,ge,il,qw,qx,qy,qz,qA,qB,qC,qD,lB,qE,lW,sh,rq⟩
 refine zl ?_ ?_
 have xV:=iq.le ak
 have xW:=xV.le ap
 have xX:=xW.le lW
 refine zI 0 Z Z Z Z (zJ Z Z Tryz.call32 (zC lB zP) Z) sh (fun hs=>wAk p2 av az tY m8 hs xX jH) (.inr Z) ?_
 rintro m9 I8 Kp tZ s9 F2 ⟨ml,po,rfl,rfl⟩
 have F3:sW w U m9 [.row ml po 3 1 (hH KL.encI aX),.blk b2 27 B0,.blk d7 27 B1,.row dJ eP 3 1 (hH KL.encI aa.Starts),.row dK eQ 39 2 (hH wAB aa.Splits),.row dL eR 112 3 (hH wAD aa.Clocks),.row dM eS 115 4 (hH wAC aa.Readings)] tZ:=F2
 have xY:=rq.le s9
 exact sN _ _ ⟨m9,d7,dJ,eP,dK,eQ,dL,eR,dM,eS,ge,il,ml,po,qw,qx,qy,qz,qA,qB,qC,qD,lB,rfl,qE,(lW.trans s9),(F3.pick [1,2,3,4,5,6,0] _ (by decide) rfl),xY⟩
 refine zS (cs:=B1) Z Z Z Z Z Zi Z sh ?_
 intro JJ uy F4
 exact lT _ _ ⟨m8,d7,uy,dJ,eP,dK,eQ,dL,eR,dM,eS,ge,il,qw,qx,qy,qz,rfl,qA,qB,qC,qD,lB,qE,lW,(F4.pick [1,2,0,3,4,5,6] _ (by decide) rfl),rq⟩
 refine ZC (s:=gDr) (M:=fun σ_ w_=>∃ (U_:PHeap) (gA:Nat) (gB:Nat),σ_ 1=.slice aq p1.length au/\σ_ 2=.slice av p2.length az/\σ_ 3=.pointer (some ⟨b2,0,none⟩)/\σ_ 9=.pointer (some ⟨gA,0,none⟩)/\σ_ 12=.pointer (some ⟨gB,0,none⟩)/\σ_ 43=.agg B0.toArray/\σ_ 45=.slice aq p1.length au/\σ_ 47=.slice av p2.length az/\σ_ 49=.agg B0.toArray/\PHeap.Le aZ U_/\sW w U U_ [.blk b2 27 B0,.blk gA 27 B1,.blk gB 36 B1] w_) ?_ fun sS=>?_
 rintro Lk t7 ⟨tu,gA,gB,wt,wu,wv,ww,wx,qF,wy,wz,wA,iu,F5⟩
 have xZ:=cm.le ak
 have x8:=xZ.le ap
 have yr:=x8.le iu
 have yt:=cn.le ak
 have yu:=yt.le ap
 have yv:=yu.le iu
 have yw:=cp.le ak
 have yy:=yw.le ap
 have yz:=yy.le iu
 have y4:=cq.le ak
 have y5:=y4.le ap
 have y6:=y5.le iu
 refine zI 0 Z Z Z Z (zJ Z Z Tryz.call10 (zC qF zP) Z) F5 (fun hs=>wCM p0 bi bn bj bo bk bp bm bq t7 tu hs yr yv yz y6 jE) (.inr Z) ?_
 rintro n6 I9 Kq t8 IL F6 ⟨mn,pp,mo,pq,mp,pt,mq,pu,rfl,rfl⟩
 have F7:sW w U n6 [.row mn pp 3 1 (hH KL.encI aa.Starts),.row mo pq 39 2 (hH wAB aa.Splits),.row mp pt 112 3 (hH wAD aa.Clocks),.row mq pu 115 4 (hH wAC aa.Readings),.blk b2 27 B0,.blk gA 27 B1,.blk gB 36 B1] t8:=F6
 exact lU _ _ ⟨n6,gA,gB,mn,pp,mo,pq,mp,pt,mq,pu,wt,wu,wv,ww,wx,qF,rfl,wy,wz,wA,(iu.trans IL),(F7.pick [4,5,6,0,1,2,3] _ (by decide) rfl)⟩
 refine ZC (s:=gDt) (M:=fun σ_ w_=>∃ (U_:PHeap) (cW:Nat) (dN:Option Addr) (eT:Nat) (dO:Option Addr) (eU:Nat) (dP:Option Addr) (eV:Nat) (dQ:Option Addr) (eW:Nat),σ_ 1=.slice aq p1.length au/\σ_ 2=.slice av p2.length az/\σ_ 3=.pointer (some ⟨b2,0,none⟩)/\σ_ 12=.pointer (some ⟨cW,0,none⟩)/\σ_ 43=.agg B0.toArray/\σ_ 44=.agg #[.slice dN aa.Starts.length eT,.slice dO aa.Splits.length eU,.slice dP aa.Clocks.length eV,.slice dQ aa.Readings.length eW]/\σ_ 45=.slice aq p1.length au/\σ_ 47=.slice av p2.length az/\σ_ 49=.agg B0.toArray/\PHeap.Le aZ U_/\sW w U U_ [.blk b2 27 B0,.blk cW 36 B1,.row dN eT 3 1 (hH KL.encI aa.Starts),.row dO eU 39 2 (hH wAB aa.Splits),.row dP eV 112 3 (hH wAD aa.Clocks),.row dQ eW 115 4 (hH wAC aa.Readings)] w_) ?_ fun sU=>?_
 rintro Ll t9 ⟨n7,cW,dN,eT,dO,eU,dP,eV,dQ,eW,qG,qH,qI,qJ,qK,qL,lD,qM,qN,lX,sj⟩
 refine zl ?_ ?_
 have y7:=fb.le ak
 have y8:=y7.le ap
 have y9:=y8.le lX
 refine zI 0 Z Z Z Z (zJ Z Z Tryz.call31 (zC lD zP) Z) sj (fun hs=>wBc p1 aq au t9 n7 hs y9 jG) (.inr Z) ?_
 rintro tv Jb Kr oB IM F8 ⟨mr,py,rx,rfl,rfl⟩
 let B8:Res:=.row dQ eW 115 4 (hH wAC aa.Readings)
 let B9:Res:=.row dP eV 112 3 (hH wAD aa.Clocks)
 let mE:Res:=.row dO eU 39 2 (hH wAB aa.Splits)
 let mF:Res:=.row dN eT 3 1 (hH KL.encI aa.Starts)
 have F9:sW w U tv [.row mr py 22 1 (hH wDU rx),inn 3 1 KL.encI rx aT,.blk b2 27 B0,.blk cW 36 B1,mF,mE,B9,B8] oB:=F8
 have q:=St.freezeN (R:=wEx) F9 (fun _ _ _ _ h=>⟨_,_,rfl,h⟩) (fun _=>rfl) (by decide) rfl
 obtain ⟨n8,IN,Iq,Ga⟩:=q
 have Gb:sW w U n8 [.blk b2 27 B0,.blk cW 36 B1,mF,mE,B9,B8] oB:=Ga
 exact sP _ _ ⟨n8,cW,dN,eT,dO,eU,dP,eV,dQ,eW,mr,py,qG,qH,qI,qJ,qK,qL,lD,Z,qM,qN,((lX.trans IM).trans IN),Gb,Iq⟩
 refine zS (cs:=B1) Z Z Z Z Z Zz Z sj ?_
 intro JK uz Gc
 exact lU _ _ ⟨n7,uz,cW,dN,eT,dO,eU,dP,eV,dQ,eW,qG,qH,qI,rfl,qJ,qK,qL,lD,qM,qN,lX,(Gc.pick [1,0,2,3,4,5,6] _ (by decide) rfl)⟩
 refine ZC (s:=gDs) (M:=fun σ_ w_=>∃ (U_:PHeap) (cX:Nat) (dR:Option Addr) (eX:Nat) (dS:Option Addr) (eY:Nat) (dT:Option Addr) (eZ:Nat) (dU:Option Addr) (e8:Nat),σ_ 1=.slice aq p1.length au/\σ_ 2=.slice av p2.length az/\σ_ 3=.pointer (some ⟨b2,0,none⟩)/\σ_ 9=.pointer (some ⟨cX,0,none⟩)/\σ_ 43=.agg B0.toArray/\σ_ 44=.agg #[.slice dR aa.Starts.length eX,.slice dS aa.Splits.length eY,.slice dT aa.Clocks.length eZ,.slice dU aa.Readings.length e8]/\σ_ 45=.slice aq p1.length au/\σ_ 47=.slice av p2.length az/\σ_ 49=.agg B0.toArray/\PHeap.Le aZ U_/\sW w U U_ [.blk b2 27 B0,.blk cX 27 B1,.row dR eX 3 1 (hH KL.encI aa.Starts),.row dS eY 39 2 (hH wAB aa.Splits),.row dT eZ 112 3 (hH wAD aa.Clocks),.row dU e8 115 4 (hH wAC aa.Readings)] w_) ?_ fun sV=>?_
 rintro Lm ua ⟨n9,cX,dR,eX,dS,eY,dT,eZ,dU,e8,qO,qP,qQ,qR,qS,qT,lE,qU,qV,lY,sk⟩
 refine zl ?_ ?_
 have z0:=fb.le ak
 have z4:=z0.le ap
 have z5:=z4.le lY
 refine zI 0 Z Z Z Z (zJ Z Z Tryz.call31 (zC lE zP) Z) sk (fun hs=>wBc p1 aq au ua n9 hs z5 jG) (.inr Z) ?_
 rintro tw Jc Kt oG IP Gd ⟨ms,pz,ry,rfl,rfl⟩
 let mG:Res:=.row dU e8 115 4 (hH wAC aa.Readings)
 let mH:Res:=.row dT eZ 112 3 (hH wAD aa.Clocks)
 let mI:Res:=.row dS eY 39 2 (hH wAB aa.Splits)
 let mJ:Res:=.row dR eX 3 1 (hH KL.encI aa.Starts)
 have Ge:sW w U tw [.row ms pz 22 1 (hH wDU ry),inn 3 1 KL.encI ry aT,.blk b2 27 B0,.blk cX 27 B1,mJ,mI,mH,mG] oG:=Gd
 have q:=St.freezeN (R:=wEx) Ge (fun _ _ _ _ h=>⟨_,_,rfl,h⟩) (fun _=>rfl) (by decide) rfl
 obtain ⟨oa,IQ,Ir,Gf⟩:=q
 have Gg:sW w U oa [.blk b2 27 B0,.blk cX 27 B1,mJ,mI,mH,mG] oG:=Gf
 exact sQ _ _ ⟨oa,cX,dR,eX,dS,eY,dT,eZ,dU,e8,ms,pz,qO,qP,qQ,qR,qS,qT,lE,Z,qU,qV,((lY.trans IP).trans IQ),Gg,Ir⟩
 refine zS (cs:=B1) Z Z Z Z Z Zi Z sk ?_
 intro JL uA Gi
 exact lU _ _ ⟨n9,cX,uA,dR,eX,dS,eY,dT,eZ,dU,e8,qO,qP,qQ,qR,rfl,qS,qT,lE,qU,qV,lY,(Gi.pick [1,2,0,3,4,5,6] _ (by decide) rfl)⟩
 refine oL Z (e9.ldBA (j:=0) Z Z bf ZD zr (vs:=B0) Z Z) (oM Z br (oM Z bs (oL Z (e9.ldBA (j:=0) Z Z bf ZD zr (vs:=B0) Z Z) (zl ?_ ?_))))
 have z6:=cm.le ak
 have rA:=z6.le ap
 have z7:=cn.le ak
 have rC:=z7.le ap
 have z8:=cp.le ak
 have rD:=z8.le ap
 have z9:=cq.le ak
 have rE:=z9.le ap
 refine zI 0 Z Z Z Z (zJ Z Z Tryz.call10 (zC Z zP) Z) e9 (fun hs=>wCM p0 bi bn bj bo bk bp bm bq uj aZ hs rA rC rD rE jE) (.inr Z) ?_
 rintro iW Jd Ku oH bg Gj ⟨bQ,bY,bR,bZ,bS,b5,bT,b9,rfl,rfl⟩
 let gh:Res:=.row bT b9 115 4 (hH wAC aa.Readings)
 let gi:Res:=.row bS b5 112 3 (hH wAD aa.Clocks)
 let gj:Res:=.row bR bZ 39 2 (hH wAB aa.Splits)
 let gk:Res:=.row bQ bY 3 1 (hH KL.encI aa.Starts)
 have lI:sW w U iW [gk,gj,gi,gh,.blk b2 27 B0] oH:=Gj
 refine zl ?_ ?_
 have Aa:=fb.le ak
 have Ab:=Aa.le ap
 have Ac:=Ab.le bg
 refine zI 0 Z Z Z Z (zJ Z Z Tryz.call31 (zC Z zP) Z) lI (fun hs=>wBc p1 aq au oH iW hs Ac jG) (.inr Z) ?_
 rintro tz Je Kv k9 bD Gk ⟨cU,df,rF,rfl,rfl⟩
 have Gl:sW w U tz [.row cU df 22 1 (hH wDU rF),inn 3 1 KL.encI rF aT,gk,gj,gi,gh,.blk b2 27 B0] k9:=Gk
 have q:=St.freezeN (R:=wEx) Gl (fun _ _ _ _ h=>⟨_,_,rfl,h⟩) (fun _=>rfl) (by decide) rfl
 obtain ⟨iX,bE,fc,Gm⟩:=q
 have lJ:sW w U iX [gk,gj,gi,gh,.blk b2 27 B0] k9:=Gm
 refine zl ?_ ?_
 have Ad:=iq.le ak
 have Ae:=Ad.le ap
 have Af:=Ae.le bg
 have Ag:=Af.le bD
 have Ah:=Ag.le bE
 refine zI 0 Z Z Z Z (zJ Z Z Tryz.call32 (zC Z zP) Z) lJ (fun hs=>wAk p2 av az k9 iX hs Ah jH) (.inr Z) ?_
 rintro iY Jf Kw oI bw Gn ⟨gf,im,rfl,rfl⟩
 let mL:Res:=.row gf im 3 1 (hH KL.encI aX)
 have lK:sW w U iY [mL,gk,gj,gi,gh,.blk b2 27 B0] oI:=Gn
 refine zl ?_ ?_
 have Ai:=rA.le bg
 have Aj:=Ai.le bD
 have Ak:=Aj.le bE
 have Al:=Ak.le bw
 have Am:=rC.le bg
 have An:=Am.le bD
 have Ao:=An.le bE
 have Ap:=Ao.le bw
 have Aq:=rD.le bg
 have Ar:=Aq.le bD
 have As:=Ar.le bE
 have Au:=As.le bw
 have Av:=rE.le bg
 have Aw:=Av.le bD
 have Ay:=Aw.le bE
 have Az:=Ay.le bw
 refine zI 0 Z Z Z Z (zJ Z Z Tryz.call11 (zC Z zP) Z) lK (fun hs=>wCH p0 bi bn bj bo bk bp bm bq oI iY hs Al Ap Au Az jJ) (.inr Z) ?_
 rintro j0 Jg Kx ud jP Gp ⟨jS,lm,jU,ln,jW,lp,jX,ls,rfl,rfl⟩
 have sm:sW w U j0 [.row jS lm 3 1 (hH KL.encI ah.Starts),.row jU ln 39 2 (hH wAB ah.Splits),.row jW lp 116 3 (hH wAG ah.Clocks),.row jX ls 117 4 (hH wAF ah.Readings),mL,gk,gj,gi,gh,.blk b2 27 B0] ud:=Gp
 refine zl ?_ ?_
 refine zS (cs:=B1) Z Z Z Z Z Zz Z sm ?_
 intro JM uB Gq
 have AA:=fc.le bw
 have AD:=AA.le jP
 exact sL _ _ ⟨j0,uB,bQ,bY,bR,bZ,bS,b5,bT,b9,cU,df,gf,im,jS,lm,jU,ln,jW,lp,jX,ls,br,bs,bf,rfl,rfl,rfl,rfl,rfl,rfl,rfl,rfl,rfl,((((bg.trans bD).trans bE).trans bw).trans jP),(Gq.pick [10,0,6,7,8,9,5,1,2,3,4] _ (by decide) rfl),AD⟩
 refine zS (cs:=B1) Z Z Z Z Z Zi Z sm ?_
 intro JN uC Gr
 have AE:=fc.le bw
 have AG:=AE.le jP
 exact sK _ _ ⟨j0,uC,bQ,bY,bR,bZ,bS,b5,bT,b9,cU,df,gf,im,jS,lm,jU,ln,jW,lp,jX,ls,br,bs,bf,rfl,rfl,rfl,rfl,rfl,rfl,rfl,rfl,rfl,((((bg.trans bD).trans bE).trans bw).trans jP),(Gr.pick [10,0,6,7,8,9,5,1,2,3,4] _ (by decide) rfl),AG⟩
 refine zl ?_ ?_
 refine zS (cs:=B1) Z Z Z Z Z Zz Z lK ?_
 intro JO uD Gs
 have AI:=fc.le bw
 exact sN _ _ ⟨iY,uD,bQ,bY,bR,bZ,bS,b5,bT,b9,cU,df,gf,im,br,bs,bf,rfl,rfl,rfl,rfl,rfl,rfl,rfl,rfl,(((bg.trans bD).trans bE).trans bw),(Gs.pick [6,0,2,3,4,5,1] _ (by decide) rfl),AI⟩
 refine zS (cs:=B1) Z Z Z Z Z Zi Z lK ?_
 intro JP uE Gu
 have AJ:=fc.le bw
 exact sM _ _ ⟨iY,uE,bQ,bY,bR,bZ,bS,b5,bT,b9,cU,df,gf,im,br,bs,bf,rfl,rfl,rfl,rfl,rfl,rfl,rfl,rfl,(((bg.trans bD).trans bE).trans bw),(Gu.pick [6,0,2,3,4,5,1] _ (by decide) rfl),AJ⟩
 refine zl ?_ ?_
 refine zS (cs:=B1) Z Z Z Z Z Zz Z lJ ?_
 intro JQ uF Gw
 exact sQ _ _ ⟨iX,uF,bQ,bY,bR,bZ,bS,b5,bT,b9,cU,df,br,bs,bf,rfl,rfl,rfl,rfl,rfl,rfl,rfl,((bg.trans bD).trans bE),(Gw.pick [5,0,1,2,3,4] _ (by decide) rfl),fc⟩
 refine zS (cs:=B1) Z Z Z Z Z Zi Z lJ ?_
 intro JR uG Gx
 exact sP _ _ ⟨iX,uG,bQ,bY,bR,bZ,bS,b5,bT,b9,cU,df,br,bs,bf,rfl,rfl,rfl,rfl,rfl,rfl,rfl,((bg.trans bD).trans bE),(Gx.pick [5,0,1,2,3,4] _ (by decide) rfl),fc⟩
 refine zl ?_ ?_
 refine zS (cs:=B1) Z Z Z Z Z Zz Z lI ?_
 intro JT uH Gy
 exact sV _ _ ⟨iW,uH,bQ,bY,bR,bZ,bS,b5,bT,b9,br,bs,bf,rfl,rfl,rfl,rfl,rfl,rfl,bg,(Gy.pick [5,0,1,2,3,4] _ (by decide) rfl)⟩
 refine zS (cs:=B1) Z Z Z Z Z Zi Z lI ?_
 intro JU uI GA
 exact sU _ _ ⟨iW,uI,bQ,bY,bR,bZ,bS,b5,bT,b9,br,bs,bf,rfl,rfl,rfl,rfl,rfl,rfl,bg,(GA.pick [5,0,1,2,3,4] _ (by decide) rfl)⟩
 refine zl ?_ ?_
 refine zS (cs:=B1) Z Z Z Z Z Zz Z e9 ?_
 intro ue lh sn
 refine zl ?_ ?_
 have AL:=cm.le ak
 have AM:=AL.le ap
 have AN:=cn.le ak
 have AP:=AN.le ap
 have AQ:=cp.le ak
 have AS:=AQ.le ap
 have AT:=cq.le ak
 have AU:=AT.le ap
 refine zI 0 Z Z Z Z (zJ Z Z Tryz.call10 (zC Z zP) Z) sn (fun hs=>wCM p0 bi bn bj bo bk bp bm bq ue aZ hs AM AP AS AU jE) (.inr Z) ?_
 rintro oc Jh Ky uf IR GB ⟨mu,pB,mw,pC,my,pD,mz,pE,rfl,rfl⟩
 have GC:sW w U oc [.row mu pB 3 1 (hH KL.encI aa.Starts),.row mw pC 39 2 (hH wAB aa.Splits),.row my pD 112 3 (hH wAD aa.Clocks),.row mz pE 115 4 (hH wAC aa.Readings),.blk lh 27 B1,.blk b2 27 B0] uf:=GB
 exact sV _ _ ⟨oc,lh,mu,pB,mw,pC,my,pD,mz,pE,br,bs,bf,rfl,rfl,rfl,rfl,rfl,rfl,IR,(GC.pick [5,4,0,1,2,3] _ (by decide) rfl)⟩
 refine zS (cs:=B1) Z Z Z Z Z Zi Z sn ?_
 intro JV uJ GD
 exact sS _ _ ⟨aZ,lh,uJ,br,bs,bf,rfl,rfl,rfl,rfl,rfl,rfl,(zM _),(GD.pick [2,1,0] _ (by decide) rfl)⟩
 refine zS (cs:=B1) Z Z Z Z Z Zi Z e9 ?_
 intro ug li sq
 refine zl ?_ ?_
 have AW:=cm.le ak
 have AX:=AW.le ap
 have AY:=cn.le ak
 have AZ:=AY.le ap
 have A3:=cp.le ak
 have A4:=A3.le ap
 have A5:=cq.le ak
 have A6:=A5.le ap
 refine zI 0 Z Z Z Z (zJ Z Z Tryz.call10 (zC Z zP) Z) sq (fun hs=>wCM p0 bi bn bj bo bk bp bm bq ug aZ hs AX AZ A4 A6 jE) (.inr Z) ?_
 rintro od Ji Kz uh IS GE ⟨mA,pF,mB,pG,mC,pH,mD,pI,rfl,rfl⟩
 have GF:sW w U od [.row mA pF 3 1 (hH KL.encI aa.Starts),.row mB pG 39 2 (hH wAB aa.Splits),.row mC pH 112 3 (hH wAD aa.Clocks),.row mD pI 115 4 (hH wAC aa.Readings),.blk li 36 B1,.blk b2 27 B0] uh:=GE
 exact sU _ _ ⟨od,li,mA,pF,mB,pG,mC,pH,mD,pI,br,bs,bf,rfl,rfl,rfl,rfl,rfl,rfl,IS,(GF.pick [5,4,0,1,2,3] _ (by decide) rfl)⟩
 refine zS (cs:=B1) Z Z Z Z Z Zz Z sq ?_
 intro JW uK GH
 exact sS _ _ ⟨aZ,uK,li,br,bs,bf,rfl,rfl,rfl,rfl,rfl,rfl,(zM _),(GH.pick [2,0,1] _ (by decide) rfl)⟩
 rintro Ln oK ⟨Jy,aV,cz,cH,bN,bU,bO,bV,bP,bW,du,eu,cS,de,aW,cA,cI,cC,cJ,cD,cK,cE,cL,qW,qX,wB,jD,qY,qZ,lF,fh,GI,A8⟩
 refine zK (zK (zy zu [1,2,1,2,3] (.fl 0 (.fl 2 (.fx 1 gDa .stop))) (by kernel_rfl) ?_))
 have jL:=GI.drew
 generalize hw_W2627:({ oK with drawn:=oK.drawn + 1 }:World)=gp at jL ⊢
 let aU:List Value:=[.slice cz cr.length cH,.slice bN bI.length bU,.slice bO bJ.length bV,.slice bP bK.length bW]
 refine oL Z (jL.ldBA (j:=1) Z Z jD ZD zr (vs:=aU) Z Z) ?_
 let aY:List Value:=[.slice cA ct.length cI,.slice cC cu.length cJ,.slice cD cw.length cK,.slice cE cx.length cL]
 refine oL Z (jL.ldBA (j:=7) Z Z lF Zr Zc (vs:=aY) Z Z) ?_
 have q:=jL.freezeR (k:=2) (n:=cr.length) rfl (wAJ (f:=KL.encI) (sz:=1) (fun _=>rfl) cr) (by decide)
 obtain ⟨tA,dg,Is,GJ⟩:=q
 let cG:Res:=.row cE cL 117 4 (hH wAF cx)
 let bH:Res:=.row cS de 3 1 (hH KL.encI cM)
 let cV:Res:=.row cD cK 116 3 (hH wAG cw)
 let dV:Res:=.row cC cJ 39 2 (hH wAB cu)
 let gm:Res:=.row cA cI 3 1 (hH KL.encI ct)
 let jY:Res:=.row bP bW 115 4 (hH wAC bK)
 let mM:Res:=.row bO bV 112 3 (hH wAD bJ)
 have GK:sW w U tA [.blk b2 27 B0,.blk aV 27 aU,.row bN bU 39 2 (hH wAB bI),mM,jY,bH,.blk aW 36 aY,gm,dV,cV,cG] gp:=GJ
 have q:=GK.freezeR (k:=2) (n:=bI.length) rfl (wAJ (f:=wAB) (sz:=2) (fun _=>rfl) bI) (by decide)
 obtain ⟨tB,cN,It,GL⟩:=q
 have GM:sW w U tB [.blk b2 27 B0,.blk aV 27 aU,mM,jY,bH,.blk aW 36 aY,gm,dV,cV,cG] gp:=GL
 have q:=GM.freezeR (k:=2) (n:=bJ.length) rfl (wAJ (f:=wAD) (sz:=3) (fun _=>rfl) bJ) (by decide)
 obtain ⟨tC,cy,Iu,GN⟩:=q
 have GO:sW w U tC [.blk b2 27 B0,.blk aV 27 aU,jY,bH,.blk aW 36 aY,gm,dV,cV,cG] gp:=GN
 have q:=GO.freezeR (k:=2) (n:=bK.length) rfl (wAJ (f:=wAC) (sz:=4) (fun _=>rfl) bK) (by decide)
 obtain ⟨oe,bL,sG,GP⟩:=q
 have GQ:sW w U oe [.blk b2 27 B0,.blk aV 27 aU,bH,.blk aW 36 aY,gm,dV,cV,cG] gp:=GP
 have A9:=Is.le cN
 have Ba:=A9.le cy
 have rG:=Ba.le bL
 have Bb:=It.le cy
 have rH:=Bb.le bL
 have rI:=Iu.le bL
 refine bnK sC fun KR Bc HK=>zI 0 Z Z Z Z (zJ Z Z Tryz.call33 (zC Z zP) Z) GQ (fun hs=>wGm (⟨cr,bI,bJ,bK⟩:wAA) cz cH bN bU bO bV bP bW gp oe hs rG rH rI sG Bc) (.inr Z) ?_
 rintro tD Jj KA dX bF GR ⟨rfl,rfl⟩
 have GS:sW w U tD [.blk b2 27 B0,.blk aV 27 aU,bH,.blk aW 36 aY,gm,dV,cV,cG] dX:=GR
 have q:=GS.freezeR (k:=4) (n:=ct.length) rfl (wAJ (f:=KL.encI) (sz:=1) (fun _=>rfl) ct) (by decide)
 obtain ⟨tE,bG,Iv,GT⟩:=q
 have GU:sW w U tE [.blk b2 27 B0,.blk aV 27 aU,bH,.blk aW 36 aY,dV,cV,cG] dX:=GT
 have q:=GU.freezeR (k:=4) (n:=cu.length) rfl (wAJ (f:=wAB) (sz:=2) (fun _=>rfl) cu) (by decide)
 obtain ⟨tF,bz,Iw,GV⟩:=q
 have GW:sW w U tF [.blk b2 27 B0,.blk aV 27 aU,bH,.blk aW 36 aY,cV,cG] dX:=GV
 have q:=GW.freezeR (k:=4) (n:=cw.length) rfl (wAJ (f:=wAG) (sz:=3) (fun _=>rfl) cw) (by decide)
 obtain ⟨tG,bt,Ix,GX⟩:=q
 have GY:sW w U tG [.blk b2 27 B0,.blk aV 27 aU,bH,.blk aW 36 aY,cG] dX:=GX
 have q:=GY.freezeR (k:=4) (n:=cx.length) rfl (wAJ (f:=wAF) (sz:=4) (fun _=>rfl) cx) (by decide)
 obtain ⟨og,bh,sH,GZ⟩:=q
 have G0:sW w U og [.blk b2 27 B0,.blk aV 27 aU,bH,.blk aW 36 aY] dX:=GZ
 have Bd:=Iv.le bz
 have Be:=Bd.le bt
 have rJ:=Be.le bh
 have Bf:=Iw.le bt
 have rK:=Bf.le bh
 have rL:=Ix.le bh
 refine bnK HK fun KS Bg HM=>zI 0 Z Z Z Z (zJ Z Z Tryz.call34 (zC Z zP) Z) G0 (fun hs=>wCy (⟨ct,cu,cw,cx⟩:wAK) cA cI cC cJ cD cK cE cL dX og hs rJ rK rL sH Bg) (.inr Z) ?_
 rintro oh Jk KB lf bd Ha ⟨rfl,rfl⟩
 have lL:sW w U oh [.blk b2 27 B0,.blk aV 27 aU,bH,.blk aW 36 aY] lf:=Ha
 refine oR Z (Zu Z Z Z) (eN (ifc HM ?_ ?_))
 intro lu HO
 refine zx (Zh (fun h=>h lu.out)) (kN (sR (wFK (.fx 3 (wSN (.nil)) .stop)) Z (oL Z (lL.ldBA (j:=1) Z Z jD ZD zr (vs:=aU) Z Z) (oM Z qY (oM Z qZ ?_)))))
 have q:=lL.freezeR (k:=2) (n:=cM.length) rfl (wAJ (f:=KL.encI) (sz:=1) (fun _=>rfl) cM) (by decide)
 obtain ⟨oi,be,sI,Hb⟩:=q
 have Hc:sW w U oi [.blk b2 27 B0,.blk aV 27 aU,.blk aW 36 aY] lf:=Hb
 have Bh:=rG.le bF
 have Bi:=Bh.le bG
 have Bj:=Bi.le bz
 have Bk:=Bj.le bt
 have Bl:=Bk.le bh
 have Bm:=Bl.le bd
 have rM:=Bm.le be
 have Bn:=rH.le bF
 have Bo:=Bn.le bG
 have Bp:=Bo.le bz
 have Bq:=Bp.le bt
 have Br:=Bq.le bh
 have Bs:=Br.le bd
 have rN:=Bs.le be
 have Bt:=rI.le bF
 have Bu:=Bt.le bG
 have Bv:=Bu.le bz
 have Bw:=Bv.le bt
 have Bx:=Bw.le bh
 have By:=Bx.le bd
 have rO:=By.le be
 have Bz:=sG.le bF
 have BA:=Bz.le bG
 have BB:=BA.le bz
 have BC:=BB.le bt
 have BD:=BC.le bh
 have BE:=BD.le bd
 have rP:=BE.le be
 have BF:=A8.le dg
 have BG:=BF.le cN
 have BH:=BG.le cy
 have BI:=BH.le bL
 have BJ:=BI.le bF
 have BK:=BJ.le bG
 have BL:=BK.le bz
 have BM:=BL.le bt
 have BN:=BM.le bh
 have BO:=BN.le bd
 have rQ:=BO.le be
 have q:=bnd HO
 obtain ⟨⟨IV,IW⟩,BP,sD⟩:=q
 try dsimp only at sD
 refine zI 0 Z Z Z Z (zJ Z Z Tryz.call35 (zC Z (zC Z (zC Z zP))) Z) Hc (fun hs=>wLC (⟨cr,bI,bJ,bK⟩:wAA) cz cH bN bU bO bV bP bW ir du eu cM cS de lf oi hs rM rN rO rP rQ sI BP) (.inr Z) ?_
 rintro oj Jl KC oO a0 He ⟨rfl,rfl⟩
 have ss:sW w U oj [.blk b2 27 B0,.blk aV 27 aU,.blk aW 36 aY] oO:=He
 refine oM Z Z (oR Z (ZB Z Z (v:=.bool IV) Z) (oR Z (ZB Z Z (v:=jV IW) Z) (oA Z Z (oA Z Z (eN (sR (wFK (.fx 3 (wSN (.nil)) .stop)) Z (oL Z (ss.ldBA (j:=2) Z Z lF Zr Zc (vs:=aY) Z Z) (oM Z qW (oM Z qX ?_)))))))))
 have BQ:=rJ.le bd
 have BR:=BQ.le be
 have rS:=BR.le a0
 have BS:=rK.le bd
 have BT:=BS.le be
 have rT:=BT.le a0
 have BU:=rL.le bd
 have BV:=BU.le be
 have rV:=BV.le a0
 have BW:=sH.le bd
 have BX:=BW.le be
 have rW:=BX.le a0
 have BY:=fb.le ak
 have BZ:=BY.le ap
 have Ca:=BZ.le fh
 have Cb:=Ca.le dg
 have Cc:=Cb.le cN
 have Cd:=Cc.le cy
 have Ce:=Cd.le bL
 have Cf:=Ce.le bF
 have Cg:=Cf.le bG
 have Ch:=Cg.le bz
 have Ci:=Ch.le bt
 have Cj:=Ci.le bh
 have Ck:=Cj.le bd
 have Cm:=Ck.le be
 have rX:=Cm.le a0
 have Cn:=iq.le ak
 have Co:=Cn.le ap
 have Cp:=Co.le fh
 have Cq:=Cp.le dg
 have Cr:=Cq.le cN
 have Cs:=Cr.le cy
 have Ct:=Cs.le bL
 have Cu:=Ct.le bF
 have Cv:=Cu.le bG
 have Cw:=Cv.le bz
 have Cx:=Cw.le bt
 have Cy:=Cx.le bh
 have Cz:=Cy.le bd
 have CA:=Cz.le be
 have rY:=CA.le a0
 have q:=bnd sD
 obtain ⟨⟨IX,IY⟩,CB,sE⟩:=q
 try dsimp only at sE
 refine zI 0 Z Z Z Z (zJ Z Z Tryz.call36 (zC Z (zC Z (zC Z zP))) Z) ss (fun hs=>wEI (⟨ct,cu,cw,cx⟩:wAK) cA cI cC cJ cD cK cE cL p1 aq au p2 av az oO oj hs rS rT rV rW rX rY CB) (.inr Z) ?_
 rintro iZ Jm KD oP ba Hf ⟨rfl,rfl⟩
 have jM:sW w U iZ [.blk b2 27 B0,.blk aV 27 aU,.blk aW 36 aY] oP:=Hf
 refine oM Z Z (oR Z (ZB Z Z (v:=.bool IX) Z) (oR Z (ZB Z Z (v:=jV IY) Z) (oA Z Z (oA Z Z (eN (zK (sR fL8 Z (oM Z Z (oM Z Z (oR Z (Zu Z Z Z) (oM Z Z (ifc sE ?_ ?_))))))))))))
 intro cd HQ
 refine ZA Z Z Z (zO Z Z (Zh (fun h=>h cd.out))) Z Z (ZA Z Z Z (zO Z Z (Zh (fun h=>h cd.out))) Z Z (zm Z Z Z (zO Z Z (Zh (fun h=>h cd.out))) (fun _=>Runs.neB Z Z Z Tryz.runUnderlying4) (oR Z (zq Z (Zh (fun h=>h cd.out)) Z) (eN (ifc HQ ?_ ?_)))))
 intro lv HS
 refine zx (nC lv.out) (kN (sR (.fl 0 (.fx 1 (fC2_8 (.nil)) .stop)) Z (oL Z (jM.ldBA (j:=1) Z Z jD ZD zr (vs:=aU) Z Z) ?_)))
 have CD:=rM.le a0
 have rZ:=CD.le ba
 have CE:=rN.le a0
 have r0:=CE.le ba
 have CF:=rO.le a0
 have r6:=CF.le ba
 have CG:=rP.le a0
 have r7:=CG.le ba
 have q:=bnd HS
 obtain ⟨⟨lZ,fj,l3⟩,CH,sF⟩:=q
 try dsimp only at sF
 refine zI 0 Z Z Z Z (zJ Z Z Tryz.call37 (zC Z zP) Z) jM (fun hs=>wJt (⟨cr,bI,bJ,bK⟩:wAA) cz cH bN bU bO bV bP bW oP iZ hs rZ r0 r6 r7 CH) (.inr Z) ?_
 rintro om Jn KE lg bb Hh ⟨gg,io,pJ,iV,jC,rfl,rfl,CI⟩
 let jZ:Res:=.row iV jC 3 1 (hH KL.encI fj)
 have Hj:sW w U om [.row gg io 22 1 pJ,jZ,.blk b2 27 B0,.blk aV 27 aU,.blk aW 36 aY] lg:=Hh
 refine oM Z Z (oR Z (ZB Z Z (v:=.slice gg lZ.length io) Z) (oR Z (ZB Z Z (v:=.slice iV fj.length jC) Z) (oR Z (ZB Z Z (v:=jV l3) Z) (oA Z Z (oA Z Z (oA Z Z (eN (zK (yi fun bM bC=>?_)))))))))
 have wC:bM 1=.slice aq p1.length au:=(bC 1).trans qW
 have wD:bM 2=.slice av p2.length az:=(bC 2).trans qX
 have rc:bM 3=.pointer (some ⟨b2,0,none⟩):=(bC 3).trans wB
 have wE:bM 9=.pointer (some ⟨aV,0,none⟩):=(bC 9).trans jD
 have wG:bM 10=.slice du ir.length eu:=(bC 10).trans qY
 have wH:bM 11=.slice cS cM.length de:=(bC 11).trans qZ
 have wI:bM 12=.pointer (some ⟨aW,0,none⟩):=(bC 12).trans lF
 have wJ:bM 14=jV l3:=(bC 14).trans rfl
 have wK:bM 17=.slice gg lZ.length io:=(bC 17).trans rfl
 have wL:bM 18=.slice iV fj.length jC:=(bC 18).trans rfl
 clear bC
 refine zy zu [1,3,3,3,1,2,2,3,1,1,2,3,3,3,3,2,3,3,3,3,2,3,3,2,3,3] (wHz (.fx 5 (.fx 6 (fC7_9 (.fx 10 (wSP (.fx 15 (wST (.fx 20 (.fl 21 (.fl 22 (.fx 23 (.fl 24 (.fl 25 .nil)) .stop))) .stop)) .stop)) .stop)) .stop) .stop)) (by kernel_rfl) ?_
 have jN:=Hj.drew
 generalize hw_W2855:({ lg with drawn:=lg.drawn + 1 }:World)=ui at jN ⊢
 refine oL Z (jN.ldBA (j:=2) Z Z rc ZD zr (vs:=B0) Z Z) (oM Z wK (oM Z wL (oM Z wJ (oL Z (jN.ldBA (j:=4) Z Z wI Zr Zc (vs:=aY) Z Z) ?_))))
 have CJ:=rS.le ba
 have CL:=CJ.le bb
 have CM:=rT.le ba
 have CN:=CM.le bb
 have CO:=rV.le ba
 have CP:=CO.le bb
 have CQ:=rW.le ba
 have CR:=CQ.le bb
 refine bnK sF fun IZ CT HW=>zI 0 Z Z Z Z (zJ Z Z Tryz.call38 (zC Z zP) Z) jN (fun hs=>wFI (⟨ct,cu,cw,cx⟩:wAK) cA cI cC cJ cD cK cE cL ui om hs CL CN CP CR CT) (.inr Z) ?_
 rintro tH Jo KF i6 bu Hk ⟨rfl,rfl⟩
 have Hl:sW w U tH [.row gg io 22 1 pJ,jZ,.blk b2 27 B0,.blk aV 27 aU,.blk aW 36 aY] i6:=Hk
 have CU:=CI.le bu
 have q:=Hl.freezeRR (R:=wEx) (k:=0) rfl CU rfl (by decide)
 obtain ⟨tI,bA,Iy,Hm⟩:=q
 have Hn:sW w U tI [jZ,.blk b2 27 B0,.blk aV 27 aU,.blk aW 36 aY] i6:=Hm
 have q:=Hn.freezeR (k:=0) (n:=fj.length) rfl (wAJ (f:=KL.encI) (sz:=1) (fun _=>rfl) fj) (by decide)
 obtain ⟨oq,bv,Iz,Ho⟩:=q
 have Hp:sW w U oq [.blk b2 27 B0,.blk aV 27 aU,.blk aW 36 aY] i6:=Ho
 have CV:=cm.le ak
 have CW:=CV.le ap
 have CX:=CW.le fh
 have CY:=CX.le dg
 have CZ:=CY.le cN
 have C0:=CZ.le cy
 have C1:=C0.le bL
 have C2:=C1.le bF
 have C3:=C2.le bG
 have C4:=C3.le bz
 have C5:=C4.le bt
 have C6:=C5.le bh
 have C7:=C6.le bd
 have C8:=C7.le be
 have C9:=C8.le a0
 have Da:=C9.le ba
 have Db:=Da.le bb
 have Dc:=Db.le bu
 have Dd:=Dc.le bA
 have r8:=Dd.le bv
 have De:=cn.le ak
 have Df:=De.le ap
 have Dg:=Df.le fh
 have Dh:=Dg.le dg
 have Di:=Dh.le cN
 have Dj:=Di.le cy
 have Dk:=Dj.le bL
 have Dl:=Dk.le bF
 have Dm:=Dl.le bG
 have Dn:=Dm.le bz
 have Do:=Dn.le bt
 have Dp:=Do.le bh
 have Dq:=Dp.le bd
 have Dr:=Dq.le be
 have Ds:=Dr.le a0
 have Dt:=Ds.le ba
 have Du:=Dt.le bb
 have Dv:=Du.le bu
 have Dw:=Dv.le bA
 have r9:=Dw.le bv
 have Dx:=cp.le ak
 have Dy:=Dx.le ap
 have Dz:=Dy.le fh
 have DA:=Dz.le dg
 have DB:=DA.le cN
 have DC:=DB.le cy
 have DD:=DC.le bL
 have DE:=DD.le bF
 have DF:=DE.le bG
 have DG:=DF.le bz
 have DH:=DG.le bt
 have DI:=DH.le bh
 have DJ:=DI.le bd
 have DK:=DJ.le be
 have DL:=DK.le a0
 have DM:=DL.le ba
 have DN:=DM.le bb
 have DO:=DN.le bu
 have DP:=DO.le bA
 have sb:=DP.le bv
 have DQ:=cq.le ak
 have DR:=DQ.le ap
 have DS:=DR.le fh
 have DT:=DS.le dg
 have DU:=DT.le cN
 have DV:=DU.le cy
 have DW:=DV.le bL
 have DX:=DW.le bF
 have DY:=DX.le bG
 have DZ:=DY.le bz
 have D0:=DZ.le bt
 have D5:=D0.le bh
 have D6:=D5.le bd
 have D7:=D6.le be
 have D8:=D7.le a0
 have D9:=D8.le ba
 have Ea:=D9.le bb
 have Eb:=Ea.le bu
 have Ec:=Eb.le bA
 have sc:=Ec.le bv
 have Ee:=Iy.le bv
 refine bnK HW fun KT Ef HZ=>zI 0 Z Z Z Z (zJ Z Z Tryz.call19 (zC Z (zC Z (zC Z (zC Z (zC Z zP))))) Z) Hp (fun hs=>wFV p0 bi bn bj bo bk bp bm bq lZ gg io fj iV jC l3 IZ i6 oq hs r8 r9 sb sc Ee Iz Ef) (.inr Z) ?_
 rintro j5 Jp KG oU bB Hq ⟨rfl,rfl⟩
 have jO:sW w U j5 [.blk b2 27 B0,.blk aV 27 aU,.blk aW 36 aY] oU:=Hq
 refine oM Z Z (ifc HZ ?_ ?_)
 intro cf H0
 refine ZI Z Z Z (zO Z Z (congrArg nB cf.out)) (jO.ldBA (j:=1) Z Z wE ZD zr (vs:=aU) Z Z) Z (ZI Z Z Z (zO Z Z (congrArg nB cf.out)) (jO.ldBA (j:=0) Z Z rc ZD zr (vs:=B0) Z Z) Z ?_)
 have Eg:=rZ.le bb
 have Eh:=Eg.le bu
 have Ei:=Eh.le bA
 have Ej:=Ei.le bv
 have Ek:=Ej.le bB
 have El:=r0.le bb
 have Em:=El.le bu
 have En:=Em.le bA
 have Eo:=En.le bv
 have Ep:=Eo.le bB
 have Er:=r6.le bb
 have Es:=Er.le bu
 have Et:=Es.le bA
 have Eu:=Et.le bv
 have Ev:=Eu.le bB
 have Ew:=r7.le bb
 have Ey:=Ew.le bu
 have Ez:=Ey.le bA
 have EA:=Ez.le bv
 have EB:=EA.le bB
 have EC:=r8.le bB
 have ED:=r9.le bB
 have EE:=sb.le bB
 have EF:=sc.le bB
 refine bnK H0 fun KV EG H1=>zI 0 Z Z Z (zO Z Z (congrArg nB cf.out)) (zJ Z Z Tryz.call21 (zC Z (zC Z zP)) Z) jO (fun hs=>wFq (⟨cr,bI,bJ,bK⟩:wAA) cz cH bN bU bO bV bP bW p0 bi bn bj bo bk bp bm bq oU j5 hs Ek Ep Ev EB EC ED EE EF EG) (.inr Z) ?_
 rintro j6 Jq KH oW jQ Hr ⟨rfl,rfl⟩
 have sv:sW w U j6 [.blk b2 27 B0,.blk aV 27 aU,.blk aW 36 aY] oW:=Hr
 refine oR Z (zn Z (congrArg nB cf.out) Z) (oM Z Z (ifc H1 ?_ ?_))
 intro cg H2
 refine ZA Z Z Z (zO Z Z (congrArg nB cg.out)) Z wG (ZA Z Z Z (zO Z Z (congrArg nB cg.out)) Z wC ?_)
 have EH:=rQ.le a0
 have EI:=EH.le ba
 have EJ:=EI.le bb
 have EK:=EJ.le bu
 have EL:=EK.le bA
 have EM:=EL.le bv
 have EN:=EM.le bB
 have EO:=EN.le jQ
 have EP:=rX.le ba
 have EQ:=EP.le bb
 have ER:=EQ.le bu
 have ES:=ER.le bA
 have ET:=ES.le bv
 have EU:=ET.le bB
 have EV:=EU.le jQ
 refine bnK H2 fun KW EW H3=>zI 0 Z Z Z (zO Z Z (congrArg nB cg.out)) (zJ Z Z Tryz.call39 (zC Z (zC Z zP)) Z) sv (fun hs=>wEW ir du eu p1 aq au oW j6 hs EO EV EW) (.inr Z) ?_
 rintro j7 Jr KI oX tc Hs ⟨rfl,rfl⟩
 have sw:sW w U j7 [.blk b2 27 B0,.blk aV 27 aU,.blk aW 36 aY] oX:=Hs
 refine oR Z (zn Z (congrArg nB cg.out) Z) (oM Z Z (ifc H3 ?_ ?_))
 intro cj H4
 refine ZA Z Z Z (zO Z Z (congrArg nB cj.out)) Z wH (ZA Z Z Z (zO Z Z (congrArg nB cj.out)) Z wD ?_)
 have EX:=sI.le a0
 have EY:=EX.le ba
 have EZ:=EY.le bb
 have E1:=EZ.le bu
 have E2:=E1.le bA
 have E3:=E2.le bv
 have E4:=E3.le bB
 have E5:=E4.le jQ
 have E6:=E5.le tc
 have E7:=rY.le ba
 have E8:=E7.le bb
 have E9:=E8.le bu
 have Fa:=E9.le bA
 have Fb:=Fa.le bv
 have Fc:=Fb.le bB
 have Fd:=Fc.le jQ
 have Fe:=Fd.le tc
 refine bnK H4 fun KY Ff H5=>zI 0 Z Z Z (zO Z Z (congrArg nB cj.out)) (zJ Z Z Tryz.call26 (zC Z (zC Z zP)) Z) sw (fun hs=>wCk cM cS de p2 av az oX j7 hs E6 Fe Ff) (.inr Z) ?_
 rintro j8 Js KJ oY Kd Ht ⟨rfl,rfl⟩
 have sA:sW w U j8 [.blk b2 27 B0,.blk aV 27 aU,.blk aW 36 aY] oY:=Ht
 refine oR Z (zn Z (congrArg nB cj.out) Z) (oM Z Z (ifc H5 ?_ ?_))
 intro ip H6
 refine bnK H6 fun KZ Fg H7=>zI 0 Z Z Z (zO Z Z (congrArg nB ip.out)) (zJ Z Z Tryz.call9 zP Z) sA (fun hs=>wBq oY j8 hs Fg) (.inr Z) ?_
 rintro ot Jt KK uk Ke Hu ⟨rfl,rfl⟩
 have Hv:sW w U ot [.blk b2 27 B0,.blk aV 27 aU,.blk aW 36 aY] uk:=Hu
 refine oR Z (zn Z (congrArg nB ip.out) Z) (oA Z Z (eN (zR ?_)))
 have hE:=nA H7;first | subst r | cases hE
 exact ⟨rfl,_,(ZF rfl),ot,_,(Hv.pick [] _ (by decide) rfl),rfl,rfl⟩
 intro ip H8
 refine yD Z Z Z (zh Z Z (congrArg nB (nD.2 ip.out)) Z) (oR Z (zq Z (congrArg nB (nD.2 ip.out)) Z) (oA Z Z (eN (zR ?_))))
 have hE:=nA H8;first | subst r | cases hE
 exact ⟨rfl,_,(ZF rfl),j8,_,(sA.pick [] _ (by decide) rfl),rfl,rfl⟩
 intro cj H9
 refine ZO Z Z Z (zh Z Z (congrArg nB (nD.2 cj.out)) Z) (ZO Z Z Z (zh Z Z (congrArg nB (nD.2 cj.out)) Z) (yD Z Z Z (zh Z Z (congrArg nB (nD.2 cj.out)) Z) (oR Z (zq Z (congrArg nB (nD.2 cj.out)) Z) (oM Z Z (yD Z Z Z (zh Z Z Z Z) (oR Z (zq Z Z Z) (oA Z Z (eN (zR ?_)))))))))
 have hE:=nA H9;first | subst r | cases hE
 exact ⟨rfl,_,(ZF rfl),j7,_,(sw.pick [] _ (by decide) rfl),rfl,rfl⟩
 intro cg Ia
 refine ZO Z Z Z (zh Z Z (congrArg nB (nD.2 cg.out)) Z) (ZO Z Z Z (zh Z Z (congrArg nB (nD.2 cg.out)) Z) (yD Z Z Z (zh Z Z (congrArg nB (nD.2 cg.out)) Z) (oR Z (zq Z (congrArg nB (nD.2 cg.out)) Z) (oM Z Z (oN Z (oN Z (yD Z Z Z (zh Z Z Z Z) (oR Z (zq Z Z Z) (oM Z Z (yD Z Z Z (zh Z Z Z Z) (oR Z (zq Z Z Z) (oA Z Z (eN (zR ?_))))))))))))))
 have hE:=nA Ia;first | subst r | cases hE
 exact ⟨rfl,_,(ZF rfl),j6,_,(sv.pick [] _ (by decide) rfl),rfl,rfl⟩
 intro cf Ib
 refine ZO Z Z Z (zh Z Z (congrArg nB (nD.2 cf.out)) Z) (ZO Z Z Z (zh Z Z (congrArg nB (nD.2 cf.out)) Z) (yD Z Z Z (zh Z Z (congrArg nB (nD.2 cf.out)) Z) (oR Z (zq Z (congrArg nB (nD.2 cf.out)) Z) (oM Z Z (oN Z (oN Z (yD Z Z Z (zh Z Z Z Z) (oR Z (zq Z Z Z) (oM Z Z (oN Z (oN Z (yD Z Z Z (zh Z Z Z Z) (oR Z (zq Z Z Z) (oM Z Z (yD Z Z Z (zh Z Z Z Z) (oR Z (zq Z Z Z) (oA Z Z (eN (zR ?_)))))))))))))))))))
 have hE:=nA Ib;first | subst r | cases hE
 exact ⟨rfl,_,(ZF rfl),j5,_,(jO.pick [] _ (by decide) rfl),rfl,rfl⟩
 intro lv Ic
 refine ZE (nF (lv.out)) (sR fL1 Z (oA Z Z (eN (zR (zN ?_)))))
 have hE:=nA Ic;first | subst r | cases hE
 exact ⟨rfl,_,(ZF rfl),iZ,_,(jM.pick [] _ (by decide) rfl),rfl,rfl⟩
 intro cd Ie
 refine oT Z cd (oT Z cd (oT Z cd (oR Z (zn Z (Zk cd.out) Z) (eN (ZE Z (sR fL1 Z (oA Z Z (eN (zR (zN ?_))))))))))
 have hE:=nA Ie;first | subst r | cases hE
 exact ⟨rfl,_,(ZF rfl),iZ,_,(jM.pick [] _ (by decide) rfl),rfl,rfl⟩
 intro lu If
 refine cT Z lu (sR fL1 Z (oA Z Z (eN (zR (zN ?_)))))
 have hE:=nA If;first | subst r | cases hE
 exact ⟨rfl,_,(ZF rfl),oh,_,(lL.pick [] _ (by decide) rfl),rfl,rfl⟩
end Go.Proofs.YtlnfbjphfoipaaaGreat
