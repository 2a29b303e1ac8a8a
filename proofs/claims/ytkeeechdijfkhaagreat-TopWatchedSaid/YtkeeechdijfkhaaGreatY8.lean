import Derived.Test.YtkeeechdijfkhaaGreatY7
import Derived.Test.YtkeeechdijfkhaaGreatY6
set_option linter.all false
open List renaming flatMap->nA,getElem_cons_succ->nB,getElem_cons_zero->nD,getElem_toArray->nE,length_set->nH,set->nI
open Int renaming toNat_natCast->nG,eq_ofNat_of_zero_le->nK
open Option.some renaming inj->nJ
open Go.Value renaming bool->nL
open Bool renaming eq_false_iff->nM
namespace Go.Proofs.YtkeeechdijfkhaaGreat
open Go.KL
def gBm:Sch:=.fx 2 (.fx 3 .nil .stop) .stop
def gBn:Sch:=.fx 6 (.fx 7 .nil .stop) .stop
def gBo:Sch:=.fx 8 (.fx 9 .nil .stop) .stop
def gBp:Sch:=.fl 7 (.fx 9 .nil .stop)
def gBq:Sch:=.fx 4 (.fl 5 .nil) .stop
def gBr:Sch:=.fx 7 (.fx 8 .nil .stop) .stop
def gBs:Sch:=.fx 6 (.fx 8 .nil .stop) .stop
def gBt:Sch:=.fx 0 (.fx 1 .nil .stop) .stop
def gBu:Sch:=.fx 1 (.fx 2 .nil .stop) .stop
def gBv:Sch:=.fx 2 (.fl 3 .nil) .stop
def gBw:Sch:=.fl 14 (.fx 16 .nil .stop)
def gBx:Sch:=.fl 17 (.fx 18 .nil .stop)
def gBy:Sch:=.fx 6 gBp .stop
def gBz:Sch:=.fx 4 gBp .stop
def gCa:Sch:=.fx 1 (.fl 2 (.fl 3 .nil)) .stop
def gCb:Sch:=.fx 3 gBq .stop
def gCc:Sch:=.fl 22 (.fl 23 (.fx 24 .nil .stop))
def gCd:Sch:=.fx 0 (.fl 1 (.fl 2 .nil)) .stop
def gCe:Sch:=.fx 7 (.fl 8 (.fl 9 .nil)) .stop
def gCf:Sch:=.fl 14 (.fx 15 (.fx 16 .nil .stop) .stop)
def gCg:Sch:=.fx 13 gBw .stop
def gCh:Sch:=.fx 3 (.fl 4 (.fl 5 .nil)) .stop
def gCi:Sch:=.fx 13 (.fl 14 (.fl 15 .nil)) .stop
def gCj:Sch:=.fl 7 (.fx 2 gBo .stop)
def gCk:Sch:=.fl 4 (.fl 5 gBs)
def gCl:Sch:=.fx 0 (.fl 5 gBs) .stop
def gCm:Sch:=.fx 21 gCc .stop
def gCn:Sch:=.fl 0 gCa
def gCo:Sch:=.fl 0 (.fl 1 gBv)
def gCp:Sch:=.fx 7 gCg .stop
def gCq:Sch:=.fx 12 gCi .stop
def gCr:Sch:=.fx 6 (.fl 7 gBo) (.fx 8 gBy .stop)
def gCs:Sch:=.fx 4 (.fl 7 gBo) (.fx 8 gBz .stop)
def gCt:Sch:=.fx 0 (.fx 1 (.fx 2 (.fx 3 (.fl 4 .nil) .stop) .stop) .stop) .stop
def gCu:Sch:=.fl 5 (.fx 6 gBr (.fx 7 gBs .stop))
def gCv:Sch:=.fx 3 gCk .stop
def gCw:Sch:=.fx 13 gCf (.fx 15 gCg .stop)
def gCx:Sch:=.fx 6 (.fl 12 gCg) .stop
def gCy:Sch:=.fx 4 (.fx 16 gBx .stop) (.fx 16 (.fx 4 gBx .stop) .stop)
def gCz:Sch:=.fx 2 gCv .stop
def gDa:Sch:=.fx 1 gCv .stop
def gDb:Sch:=.fx 0 gCx .stop
def gDc:Sch:=.fl 1 (.fl 2 (.fx 0 (.fl 3 (.fx 4 (.fx 5 .nil .stop) .stop)) (.fx 4 (.fx 0 (.fl 3 (.fx 5 .nil .stop)) .stop) .stop)))
def gDd:Sch:=.fl 0 (.fl 2 (.fx 1 gCb (.fx 3 (.fx 1 gBq .stop) .stop)))
def gDe:Sch:=.fx 3 (.fl 4 gCu) (.fx 7 gCv .stop)
def gDf:Sch:=.fl 4 (.fx 0 gCu (.fx 7 gCl .stop))
def gDg:Sch:=.fx 0 gCv (.fx 3 (.fl 4 gCl) .stop)
def gDh:Sch:=.fx 6 (.fl 12 gCw) (.fx 15 gCx .stop)
def gDi:Sch:=.fx 6 (.fl 12 gCp) (.fx 7 gCx .stop)
def gDj:Sch:=.fl 0 (.fl 2 (.fx 1 (.fx 3 (.fx 4 (.fx 5 (.fl 6 .nil) .stop) .stop) .stop) .stop))
def gDk:Sch:=.fx 2 gDe (.fx 7 gCz .stop)
def gDl:Sch:=.fx 1 gDe (.fx 7 gDa .stop)
def gDm:Sch:=.fx 1 gCz (.fx 2 gDa .stop)
def gDn:Sch:=.fx 0 gCz (.fx 2 gDg .stop)
def gDo:Sch:=.fx 0 gDa (.fx 1 gDg .stop)
def gDp:Sch:=.fx 0 gDe (.fx 3 gDf (.fx 7 gDg .stop))
set_option maxHeartbeats 4000000
theorem wHR (p0:wAD) (bw:Option Addr) (bB:Nat) (bz:Option Addr) (bC:Nat) (bA:Option Addr) (bD:Nat) (ba:Option Addr) (bb:Nat) (p1:wAK) (w:World) (U:PHeap) (hS:St0 w U []) (g6:Sl U 1 bw bB p0.Starts.length (nA KL.encI p0.Starts)) (g7:Sl U 2 bz bC p0.Splits.length (nA wAP p0.Splits)) (g8:Sl U 3 bA bD p0.Clocks.length (nA wAA p0.Clocks)) (fP:Sl U 4 ba bb p0.Readings.length (nA wAL p0.Readings)) {r:wAF × wAF} (hm:wCu p0 p1=some r):Gv Tryz.prog 115 [.agg #[.slice bw p0.Starts.length bB,.slice bz p0.Splits.length bC,.slice bA p0.Clocks.length bD,.slice ba p0.Readings.length bb],.agg #[jV p1.Kind,jV p1.Skier,jV p1.Index,.bool p1.Up]] w (wCQ w [] U (fun U_ L_ v=>v=.tuple #[.agg #[jV r.1.skier,jV r.1.mat],.agg #[jV r.2.skier,jV r.2.mat]]/\L_=[])):=by
 unfold wCu at hm
 refine Gv.of Tryz.func115 Z Tryz.ntmps115 Tryz.results115 Z (sR (.fx 0 (.fx 1 gBm .stop) .stop) Z ?_)
 let B0:List Value:=[.slice bw p0.Starts.length bB,.slice bz p0.Splits.length bC,.slice bA p0.Clocks.length bD,.slice ba p0.Readings.length bb]
 refine ZG (cs:=B0) rfl rfl rfl rfl rfl rfl (by rfl) hS ?_
 intro W1 b2 fA
 let B1:List Value:=[jV p1.Kind,jV p1.Skier,jV p1.Index,.bool p1.Up]
 refine ZG (cs:=B1) rfl rfl rfl rfl rfl rfl (by rfl) fA ?_
 intro W5 b6 fO
 let B2:List Value:=[jV 0,jV 0]
 refine zX (cs:=B2) Z Z Z Z Z zh Z fO ?_
 intro W9 ah eU
 refine zX (cs:=B2) Z Z Z Z Z zh Z eU ?_
 intro gA ai aX
 refine eN (sR (wIu gBn) Z (oR Z (zJ Z Z zQ Z yV) (oL Z (aX.ldB (j:=3) Z Z Z Tryz.isAgg26 (v:=.slice ba p0.Readings.length bb) Z) (oR Z (zJ Z Z zr Z zC) (oL Z (aX.ldB (j:=2) Z Z Z zE (v:=jV p1.Index) Z) (bnK hm fun ab br fQ=>?_))))))
 have q:=fP.el (fun _=>rfl) (wBB br)
 obtain ⟨gO,ib,eO,eQ⟩:=q
 refine oR Z (zl Z Z eO Z yH Zm (wCC br) (wCL br)) (oL Z (aX.ldCA (f:=0) eQ Z Z Tryz.isAgg57 Zm (us:=[jV ab.Skier,jV ab.Mat,jV ab.Clock,jV ab.Time]) Z Z) (zX (cs:=[jV 0,jV 0,jV 0,jV 0]) Z Z Z Z Z Zq Z aX ?_))
 intro gH aa fq
 let B3:List Value:=[jV ab.Skier,jV ab.Mat,jV ab.Clock,jV ab.Time]
 refine ze (j:=0) (vs:=B3) Z Z Z Z fq Z Z Z Z Zm (zA Z) Z Z Z ?_
 intro bi fz
 have fB:sW w U U [.blk aa 57 B3,.blk ai 68 B2,.blk ah 68 B2,.blk b6 118 B1,.blk b2 28 B0] bi:=fz
 refine eN ?_
 have q:=bnd fQ
 obtain ⟨⟨gi,gm⟩,fS,cy⟩:=q
 try dsimp only at cy
 let B4:List Value:=[jV ab.Skier,jV ab.Mat]
 let B5:List Value:=[jV gi,jV gm]
 refine Zp (fun σ_ w_=>∃ (U_:PHeap),σ_ 4=.pointer (some ⟨ah,0,none⟩)/\σ_ 5=.pointer (some ⟨ai,0,none⟩)/\PHeap.Le U U_/\sW w U U_ [.blk aa 57 B3,.blk ai 68 B4,.blk ah 68 B5,.blk b6 118 B1,.blk b2 28 B0] w_) ?_ ?_
 refine bnK fS fun x36 aW fR=>zt zq [3,1,2,3,2,3,2,3,0,0] (.fl 0 (.fl 1 (.fl 3 (.fl 5 (.fx 2 (.fx 4 gCr (.fx 6 gCs (.fx 8 (.fx 4 gBy (.fx 6 gBz .stop)) .stop))) (.fx 4 (.fx 2 gCr (.fx 6 gCj .stop)) (.fx 6 (.fx 2 gCs (.fx 4 gCj .stop)) .stop))))))) (by kernel_rfl) ?_
 have aS:=fB.drew
 generalize hw_W54:({ bi with drawn:=bi.drawn + 1 }:World)=bj at aS ⊢
 let B6:List Value:=[jV x36.skier,jV x36.mat]
 refine zx (s:=.nil) (M:=fun σ_ w_=>∃ (U_:PHeap),σ_ 4=.pointer (some ⟨ah,0,none⟩)/\σ_ 5=.pointer (some ⟨ai,0,none⟩)/\σ_ 6=.pointer (some ⟨aa,0,none⟩)/\σ_ 13=.pointer (some ⟨aa,2,none⟩)/\σ_ 14=jV ab.Clock/\σ_ 15=.agg B6.toArray/\σ_ 16=.pointer (some ⟨aa,0,none⟩)/\σ_ 17=jV ab.Skier/\σ_ 18=.pointer (some ⟨aa,1,none⟩)/\σ_ 19=jV ab.Mat/\σ_ 20=.agg B4.toArray/\PHeap.Le U U_/\sW w U U_ [.blk aa 57 B3,.blk ai 68 B4,.blk ah 68 B6,.blk b6 118 B1,.blk b2 28 B0] w_) ?_ fun cz=>?_
 rintro ij gB ⟨cM,dg,dh,gP,gQ,gR,gS,gT,gU,gW,gX,gZ,fU,eV⟩
 refine zd ?_
 cases fR
 exact zI ⟨Z,⟨cM,dg,dh,fU,eV⟩⟩
 refine zx (s:=.fx 9 .nil .stop) (M:=fun σ_ w_=>∃ (U_:PHeap),σ_ 4=.pointer (some ⟨ah,0,none⟩)/\σ_ 5=.pointer (some ⟨ai,0,none⟩)/\σ_ 6=.pointer (some ⟨aa,0,none⟩)/\σ_ 13=.pointer (some ⟨aa,2,none⟩)/\σ_ 14=jV ab.Clock/\σ_ 15=.agg B6.toArray/\σ_ 16=.pointer (some ⟨aa,0,none⟩)/\σ_ 17=jV ab.Skier/\σ_ 18=.pointer (some ⟨aa,1,none⟩)/\σ_ 19=jV ab.Mat/\σ_ 20=.agg B4.toArray/\PHeap.Le U U_/\sW w U U_ [.blk aa 57 B3,.blk ai 68 B2,.blk ah 68 B6,.blk b6 118 B1,.blk b2 28 B0] w_) ?_ fun cA=>?_
 rintro ik gC ⟨bE,dk,bL,dl,dm,dp,dq,dr,dt,du,dv,bM,fV,eW⟩
 refine ze (j:=1) (vs:=B4) Z Z Z Z eW Z bL bM Z zF (zA Z) Z Z Z ?_
 intro cR eX
 have eY:sW w U bE [.blk aa 57 B3,.blk ai 68 B4,.blk ah 68 B6,.blk b6 118 B1,.blk b2 28 B0] cR:=eX
 exact cz _ _ ⟨bE,dk,bL,dl,dm,dp,dq,dr,dt,du,dv,bM,fV,eY⟩
 refine zx (s:=gBo) (M:=fun σ_ w_=>∃ (U_:PHeap),σ_ 4=.pointer (some ⟨ah,0,none⟩)/\σ_ 5=.pointer (some ⟨ai,0,none⟩)/\σ_ 6=.pointer (some ⟨aa,0,none⟩)/\σ_ 13=.pointer (some ⟨aa,2,none⟩)/\σ_ 14=jV ab.Clock/\σ_ 15=.agg B6.toArray/\σ_ 16=.pointer (some ⟨aa,0,none⟩)/\σ_ 17=jV ab.Skier/\σ_ 18=.pointer (some ⟨aa,1,none⟩)/\σ_ 19=jV ab.Mat/\σ_ 20=.agg B4.toArray/\PHeap.Le U U_/\sW w U U_ [.blk aa 57 B3,.blk ai 68 B2,.blk ah 68 B2,.blk b6 118 B1,.blk b2 28 B0] w_) ?_ fun fT=>?_
 rintro il gD ⟨bF,bN,dw,dx,dy,dz,bO,dA,dB,dC,dD,dE,fW,eZ⟩
 refine ze (j:=2) (vs:=B6) Z Z Z Z eZ Z bN bO Z zF (zA Z) Z Z Z ?_
 intro cS fb
 have fc:sW w U bF [.blk aa 57 B3,.blk ai 68 B2,.blk ah 68 B6,.blk b6 118 B1,.blk b2 28 B0] cS:=fb
 exact cA _ _ ⟨bF,bN,dw,dx,dy,dz,bO,dA,dB,dC,dD,dE,fW,fc⟩
 refine zx (s:=gBp) (M:=fun σ_ w_=>∃ (U_:PHeap),σ_ 4=.pointer (some ⟨ah,0,none⟩)/\σ_ 5=.pointer (some ⟨ai,0,none⟩)/\σ_ 6=.pointer (some ⟨aa,0,none⟩)/\σ_ 13=.pointer (some ⟨aa,2,none⟩)/\σ_ 14=jV ab.Clock/\σ_ 15=.agg B6.toArray/\σ_ 16=.pointer (some ⟨aa,0,none⟩)/\σ_ 17=jV ab.Skier/\σ_ 18=.pointer (some ⟨aa,1,none⟩)/\σ_ 19=jV ab.Mat/\PHeap.Le U U_/\sW w U U_ [.blk aa 57 B3,.blk ai 68 B2,.blk ah 68 B6,.blk b6 118 B1,.blk b2 28 B0] w_) ?_ fun cB=>?_
 rintro im gE ⟨bG,dF,bP,dG,dH,dI,dJ,dK,bQ,dL,bR,fY,fd⟩
 refine oR Z (zw (pv:=[(0,jV ab.Skier),(1,jV ab.Mat)]) (z:=B2) (cs:=B4) Z (wAC bQ (wAC bR wAV)) zh wBr Z Z) (ze (j:=1) (vs:=B4) Z Z Z Z fd Z bP Z Z zF (zA Z) Z Z Z ?_)
 intro cU ff
 have fh:sW w U bG [.blk aa 57 B3,.blk ai 68 B4,.blk ah 68 B6,.blk b6 118 B1,.blk b2 28 B0] cU:=ff
 exact cz _ _ ⟨bG,dF,bP,dG,dH,dI,dJ,dK,bQ,dL,bR,Z,fY,fh⟩
 refine zx (s:=gBz) (M:=fun σ_ w_=>∃ (U_:PHeap),σ_ 4=.pointer (some ⟨ah,0,none⟩)/\σ_ 5=.pointer (some ⟨ai,0,none⟩)/\σ_ 6=.pointer (some ⟨aa,0,none⟩)/\σ_ 13=.pointer (some ⟨aa,2,none⟩)/\σ_ 14=jV ab.Clock/\σ_ 15=.agg B6.toArray/\σ_ 16=.pointer (some ⟨aa,0,none⟩)/\σ_ 18=.pointer (some ⟨aa,1,none⟩)/\σ_ 19=jV ab.Mat/\PHeap.Le U U_/\sW w U U_ [.blk aa 57 B3,.blk ai 68 B2,.blk ah 68 B6,.blk b6 118 B1,.blk b2 28 B0] w_) ?_ fun cC=>?_
 rintro io gF ⟨cN,dM,dN,dO,dP,dQ,dR,bS,dS,dT,fZ,cw⟩
 exact zu Z Z Z Z (cw.ldB (j:=0) Z Z bS zE (v:=jV ab.Skier) Z) (cB _ _ ⟨cN,dM,dN,dO,dP,dQ,dR,bS,Z,dS,dT,fZ,cw⟩)
 refine zx (s:=gBy) (M:=fun σ_ w_=>∃ (U_:PHeap),σ_ 4=.pointer (some ⟨ah,0,none⟩)/\σ_ 5=.pointer (some ⟨ai,0,none⟩)/\σ_ 6=.pointer (some ⟨aa,0,none⟩)/\σ_ 13=.pointer (some ⟨aa,2,none⟩)/\σ_ 14=jV ab.Clock/\σ_ 15=.agg B6.toArray/\σ_ 16=.pointer (some ⟨aa,0,none⟩)/\σ_ 17=jV ab.Skier/\σ_ 18=.pointer (some ⟨aa,1,none⟩)/\PHeap.Le U U_/\sW w U U_ [.blk aa 57 B3,.blk ai 68 B2,.blk ah 68 B6,.blk b6 118 B1,.blk b2 28 B0] w_) ?_ fun cD=>?_
 rintro ip gG ⟨cO,dU,dV,dW,dX,dY,dZ,d5,d7,bT,ga,cx⟩
 exact zu Z Z Z Z (cx.ldB (j:=0) Z Z bT zE (v:=jV ab.Mat) Z) (cB _ _ ⟨cO,dU,dV,dW,dX,dY,dZ,d5,d7,bT,Z,ga,cx⟩)
 refine zx (s:=.fl 7 gBo) (M:=fun σ_ w_=>∃ (U_:PHeap),σ_ 4=.pointer (some ⟨ah,0,none⟩)/\σ_ 5=.pointer (some ⟨ai,0,none⟩)/\σ_ 6=.pointer (some ⟨aa,0,none⟩)/\σ_ 13=.pointer (some ⟨aa,2,none⟩)/\σ_ 14=jV ab.Clock/\σ_ 15=.agg B6.toArray/\σ_ 16=.pointer (some ⟨aa,0,none⟩)/\σ_ 17=jV ab.Skier/\σ_ 18=.pointer (some ⟨aa,1,none⟩)/\σ_ 19=jV ab.Mat/\PHeap.Le U U_/\sW w U U_ [.blk aa 57 B3,.blk ai 68 B2,.blk ah 68 B2,.blk b6 118 B1,.blk b2 28 B0] w_) ?_ fun cG=>?_
 rintro iq gI ⟨bH,bU,d9,eg,eh,eu,bV,eA,bW,eD,bX,gb,fj⟩
 refine oR Z (zw (pv:=[(0,jV ab.Skier),(1,jV ab.Mat)]) (z:=B2) (cs:=B4) Z (wAC bW (wAC bX wAV)) zh wBr Z Z) (ze (j:=2) (vs:=B6) Z Z Z Z fj Z bU bV Z zF (zA Z) Z Z Z ?_)
 intro cV fm
 have ft:sW w U bH [.blk aa 57 B3,.blk ai 68 B2,.blk ah 68 B6,.blk b6 118 B1,.blk b2 28 B0] cV:=fm
 exact cA _ _ ⟨bH,bU,d9,eg,eh,eu,bV,eA,bW,eD,bX,Z,gb,ft⟩
 refine zx (s:=gCj) (M:=fun σ_ w_=>∃ (U_:PHeap),σ_ 4=.pointer (some ⟨ah,0,none⟩)/\σ_ 5=.pointer (some ⟨ai,0,none⟩)/\σ_ 6=.pointer (some ⟨aa,0,none⟩)/\σ_ 13=.pointer (some ⟨aa,2,none⟩)/\σ_ 14=jV ab.Clock/\σ_ 16=.pointer (some ⟨aa,0,none⟩)/\σ_ 17=jV ab.Skier/\σ_ 18=.pointer (some ⟨aa,1,none⟩)/\σ_ 19=jV ab.Mat/\PHeap.Le U U_/\sW w U U_ [.blk aa 57 B3,.blk ai 68 B2,.blk ah 68 B2,.blk b6 118 B1,.blk b2 28 B0] w_) ?_ fun cH=>?_
 rintro ir cW ⟨cP,eE,eF,eH,eI,bY,eJ,bZ,eK,cb,ge,fu⟩
 refine oR Z (zw (pv:=[(0,jV ab.Skier),(1,jV ab.Mat)]) (z:=B2) (cs:=B4) Z (wAC bZ (wAC cb wAV)) zh wBr Z Z) (zH 0 Z Z Z Z (zG Z Z Tryz.call112 (zB bY zM) Z) fu (fun hs=>wCb ab.Clock cW cP hs aW) (.inr Z) ?_)
 rintro bI gp ic cX gf fw ⟨rfl,rfl⟩
 have fy:sW w U bI [.blk aa 57 B3,.blk ai 68 B2,.blk ah 68 B2,.blk b6 118 B1,.blk b2 28 B0] cX:=fw
 exact fT _ _ ⟨bI,eE,eF,eH,eI,bY,Z,eJ,bZ,eK,cb,Z,(ge.trans gf),fy⟩
 refine zx (s:=gCs) (M:=fun σ_ w_=>∃ (U_:PHeap),σ_ 4=.pointer (some ⟨ah,0,none⟩)/\σ_ 5=.pointer (some ⟨ai,0,none⟩)/\σ_ 6=.pointer (some ⟨aa,0,none⟩)/\σ_ 13=.pointer (some ⟨aa,2,none⟩)/\σ_ 14=jV ab.Clock/\σ_ 15=.agg B6.toArray/\σ_ 16=.pointer (some ⟨aa,0,none⟩)/\σ_ 18=.pointer (some ⟨aa,1,none⟩)/\σ_ 19=jV ab.Mat/\PHeap.Le U U_/\sW w U U_ [.blk aa 57 B3,.blk ai 68 B2,.blk ah 68 B2,.blk b6 118 B1,.blk b2 28 B0] w_) ?_ fun cI=>?_
 rintro it gJ ⟨bg,bk,cd,cf,cg,ci,bm,bn,cj,cm,cK,bt⟩
 refine zi ?_ ?_
 exact zu Z Z Z Z (bt.ldB (j:=0) Z Z bn zE (v:=jV ab.Skier) Z) (cG _ _ ⟨bg,bk,cd,cf,cg,ci,bm,bn,Z,cj,cm,cK,bt⟩)
 refine ze (j:=2) (vs:=B6) Z Z Z Z bt Z bk bm Z zF (zA Z) Z Z Z ?_
 intro cY fC
 have fD:sW w U bg [.blk aa 57 B3,.blk ai 68 B2,.blk ah 68 B6,.blk b6 118 B1,.blk b2 28 B0] cY:=fC
 exact cC _ _ ⟨bg,bk,cd,cf,cg,ci,bm,bn,cj,cm,cK,fD⟩
 refine zx (s:=gCr) (M:=fun σ_ w_=>∃ (U_:PHeap),σ_ 4=.pointer (some ⟨ah,0,none⟩)/\σ_ 5=.pointer (some ⟨ai,0,none⟩)/\σ_ 6=.pointer (some ⟨aa,0,none⟩)/\σ_ 13=.pointer (some ⟨aa,2,none⟩)/\σ_ 14=jV ab.Clock/\σ_ 15=.agg B6.toArray/\σ_ 16=.pointer (some ⟨aa,0,none⟩)/\σ_ 17=jV ab.Skier/\σ_ 18=.pointer (some ⟨aa,1,none⟩)/\PHeap.Le U U_/\sW w U U_ [.blk aa 57 B3,.blk ai 68 B2,.blk ah 68 B2,.blk b6 118 B1,.blk b2 28 B0] w_) ?_ fun cJ=>?_
 rintro iu gK ⟨bh,bo,cn,cp,cq,cr,bp,ct,cu,bq,cL,bu⟩
 refine zi ?_ ?_
 exact zu Z Z Z Z (bu.ldB (j:=0) Z Z bq zE (v:=jV ab.Mat) Z) (cG _ _ ⟨bh,bo,cn,cp,cq,cr,bp,ct,cu,bq,Z,cL,bu⟩)
 refine ze (j:=2) (vs:=B6) Z Z Z Z bu Z bo bp Z zF (zA Z) Z Z Z ?_
 intro cZ fE
 have fG:sW w U bh [.blk aa 57 B3,.blk ai 68 B2,.blk ah 68 B6,.blk b6 118 B1,.blk b2 28 B0] cZ:=fE
 exact cD _ _ ⟨bh,bo,cn,cp,cq,cr,bp,ct,cu,bq,cL,fG⟩
 refine oR Z (zJ Z Z ZF Z zC) (oL Z (aS.ldB (j:=0) Z Z Z zE (v:=jV ab.Clock) Z) (oR Z (zJ Z Z ZF Z zC) (oR Z (zJ Z Z ZF Z zC) (zi ?_ ?_))))
 refine zH 0 Z Z Z Z (zG Z Z Tryz.call112 (zB Z zM) Z) aS (fun hs=>wCb ab.Clock bj U hs aW) (.inr Z) ?_
 rintro aU gu ie da aZ fH ⟨rfl,rfl⟩
 have aV:sW w U aU [.blk aa 57 B3,.blk ai 68 B2,.blk ah 68 B2,.blk b6 118 B1,.blk b2 28 B0] da:=fH
 refine zi ?_ ?_
 exact zu Z Z Z Z (aV.ldB (j:=0) Z Z Z zE (v:=jV ab.Skier) Z) (cJ _ _ ⟨aU,Z,Z,Z,Z,Z,Z,Z,Z,Z,aZ,aV⟩)
 refine zi ?_ ?_
 exact zu Z Z Z Z (aV.ldB (j:=0) Z Z Z zE (v:=jV ab.Mat) Z) (cI _ _ ⟨aU,Z,Z,Z,Z,Z,Z,Z,Z,Z,aZ,aV⟩)
 refine ze (j:=2) (vs:=B6) Z Z Z Z aV Z Z Z Z zF (zA Z) Z Z Z ?_
 intro db fJ
 have aY:sW w U aU [.blk aa 57 B3,.blk ai 68 B2,.blk ah 68 B6,.blk b6 118 B1,.blk b2 28 B0] db:=fJ
 refine zi ?_ ?_
 exact zu Z Z Z Z (aY.ldB (j:=0) Z Z Z zE (v:=jV ab.Skier) Z) (cD _ _ ⟨aU,Z,Z,Z,Z,Z,Z,Z,Z,Z,aZ,aY⟩)
 exact zu Z Z Z Z (aY.ldB (j:=0) Z Z Z zE (v:=jV ab.Mat) Z) (cC _ _ ⟨aU,Z,Z,Z,Z,Z,Z,Z,Z,Z,aZ,aY⟩)
 refine zi ?_ ?_
 refine zu Z Z Z Z (aS.ldB (j:=0) Z Z Z zE (v:=jV ab.Skier) Z) (zi ?_ ?_)
 refine zH 0 Z Z Z Z (zG Z Z Tryz.call112 (zB Z zM) Z) aS (fun hs=>wCb ab.Clock bj U hs aW) (.inr Z) ?_
 rintro bJ gv ig de gg fK ⟨rfl,rfl⟩
 have fL:sW w U bJ [.blk aa 57 B3,.blk ai 68 B2,.blk ah 68 B2,.blk b6 118 B1,.blk b2 28 B0] de:=fK
 exact cJ _ _ ⟨bJ,Z,Z,Z,Z,Z,Z,Z,Z,Z,gg,fL⟩
 exact zu Z Z Z Z (aS.ldB (j:=0) Z Z Z zE (v:=jV ab.Mat) Z) (cH _ _ ⟨U,Z,Z,Z,Z,Z,Z,Z,Z,Z,(zK _),aS⟩)
 refine zu Z Z Z Z (aS.ldB (j:=0) Z Z Z zE (v:=jV ab.Mat) Z) (zi ?_ ?_)
 refine zH 0 Z Z Z Z (zG Z Z Tryz.call112 (zB Z zM) Z) aS (fun hs=>wCb ab.Clock bj U hs aW) (.inr Z) ?_
 rintro bK gw ii df gh fM ⟨rfl,rfl⟩
 have fN:sW w U bK [.blk aa 57 B3,.blk ai 68 B2,.blk ah 68 B2,.blk b6 118 B1,.blk b2 28 B0] df:=fM
 exact cI _ _ ⟨bK,Z,Z,Z,Z,Z,Z,Z,Z,Z,gh,fN⟩
 exact zu Z Z Z Z (aS.ldB (j:=0) Z Z Z zE (v:=jV ab.Skier) Z) (cH _ _ ⟨U,Z,Z,Z,Z,Z,Z,Z,Z,Z,(zK _),aS⟩)
 rintro iv gL ⟨cQ,eL,eM,g9,bv⟩
 refine zS ?_
 cases cy
 exact ⟨rfl,_,(wEL (rs:=[.cell 4 68,.cell 5 68]) (vs:=[.agg B5.toArray,.agg B4.toArray]) ⟨⟨_,eL,(wBT zg zF (bv.blkAt (k:=2) rfl) (vs:=B5) rfl rfl)⟩,⟨⟨_,eM,(wBT zg zF (bv.blkAt (k:=1) rfl) (vs:=B4) rfl rfl)⟩,trivial⟩⟩ rfl),cQ,_,(bv.pick [] _ (by decide) rfl),rfl,rfl⟩
theorem wHS (p0:wAD) (av:Option Addr) (aS:Nat) (az:Option Addr) (aT:Nat) (ai:Option Addr) (aj:Nat) (am:Option Addr) (ap:Nat) (p1:wAK) (w:World) (U:PHeap) (hS:St0 w U []) (bD:Sl U 1 av aS p0.Starts.length (nA KL.encI p0.Starts)) (bE:Sl U 2 az aT p0.Splits.length (nA wAP p0.Splits)) (aX:Sl U 3 ai aj p0.Clocks.length (nA wAA p0.Clocks)) (bq:Sl U 4 am ap p0.Readings.length (nA wAL p0.Readings)) {r:Int × Int} (hm:wCv p0 p1=some r):Gv Tryz.prog 116 [.agg #[.slice av p0.Starts.length aS,.slice az p0.Splits.length aT,.slice ai p0.Clocks.length aj,.slice am p0.Readings.length ap],.agg #[jV p1.Kind,jV p1.Skier,jV p1.Index,.bool p1.Up]] w (wCQ w [] U (fun U_ L_ v=>v=.tuple #[jV r.1,jV r.2]/\L_=[])):=by
 unfold wCv at hm
 refine Gv.of Tryz.func116 Z Tryz.ntmps116 Tryz.results116 Z (sR (.fx 0 gCa .stop) Z ?_)
 let B0:List Value:=[.slice av p0.Starts.length aS,.slice az p0.Splits.length aT,.slice ai p0.Clocks.length aj,.slice am p0.Readings.length ap]
 refine ZG (cs:=B0) rfl rfl rfl rfl rfl rfl (by rfl) hS ?_
 intro W1 b2 bp
 let B1:List Value:=[jV p1.Kind,jV p1.Skier,jV p1.Index,.bool p1.Up]
 refine ZG (cs:=B1) rfl rfl rfl rfl rfl rfl (by rfl) bp ?_
 intro W5 b6 ak
 refine oA Z Z (oA Z Z (eN (sR (wIu gBn) Z (oR Z (zJ Z Z zQ Z yV) (oL Z (ak.ldB (j:=1) Z Z Z Tryz.isAgg26 (v:=.slice am p0.Readings.length ap) Z) (oR Z (zJ Z Z zr Z zC) (oL Z (ak.ldB (j:=0) Z Z Z zE (v:=jV p1.Index) Z) (bnK hm fun x9 au br=>?_))))))))
 have q:=bq.el (fun _=>rfl) (wBB au)
 obtain ⟨bA,bF,bf,bi⟩:=q
 refine oR Z (zl Z Z bf Z yH Zm (wCC au) (wCL au)) (oL Z (ak.ldCA (f:=0) bi Z Z Tryz.isAgg57 Zm (us:=[jV x9.Skier,jV x9.Mat,jV x9.Clock,jV x9.Time]) Z Z) (zX (cs:=[jV 0,jV 0,jV 0,jV 0]) Z Z Z Z Z Zq Z ak ?_))
 intro bv aZ bm
 let B2:List Value:=[jV x9.Skier,jV x9.Mat,jV x9.Clock,jV x9.Time]
 refine ze (j:=0) (vs:=B2) Z Z Z Z bm Z Z Z Z Zm (zA Z) Z Z Z ?_
 intro aq bn
 have bo:sW w U U [.blk aZ 57 B2,.blk b6 118 B1,.blk b2 28 B0] aq:=bn
 refine eN (zN (zt zq [3,1,3,1,3,1,3,3,1,3,3,1,3,1,3,3,1,3,1,3,3,3] fL22 (by kernel_rfl) ?_))
 have ab:=bo.drew
 generalize hw_W24:({ aq with drawn:=aq.drawn + 1 }:World)=bw at ab ⊢
 refine oR Z (zJ Z Z ZF Z zC) (oL Z (ab.ldB (j:=0) Z Z Z zE (v:=jV x9.Time) Z) (oR Z (zJ Z Z zQ Z Zl) (oL Z (ab.ldB (j:=2) Z Z Z yK (v:=.slice ai p0.Clocks.length aj) Z) (oR Z (zJ Z Z ZF Z zC) (oL Z (ab.ldB (j:=0) Z Z Z zE (v:=jV x9.Clock) Z) (bnK br fun aY ah bt=>?_))))))
 have q:=aX.el (fun _=>rfl) (wBB ah)
 obtain ⟨bB,bG,bg,bj⟩:=q
 refine oR Z (zl Z Z bg Z Za Zo (wCC ah) (wCL ah)) (oR Z (zJ Z Z Zt Z zC) (oL Z (ab.ldC (f:=2) bj (v:=jV aY.Error) Z Z zE Z) (oR Z (zU Z Z Z) (oR Z (zJ Z Z zQ Z Zl) (oL Z (ab.ldB (j:=2) Z Z Z yK (v:=.slice ai p0.Clocks.length aj) Z) (oR Z (zJ Z Z ZF Z zC) (oL Z (ab.ldB (j:=0) Z Z Z zE (v:=jV x9.Clock) Z) ?_)))))))
 have q:=aX.el (fun _=>rfl) (wBB ah)
 obtain ⟨bC,bH,bh,bk⟩:=q
 refine oR Z (zl Z Z bh Z Za Zo (wCC ah) (wCL ah)) (oR Z (zJ Z Z Zt Z zC) (oL Z (ab.ldC (f:=2) bk (v:=jV aY.Error) Z Z zE Z) (oR Z (zJ Z Z ZF Z zC) (oL Z (ab.ldB (j:=0) Z Z Z zE (v:=jV x9.Time) Z) (oR Z (ZV Z Z Z) (oA Z Z (oA Z Z (eN (zS ?_)))))))))
 cases bt
 exact ⟨rfl,_,(wHd rfl rfl),U,_,(ab.pick [] _ (by decide) rfl),rfl,rfl⟩
theorem wBc  (w:World) (U:PHeap) (hS:St0 w U [])  {r:Unit} (hm:wCB =some r):Gv Tryz.prog 95 [] w (wCQ w [] U (fun U_ L_ v=>v=.agg #[.func (.func 104) #[] #[],.func (.func 105) #[] #[],.func (.func 106) #[] #[],.func (.func 107) #[] #[],.func (.func 108) #[] #[],.func (.func 109) #[] #[],.func (.func 110) #[] #[],.func (.func 111) #[] #[],.func (.func 113) #[] #[],.func (.func 114) #[] #[],.func (.func 115) #[] #[],.func (.func 116) #[] #[]]/\L_=[])):=by
 unfold wCB at hm
 refine Gv.of Tryz.func95 Z Tryz.ntmps95 Tryz.results95 Z (sR (.fx 0 .nil .stop) Z ?_)
 let B0:List Value:=[.nilFunc,.nilFunc,.nilFunc,.nilFunc,.nilFunc,.nilFunc,.nilFunc,.nilFunc,.nilFunc,.nilFunc,.nilFunc,.nilFunc]
 refine zX (cs:=B0) Z Z Z Z Z Tryz.zeroValue180 Z hS ?_
 intro W1 b2 au
 refine eN (sR (wDC (.fx 5 .nil .stop)) Z ?_)
 let B1:List Value:=[.nilFunc,.nilFunc,.nilFunc]
 let B2:List Value:=[.func (.func 104) #[] #[],.func (.func 105) #[] #[],.func (.func 106) #[] #[]]
 refine oR Z (zw (pv:=[(0,.func (.func 104) #[] #[]),(1,.func (.func 105) #[] #[]),(2,.func (.func 106) #[] #[])]) (z:=B1) (cs:=B2) Z (wAC Z (wAC Z (wAC Z wAV))) Zi wFv Z Z) ?_
 let B3:List Value:=[.func (.func 107) #[] #[],.func (.func 108) #[] #[],.func (.func 109) #[] #[]]
 refine oR Z (zw (pv:=[(0,.func (.func 107) #[] #[]),(1,.func (.func 108) #[] #[]),(2,.func (.func 109) #[] #[])]) (z:=B1) (cs:=B3) Z (wAC Z (wAC Z (wAC Z wAV))) Zi wFv Z Z) ?_
 let B4:List Value:=[.func (.func 110) #[] #[],.func (.func 111) #[] #[],.func (.func 113) #[] #[]]
 refine oR Z (zw (pv:=[(0,.func (.func 110) #[] #[]),(1,.func (.func 111) #[] #[]),(2,.func (.func 113) #[] #[])]) (z:=B1) (cs:=B4) Z (wAC Z (wAC Z (wAC Z wAV))) Zi wFv Z Z) ?_
 let B5:List Value:=[.func (.func 114) #[] #[],.func (.func 115) #[] #[],.func (.func 116) #[] #[]]
 refine oR Z (zw (pv:=[(0,.func (.func 114) #[] #[]),(1,.func (.func 115) #[] #[]),(2,.func (.func 116) #[] #[])]) (z:=B1) (cs:=B5) Z (wAC Z (wAC Z (wAC Z wAV))) Zi wFv Z Z) ?_
 let B6:List Value:=[.func (.func 104) #[] #[],.func (.func 105) #[] #[],.func (.func 106) #[] #[],.func (.func 107) #[] #[],.func (.func 108) #[] #[],.func (.func 109) #[] #[],.func (.func 110) #[] #[],.func (.func 111) #[] #[],.func (.func 113) #[] #[],.func (.func 114) #[] #[],.func (.func 115) #[] #[],.func (.func 116) #[] #[]]
 refine oR Z (Runs.buildA (pv:=[(0,.agg B2.toArray),(1,.agg B3.toArray),(2,.agg B4.toArray),(3,.agg B5.toArray)]) (z:=B0) (cs:=B6) Z (wAC Z (wAC Z (wAC Z (wAC Z wAV)))) Tryz.zeroValue180 Zs ZO Z Z) (ze (j:=0) (vs:=B6) Z Z Z Z au Z Z Z Z Tryz.sizeOf180 (zA Z) Z Z Z ?_)
 intro W5 av
 have am:sW w U U [.blk b2 180 B6] W5:=av
 refine eN (zS ?_)
 cases hm
 exact ⟨rfl,_,(wMH (v:=.agg B6.toArray) ⟨⟨_,rfl,(wBT Tryz.isAgg180 Tryz.sizeOf180 (am.blkAt (k:=0) rfl) (vs:=B6) rfl rfl)⟩,trivial⟩),U,_,(am.pick [] _ (by decide) rfl),rfl,rfl⟩
theorem wGK (p0:wAD) (bC:Option Addr) (bG:Nat) (bD:Option Addr) (bH:Nat) (bE:Option Addr) (bI:Nat) (bF:Option Addr) (bJ:Nat) (p1:wAK) (w:World) (U:PHeap) (hS:St0 w U []) (cP:Sl U 1 bC bG p0.Starts.length (nA KL.encI p0.Starts)) (cQ:Sl U 2 bD bH p0.Splits.length (nA wAP p0.Splits)) (cR:Sl U 3 bE bI p0.Clocks.length (nA wAA p0.Clocks)) (cS:Sl U 4 bF bJ p0.Readings.length (nA wAL p0.Readings)) {r:wAF × wAF × Int} (hm:wBd p0 p1=some r):Gv Tryz.prog 74 [.agg #[.slice bC p0.Starts.length bG,.slice bD p0.Splits.length bH,.slice bE p0.Clocks.length bI,.slice bF p0.Readings.length bJ],.agg #[jV p1.Kind,jV p1.Skier,jV p1.Index,.bool p1.Up]] w (wCQ w [] U (fun U_ L_ v=>v=.tuple #[.agg #[jV r.1.skier,jV r.1.mat],.agg #[jV r.2.1.skier,jV r.2.1.mat],jV r.2.2]/\L_=[])):=by
 unfold wBd at hm
 refine Gv.of Tryz.func74 Z Tryz.ntmps74 Tryz.results74 Z ?_
 by_cases c1:p1.Kind=0
 have gv:=hm;rw [if_pos c1] at gv
 refine sR gCt Z ?_
 let B0:List Value:=[.slice bC p0.Starts.length bG,.slice bD p0.Splits.length bH,.slice bE p0.Clocks.length bI,.slice bF p0.Readings.length bJ]
 refine ZG (cs:=B0) rfl rfl rfl rfl rfl rfl (by rfl) hS ?_
 intro W6 b7 oI
 let B1:List Value:=[jV p1.Kind,jV p1.Skier,jV p1.Index,.bool p1.Up]
 refine ZG (cs:=B1) rfl rfl rfl rfl rfl rfl (by rfl) oI ?_
 intro pN bi k9
 let B2:List Value:=[jV 0,jV 0]
 refine zX (cs:=B2) Z Z Z Z Z zh Z k9 ?_
 intro pP aX lq
 refine zX (cs:=B2) Z Z Z Z Z zh Z lq ?_
 intro eE ba lB
 refine oA Z Z (eN ?_)
 have q:=bnd gv
 obtain ⟨⟨⟩,o7,gb⟩:=q
 try dsimp only at gb
 let B3:List Value:=[.func (.func 104) #[] #[],.func (.func 105) #[] #[],.func (.func 106) #[] #[]]
 refine Zp (fun σ_ w_=>∃ (U_:PHeap) (bL:Nat),σ_ 2=.pointer (some ⟨b7,0,none⟩)/\σ_ 3=.pointer (some ⟨bi,0,none⟩)/\σ_ 4=.pointer (some ⟨aX,0,none⟩)/\σ_ 5=.pointer (some ⟨ba,0,none⟩)/\σ_ 7=.pointer (some ⟨bL,0,none⟩)/\PHeap.Le U U_/\sW w U U_ [.blk ba 68 B2,.blk aX 68 B2,.blk bi 118 B1,.blk b7 28 B0,.blk bL 179 B3] w_) ?_ ?_
 have q:=bnd o7
 obtain ⟨⟨⟩,fz,dZ⟩:=q
 try dsimp only at dZ
 refine zt zq [2,3,1,3,2,0] gDc (by kernel_rfl) ?_
 have cJ:=lB.drew
 generalize hw_W45:({ eE with drawn:=eE.drawn + 1 }:World)=iH at cJ ⊢
 refine oR Z (zJ Z Z zr Z Tryz.sizeOf116) (oL Z (cJ.ldB (j:=2) Z Z Z Tryz.isAgg116 (v:=jV p1.Kind) Z) (zi ?_ ?_))
 refine zH 0 Z Z Z Z (zG Z Z yX zM Z) cJ (fun hs=>wBc iH U hs fz) (.inr Z) ?_
 rintro dv pE qI iO pj mO ⟨rfl,rfl⟩
 have mP:sW w U dv [.blk ba 68 B2,.blk aX 68 B2,.blk bi 118 B1,.blk b7 28 B0] iO:=mO
 refine zV rfl rfl rfl rfl (fun _=>(Runs.ixA (i:=0) rfl rfl (congrArg (jV) c1) Zs ZO (by decide) (by decide) (wCd yc ZO rfl))) (zX (cs:=[.nilFunc,.nilFunc,.nilFunc]) rfl rfl rfl rfl rfl Zi rfl mP ?_)
 intro qc eU mY
 refine ze (j:=0) (vs:=B3) Z Z Z Z mY Z Z Z Z ZO (zA Z) Z Z Z ?_
 intro iX m7
 have n6:sW w U dv [.blk eU 179 B3,.blk ba 68 B2,.blk aX 68 B2,.blk bi 118 B1,.blk b7 28 B0] iX:=m7
 refine zd ?_
 cases dZ
 exact zI ⟨rfl,⟨dv,eU,rfl,rfl,rfl,rfl,rfl,pj,(n6.pick [1,2,3,4,0] _ (by decide) rfl)⟩⟩
 refine zX (cs:=[.nilFunc,.nilFunc,.nilFunc]) Z Z Z Z Z Zi Z cJ ?_
 intro i9 dG ol
 refine zH 0 Z Z Z Z (zG Z Z yX zM Z) ol (fun hs=>wBc i9 U hs fz) (.inr Z) ?_
 rintro dy pJ qO ji pn oz ⟨rfl,rfl⟩
 have oB:sW w U dy [.blk dG 179 [.nilFunc,.nilFunc,.nilFunc],.blk ba 68 B2,.blk aX 68 B2,.blk bi 118 B1,.blk b7 28 B0] ji:=oz
 refine zV rfl rfl rfl rfl (fun _=>(Runs.ixA (i:=0) rfl rfl (congrArg (jV) c1) Zs ZO (by decide) (by decide) (wCd yc ZO rfl))) (ze (j:=0) (vs:=B3) rfl rfl rfl rfl oB rfl rfl rfl rfl ZO (zA rfl) rfl rfl rfl ?_)
 intro jj oG
 have oH:sW w U dy [.blk dG 179 B3,.blk ba 68 B2,.blk aX 68 B2,.blk bi 118 B1,.blk b7 28 B0] jj:=oG
 refine zd ?_
 cases dZ
 exact zI ⟨rfl,⟨dy,dG,rfl,rfl,rfl,rfl,rfl,pn,(oH.pick [1,2,3,4,0] _ (by decide) rfl)⟩⟩
 rintro qY jk ⟨gW,bL,fj,dO,bZ,bV,fm,db,cO⟩
 refine sR (wEU (.fx 4 (wPv gBo) .stop)) Z (oR Z (zJ Z fm Zy Z Tryz.sizeOf176) (oL Z (cO.ldB (j:=4) Z Z Z Tryz.isAgg176 (v:=.func (.func 105) #[] #[]) Z) (oL Z (cO.ldBA (j:=3) Z Z fj ZK zz (vs:=B0) Z Z) (oL Z (cO.ldBA (j:=2) Z Z dO yL yB (vs:=B1) Z Z) ?_))))
 have fN:=cP.le db
 have fO:=cQ.le db
 have fP:=cR.le db
 have fQ:=cS.le db
 have q:=bnd gb
 obtain ⟨⟨x92,x93⟩,j4,gD⟩:=q
 try dsimp only at gD
 refine zH 0 Z Z Z Z (zG Z Z Tryz.call105 (zB Z (zB Z zM)) Z) cO (fun hs=>wHp p0 bC bG bD bH bE bI bF bJ p1 jk gW hs fN fO fP fQ j4) (.inr Z) ?_
 rintro cy pM qQ jl cU j5 ⟨rfl,rfl⟩
 have j6:sW w U cy [.blk ba 68 B2,.blk aX 68 B2,.blk bi 118 B1,.blk b7 28 B0,.blk bL 179 B3] jl:=j5
 refine oM Z Z (oR Z (zk Z Z (v:=.agg #[jV x92.skier,jV x92.mat]) Z) (oR Z (zk Z Z (v:=.agg #[jV x93.skier,jV x93.mat]) Z) ?_))
 let B4:List Value:=[jV x92.skier,jV x92.mat]
 refine ze (j:=1) (vs:=B4) Z Z Z Z j6 Z bZ Z Z zF (zA Z) Z Z Z ?_
 intro gX j7
 have j8:sW w U cy [.blk ba 68 B2,.blk aX 68 B4,.blk bi 118 B1,.blk b7 28 B0,.blk bL 179 B3] gX:=j7
 let B5:List Value:=[jV x93.skier,jV x93.mat]
 refine ze (j:=0) (vs:=B5) Z Z Z Z j8 Z bV Z Z zF (zA Z) Z Z Z ?_
 intro eA j9
 have cA:sW w U cy [.blk ba 68 B5,.blk aX 68 B4,.blk bi 118 B1,.blk b7 28 B0,.blk bL 179 B3] eA:=j9
 refine eN (sR (wEU (.fx 4 (wOw (.nil)) .stop)) Z (oR Z (zJ Z fm Zy Z Tryz.sizeOf177) (oL Z (cA.ldB (j:=4) Z Z Z Tryz.isAgg177 (v:=.func (.func 106) #[] #[]) Z) (oL Z (cA.ldBA (j:=3) Z Z fj ZK zz (vs:=B0) Z Z) (oL Z (cA.ldBA (j:=2) Z Z dO yL yB (vs:=B1) Z Z) ?_)))))
 have jB:=fN.le cU
 have jC:=fO.le cU
 have jD:=fP.le cU
 have jE:=fQ.le cU
 have q:=bnd gD
 obtain ⟨⟨d9,gI⟩,jG,fV⟩:=q
 try dsimp only at fV
 refine zH 0 Z Z Z Z (zG Z Z Tryz.call106 (zB Z (zB Z zM)) Z) cA (fun hs=>wHq p0 bC bG bD bH bE bI bF bJ p1 eA cy hs jB jC jD jE jG) (.inr Z) ?_
 rintro bO po qz dz qo lc ⟨rfl,rfl⟩
 have ci:sW w U bO [.blk ba 68 B5,.blk aX 68 B4,.blk bi 118 B1,.blk b7 28 B0,.blk bL 179 B3] dz:=lc
 refine oM Z Z (oR Z (zk Z Z (v:=jV d9) Z) (oR Z (zk Z Z (v:=jV gI) Z) (oA Z Z (oA Z Z (eN (zN (sR fL3 Z (oR Z (zJ Z dO zr Z Tryz.sizeOf4) (oL Z (ci.ldB (j:=2) Z Z Z Tryz.isAgg4 (v:=.bool p1.Up) Z) (oR Z (Zb Z Z) (eN (ifc fV ?_ ?_))))))))))))
 intro dH oK
 refine zn (nC dH.out) (kN ?_)
 have q:=bnd oK
 obtain ⟨⟨⟩,gE,fW⟩:=q
 try dsimp only at fW
 refine Zp (fun σ_ w_=>∃ (U_:PHeap),σ_ 4=.pointer (some ⟨aX,0,none⟩)/\σ_ 5=.pointer (some ⟨ba,0,none⟩)/\σ_ 6=jV d9/\PHeap.Le bO U_/\sW w U U_ [.blk ba 68 B5,.blk aX 68 B4,.blk bi 118 B1,.blk b7 28 B0,.blk bL 179 B3] w_) ?_ ?_
 refine zt zq [1,2,3,0,0,3] gDd (by kernel_rfl) ?_
 have cj:=ci.drew
 generalize hw_W136:({ dz with drawn:=dz.drawn + 1 }:World)=pO at cj ⊢
 refine oL Z (cj.ldBA (j:=1) Z Z bZ zg zF (vs:=B4) Z Z) (oM Z Z (zi ?_ ?_))
 refine zu Z Z Z Z (cj.ldBA (j:=0) Z Z bV zg zF (vs:=B5) Z Z) (ze (j:=1) (vs:=B4) Z Z Z Z cj Z bZ Z Z zF (zA Z) Z Z Z ?_)
 intro gZ lf
 have lg:sW w U bO [.blk ba 68 B5,.blk aX 68 B4,.blk bi 118 B1,.blk b7 28 B0,.blk bL 179 B3] gZ:=lf
 refine ze (j:=0) (vs:=B5) Z Z Z Z lg Z bV Z Z zF (zA Z) Z Z Z ?_
 intro g6 lh
 have li:sW w U bO [.blk ba 68 B5,.blk aX 68 B4,.blk bi 118 B1,.blk b7 28 B0,.blk bL 179 B3] g6:=lh
 refine oA Z Z (zd ?_)
 cases gE
 exact zI ⟨Z,⟨bO,bZ,bV,Z,(zK _),li⟩⟩
 refine ze (j:=1) (vs:=B4) Z Z Z Z cj Z bZ Z Z zF (zA Z) Z Z Z ?_
 intro g7 lj
 have fR:sW w U bO [.blk ba 68 B5,.blk aX 68 B4,.blk bi 118 B1,.blk b7 28 B0,.blk bL 179 B3] g7:=lj
 refine zu Z Z Z Z (fR.ldBA (j:=0) Z Z bV zg zF (vs:=B5) Z Z) (ze (j:=0) (vs:=B5) Z Z Z Z fR Z bV Z Z zF (zA Z) Z Z Z ?_)
 intro g8 lm
 have ln:sW w U bO [.blk ba 68 B5,.blk aX 68 B4,.blk bi 118 B1,.blk b7 28 B0,.blk bL 179 B3] g8:=lm
 refine oA Z Z (zd ?_)
 cases gE
 exact zI ⟨Z,⟨bO,bZ,bV,Z,(zK _),ln⟩⟩
 rintro qR pQ ⟨gM,jo,jp,jq,qp,dP⟩
 refine zS ?_
 cases fW
 exact ⟨rfl,_,(wEL (rs:=[.cell 4 68,.cell 5 68,.tmp 6]) (vs:=[.agg B4.toArray,.agg B5.toArray,jV d9]) ⟨⟨_,jo,(wBT zg zF (dP.blkAt (k:=1) rfl) (vs:=B4) rfl rfl)⟩,⟨⟨_,jp,(wBT zg zF (dP.blkAt (k:=0) rfl) (vs:=B5) rfl rfl)⟩,⟨jq,trivial⟩⟩⟩ rfl),gM,_,(dP.pick [] _ (by decide) rfl),rfl,rfl⟩
 intro dH oO
 refine ZH (nF (dH.out)) (sR (wDj gCb) Z (oL Z (ci.ldBA (j:=0) Z Z bV zg zF (vs:=B5) Z Z) (oL Z (ci.ldBA (j:=1) Z Z bZ zg zF (vs:=B4) Z Z) (oM Z Z (ze (j:=1) (vs:=B5) Z Z Z Z ci Z bZ Z Z zF (zA Z) Z Z Z ?_)))))
 intro g9 lp
 have lu:sW w U bO [.blk ba 68 B5,.blk aX 68 B5,.blk bi 118 B1,.blk b7 28 B0,.blk bL 179 B3] g9:=lp
 refine ze (j:=0) (vs:=B4) Z Z Z Z lu Z bV Z Z zF (zA Z) Z Z Z ?_
 intro ib lv
 have dQ:sW w U bO [.blk ba 68 B4,.blk aX 68 B5,.blk bi 118 B1,.blk b7 28 B0,.blk bL 179 B3] ib:=lv
 refine oA Z Z (eN (zS (zW ?_)))
 cases oO
 exact ⟨rfl,_,(wEL (rs:=[.cell 4 68,.cell 5 68,.tmp 6]) (vs:=[.agg B5.toArray,.agg B4.toArray,jV gI]) ⟨⟨_,bZ,(wBT zg zF (dQ.blkAt (k:=1) rfl) (vs:=B5) rfl rfl)⟩,⟨⟨_,bV,(wBT zg zF (dQ.blkAt (k:=0) rfl) (vs:=B4) rfl rfl)⟩,⟨rfl,trivial⟩⟩⟩ rfl),bO,_,(dQ.pick [] _ (by decide) rfl),rfl,rfl⟩
 by_cases c2:p1.Kind=1
 have fY:=hm;rw [if_neg c1,if_pos c2] at fY
 refine sR gCt Z ?_
 let B6:List Value:=[.slice bC p0.Starts.length bG,.slice bD p0.Splits.length bH,.slice bE p0.Clocks.length bI,.slice bF p0.Readings.length bJ]
 refine ZG (cs:=B6) rfl rfl rfl rfl rfl rfl (by rfl) hS ?_
 intro pR bj lw
 let B7:List Value:=[jV p1.Kind,jV p1.Skier,jV p1.Index,.bool p1.Up]
 refine ZG (cs:=B7) rfl rfl rfl rfl rfl rfl (by rfl) lw ?_
 intro pS bk lx
 let B8:List Value:=[jV 0,jV 0]
 refine zX (cs:=B8) Z Z Z Z Z zh Z lx ?_
 intro pT aY ly
 refine zX (cs:=B8) Z Z Z Z Z zh Z ly ?_
 intro eD aZ lA
 refine oA Z Z (eN ?_)
 have q:=bnd fY
 obtain ⟨⟨⟩,o6,fZ⟩:=q
 try dsimp only at fZ
 let B9:List Value:=[.func (.func 107) #[] #[],.func (.func 108) #[] #[],.func (.func 109) #[] #[]]
 refine Zp (fun σ_ w_=>∃ (U_:PHeap) (bK:Nat),σ_ 2=.pointer (some ⟨bj,0,none⟩)/\σ_ 3=.pointer (some ⟨bk,0,none⟩)/\σ_ 4=.pointer (some ⟨aY,0,none⟩)/\σ_ 5=.pointer (some ⟨aZ,0,none⟩)/\σ_ 7=.pointer (some ⟨bK,0,none⟩)/\PHeap.Le U U_/\sW w U U_ [.blk aZ 68 B8,.blk aY 68 B8,.blk bk 118 B7,.blk bj 28 B6,.blk bK 179 B9] w_) ?_ ?_
 have q:=bnd o6
 obtain ⟨⟨⟩,fq,dX⟩:=q
 try dsimp only at dX
 refine zt zq [2,3,1,3,2,0] gDc (by kernel_rfl) ?_
 have cB:=lA.drew
 generalize hw_W204:({ eD with drawn:=eD.drawn + 1 }:World)=ic at cB ⊢
 refine oR Z (zJ Z Z zr Z Tryz.sizeOf116) (oL Z (cB.ldB (j:=2) Z Z Z Tryz.isAgg116 (v:=jV p1.Kind) Z) (zi ?_ ?_))
 refine zH 0 Z Z Z Z (zG Z Z yX zM Z) cB (fun hs=>wBc ic U hs fq) (.inr Z) ?_
 rintro dq pp qA ie pe lC ⟨rfl,rfl⟩
 have lD:sW w U dq [.blk aZ 68 B8,.blk aY 68 B8,.blk bk 118 B7,.blk bj 28 B6] ie:=lC
 refine zV rfl rfl rfl rfl (fun _=>(Runs.ixA (i:=1) rfl rfl (congrArg (jV) c2) Zs ZO (by decide) (by decide) (wCd yc ZO rfl))) (zX (cs:=[.nilFunc,.nilFunc,.nilFunc]) rfl rfl rfl rfl rfl Zi rfl lD ?_)
 intro pU eM lE
 refine ze (j:=0) (vs:=B9) Z Z Z Z lE Z Z Z Z ZO (zA Z) Z Z Z ?_
 intro ig lF
 have lG:sW w U dq [.blk eM 179 B9,.blk aZ 68 B8,.blk aY 68 B8,.blk bk 118 B7,.blk bj 28 B6] ig:=lF
 refine zd ?_
 cases dX
 exact zI ⟨rfl,⟨dq,eM,rfl,rfl,rfl,rfl,rfl,pe,(lG.pick [1,2,3,4,0] _ (by decide) rfl)⟩⟩
 refine zX (cs:=[.nilFunc,.nilFunc,.nilFunc]) Z Z Z Z Z Zi Z cB ?_
 intro ii dD lH
 refine zH 0 Z Z Z Z (zG Z Z yX zM Z) lH (fun hs=>wBc ii U hs fq) (.inr Z) ?_
 rintro dr pq qB ij pf lI ⟨rfl,rfl⟩
 have lJ:sW w U dr [.blk dD 179 [.nilFunc,.nilFunc,.nilFunc],.blk aZ 68 B8,.blk aY 68 B8,.blk bk 118 B7,.blk bj 28 B6] ij:=lI
 refine zV rfl rfl rfl rfl (fun _=>(Runs.ixA (i:=1) rfl rfl (congrArg (jV) c2) Zs ZO (by decide) (by decide) (wCd yc ZO rfl))) (ze (j:=0) (vs:=B9) rfl rfl rfl rfl lJ rfl rfl rfl rfl ZO (zA rfl) rfl rfl rfl ?_)
 intro ik lK
 have lL:sW w U dr [.blk dD 179 B9,.blk aZ 68 B8,.blk aY 68 B8,.blk bk 118 B7,.blk bj 28 B6] ik:=lK
 refine zd ?_
 cases dX
 exact zI ⟨rfl,⟨dr,dD,rfl,rfl,rfl,rfl,rfl,pf,(lL.pick [1,2,3,4,0] _ (by decide) rfl)⟩⟩
 rintro qS il ⟨gN,bK,eZ,dL,bW,bS,fb,cV,cC⟩
 refine sR (wEU (.fx 4 (wPv gBo) .stop)) Z (oR Z (zJ Z fb Zy Z Tryz.sizeOf176) (oL Z (cC.ldB (j:=4) Z Z Z Tryz.isAgg176 (v:=.func (.func 108) #[] #[]) Z) (oL Z (cC.ldBA (j:=3) Z Z eZ ZK zz (vs:=B6) Z Z) (oL Z (cC.ldBA (j:=2) Z Z dL yL yB (vs:=B7) Z Z) ?_))))
 have ft:=cP.le cV
 have fu:=cQ.le cV
 have fw:=cR.le cV
 have fy:=cS.le cV
 have q:=bnd fZ
 obtain ⟨⟨de,df⟩,jH,ga⟩:=q
 try dsimp only at ga
 refine zH 0 Z Z Z Z (zG Z Z Tryz.call108 (zB Z (zB Z zM)) Z) cC (fun hs=>wHr p0 bC bG bD bH bE bI bF bJ p1 il gN hs ft fu fw fy jH) (.inr Z) ?_
 rintro cu pu qC im cW lM ⟨rfl,rfl⟩
 have lN:sW w U cu [.blk aZ 68 B8,.blk aY 68 B8,.blk bk 118 B7,.blk bj 28 B6,.blk bK 179 B9] im:=lM
 refine oM Z Z (oR Z (zk Z Z (v:=.agg #[jV de.skier,jV de.mat]) Z) (oR Z (zk Z Z (v:=.agg #[jV df.skier,jV df.mat]) Z) ?_))
 let ap:List Value:=[jV de.skier,jV de.mat]
 refine ze (j:=1) (vs:=ap) Z Z Z Z lN Z bW Z Z zF (zA Z) Z Z Z ?_
 intro io lO
 have lP:sW w U cu [.blk aZ 68 B8,.blk aY 68 ap,.blk bk 118 B7,.blk bj 28 B6,.blk bK 179 B9] io:=lO
 let ae:List Value:=[jV df.skier,jV df.mat]
 refine ze (j:=0) (vs:=ae) Z Z Z Z lP Z bS Z Z zF (zA Z) Z Z Z ?_
 intro eF lQ
 have cD:sW w U cu [.blk aZ 68 ae,.blk aY 68 ap,.blk bk 118 B7,.blk bj 28 B6,.blk bK 179 B9] eF:=lQ
 refine eN (sR (wEU (.fx 4 (wOw (.nil)) .stop)) Z (oR Z (zJ Z fb Zy Z Tryz.sizeOf177) (oL Z (cD.ldB (j:=4) Z Z Z Tryz.isAgg177 (v:=.func (.func 109) #[] #[]) Z) (oL Z (cD.ldBA (j:=3) Z Z eZ ZK zz (vs:=B6) Z Z) (oL Z (cD.ldBA (j:=2) Z Z dL yL yB (vs:=B7) Z Z) ?_)))))
 have jJ:=ft.le cW
 have jK:=fu.le cW
 have jL:=fw.le cW
 have jM:=fy.le cW
 have q:=bnd ga
 obtain ⟨⟨eg,gJ⟩,jN,ge⟩:=q
 try dsimp only at ge
 refine zH 0 Z Z Z Z (zG Z Z Tryz.call109 (zB Z (zB Z zM)) Z) cD (fun hs=>wHs p0 bC bG bD bH bE bI bF bJ p1 eF cu hs jJ jK jL jM jN) (.inr Z) ?_
 rintro bP py qD dA qq lR ⟨rfl,rfl⟩
 have cm:sW w U bP [.blk aZ 68 ae,.blk aY 68 ap,.blk bk 118 B7,.blk bj 28 B6,.blk bK 179 B9] dA:=lR
 refine oM Z Z (oR Z (zk Z Z (v:=jV eg) Z) (oR Z (zk Z Z (v:=jV gJ) Z) (oA Z Z (oA Z Z (eN (zN (sR fL3 Z (oR Z (zJ Z dL zr Z Tryz.sizeOf4) (oL Z (cm.ldB (j:=2) Z Z Z Tryz.isAgg4 (v:=.bool p1.Up) Z) (oR Z (Zb Z Z) (eN (ifc ge ?_ ?_))))))))))))
 intro dI oP
 refine zn (nC dI.out) (kN ?_)
 have q:=bnd oP
 obtain ⟨⟨⟩,gF,gf⟩:=q
 try dsimp only at gf
 refine Zp (fun σ_ w_=>∃ (U_:PHeap),σ_ 4=.pointer (some ⟨aY,0,none⟩)/\σ_ 5=.pointer (some ⟨aZ,0,none⟩)/\σ_ 6=jV eg/\PHeap.Le bP U_/\sW w U U_ [.blk aZ 68 ae,.blk aY 68 ap,.blk bk 118 B7,.blk bj 28 B6,.blk bK 179 B9] w_) ?_ ?_
 refine zt zq [1,2,3,0,0,3] gDd (by kernel_rfl) ?_
 have cn:=cm.drew
 generalize hw_W295:({ dA with drawn:=dA.drawn + 1 }:World)=pV at cn ⊢
 refine oL Z (cn.ldBA (j:=1) Z Z bW zg zF (vs:=ap) Z Z) (oM Z Z (zi ?_ ?_))
 refine zu Z Z Z Z (cn.ldBA (j:=0) Z Z bS zg zF (vs:=ae) Z Z) (ze (j:=1) (vs:=ap) Z Z Z Z cn Z bW Z Z zF (zA Z) Z Z Z ?_)
 intro ip lS
 have lT:sW w U bP [.blk aZ 68 ae,.blk aY 68 ap,.blk bk 118 B7,.blk bj 28 B6,.blk bK 179 B9] ip:=lS
 refine ze (j:=0) (vs:=ae) Z Z Z Z lT Z bS Z Z zF (zA Z) Z Z Z ?_
 intro iq lU
 have lV:sW w U bP [.blk aZ 68 ae,.blk aY 68 ap,.blk bk 118 B7,.blk bj 28 B6,.blk bK 179 B9] iq:=lU
 refine oA Z Z (zd ?_)
 cases gF
 exact zI ⟨Z,⟨bP,bW,bS,Z,(zK _),lV⟩⟩
 refine ze (j:=1) (vs:=ap) Z Z Z Z cn Z bW Z Z zF (zA Z) Z Z Z ?_
 intro ir lW
 have fS:sW w U bP [.blk aZ 68 ae,.blk aY 68 ap,.blk bk 118 B7,.blk bj 28 B6,.blk bK 179 B9] ir:=lW
 refine zu Z Z Z Z (fS.ldBA (j:=0) Z Z bS zg zF (vs:=ae) Z Z) (ze (j:=0) (vs:=ae) Z Z Z Z fS Z bS Z Z zF (zA Z) Z Z Z ?_)
 intro it lX
 have lY:sW w U bP [.blk aZ 68 ae,.blk aY 68 ap,.blk bk 118 B7,.blk bj 28 B6,.blk bK 179 B9] it:=lX
 refine oA Z Z (zd ?_)
 cases gF
 exact zI ⟨Z,⟨bP,bW,bS,Z,(zK _),lY⟩⟩
 rintro qT pW ⟨gO,jr,jt,ju,qr,dR⟩
 refine zS ?_
 cases gf
 exact ⟨rfl,_,(wEL (rs:=[.cell 4 68,.cell 5 68,.tmp 6]) (vs:=[.agg ap.toArray,.agg ae.toArray,jV eg]) ⟨⟨_,jr,(wBT zg zF (dR.blkAt (k:=1) rfl) (vs:=ap) rfl rfl)⟩,⟨⟨_,jt,(wBT zg zF (dR.blkAt (k:=0) rfl) (vs:=ae) rfl rfl)⟩,⟨ju,trivial⟩⟩⟩ rfl),gO,_,(dR.pick [] _ (by decide) rfl),rfl,rfl⟩
 intro dI oU
 refine ZH (nF (dI.out)) (sR (wDj gCb) Z (oL Z (cm.ldBA (j:=0) Z Z bS zg zF (vs:=ae) Z Z) (oL Z (cm.ldBA (j:=1) Z Z bW zg zF (vs:=ap) Z Z) (oM Z Z (ze (j:=1) (vs:=ae) Z Z Z Z cm Z bW Z Z zF (zA Z) Z Z Z ?_)))))
 intro iu lZ
 have l4:sW w U bP [.blk aZ 68 ae,.blk aY 68 ae,.blk bk 118 B7,.blk bj 28 B6,.blk bK 179 B9] iu:=lZ
 refine ze (j:=0) (vs:=ap) Z Z Z Z l4 Z bS Z Z zF (zA Z) Z Z Z ?_
 intro iv l5
 have dS:sW w U bP [.blk aZ 68 ap,.blk aY 68 ae,.blk bk 118 B7,.blk bj 28 B6,.blk bK 179 B9] iv:=l5
 refine oA Z Z (eN (zS (zW ?_)))
 cases oU
 exact ⟨rfl,_,(wEL (rs:=[.cell 4 68,.cell 5 68,.tmp 6]) (vs:=[.agg ae.toArray,.agg ap.toArray,jV gJ]) ⟨⟨_,bW,(wBT zg zF (dS.blkAt (k:=1) rfl) (vs:=ae) rfl rfl)⟩,⟨⟨_,bS,(wBT zg zF (dS.blkAt (k:=0) rfl) (vs:=ap) rfl rfl)⟩,⟨rfl,trivial⟩⟩⟩ rfl),bP,_,(dS.pick [] _ (by decide) rfl),rfl,rfl⟩
 by_cases c3:p1.Kind=2
 have gg:=hm;rw [if_neg c1,if_neg c2,if_pos c3] at gg
 refine sR gCt Z ?_
 let aq:List Value:=[.slice bC p0.Starts.length bG,.slice bD p0.Splits.length bH,.slice bE p0.Clocks.length bI,.slice bF p0.Readings.length bJ]
 refine ZG (cs:=aq) rfl rfl rfl rfl rfl rfl (by rfl) hS ?_
 intro pX bm l6
 let au:List Value:=[jV p1.Kind,jV p1.Skier,jV p1.Index,.bool p1.Up]
 refine ZG (cs:=au) rfl rfl rfl rfl rfl rfl (by rfl) l6 ?_
 intro pY bn ma
 let bw:List Value:=[jV 0,jV 0]
 refine zX (cs:=bw) Z Z Z Z Z zh Z ma ?_
 intro pZ bb mb
 refine zX (cs:=bw) Z Z Z Z Z zh Z mb ?_
 intro eH bf mc
 refine oA Z Z (eN ?_)
 have q:=bnd gg
 obtain ⟨⟨⟩,o8,gh⟩:=q
 try dsimp only at gh
 let br:List Value:=[.func (.func 110) #[] #[],.func (.func 111) #[] #[],.func (.func 113) #[] #[]]
 refine Zp (fun σ_ w_=>∃ (U_:PHeap) (bM:Nat),σ_ 2=.pointer (some ⟨bm,0,none⟩)/\σ_ 3=.pointer (some ⟨bn,0,none⟩)/\σ_ 4=.pointer (some ⟨bb,0,none⟩)/\σ_ 5=.pointer (some ⟨bf,0,none⟩)/\σ_ 7=.pointer (some ⟨bM,0,none⟩)/\PHeap.Le U U_/\sW w U U_ [.blk bf 68 bw,.blk bb 68 bw,.blk bn 118 au,.blk bm 28 aq,.blk bM 179 br] w_) ?_ ?_
 have q:=bnd o8
 obtain ⟨⟨⟩,fA,dY⟩:=q
 try dsimp only at dY
 refine zt zq [2,3,1,3,2,0] gDc (by kernel_rfl) ?_
 have cG:=mc.drew
 generalize hw_W363:({ eH with drawn:=eH.drawn + 1 }:World)=iw at cG ⊢
 refine oR Z (zJ Z Z zr Z Tryz.sizeOf116) (oL Z (cG.ldB (j:=2) Z Z Z Tryz.isAgg116 (v:=jV p1.Kind) Z) (zi ?_ ?_))
 refine zH 0 Z Z Z Z (zG Z Z yX zM Z) cG (fun hs=>wBc iw U hs fA) (.inr Z) ?_
 rintro dt pz qE iz pg md ⟨rfl,rfl⟩
 have me:sW w U dt [.blk bf 68 bw,.blk bb 68 bw,.blk bn 118 au,.blk bm 28 aq] iz:=md
 refine zV rfl rfl rfl rfl (fun _=>(Runs.ixA (i:=2) rfl rfl (congrArg (jV) c3) Zs ZO (by decide) (by decide) (wCd yc ZO rfl))) (zX (cs:=[.nilFunc,.nilFunc,.nilFunc]) rfl rfl rfl rfl rfl Zi rfl me ?_)
 intro p6 eO mf
 refine ze (j:=0) (vs:=br) Z Z Z Z mf Z Z Z Z ZO (zA Z) Z Z Z ?_
 intro iA mg
 have mh:sW w U dt [.blk eO 179 br,.blk bf 68 bw,.blk bb 68 bw,.blk bn 118 au,.blk bm 28 aq] iA:=mg
 refine zd ?_
 cases dY
 exact zI ⟨rfl,⟨dt,eO,rfl,rfl,rfl,rfl,rfl,pg,(mh.pick [1,2,3,4,0] _ (by decide) rfl)⟩⟩
 refine zX (cs:=[.nilFunc,.nilFunc,.nilFunc]) Z Z Z Z Z Zi Z cG ?_
 intro iB dE mi
 refine zH 0 Z Z Z Z (zG Z Z yX zM Z) mi (fun hs=>wBc iB U hs fA) (.inr Z) ?_
 rintro du pB qF iC ph mj ⟨rfl,rfl⟩
 have mn:sW w U du [.blk dE 179 [.nilFunc,.nilFunc,.nilFunc],.blk bf 68 bw,.blk bb 68 bw,.blk bn 118 au,.blk bm 28 aq] iC:=mj
 refine zV rfl rfl rfl rfl (fun _=>(Runs.ixA (i:=2) rfl rfl (congrArg (jV) c3) Zs ZO (by decide) (by decide) (wCd yc ZO rfl))) (ze (j:=0) (vs:=br) rfl rfl rfl rfl mn rfl rfl rfl rfl ZO (zA rfl) rfl rfl rfl ?_)
 intro iD mo
 have mp:sW w U du [.blk dE 179 br,.blk bf 68 bw,.blk bb 68 bw,.blk bn 118 au,.blk bm 28 aq] iD:=mo
 refine zd ?_
 cases dY
 exact zI ⟨rfl,⟨du,dE,rfl,rfl,rfl,rfl,rfl,ph,(mp.pick [1,2,3,4,0] _ (by decide) rfl)⟩⟩
 rintro qU iE ⟨gP,bM,fc,dM,bX,bT,fd,cX,cH⟩
 refine sR (wEU (.fx 4 (wPv gBo) .stop)) Z (oR Z (zJ Z fd Zy Z Tryz.sizeOf176) (oL Z (cH.ldB (j:=4) Z Z Z Tryz.isAgg176 (v:=.func (.func 111) #[] #[]) Z) (oL Z (cH.ldBA (j:=3) Z Z fc ZK zz (vs:=aq) Z Z) (oL Z (cH.ldBA (j:=2) Z Z dM yL yB (vs:=au) Z Z) ?_))))
 have fB:=cP.le cX
 have fC:=cQ.le cX
 have fD:=cR.le cX
 have fE:=cS.le cX
 have q:=bnd gh
 obtain ⟨⟨dg,dh⟩,jO,gi⟩:=q
 try dsimp only at gi
 refine zH 0 Z Z Z Z (zG Z Z Tryz.call111 (zB Z (zB Z zM)) Z) cH (fun hs=>wHt p0 bC bG bD bH bE bI bF bJ p1 iE gP hs fB fC fD fE jO) (.inr Z) ?_
 rintro cw pC qG iF cY mq ⟨rfl,rfl⟩
 have mr:sW w U cw [.blk bf 68 bw,.blk bb 68 bw,.blk bn 118 au,.blk bm 28 aq,.blk bM 179 br] iF:=mq
 refine oM Z Z (oR Z (zk Z Z (v:=.agg #[jV dg.skier,jV dg.mat]) Z) (oR Z (zk Z Z (v:=.agg #[jV dh.skier,jV dh.mat]) Z) ?_))
 let av:List Value:=[jV dg.skier,jV dg.mat]
 refine ze (j:=1) (vs:=av) Z Z Z Z mr Z bX Z Z zF (zA Z) Z Z Z ?_
 intro iG mu
 have mw:sW w U cw [.blk bf 68 bw,.blk bb 68 av,.blk bn 118 au,.blk bm 28 aq,.blk bM 179 br] iG:=mu
 let ah:List Value:=[jV dh.skier,jV dh.mat]
 refine ze (j:=0) (vs:=ah) Z Z Z Z mw Z bT Z Z zF (zA Z) Z Z Z ?_
 intro eI my
 have cI:sW w U cw [.blk bf 68 ah,.blk bb 68 av,.blk bn 118 au,.blk bm 28 aq,.blk bM 179 br] eI:=my
 refine eN (sR (wEU (.fx 4 (wOw (.nil)) .stop)) Z (oR Z (zJ Z fd Zy Z Tryz.sizeOf177) (oL Z (cI.ldB (j:=4) Z Z Z Tryz.isAgg177 (v:=.func (.func 113) #[] #[]) Z) (oL Z (cI.ldBA (j:=3) Z Z fc ZK zz (vs:=aq) Z Z) (oL Z (cI.ldBA (j:=2) Z Z dM yL yB (vs:=au) Z Z) ?_)))))
 have jP:=fB.le cY
 have jQ:=fC.le cY
 have jR:=fD.le cY
 have jS:=fE.le cY
 have q:=bnd gi
 obtain ⟨⟨eh,gK⟩,jU,gm⟩:=q
 try dsimp only at gm
 refine zH 0 Z Z Z Z (zG Z Z Tryz.call113 (zB Z (zB Z zM)) Z) cI (fun hs=>wHu p0 bC bG bD bH bE bI bF bJ p1 eI cw hs jP jQ jR jS jU) (.inr Z) ?_
 rintro bQ pD qH dB qt mz ⟨rfl,rfl⟩
 have cp:sW w U bQ [.blk bf 68 ah,.blk bb 68 av,.blk bn 118 au,.blk bm 28 aq,.blk bM 179 br] dB:=mz
 refine oM Z Z (oR Z (zk Z Z (v:=jV eh) Z) (oR Z (zk Z Z (v:=jV gK) Z) (oA Z Z (oA Z Z (eN (zN (sR fL3 Z (oR Z (zJ Z dM zr Z Tryz.sizeOf4) (oL Z (cp.ldB (j:=2) Z Z Z Tryz.isAgg4 (v:=.bool p1.Up) Z) (oR Z (Zb Z Z) (eN (ifc gm ?_ ?_))))))))))))
 intro dJ oW
 refine zn (nC dJ.out) (kN ?_)
 have q:=bnd oW
 obtain ⟨⟨⟩,gG,gp⟩:=q
 try dsimp only at gp
 refine Zp (fun σ_ w_=>∃ (U_:PHeap),σ_ 4=.pointer (some ⟨bb,0,none⟩)/\σ_ 5=.pointer (some ⟨bf,0,none⟩)/\σ_ 6=jV eh/\PHeap.Le bQ U_/\sW w U U_ [.blk bf 68 ah,.blk bb 68 av,.blk bn 118 au,.blk bm 28 aq,.blk bM 179 br] w_) ?_ ?_
 refine zt zq [1,2,3,0,0,3] gDd (by kernel_rfl) ?_
 have cq:=cp.drew
 generalize hw_W454:({ dB with drawn:=dB.drawn + 1 }:World)=p7 at cq ⊢
 refine oL Z (cq.ldBA (j:=1) Z Z bX zg zF (vs:=av) Z Z) (oM Z Z (zi ?_ ?_))
 refine zu Z Z Z Z (cq.ldBA (j:=0) Z Z bT zg zF (vs:=ah) Z Z) (ze (j:=1) (vs:=av) Z Z Z Z cq Z bX Z Z zF (zA Z) Z Z Z ?_)
 intro iI mA
 have mB:sW w U bQ [.blk bf 68 ah,.blk bb 68 av,.blk bn 118 au,.blk bm 28 aq,.blk bM 179 br] iI:=mA
 refine ze (j:=0) (vs:=ah) Z Z Z Z mB Z bT Z Z zF (zA Z) Z Z Z ?_
 intro iJ mC
 have mD:sW w U bQ [.blk bf 68 ah,.blk bb 68 av,.blk bn 118 au,.blk bm 28 aq,.blk bM 179 br] iJ:=mC
 refine oA Z Z (zd ?_)
 cases gG
 exact zI ⟨Z,⟨bQ,bX,bT,Z,(zK _),mD⟩⟩
 refine ze (j:=1) (vs:=av) Z Z Z Z cq Z bX Z Z zF (zA Z) Z Z Z ?_
 intro iK mE
 have fT:sW w U bQ [.blk bf 68 ah,.blk bb 68 av,.blk bn 118 au,.blk bm 28 aq,.blk bM 179 br] iK:=mE
 refine zu Z Z Z Z (fT.ldBA (j:=0) Z Z bT zg zF (vs:=ah) Z Z) (ze (j:=0) (vs:=ah) Z Z Z Z fT Z bT Z Z zF (zA Z) Z Z Z ?_)
 intro iL mF
 have mG:sW w U bQ [.blk bf 68 ah,.blk bb 68 av,.blk bn 118 au,.blk bm 28 aq,.blk bM 179 br] iL:=mF
 refine oA Z Z (zd ?_)
 cases gG
 exact zI ⟨Z,⟨bQ,bX,bT,Z,(zK _),mG⟩⟩
 rintro qV p8 ⟨gQ,jv,jw,jx,qu,dT⟩
 refine zS ?_
 cases gp
 exact ⟨rfl,_,(wEL (rs:=[.cell 4 68,.cell 5 68,.tmp 6]) (vs:=[.agg av.toArray,.agg ah.toArray,jV eh]) ⟨⟨_,jv,(wBT zg zF (dT.blkAt (k:=1) rfl) (vs:=av) rfl rfl)⟩,⟨⟨_,jw,(wBT zg zF (dT.blkAt (k:=0) rfl) (vs:=ah) rfl rfl)⟩,⟨jx,trivial⟩⟩⟩ rfl),gQ,_,(dT.pick [] _ (by decide) rfl),rfl,rfl⟩
 intro dJ o0
 refine ZH (nF (dJ.out)) (sR (wDj gCb) Z (oL Z (cp.ldBA (j:=0) Z Z bT zg zF (vs:=ah) Z Z) (oL Z (cp.ldBA (j:=1) Z Z bX zg zF (vs:=av) Z Z) (oM Z Z (ze (j:=1) (vs:=ah) Z Z Z Z cp Z bX Z Z zF (zA Z) Z Z Z ?_)))))
 intro iM mH
 have mI:sW w U bQ [.blk bf 68 ah,.blk bb 68 ah,.blk bn 118 au,.blk bm 28 aq,.blk bM 179 br] iM:=mH
 refine ze (j:=0) (vs:=av) Z Z Z Z mI Z bT Z Z zF (zA Z) Z Z Z ?_
 intro iN mJ
 have dU:sW w U bQ [.blk bf 68 av,.blk bb 68 ah,.blk bn 118 au,.blk bm 28 aq,.blk bM 179 br] iN:=mJ
 refine oA Z Z (eN (zS (zW ?_)))
 cases o0
 exact ⟨rfl,_,(wEL (rs:=[.cell 4 68,.cell 5 68,.tmp 6]) (vs:=[.agg ah.toArray,.agg av.toArray,jV gK]) ⟨⟨_,bX,(wBT zg zF (dU.blkAt (k:=1) rfl) (vs:=ah) rfl rfl)⟩,⟨⟨_,bT,(wBT zg zF (dU.blkAt (k:=0) rfl) (vs:=av) rfl rfl)⟩,⟨rfl,trivial⟩⟩⟩ rfl),bQ,_,(dU.pick [] _ (by decide) rfl),rfl,rfl⟩
 by_cases c4:p1.Kind=3
 have gu:=hm;rw [if_neg c1,if_neg c2,if_neg c3,if_pos c4] at gu
 refine sR gCt Z ?_
 let az:List Value:=[.slice bC p0.Starts.length bG,.slice bD p0.Splits.length bH,.slice bE p0.Clocks.length bI,.slice bF p0.Readings.length bJ]
 refine ZG (cs:=az) rfl rfl rfl rfl rfl rfl (by rfl) hS ?_
 intro p9 bo mK
 let aS:List Value:=[jV p1.Kind,jV p1.Skier,jV p1.Index,.bool p1.Up]
 refine ZG (cs:=aS) rfl rfl rfl rfl rfl rfl (by rfl) mK ?_
 intro qa bp mL
 let bA:List Value:=[jV 0,jV 0]
 refine zX (cs:=bA) Z Z Z Z Z zh Z mL ?_
 intro qb bg mM
 refine zX (cs:=bA) Z Z Z Z Z zh Z mM ?_
 intro eJ bh mN
 refine oA Z Z (eN ?_)
 have q:=bnd gu
 obtain ⟨⟨⟩,o9,gw⟩:=q
 try dsimp only at gw
 let bt:List Value:=[.func (.func 114) #[] #[],.func (.func 115) #[] #[],.func (.func 116) #[] #[]]
 refine Zp (fun σ_ w_=>∃ (U_:PHeap) (bN:Nat),σ_ 2=.pointer (some ⟨bo,0,none⟩)/\σ_ 3=.pointer (some ⟨bp,0,none⟩)/\σ_ 4=.pointer (some ⟨bg,0,none⟩)/\σ_ 5=.pointer (some ⟨bh,0,none⟩)/\σ_ 7=.pointer (some ⟨bN,0,none⟩)/\PHeap.Le U U_/\sW w U U_ [.blk bh 68 bA,.blk bg 68 bA,.blk bp 118 aS,.blk bo 28 az,.blk bN 179 bt] w_) ?_ ?_
 have q:=bnd o9
 obtain ⟨⟨⟩,fG,d5⟩:=q
 try dsimp only at d5
 refine zt zq [2,3,1,3,2,0] gDc (by kernel_rfl) ?_
 have cK:=mN.drew
 generalize hw_W522:({ eJ with drawn:=eJ.drawn + 1 }:World)=iP at cK ⊢
 refine oR Z (zJ Z Z zr Z Tryz.sizeOf116) (oL Z (cK.ldB (j:=2) Z Z Z Tryz.isAgg116 (v:=jV p1.Kind) Z) (zi ?_ ?_))
 refine zH 0 Z Z Z Z (zG Z Z yX zM Z) cK (fun hs=>wBc iP U hs fG) (.inr Z) ?_
 rintro dw pF qJ iQ pk mQ ⟨rfl,rfl⟩
 have mR:sW w U dw [.blk bh 68 bA,.blk bg 68 bA,.blk bp 118 aS,.blk bo 28 az] iQ:=mQ
 refine zV rfl rfl rfl rfl (fun _=>(Runs.ixA (i:=3) rfl rfl (congrArg (jV) c4) Zs ZO (by decide) (by decide) (wCd yc ZO rfl))) (zX (cs:=[.nilFunc,.nilFunc,.nilFunc]) rfl rfl rfl rfl rfl Zi rfl mR ?_)
 intro qd eQ mS
 refine ze (j:=0) (vs:=bt) Z Z Z Z mS Z Z Z Z ZO (zA Z) Z Z Z ?_
 intro iR mT
 have mU:sW w U dw [.blk eQ 179 bt,.blk bh 68 bA,.blk bg 68 bA,.blk bp 118 aS,.blk bo 28 az] iR:=mT
 refine zd ?_
 cases d5
 exact zI ⟨rfl,⟨dw,eQ,rfl,rfl,rfl,rfl,rfl,pk,(mU.pick [1,2,3,4,0] _ (by decide) rfl)⟩⟩
 refine zX (cs:=[.nilFunc,.nilFunc,.nilFunc]) Z Z Z Z Z Zi Z cK ?_
 intro iT dF mV
 refine zH 0 Z Z Z Z (zG Z Z yX zM Z) mV (fun hs=>wBc iT U hs fG) (.inr Z) ?_
 rintro dx pG qK iU pm mW ⟨rfl,rfl⟩
 have mX:sW w U dx [.blk dF 179 [.nilFunc,.nilFunc,.nilFunc],.blk bh 68 bA,.blk bg 68 bA,.blk bp 118 aS,.blk bo 28 az] iU:=mW
 refine zV rfl rfl rfl rfl (fun _=>(Runs.ixA (i:=3) rfl rfl (congrArg (jV) c4) Zs ZO (by decide) (by decide) (wCd yc ZO rfl))) (ze (j:=0) (vs:=bt) rfl rfl rfl rfl mX rfl rfl rfl rfl ZO (zA rfl) rfl rfl rfl ?_)
 intro iV mZ
 have m4:sW w U dx [.blk dF 179 bt,.blk bh 68 bA,.blk bg 68 bA,.blk bp 118 aS,.blk bo 28 az] iV:=mZ
 refine zd ?_
 cases d5
 exact zI ⟨rfl,⟨dx,dF,rfl,rfl,rfl,rfl,rfl,pm,(m4.pick [1,2,3,4,0] _ (by decide) rfl)⟩⟩
 rintro qW iW ⟨gR,bN,ff,dN,bY,bU,fh,cZ,cL⟩
 refine sR (wEU (.fx 4 (wPv gBo) .stop)) Z (oR Z (zJ Z fh Zy Z Tryz.sizeOf176) (oL Z (cL.ldB (j:=4) Z Z Z Tryz.isAgg176 (v:=.func (.func 115) #[] #[]) Z) (oL Z (cL.ldBA (j:=3) Z Z ff ZK zz (vs:=az) Z Z) (oL Z (cL.ldBA (j:=2) Z Z dN yL yB (vs:=aS) Z Z) ?_))))
 have fH:=cP.le cZ
 have fJ:=cQ.le cZ
 have fK:=cR.le cZ
 have fL:=cS.le cZ
 have q:=bnd gw
 obtain ⟨⟨dk,dl⟩,jW,gz⟩:=q
 try dsimp only at gz
 refine zH 0 Z Z Z Z (zG Z Z Tryz.call115 (zB Z (zB Z zM)) Z) cL (fun hs=>wHR p0 bC bG bD bH bE bI bF bJ p1 iW gR hs fH fJ fK fL jW) (.inr Z) ?_
 rintro cx pH qL iY da m5 ⟨rfl,rfl⟩
 have m6:sW w U cx [.blk bh 68 bA,.blk bg 68 bA,.blk bp 118 aS,.blk bo 28 az,.blk bN 179 bt] iY:=m5
 refine oM Z Z (oR Z (zk Z Z (v:=.agg #[jV dk.skier,jV dk.mat]) Z) (oR Z (zk Z Z (v:=.agg #[jV dl.skier,jV dl.mat]) Z) ?_))
 let aT:List Value:=[jV dk.skier,jV dk.mat]
 refine ze (j:=1) (vs:=aT) Z Z Z Z m6 Z bY Z Z zF (zA Z) Z Z Z ?_
 intro iZ m8
 have m9:sW w U cx [.blk bh 68 bA,.blk bg 68 aT,.blk bp 118 aS,.blk bo 28 az,.blk bN 179 bt] iZ:=m8
 let ai:List Value:=[jV dl.skier,jV dl.mat]
 refine ze (j:=0) (vs:=ai) Z Z Z Z m9 Z bU Z Z zF (zA Z) Z Z Z ?_
 intro eK n5
 have cM:sW w U cx [.blk bh 68 ai,.blk bg 68 aT,.blk bp 118 aS,.blk bo 28 az,.blk bN 179 bt] eK:=n5
 refine eN (sR (wEU (.fx 4 (wOw (.nil)) .stop)) Z (oR Z (zJ Z fh Zy Z Tryz.sizeOf177) (oL Z (cM.ldB (j:=4) Z Z Z Tryz.isAgg177 (v:=.func (.func 116) #[] #[]) Z) (oL Z (cM.ldBA (j:=3) Z Z ff ZK zz (vs:=az) Z Z) (oL Z (cM.ldBA (j:=2) Z Z dN yL yB (vs:=aS) Z Z) ?_)))))
 have jX:=fH.le da
 have jY:=fJ.le da
 have jZ:=fK.le da
 have j0:=fL.le da
 have q:=bnd gz
 obtain ⟨⟨eu,gL⟩,j3,gA⟩:=q
 try dsimp only at gA
 refine zH 0 Z Z Z Z (zG Z Z Tryz.call116 (zB Z (zB Z zM)) Z) cM (fun hs=>wHS p0 bC bG bD bH bE bI bF bJ p1 eK cx hs jX jY jZ j0 j3) (.inr Z) ?_
 rintro bR pI qM dC qv n7 ⟨rfl,rfl⟩
 have cr:sW w U bR [.blk bh 68 ai,.blk bg 68 aT,.blk bp 118 aS,.blk bo 28 az,.blk bN 179 bt] dC:=n7
 refine oM Z Z (oR Z (zk Z Z (v:=jV eu) Z) (oR Z (zk Z Z (v:=jV gL) Z) (oA Z Z (oA Z Z (eN (zN (sR fL3 Z (oR Z (zJ Z dN zr Z Tryz.sizeOf4) (oL Z (cr.ldB (j:=2) Z Z Z Tryz.isAgg4 (v:=.bool p1.Up) Z) (oR Z (Zb Z Z) (eN (ifc gA ?_ ?_))))))))))))
 intro dK o3
 refine zn (nC dK.out) (kN ?_)
 have q:=bnd o3
 obtain ⟨⟨⟩,gH,gB⟩:=q
 try dsimp only at gB
 refine Zp (fun σ_ w_=>∃ (U_:PHeap),σ_ 4=.pointer (some ⟨bg,0,none⟩)/\σ_ 5=.pointer (some ⟨bh,0,none⟩)/\σ_ 6=jV eu/\PHeap.Le bR U_/\sW w U U_ [.blk bh 68 ai,.blk bg 68 aT,.blk bp 118 aS,.blk bo 28 az,.blk bN 179 bt] w_) ?_ ?_
 refine zt zq [1,2,3,0,0,3] gDd (by kernel_rfl) ?_
 have ct:=cr.drew
 generalize hw_W613:({ dC with drawn:=dC.drawn + 1 }:World)=qf at ct ⊢
 refine oL Z (ct.ldBA (j:=1) Z Z bY zg zF (vs:=aT) Z Z) (oM Z Z (zi ?_ ?_))
 refine zu Z Z Z Z (ct.ldBA (j:=0) Z Z bU zg zF (vs:=ai) Z Z) (ze (j:=1) (vs:=aT) Z Z Z Z ct Z bY Z Z zF (zA Z) Z Z Z ?_)
 intro i7 n8
 have n9:sW w U bR [.blk bh 68 ai,.blk bg 68 aT,.blk bp 118 aS,.blk bo 28 az,.blk bN 179 bt] i7:=n8
 refine ze (j:=0) (vs:=ai) Z Z Z Z n9 Z bU Z Z zF (zA Z) Z Z Z ?_
 intro i8 oa
 have oc:sW w U bR [.blk bh 68 ai,.blk bg 68 aT,.blk bp 118 aS,.blk bo 28 az,.blk bN 179 bt] i8:=oa
 refine oA Z Z (zd ?_)
 cases gH
 exact zI ⟨Z,⟨bR,bY,bU,Z,(zK _),oc⟩⟩
 refine ze (j:=1) (vs:=aT) Z Z Z Z ct Z bY Z Z zF (zA Z) Z Z Z ?_
 intro ja od
 have fU:sW w U bR [.blk bh 68 ai,.blk bg 68 aT,.blk bp 118 aS,.blk bo 28 az,.blk bN 179 bt] ja:=od
 refine zu Z Z Z Z (fU.ldBA (j:=0) Z Z bU zg zF (vs:=ai) Z Z) (ze (j:=0) (vs:=ai) Z Z Z Z fU Z bU Z Z zF (zA Z) Z Z Z ?_)
 intro jb oe
 have og:sW w U bR [.blk bh 68 ai,.blk bg 68 aT,.blk bp 118 aS,.blk bo 28 az,.blk bN 179 bt] jb:=oe
 refine oA Z Z (zd ?_)
 cases gH
 exact zI ⟨Z,⟨bR,bY,bU,Z,(zK _),og⟩⟩
 rintro qX qh ⟨gS,jy,jz,jA,qw,dV⟩
 refine zS ?_
 cases gB
 exact ⟨rfl,_,(wEL (rs:=[.cell 4 68,.cell 5 68,.tmp 6]) (vs:=[.agg aT.toArray,.agg ai.toArray,jV eu]) ⟨⟨_,jy,(wBT zg zF (dV.blkAt (k:=1) rfl) (vs:=aT) rfl rfl)⟩,⟨⟨_,jz,(wBT zg zF (dV.blkAt (k:=0) rfl) (vs:=ai) rfl rfl)⟩,⟨jA,trivial⟩⟩⟩ rfl),gS,_,(dV.pick [] _ (by decide) rfl),rfl,rfl⟩
 intro dK o5
 refine ZH (nF (dK.out)) (sR (wDj gCb) Z (oL Z (cr.ldBA (j:=0) Z Z bU zg zF (vs:=ai) Z Z) (oL Z (cr.ldBA (j:=1) Z Z bY zg zF (vs:=aT) Z Z) (oM Z Z (ze (j:=1) (vs:=ai) Z Z Z Z cr Z bY Z Z zF (zA Z) Z Z Z ?_)))))
 intro jc oh
 have oi:sW w U bR [.blk bh 68 ai,.blk bg 68 ai,.blk bp 118 aS,.blk bo 28 az,.blk bN 179 bt] jc:=oh
 refine ze (j:=0) (vs:=aT) Z Z Z Z oi Z bU Z Z zF (zA Z) Z Z Z ?_
 intro jd oj
 have dW:sW w U bR [.blk bh 68 aT,.blk bg 68 ai,.blk bp 118 aS,.blk bo 28 az,.blk bN 179 bt] jd:=oj
 refine oA Z Z (eN (zS (zW ?_)))
 cases o5
 exact ⟨rfl,_,(wEL (rs:=[.cell 4 68,.cell 5 68,.tmp 6]) (vs:=[.agg ai.toArray,.agg aT.toArray,jV gL]) ⟨⟨_,bY,(wBT zg zF (dW.blkAt (k:=1) rfl) (vs:=ai) rfl rfl)⟩,⟨⟨_,bU,(wBT zg zF (dW.blkAt (k:=0) rfl) (vs:=aT) rfl rfl)⟩,⟨rfl,trivial⟩⟩⟩ rfl),bR,_,(dW.pick [] _ (by decide) rfl),rfl,rfl⟩
 have gC:=hm;rw [if_neg c1,if_neg c2,if_neg c3,if_neg c4] at gC
 refine sR gCt Z ?_
 let dm:List Value:=[.slice bC p0.Starts.length bG,.slice bD p0.Splits.length bH,.slice bE p0.Clocks.length bI,.slice bF p0.Readings.length bJ]
 refine ZG (cs:=dm) rfl rfl rfl rfl rfl rfl (by rfl) hS ?_
 intro qi eV om
 let dp:List Value:=[jV p1.Kind,jV p1.Skier,jV p1.Index,.bool p1.Up]
 refine ZG (cs:=dp) rfl rfl rfl rfl rfl rfl (by rfl) om ?_
 intro qj eW oq
 let cd:List Value:=[jV 0,jV 0]
 refine zX (cs:=cd) Z Z Z Z Z zh Z oq ?_
 intro qk eX ot
 refine zX (cs:=cd) Z Z Z Z Z zh Z ot ?_
 intro eL eY ou
 refine oA Z Z (eN (zN ?_))
 have q:=bnd gC
 obtain ⟨⟨⟩,fM,d7⟩:=q
 try dsimp only at d7
 refine zt zq [2,3,1,3,2,0] gDc (by kernel_rfl) ?_
 have cN:=ou.drew
 generalize hw_W669:({ eL with drawn:=eL.drawn + 1 }:World)=je at cN ⊢
 refine oR Z (zJ Z Z zr Z Tryz.sizeOf116) (oL Z (cN.ldB (j:=2) Z Z Z Tryz.isAgg116 (v:=jV p1.Kind) Z) (zi ?_ ?_))
 refine zH 0 Z Z Z Z (zG Z Z yX zM Z) cN (fun hs=>wBc je U hs fM) (.inr Z) ?_
 rintro gT pK qN jf qx ow ⟨rfl,rfl⟩
 have qm:sW w U gT [.blk eY 68 cd,.blk eX 68 cd,.blk eW 118 dp,.blk eV 28 dm] jf:=ow
 cases d7
 refine zX (cs:=[.nilFunc,.nilFunc,.nilFunc]) Z Z Z Z Z Zi Z cN ?_
 intro jg jm ox
 refine zH 0 Z Z Z Z (zG Z Z yX zM Z) ox (fun hs=>wBc jg U hs fM) (.inr Z) ?_
 rintro gU pL qP jh qy oy ⟨rfl,rfl⟩
 have qn:sW w U gU [.blk jm 179 [.nilFunc,.nilFunc,.nilFunc],.blk eY 68 cd,.blk eX 68 cd,.blk eW 118 dp,.blk eV 28 dm] jh:=oy
 cases d7
end Go.Proofs.YtkeeechdijfkhaaGreat
namespace Go.Proofs.YtkeeechdijfkhaaGreat
open Go.KL
set_option maxHeartbeats 4000000
theorem wIj (p0:wAD) (ai:Option Addr) (ap:Nat) (aj:Option Addr) (aq:Nat) (ak:Option Addr) (au:Nat) (am:Option Addr) (av:Nat) (w:World) (U:PHeap) (hS:St0 w U []) (rV:Sl U 1 ai ap p0.Starts.length (nA KL.encI p0.Starts)) (rW:Sl U 2 aj aq p0.Splits.length (nA wAP p0.Splits)) (rY:Sl U 3 ak au p0.Clocks.length (nA wAA p0.Clocks)) (rZ:Sl U 4 am av p0.Readings.length (nA wAL p0.Readings)) {r:wAr} (hm:wCw p0=some r):Gv Tryz.prog 43 [.agg #[.slice ai p0.Starts.length ap,.slice aj p0.Splits.length aq,.slice ak p0.Clocks.length au,.slice am p0.Readings.length av]] w (wCQ w [] U (fun U_ L_ v=>∃ (b0:Nat) (A0p00:Option Addr) (c0p00:Nat) (A0p01:Option Addr) (c0p01:Nat) (A0p02:Option Addr) (c0p02:Nat) (A0p03:Option Addr) (c0p03:Nat) (m0p1:Nat) (es0p1:Array MapEntry) (ck0p1:Nat) (A0p2:Option Addr) (c0p2:Nat),v=.pointer (some ⟨b0,0,none⟩)/\L_=[.blk b0 97 [.slice A0p00 r.Race.Starts.length c0p00,.slice A0p01 r.Race.Splits.length c0p01,.slice A0p02 r.Race.Clocks.length c0p02,.slice A0p03 r.Race.Readings.length c0p03,.map (some m0p1),.slice A0p2 r.edges.length c0p2],.obj m0p1 (.map es0p1 ck0p1),.row A0p2 c0p2 120 7 (nA wAZ r.edges)]/\Sl U_ 1 A0p00 c0p00 r.Race.Starts.length (nA KL.encI r.Race.Starts)/\Sl U_ 2 A0p01 c0p01 r.Race.Splits.length (nA wAP r.Race.Splits)/\Sl U_ 3 A0p02 c0p02 r.Race.Clocks.length (nA wAA r.Race.Clocks)/\Sl U_ 4 A0p03 c0p03 r.Race.Readings.length (nA wAL r.Race.Readings)/\MpR es0p1 wDD wDV r.number)):=by
 unfold wCw at hm
 refine Go.KX.Gv.ofM Tryz.func43 Z Tryz.ntmps43 Tryz.results43 (zA Z) (sR (.fx 0 (.fl 1 .nil) .stop) Z ?_)
 let B0:List Value:=[.slice ai p0.Starts.length ap,.slice aj p0.Splits.length aq,.slice ak p0.Clocks.length au,.slice am p0.Readings.length av]
 refine ZG (cs:=B0) rfl rfl rfl rfl rfl rfl (by rfl) hS ?_
 intro W1 b2 qP
 refine oA Z Z (eN (bnK hm fun jS sB r9=>Zp (fun σ_ w_=>∃ (U_:PHeap) (b6:Nat) (b8:Nat) (ah:Nat) (cy:Array MapEntry) (dq:Nat),σ_ 1=.pointer (some ⟨b2,0,none⟩)/\σ_ 3=.pointer (some ⟨b6,0,none⟩)/\PHeap.Le U U_/\sW w U U_ [.blk b2 28 B0,.blk b6 63 [.pointer (some ⟨b8,0,none⟩)],.blk b8 97 [.slice ai p0.Starts.length ap,.slice aj p0.Splits.length aq,.slice ak p0.Clocks.length au,.slice am p0.Readings.length av,.map (some ah),.slice none 0 0],.obj ah (.map cy dq)] w_/\MpR cy wDD wDV jS) ?_ ?_))
 refine bnK sB fun x22 bz sg=>zt zq [2,2,2,0,3,3,2,2,0] (.fx 0 (.fx 1 gDk (.fx 2 gDl (.fx 7 gDm .stop))) (.fx 1 (.fx 0 gDk (.fx 2 gDp (.fx 7 gDn .stop))) (.fx 2 (.fx 0 gDl (.fx 1 gDp (.fx 7 gDo .stop))) (.fx 7 (.fx 0 gDm (.fx 1 gDn (.fx 2 gDo .stop))) .stop)))) (by kernel_rfl) ?_
 have bB:=qP.drew
 generalize hw_W51:({ W1 with drawn:=W1.drawn + 1 }:World)=gT at bB ⊢
 refine zx (s:=.nil) (M:=fun σ_ w_=>∃ (U_:PHeap) (cX:Nat) (ci:Nat) (bC:Nat) (dA:Array MapEntry) (eK:Nat),σ_ 1=.pointer (some ⟨b2,0,none⟩)/\σ_ 3=.pointer (some ⟨cX,0,none⟩)/\σ_ 12=.agg B0.toArray/\σ_ 13=.map (some bC)/\σ_ 14=.agg #[jV x22.skier,jV x22.mat]/\σ_ 15=.map (some bC)/\σ_ 16=.agg #[.slice ai p0.Starts.length ap,.slice aj p0.Splits.length aq,.slice ak p0.Clocks.length au,.slice am p0.Readings.length av,.map (some bC),.slice none 0 0]/\σ_ 17=.pointer (some ⟨ci,0,none⟩)/\PHeap.Le U U_/\sW w U U_ [.blk b2 28 B0,.blk cX 63 [.pointer (some ⟨ci,0,none⟩)],.blk ci 97 [.slice ai p0.Starts.length ap,.slice aj p0.Splits.length aq,.slice ak p0.Clocks.length au,.slice am p0.Readings.length av,.map (some bC),.slice none 0 0],.obj bC (.map dA eK)] w_/\MpR dA wDD wDV (mput ([]:List (wAF × Int)) x22 0)) ?_ fun sD=>?_
 rintro uY tO ⟨lg,cX,ci,bC,dA,eK,mU,mV,uv,uw,ux,uy,uz,uA,sO,qQ,pq⟩
 refine zd ?_
 cases sg
 exact zI ⟨Z,⟨lg,cX,ci,bC,dA,eK,mU,mV,sO,qQ,pq⟩⟩
 refine zx (s:=.fx 8 .nil .stop) (M:=fun σ_ w_=>∃ (U_:PHeap) (cj:Nat) (bu:Nat) (cA:Array MapEntry) (dt:Nat) (bM:Nat),σ_ 1=.pointer (some ⟨b2,0,none⟩)/\σ_ 3=.pointer (some ⟨cj,0,none⟩)/\σ_ 12=.agg B0.toArray/\σ_ 13=.map (some bu)/\σ_ 14=.agg #[jV x22.skier,jV x22.mat]/\σ_ 15=.map (some bu)/\σ_ 16=.agg #[.slice ai p0.Starts.length ap,.slice aj p0.Splits.length aq,.slice ak p0.Clocks.length au,.slice am p0.Readings.length av,.map (some bu),.slice none 0 0]/\σ_ 17=.pointer (some ⟨bM,0,none⟩)/\PHeap.Le U U_/\sW w U U_ [.blk b2 28 B0,.blk cj 63 [.pointer none],.obj bu (.map cA dt),.blk bM 97 [.slice ai p0.Starts.length ap,.slice aj p0.Splits.length aq,.slice ak p0.Clocks.length au,.slice am p0.Readings.length av,.map (some bu),.slice none 0 0]] w_/\MpR cA wDD wDV (mput ([]:List (wAF × Int)) x22 0)) ?_ fun dT=>?_
 rintro uZ tP ⟨gE,cj,bu,cA,dt,bM,mW,iD,mX,mY,mZ,m4,m5,iE,sP,qR,pu⟩
 let B1:List Value:=[.pointer (some ⟨bM,0,none⟩)]
 refine ze (j:=1) (vs:=B1) Z Z Z Z qR Z iD iE Z Tryz.sizeOf63 (zA Z) Z Z Z ?_
 intro lV qS
 have qT:sW w U gE [.blk b2 28 B0,.blk cj 63 B1,.obj bu (.map cA dt),.blk bM 97 [.slice ai p0.Starts.length ap,.slice aj p0.Splits.length aq,.slice ak p0.Clocks.length au,.slice am p0.Readings.length av,.map (some bu),.slice none 0 0]] lV:=qS
 exact sD _ _ ⟨gE,cj,bM,bu,cA,dt,mW,iD,mX,mY,mZ,m4,m5,iE,sP,(qT.pick [0,1,3,2] _ (by decide) rfl),pu⟩
 refine zx (s:=gBs) (M:=fun σ_ w_=>∃ (U_:PHeap) (cY:Nat) (bD:Nat) (dB:Array MapEntry) (eL:Nat),σ_ 1=.pointer (some ⟨b2,0,none⟩)/\σ_ 3=.pointer (some ⟨cY,0,none⟩)/\σ_ 12=.agg B0.toArray/\σ_ 13=.map (some bD)/\σ_ 14=.agg #[jV x22.skier,jV x22.mat]/\σ_ 15=.map (some bD)/\σ_ 16=.agg #[.slice ai p0.Starts.length ap,.slice aj p0.Splits.length aq,.slice ak p0.Clocks.length au,.slice am p0.Readings.length av,.map (some bD),.slice none 0 0]/\PHeap.Le U U_/\sW w U U_ [.blk b2 28 B0,.blk cY 63 [.pointer none],.obj bD (.map dB eL)] w_/\MpR dB wDD wDV (mput ([]:List (wAF × Int)) x22 0)) ?_ fun jL=>?_
 rintro u5 tQ ⟨lh,cY,bD,dB,eL,m6,m7,m8,m9,n5,n6,iF,sQ,qU,py⟩
 refine ZG (cs:=[.slice ai p0.Starts.length ap,.slice aj p0.Splits.length aq,.slice ak p0.Clocks.length au,.slice am p0.Readings.length av,.map (some bD),.slice none 0 0]) rfl rfl rfl rfl rfl iF (by rfl) qU ?_
 intro tR mr qV
 exact dT _ _ ⟨lh,cY,bD,dB,eL,mr,m6,m7,m8,m9,n5,n6,iF,rfl,sQ,(qV.pick [1,2,3,0] _ (by decide) rfl),py⟩
 refine zx (s:=gBr) (M:=fun σ_ w_=>∃ (U_:PHeap) (bE:Nat) (dC:Array MapEntry) (eM:Nat) (cZ:Nat),σ_ 1=.pointer (some ⟨b2,0,none⟩)/\σ_ 12=.agg B0.toArray/\σ_ 13=.map (some bE)/\σ_ 14=.agg #[jV x22.skier,jV x22.mat]/\σ_ 15=.map (some bE)/\σ_ 16=.agg #[.slice ai p0.Starts.length ap,.slice aj p0.Splits.length aq,.slice ak p0.Clocks.length au,.slice am p0.Readings.length av,.map (some bE),.slice none 0 0]/\σ_ 17=.pointer (some ⟨cZ,0,none⟩)/\PHeap.Le U U_/\sW w U U_ [.blk b2 28 B0,.obj bE (.map dC eM),.blk cZ 97 [.slice ai p0.Starts.length ap,.slice aj p0.Splits.length aq,.slice ak p0.Clocks.length au,.slice am p0.Readings.length av,.map (some bE),.slice none 0 0]] w_/\MpR dC wDD wDV (mput ([]:List (wAF × Int)) x22 0)) ?_ fun jM=>?_
 rintro u6 tS ⟨li,bE,dC,eM,cZ,n7,n8,n9,oa,oc,od,oe,sS,qW,pz⟩
 refine zX (cs:=[.pointer none]) Z Z Z Z Z Zr Z qW ?_
 intro tT mu qX
 exact dT _ _ ⟨li,mu,bE,dC,eM,cZ,n7,rfl,n8,n9,oa,oc,od,oe,sS,(qX.pick [1,0,2,3] _ (by decide) rfl),pz⟩
 refine zx (s:=.fl 5 gBs) (M:=fun σ_ w_=>∃ (U_:PHeap) (da:Nat) (bF:Nat) (dD:Array MapEntry) (eO:Nat),σ_ 1=.pointer (some ⟨b2,0,none⟩)/\σ_ 3=.pointer (some ⟨da,0,none⟩)/\σ_ 12=.agg B0.toArray/\σ_ 13=.map (some bF)/\σ_ 14=.agg #[jV x22.skier,jV x22.mat]/\σ_ 15=.map (some bF)/\PHeap.Le U U_/\sW w U U_ [.blk b2 28 B0,.blk da 63 [.pointer none],.obj bF (.map dD eO)] w_/\MpR dD wDD wDV (mput ([]:List (wAF × Int)) x22 0)) ?_ fun jN=>?_
 rintro u7 tU ⟨lj,da,bF,dD,eO,og,oh,iG,oi,oj,iH,sT,qY,pB⟩
 let B2:List Value:=[.slice ai p0.Starts.length ap,.slice aj p0.Splits.length aq,.slice ak p0.Clocks.length au,.slice am p0.Readings.length av,.map (some bF),.slice none 0 0]
 refine zV rfl rfl rfl rfl (fun _=>zw (pv:=[(0,.agg B0.toArray),(1,.map (some bF))]) (z:=[.slice none 0 0,.slice none 0 0,.slice none 0 0,.slice none 0 0,.map none,.slice none 0 0]) (cs:=B2) rfl (wAC iG (wAC iH wAV)) Tryz.zeroValue97 wGh rfl rfl) (ZG (cs:=B2) rfl rfl rfl rfl rfl rfl (by rfl) qY ?_)
 intro tV mw qZ
 exact dT _ _ ⟨lj,da,bF,dD,eO,mw,og,oh,iG,oi,oj,iH,rfl,rfl,sT,(qZ.pick [1,2,3,0] _ (by decide) rfl),pB⟩
 refine zx (s:=gCl) (M:=fun σ_ w_=>∃ (U_:PHeap) (db:Nat) (cm:Nat) (dE:Array MapEntry) (eQ:Nat),σ_ 1=.pointer (some ⟨b2,0,none⟩)/\σ_ 3=.pointer (some ⟨db,0,none⟩)/\σ_ 13=.map (some cm)/\σ_ 14=.agg #[jV x22.skier,jV x22.mat]/\σ_ 15=.map (some cm)/\PHeap.Le U U_/\sW w U U_ [.blk b2 28 B0,.blk db 63 [.pointer none],.obj cm (.map dE eQ)] w_/\MpR dE wDD wDV (mput ([]:List (wAF × Int)) x22 0)) ?_ fun sE=>?_
 rintro u9 tW ⟨lm,db,cm,dE,eQ,iI,ol,om,oq,ot,sU,jw,pC⟩
 exact zu Z Z Z Z (jw.ldBA (j:=0) Z Z iI ZK zz (vs:=B0) Z Z) (jN _ _ ⟨lm,db,cm,dE,eQ,iI,ol,Z,om,oq,ot,sU,jw,pC⟩)
 refine zx (s:=gCu) (M:=fun σ_ w_=>∃ (U_:PHeap) (bw:Nat) (cB:Array MapEntry) (du:Nat),σ_ 1=.pointer (some ⟨b2,0,none⟩)/\σ_ 12=.agg B0.toArray/\σ_ 13=.map (some bw)/\σ_ 14=.agg #[jV x22.skier,jV x22.mat]/\σ_ 15=.map (some bw)/\PHeap.Le U U_/\sW w U U_ [.blk b2 28 B0,.obj bw (.map cB du)] w_/\MpR cB wDD wDV (mput ([]:List (wAF × Int)) x22 0)) ?_ fun sF=>?_
 rintro va tX ⟨gF,bw,cB,du,iJ,fb,iK,iL,fc,jY,jx,ji⟩
 let B3:List Value:=[.slice ai p0.Starts.length ap,.slice aj p0.Splits.length aq,.slice ak p0.Clocks.length au,.slice am p0.Readings.length av,.map (some bw),.slice none 0 0]
 refine oR Z (zw (pv:=[(0,.agg B0.toArray),(1,.map (some bw))]) (z:=[.slice none 0 0,.slice none 0 0,.slice none 0 0,.slice none 0 0,.map none,.slice none 0 0]) (cs:=B3) Z (wAC fb (wAC fc wAV)) Tryz.zeroValue97 wGh Z Z) (zi ?_ ?_)
 refine ZG (cs:=B3) rfl rfl rfl rfl rfl rfl (by rfl) jx ?_
 intro tY my rc
 exact jM _ _ ⟨gF,bw,cB,du,my,iJ,fb,iK,iL,fc,rfl,rfl,jY,(rc.pick [1,2,0] _ (by decide) rfl),ji⟩
 refine zX (cs:=[.pointer none]) Z Z Z Z Z Zr Z jx ?_
 intro tZ mz re
 exact jL _ _ ⟨gF,mz,bw,cB,du,iJ,rfl,fb,iK,iL,fc,rfl,jY,(re.pick [1,0,2] _ (by decide) rfl),ji⟩
 refine zx (s:=gCk) (M:=fun σ_ w_=>∃ (U_:PHeap) (de:Nat) (bN:Nat) (dF:Array MapEntry) (eU:Nat),σ_ 1=.pointer (some ⟨b2,0,none⟩)/\σ_ 3=.pointer (some ⟨de,0,none⟩)/\σ_ 12=.agg B0.toArray/\σ_ 13=.map (some bN)/\σ_ 14=.agg #[jV x22.skier,jV x22.mat]/\PHeap.Le U U_/\sW w U U_ [.blk b2 28 B0,.blk de 63 [.pointer none],.obj bN (.map dF eU)] w_/\MpR dF wDD wDV (mput ([]:List (wAF × Int)) x22 0)) ?_ fun sG=>?_
 rintro vb t7 ⟨ln,de,bN,dF,eU,ou,ow,iM,iN,ox,sV,ri,pD⟩
 refine oM Z iN ?_
 let B4:List Value:=[.slice ai p0.Starts.length ap,.slice aj p0.Splits.length aq,.slice ak p0.Clocks.length au,.slice am p0.Readings.length av,.map (some bN),.slice none 0 0]
 refine zV rfl rfl rfl rfl (fun _=>zw (pv:=[(0,.agg B0.toArray),(1,.map (some bN))]) (z:=[.slice none 0 0,.slice none 0 0,.slice none 0 0,.slice none 0 0,.map none,.slice none 0 0]) (cs:=B4) rfl (wAC iM (wAC rfl wAV)) Tryz.zeroValue97 wGh rfl rfl) (ZG (cs:=B4) rfl rfl rfl rfl rfl rfl (by rfl) ri ?_)
 intro t8 mA rj
 exact dT _ _ ⟨ln,de,bN,dF,eU,mA,ou,ow,iM,iN,ox,rfl,rfl,rfl,sV,(rj.pick [1,2,3,0] _ (by decide) rfl),pD⟩
 refine zx (s:=.fl 4 gCl) (M:=fun σ_ w_=>∃ (U_:PHeap) (df:Nat) (dg:Nat) (dG:Array MapEntry) (eV:Nat),σ_ 1=.pointer (some ⟨b2,0,none⟩)/\σ_ 3=.pointer (some ⟨df,0,none⟩)/\σ_ 13=.map (some dg)/\σ_ 14=.agg #[jV x22.skier,jV x22.mat]/\PHeap.Le U U_/\sW w U U_ [.blk b2 28 B0,.blk df 63 [.pointer none],.obj dg (.map dG eV)] w_/\MpR dG wDD wDV (mput ([]:List (wAF × Int)) x22 0)) ?_ fun sH=>?_
 rintro vc ua ⟨lp,df,dg,dG,eV,iO,oy,iP,oz,sX,jy,pE⟩
 exact oM Z iP (zu Z Z Z Z (jy.ldBA (j:=0) Z Z iO ZK zz (vs:=B0) Z Z) (jN _ _ ⟨lp,df,dg,dG,eV,iO,oy,Z,iP,oz,Z,sX,jy,pE⟩))
 refine zx (s:=gCv) (M:=fun σ_ w_=>∃ (U_:PHeap) (cn:Nat) (cp:Nat) (eY:Array MapEntry) (g7:Nat),σ_ 1=.pointer (some ⟨b2,0,none⟩)/\σ_ 3=.pointer (some ⟨cn,0,none⟩)/\σ_ 12=.agg B0.toArray/\σ_ 13=.map (some cp)/\σ_ 14=.agg #[jV x22.skier,jV x22.mat]/\PHeap.Le U U_/\sW w U U_ [.blk b2 28 B0,.blk cn 63 [.pointer none],.obj cp (.map eY g7)] w_/\MpR eY wDD wDV ([]:List (wAF × Int))) ?_ fun dU=>?_
 rintro vd ub ⟨gG,cn,cp,eY,g7,oB,oG,oH,iQ,iR,sY,rk,pF⟩
 refine OKS.mapPut (x:=.tmp 13) (y:=.tmp 14) (j:=2) (mk:=wDD) (mv:=wDV) (a:=x22) (v:=0) rfl rfl rfl (by first | exact .inl rfl | exact .inr rfl) rk rfl iQ iR rfl (wCM ZJ) wEY pF rfl ?_
 intro ig g8 lW so rn
 have ro:sW w U gG [.blk b2 28 B0,.blk cn 63 [.pointer none],.obj cp (.map ig g8)] lW:=rn
 exact sG _ _ ⟨gG,cn,cp,ig,g8,oB,oG,oH,iQ,iR,sY,ro,so⟩
 refine zx (s:=.fl 4 gCu) (M:=fun σ_ w_=>∃ (U_:PHeap) (bH:Nat) (cC:Array MapEntry) (dv:Nat),σ_ 1=.pointer (some ⟨b2,0,none⟩)/\σ_ 12=.agg B0.toArray/\σ_ 13=.map (some bH)/\σ_ 14=.agg #[jV x22.skier,jV x22.mat]/\PHeap.Le U U_/\sW w U U_ [.blk b2 28 B0,.obj bH (.map cC dv)] w_/\MpR cC wDD wDV (mput ([]:List (wAF × Int)) x22 0)) ?_ fun sI=>?_
 rintro ve uc ⟨gH,bH,cC,dv,iT,fd,ff,iU,jZ,jz,jj⟩
 refine oM Z ff ?_
 let B5:List Value:=[.slice ai p0.Starts.length ap,.slice aj p0.Splits.length aq,.slice ak p0.Clocks.length au,.slice am p0.Readings.length av,.map (some bH),.slice none 0 0]
 refine oR Z (zw (pv:=[(0,.agg B0.toArray),(1,.map (some bH))]) (z:=[.slice none 0 0,.slice none 0 0,.slice none 0 0,.slice none 0 0,.map none,.slice none 0 0]) (cs:=B5) Z (wAC fd (wAC Z wAV)) Tryz.zeroValue97 wGh Z Z) (zi ?_ ?_)
 refine ZG (cs:=B5) rfl rfl rfl rfl rfl rfl (by rfl) jz ?_
 intro ud mB rp
 exact jM _ _ ⟨gH,bH,cC,dv,mB,iT,fd,ff,iU,rfl,rfl,rfl,jZ,(rp.pick [1,2,0] _ (by decide) rfl),jj⟩
 refine zX (cs:=[.pointer none]) Z Z Z Z Z Zr Z jz ?_
 intro ue mC rq
 exact jL _ _ ⟨gH,mC,bH,cC,dv,iT,rfl,fd,ff,iU,rfl,rfl,jZ,(rq.pick [1,0,2] _ (by decide) rfl),jj⟩
 refine zx (s:=gDg) (M:=fun σ_ w_=>∃ (U_:PHeap) (bO:Nat) (bP:Nat) (dH:Array MapEntry) (eW:Nat),σ_ 1=.pointer (some ⟨b2,0,none⟩)/\σ_ 3=.pointer (some ⟨bO,0,none⟩)/\σ_ 13=.map (some bP)/\σ_ 14=.agg #[jV x22.skier,jV x22.mat]/\PHeap.Le U U_/\sW w U U_ [.blk b2 28 B0,.blk bO 63 [.pointer none],.obj bP (.map dH eW)] w_/\MpR dH wDD wDV ([]:List (wAF × Int))) ?_ fun fT=>?_
 rintro vg uf ⟨eE,bO,bP,dH,eW,fh,iV,fj,fm,j0,fL,jk⟩
 refine zi ?_ ?_
 exact zu Z Z Z Z (fL.ldBA (j:=0) Z Z fh ZK zz (vs:=B0) Z Z) (dU _ _ ⟨eE,bO,bP,dH,eW,fh,iV,Z,fj,fm,j0,fL,jk⟩)
 refine OKS.mapPut (x:=.tmp 13) (y:=.tmp 14) (j:=2) (mk:=wDD) (mv:=wDV) (a:=x22) (v:=0) rfl rfl rfl (by first | exact .inl rfl | exact .inr rfl) fL rfl fj fm rfl (wCM ZJ) wEY jk rfl ?_
 intro ii g9 lX sq rx
 have ry:sW w U eE [.blk b2 28 B0,.blk bO 63 [.pointer none],.obj bP (.map ii g9)] lX:=rx
 exact sH _ _ ⟨eE,bO,bP,ii,g9,fh,iV,fj,fm,j0,ry,sq⟩
 refine zx (s:=gDf) (M:=fun σ_ w_=>∃ (U_:PHeap) (cq:Nat) (cD:Array MapEntry) (dw:Nat),σ_ 1=.pointer (some ⟨b2,0,none⟩)/\σ_ 13=.map (some cq)/\σ_ 14=.agg #[jV x22.skier,jV x22.mat]/\PHeap.Le U U_/\sW w U U_ [.blk b2 28 B0,.obj cq (.map cD dw)] w_/\MpR cD wDD wDV (mput ([]:List (wAF × Int)) x22 0)) ?_ fun sJ=>?_
 rintro vh ug ⟨gI,cq,cD,dw,fq,ft,iW,j3,fM,jl⟩
 refine oM Z ft (zi ?_ ?_)
 exact zu Z Z Z Z (fM.ldBA (j:=0) Z Z fq ZK zz (vs:=B0) Z Z) (sF _ _ ⟨gI,cq,cD,dw,fq,Z,ft,iW,Z,j3,fM,jl⟩)
 refine zX (cs:=[.pointer none]) Z Z Z Z Z Zr Z fM ?_
 intro uh mD rA
 exact sE _ _ ⟨gI,mD,cq,cD,dw,fq,rfl,ft,iW,rfl,j3,(rA.pick [1,0,2] _ (by decide) rfl),jl⟩
 refine zx (s:=gDa) (M:=fun σ_ w_=>∃ (U_:PHeap) (dh:Nat),σ_ 1=.pointer (some ⟨b2,0,none⟩)/\σ_ 3=.pointer (some ⟨dh,0,none⟩)/\σ_ 12=.agg B0.toArray/\σ_ 14=.agg #[jV x22.skier,jV x22.mat]/\PHeap.Le U U_/\sW w U U_ [.blk b2 28 B0,.blk dh 63 [.pointer none]] w_) ?_ fun fU=>?_
 rintro vi ui ⟨lq,dh,oI,oK,oO,oP,sZ,rB⟩
 refine OKS.makeMap Z Z Z Z Z rB ?_
 intro uj mE rC
 have ss:=MpR.nil wDD wDV
 exact dU _ _ ⟨lq,dh,mE,#[],0,oI,oK,oO,rfl,oP,sZ,(rC.pick [1,2,0] _ (by decide) rfl),ss⟩
 refine zx (s:=gCz) (M:=fun σ_ w_=>∃ (U_:PHeap) (cr:Nat) (ct:Nat) (cG:Array MapEntry) (dx:Nat),σ_ 1=.pointer (some ⟨b2,0,none⟩)/\σ_ 3=.pointer (some ⟨cr,0,none⟩)/\σ_ 12=.agg B0.toArray/\σ_ 13=.map (some ct)/\PHeap.Le U U_/\sW w U U_ [.blk b2 28 B0,.blk cr 63 [.pointer none],.obj ct (.map cG dx)] w_/\MpR cG wDD wDV ([]:List (wAF × Int))) ?_ fun fV=>?_
 rintro vj lY ⟨lu,cr,ct,cG,dx,oU,oW,o0,o3,s5,rD,pG⟩
 refine zH 0 Z Z Z Z (zG Z Z yG zM Z) rD (fun hs=>wBQ lY lu hs bz) (.inr Z) ?_
 rintro gJ tp uN lZ s6 rE ⟨rfl,rfl⟩
 have rF:sW w U gJ [.blk b2 28 B0,.blk cr 63 [.pointer none],.obj ct (.map cG dx)] lZ:=rE
 exact dU _ _ ⟨gJ,cr,ct,cG,dx,oU,oW,o0,o3,Z,(s5.trans s6),rF,pG⟩
 refine zx (s:=gDe) (M:=fun σ_ w_=>∃ (U_:PHeap) (bQ:Nat) (dI:Array MapEntry) (eX:Nat),σ_ 1=.pointer (some ⟨b2,0,none⟩)/\σ_ 12=.agg B0.toArray/\σ_ 13=.map (some bQ)/\σ_ 14=.agg #[jV x22.skier,jV x22.mat]/\PHeap.Le U U_/\sW w U U_ [.blk b2 28 B0,.obj bQ (.map dI eX)] w_/\MpR dI wDD wDV ([]:List (wAF × Int))) ?_ fun fW=>?_
 rintro vk uk ⟨eF,bQ,dI,eX,iX,iY,fu,fw,j4,jA,jm⟩
 refine zi ?_ ?_
 refine OKS.mapPut (x:=.tmp 13) (y:=.tmp 14) (j:=1) (mk:=wDD) (mv:=wDV) (a:=x22) (v:=0) rfl rfl rfl (by first | exact .inl rfl | exact .inr rfl) jA rfl fu fw rfl (wCM ZJ) wEY jm rfl ?_
 intro ij ib l4 su rG
 have rH:sW w U eF [.blk b2 28 B0,.obj bQ (.map ij ib)] l4:=rG
 exact sI _ _ ⟨eF,bQ,ij,ib,iX,iY,fu,fw,j4,rH,su⟩
 refine zX (cs:=[.pointer none]) Z Z Z Z Z Zr Z jA ?_
 intro ul mF rI
 exact dU _ _ ⟨eF,mF,bQ,dI,eX,iX,rfl,iY,fu,fw,j4,(rI.pick [1,0,2] _ (by decide) rfl),jm⟩
 refine zx (s:=gDo) (M:=fun σ_ w_=>∃ (U_:PHeap) (cu:Nat),σ_ 1=.pointer (some ⟨b2,0,none⟩)/\σ_ 3=.pointer (some ⟨cu,0,none⟩)/\σ_ 14=.agg #[jV x22.skier,jV x22.mat]/\PHeap.Le U U_/\sW w U U_ [.blk b2 28 B0,.blk cu 63 [.pointer none]] w_) ?_ fun jO=>?_
 rintro vl um ⟨gK,cu,fy,iZ,i7,j5,fN⟩
 refine zi ?_ ?_
 exact zu Z Z Z Z (fN.ldBA (j:=0) Z Z fy ZK zz (vs:=B0) Z Z) (fU _ _ ⟨gK,cu,fy,iZ,Z,i7,j5,fN⟩)
 refine OKS.makeMap Z Z Z Z Z fN ?_
 intro uo mG rJ
 have sv:=MpR.nil wDD wDV
 exact fT _ _ ⟨gK,cu,mG,#[],0,fy,iZ,rfl,i7,j5,(rJ.pick [1,2,0] _ (by decide) rfl),sv⟩
 refine zx (s:=gDn) (M:=fun σ_ w_=>∃ (U_:PHeap) (bR:Nat) (bS:Nat) (bW:Array MapEntry) (cx:Nat),σ_ 1=.pointer (some ⟨b2,0,none⟩)/\σ_ 3=.pointer (some ⟨bR,0,none⟩)/\σ_ 13=.map (some bS)/\PHeap.Le U U_/\sW w U U_ [.blk b2 28 B0,.blk bR 63 [.pointer none],.obj bS (.map bW cx)] w_/\MpR bW wDD wDV ([]:List (wAF × Int))) ?_ fun jP=>?_
 rintro vm l5 ⟨gL,bR,bS,bW,cx,fz,i8,i9,j6,fO,jo⟩
 refine zi ?_ ?_
 exact zu Z Z Z Z (fO.ldBA (j:=0) Z Z fz ZK zz (vs:=B0) Z Z) (fV _ _ ⟨gL,bR,bS,bW,cx,fz,i8,Z,i9,j6,fO,jo⟩)
 refine zH 0 Z Z Z Z (zG Z Z yG zM Z) fO (fun hs=>wBQ l5 gL hs bz) (.inr Z) ?_
 rintro gM tq uO l6 s7 rK ⟨rfl,rfl⟩
 have rL:sW w U gM [.blk b2 28 B0,.blk bR 63 [.pointer none],.obj bS (.map bW cx)] l6:=rK
 exact fT _ _ ⟨gM,bR,bS,bW,cx,fz,i8,i9,Z,(j6.trans s7),rL,jo⟩
 refine zx (s:=gDp) (M:=fun σ_ w_=>∃ (U_:PHeap) (bI:Nat) (cH:Array MapEntry) (dy:Nat),σ_ 1=.pointer (some ⟨b2,0,none⟩)/\σ_ 13=.map (some bI)/\σ_ 14=.agg #[jV x22.skier,jV x22.mat]/\PHeap.Le U U_/\sW w U U_ [.blk b2 28 B0,.obj bI (.map cH dy)] w_/\MpR cH wDD wDV ([]:List (wAF × Int))) ?_ fun jQ=>?_
 rintro vn up ⟨cU,bI,cH,dy,dJ,dK,dL,fZ,dR,fH⟩
 refine zi ?_ ?_
 exact zu Z Z Z Z (dR.ldBA (j:=0) Z Z dJ ZK zz (vs:=B0) Z Z) (fW _ _ ⟨cU,bI,cH,dy,dJ,Z,dK,dL,fZ,dR,fH⟩)
 refine zi ?_ ?_
 refine OKS.mapPut (x:=.tmp 13) (y:=.tmp 14) (j:=1) (mk:=wDD) (mv:=wDV) (a:=x22) (v:=0) rfl rfl rfl (by first | exact .inl rfl | exact .inr rfl) dR rfl dK dL rfl (wCM ZJ) wEY fH rfl ?_
 intro ik ic ma sw rM
 have rN:sW w U cU [.blk b2 28 B0,.obj bI (.map ik ic)] ma:=rM
 exact sJ _ _ ⟨cU,bI,ik,ic,dJ,dK,dL,fZ,rN,sw⟩
 refine zX (cs:=[.pointer none]) Z Z Z Z Z Zr Z dR ?_
 intro uq mH rO
 exact fT _ _ ⟨cU,mH,bI,cH,dy,dJ,rfl,dK,dL,fZ,(rO.pick [1,0,2] _ (by decide) rfl),fH⟩
 refine zx (s:=gDm) (M:=fun σ_ w_=>∃ (U_:PHeap) (bT:Nat),σ_ 1=.pointer (some ⟨b2,0,none⟩)/\σ_ 3=.pointer (some ⟨bT,0,none⟩)/\σ_ 12=.agg B0.toArray/\PHeap.Le U U_/\sW w U U_ [.blk b2 28 B0,.blk bT 63 [.pointer none]] w_) ?_ fun jR=>?_
 rintro vo mb ⟨gN,bT,ja,jb,jc,j7,jB⟩
 refine zi ?_ ?_
 refine OKS.makeMap Z Z Z Z Z jB ?_
 intro ur mI rP
 have sA:=MpR.nil wDD wDV
 exact fV _ _ ⟨gN,bT,mI,#[],0,ja,jb,jc,rfl,j7,(rP.pick [1,2,0] _ (by decide) rfl),sA⟩
 refine zH 0 Z Z Z Z (zG Z Z yG zM Z) jB (fun hs=>wBQ mb gN hs bz) (.inr Z) ?_
 rintro gO tr uP mc s8 rQ ⟨rfl,rfl⟩
 have pK:sW w U gO [.blk b2 28 B0,.blk bT 63 [.pointer none]] mc:=rQ
 exact fU _ _ ⟨gO,bT,ja,jb,jc,Z,(j7.trans s8),pK⟩
 refine zx (s:=gDl) (M:=fun σ_ w_=>∃ (U_:PHeap),σ_ 1=.pointer (some ⟨b2,0,none⟩)/\σ_ 12=.agg B0.toArray/\σ_ 14=.agg #[jV x22.skier,jV x22.mat]/\PHeap.Le U U_/\sW w U U_ [.blk b2 28 B0] w_) ?_ fun jJ=>?_
 rintro uT tu ⟨gv,il,im,io,jU,jp⟩
 refine zi ?_ ?_
 refine OKS.makeMap Z Z Z Z Z jp ?_
 intro tv md pL
 have sh:=MpR.nil wDD wDV
 exact fW _ _ ⟨gv,md,#[],0,il,im,rfl,io,jU,(pL.pick [1,0] _ (by decide) rfl),sh⟩
 refine zX (cs:=[.pointer none]) Z Z Z Z Z Zr Z jp ?_
 intro tw me pM
 exact fU _ _ ⟨gv,me,il,rfl,im,io,jU,(pM.pick [1,0] _ (by decide) rfl)⟩
 refine zx (s:=gDk) (M:=fun σ_ w_=>∃ (U_:PHeap) (bL:Nat) (bV:Array MapEntry) (cw:Nat),σ_ 1=.pointer (some ⟨b2,0,none⟩)/\σ_ 12=.agg B0.toArray/\σ_ 13=.map (some bL)/\PHeap.Le U U_/\sW w U U_ [.blk b2 28 B0,.obj bL (.map bV cw)] w_/\MpR bV wDD wDV ([]:List (wAF × Int))) ?_ fun jK=>?_
 rintro uU lv ⟨gw,bL,bV,cw,ip,iq,ir,jW,jq,jd⟩
 refine zi ?_ ?_
 refine zH 0 Z Z Z Z (zG Z Z yG zM Z) jq (fun hs=>wBQ lv gw hs bz) (.inr Z) ?_
 rintro gz td uG lw sK pN ⟨rfl,rfl⟩
 have pO:sW w U gz [.blk b2 28 B0,.obj bL (.map bV cw)] lw:=pN
 exact fW _ _ ⟨gz,bL,bV,cw,ip,iq,ir,Z,(jW.trans sK),pO,jd⟩
 refine zX (cs:=[.pointer none]) Z Z Z Z Z Zr Z jq ?_
 intro tz mf pP
 exact fV _ _ ⟨gw,mf,bL,bV,cw,ip,rfl,iq,ir,jW,(pP.pick [1,0,2] _ (by decide) rfl),jd⟩
 refine zi ?_ ?_
 refine zu Z Z Z Z (bB.ldBA (j:=0) Z Z Z ZK zz (vs:=B0) Z Z) (zi ?_ ?_)
 refine OKS.makeMap Z Z Z Z Z bB ?_
 intro tA mg pQ
 have sj:=MpR.nil wDD wDV
 exact jK _ _ ⟨U,mg,#[],0,rfl,rfl,rfl,(zK _),(pQ.pick [1,0] _ (by decide) rfl),sj⟩
 refine zi ?_ ?_
 refine zH 0 Z Z Z Z (zG Z Z yG zM Z) bB (fun hs=>wBQ gT U hs bz) (.inr Z) ?_
 rintro gA te uH lx sL pR ⟨rfl,rfl⟩
 have pS:sW w U gA [.blk b2 28 B0] lx:=pR
 exact jJ _ _ ⟨gA,Z,Z,Z,sL,pS⟩
 refine zX (cs:=[.pointer none]) Z Z Z Z Z Zr Z bB ?_
 intro tB mh pT
 exact jR _ _ ⟨U,mh,rfl,rfl,rfl,(zK _),(pT.pick [1,0] _ (by decide) rfl)⟩
 refine zi ?_ ?_
 refine OKS.makeMap Z Z Z Z Z bB ?_
 intro ly cV dO
 have fS:=MpR.nil wDD wDV
 refine zi ?_ ?_
 exact zu rfl rfl rfl rfl (dO.ldBA (j:=1) rfl rfl rfl ZK zz (vs:=B0) rfl rfl) (jK _ _ ⟨U,cV,#[],0,rfl,rfl,rfl,(zK _),(dO.pick [1,0] _ (by decide) rfl),fS⟩)
 refine zi ?_ ?_
 refine zH 0 Z Z Z Z (zG Z Z yG zM Z) dO (fun hs=>wBQ ly U hs bz) (.inr Z) ?_
 rintro gB tf uI lA sM pU ⟨rfl,rfl⟩
 have pV:sW w U gB [.obj cV (.map #[] 0),.blk b2 28 B0] lA:=pU
 exact jQ _ _ ⟨gB,cV,#[],0,rfl,rfl,rfl,sM,(pV.pick [1,0] _ (by decide) rfl),fS⟩
 refine zX (cs:=[.pointer none]) Z Z Z Z Z Zr Z dO ?_
 intro tC mi pW
 exact jP _ _ ⟨U,mi,cV,#[],0,rfl,rfl,rfl,(zK _),(pW.pick [2,0,1] _ (by decide) rfl),fS⟩
 refine zi ?_ ?_
 refine zH 0 Z Z Z Z (zG Z Z yG zM Z) bB (fun hs=>wBQ gT U hs bz) (.inr Z) ?_
 rintro cR tg uJ lB fY pX ⟨rfl,rfl⟩
 have dP:sW w U cR [.blk b2 28 B0] lB:=pX
 refine zi ?_ ?_
 exact zu Z Z Z Z (dP.ldBA (j:=0) Z Z Z ZK zz (vs:=B0) Z Z) (jJ _ _ ⟨cR,Z,Z,Z,fY,dP⟩)
 refine zi ?_ ?_
 refine OKS.makeMap Z Z Z Z Z dP ?_
 intro tD mj pY
 have sk:=MpR.nil wDD wDV
 exact jQ _ _ ⟨cR,mj,#[],0,rfl,rfl,rfl,fY,(pY.pick [1,0] _ (by decide) rfl),sk⟩
 refine zX (cs:=[.pointer none]) Z Z Z Z Z Zr Z dP ?_
 intro tE mn pZ
 exact jO _ _ ⟨cR,mn,rfl,rfl,rfl,fY,(pZ.pick [1,0] _ (by decide) rfl)⟩
 refine zX (cs:=[.pointer none]) Z Z Z Z Z Zr Z bB ?_
 intro lC cW dQ
 refine zi ?_ ?_
 exact zu rfl rfl rfl rfl (dQ.ldBA (j:=1) rfl rfl rfl ZK zz (vs:=B0) rfl rfl) (jR _ _ ⟨U,cW,rfl,rfl,rfl,(zK _),(dQ.pick [1,0] _ (by decide) rfl)⟩)
 refine zi ?_ ?_
 refine OKS.makeMap Z Z Z Z Z dQ ?_
 intro tF mo p6
 have sm:=MpR.nil wDD wDV
 exact jP _ _ ⟨U,cW,mo,#[],0,rfl,rfl,rfl,(zK _),(p6.pick [2,1,0] _ (by decide) rfl),sm⟩
 refine zH 0 Z Z Z Z (zG Z Z yG zM Z) dQ (fun hs=>wBQ lC U hs bz) (.inr Z) ?_
 rintro gC th uK lD sN p7 ⟨rfl,rfl⟩
 have p8:sW w U gC [.blk cW 63 [.pointer none],.blk b2 28 B0] lD:=p7
 exact jO _ _ ⟨gC,cW,rfl,rfl,rfl,sN,(p8.pick [1,0] _ (by decide) rfl)⟩
 rintro uV lE ⟨lf,b6,b8,ah,cy,dq,it,mL,dV,jr,o6⟩
 refine zN (sR (.fl 0 (.fx 1 .nil .stop)) Z (oL Z (jr.ldBA (j:=0) Z Z it ZK zz (vs:=B0) Z Z) ?_))
 have je:=rV.le dV
 have jf:=rW.le dV
 have jg:=rY.le dV
 have jh:=rZ.le dV
 have q:=bnd r9
 obtain ⟨⟨⟩,o7,jE⟩:=q
 try dsimp only at jE
 refine zH 0 Z Z Z Z (zG Z Z Tryz.call73 (zB Z zM) Z) jr (fun hs=>wGJ p0 ai ap aj aq ak au am av lE lf hs je jf jg jh o7) (.inr Z) ?_
 rintro gD tj uL lF dW p9 ⟨gW,rfl,rfl,o8⟩
 let B6:Res:=.blk b6 63 [.pointer (some ⟨b8,0,none⟩)]
 have qa:sW w U gD [.blk b2 28 B0,B6,.blk b8 97 [.slice ai p0.Starts.length ap,.slice aj p0.Splits.length aq,.slice ak p0.Clocks.length au,.slice am p0.Readings.length av,.map (some ah),.slice none 0 0],.obj ah (.map cy dq)] lF:=p9
 refine eN (zf (CK.fresh fun d7 dS=>?_))
 have mM:d7 1=.pointer (some ⟨b2,0,none⟩):=(dS 1).trans it
 have iu:d7 3=.pointer (some ⟨b6,0,none⟩):=(dS 3).trans mL
 have mN:d7 19=.func (.func 94) #[] #[.pointer (some ⟨gW,0,none⟩)]:=(dS 19).trans rfl
 clear dS
 have qb:=qa.nilrow 120 7
 refine bnK jE fun j9 r8 jG=>?_
 have fA:=je.le dW
 have fB:=jf.le dW
 have fC:=jg.le dW
 have fD:=jh.le dW
 refine CK.rangeY (S:=(List wAd) × (List (wAF × Int))) (E:=Empty) (ar:=wTB) (PY:=(fun (s_:(List wAd) × (List (wAF × Int))) (U_:PHeap) (L_:List Res)=>match s_ with | (l1591,l1595)=>∃ (bK:Option Addr) (bU:Nat) (br:Array MapEntry) (bt:Nat),L_=[.blk b2 28 B0,B6,.row bK bU 120 7 (nA wAZ l1591),.blk b8 97 [.slice ai p0.Starts.length ap,.slice aj p0.Splits.length aq,.slice ak p0.Clocks.length au,.slice am p0.Readings.length av,.map (some ah),.slice bK l1591.length bU],.obj ah (.map br bt)]/\MpR br wDD wDV l1595)) (PE:=(fun (_:Empty) _ _=>False)) (exO:=Empty.elim) (s0:=([],jS)) (rr:=j9) mN Tryz.call94 (qb.pick [1,2,0,3,4] _ (by decide) rfl) (by decide) (fun _ _ _ h=>by obtain rfl:=h;rfl) (fun e=>nomatch e) ⟨none,0,cy,dq,rfl,o6⟩ (fun l w1 L1 PY' PE' pJ pH rS=>wFX PY' PE' _ l _ p0 gW ai ap aj aq ak au am av w1 L1 gD pJ pH rS o8 fA fB fC fD r8) ?_ ?_
 rintro aX uF uB ⟨l1591,l1595⟩ az uQ uE dZ tl tc ga bb dX qc pI rX jC d5 bY
 obtain ⟨bK,bU,br,bt,rfl,o9⟩:=pI
 obtain rfl:=rX
 replace bY:∀ t,d5 t=upd d7 20 (.agg #[jV az.Kind,jV az.Skier,jV az.Index,.bool az.Up]) t:=bY
 have mO:d5 20=.agg #[jV az.Kind,jV az.Skier,jV az.Index,.bool az.Up]:=(bY 20).trans (wCq _ _ _)
 have iv:d5 1=.pointer (some ⟨b2,0,none⟩):=(bY 1).trans ((wDn _ _ (by decide)).trans mM)
 have mP:d5 3=.pointer (some ⟨b6,0,none⟩):=(bY 3).trans ((wDn _ _ (by decide)).trans iu)
 clear bY
 let B7:Res:=.blk b8 97 [.slice ai p0.Starts.length ap,.slice aj p0.Splits.length aq,.slice ak p0.Clocks.length au,.slice am p0.Readings.length av,.map (some ah),.slice bK l1591.length bU]
 let B8:Res:=.row bK bU 120 7 (nA wAZ l1591)
 have qd:St bb dZ [.obj aX ga,.blk b2 28 B0,B6,B8,B7,.obj ah (.map br bt)] tc:=qc
 try dsimp only at jC
 refine rR gBt Z (zX (cs:=[jV 0,jV 0,jV 0,.bool false]) Z Z Z Z Z Tryz.zeroValue118 Z qd ?_)
 intro tG aW qe
 let B9:List Value:=[jV az.Kind,jV az.Skier,jV az.Index,.bool az.Up]
 refine ze (j:=0) (vs:=B9) Z Z Z Z qe Z Z mO Z yB (zA Z) Z Z Z ?_
 intro lG qf
 have qh:St bb dZ [.blk aW 118 B9,.obj aX ga,.blk b2 28 B0,B6,B8,B7,.obj ah (.map br bt)] lG:=qf
 refine zd ⟨rfl,rfl,_,_,(qh.pick [1,0,2,3,4,5,6] [.obj aX ga,.blk aW 118 B9,.blk b2 28 B0,B6,B8,B7,.obj ah (.map br bt)] (by decide) rfl),fun gQ bi qi=>?_⟩
 have fJ:St bb dZ [.obj aX bi,.blk aW 118 B9,.blk b2 28 B0,B6,B8,B7,.obj ah (.map br bt)] gQ:=qi
 refine zf (sR (.fl 0 (.fl 1 (.fx 2 (wRu (.fx 7 (.fx 8 (.fx 9 (.fx 10 (.fl 11 .nil) .stop) .stop) .stop) .stop)) .stop))) Z (oL Z (fJ.ldBA (j:=2) Z Z iv ZK zz (vs:=B0) Z Z) (oL Z (fJ.ldBA (j:=1) Z Z Z yL yB (vs:=B9) Z Z) ?_)))
 have pe:=fA.le dX
 have pf:=fB.le dX
 have pg:=fC.le dX
 have ph:=fD.le dX
 have q:=bnd jC
 obtain ⟨⟨aY,aZ,bn⟩,pj,jH⟩:=q
 try dsimp only at jH
 refine zH 0 Z Z Z Z (zG Z Z Tryz.call74 (zB Z (zB Z zM)) Z) fJ (fun hs=>wGK p0 ai ap aj aq ak au am av az gQ dZ hs pe pf pg ph pj) (.inr Z) ?_
 rintro cg tm uM lH uC qj ⟨rfl,rfl⟩
 have qk:St bb cg [.obj aX bi,.blk aW 118 B9,.blk b2 28 B0,B6,B8,B7,.obj ah (.map br bt)] lH:=qj
 refine oM Z Z (oR Z (zk Z Z (v:=.agg #[jV aY.skier,jV aY.mat]) Z) (oR Z (zk Z Z (v:=.agg #[jV aZ.skier,jV aZ.mat]) Z) (oR Z (zk Z Z (v:=jV bn) Z) ?_)))
 let cQ:List Value:=[jV 0,jV 0]
 refine zX (cs:=cQ) Z Z Z Z Z zh Z qk ?_
 intro tH bj qm
 refine zX (cs:=cQ) Z Z Z Z Z zh Z qm ?_
 intro tI bk qn
 let ba:List Value:=[jV aY.skier,jV aY.mat]
 refine ze (j:=1) (vs:=ba) Z Z Z Z qn Z Z Z Z zF (zA Z) Z Z Z ?_
 intro lI qo
 have qp:St bb cg [.blk bk 68 cQ,.blk bj 68 ba,.obj aX bi,.blk aW 118 B9,.blk b2 28 B0,B6,B8,B7,.obj ah (.map br bt)] lI:=qo
 let bf:List Value:=[jV aZ.skier,jV aZ.mat]
 refine ze (j:=0) (vs:=bf) Z Z Z Z qp Z Z Z Z zF (zA Z) Z Z Z ?_
 intro lJ qq
 have fK:St bb cg [.blk bk 68 bf,.blk bj 68 ba,.obj aX bi,.blk aW 118 B9,.blk b2 28 B0,B6,B8,B7,.obj ah (.map br bt)] lJ:=qq
 refine oA Z Z (eN (zN (sR fL4 Z (oL Z (fK.ldBA (j:=1) Z Z Z zg zF (vs:=ba) Z Z) (oL Z (fK.ldBA (j:=0) Z Z Z zg zF (vs:=bf) Z Z) ?_)))))
 let ge:List Value:=[jV aY.skier,jV aY.mat,jV aZ.skier,jV aZ.mat]
 refine oR Z (Runs.buildA (pv:=[(0,.agg ba.toArray),(1,.agg bf.toArray)]) (z:=[jV 0,jV 0,jV 0,jV 0]) (cs:=ge) Z (wAC Z (wAC Z wAV)) Tryz.zeroValue152 Tryz.runUnderlying152 zF Z Z) (oM Z Z (eN (zf (bnK jH fun aV r6 sb=>?_))))
 have q:=wCe r6
 obtain ⟨fQ,r7⟩:=q
 replace fQ:=zO fQ
 refine CK.forN' (fun cL cM σ_ w_=>∃ (U_:PHeap) (cz:Array MapEntry) (dr:Nat),σ_ 31=jV (↑cL:Int)/\σ_ 1=.pointer (some ⟨b2,0,none⟩)/\σ_ 3=.pointer (some ⟨b6,0,none⟩)/\σ_ 4=.pointer (some ⟨aW,0,none⟩)/\σ_ 5=.pointer (some ⟨bj,0,none⟩)/\σ_ 6=.pointer (some ⟨bk,0,none⟩)/\σ_ 7=jV bn/\σ_ 30=.agg ge.toArray/\PHeap.Le cg U_/\St bb U_ [.blk bk 68 bf,.blk bj 68 ba,.obj aX bi,.blk aW 118 B9,.blk b2 28 B0,B6,B8,B7,.obj ah (.map cz dr)] w_/\MpR cz wDD wDV cM) r7 ?_ ?_ ?_
 exact ⟨cg,br,bt,Z,iv,mP,Z,Z,Z,Z,Z,(zK _),fK,o9⟩
 rintro cL cM uR uW tJ fP ⟨cS,cz,dr,dM,iw,cI,iz,iA,iB,iC,eZ,jX,qr,dN⟩ sC
 have gZ:Hid ((↑cL:Int) < 2):=zO (wBs fP)
 replace fP:=zO fP
 have jD:Hid (w64 ((↑cL:Int) + 1)=(↑(cL + 1):Int)):=zO (by have h1:=fQ.out;have h2:=gZ.out;rw [wAb] <;> omega)
 refine sR fL1 Z (oR Z (zP Z dM Z) (eN (zN (cT Z gZ (kN (zN (zf (sR (.fl 0 gBu) Z (bnK sC fun bZ fE sc=>oR Z (Runs.ixA (cs:=nA wHQ ([aY,aZ]:List wAF)) Z eZ dM Tryz.runUnderlying152 zF (wCC fE) (wCL fE) (wCd zg zF (wJF (sz:=2) (fun _=>Z) _ _ (wBB fE)))) (zX (cs:=cQ) Z Z Z Z Z zh Z qr ?_))))))))))
 intro tK gX qt
 let cb:List Value:=[jV bZ.skier,jV bZ.mat]
 refine ze (j:=0) (vs:=cb) Z Z Z Z qt Z Z Z Z zF (zA Z) Z Z Z ?_
 intro eH qu
 have qv:St bb cS [.blk gX 68 cb,.blk bk 68 bf,.blk bj 68 ba,.obj aX bi,.blk aW 118 B9,.blk b2 28 B0,B6,B8,B7,.obj ah (.map cz dr)] eH:=qu
 refine eN (zN (zt zq [1,3,3,1,1,1,3,3,3,3,3] wTW (by kernel_rfl) ?_))
 have bJ:=qv.drew
 generalize hw_W1729:({ eH with drawn:=eH.drawn + 1 }:World)=gR at bJ ⊢
 refine oL Z (bJ.ldB (j:=6) Z Z cI yS (v:=.pointer (some ⟨b8,0,none⟩)) Z) (oR Z (Ze Z Z) (oR Z (zJ Z Z ZP Z yA) (oL Z (bJ.ldB (j:=8) Z Z Z yE (v:=.map (some ah)) Z) (oL Z (bJ.ldBA (j:=0) Z Z Z zg zF (vs:=cb) Z Z) (oL Z (bJ.lookup2 (j:=9) (mk:=wDD) (mv:=wDV) (a:=bZ) (z:=0) Z Z Z Z (wCM ZJ) wEY ZC dN) (oM Z Z (oR Z (zk Z Z (v:=jV (wBE cM bZ 0)) Z) (oR Z (zk Z Z (v:=.bool (wIS cM bZ)) Z) (oA Z Z (oA Z Z (eN (sR fL2 Z (oM Z Z (oR Z (Zb Z Z) (eN (ifc sc ?_ ?_))))))))))))))))
 intro eI sd
 refine zn (nC eI.out) (ZS (zm (zI (rR fL2 Z (oR Z (Zc (zU Z dM Z) (congrArg (jV) jD.out)) (oM Z Z (zd ?_)))))))
 cases sd
 exact zI ⟨rfl,⟨cS,cz,dr,rfl,iw,cI,iz,iA,iB,iC,eZ,jX,(bJ.pick [1,2,3,4,5,6,7,8,9] _ (by decide) rfl),dN⟩⟩
 intro eI sf
 refine ZH (nF (eI.out)) (zt zq [1,3,3,1,1,1,3,3,1,1,0] (fC0_9 (.fx 10 .nil .stop)) (by kernel_rfl) ?_)
 have bA:=bJ.drew
 generalize hw_W1737:({ gR with drawn:=gR.drawn + 1 }:World)=tL at bA ⊢
 refine ZD rfl rfl rfl rfl (bA.ldB (j:=6) rfl rfl cI yS (v:=.pointer (some ⟨b8,0,none⟩)) rfl) rfl (zV rfl rfl rfl rfl (fun _=>Ze rfl rfl) (zV rfl rfl rfl rfl (fun _=>zJ rfl rfl ZP rfl yA) (ZD rfl rfl rfl rfl (bA.ldB (j:=8) rfl rfl rfl yE (v:=.map (some ah)) rfl) rfl (ZD rfl rfl rfl rfl (bA.ldBA (j:=0) rfl rfl rfl zg zF (vs:=cb) rfl rfl) rfl (ZD rfl rfl rfl rfl (bA.ldB (j:=6) rfl rfl cI yS (v:=.pointer (some ⟨b8,0,none⟩)) rfl) rfl (zV rfl rfl rfl rfl (fun _=>Ze rfl rfl) (zV rfl rfl rfl rfl (fun _=>zJ rfl rfl ZP rfl yA) (ZD rfl rfl rfl rfl (bA.ldB (j:=8) rfl rfl rfl yE (v:=.map (some ah)) rfl) rfl (ZD rfl rfl rfl rfl (bA.lenM (j:=9) (mk:=wDD) (mv:=wDV) rfl rfl rfl (wCM ZJ) dN) rfl (OKS.mapPut (x:=.tmp 48) (y:=.tmp 49) (z:=.tmp 54) (j:=9) (mk:=wDD) (mv:=wDV) (a:=bZ) (v:=(↑(cM.length):Int)) rfl rfl rfl (by first | exact .inl rfl | exact .inr rfl) bA rfl rfl rfl rfl (wCM ZJ) wEY dN rfl ?_))))))))))
 intro ie g6 lK sn qw
 have qx:St bb cS [.blk gX 68 cb,.blk bk 68 bf,.blk bj 68 ba,.obj aX bi,.blk aW 118 B9,.blk b2 28 B0,B6,B8,B7,.obj ah (.map ie g6)] lK:=qw
 refine zd (zm (zI (rR fL2 Z (oR Z (Zc (zU Z dM Z) (congrArg (jV) jD.out)) (oM Z Z (zd ?_))))))
 cases sf
 exact zI ⟨rfl,⟨cS,ie,g6,rfl,iw,cI,iz,iA,iB,iC,eZ,jX,(qx.pick [1,2,3,4,5,6,7,8,9] _ (by decide) rfl),sn⟩⟩
 rintro uX gS ⟨bv,bq,bp,o5,ut,bX,mQ,mR,mS,mT,uu,uD,qy,cJ⟩
 have mJ:Hid (¬ ((↑((2:Int) - 0).toNat:Int) < 2)):=zO (wBM)
 refine sR fL1 rfl (zV rfl rfl rfl rfl (fun _=>zP rfl o5 rfl) (eN (zN (cF Z mJ (ZX (zj (zj (ZN (zI (bnK sb fun bo fG fR=>zt zq [2,1,3,3,1,1,1,3,3,1,1,1,1,3,3,1,1,1,3,3,2,0,3,3,0] (wTd (.fx 0 (.fx 20 gCm .stop) (.fx 20 (.fx 0 gCm (.fx 21 (.fx 0 gCc .stop) .stop)) .stop))) (by kernel_rfl) ?_))))))))))
 have bh:=qy.drew
 generalize hw_W1786:({ gS with drawn:=gS.drawn + 1 }:World)=tM at bh ⊢
 refine oL Z (bh.ldB (j:=5) Z Z bX yS (v:=.pointer (some ⟨b8,0,none⟩)) Z) (oR Z (Ze Z Z) (oR Z (zJ Z Z ZP Z yd) (oL Z (bh.ldB (j:=7) Z Z Z Tryz.isAgg95 (v:=.slice bK l1591.length bU) Z) (oL Z (bh.ldBA (j:=3) Z Z mQ yL yB (vs:=B9) Z Z) (oL Z (bh.ldB (j:=5) Z Z bX yS (v:=.pointer (some ⟨b8,0,none⟩)) Z) (oR Z (Ze Z Z) (oR Z (zJ Z Z ZP Z yA) (oL Z (bh.ldB (j:=7) Z Z Z yE (v:=.map (some ah)) Z) (oL Z (bh.ldBA (j:=1) Z Z mR zg zF (vs:=ba) Z Z) (oL Z (bh.lookup1 (j:=8) (mk:=wDD) (mv:=wDV) (a:=aY) (z:=0) Z Z Z Z (wCM ZJ) wEY ZC cJ) (oL Z (bh.ldB (j:=5) Z Z bX yS (v:=.pointer (some ⟨b8,0,none⟩)) Z) (oR Z (Ze Z Z) (oR Z (zJ Z Z ZP Z yA) (oL Z (bh.ldB (j:=7) Z Z Z yE (v:=.map (some ah)) Z) (oL Z (bh.ldBA (j:=0) Z Z mS zg zF (vs:=bf) Z Z) (oL Z (bh.lookup1 (j:=8) (mk:=wDD) (mv:=wDV) (a:=aZ) (z:=0) Z Z Z Z (wCM ZJ) wEY ZC cJ) (oM Z mT ?_)))))))))))))))))
 let cd:List Value:=[jV az.Kind,jV az.Skier,jV az.Index,.bool az.Up,jV (wBE aV aY 0),jV (wBE aV aZ 0),jV bn]
 let eg:List Value:=[jV 0,jV 0,jV 0,.bool false,jV 0,jV 0,jV 0]
 refine oR Z (zw (pv:=[(0,.agg B9.toArray),(1,jV (wBE aV aY 0)),(2,jV (wBE aV aZ 0)),(3,jV bn)]) (z:=eg) (cs:=cd) Z (wAC Z (wAC Z (wAC Z (wAC Z wAV)))) Tryz.zeroValue120 wOW Z Z) (zi ?_ ?_)
 refine zu Z Z Z Z (bh.ldB (j:=5) Z Z bX yS (v:=.pointer (some ⟨b8,0,none⟩)) Z) (ZB (pv:=[(0,.agg cd.toArray)]) (zs:=eg) (cs:=cd) Z Z Z Z Z (wAC Z wAV) Tryz.runUnderlying95 Tryz.sizeOf120 Tryz.zeroValue120 Z Z Z Z Z bh ?_)
 intro lL mp qz
 let eh:Res:=.row (some ⟨mp,0,none⟩) 1 120 7 (nA wAZ [(⟨az,(wBE aV aY 0),(wBE aV aZ 0),bn⟩:wAd)])
 have jt:St bb bv [eh,.blk bk 68 bf,.blk bj 68 ba,.obj aX bi,.blk aW 118 B9,.blk b2 28 B0,B6,B8,B7,.obj ah (.map bq bp)] lL:=qz
 refine yD (j:=7) (enc:=wAZ) (xs:=l1591) (ys:=[(⟨az,(wBE aV aY 0),(wBE aV aZ 0),bn⟩:wAd)]) (zs:=bo) rfl rfl rfl rfl rfl Tryz.underlying95 wKm rfl rfl rfl rfl rfl rfl jt rfl rfl rfl (jt.srcR (j:=0) rfl (by decide) (wAE (f:=wAZ) (sz:=7) (fun _=>rfl) [(⟨az,(wBE aV aY 0),(wBE aV aZ 0),bn⟩:wAd)])) (fun _=>rfl) (fun _=>rfl) fG rfl ?_
 intro cN dk lM qA
 let gf:Res:=.row cN dk 120 7 (nA wAZ bo)
 have qB:St bb bv [eh,.blk bk 68 bf,.blk bj 68 ba,.obj aX bi,.blk aW 118 B9,.blk b2 28 B0,B6,gf,B7,.obj ah (.map bq bp)] lM:=qA
 refine oR Z (Ze Z Z) (oR Z (zJ Z Z ZP Z yd) (ze (j:=8) (vs:=[.slice cN bo.length dk]) Z Z Z Z qB Z Z Z Z yd (zA Z) Z Z Z ?_))
 intro lN qC
 have qD:St bb bv [eh,.blk bk 68 bf,.blk bj 68 ba,.obj aX bi,.blk aW 118 B9,.blk b2 28 B0,B6,gf,.blk b8 97 [.slice ai p0.Starts.length ap,.slice aj p0.Splits.length aq,.slice ak p0.Clocks.length au,.slice am p0.Readings.length av,.map (some ah),.slice cN bo.length dk],.obj ah (.map bq bp)] lN:=qC
 refine zd (zm ?_)
 have q:=nJ fR
 obtain rfl:=q
 exact ⟨_,_,(qD.pick [3,5,6,7,8,9] _ (by decide) rfl),rfl,⟨cN,dk,bq,bp,rfl,cJ⟩⟩
 refine ZB (pv:=[(0,.agg cd.toArray)]) (zs:=eg) (cs:=cd) Z Z Z Z Z (wAC Z wAV) Tryz.runUnderlying95 Tryz.sizeOf120 Tryz.zeroValue120 Z Z Z Z Z bh ?_
 intro lO mq qE
 let cf:Res:=.row (some ⟨mq,0,none⟩) 1 120 7 (nA wAZ [(⟨az,(wBE aV aY 0),(wBE aV aZ 0),bn⟩:wAd)])
 have cK:St bb bv [cf,.blk bk 68 bf,.blk bj 68 ba,.obj aX bi,.blk aW 118 B9,.blk b2 28 B0,B6,B8,B7,.obj ah (.map bq bp)] lO:=qE
 refine zi ?_ ?_
 refine zu rfl rfl rfl rfl (cK.ldB (j:=6) rfl rfl bX yS (v:=.pointer (some ⟨b8,0,none⟩)) rfl) (yD (j:=7) (enc:=wAZ) (xs:=l1591) (ys:=[(⟨az,(wBE aV aY 0),(wBE aV aZ 0),bn⟩:wAd)]) (zs:=bo) rfl rfl rfl rfl rfl Tryz.underlying95 wKm rfl rfl rfl rfl rfl rfl cK rfl rfl rfl (cK.srcR (j:=0) rfl (by decide) (wAE (f:=wAZ) (sz:=7) (fun _=>rfl) [(⟨az,(wBE aV aY 0),(wBE aV aZ 0),bn⟩:wAd)])) (fun _=>rfl) (fun _=>rfl) fG rfl ?_)
 intro cO dl lP qF
 let gh:Res:=.row cO dl 120 7 (nA wAZ bo)
 have qG:St bb bv [cf,.blk bk 68 bf,.blk bj 68 ba,.obj aX bi,.blk aW 118 B9,.blk b2 28 B0,B6,gh,B7,.obj ah (.map bq bp)] lP:=qF
 refine oR Z (Ze Z Z) (oR Z (zJ Z Z ZP Z yd) (ze (j:=8) (vs:=[.slice cO bo.length dl]) Z Z Z Z qG Z Z Z Z yd (zA Z) Z Z Z ?_))
 intro lQ qH
 have qI:St bb bv [cf,.blk bk 68 bf,.blk bj 68 ba,.obj aX bi,.blk aW 118 B9,.blk b2 28 B0,B6,gh,.blk b8 97 [.slice ai p0.Starts.length ap,.slice aj p0.Splits.length aq,.slice ak p0.Clocks.length au,.slice am p0.Readings.length av,.map (some ah),.slice cO bo.length dl],.obj ah (.map bq bp)] lQ:=qH
 refine zd (zm ?_)
 have q:=nJ fR
 obtain rfl:=q
 exact ⟨_,_,(qI.pick [3,5,6,7,8,9] _ (by decide) rfl),rfl,⟨cO,dl,bq,bp,rfl,cJ⟩⟩
 refine yD (j:=7) (enc:=wAZ) (xs:=l1591) (ys:=[(⟨az,(wBE aV aY 0),(wBE aV aZ 0),bn⟩:wAd)]) (zs:=bo) rfl rfl rfl rfl rfl Tryz.underlying95 wKm rfl rfl rfl rfl rfl rfl cK rfl rfl rfl (cK.srcR (j:=0) rfl (by decide) (wAE (f:=wAZ) (sz:=7) (fun _=>rfl) [(⟨az,(wBE aV aY 0),(wBE aV aZ 0),bn⟩:wAd)])) (fun _=>rfl) (fun _=>rfl) fG rfl ?_
 intro cP dm lR qJ
 let gi:Res:=.row cP dm 120 7 (nA wAZ bo)
 have ju:St bb bv [cf,.blk bk 68 bf,.blk bj 68 ba,.obj aX bi,.blk aW 118 B9,.blk b2 28 B0,B6,gi,B7,.obj ah (.map bq bp)] lR:=qJ
 refine zu Z Z Z Z (ju.ldB (j:=6) Z Z bX yS (v:=.pointer (some ⟨b8,0,none⟩)) Z) (oR Z (Ze Z Z) (oR Z (zJ Z Z ZP Z yd) (ze (j:=8) (vs:=[.slice cP bo.length dm]) Z Z Z Z ju Z Z Z Z yd (zA Z) Z Z Z ?_)))
 intro lS qK
 have qL:St bb bv [cf,.blk bk 68 bf,.blk bj 68 ba,.obj aX bi,.blk aW 118 B9,.blk b2 28 B0,B6,gi,.blk b8 97 [.slice ai p0.Starts.length ap,.slice aj p0.Splits.length aq,.slice ak p0.Clocks.length au,.slice am p0.Readings.length av,.map (some ah),.slice cP bo.length dm],.obj ah (.map bq bp)] lS:=qK
 refine zd (zm ?_)
 have q:=nJ fR
 obtain rfl:=q
 exact ⟨_,_,(qL.pick [3,5,6,7,8,9] _ (by decide) rfl),rfl,⟨cP,dm,bq,bp,rfl,cJ⟩⟩
 rintro j8 eD tn lT dY qM
 rcases j9 with ⟨k9,uS⟩ | mK
 try dsimp only at jG
 rintro ⟨d9,eJ,dz,dp,rfl,pk⟩
 let eu:Res:=.blk b8 97 [.slice ai p0.Starts.length ap,.slice aj p0.Splits.length aq,.slice ak p0.Clocks.length au,.slice am p0.Readings.length av,.map (some ah),.slice d9 k9.length eJ]
 let eA:Res:=.row d9 eJ 120 7 (nA wAZ k9)
 have jv:sW w U eD [.blk b2 28 B0,B6,eA,eu,.obj ah (.map dz dp),.obj j8 (.deferred (some []))] lT:=qM
 refine zm (zI (sR fL2 Z (oL Z (jv.ldB (j:=1) Z Z iu yS (v:=.pointer (some ⟨b8,0,none⟩)) Z) (oA Z Z (eN (zS ?_))))))
 have pm:=fA.le dY
 have pn:=fB.le dY
 have po:=fC.le dY
 have pp:=fD.le dY
 refine wQj (by first | exact .inl rfl | exact .inr rfl) (rbs:=[j8]) (L:=[.blk b2 28 B0,B6,eA,eu,.obj ah (.map dz dp)]) jv fun lU qN=>?_
 have qO:sW w U eD [.blk b2 28 B0,B6,eA,eu,.obj ah (.map dz dp)] lU:=qN
 cases jG
 exact ⟨_,(ZT rfl),eD,_,(qO.pick [3,4,2] _ (by decide) rfl),b8,ai,ap,aj,aq,ak,au,am,av,ah,dz,dp,d9,eJ,rfl,rfl,pm,pn,po,pp,pk⟩
 exact mK.elim
end Go.Proofs.YtkeeechdijfkhaaGreat
namespace Go.Proofs.YtkeeechdijfkhaaGreat
open Go.KL
set_option maxHeartbeats 4000000
theorem wJZ (p0:wAD) (ae:Option Addr) (ak:Nat) (ah:Option Addr) (am:Nat) (ai:Option Addr) (ap:Nat) (aj:Option Addr) (aq:Nat) (w:World) (U:PHeap) (hS:St0 w U []) (bq:Sl U 1 ae ak p0.Starts.length (nA KL.encI p0.Starts)) (br:Sl U 2 ah am p0.Splits.length (nA wAP p0.Splits)) (bt:Sl U 3 ai ap p0.Clocks.length (nA wAA p0.Clocks)) (bu:Sl U 4 aj aq p0.Readings.length (nA wAL p0.Readings)) {r:(Option wAr) × Int} (hm:wCn p0=some r):Gv Tryz.prog 29 [.agg #[.slice ae p0.Starts.length ak,.slice ah p0.Splits.length am,.slice ai p0.Clocks.length ap,.slice aj p0.Readings.length aq]] w (wCQ w [] U (fun U_ L_ v=>match r.1 with | none=>v=.tuple #[.pointer none,jV r.2]/\L_=[] | some d=>∃ (b0:Nat) (A0p00:Option Addr) (c0p00:Nat) (A0p01:Option Addr) (c0p01:Nat) (A0p02:Option Addr) (c0p02:Nat) (A0p03:Option Addr) (c0p03:Nat) (m0p1:Nat) (es0p1:Array MapEntry) (ck0p1:Nat) (A0p2:Option Addr) (c0p2:Nat),v=.tuple #[.pointer (some ⟨b0,0,none⟩),jV r.2]/\L_=[.blk b0 97 [.slice A0p00 d.Race.Starts.length c0p00,.slice A0p01 d.Race.Splits.length c0p01,.slice A0p02 d.Race.Clocks.length c0p02,.slice A0p03 d.Race.Readings.length c0p03,.map (some m0p1),.slice A0p2 d.edges.length c0p2],.obj m0p1 (.map es0p1 ck0p1),.row A0p2 c0p2 120 7 (nA wAZ d.edges)]/\Sl U_ 1 A0p00 c0p00 d.Race.Starts.length (nA KL.encI d.Race.Starts)/\Sl U_ 2 A0p01 c0p01 d.Race.Splits.length (nA wAP d.Race.Splits)/\Sl U_ 3 A0p02 c0p02 d.Race.Clocks.length (nA wAA d.Race.Clocks)/\Sl U_ 4 A0p03 c0p03 d.Race.Readings.length (nA wAL d.Race.Readings)/\MpR es0p1 wDD wDV d.number)):=by
 unfold wCn at hm
 refine Gv.of Tryz.func29 Z Tryz.ntmps29 Tryz.results29 Z (sR gCd Z ?_)
 let B0:List Value:=[.slice ae p0.Starts.length ak,.slice ah p0.Splits.length am,.slice ai p0.Clocks.length ap,.slice aj p0.Readings.length aq]
 refine ZG (cs:=B0) rfl rfl rfl rfl rfl rfl (by rfl) hS ?_
 intro W1 b2 bp
 refine oA Z Z (oA Z Z (eN (zN (sR (.fl 0 (.fx 1 (.fl 2 .nil) .stop)) Z (oL Z (bp.ldBA (j:=0) Z Z Z ZK zz (vs:=B0) Z Z) (bnK hm fun x5 h6 bQ=>zH 0 Z Z Z Z (zG Z Z Tryz.call42 (zB Z zM) Z) bp (fun hs=>wJY p0 ae ak ah am ai ap aj aq W1 U hs bq br bt bu h6) (.inr Z) ?_))))))
 rintro U8 L9 bU bb au bK ⟨rfl,rfl⟩
 have aU:sW w U U8 [.blk b2 28 B0] bb:=bK
 refine oA Z Z (eN (sR fL2 Z (oM Z Z (oR Z (yU Z Z Z) (eN (ifc bQ ?_ ?_))))))
 intro aS bN
 refine zn (ZL (fun h=>h aS.out)) (kN (sR gCn Z (oL Z (aU.ldBA (j:=0) Z Z Z ZK zz (vs:=B0) Z Z) ?_)))
 have bz:=bq.le au
 have bA:=br.le au
 have bB:=bt.le au
 have bC:=bu.le au
 refine bnK bN fun x21 bD bO=>zH 0 Z Z Z Z (zG Z Z Tryz.call43 (zB Z zM) Z) aU (fun hs=>wIj p0 ae ak ah am ai ap aj aq bb U8 hs bz bA bB bC bD) (.inr Z) ?_
 rintro ba bR bV bw bT bL ⟨bh,aW,bi,aX,bj,aY,bk,aZ,bm,aV,bo,bn,av,aT,rfl,rfl,bE,bF,bG,bH,bI⟩
 have bM:sW w U ba [.blk bh 97 [.slice aW x21.Race.Starts.length bi,.slice aX x21.Race.Splits.length bj,.slice aY x21.Race.Clocks.length bk,.slice aZ x21.Race.Readings.length bm,.map (some aV),.slice av x21.edges.length aT],.obj aV (.map bo bn),.row av aT 120 7 (nA wAZ x21.edges),.blk b2 28 B0] bw:=bL
 refine oA Z Z (oA Z Z (eN (zS ?_)))
 cases bO
 exact ⟨rfl,_,(wHd rfl rfl),ba,_,(bM.pick [0,1,2] _ (by decide) rfl),bh,aW,bi,aX,bj,aY,bk,aZ,bm,aV,bo,bn,av,aT,rfl,rfl,bE,bF,bG,bH,bI⟩
 intro aS bP
 refine cT Z aS (sR fL3 Z (oM Z Z (oA Z Z (oA Z Z (eN (zS (zW ?_)))))))
 cases bP
 exact ⟨rfl,_,(wHd rfl rfl),U8,_,(aU.pick [] _ (by decide) rfl),rfl,rfl⟩
theorem wCz (p0:List wAa) (au:Option Addr) (av:Nat) (p1:(wAa->Option Bool)) (az:Value) (w:World) (U:PHeap) (hS:St0 w U []) (bC:Sl U 2 au av p0.length (nA wDU p0)) (bD:FnOK Tryz.prog U az ar89 rr89 p1) {r:Bool} (hm:wAz p0 p1=some r):Gv Tryz.prog 30 [.slice au p0.length av,az] w (wCQ w [] U (fun U_ L_ v=>v=.bool r/\L_=[])):=by
 unfold wAz at hm
 refine Gv.of Tryz.func30 Z Tryz.ntmps30 Tryz.results30 Z (sR fL1 Z (oA Z Z (eN (zN (sR fL3 Z (oM Z Z (oR Z (ZU Z Z Tryz.runUnderlying86) (oM Z Z (eN (zf ?_))))))))))
 have q:=wCY hm
 obtain ⟨r3,ak⟩:=q
 have q:=wCh ak
 obtain ⟨ap,bG⟩:=q
 replace ap:=zO ap
 refine ya (fun k2 _ σ_ w_=>∃ (U_:PHeap),σ_ 9=jV (↑k2:Int)/\σ_ 1=az/\σ_ 7=.slice au p0.length av/\σ_ 8=jV (↑p0.length:Int)/\PHeap.Le U U_/\sW w U U_ [] w_) bG ?_ ?_ ?_
 exact ⟨U,Z,Z,Z,Z,(zK _),hS⟩
 rintro k2 ⟨⟩ cb cf W8 am ⟨bh,aj,aU,aV,aW,aq,aY⟩ bf bE
 try dsimp only at bf
 have aT:Hid ((↑k2:Int) < (↑p0.length:Int)):=zO (wBs am)
 replace am:=zO am
 have bH:Hid (w64 ((↑k2:Int) + 1)=(↑(k2 + 1):Int)):=zO (by have h1:=ap.out;have h2:=aT.out;rw [wAb] <;> omega)
 refine sR fL1 Z (oR Z (zP Z aj aW) (eN (zN (cT Z aT (kN (zN (zf (sR (.fl 0 (.fl 1 gBm)) Z (bnK bf fun x22 aX bI=>?_)))))))))
 have bq:=bC.le aq
 have q:=bq.el (fun _=>rfl) (wBB aX)
 obtain ⟨bT,bX,bu,bv⟩:=q
 refine oR Z (yQ Z aV bu aj Tryz.runUnderlying86 yM (wFk aX)) (oL Z (aY.ldCA (f:=0) bv Z Z Tryz.isAgg37 yM (us:=[jV x22.Skier,jV x22.Mat]) Z Z) (zX (cs:=[jV 0,jV 0]) Z Z Z Z Z Tryz.zeroValue37 Z aY ?_))
 intro bQ aS bw
 let B0:List Value:=[jV x22.Skier,jV x22.Mat]
 refine ze (j:=0) (vs:=B0) Z Z Z Z bw Z Z Z Z yM (zA Z) Z Z Z ?_
 intro bj bz
 have aZ:sW w U bh [.blk aS 37 B0] bj:=bz
 refine eN (sR gCo Z (oM Z aU (oL Z (aZ.ldBA (j:=0) Z Z Z Tryz.isAgg37 yM (vs:=B0) Z Z) (bnK bI fun x37 br bJ=>?_))))
 have bt:=bD.le aq
 refine yZ (a:=x22) Z Z Z Z Z Z (zB Z zM) aZ bt Z br ?_
 rintro ah bP bZ bk bN bA ⟨rfl,rfl⟩
 have ba:sW w U ah [.blk aS 37 B0] bk:=bA
 refine oR Z (Zb Z Z) (eN (ifc bJ ?_ ?_))
 intro ai bK
 refine zn (nC ai.out) (ZS (zm (zI (rR fL2 Z (oR Z (Zc (zU Z aj Z) (congrArg (jV) bH.out)) (oM Z Z (zd ?_)))))))
 have q:=nJ bK
 obtain rfl:=q
 exact zI ⟨rfl,_,rfl,⟨ah,rfl,aU,aV,aW,(aq.trans bN),(ba.pick [] _ (by decide) rfl)⟩⟩
 intro ai bL
 refine ZH (nF (ai.out)) (sR fL1 Z (oA Z Z (eN (zS (zo (zW ?_))))))
 have q:=wAe bL
 obtain ⟨bO,bM,bn⟩:=q
 have q:=wCA hm ak (bE bO bn)
 obtain rfl:=q
 refine zW (zo (zW ?_))
 have hE:=nJ bM;first | subst r | cases hE
 exact ⟨rfl,_,(ZT rfl),ah,_,(ba.pick [] _ (by decide) rfl),rfl,rfl⟩
 rintro ⟨⟩ cd bR ⟨bi,bp,bU,bV,bo,bW,bB⟩ bF
 have bb:=wDe hm ak bF
 try dsimp only at bb
 have bm:Hid (¬ ((↑(((↑p0.length:Int):Int) - 0).toNat:Int) < (↑p0.length:Int))):=zO (wBM)
 refine sR fL1 Z (oR Z (zP Z bp bo) (eN (zN (cF Z bm (ZX (zj (zj (ZN (zI (sR fL1 Z (oA Z Z (eN (zS ?_)))))))))))))
 have hE:=nJ bb;first | subst r | cases hE
 exact ⟨Z,_,(ZT Z),bi,_,bB,Z,Z⟩
theorem wHT (p0 p1:Int) (w:World) (U:PHeap) (hS:St0 w U []) {r:Int × Int} (hm:wCx p0 p1=some r):Gv Tryz.prog 75 [.int .u64 p0,.int .u64 p1] w (wCQ w [] U (fun U_ L_ v=>v=.tuple #[.int .u64 r.1,.int .u64 r.2]/\L_=[])):=by
 unfold wCx at hm
 split at hm
 rename_i h
 cases hm
 obtain ⟨x,rfl⟩:=nK h.1
 obtain ⟨y,rfl⟩:=nK h.2.2.1
 refine (Go.Proofs.Tryz.bits_Mul x y (by omega) (by omega) w).mono ?_
 rintro e w' ⟨rfl,rfl⟩
 refine ⟨_,Z,U,[],hS,?_,Z⟩
 simp
 cases hm
theorem wAj (p0:List Int) (aX:Option Addr) (aY:Nat) (p1:Int) (w:World) (U:PHeap) (hS:St0 w U []) (cf:Sl U 1 aX aY p0.length (nA KL.encI p0)) {r:(List Int)} (hm:wBA p0 p1=some r):Gv Tryz.prog 45 [.slice aX p0.length aY,jV p1] w (wCQ w [] U (fun U_ L_ v=>∃ (A0:Option Addr) (c0:Nat),v=.slice A0 r.length c0/\L_=[.row A0 c0 3 1 (nA KL.encI r)])):=by
 unfold wBA at hm
 refine Gv.of Tryz.func45 Z Tryz.ntmps45 Tryz.results45 Z (sR fL1 Z (oA Z Z (eN (zN (sR fL2 Z (oM Z Z (oR Z (zP Z Z Z) (eN ?_))))))))
 by_cases c1:p1 < 0
 have bq:=hm;rw [if_pos c1] at bq;replace c1:=zO c1
 refine cT Z c1 (rR gBt Z ?_)
 cases bq
 have bu:=hm;rw [if_neg c1] at bu;replace c1:=zO c1
 refine cF Z c1 (kN (sR (wDC (.fx 5 (wTg (.nil)) .stop)) Z (oM Z Z (oR Z (ZU Z Z zD) (oR Z (Runs.cv64 Z Z ZM Zd Z Z) (oM Z Z (oR Z (Runs.cv64 Z Z ZM Zd Z Z) ?_)))))))
 have q:=bnd bu
 obtain ⟨⟨x4,x5⟩,h6,bv⟩:=q
 try dsimp only at bv
 refine zH 0 Z Z Z Z (zG Z Z Tryz.call75 (zB Z (zB Z zM)) Z) hS (fun hs=>wHT (wAg (↑p0.length:Int)) (wAg p1) w U hs h6) (.inr Z) ?_
 rintro U8 L9 cN bF cC bW ⟨rfl,rfl⟩
 have bj:sW w U U8 [] bF:=bW
 refine oM Z Z (oR Z (zk Z Z (v:=.int .u64 x4) Z) (oR Z (zk Z Z (v:=.int .u64 x5) Z) (oA Z Z (oA Z Z (eN (zN (bnK bv fun bJ bB cr=>Zp (fun σ_ w_=>∃ (U_:PHeap),σ_ 0=.slice aX p0.length aY/\σ_ 6=.int .u64 x5/\σ_ 26=.bool bJ/\PHeap.Le U8 U_/\sW w U U_ [] w_) ?_ ?_)))))))
 refine rR fL6 Z (oM Z Z (oR Z (yN Z Z Z) (oM Z Z ?_)))
 by_cases ae:0 < x4
 have br:=bB;rw [if_pos ae] at br;replace ae:=zO ae
 refine oT Z ae (oT Z ae (oR Z (zY Z (ZY ae.out) Z) (zd ?_)))
 cases br
 exact zI ⟨Z,⟨U8,Z,Z,Z,(zK _),bj⟩⟩
 have bt:=bB;rw [if_neg ae] at bt;replace ae:=zO ae
 refine zL Z Z Z (wF Z ae) Z Z (rU Z (wF Z ae) (yN Z Z Z) (oR Z (zZ Z (ZL ae.out) Z) (zd ?_)))
 have q:=nJ bt
 obtain rfl:=q
 exact zI ⟨Z,⟨U8,Z,Z,Z,(zK _),bj⟩⟩
 rintro cP cJ ⟨aq,bL,bM,bh,cD,bX⟩
 refine ifc cr ?_ ?_
 intro aT ct
 refine ZH (bh.trans (congrArg nL aT.out)) (rR gBt Z ?_)
 cases ct
 intro aT cu
 refine zn (bh.trans (congrArg nL (nM.2 aT.out))) (kN (sR gCo Z (oM Z bM (oR Z (Runs.cvw Z Z Zd ZM Z Z) (bnK cu fun aa bN cw=>OKS.makeSlice (enc:=KL.encI) (z:=(0:Int)) (v:=jV 0) Z Z Z Z Z (wCM zD) wJX Z Z Z Z Z Z bN bX ?_)))))
 intro bG ab bY
 have bk:sW w U aq [.row (some ⟨ab,0,none⟩) aa.length 3 1 (nA KL.encI aa)] bG:=bY
 refine oA Z Z (eN (sR gCo Z (oM Z Z (oM Z bL ?_))))
 have bO:=cf.le cC
 have bP:=bO.le cD
 refine bnK cw fun aZ bQ cx=>OKS.copyM (j:=0) (f:=KL.encI) (m:=aa) (ys:=p0) (z:=aZ) (a:=0) (n:=aa.length) rfl rfl rfl rfl rfl rfl zD zC bk rfl (fun _=>rfl) (fun _=>rfl) rfl bQ rfl (by simp) (.inr (by simp)) rfl (bk.srcS bP) rfl ?_
 intro bH bZ bo
 have cb:sW w U aq [.row (some ⟨ab,0,none⟩) aa.length 3 1 (nA KL.encI aZ)] bH:=bZ
 refine oA Z Z (eN (zN (zf (yf (fun (ah,x59) σ_ w_=>∃ (U_:PHeap),σ_ 7=.slice (some ⟨ab,0,none⟩) ah.length aa.length/\σ_ 8=jV x59/\PHeap.Le aq U_/\sW w U U_ [.row (some ⟨ab,0,none⟩) aa.length 3 1 (nA KL.encI ah)] w_/\ah.length=aa.length) cx ?_ ?_))))
 exact ⟨aq,(Eq.trans (b:=(.slice (some ⟨ab,0,none⟩) aa.length aa.length:Value)) (c:=(.slice (some ⟨ab,0,none⟩) aZ.length aa.length:Value)) rfl (by rw [bo])),rfl,(zK _),cb,bo⟩
 rintro ⟨ah,x59⟩ cO cQ bf ⟨aS,am,av,cG,bm,bS⟩ aW cn
 try dsimp only at aW
 refine zN (sR fL4 Z (oM Z av (oM Z am (oR Z (ZU Z Z zD) (oR Z (zP Z Z Z) (eN ?_))))))
 by_cases aj:x59 < (↑ah.length:Int)
 have bw:=aW;rw [if_pos aj] at bw;replace aj:=zO aj
 refine cT Z aj (kN (zf (zt zq [3,3,3,3,3,3,3,0,3,3] (wJv gCe) (by kernel_rfl) ?_)))
 have ap:=bm.drew
 generalize hw_W76:({ bf with drawn:=bf.drawn + 1 }:World)=cK at ap ⊢
 refine oM Z av (oM Z am (oM Z av (bnK bw fun bE bT cy=>?_)))
 have q:=wMy bT
 obtain ⟨cg,cj,aU,cL,aV⟩:=q
 have bz:=ap.rowCap (j:=0) rfl (by decide) (wAE (f:=KL.encI) (sz:=1) (fun _=>rfl) ah)
 refine zV (v:=.slice (if aa.length=(x59:Int).toNat then (some ⟨ab,0,none⟩) else Option.map (fun q:Addr=>q.add ((x59:Int).toNat * 1)) ((some ⟨ab,0,none⟩):Option Addr)) bE.length (aa.length - (x59:Int).toNat)) rfl rfl rfl rfl (fun _=>Zc (Runs.slc (sz:=1) (a:=x59) (b:=(↑(ah.length):Int)) rfl rfl (.inl ⟨_,rfl,rfl⟩) (.inr ⟨rfl,rfl⟩) zD zC cg cj aU bz) (by rw [aV])) (zL rfl rfl rfl rfl rfl am (zL rfl rfl rfl rfl rfl av (bnK cy fun x86 bi cz=>?_)))
 have q:=wMy bi
 obtain ⟨ci,cm,cp,cM,cB⟩:=q
 have bA:=ap.rowCap (j:=0) rfl (by decide) (wAE (f:=KL.encI) (sz:=1) (fun _=>rfl) ah)
 refine zV (v:=.slice (if aa.length=(0:Int).toNat then (some ⟨ab,0,none⟩) else Option.map (fun q:Addr=>q.add ((0:Int).toNat * 1)) ((some ⟨ab,0,none⟩):Option Addr)) x86.length (aa.length - (0:Int).toNat)) rfl rfl rfl rfl (fun _=>Zc (Runs.slc (sz:=1) (a:=0) (b:=x59) rfl rfl (.inr ⟨rfl,rfl⟩) (.inl ⟨_,rfl,rfl⟩) zD zC ci cm cp bA) (by rw [cB])) (bnK cz fun ba bU cA=>OKS.copyM (j:=0) (f:=KL.encI) (m:=ah) (ys:=x86) (z:=ba) (a:=x59) (n:=bE.length) rfl rfl rfl rfl rfl rfl zD zC ap rfl (fun _=>rfl) (fun _=>rfl) rfl bU rfl (by have:=aV;have:=aU;omega) (cutA rfl (by have:=aV;have:=aU;have:=bz;omega)) rfl (ap.srcCut (f:=KL.encI) (j:=0) rfl (fun _=>rfl) rfl bi bA) rfl ?_)
 intro bI cd bn
 have bV:sW w U aS [.row (some ⟨ab,0,none⟩) aa.length 3 1 (nA KL.encI ba)] bI:=cd
 refine oR Z (zU Z Z Z) (oA Z Z (zd (zm ?_)))
 have q:=nJ cA
 obtain rfl:=q
 exact zI ⟨rfl,_,rfl,⟨aS,(Eq.trans (b:=(.slice (some ⟨ab,0,none⟩) ah.length aa.length:Value)) (c:=(.slice (some ⟨ab,0,none⟩) ba.length aa.length:Value)) am (by rw [bn])),rfl,cG,bV,(bn.trans bS)⟩⟩
 have bp:=aW;rw [if_neg aj] at bp;replace aj:=zO aj
 refine cF Z aj (ZX (zj ?_))
 have q:=wAe bp
 obtain ⟨cH,cq,bK⟩:=q
 have q:=cn cH bK
 obtain rfl:=q
 refine zj (ZN (zI (sR fL2 Z (oM Z am (oA Z Z (eN (zS ?_)))))))
 have hE:=nJ cq;first | subst r | cases hE
 exact ⟨Z,_,(ZT Z),aS,_,bm,(some ⟨ab,0,none⟩),aa.length,Z,Z⟩
theorem wBk (p0:wAr) (aj:Nat) (dM:Option Addr) (dQ:Nat) (dN:Option Addr) (dR:Nat) (dO:Option Addr) (dS:Nat) (dP:Option Addr) (dT:Nat) (aa:Nat) (ae:Array MapEntry) (ah:Nat) (bv:Option Addr) (bw:Nat) (p1:Int) (p2:Bool) (w:World) (U:PHeap) (hS:St0 w U [.blk aj 97 [.slice dM p0.Race.Starts.length dQ,.slice dN p0.Race.Splits.length dR,.slice dO p0.Race.Clocks.length dS,.slice dP p0.Race.Readings.length dT,.map (some aa),.slice bv p0.edges.length bw],.obj aa (.map ae ah)]) (Bd:Sl U 1 dM dQ p0.Race.Starts.length (nA KL.encI p0.Race.Starts)) (Be:Sl U 2 dN dR p0.Race.Splits.length (nA wAP p0.Race.Splits)) (Bf:Sl U 3 dO dS p0.Race.Clocks.length (nA wAA p0.Race.Clocks)) (Bg:Sl U 4 dP dT p0.Race.Readings.length (nA wAL p0.Race.Readings)) (cX:MpR ae wDD wDV p0.number) (wD:Sl U 7 bv bw p0.edges.length (nA wAZ p0.edges)) {r:wCm × Int × Bool} (hm:wAs p0 p1 p2=some r):Gv Tryz.prog 33 [.pointer (some ⟨aj,0,none⟩),jV p1,.bool p2] w (wCQ w [.blk aj 97 [.slice dM p0.Race.Starts.length dQ,.slice dN p0.Race.Splits.length dR,.slice dO p0.Race.Clocks.length dS,.slice dP p0.Race.Readings.length dT,.map (some aa),.slice bv p0.edges.length bw],.obj aa (.map ae ah)] U (fun U_ L_ v=>∃ (gO:Option Addr) (jj:Nat) (gP:Option Addr) (jk:Nat),v=.tuple #[.agg #[.slice gO r.1.far.length jj,.slice gP r.1.by_.length jk],jV r.2.1,.bool r.2.2]/\L_=[.row gO jj 3 1 (nA KL.encI r.1.far),.row gP jk 3 1 (nA KL.encI r.1.by_),.blk aj 97 [.slice dM p0.Race.Starts.length dQ,.slice dN p0.Race.Splits.length dR,.slice dO p0.Race.Clocks.length dS,.slice dP p0.Race.Readings.length dT,.map (some aa),.slice bv p0.edges.length bw],.obj aa (.map ae ah)])):=by
 unfold wAs at hm
 refine Gv.of Tryz.func33 Z Tryz.ntmps33 Tryz.results33 Z (sR gCd Z ?_)
 let B0:List Value:=[.slice none 0 0,.slice none 0 0]
 refine zX (cs:=B0) Z Z Z Z Z Zf Z hS ?_
 intro W3 b4 vR
 refine oA Z Z (oA Z Z (eN ?_))
 have q:=bnd hm
 obtain ⟨⟨l9,bD⟩,xG,mM⟩:=q
 try dsimp only at mM
 let B1:Res:=.blk aj 97 [.slice dM p0.Race.Starts.length dQ,.slice dN p0.Race.Splits.length dR,.slice dO p0.Race.Clocks.length dS,.slice dP p0.Race.Readings.length dT,.map (some aa),.slice bv p0.edges.length bw]
 refine Zp (fun σ_ w_=>∃ (U_:PHeap) (b8:Nat) (au:Option Addr) (av:Nat) (az:Option Addr) (aS:Nat),σ_ 0=.pointer (some ⟨aj,0,none⟩)/\σ_ 1=jV p1/\σ_ 2=.bool p2/\σ_ 6=.pointer (some ⟨b4,0,none⟩)/\σ_ 9=.pointer (some ⟨b8,0,none⟩)/\PHeap.Le U U_/\SW w [B1,.obj aa (.map ae ah)] U U_ [.blk b4 91 B0,B1,.obj aa (.map ae ah),.blk b8 91 [.slice au l9.length av,.slice az bD.length aS],.row au av 3 1 (nA KL.encI l9),.row az aS 3 1 (nA KL.encI bD)] w_) ?_ ?_
 refine bnK xG fun x28 fh xB=>bnK xB fun bb fj xC=>zt zq [2,3,3,3,1,1,2,2,3,3,3,1,1,2,3,2,0] (fC1_5 (wJx (.fx 0 (.fx 6 (.fl 12 (.fx 7 gCw (.fx 15 gCp .stop))) (.fx 7 gDh (.fx 15 gDi .stop))) (.fx 7 (.fx 0 gDh (.fx 15 gDb .stop)) (.fx 15 (.fx 0 gDi (.fx 7 gDb .stop)) .stop))))) (by kernel_rfl) ?_
 have cq:=vR.drew
 generalize hw_W74:({ W3 with drawn:=W3.drawn + 1 }:World)=Aq at cq ⊢
 refine zx (s:=.nil) (M:=fun σ_ w_=>∃ (U_:PHeap) (eI:Nat) (cu:Option Addr) (cK:Nat) (cw:Option Addr) (cL:Nat) (fw:Option Addr) (fO:Nat) (fy:Option Addr) (fP:Nat),σ_ 0=.pointer (some ⟨aj,0,none⟩)/\σ_ 1=jV p1/\σ_ 2=.bool p2/\σ_ 6=.pointer (some ⟨b4,0,none⟩)/\σ_ 9=.pointer (some ⟨eI,0,none⟩)/\σ_ 16=.slice fw ([1125899906842624].length) fO/\σ_ 17=.pointer (some ⟨aj,0,none⟩)/\σ_ 18=.pointer (some ⟨aj,0,none⟩)/\σ_ 19=.pointer (some ⟨aj,4,none⟩)/\σ_ 20=.map (some aa)/\σ_ 21=jV (↑(p0.number.length):Int)/\σ_ 22=.slice cu x28.length cK/\σ_ 23=.slice fy ([-1].length) fP/\σ_ 24=.pointer (some ⟨aj,0,none⟩)/\σ_ 25=.pointer (some ⟨aj,0,none⟩)/\σ_ 26=.pointer (some ⟨aj,4,none⟩)/\σ_ 27=.map (some aa)/\σ_ 28=jV (↑(p0.number.length):Int)/\σ_ 29=.slice cw bb.length cL/\σ_ 30=.agg #[.slice cu x28.length cK,.slice cw bb.length cL]/\PHeap.Le U U_/\SW w [B1,.obj aa (.map ae ah)] U U_ [.blk b4 91 B0,B1,.obj aa (.map ae ah),.blk eI 91 [.slice cu x28.length cK,.slice cw bb.length cL],.row cu cK 3 1 (nA KL.encI x28),.row cw cL 3 1 (nA KL.encI bb)] w_/\Sl U_ 1 fw fO [1125899906842624].length (nA KL.encI [1125899906842624])/\Sl U_ 1 fy fP [-1].length (nA KL.encI [-1])) ?_ fun mZ=>?_
 rintro BI Al ⟨oy,eI,cu,cK,cw,cL,fw,fO,fy,fP,qF,qG,qH,qI,qJ,AP,AQ,AS,AT,AU,AW,AX,AY,AZ,A3,A4,A5,A6,A7,A8,xT,vP,Bb,Bc⟩
 refine zd ?_
 cases xC
 exact zI ⟨Z,⟨oy,eI,cu,cK,cw,cL,qF,qG,qH,qI,qJ,xT,vP⟩⟩
 refine zx (s:=.fx 16 .nil .stop) (M:=fun σ_ w_=>∃ (U_:PHeap) (dt:Nat) (dV:Option Addr) (eK:Nat) (bQ:Option Addr) (cb:Nat) (dW:Option Addr) (eL:Nat) (bR:Option Addr) (cd:Nat),σ_ 0=.pointer (some ⟨aj,0,none⟩)/\σ_ 1=jV p1/\σ_ 2=.bool p2/\σ_ 6=.pointer (some ⟨b4,0,none⟩)/\σ_ 9=.pointer (some ⟨dt,0,none⟩)/\σ_ 16=.slice dV ([1125899906842624].length) eK/\σ_ 17=.pointer (some ⟨aj,0,none⟩)/\σ_ 18=.pointer (some ⟨aj,0,none⟩)/\σ_ 19=.pointer (some ⟨aj,4,none⟩)/\σ_ 20=.map (some aa)/\σ_ 21=jV (↑(p0.number.length):Int)/\σ_ 22=.slice bQ x28.length cb/\σ_ 23=.slice dW ([-1].length) eL/\σ_ 24=.pointer (some ⟨aj,0,none⟩)/\σ_ 25=.pointer (some ⟨aj,0,none⟩)/\σ_ 26=.pointer (some ⟨aj,4,none⟩)/\σ_ 27=.map (some aa)/\σ_ 28=jV (↑(p0.number.length):Int)/\σ_ 29=.slice bR bb.length cd/\σ_ 30=.agg #[.slice bQ x28.length cb,.slice bR bb.length cd]/\PHeap.Le U U_/\SW w [B1,.obj aa (.map ae ah)] U U_ [.blk b4 91 B0,B1,.obj aa (.map ae ah),.blk dt 91 B0,.row bQ cb 3 1 (nA KL.encI x28),.row bR cd 3 1 (nA KL.encI bb)] w_/\Sl U_ 1 dV eK [1125899906842624].length (nA KL.encI [1125899906842624])/\Sl U_ 1 dW eL [-1].length (nA KL.encI [-1])) ?_ fun xH=>?_
 rintro BJ Am ⟨it,dt,dV,eK,bQ,cb,dW,eL,bR,cd,qK,qL,qM,qN,lg,qO,qP,qQ,qR,qS,qT,qU,qV,qW,qX,qY,qZ,rc,re,lh,xU,vQ,ue,uf⟩
 let B2:List Value:=[.slice bQ x28.length cb,.slice bR bb.length cd]
 refine ze (j:=3) (vs:=B2) Z Z Z Z vQ Z lg lh Z Zw (zA Z) Z Z Z ?_
 intro o8 vS
 have vT:SW w [B1,.obj aa (.map ae ah)] U it [.blk b4 91 B0,B1,.obj aa (.map ae ah),.blk dt 91 B2,.row bQ cb 3 1 (nA KL.encI x28),.row bR cd 3 1 (nA KL.encI bb)] o8:=vS
 exact mZ _ _ ⟨it,dt,bQ,cb,bR,cd,dV,eK,dW,eL,qK,qL,qM,qN,lg,qO,qP,qQ,qR,qS,qT,qU,qV,qW,qX,qY,qZ,rc,re,lh,xU,vT,ue,uf⟩
 refine zx (s:=gBw) (M:=fun σ_ w_=>∃ (U_:PHeap) (du:Nat) (dX:Option Addr) (eM:Nat) (bS:Option Addr) (cf:Nat) (dY:Option Addr) (eO:Nat) (bT:Option Addr) (cg:Nat),σ_ 0=.pointer (some ⟨aj,0,none⟩)/\σ_ 1=jV p1/\σ_ 2=.bool p2/\σ_ 6=.pointer (some ⟨b4,0,none⟩)/\σ_ 9=.pointer (some ⟨du,0,none⟩)/\σ_ 16=.slice dX ([1125899906842624].length) eM/\σ_ 17=.pointer (some ⟨aj,0,none⟩)/\σ_ 18=.pointer (some ⟨aj,0,none⟩)/\σ_ 19=.pointer (some ⟨aj,4,none⟩)/\σ_ 20=.map (some aa)/\σ_ 21=jV (↑(p0.number.length):Int)/\σ_ 22=.slice bS x28.length cf/\σ_ 23=.slice dY ([-1].length) eO/\σ_ 24=.pointer (some ⟨aj,0,none⟩)/\σ_ 25=.pointer (some ⟨aj,0,none⟩)/\σ_ 26=.pointer (some ⟨aj,4,none⟩)/\σ_ 27=.map (some aa)/\σ_ 28=jV (↑(p0.number.length):Int)/\σ_ 29=.slice bT bb.length cg/\PHeap.Le U U_/\SW w [B1,.obj aa (.map ae ah)] U U_ [.blk b4 91 B0,B1,.obj aa (.map ae ah),.blk du 91 B0,.row bS cf 3 1 (nA KL.encI x28),.row bT cg 3 1 (nA KL.encI bb)] w_/\Sl U_ 1 dX eM [1125899906842624].length (nA KL.encI [1125899906842624])/\Sl U_ 1 dY eO [-1].length (nA KL.encI [-1])) ?_ fun m4=>?_
 rintro BK An ⟨iu,du,dX,eM,bS,cf,dY,eO,bT,cg,ri,rj,rk,rn,li,ro,rp,rq,rx,ry,rA,lj,rB,rC,rD,rE,rF,rG,lm,xV,vU,ug,uh⟩
 let B3:List Value:=[.slice bS x28.length cf,.slice bT bb.length cg]
 refine oR Z (zw (pv:=[(0,.slice bS x28.length cf),(1,.slice bT bb.length cg)]) (z:=B0) (cs:=B3) Z (wAC lj (wAC lm wAV)) Zf wLh Z Z) (ze (j:=3) (vs:=B3) Z Z Z Z vU Z li Z Z Zw (zA Z) Z Z Z ?_)
 intro o9 vV
 have vW:SW w [B1,.obj aa (.map ae ah)] U iu [.blk b4 91 B0,B1,.obj aa (.map ae ah),.blk du 91 B3,.row bS cf 3 1 (nA KL.encI x28),.row bT cg 3 1 (nA KL.encI bb)] o9:=vV
 exact mZ _ _ ⟨iu,du,bS,cf,bT,cg,dX,eM,dY,eO,ri,rj,rk,rn,li,ro,rp,rq,rx,ry,rA,lj,rB,rC,rD,rE,rF,rG,lm,Z,xV,vW,ug,uh⟩
 refine zx (s:=gCg) (M:=fun σ_ w_=>∃ (U_:PHeap) (cD:Nat) (dZ:Option Addr) (eQ:Nat) (cZ:Option Addr) (dx:Nat) (da:Option Addr) (dy:Nat),σ_ 0=.pointer (some ⟨aj,0,none⟩)/\σ_ 1=jV p1/\σ_ 2=.bool p2/\σ_ 6=.pointer (some ⟨b4,0,none⟩)/\σ_ 9=.pointer (some ⟨cD,0,none⟩)/\σ_ 16=.slice dZ ([1125899906842624].length) eQ/\σ_ 17=.pointer (some ⟨aj,0,none⟩)/\σ_ 18=.pointer (some ⟨aj,0,none⟩)/\σ_ 19=.pointer (some ⟨aj,4,none⟩)/\σ_ 20=.map (some aa)/\σ_ 21=jV (↑(p0.number.length):Int)/\σ_ 22=.slice cZ x28.length dx/\σ_ 23=.slice da ([-1].length) dy/\σ_ 24=.pointer (some ⟨aj,0,none⟩)/\σ_ 25=.pointer (some ⟨aj,0,none⟩)/\σ_ 26=.pointer (some ⟨aj,4,none⟩)/\σ_ 27=.map (some aa)/\σ_ 28=jV (↑(p0.number.length):Int)/\PHeap.Le U U_/\SW w [B1,.obj aa (.map ae ah)] U U_ [.blk b4 91 B0,B1,.obj aa (.map ae ah),.blk cD 91 B0,.row cZ dx 3 1 (nA KL.encI x28),.row da dy 3 1 (nA KL.encI [-1])] w_/\Sl U_ 1 dZ eQ [1125899906842624].length (nA KL.encI [1125899906842624])) ?_ fun fq=>?_
 rintro BL iY ⟨yw,cD,dZ,eQ,cZ,dx,da,dy,rH,rI,rJ,rK,rL,rM,rN,rO,rP,rQ,rS,rV,ln,rW,rX,rY,rZ,lp,xW,vX,ui⟩
 have q:=vX.freezeR (k:=5) (n:=[-1].length) rfl (wAE (f:=KL.encI) (sz:=1) (fun _=>rfl) [-1]) (by decide)
 obtain ⟨iv,n9,mQ,vY⟩:=q
 let B4:Res:=.row cZ dx 3 1 (nA KL.encI x28)
 have vZ:SW w [B1,.obj aa (.map ae ah)] U iv [.blk b4 91 B0,B1,.obj aa (.map ae ah),.blk cD 91 B0,B4] iY:=vY
 refine zH 0 Z Z Z Z (zG Z Z Tryz.call45 (zB ln (zB lp zM)) Z) vZ (fun hs=>wAj [-1] da dy (↑(p0.number.length):Int) iY iv hs mQ fj) (.inr Z) ?_
 rintro iw yr Bo pe gL wa ⟨gT,jt,rfl,rfl⟩
 have wb:SW w [B1,.obj aa (.map ae ah)] U iw [.row gT jt 3 1 (nA KL.encI bb),.blk b4 91 B0,B1,.obj aa (.map ae ah),.blk cD 91 B0,B4] pe:=wa
 have uj:=ui.le n9
 have uk:=uj.le gL
 have ul:=mQ.le gL
 exact m4 _ _ ⟨iw,cD,dZ,eQ,cZ,dx,da,dy,gT,jt,rH,rI,rJ,rK,rL,rM,rN,rO,rP,rQ,rS,rV,ln,rW,rX,rY,rZ,lp,rfl,((xW.trans n9).trans gL),(wb.pick [1,2,3,4,5,0] _ (by decide) rfl),uk,ul⟩
 refine zx (s:=gCf) (M:=fun σ_ w_=>∃ (U_:PHeap) (d5:Option Addr) (eU:Nat) (cx:Option Addr) (cM:Nat) (d7:Option Addr) (eV:Nat) (cy:Option Addr) (cN:Nat),σ_ 0=.pointer (some ⟨aj,0,none⟩)/\σ_ 1=jV p1/\σ_ 2=.bool p2/\σ_ 6=.pointer (some ⟨b4,0,none⟩)/\σ_ 16=.slice d5 ([1125899906842624].length) eU/\σ_ 17=.pointer (some ⟨aj,0,none⟩)/\σ_ 18=.pointer (some ⟨aj,0,none⟩)/\σ_ 19=.pointer (some ⟨aj,4,none⟩)/\σ_ 20=.map (some aa)/\σ_ 21=jV (↑(p0.number.length):Int)/\σ_ 22=.slice cx x28.length cM/\σ_ 23=.slice d7 ([-1].length) eV/\σ_ 24=.pointer (some ⟨aj,0,none⟩)/\σ_ 25=.pointer (some ⟨aj,0,none⟩)/\σ_ 26=.pointer (some ⟨aj,4,none⟩)/\σ_ 27=.map (some aa)/\σ_ 28=jV (↑(p0.number.length):Int)/\σ_ 29=.slice cy bb.length cN/\PHeap.Le U U_/\SW w [B1,.obj aa (.map ae ah)] U U_ [.blk b4 91 B0,B1,.obj aa (.map ae ah),.row cx cM 3 1 (nA KL.encI x28),.row cy cN 3 1 (nA KL.encI bb)] w_/\Sl U_ 1 d5 eU [1125899906842624].length (nA KL.encI [1125899906842624])/\Sl U_ 1 d7 eV [-1].length (nA KL.encI [-1])) ?_ fun m5=>?_
 rintro BM Ao ⟨oz,d5,eU,cx,cM,d7,eV,cy,cN,r6,r7,r8,r9,sb,sc,sd,sf,sg,sh,lq,sj,sk,sm,sn,so,sq,lu,xX,wc,um,uo⟩
 refine oR Z (zw (pv:=[(0,.slice cx x28.length cM),(1,.slice cy bb.length cN)]) (z:=B0) (cs:=[.slice cx x28.length cM,.slice cy bb.length cN]) Z (wAC lq (wAC lu wAV)) Zf wLh Z Z) (zX (cs:=B0) Z Z Z Z Z Zf Z wc ?_)
 intro Ap pq wd
 exact xH _ _ ⟨oz,pq,d5,eU,cx,cM,d7,eV,cy,cN,r6,r7,r8,r9,rfl,sb,sc,sd,sf,sg,sh,lq,sj,sk,sm,sn,so,sq,lu,rfl,xX,(wd.pick [1,2,3,0,4,5] _ (by decide) rfl),um,uo⟩
 refine zx (s:=.fl 12 gCg) (M:=fun σ_ w_=>∃ (U_:PHeap) (cG:Nat) (d9:Option Addr) (eW:Nat) (db:Option Addr) (dz:Nat) (de:Option Addr) (dA:Nat),σ_ 0=.pointer (some ⟨aj,0,none⟩)/\σ_ 1=jV p1/\σ_ 2=.bool p2/\σ_ 6=.pointer (some ⟨b4,0,none⟩)/\σ_ 9=.pointer (some ⟨cG,0,none⟩)/\σ_ 16=.slice d9 ([1125899906842624].length) eW/\σ_ 17=.pointer (some ⟨aj,0,none⟩)/\σ_ 18=.pointer (some ⟨aj,0,none⟩)/\σ_ 19=.pointer (some ⟨aj,4,none⟩)/\σ_ 20=.map (some aa)/\σ_ 21=jV (↑(p0.number.length):Int)/\σ_ 22=.slice db x28.length dz/\σ_ 23=.slice de ([-1].length) dA/\σ_ 24=.pointer (some ⟨aj,0,none⟩)/\σ_ 25=.pointer (some ⟨aj,0,none⟩)/\σ_ 26=.pointer (some ⟨aj,4,none⟩)/\σ_ 27=.map (some aa)/\PHeap.Le U U_/\SW w [B1,.obj aa (.map ae ah)] U U_ [.blk b4 91 B0,B1,.obj aa (.map ae ah),.blk cG 91 B0,.row db dz 3 1 (nA KL.encI x28),.row de dA 3 1 (nA KL.encI [-1])] w_/\Sl U_ 1 d9 eW [1125899906842624].length (nA KL.encI [1125899906842624])) ?_ fun xI=>?_
 rintro BN iZ ⟨yy,cG,d9,eW,db,dz,de,dA,ss,su,sv,sw,sA,sB,sC,sD,sE,sF,sG,sH,lv,sI,sJ,sK,lw,xY,mB,up⟩
 refine oL Z (mB.lenM (j:=2) (mk:=wDD) (mv:=wDV) Z Z lw (wCM ZJ) cX) ?_
 have q:=mB.freezeR (k:=5) (n:=[-1].length) rfl (wAE (f:=KL.encI) (sz:=1) (fun _=>rfl) [-1]) (by decide)
 obtain ⟨iz,oa,mR,we⟩:=q
 let B5:Res:=.row db dz 3 1 (nA KL.encI x28)
 have wg:SW w [B1,.obj aa (.map ae ah)] U iz [.blk b4 91 B0,B1,.obj aa (.map ae ah),.blk cG 91 B0,B5] iZ:=we
 refine zH 0 Z Z Z Z (zG Z Z Tryz.call45 (zB lv (zB Z zM)) Z) wg (fun hs=>wAj [-1] de dA (↑(p0.number.length):Int) iZ iz hs mR fj) (.inr Z) ?_
 rintro iA yt Bp pf gM wh ⟨gU,ju,rfl,rfl⟩
 have wi:SW w [B1,.obj aa (.map ae ah)] U iA [.row gU ju 3 1 (nA KL.encI bb),.blk b4 91 B0,B1,.obj aa (.map ae ah),.blk cG 91 B0,B5] pf:=wh
 have uq:=up.le oa
 have ur:=uq.le gM
 have ut:=mR.le gM
 exact m4 _ _ ⟨iA,cG,d9,eW,db,dz,de,dA,gU,ju,ss,su,sv,sw,sA,sB,sC,sD,sE,sF,sG,sH,lv,sI,sJ,sK,lw,rfl,rfl,((xY.trans oa).trans gM),(wi.pick [1,2,3,4,5,0] _ (by decide) rfl),ur,ut⟩
 refine zx (s:=.fl 12 gCp) (M:=fun σ_ w_=>∃ (U_:PHeap) (dv:Nat) (eg:Option Addr) (eX:Nat) (df:Option Addr) (dB:Nat),σ_ 0=.pointer (some ⟨aj,0,none⟩)/\σ_ 1=jV p1/\σ_ 2=.bool p2/\σ_ 6=.pointer (some ⟨b4,0,none⟩)/\σ_ 9=.pointer (some ⟨dv,0,none⟩)/\σ_ 16=.slice eg ([1125899906842624].length) eX/\σ_ 17=.pointer (some ⟨aj,0,none⟩)/\σ_ 18=.pointer (some ⟨aj,0,none⟩)/\σ_ 19=.pointer (some ⟨aj,4,none⟩)/\σ_ 20=.map (some aa)/\σ_ 21=jV (↑(p0.number.length):Int)/\σ_ 22=.slice df x28.length dB/\σ_ 24=.pointer (some ⟨aj,0,none⟩)/\σ_ 25=.pointer (some ⟨aj,0,none⟩)/\σ_ 26=.pointer (some ⟨aj,4,none⟩)/\σ_ 27=.map (some aa)/\PHeap.Le U U_/\SW w [B1,.obj aa (.map ae ah)] U U_ [.blk b4 91 B0,B1,.obj aa (.map ae ah),.blk dv 91 B0,.row df dB 3 1 (nA KL.encI x28)] w_/\Sl U_ 1 eg eX [1125899906842624].length (nA KL.encI [1125899906842624])) ?_ fun xJ=>?_
 rintro BO Ar ⟨iB,dv,eg,eX,df,dB,sL,sM,sN,sO,sP,sQ,sS,sT,sU,sV,sX,sY,sZ,s5,s6,lx,xZ,mC,uu⟩
 refine oL Z (mC.lenM (j:=2) (mk:=wDD) (mv:=wDV) Z Z lx (wCM ZJ) cX) (ZB (pv:=[(0,jV (-1))]) (zs:=[jV 0]) (cs:=[jV (-1)]) Z Z Z Z Z (wAC Z wAV) zD zC ZC Z Z Z Z Z mC ?_)
 intro pg jh wj
 have wk:SW w [B1,.obj aa (.map ae ah)] U iB [.row (some ⟨jh,0,none⟩) 1 3 1 (nA KL.encI [-1]),.blk b4 91 B0,B1,.obj aa (.map ae ah),.blk dv 91 B0,.row df dB 3 1 (nA KL.encI x28)] pg:=wj
 exact fq _ _ ⟨iB,dv,eg,eX,df,dB,(some ⟨jh,0,none⟩),1,sL,sM,sN,sO,sP,sQ,sS,sT,sU,sV,sX,sY,rfl,sZ,s5,s6,lx,rfl,xZ,(wk.pick [1,2,3,4,5,0] _ (by decide) rfl),uu⟩
 refine zx (s:=gCx) (M:=fun σ_ w_=>∃ (U_:PHeap) (cH:Nat) (dg:Option Addr) (dC:Nat) (dh:Option Addr) (dD:Nat),σ_ 0=.pointer (some ⟨aj,0,none⟩)/\σ_ 1=jV p1/\σ_ 2=.bool p2/\σ_ 6=.pointer (some ⟨b4,0,none⟩)/\σ_ 9=.pointer (some ⟨cH,0,none⟩)/\σ_ 16=.slice dg ([1125899906842624].length) dC/\σ_ 17=.pointer (some ⟨aj,0,none⟩)/\σ_ 18=.pointer (some ⟨aj,0,none⟩)/\σ_ 19=.pointer (some ⟨aj,4,none⟩)/\σ_ 20=.map (some aa)/\σ_ 21=jV (↑(p0.number.length):Int)/\σ_ 23=.slice dh ([-1].length) dD/\σ_ 24=.pointer (some ⟨aj,0,none⟩)/\σ_ 25=.pointer (some ⟨aj,0,none⟩)/\σ_ 26=.pointer (some ⟨aj,4,none⟩)/\σ_ 27=.map (some aa)/\PHeap.Le U U_/\SW w [B1,.obj aa (.map ae ah)] U U_ [.blk b4 91 B0,B1,.obj aa (.map ae ah),.blk cH 91 B0,.row dg dC 3 1 (nA KL.encI [1125899906842624]),.row dh dD 3 1 (nA KL.encI [-1])] w_) ?_ fun gF=>?_
 rintro BP i7 ⟨y4,cH,dg,dC,dh,dD,s7,s8,s9,tc,td,ly,te,tf,tg,th,lA,tj,tl,tm,tn,tp,x7,wl⟩
 have q:=wl.freezeR (k:=4) (n:=[1125899906842624].length) rfl (wAE (f:=KL.encI) (sz:=1) (fun _=>rfl) [1125899906842624]) (by decide)
 obtain ⟨iC,x8,mS,wn⟩:=q
 let B6:Res:=.row dh dD 3 1 (nA KL.encI [-1])
 have wo:SW w [B1,.obj aa (.map ae ah)] U iC [.blk b4 91 B0,B1,.obj aa (.map ae ah),.blk cH 91 B0,B6] i7:=wn
 refine zH 0 Z Z Z Z (zG Z Z Tryz.call45 (zB ly (zB lA zM)) Z) wo (fun hs=>wAj [1125899906842624] dg dC (↑(p0.number.length):Int) i7 iC hs mS fh) (.inr Z) ?_
 rintro iD yu Bq ph oc wp ⟨gW,jv,rfl,rfl⟩
 have wq:SW w [B1,.obj aa (.map ae ah)] U iD [.row gW jv 3 1 (nA KL.encI x28),.blk b4 91 B0,B1,.obj aa (.map ae ah),.blk cH 91 B0,B6] ph:=wp
 have uv:=mS.le oc
 exact xI _ _ ⟨iD,cH,dg,dC,gW,jv,dh,dD,s7,s8,s9,tc,td,ly,te,tf,tg,th,lA,rfl,tj,tl,tm,tn,tp,((x7.trans x8).trans oc),(wq.pick [1,2,3,4,0,5] _ (by decide) rfl),uv⟩
 refine zx (s:=.fl 12 gCw) (M:=fun σ_ w_=>∃ (U_:PHeap) (dk:Option Addr) (dE:Nat) (cz:Option Addr) (cO:Nat) (cA:Option Addr) (cP:Nat),σ_ 0=.pointer (some ⟨aj,0,none⟩)/\σ_ 1=jV p1/\σ_ 2=.bool p2/\σ_ 6=.pointer (some ⟨b4,0,none⟩)/\σ_ 16=.slice dk ([1125899906842624].length) dE/\σ_ 17=.pointer (some ⟨aj,0,none⟩)/\σ_ 18=.pointer (some ⟨aj,0,none⟩)/\σ_ 19=.pointer (some ⟨aj,4,none⟩)/\σ_ 20=.map (some aa)/\σ_ 21=jV (↑(p0.number.length):Int)/\σ_ 22=.slice cz x28.length cO/\σ_ 23=.slice cA ([-1].length) cP/\σ_ 24=.pointer (some ⟨aj,0,none⟩)/\σ_ 25=.pointer (some ⟨aj,0,none⟩)/\σ_ 26=.pointer (some ⟨aj,4,none⟩)/\σ_ 27=.map (some aa)/\PHeap.Le U U_/\SW w [B1,.obj aa (.map ae ah)] U U_ [.blk b4 91 B0,B1,.obj aa (.map ae ah),.row cz cO 3 1 (nA KL.encI x28),.row cA cP 3 1 (nA KL.encI [-1])] w_/\Sl U_ 1 dk dE [1125899906842624].length (nA KL.encI [1125899906842624])) ?_ fun xK=>?_
 rintro BQ i8 ⟨oB,dk,dE,cz,cO,cA,cP,lB,lC,lD,lE,lF,lG,lH,lI,lJ,lK,lL,fW,lM,lN,lO,fY,od,gp,mb⟩
 refine oL Z (gp.lenM (j:=2) (mk:=wDD) (mv:=wDV) Z Z fY (wCM ZJ) cX) (zi ?_ ?_)
 have q:=gp.freezeR (k:=4) (n:=[-1].length) rfl (wAE (f:=KL.encI) (sz:=1) (fun _=>rfl) [-1]) (by decide)
 obtain ⟨iE,oe,mT,wt⟩:=q
 let B7:Res:=.row cz cO 3 1 (nA KL.encI x28)
 have wu:SW w [B1,.obj aa (.map ae ah)] U iE [.blk b4 91 B0,B1,.obj aa (.map ae ah),B7] i8:=wt
 refine zH 0 Z Z Z Z (zG Z Z Tryz.call45 (zB fW (zB Z zM)) Z) wu (fun hs=>wAj [-1] cA cP (↑(p0.number.length):Int) i8 iE hs mT fj) (.inr Z) ?_
 rintro iF yv Br pj gN wv ⟨gX,jw,rfl,rfl⟩
 have ww:SW w [B1,.obj aa (.map ae ah)] U iF [.row gX jw 3 1 (nA KL.encI bb),.blk b4 91 B0,B1,.obj aa (.map ae ah),B7] pj:=wv
 have uw:=mb.le oe
 have ux:=uw.le gN
 have uy:=mT.le gN
 exact m5 _ _ ⟨iF,dk,dE,cz,cO,cA,cP,gX,jw,lB,lC,lD,lE,lF,lG,lH,lI,lJ,lK,lL,fW,lM,lN,lO,fY,rfl,rfl,((od.trans oe).trans gN),(ww.pick [1,2,3,4,0] _ (by decide) rfl),ux,uy⟩
 refine zX (cs:=B0) Z Z Z Z Z Zf Z gp ?_
 intro As pu wx
 exact fq _ _ ⟨oB,pu,dk,dE,cz,cO,cA,cP,lB,lC,lD,lE,rfl,lF,lG,lH,lI,lJ,lK,lL,fW,lM,lN,lO,fY,rfl,od,(wx.pick [1,2,3,0,4,5] _ (by decide) rfl),mb⟩
 refine zx (s:=gDb) (M:=fun σ_ w_=>∃ (U_:PHeap) (dw:Nat) (dl:Option Addr) (dF:Nat),σ_ 0=.pointer (some ⟨aj,0,none⟩)/\σ_ 1=jV p1/\σ_ 2=.bool p2/\σ_ 6=.pointer (some ⟨b4,0,none⟩)/\σ_ 9=.pointer (some ⟨dw,0,none⟩)/\σ_ 17=.pointer (some ⟨aj,0,none⟩)/\σ_ 18=.pointer (some ⟨aj,0,none⟩)/\σ_ 19=.pointer (some ⟨aj,4,none⟩)/\σ_ 20=.map (some aa)/\σ_ 21=jV (↑(p0.number.length):Int)/\σ_ 23=.slice dl ([-1].length) dF/\σ_ 24=.pointer (some ⟨aj,0,none⟩)/\σ_ 25=.pointer (some ⟨aj,0,none⟩)/\σ_ 26=.pointer (some ⟨aj,4,none⟩)/\σ_ 27=.map (some aa)/\PHeap.Le U U_/\SW w [B1,.obj aa (.map ae ah)] U U_ [.blk b4 91 B0,B1,.obj aa (.map ae ah),.blk dw 91 B0,.row dl dF 3 1 (nA KL.encI [-1])] w_) ?_ fun m6=>?_
 rintro BR Au ⟨iG,dw,dl,dF,tq,tr,tu,tv,tw,tz,tA,tB,tC,tD,tE,tF,tG,tH,tI,yh,wy⟩
 refine ZB (pv:=[(0,jV 1125899906842624)]) (zs:=[jV 0]) (cs:=[jV 1125899906842624]) Z Z Z Z Z (wAC Z wAV) zD zC ZC Z Z Z Z Z wy ?_
 intro pk ji wz
 have wA:SW w [B1,.obj aa (.map ae ah)] U iG [.row (some ⟨ji,0,none⟩) 1 3 1 (nA KL.encI [1125899906842624]),.blk b4 91 B0,B1,.obj aa (.map ae ah),.blk dw 91 B0,.row dl dF 3 1 (nA KL.encI [-1])] pk:=wz
 exact gF _ _ ⟨iG,dw,(some ⟨ji,0,none⟩),1,dl,dF,tq,tr,tu,tv,tw,rfl,tz,tA,tB,tC,tD,tE,tF,tG,tH,tI,yh,(wA.pick [1,2,3,4,0,5] _ (by decide) rfl)⟩
 refine zx (s:=gDi) (M:=fun σ_ w_=>∃ (U_:PHeap) (bN:Nat) (bU:Option Addr) (ci:Nat),σ_ 0=.pointer (some ⟨aj,0,none⟩)/\σ_ 1=jV p1/\σ_ 2=.bool p2/\σ_ 6=.pointer (some ⟨b4,0,none⟩)/\σ_ 9=.pointer (some ⟨bN,0,none⟩)/\σ_ 16=.slice bU ([1125899906842624].length) ci/\σ_ 17=.pointer (some ⟨aj,0,none⟩)/\σ_ 18=.pointer (some ⟨aj,0,none⟩)/\σ_ 19=.pointer (some ⟨aj,4,none⟩)/\σ_ 20=.map (some aa)/\σ_ 21=jV (↑(p0.number.length):Int)/\σ_ 24=.pointer (some ⟨aj,0,none⟩)/\σ_ 25=.pointer (some ⟨aj,0,none⟩)/\σ_ 26=.pointer (some ⟨aj,4,none⟩)/\σ_ 27=.map (some aa)/\PHeap.Le U U_/\SW w [B1,.obj aa (.map ae ah)] U U_ [.blk b4 91 B0,B1,.obj aa (.map ae ah),.blk bN 91 B0,.row bU ci 3 1 (nA KL.encI [1125899906842624])] w_) ?_ fun m7=>?_
 rintro BS i9 ⟨iH,bN,bU,ci,lP,lQ,lR,lS,lT,fZ,lU,lV,lW,lX,ga,lY,lZ,l4,l5,og,mD⟩
 refine zi ?_ ?_
 have q:=mD.freezeR (k:=4) (n:=[1125899906842624].length) rfl (wAE (f:=KL.encI) (sz:=1) (fun _=>rfl) [1125899906842624]) (by decide)
 obtain ⟨iI,yi,mU,wB⟩:=q
 have wC:SW w [B1,.obj aa (.map ae ah)] U iI [.blk b4 91 B0,B1,.obj aa (.map ae ah),.blk bN 91 B0] i9:=wB
 refine zH 0 Z Z Z Z (zG Z Z Tryz.call45 (zB fZ (zB ga zM)) Z) wC (fun hs=>wAj [1125899906842624] bU ci (↑(p0.number.length):Int) i9 iI hs mU fh) (.inr Z) ?_
 rintro ig yn Bk oG m8 uB ⟨gQ,jl,rfl,rfl⟩
 have uC:SW w [B1,.obj aa (.map ae ah)] U ig [.row gQ jl 3 1 (nA KL.encI x28),.blk b4 91 B0,B1,.obj aa (.map ae ah),.blk bN 91 B0] oG:=uB
 have tM:=mU.le m8
 exact xJ _ _ ⟨ig,bN,bU,ci,gQ,jl,lP,lQ,lR,lS,lT,fZ,lU,lV,lW,lX,ga,rfl,lY,lZ,l4,l5,((og.trans yi).trans m8),(uC.pick [1,2,3,4,0] _ (by decide) rfl),tM⟩
 refine ZB (pv:=[(0,jV (-1))]) (zs:=[jV 0]) (cs:=[jV (-1)]) Z Z Z Z Z (wAC Z wAV) zD zC ZC Z Z Z Z Z mD ?_
 intro oH ja uD
 have uE:SW w [B1,.obj aa (.map ae ah)] U iH [.row (some ⟨ja,0,none⟩) 1 3 1 (nA KL.encI [-1]),.blk b4 91 B0,B1,.obj aa (.map ae ah),.blk bN 91 B0,.row bU ci 3 1 (nA KL.encI [1125899906842624])] oH:=uD
 exact gF _ _ ⟨iH,bN,bU,ci,(some ⟨ja,0,none⟩),1,lP,lQ,lR,lS,lT,fZ,lU,lV,lW,lX,ga,rfl,lY,lZ,l4,l5,og,(uE.pick [1,2,3,4,5,0] _ (by decide) rfl)⟩
 refine zx (s:=gDh) (M:=fun σ_ w_=>∃ (U_:PHeap) (cr:Option Addr) (cI:Nat) (ct:Option Addr) (cJ:Nat),σ_ 0=.pointer (some ⟨aj,0,none⟩)/\σ_ 1=jV p1/\σ_ 2=.bool p2/\σ_ 6=.pointer (some ⟨b4,0,none⟩)/\σ_ 16=.slice cr ([1125899906842624].length) cI/\σ_ 17=.pointer (some ⟨aj,0,none⟩)/\σ_ 18=.pointer (some ⟨aj,0,none⟩)/\σ_ 19=.pointer (some ⟨aj,4,none⟩)/\σ_ 20=.map (some aa)/\σ_ 21=jV (↑(p0.number.length):Int)/\σ_ 23=.slice ct ([-1].length) cJ/\σ_ 24=.pointer (some ⟨aj,0,none⟩)/\σ_ 25=.pointer (some ⟨aj,0,none⟩)/\σ_ 26=.pointer (some ⟨aj,4,none⟩)/\σ_ 27=.map (some aa)/\PHeap.Le U U_/\SW w [B1,.obj aa (.map ae ah)] U U_ [.blk b4 91 B0,B1,.obj aa (.map ae ah),.row cr cI 3 1 (nA KL.encI [1125899906842624]),.row ct cJ 3 1 (nA KL.encI [-1])] w_) ?_ fun mY=>?_
 rintro Bx iJ ⟨ot,cr,cI,ct,cJ,jx,jy,jz,jA,fQ,jB,jC,jD,jE,fR,jG,jH,jJ,jK,jL,m9,mi⟩
 refine zi ?_ ?_
 have q:=mi.freezeR (k:=3) (n:=[1125899906842624].length) rfl (wAE (f:=KL.encI) (sz:=1) (fun _=>rfl) [1125899906842624]) (by decide)
 obtain ⟨ii,xL,mO,uF⟩:=q
 let B8:Res:=.row ct cJ 3 1 (nA KL.encI [-1])
 have uG:SW w [B1,.obj aa (.map ae ah)] U ii [.blk b4 91 B0,B1,.obj aa (.map ae ah),B8] iJ:=uF
 refine zH 0 Z Z Z Z (zG Z Z Tryz.call45 (zB fQ (zB fR zM)) Z) uG (fun hs=>wAj [1125899906842624] cr cI (↑(p0.number.length):Int) iJ ii hs mO fh) (.inr Z) ?_
 rintro ij yo Bl oI n5 uH ⟨gR,jm,rfl,rfl⟩
 have uI:SW w [B1,.obj aa (.map ae ah)] U ij [.row gR jm 3 1 (nA KL.encI x28),.blk b4 91 B0,B1,.obj aa (.map ae ah),B8] oI:=uH
 have tO:=mO.le n5
 exact xK _ _ ⟨ij,cr,cI,gR,jm,ct,cJ,jx,jy,jz,jA,fQ,jB,jC,jD,jE,fR,rfl,jG,jH,jJ,jK,jL,((m9.trans xL).trans n5),(uI.pick [1,2,3,0,4] _ (by decide) rfl),tO⟩
 refine zX (cs:=B0) Z Z Z Z Z Zf Z mi ?_
 intro y5 pm uJ
 exact gF _ _ ⟨ot,pm,cr,cI,ct,cJ,jx,jy,jz,jA,rfl,fQ,jB,jC,jD,jE,fR,jG,jH,jJ,jK,jL,m9,(uJ.pick [1,2,3,0,4,5] _ (by decide) rfl)⟩
 refine oM Z Z (oR Z (Ze Z Z) (oR Z (zJ Z Z ZP Z yA) (oL Z (cq.ldB (j:=1) Z Z Z yE (v:=.map (some aa)) Z) (oL Z (cq.lenM (j:=2) (mk:=wDD) (mv:=wDV) Z Z Z (wCM ZJ) cX) (oM Z Z (oR Z (Ze Z Z) (oR Z (zJ Z Z ZP Z yA) (oL Z (cq.ldB (j:=1) Z Z Z yE (v:=.map (some aa)) Z) (zi ?_ ?_)))))))))
 refine ZB (pv:=[(0,jV 1125899906842624)]) (zs:=[jV 0]) (cs:=[jV 1125899906842624]) Z Z Z Z Z (wAC Z wAV) zD zC ZC Z Z Z Z Z cq ?_
 intro fD bZ uK
 let B9:Res:=.row (some ⟨bZ,0,none⟩) 1 3 1 (nA KL.encI [1125899906842624])
 have ge:SW w [B1,.obj aa (.map ae ah)] U U [B9,.blk b4 91 B0,B1,.obj aa (.map ae ah)] fD:=uK
 refine zi ?_ ?_
 have q:=ge.freezeR (k:=0) (n:=[1125899906842624].length) rfl (wAE (f:=KL.encI) (sz:=1) (fun _=>rfl) [1125899906842624]) (by decide)
 obtain ⟨ik,gI,fm,uL⟩:=q
 have uM:SW w [B1,.obj aa (.map ae ah)] U ik [.blk b4 91 B0,B1,.obj aa (.map ae ah)] fD:=uL
 refine zH 0 Z Z Z Z (zG Z Z Tryz.call45 (zB Z (zB Z zM)) Z) uM (fun hs=>wAj [1125899906842624] (some ⟨bZ,0,none⟩) 1 (↑(p0.number.length):Int) fD ik hs fm fh) (.inr Z) ?_
 rintro dr yp Bm oK cY uN ⟨dU,eJ,rfl,rfl⟩
 let dm:Res:=.row dU eJ 3 1 (nA KL.encI x28)
 have gf:SW w [B1,.obj aa (.map ae ah)] U dr [dm,.blk b4 91 B0,B1,.obj aa (.map ae ah)] oK:=uN
 refine oL Z (gf.lenM (j:=3) (mk:=wDD) (mv:=wDV) Z Z Z (wCM ZJ) cX) (zi ?_ ?_)
 refine ZB (pv:=[(0,jV (-1))]) (zs:=[jV 0]) (cs:=[jV (-1)]) Z Z Z Z Z (wAC Z wAV) zD zC ZC Z Z Z Z Z gf ?_
 intro fE eF uO
 have mj:SW w [B1,.obj aa (.map ae ah)] U dr [.row (some ⟨eF,0,none⟩) 1 3 1 (nA KL.encI [-1]),dm,.blk b4 91 B0,B1,.obj aa (.map ae ah)] fE:=uO
 refine zi ?_ ?_
 have q:=mj.freezeR (k:=0) (n:=[-1].length) rfl (wAE (f:=KL.encI) (sz:=1) (fun _=>rfl) [-1]) (by decide)
 obtain ⟨il,n6,mP,uP⟩:=q
 have uQ:SW w [B1,.obj aa (.map ae ah)] U il [dm,.blk b4 91 B0,B1,.obj aa (.map ae ah)] fE:=uP
 refine zH 0 Z Z Z Z (zG Z Z Tryz.call45 (zB Z (zB Z zM)) Z) uQ (fun hs=>wAj [-1] (some ⟨eF,0,none⟩) 1 (↑(p0.number.length):Int) fE il hs mP fj) (.inr Z) ?_
 rintro im yq Bn oO gJ uR ⟨gS,jo,rfl,rfl⟩
 have uS:SW w [B1,.obj aa (.map ae ah)] U im [.row gS jo 3 1 (nA KL.encI bb),dm,.blk b4 91 B0,B1,.obj aa (.map ae ah)] oO:=uR
 have tP:=fm.le cY
 have tQ:=tP.le n6
 have tR:=tQ.le gJ
 have tS:=mP.le gJ
 exact m5 _ _ ⟨im,(some ⟨bZ,0,none⟩),1,dU,eJ,(some ⟨eF,0,none⟩),1,gS,jo,rfl,rfl,rfl,rfl,rfl,rfl,rfl,rfl,rfl,rfl,rfl,rfl,rfl,rfl,rfl,rfl,rfl,rfl,(((gI.trans cY).trans n6).trans gJ),(uS.pick [2,3,4,1,0] _ (by decide) rfl),tR,tS⟩
 refine zX (cs:=B0) Z Z Z Z Z Zf Z mj ?_
 intro y6 pn uT
 have tT:=fm.le cY
 exact fq _ _ ⟨dr,pn,(some ⟨bZ,0,none⟩),1,dU,eJ,(some ⟨eF,0,none⟩),1,rfl,rfl,rfl,rfl,rfl,rfl,rfl,rfl,rfl,rfl,rfl,rfl,rfl,rfl,rfl,rfl,rfl,rfl,(gI.trans cY),(uT.pick [3,4,5,0,2,1] _ (by decide) rfl),tT⟩
 refine zX (cs:=B0) Z Z Z Z Z Zf Z gf ?_
 intro y7 jb uU
 refine ZB (pv:=[(0,jV (-1))]) (zs:=[jV 0]) (cs:=[jV (-1)]) Z Z Z Z Z (wAC Z wAV) zD zC ZC Z Z Z Z Z uU ?_
 intro oP jc uV
 have uW:SW w [B1,.obj aa (.map ae ah)] U dr [.row (some ⟨jc,0,none⟩) 1 3 1 (nA KL.encI [-1]),.blk jb 91 B0,dm,.blk b4 91 B0,B1,.obj aa (.map ae ah)] oP:=uV
 have tU:=fm.le cY
 exact fq _ _ ⟨dr,jb,(some ⟨bZ,0,none⟩),1,dU,eJ,(some ⟨jc,0,none⟩),1,rfl,rfl,rfl,rfl,rfl,rfl,rfl,rfl,rfl,rfl,rfl,rfl,rfl,rfl,rfl,rfl,rfl,rfl,(gI.trans cY),(uW.pick [3,4,5,1,2,0] _ (by decide) rfl),tU⟩
 refine zi ?_ ?_
 refine ZB (pv:=[(0,jV (-1))]) (zs:=[jV 0]) (cs:=[jV (-1)]) Z Z Z Z Z (wAC Z wAV) zD zC ZC Z Z Z Z Z ge ?_
 intro oU jd uX
 have uY:SW w [B1,.obj aa (.map ae ah)] U U [.row (some ⟨jd,0,none⟩) 1 3 1 (nA KL.encI [-1]),B9,.blk b4 91 B0,B1,.obj aa (.map ae ah)] oU:=uX
 exact mY _ _ ⟨U,(some ⟨bZ,0,none⟩),1,(some ⟨jd,0,none⟩),1,rfl,rfl,rfl,rfl,rfl,rfl,rfl,rfl,rfl,rfl,rfl,rfl,rfl,rfl,rfl,(zK _),(uY.pick [2,3,4,1,0] _ (by decide) rfl)⟩
 refine zX (cs:=B0) Z Z Z Z Z Zf Z ge ?_
 intro y8 po uZ
 exact m7 _ _ ⟨U,po,(some ⟨bZ,0,none⟩),1,rfl,rfl,rfl,rfl,rfl,rfl,rfl,rfl,rfl,rfl,rfl,rfl,rfl,rfl,rfl,(zK _),(uZ.pick [2,3,4,0,1] _ (by decide) rfl)⟩
 refine zi ?_ ?_
 refine ZB (pv:=[(0,jV (-1))]) (zs:=[jV 0]) (cs:=[jV (-1)]) Z Z Z Z Z (wAC Z wAV) zD zC ZC Z Z Z Z Z cq ?_
 intro oW fH u5
 let gZ:Res:=.row (some ⟨fH,0,none⟩) 1 3 1 (nA KL.encI [-1])
 have mn:SW w [B1,.obj aa (.map ae ah)] U U [gZ,.blk b4 91 B0,B1,.obj aa (.map ae ah)] oW:=u5
 refine zi ?_ ?_
 refine ZB (pv:=[(0,jV 1125899906842624)]) (zs:=[jV 0]) (cs:=[jV 1125899906842624]) Z Z Z Z Z (wAC Z wAV) zD zC ZC Z Z Z Z Z mn ?_
 intro o0 je u6
 have u7:SW w [B1,.obj aa (.map ae ah)] U U [.row (some ⟨je,0,none⟩) 1 3 1 (nA KL.encI [1125899906842624]),gZ,.blk b4 91 B0,B1,.obj aa (.map ae ah)] o0:=u6
 exact mY _ _ ⟨U,(some ⟨je,0,none⟩),1,(some ⟨fH,0,none⟩),1,rfl,rfl,rfl,rfl,rfl,rfl,rfl,rfl,rfl,rfl,rfl,rfl,rfl,rfl,rfl,(zK _),(u7.pick [2,3,4,0,1] _ (by decide) rfl)⟩
 refine zX (cs:=B0) Z Z Z Z Z Zf Z mn ?_
 intro y9 pp u9
 exact m6 _ _ ⟨U,pp,(some ⟨fH,0,none⟩),1,rfl,rfl,rfl,rfl,rfl,rfl,rfl,rfl,rfl,rfl,rfl,rfl,rfl,rfl,rfl,(zK _),(u9.pick [2,3,4,0,1] _ (by decide) rfl)⟩
 refine zX (cs:=B0) Z Z Z Z Z Zf Z cq ?_
 intro z6 eH mo
 refine zi ?_ ?_
 refine ZB (pv:=[(0,jV 1125899906842624)]) (zs:=[jV 0]) (cs:=[jV 1125899906842624]) Z Z Z Z Z (wAC Z wAV) zD zC ZC Z Z Z Z Z mo ?_
 intro o3 jf va
 have vb:SW w [B1,.obj aa (.map ae ah)] U U [.row (some ⟨jf,0,none⟩) 1 3 1 (nA KL.encI [1125899906842624]),.blk eH 91 B0,.blk b4 91 B0,B1,.obj aa (.map ae ah)] o3:=va
 exact m7 _ _ ⟨U,eH,(some ⟨jf,0,none⟩),1,rfl,rfl,rfl,rfl,rfl,rfl,rfl,rfl,rfl,rfl,rfl,rfl,rfl,rfl,rfl,(zK _),(vb.pick [2,3,4,1,0] _ (by decide) rfl)⟩
 refine ZB (pv:=[(0,jV (-1))]) (zs:=[jV 0]) (cs:=[jV (-1)]) Z Z Z Z Z (wAC Z wAV) zD zC ZC Z Z Z Z Z mo ?_
 intro o5 jg vc
 have vd:SW w [B1,.obj aa (.map ae ah)] U U [.row (some ⟨jg,0,none⟩) 1 3 1 (nA KL.encI [-1]),.blk eH 91 B0,.blk b4 91 B0,B1,.obj aa (.map ae ah)] o5:=vc
 exact m6 _ _ ⟨U,eH,(some ⟨jg,0,none⟩),1,rfl,rfl,rfl,rfl,rfl,rfl,rfl,rfl,rfl,rfl,rfl,rfl,rfl,rfl,rfl,(zK _),(vd.pick [2,3,4,1,0] _ (by decide) rfl)⟩
 rintro By z7 ⟨io,b8,au,av,az,aS,pD,pE,pF,pG,jM,xM,mp⟩
 refine zN (sR fL4 Z (oR Z (zJ Z jM ZQ Z zy) (oL Z (mp.ldB (j:=3) Z Z Z ZI (v:=.slice au l9.length av) Z) (oR Z (ZU Z Z zD) (oM Z Z (eN (zf (bnK mM fun Bv wH gE=>?_))))))))
 have q:=wCe wH
 obtain ⟨gB,wI⟩:=q
 replace gB:=zO gB
 let bV:Res:=.row az aS 3 1 (nA KL.encI bD)
 refine CK.forN' (fun bB bg σ_ w_=>∃ (U_:PHeap),σ_ 34=jV (↑bB:Int)/\σ_ 0=.pointer (some ⟨aj,0,none⟩)/\σ_ 1=jV p1/\σ_ 2=.bool p2/\σ_ 6=.pointer (some ⟨b4,0,none⟩)/\σ_ 9=.pointer (some ⟨b8,0,none⟩)/\σ_ 33=jV (↑l9.length:Int)/\PHeap.Le io U_/\SW w [B1,.obj aa (.map ae ah)] U U_ [.blk b4 91 B0,B1,.obj aa (.map ae ah),.row au av 3 1 (nA KL.encI bg),bV,.blk b8 91 [.slice au bg.length av,.slice az bD.length aS]] w_/\bg.length=l9.length) wI ?_ ?_ ?_
 exact ⟨io,rfl,pD,pE,pF,pG,jM,rfl,(zK _),(mp.pick [0,1,2,4,5,3] _ (by decide) rfl),rfl⟩
 rintro bB bg Bs Bz z8 gw ⟨bY,dK,fS,dG,fT,fU,dH,eY,gK,cp,gb⟩ mV
 have jp:Hid ((↑bB:Int) < (↑l9.length:Int)):=zO (wBs gw)
 replace gw:=zO gw
 have gv:Hid (w64 ((↑bB:Int) + 1)=(↑(bB + 1):Int)):=zO (by have h1:=gB.out;have h2:=jp.out;rw [wAb] <;> omega)
 refine sR fL1 Z (oR Z (zP Z dK eY) (eN (zN (cT Z jp (kN (zN (zf (sR fL2 Z (oM Z dK (oA Z Z (eN (sR fL7 Z (oM Z dG (oR Z (zP Z Z Z) (oM Z Z ?_)))))))))))))))
 by_cases bi:p1 < 0
 have mE:=mV;rw [if_pos bi] at mE;replace bi:=zO bi
 refine oT Z bi (oT Z bi (oT Z bi (oR Z (zY Z (ZY bi.out) Z) (eN (ZH Z (rR (wEU (.fx 4 .nil .stop)) Z (oR Z (zJ Z dH ZQ Z zy) (oL Z (cp.ldB (j:=5) Z Z Z ZI (v:=.slice au bg.length av) Z) (oM Z Z (bnK mE fun _ fd xc=>?_))))))))))
 obtain ⟨Av,mc⟩:=cp.rowSome (j:=3) rfl (by rw [wAE (f:=KL.encI) (sz:=1) (fun _=>rfl) bg];have hz:=wAT fd;omega)
 refine oR Z (yQ Z Z mc Z zD zC (wAT fd)) ?_
 have wM:=wAx (xs:=bg) (wAT fd)
 refine yJ (j:=3) (vs:=[jV 0]) (cs':=nA KL.encI (nI bg bB 0)) rfl rfl rfl rfl cp rfl mc rfl rfl rfl zC (by rw [wAE (f:=KL.encI) (sz:=1) (fun _=>rfl)];have hz:=wAT fd;show _ + 1 <= _;first | omega | (simp only [nG];omega) | (simp only [nE,nB,nD];omega)) rfl (wBn (sz:=1) (fo:=0) (fun _=>rfl) _ _ _ _ wM (by first | omega | (simp only [nG];omega) | (simp only [nE,nB,nD];omega)) (zA rfl) rfl) rfl ?_
 intro iK ve
 let fz:Res:=.row au av 3 1 (nA KL.encI (nI bg bB 0))
 have vg:SW w [B1,.obj aa (.map ae ah)] U bY [.blk b4 91 B0,B1,.obj aa (.map ae ah),fz,bV,.blk b8 91 [.slice au bg.length av,.slice az bD.length aS]] iK:=ve
 have vh:SW w [B1,.obj aa (.map ae ah)] U bY [.blk b4 91 B0,B1,.obj aa (.map ae ah),fz,bV,.blk b8 91 [.slice au ((nI bg bB 0).length) av,.slice az bD.length aS]] iK:=by simpa only [B0,B1,bV,fz,nH] using vg
 refine zd (zm (zI (rR fL2 Z (oR Z (Zc (zU Z dK Z) (congrArg (jV) gv.out)) (oM Z Z (zd ?_))))))
 cases xc
 exact zI ⟨Z,⟨bY,Z,fS,dG,fT,fU,dH,eY,gK,vh,(nH.trans gb)⟩⟩
 have mF:=mV;rw [if_neg bi] at mF;replace bi:=zO bi
 refine zL Z Z Z (wF Z bi) Z Z (zL Z Z Z (wF Z bi) Z dG (rU Z (wF Z bi) (yC Z Z Z) (oR Z (zZ Z (ZL bi.out) Z) (eN (ifc mF ?_ ?_)))))
 intro fJ xd
 refine cT Z fJ (rR (wEU (.fx 4 .nil .stop)) Z (oR Z (zJ Z dH ZQ Z zy) (oL Z (cp.ldB (j:=5) Z Z Z ZI (v:=.slice au bg.length av) Z) (oM Z Z (bnK xd fun _ ff xe=>?_)))))
 obtain ⟨Aw,md⟩:=cp.rowSome (j:=3) rfl (by rw [wAE (f:=KL.encI) (sz:=1) (fun _=>rfl) bg];have hz:=wAT ff;omega)
 refine oR Z (yQ Z Z md Z zD zC (wAT ff)) ?_
 have wN:=wAx (xs:=bg) (wAT ff)
 refine yJ (j:=3) (vs:=[jV 0]) (cs':=nA KL.encI (nI bg bB 0)) rfl rfl rfl rfl cp rfl md rfl rfl rfl zC (by rw [wAE (f:=KL.encI) (sz:=1) (fun _=>rfl)];have hz:=wAT ff;show _ + 1 <= _;first | omega | (simp only [nG];omega) | (simp only [nE,nB,nD];omega)) rfl (wBn (sz:=1) (fo:=0) (fun _=>rfl) _ _ _ _ wN (by first | omega | (simp only [nG];omega) | (simp only [nE,nB,nD];omega)) (zA rfl) rfl) rfl ?_
 intro iL vi
 let fA:Res:=.row au av 3 1 (nA KL.encI (nI bg bB 0))
 have vj:SW w [B1,.obj aa (.map ae ah)] U bY [.blk b4 91 B0,B1,.obj aa (.map ae ah),fA,bV,.blk b8 91 [.slice au bg.length av,.slice az bD.length aS]] iL:=vi
 have vk:SW w [B1,.obj aa (.map ae ah)] U bY [.blk b4 91 B0,B1,.obj aa (.map ae ah),fA,bV,.blk b8 91 [.slice au ((nI bg bB 0).length) av,.slice az bD.length aS]] iL:=by simpa only [B0,B1,bV,fA,nH] using vj
 refine zd (zm (zI (rR fL2 Z (oR Z (Zc (zU Z dK Z) (congrArg (jV) gv.out)) (oM Z Z (zd ?_))))))
 cases xe
 exact zI ⟨Z,⟨bY,Z,fS,dG,fT,fU,dH,eY,gK,vk,(nH.trans gb)⟩⟩
 intro fJ xf
 refine cF Z fJ (ZS (zm (zI (rR fL2 Z (oR Z (Zc (zU Z dK Z) (congrArg (jV) gv.out)) (oM Z Z (zd ?_)))))))
 cases xf
 exact zI ⟨Z,⟨bY,Z,fS,dG,fT,fU,dH,eY,gK,cp,gb⟩⟩
 rintro BA Aa ⟨ip,tJ,jN,AI,pH,pI,pJ,pK,xN,gg,tV⟩
 have py:Hid (¬ ((↑(((↑l9.length:Int):Int) - 0).toNat:Int) < (↑l9.length:Int))):=zO (wBM)
 refine sR fL1 Z (oR Z (zP Z tJ pK) (eN (zN (cF Z py (ZX (zj (zj (ZN (zI (sR fL1 Z (oA Z Z (eN (zN (sR fL7 Z (oM Z jN (oR Z (Ze Z Z) (oR Z (zJ Z Z ZP Z yA) (oL Z (gg.ldB (j:=1) Z Z Z yE (v:=.map (some aa)) Z) (oL Z (gg.lenM (j:=2) (mk:=wDD) (mv:=wDV) Z Z Z (wCM ZJ) cX) (oR Z (zU Z Z Z) (oM Z Z (eN (zf ?_)))))))))))))))))))))))
 have q:=wCY gE
 obtain ⟨Bj,gu⟩:=q
 have q:=wCh gu
 obtain ⟨gC,wJ⟩:=q
 replace gC:=zO gC
 refine ya (fun bC (ft,fu,oh) σ_ w_=>∃ (U_:PHeap),σ_ 55=jV (↑bC:Int)/\σ_ 0=.pointer (some ⟨aj,0,none⟩)/\σ_ 2=.bool p2/\σ_ 6=.pointer (some ⟨b4,0,none⟩)/\σ_ 9=.pointer (some ⟨b8,0,none⟩)/\σ_ 11=jV oh/\σ_ 54=jV (w64 ((↑(p0.number.length):Int) + 1))/\PHeap.Le ip U_/\SW w [B1,.obj aa (.map ae ah)] U U_ [.blk b4 91 B0,B1,.obj aa (.map ae ah),.row au av 3 1 (nA KL.encI ft),.row az aS 3 1 (nA KL.encI fu),.blk b8 91 [.slice au ft.length av,.slice az fu.length aS]] w_/\ft.length=l9.length/\fu.length=bD.length) wJ ?_ ?_ ?_
 exact ⟨ip,Z,jN,pH,pI,pJ,Z,Z,(zK _),gg,tV,Z⟩
 rintro bC ⟨ft,fu,oh⟩ Bt BB Ab gz ⟨iq,l6,jO,pL,pM,pN,AJ,jP,n7,mq,tW,tX⟩ mW wE
 try dsimp only at mW
 have jq:Hid ((↑bC:Int) < (w64 ((↑(p0.number.length):Int) + 1))):=zO (wBs gz)
 replace gz:=zO gz
 have xa:Hid (w64 ((↑bC:Int) + 1)=(↑(bC + 1):Int)):=zO (by have h1:=gC.out;have h2:=jq.out;rw [wAb] <;> omega)
 refine sR fL1 Z (oR Z (zP Z l6 jP) (eN (zN (cT Z jq (kN (zN (zf (sR fL1 Z (oA Z Z (eN (zN (sR fL6 Z (oM Z jO (oR Z (Ze Z Z) (oR Z (zJ Z Z ZP Z yd) (oL Z (mq.ldB (j:=1) Z Z Z Tryz.isAgg95 (v:=.slice bv p0.edges.length bw) Z) (oR Z (ZU Z Z Tryz.runUnderlying95) (oM Z Z (eN (zf ?_))))))))))))))))))))
 have q:=bnd mW
 obtain ⟨⟨oj,ol,Bw⟩,wK,mG⟩:=q
 try dsimp only at mG
 have q:=wCe wK
 obtain ⟨gD,wL⟩:=q
 replace gD:=zO gD
 refine CK.forN' (fun aZ (aq,aV,oi) σ_ w_=>∃ (U_:PHeap),σ_ 62=jV (↑aZ:Int)/\σ_ 0=.pointer (some ⟨aj,0,none⟩)/\σ_ 2=.bool p2/\σ_ 6=.pointer (some ⟨b4,0,none⟩)/\σ_ 9=.pointer (some ⟨b8,0,none⟩)/\σ_ 11=jV oi/\σ_ 54=jV (w64 ((↑(p0.number.length):Int) + 1))/\σ_ 55=jV (↑bC:Int)/\σ_ 60=.slice bv p0.edges.length bw/\σ_ 61=jV (↑p0.edges.length:Int)/\PHeap.Le iq U_/\SW w [B1,.obj aa (.map ae ah)] U U_ [.blk b4 91 B0,B1,.obj aa (.map ae ah),.row au av 3 1 (nA KL.encI aq),.row az aS 3 1 (nA KL.encI aV),.blk b8 91 [.slice au aq.length av,.slice az aV.length aS]] w_/\aq.length=l9.length/\aV.length=bD.length) wL ?_ ?_ ?_
 exact ⟨iq,Z,jO,pL,pM,pN,Z,jP,l6,Z,Z,(zK _),mq,tW,tX⟩
 rintro aZ ⟨aq,aV,oi⟩ Bu BC Ac gA ⟨aX,bK,cQ,cj,cR,br,eZ,cS,cU,cm,cn,n8,mr,cV,cW⟩ mX
 try dsimp only at mX
 have jr:Hid ((↑aZ:Int) < (↑p0.edges.length:Int)):=zO (wBs gA)
 replace gA:=zO gA
 have xb:Hid (w64 ((↑aZ:Int) + 1)=(↑(aZ + 1):Int)):=zO (by have h1:=gD.out;have h2:=jr.out;rw [wAb] <;> omega)
 refine sR fL1 Z (oR Z (zP Z bK cn) (eN (zN (cT Z jr (kN ?_)))))
 have q:=bnd mX
 obtain ⟨⟨gG,gH,yl⟩,xD,mH⟩:=q
 try dsimp only at mH
 refine Zp (fun σ_ w_=>∃ (U_:PHeap),σ_ 0=.pointer (some ⟨aj,0,none⟩)/\σ_ 2=.bool p2/\σ_ 6=.pointer (some ⟨b4,0,none⟩)/\σ_ 9=.pointer (some ⟨b8,0,none⟩)/\σ_ 11=jV yl/\σ_ 54=jV (w64 ((↑(p0.number.length):Int) + 1))/\σ_ 55=jV (↑bC:Int)/\σ_ 60=.slice bv p0.edges.length bw/\σ_ 61=jV (↑p0.edges.length:Int)/\σ_ 62=jV (↑aZ:Int)/\PHeap.Le aX U_/\SW w [B1,.obj aa (.map ae ah)] U U_ [.blk b4 91 B0,B1,.obj aa (.map ae ah),.row au av 3 1 (nA KL.encI gG),.row az aS 3 1 (nA KL.encI gH),.blk b8 91 [.slice au gG.length av,.slice az gH.length aS]] w_/\gG.length=l9.length/\gH.length=bD.length) ?_ ?_
 refine zf (sR (wDj (.fx 3 (.fl 4 (.fx 5 .nil .stop)) .stop)) Z (oM Z bK (bnK xD fun ap ma xg=>?_)))
 have tY:=wD.le xM
 have tZ:=tY.le xN
 have t7:=tZ.le n7
 have t8:=t7.le n8
 have q:=t8.el (fun _=>rfl) (wBB ma)
 obtain ⟨Ax,Bi,uz,uA⟩:=q
 refine oR Z (yQ Z cm uz bK Tryz.runUnderlying95 Tryz.sizeOf120 (wFk ma)) (oL Z (mr.ldCA (f:=0) uA Z Z Tryz.isAgg120 Tryz.sizeOf120 (us:=[jV ap.step.Kind,jV ap.step.Skier,jV ap.step.Index,.bool ap.step.Up,jV ap.from_,jV ap.to_,jV ap.count]) Z Z) (zX (cs:=[jV 0,jV 0,jV 0,.bool false,jV 0,jV 0,jV 0]) Z Z Z Z Z Tryz.zeroValue120 Z mr ?_))
 intro Ad bf vl
 refine oA Z Z ?_
 let aW:List Value:=[jV ap.step.Kind,jV ap.step.Skier,jV ap.step.Index,.bool ap.step.Up,jV ap.from_,jV ap.to_,jV ap.count]
 refine ze (j:=0) (vs:=aW) Z Z Z Z vl Z Z Z Z Tryz.sizeOf120 (zA Z) Z Z Z ?_
 intro fG vm
 let bm:Res:=.row az aS 3 1 (nA KL.encI aV)
 let bJ:Res:=.blk b8 91 [.slice au aq.length av,.slice az aV.length aS]
 have vn:SW w [B1,.obj aa (.map ae ah)] U aX [.blk bf 120 aW,.blk b4 91 B0,B1,.obj aa (.map ae ah),.row au av 3 1 (nA KL.encI aq),bm,bJ] fG:=vm
 refine eN (zN (zt zq [3,1,3,1,3,3] fL6 (by kernel_rfl) ?_))
 have dL:=vn.drew
 generalize hw_W1431:({ fG with drawn:=fG.drawn + 1 }:World)=eE at dL ⊢
 refine oR Z (zJ Z Z yO Z zC) (oL Z (dL.ldB (j:=0) Z Z Z zE (v:=jV ap.from_) Z) (oR Z (zJ Z Z yO Z zC) (oL Z (dL.ldB (j:=0) Z Z Z zE (v:=jV ap.to_) Z) (oA Z Z (oA Z Z (eN (zN (sR fL1 Z (oM Z cj (eN (ifc xg ?_ ?_)))))))))))
 intro fK xh
 refine ZH (congrArg nL fK.out) (rR fL4 rfl (zL rfl rfl rfl rfl rfl rfl (zL rfl rfl rfl rfl rfl rfl (Zx rfl rfl rfl rfl rfl rfl (Zx rfl rfl rfl rfl rfl rfl (eN (zN (zt zq [3,1,3,3,1,3,3,3,1,3,3,1,3,1,3,3,1,3,3,1,3,3] fL22 (by kernel_rfl) ?_))))))))
 have bt:=dL.drew
 generalize hw_W1435:({ eE with drawn:=eE.drawn + 1 }:World)=iM at bt ⊢
 refine oR Z (zJ Z br ZQ Z zy) (oL Z (bt.ldB (j:=6) Z Z Z ZI (v:=.slice au aq.length av) Z) (oM Z Z (bnK xh fun _ bF xi=>?_)))
 obtain ⟨Ay,bz⟩:=bt.rowSome (j:=4) rfl (by rw [wAE (f:=KL.encI) (sz:=1) (fun _=>rfl) aq];have hz:=wAT bF;omega)
 refine oR Z (zl Z Z bz Z zD zC (wAu bF) (wAv bF)) ?_
 have wO:=wAx (xs:=aq) (wAT bF)
 refine ZD rfl rfl rfl rfl (bt.ldR (j:=4) rfl bz rfl rfl zE (wAS (sz:=1) (fun _=>rfl) _ _ 0 _ wO (by first | omega | rfl | simp) rfl)) rfl (zV rfl rfl rfl rfl (fun _=>zP rfl rfl rfl) (zL rfl rfl rfl rfl rfl rfl (ifc xi ?_ ?_)))
 intro aT xj
 refine rU Z (wT Z aT) (zJ Z br ZQ Z zy) (ZD Z Z Z (wT Z aT) (bt.ldB (j:=6) Z Z Z ZI (v:=.slice au aq.length av) Z) Z (zL Z Z Z (wT Z aT) Z Z (rU Z (wT Z aT) (zl Z Z bz Z zD zC (wAu bF) (wAv bF)) ?_)))
 have wP:=wAx (xs:=aq) (wAT bF)
 refine ZD rfl rfl rfl (zR rfl rfl (ZY aT.out)) (bt.ldR (j:=4) rfl bz rfl rfl zE (wAS (sz:=1) (fun _=>rfl) _ _ 0 _ wP (by first | omega | rfl | simp) rfl)) rfl (zV rfl rfl rfl (zR rfl rfl (ZY aT.out)) (fun _=>zJ rfl rfl yO rfl zC) (ZD rfl rfl rfl (zR rfl rfl (ZY aT.out)) (bt.ldB (j:=0) rfl rfl rfl zE (v:=jV ap.count) rfl) rfl (zV rfl rfl rfl (zR rfl rfl (ZY aT.out)) (fun _=>zU rfl rfl rfl) (zV rfl rfl rfl (zR rfl rfl (ZY aT.out)) (fun _=>zJ rfl br ZQ rfl zy) (ZD rfl rfl rfl (zR rfl rfl (ZY aT.out)) (bt.ldB (j:=6) rfl rfl rfl ZI (v:=.slice au aq.length av) rfl) rfl (zL rfl rfl rfl (zR rfl rfl (ZY aT.out)) rfl rfl (bnK xj fun _ bL xk=>zV rfl rfl rfl (zR rfl rfl (ZY aT.out)) (fun _=>zl rfl rfl bz rfl zD zC (wAu bL) (wAv bL)) ?_)))))))
 have wQ:=wAx (xs:=aq) (wAT bL)
 refine ZD rfl rfl rfl (zR rfl rfl (ZY aT.out)) (bt.ldR (j:=4) rfl bz rfl rfl zE (wAS (sz:=1) (fun _=>rfl) _ _ 0 _ wQ (by first | omega | rfl | simp) rfl)) rfl (zV rfl rfl rfl (zR rfl rfl (ZY aT.out)) (fun _=>zP rfl rfl rfl) (zV rfl rfl rfl rfl (fun _=>zY rfl (ZY aT.out) rfl) (eN (ifc xk ?_ ?_))))
 intro fL xl
 refine cT Z fL ?_
 have q:=bnd xl
 obtain ⟨⟨⟩,xE,mI⟩:=q
 try dsimp only at mI
 let bn:Res:=.row au av 3 1 (nA KL.encI (nI aq ap.from_.toNat (w64 ((gd aq ap.to_.toNat) + ap.count))))
 let dp:Res:=.blk b8 91 [.slice au ((nI aq ap.from_.toNat (w64 ((gd aq ap.to_.toNat) + ap.count))).length) av,.slice az ((nI aV ap.from_.toNat (↑aZ:Int)).length) aS]
 let bW:Res:=.row az aS 3 1 (nA KL.encI (nI aV ap.from_.toNat (↑aZ:Int)))
 refine Zp (fun σ_ w_=>∃ (U_:PHeap),σ_ 0=.pointer (some ⟨aj,0,none⟩)/\σ_ 2=.bool p2/\σ_ 6=.pointer (some ⟨b4,0,none⟩)/\σ_ 9=.pointer (some ⟨b8,0,none⟩)/\σ_ 15=jV ap.from_/\σ_ 54=jV (w64 ((↑(p0.number.length):Int) + 1))/\σ_ 55=jV (↑bC:Int)/\σ_ 60=.slice bv p0.edges.length bw/\σ_ 61=jV (↑p0.edges.length:Int)/\σ_ 62=jV (↑aZ:Int)/\PHeap.Le aX U_/\SW w [B1,.obj aa (.map ae ah)] U U_ [.blk bf 120 aW,.blk b4 91 B0,B1,.obj aa (.map ae ah),bn,bW,dp] w_) ?_ ?_
 refine CK.fresh fun bp bj=>?_
 have jQ:bp 0=.pointer (some ⟨aj,0,none⟩):=(bj 0).trans cQ
 have jR:bp 2=.bool p2:=(bj 2).trans cj
 have jS:bp 6=.pointer (some ⟨b4,0,none⟩):=(bj 6).trans cR
 have dI:bp 9=.pointer (some ⟨b8,0,none⟩):=(bj 9).trans br
 have pO:bp 12=jV (↑aZ:Int):=(bj 12).trans rfl
 have pP:bp 13=.pointer (some ⟨bf,0,none⟩):=(bj 13).trans rfl
 have pQ:bp 14=jV ap.to_:=(bj 14).trans rfl
 have fb:bp 15=jV ap.from_:=(bj 15).trans rfl
 have jU:bp 54=jV (w64 ((↑(p0.number.length):Int) + 1)):=(bj 54).trans cS
 have jW:bp 55=jV (↑bC:Int):=(bj 55).trans cU
 have jX:bp 60=.slice bv p0.edges.length bw:=(bj 60).trans cm
 have jY:bp 61=jV (↑p0.edges.length:Int):=(bj 61).trans cn
 have jZ:bp 62=jV (↑aZ:Int):=(bj 62).trans bK
 clear bj
 refine bnK xE fun _ bG mJ=>zt zq [3,1,3,3,2,3,3,1,3,3,1,3,1,3,3,3,0,3,0] (wEU (wQW gCy)) (by kernel_rfl) ?_
 have bO:=bt.drew
 generalize hw_W1484:({ iM with drawn:=iM.drawn + 1 }:World)=Ae at bO ⊢
 refine oR Z (zJ Z dI ZQ Z zy) (oL Z (bO.ldB (j:=6) Z Z Z ZI (v:=.slice au aq.length av) Z) (oM Z fb (oR Z (zJ Z dI ZQ Z zy) (oM Z fb (oR Z (zJ Z dI ZQ Z zy) (oL Z (bO.ldB (j:=6) Z Z Z ZI (v:=.slice au aq.length av) Z) (oM Z pQ (oR Z (zl Z Z bz Z zD zC (wAu bF) (wAv bF)) ?_))))))))
 have wR:=wAx (xs:=aq) (wAT bF)
 refine ZD rfl rfl rfl rfl (bO.ldR (j:=4) rfl bz rfl rfl zE (wAS (sz:=1) (fun _=>rfl) _ _ 0 _ wR (by first | omega | rfl | simp) rfl)) rfl (zV rfl rfl rfl rfl (fun _=>zJ rfl pP yO rfl zC) (ZD rfl rfl rfl rfl (bO.ldB (j:=0) rfl rfl rfl zE (v:=jV ap.count) rfl) rfl (zV rfl rfl rfl rfl (fun _=>zU rfl rfl rfl) (zL rfl rfl rfl rfl rfl pO (zV rfl rfl rfl rfl (fun _=>zl rfl rfl bz rfl zD zC (wAu bL) (wAv bL)) (zi ?_ ?_))))))
 refine zu Z Z Z Z (bO.ldB (j:=6) Z Z Z ZI (v:=.slice az aV.length aS) Z) ?_
 have wS:=wAx (xs:=aq) (wAT bL)
 refine yJ (j:=4) (vs:=[jV (w64 ((gd aq ap.to_.toNat) + ap.count))]) (cs':=nA KL.encI (nI aq ap.from_.toNat (w64 ((gd aq ap.to_.toNat) + ap.count)))) rfl rfl rfl rfl bO rfl bz rfl rfl rfl zC (by rw [wAE (f:=KL.encI) (sz:=1) (fun _=>rfl)];have hz:=wAT bL;show _ + 1 <= _;first | omega | (simp only [nG];omega) | (simp only [nE,nB,nD];omega)) rfl (wBn (sz:=1) (fo:=0) (fun _=>rfl) _ _ _ _ wS (by first | omega | (simp only [nG];omega) | (simp only [nE,nB,nD];omega)) (zA rfl) rfl) rfl ?_
 intro iN vo
 have vp:SW w [B1,.obj aa (.map ae ah)] U aX [.blk bf 120 aW,.blk b4 91 B0,B1,.obj aa (.map ae ah),bn,bm,bJ] iN:=vo
 let eh:Res:=.blk b8 91 [.slice au ((nI aq ap.from_.toNat (w64 ((gd aq ap.to_.toNat) + ap.count))).length) av,.slice az aV.length aS]
 have mu:SW w [B1,.obj aa (.map ae ah)] U aX [.blk bf 120 aW,.blk b4 91 B0,B1,.obj aa (.map ae ah),bn,bm,eh] iN:=by simpa only [B0,B1,aW,bm,bJ,bn,eh,nH] using vp
 obtain ⟨Az,me⟩:=mu.rowSome (j:=5) rfl (by rw [wAE (f:=KL.encI) (sz:=1) (fun _=>rfl) aV];have hz:=wAT bG;omega)
 refine oR Z (zl Z Z me Z zD zC (wAu bG) (wAv bG)) ?_
 have wU:=wAx (xs:=aV) (wAT bG)
 refine yJ (j:=5) (vs:=[jV (↑aZ:Int)]) (cs':=nA KL.encI (nI aV ap.from_.toNat (↑aZ:Int))) rfl rfl rfl rfl mu rfl me rfl rfl rfl zC (by rw [wAE (f:=KL.encI) (sz:=1) (fun _=>rfl)];have hz:=wAT bG;show _ + 1 <= _;first | omega | (simp only [nG];omega) | (simp only [nE,nB,nD];omega)) rfl (wBn (sz:=1) (fo:=0) (fun _=>rfl) _ _ _ _ wU (by first | omega | (simp only [nG];omega) | (simp only [nE,nB,nD];omega)) (zA rfl) rfl) rfl ?_
 intro iO vq
 have vr:SW w [B1,.obj aa (.map ae ah)] U aX [.blk bf 120 aW,.blk b4 91 B0,B1,.obj aa (.map ae ah),bn,bW,eh] iO:=vq
 have vt:SW w [B1,.obj aa (.map ae ah)] U aX [.blk bf 120 aW,.blk b4 91 B0,B1,.obj aa (.map ae ah),bn,bW,dp] iO:=by simpa only [B0,B1,aW,bn,dp,bW,eh,nH] using vr
 refine zd ?_
 cases mJ
 exact zI ⟨Z,⟨aX,jQ,jR,jS,dI,fb,jU,jW,jX,jY,jZ,(zK _),vt⟩⟩
 have wV:=wAx (xs:=aq) (wAT bL)
 refine yJ (j:=4) (vs:=[jV (w64 ((gd aq ap.to_.toNat) + ap.count))]) (cs':=nA KL.encI (nI aq ap.from_.toNat (w64 ((gd aq ap.to_.toNat) + ap.count)))) rfl rfl rfl rfl bO rfl bz rfl rfl rfl zC (by rw [wAE (f:=KL.encI) (sz:=1) (fun _=>rfl)];have hz:=wAT bL;show _ + 1 <= _;first | omega | (simp only [nG];omega) | (simp only [nE,nB,nD];omega)) rfl (wBn (sz:=1) (fo:=0) (fun _=>rfl) _ _ _ _ wV (by first | omega | (simp only [nG];omega) | (simp only [nE,nB,nD];omega)) (zA rfl) rfl) rfl ?_
 intro iP vu
 have vv:SW w [B1,.obj aa (.map ae ah)] U aX [.blk bf 120 aW,.blk b4 91 B0,B1,.obj aa (.map ae ah),bn,bm,bJ] iP:=vu
 let eu:Res:=.blk b8 91 [.slice au ((nI aq ap.from_.toNat (w64 ((gd aq ap.to_.toNat) + ap.count))).length) av,.slice az aV.length aS]
 have gh:SW w [B1,.obj aa (.map ae ah)] U aX [.blk bf 120 aW,.blk b4 91 B0,B1,.obj aa (.map ae ah),bn,bm,eu] iP:=by simpa only [B0,B1,aW,bm,bJ,bn,eu,nH] using vv
 refine zu Z Z Z Z (gh.ldB (j:=6) Z Z Z ZI (v:=.slice az aV.length aS) Z) ?_
 obtain ⟨AA,mf⟩:=gh.rowSome (j:=5) rfl (by rw [wAE (f:=KL.encI) (sz:=1) (fun _=>rfl) aV];have hz:=wAT bG;omega)
 refine oR Z (zl Z Z mf Z zD zC (wAu bG) (wAv bG)) ?_
 have wW:=wAx (xs:=aV) (wAT bG)
 refine yJ (j:=5) (vs:=[jV (↑aZ:Int)]) (cs':=nA KL.encI (nI aV ap.from_.toNat (↑aZ:Int))) rfl rfl rfl rfl gh rfl mf rfl rfl rfl zC (by rw [wAE (f:=KL.encI) (sz:=1) (fun _=>rfl)];have hz:=wAT bG;show _ + 1 <= _;first | omega | (simp only [nG];omega) | (simp only [nE,nB,nD];omega)) rfl (wBn (sz:=1) (fo:=0) (fun _=>rfl) _ _ _ _ wW (by first | omega | (simp only [nG];omega) | (simp only [nE,nB,nD];omega)) (zA rfl) rfl) rfl ?_
 intro iQ vw
 have vx:SW w [B1,.obj aa (.map ae ah)] U aX [.blk bf 120 aW,.blk b4 91 B0,B1,.obj aa (.map ae ah),bn,bW,eu] iQ:=vw
 have vy:SW w [B1,.obj aa (.map ae ah)] U aX [.blk bf 120 aW,.blk b4 91 B0,B1,.obj aa (.map ae ah),bn,bW,dp] iQ:=by simpa only [B0,B1,aW,bn,dp,bW,eu,nH] using vx
 refine zd ?_
 cases mJ
 exact zI ⟨Z,⟨aX,jQ,jR,jS,dI,fb,jU,jW,jX,jY,jZ,(zK _),vy⟩⟩
 rintro BD Af ⟨ou,pR,pS,pT,pU,pV,pW,pX,pY,pZ,p6,xO,vz⟩
 refine rR fL2 Z (oM Z pV (oA Z Z (zd (zm ?_))))
 cases mI
 exact zI ⟨rfl,⟨ou,pR,pS,pT,pU,rfl,pW,pX,pY,pZ,p6,xO,(vz.pick [1,2,3,4,5,6] _ (by decide) rfl),(nH.trans cV),(nH.trans cW)⟩⟩
 intro fL xm
 refine cF Z fL (ZS (zm ?_))
 cases xm
 exact zI ⟨rfl,⟨aX,cQ,cj,cR,br,eZ,cS,cU,cm,cn,bK,(zK _),(bt.pick [1,2,3,4,5,6] _ (by decide) rfl),cV,cW⟩⟩
 intro aT xn
 refine oF Z aT (oF Z aT (oF Z aT (oF Z aT (oF Z aT (oF Z aT (oF Z aT (oF Z aT (oF Z aT (oF Z aT (oF Z aT (oF Z aT (oF Z aT (oF Z aT (oR Z (zZ Z (ZL aT.out) Z) (eN (zn Z (ZS (zm ?_))))))))))))))))))
 cases xn
 exact zI ⟨rfl,⟨aX,cQ,cj,cR,br,eZ,cS,cU,cm,cn,bK,(zK _),(bt.pick [1,2,3,4,5,6] _ (by decide) rfl),cV,cW⟩⟩
 intro fK xo
 refine zn (congrArg nL (nM.2 fK.out)) (kN (zN (zt zq [3,1,3,3,1,3,3,3,1,3,3,1,3,1,3,3,1,3,3,1,3,3] fL22 (by kernel_rfl) ?_)))
 have bu:=dL.drew
 generalize hw_W1538:({ eE with drawn:=eE.drawn + 1 }:World)=iR at bu ⊢
 refine oR Z (zJ Z br ZQ Z zy) (oL Z (bu.ldB (j:=6) Z Z Z ZI (v:=.slice au aq.length av) Z) (oM Z Z (bnK xo fun _ bH xp=>?_)))
 obtain ⟨AD,bA⟩:=bu.rowSome (j:=4) rfl (by rw [wAE (f:=KL.encI) (sz:=1) (fun _=>rfl) aq];have hz:=wAT bH;omega)
 refine oR Z (zl Z Z bA Z zD zC (wAu bH) (wAv bH)) ?_
 have wX:=wAx (xs:=aq) (wAT bH)
 refine ZD rfl rfl rfl rfl (bu.ldR (j:=4) rfl bA rfl rfl zE (wAS (sz:=1) (fun _=>rfl) _ _ 0 _ wX (by first | omega | rfl | simp) rfl)) rfl (zV rfl rfl rfl rfl (fun _=>zP rfl rfl rfl) (zL rfl rfl rfl rfl rfl rfl (ifc xp ?_ ?_)))
 intro aU xq
 refine rU Z (wT Z aU) (zJ Z br ZQ Z zy) (ZD Z Z Z (wT Z aU) (bu.ldB (j:=6) Z Z Z ZI (v:=.slice au aq.length av) Z) Z (zL Z Z Z (wT Z aU) Z Z (rU Z (wT Z aU) (zl Z Z bA Z zD zC (wAu bH) (wAv bH)) ?_)))
 have wY:=wAx (xs:=aq) (wAT bH)
 refine ZD rfl rfl rfl (zR rfl rfl (ZY aU.out)) (bu.ldR (j:=4) rfl bA rfl rfl zE (wAS (sz:=1) (fun _=>rfl) _ _ 0 _ wY (by first | omega | rfl | simp) rfl)) rfl (zV rfl rfl rfl (zR rfl rfl (ZY aU.out)) (fun _=>zJ rfl rfl yO rfl zC) (ZD rfl rfl rfl (zR rfl rfl (ZY aU.out)) (bu.ldB (j:=0) rfl rfl rfl zE (v:=jV ap.count) rfl) rfl (zV rfl rfl rfl (zR rfl rfl (ZY aU.out)) (fun _=>zU rfl rfl rfl) (zV rfl rfl rfl (zR rfl rfl (ZY aU.out)) (fun _=>zJ rfl br ZQ rfl zy) (ZD rfl rfl rfl (zR rfl rfl (ZY aU.out)) (bu.ldB (j:=6) rfl rfl rfl ZI (v:=.slice au aq.length av) rfl) rfl (zL rfl rfl rfl (zR rfl rfl (ZY aU.out)) rfl rfl (bnK xq fun _ bM xr=>zV rfl rfl rfl (zR rfl rfl (ZY aU.out)) (fun _=>zl rfl rfl bA rfl zD zC (wAu bM) (wAv bM)) ?_)))))))
 have wZ:=wAx (xs:=aq) (wAT bM)
 refine ZD rfl rfl rfl (zR rfl rfl (ZY aU.out)) (bu.ldR (j:=4) rfl bA rfl rfl zE (wAS (sz:=1) (fun _=>rfl) _ _ 0 _ wZ (by first | omega | rfl | simp) rfl)) rfl (zV rfl rfl rfl (zR rfl rfl (ZY aU.out)) (fun _=>zP rfl rfl rfl) (zV rfl rfl rfl rfl (fun _=>zY rfl (ZY aU.out) rfl) (eN (ifc xr ?_ ?_))))
 intro fM xt
 refine cT Z fM ?_
 have q:=bnd xt
 obtain ⟨⟨⟩,xF,mK⟩:=q
 try dsimp only at mK
 let bo:Res:=.row au av 3 1 (nA KL.encI (nI aq ap.to_.toNat (w64 ((gd aq ap.from_.toNat) + ap.count))))
 let dq:Res:=.blk b8 91 [.slice au ((nI aq ap.to_.toNat (w64 ((gd aq ap.from_.toNat) + ap.count))).length) av,.slice az ((nI aV ap.to_.toNat (↑aZ:Int)).length) aS]
 let bX:Res:=.row az aS 3 1 (nA KL.encI (nI aV ap.to_.toNat (↑aZ:Int)))
 refine Zp (fun σ_ w_=>∃ (U_:PHeap),σ_ 0=.pointer (some ⟨aj,0,none⟩)/\σ_ 2=.bool p2/\σ_ 6=.pointer (some ⟨b4,0,none⟩)/\σ_ 9=.pointer (some ⟨b8,0,none⟩)/\σ_ 15=jV ap.to_/\σ_ 54=jV (w64 ((↑(p0.number.length):Int) + 1))/\σ_ 55=jV (↑bC:Int)/\σ_ 60=.slice bv p0.edges.length bw/\σ_ 61=jV (↑p0.edges.length:Int)/\σ_ 62=jV (↑aZ:Int)/\PHeap.Le aX U_/\SW w [B1,.obj aa (.map ae ah)] U U_ [.blk bf 120 aW,.blk b4 91 B0,B1,.obj aa (.map ae ah),bo,bX,dq] w_) ?_ ?_
 refine CK.fresh fun bq bk=>?_
 have j0:bq 0=.pointer (some ⟨aj,0,none⟩):=(bk 0).trans cQ
 have j3:bq 2=.bool p2:=(bk 2).trans cj
 have j4:bq 6=.pointer (some ⟨b4,0,none⟩):=(bk 6).trans cR
 have dJ:bq 9=.pointer (some ⟨b8,0,none⟩):=(bk 9).trans br
 have p7:bq 12=jV (↑aZ:Int):=(bk 12).trans rfl
 have p8:bq 13=.pointer (some ⟨bf,0,none⟩):=(bk 13).trans rfl
 have p9:bq 14=jV ap.from_:=(bk 14).trans rfl
 have fc:bq 15=jV ap.to_:=(bk 15).trans rfl
 have j5:bq 54=jV (w64 ((↑(p0.number.length):Int) + 1)):=(bk 54).trans cS
 have j6:bq 55=jV (↑bC:Int):=(bk 55).trans cU
 have j7:bq 60=.slice bv p0.edges.length bw:=(bk 60).trans cm
 have j8:bq 61=jV (↑p0.edges.length:Int):=(bk 61).trans cn
 have j9:bq 62=jV (↑aZ:Int):=(bk 62).trans bK
 clear bk
 refine bnK xF fun _ bI mL=>zt zq [3,1,3,3,2,3,3,1,3,3,1,3,1,3,3,3,0,3,0] (wEU (wQW gCy)) (by kernel_rfl) ?_
 have bP:=bu.drew
 generalize hw_W1587:({ iR with drawn:=iR.drawn + 1 }:World)=Ag at bP ⊢
 refine oR Z (zJ Z dJ ZQ Z zy) (oL Z (bP.ldB (j:=6) Z Z Z ZI (v:=.slice au aq.length av) Z) (oM Z fc (oR Z (zJ Z dJ ZQ Z zy) (oM Z fc (oR Z (zJ Z dJ ZQ Z zy) (oL Z (bP.ldB (j:=6) Z Z Z ZI (v:=.slice au aq.length av) Z) (oM Z p9 (oR Z (zl Z Z bA Z zD zC (wAu bH) (wAv bH)) ?_))))))))
 have w5:=wAx (xs:=aq) (wAT bH)
 refine ZD rfl rfl rfl rfl (bP.ldR (j:=4) rfl bA rfl rfl zE (wAS (sz:=1) (fun _=>rfl) _ _ 0 _ w5 (by first | omega | rfl | simp) rfl)) rfl (zV rfl rfl rfl rfl (fun _=>zJ rfl p8 yO rfl zC) (ZD rfl rfl rfl rfl (bP.ldB (j:=0) rfl rfl rfl zE (v:=jV ap.count) rfl) rfl (zV rfl rfl rfl rfl (fun _=>zU rfl rfl rfl) (zL rfl rfl rfl rfl rfl p7 (zV rfl rfl rfl rfl (fun _=>zl rfl rfl bA rfl zD zC (wAu bM) (wAv bM)) (zi ?_ ?_))))))
 refine zu Z Z Z Z (bP.ldB (j:=6) Z Z Z ZI (v:=.slice az aV.length aS) Z) ?_
 have w6:=wAx (xs:=aq) (wAT bM)
 refine yJ (j:=4) (vs:=[jV (w64 ((gd aq ap.from_.toNat) + ap.count))]) (cs':=nA KL.encI (nI aq ap.to_.toNat (w64 ((gd aq ap.from_.toNat) + ap.count)))) rfl rfl rfl rfl bP rfl bA rfl rfl rfl zC (by rw [wAE (f:=KL.encI) (sz:=1) (fun _=>rfl)];have hz:=wAT bM;show _ + 1 <= _;first | omega | (simp only [nG];omega) | (simp only [nE,nB,nD];omega)) rfl (wBn (sz:=1) (fo:=0) (fun _=>rfl) _ _ _ _ w6 (by first | omega | (simp only [nG];omega) | (simp only [nE,nB,nD];omega)) (zA rfl) rfl) rfl ?_
 intro iT vA
 have vB:SW w [B1,.obj aa (.map ae ah)] U aX [.blk bf 120 aW,.blk b4 91 B0,B1,.obj aa (.map ae ah),bo,bm,bJ] iT:=vA
 let eA:Res:=.blk b8 91 [.slice au ((nI aq ap.to_.toNat (w64 ((gd aq ap.from_.toNat) + ap.count))).length) av,.slice az aV.length aS]
 have mw:SW w [B1,.obj aa (.map ae ah)] U aX [.blk bf 120 aW,.blk b4 91 B0,B1,.obj aa (.map ae ah),bo,bm,eA] iT:=by simpa only [B0,B1,aW,bm,bJ,bo,eA,nH] using vB
 obtain ⟨AE,mg⟩:=mw.rowSome (j:=5) rfl (by rw [wAE (f:=KL.encI) (sz:=1) (fun _=>rfl) aV];have hz:=wAT bI;omega)
 refine oR Z (zl Z Z mg Z zD zC (wAu bI) (wAv bI)) ?_
 have w7:=wAx (xs:=aV) (wAT bI)
 refine yJ (j:=5) (vs:=[jV (↑aZ:Int)]) (cs':=nA KL.encI (nI aV ap.to_.toNat (↑aZ:Int))) rfl rfl rfl rfl mw rfl mg rfl rfl rfl zC (by rw [wAE (f:=KL.encI) (sz:=1) (fun _=>rfl)];have hz:=wAT bI;show _ + 1 <= _;first | omega | (simp only [nG];omega) | (simp only [nE,nB,nD];omega)) rfl (wBn (sz:=1) (fo:=0) (fun _=>rfl) _ _ _ _ w7 (by first | omega | (simp only [nG];omega) | (simp only [nE,nB,nD];omega)) (zA rfl) rfl) rfl ?_
 intro iU vC
 have vD:SW w [B1,.obj aa (.map ae ah)] U aX [.blk bf 120 aW,.blk b4 91 B0,B1,.obj aa (.map ae ah),bo,bX,eA] iU:=vC
 have vE:SW w [B1,.obj aa (.map ae ah)] U aX [.blk bf 120 aW,.blk b4 91 B0,B1,.obj aa (.map ae ah),bo,bX,dq] iU:=by simpa only [B0,B1,aW,bo,dq,bX,eA,nH] using vD
 refine zd ?_
 cases mL
 exact zI ⟨Z,⟨aX,j0,j3,j4,dJ,fc,j5,j6,j7,j8,j9,(zK _),vE⟩⟩
 have w8:=wAx (xs:=aq) (wAT bM)
 refine yJ (j:=4) (vs:=[jV (w64 ((gd aq ap.from_.toNat) + ap.count))]) (cs':=nA KL.encI (nI aq ap.to_.toNat (w64 ((gd aq ap.from_.toNat) + ap.count)))) rfl rfl rfl rfl bP rfl bA rfl rfl rfl zC (by rw [wAE (f:=KL.encI) (sz:=1) (fun _=>rfl)];have hz:=wAT bM;show _ + 1 <= _;first | omega | (simp only [nG];omega) | (simp only [nE,nB,nD];omega)) rfl (wBn (sz:=1) (fo:=0) (fun _=>rfl) _ _ _ _ w8 (by first | omega | (simp only [nG];omega) | (simp only [nE,nB,nD];omega)) (zA rfl) rfl) rfl ?_
 intro iV vF
 have vG:SW w [B1,.obj aa (.map ae ah)] U aX [.blk bf 120 aW,.blk b4 91 B0,B1,.obj aa (.map ae ah),bo,bm,bJ] iV:=vF
 let eD:Res:=.blk b8 91 [.slice au ((nI aq ap.to_.toNat (w64 ((gd aq ap.from_.toNat) + ap.count))).length) av,.slice az aV.length aS]
 have gi:SW w [B1,.obj aa (.map ae ah)] U aX [.blk bf 120 aW,.blk b4 91 B0,B1,.obj aa (.map ae ah),bo,bm,eD] iV:=by simpa only [B0,B1,aW,bm,bJ,bo,eD,nH] using vG
 refine zu Z Z Z Z (gi.ldB (j:=6) Z Z Z ZI (v:=.slice az aV.length aS) Z) ?_
 obtain ⟨AG,mh⟩:=gi.rowSome (j:=5) rfl (by rw [wAE (f:=KL.encI) (sz:=1) (fun _=>rfl) aV];have hz:=wAT bI;omega)
 refine oR Z (zl Z Z mh Z zD zC (wAu bI) (wAv bI)) ?_
 have w9:=wAx (xs:=aV) (wAT bI)
 refine yJ (j:=5) (vs:=[jV (↑aZ:Int)]) (cs':=nA KL.encI (nI aV ap.to_.toNat (↑aZ:Int))) rfl rfl rfl rfl gi rfl mh rfl rfl rfl zC (by rw [wAE (f:=KL.encI) (sz:=1) (fun _=>rfl)];have hz:=wAT bI;show _ + 1 <= _;first | omega | (simp only [nG];omega) | (simp only [nE,nB,nD];omega)) rfl (wBn (sz:=1) (fo:=0) (fun _=>rfl) _ _ _ _ w9 (by first | omega | (simp only [nG];omega) | (simp only [nE,nB,nD];omega)) (zA rfl) rfl) rfl ?_
 intro iW vH
 have vJ:SW w [B1,.obj aa (.map ae ah)] U aX [.blk bf 120 aW,.blk b4 91 B0,B1,.obj aa (.map ae ah),bo,bX,eD] iW:=vH
 have vK:SW w [B1,.obj aa (.map ae ah)] U aX [.blk bf 120 aW,.blk b4 91 B0,B1,.obj aa (.map ae ah),bo,bX,dq] iW:=by simpa only [B0,B1,aW,bo,dq,bX,eD,nH] using vJ
 refine zd ?_
 cases mL
 exact zI ⟨Z,⟨aX,j0,j3,j4,dJ,fc,j5,j6,j7,j8,j9,(zK _),vK⟩⟩
 rintro BE Ah ⟨ow,qa,qb,qc,qd,qe,qf,qh,qi,qj,qk,xP,vL⟩
 refine rR fL2 Z (oM Z qe (oA Z Z (zd (zm ?_))))
 cases mK
 exact zI ⟨rfl,⟨ow,qa,qb,qc,qd,rfl,qf,qh,qi,qj,qk,xP,(vL.pick [1,2,3,4,5,6] _ (by decide) rfl),(nH.trans cV),(nH.trans cW)⟩⟩
 intro fM xu
 refine cF Z fM (ZS (zm ?_))
 cases xu
 exact zI ⟨rfl,⟨aX,cQ,cj,cR,br,eZ,cS,cU,cm,cn,bK,(zK _),(bu.pick [1,2,3,4,5,6] _ (by decide) rfl),cV,cW⟩⟩
 intro aU xw
 refine oF Z aU (oF Z aU (oF Z aU (oF Z aU (oF Z aU (oF Z aU (oF Z aU (oF Z aU (oF Z aU (oF Z aU (oF Z aU (oF Z aU (oF Z aU (oF Z aU (oR Z (zZ Z (ZL aU.out) Z) (eN (zn Z (ZS (zm ?_))))))))))))))))))
 cases xw
 exact zI ⟨rfl,⟨aX,cQ,cj,cR,br,eZ,cS,cU,cm,cn,bK,(zK _),(bu.pick [1,2,3,4,5,6] _ (by decide) rfl),cV,cW⟩⟩
 rintro BF Ai ⟨ox,qm,qn,qo,qp,qq,qr,qt,qu,qv,qw,xR,vM,ua,ub⟩
 refine rR fL2 Z (oR Z (Zc (zU Z qw Z) (congrArg (jV) xb.out)) (oM Z Z (zd ?_)))
 cases mH
 exact zI ⟨Z,⟨ox,Z,qm,qn,qo,qp,qq,qr,qt,qu,qv,(n8.trans xR),vM,ua,ub⟩⟩
 rintro BG Aj ⟨fC,tK,qx,qy,fV,k9,lc,qz,qA,AL,qB,xS,gm,uc,ud⟩
 have pz:Hid (¬ ((↑(((↑p0.edges.length:Int):Int) - 0).toNat:Int) < (↑p0.edges.length:Int))):=zO (wBM)
 refine sR fL1 Z (oR Z (zP Z tK qB) (eN (zN (cF Z pz (ZX (zj (zj (ZN (zI (sR fL2 Z (oM Z lc (oR Z (zP Z Z Z) (eN (ifc mG ?_ ?_))))))))))))))
 intro fN xx
 refine cT Z fN (sR gCn Z ?_)
 let cB:List Value:=[.slice au oj.length av,.slice az ol.length aS]
 refine oL Z (gm.ldBA (j:=5) Z Z k9 Tryz.isAgg91 Zw (vs:=cB) Z Z) (ze (j:=0) (vs:=cB) Z Z Z Z gm Z fV Z Z Zw (zA Z) Z Z Z ?_)
 intro o6 vN
 have my:SW w [B1,.obj aa (.map ae ah)] U fC [.blk b4 91 cB,B1,.obj aa (.map ae ah),.row au av 3 1 (nA KL.encI oj),.row az aS 3 1 (nA KL.encI ol),.blk b8 91 cB] o6:=vN
 refine oA Z Z (oA Z Z (eN (zS (zo (zW ?_)))))
 have q:=wAe xx
 obtain ⟨yj,xz,pC⟩:=q
 have q:=wCA gE gu (wE yj pC)
 obtain rfl:=q
 refine zW (zo (zW ?_))
 cases xz
 exact ⟨rfl,_,(wEL (rs:=[.cell 6 91,.tmp 7,.tmp 8]) (vs:=[.agg cB.toArray,jV 0,.bool true]) ⟨⟨_,fV,(wBT Tryz.isAgg91 Zw (my.blkAt (k:=0) rfl) (vs:=cB) rfl rfl)⟩,⟨rfl,⟨rfl,trivial⟩⟩⟩ rfl),fC,_,(my.pick [3,4,1,2] _ (by decide) rfl),au,av,az,aS,rfl,rfl⟩
 intro fN xA
 refine cF Z fN (ZS (zm (zI (rR fL2 Z (oR Z (Zc (zU Z qA Z) (congrArg (jV) xa.out)) (oM Z Z (zd ?_)))))))
 have q:=nJ xA
 obtain rfl:=q
 exact zI ⟨Z,_,Z,⟨fC,Z,qx,qy,fV,k9,lc,qz,(n7.trans xS),gm,uc,ud⟩⟩
 rintro ⟨om,oq,ym⟩ BH Ak ⟨ir,tL,AM,AN,lf,qC,qD,qE,Bh,mz,A9,Ba⟩ wG
 have mN:=wDe gE gu wG
 try dsimp only at mN
 have pB:Hid (¬ ((↑((w64 ((↑(p0.number.length):Int) + 1):Int) - 0).toNat:Int) < (w64 ((↑(p0.number.length):Int) + 1)))):=zO (wBM)
 refine sR fL1 Z (oR Z (zP Z tL qE) (eN (zN (cF Z pB (ZX (zj (zj (ZN (zI (sR (.fl 0 (.fl 1 (.fx 2 (.fl 3 (.fl 4 .nil)) .stop))) Z ?_))))))))))
 let cC:List Value:=[.slice au om.length av,.slice az oq.length aS]
 refine oL Z (mz.ldBA (j:=5) Z Z qC Tryz.isAgg91 Zw (vs:=cC) Z Z) (oM Z qD (ze (j:=0) (vs:=cC) Z Z Z Z mz Z lf Z Z Zw (zA Z) Z Z Z ?_))
 intro o7 vO
 have mA:SW w [B1,.obj aa (.map ae ah)] U ir [.blk b4 91 cC,B1,.obj aa (.map ae ah),.row au av 3 1 (nA KL.encI om),.row az aS 3 1 (nA KL.encI oq),.blk b8 91 cC] o7:=vO
 refine oA Z Z (oA Z Z (eN (zS ?_)))
 cases mN
 exact ⟨rfl,_,(wEL (rs:=[.cell 6 91,.tmp 7,.tmp 8]) (vs:=[.agg cC.toArray,jV ym,.bool false]) ⟨⟨_,lf,(wBT Tryz.isAgg91 Zw (mA.blkAt (k:=0) rfl) (vs:=cC) rfl rfl)⟩,⟨rfl,⟨rfl,trivial⟩⟩⟩ rfl),ir,_,(mA.pick [3,4,1,2] _ (by decide) rfl),au,av,az,aS,rfl,rfl⟩
end Go.Proofs.YtkeeechdijfkhaaGreat
namespace Go.Proofs.YtkeeechdijfkhaaGreat
open Go.KL
set_option maxHeartbeats 4000000
theorem wGL (p0:wAr) (aq:Nat) (ai:Option Addr) (au:Nat) (aj:Option Addr) (av:Nat) (ak:Option Addr) (az:Nat) (am:Option Addr) (aS:Nat) (ab:Nat) (ae:Array MapEntry) (ah:Nat) (ap:Option Addr) (aT:Nat) (w:World) (U:PHeap) (hS:St0 w U [.blk aq 97 [.slice ai p0.Race.Starts.length au,.slice aj p0.Race.Splits.length av,.slice ak p0.Race.Clocks.length az,.slice am p0.Race.Readings.length aS,.map (some ab),.slice ap p0.edges.length aT],.obj ab (.map ae ah)]) (bt:Sl U 1 ai au p0.Race.Starts.length (nA KL.encI p0.Race.Starts)) (bu:Sl U 2 aj av p0.Race.Splits.length (nA wAP p0.Race.Splits)) (bv:Sl U 3 ak az p0.Race.Clocks.length (nA wAA p0.Race.Clocks)) (bw:Sl U 4 am aS p0.Race.Readings.length (nA wAL p0.Race.Readings)) (bz:MpR ae wDD wDV p0.number) (bA:Sl U 7 ap aT p0.edges.length (nA wAZ p0.edges)) {r:Bool} (hm:wBv p0=some r):Gv Tryz.prog 32 [.pointer (some ⟨aq,0,none⟩)] w (wCQ w [.blk aq 97 [.slice ai p0.Race.Starts.length au,.slice aj p0.Race.Splits.length av,.slice ak p0.Race.Clocks.length az,.slice am p0.Race.Readings.length aS,.map (some ab),.slice ap p0.edges.length aT],.obj ab (.map ae ah)] U (fun U_ L_ v=>v=.bool r/\L_=[.blk aq 97 [.slice ai p0.Race.Starts.length au,.slice aj p0.Race.Splits.length av,.slice ak p0.Race.Clocks.length az,.slice am p0.Race.Readings.length aS,.map (some ab),.slice ap p0.edges.length aT],.obj ab (.map ae ah)])):=by
 unfold wBv at hm
 refine Gv.of Tryz.func32 Z Tryz.ntmps32 Tryz.results32 Z (sR fL1 Z (oA Z Z (eN (sR (.fl 0 (.fx 1 (fC2_5 (.fx 6 gCe .stop)) .stop)) Z (oM Z Z ?_)))))
 have q:=bnd hm
 obtain ⟨⟨x3,x4,x5⟩,h6,bh⟩:=q
 try dsimp only at bh
 refine zH 2 Z Z Z Z (zG Z Z Tryz.call33 (zB Z (zB Z (zB Z zM))) Z) hS (fun hs=>wBk p0 aq ai au aj av ak az am aS ab ae ah ap aT (-1) false w U hs bt bu bv bw bz bA h6) (.inl Z) ?_
 rintro U8 L9 bG bi bF bn ⟨aW,aZ,aX,ba,rfl,rfl⟩
 let B0:Res:=.blk aq 97 [.slice ai p0.Race.Starts.length au,.slice aj p0.Race.Splits.length av,.slice ak p0.Race.Clocks.length az,.slice am p0.Race.Readings.length aS,.map (some ab),.slice ap p0.edges.length aT]
 let B1:Res:=.row aW aZ 3 1 (nA KL.encI x3.far)
 let B2:Res:=.row aX ba 3 1 (nA KL.encI x3.by_)
 have bo:SW w [B0,.obj ab (.map ae ah)] U U8 [B1,B2,B0,.obj ab (.map ae ah)] bi:=bn
 refine oM Z Z (oR Z (zk Z Z (v:=.agg #[.slice aW x3.far.length aZ,.slice aX x3.by_.length ba]) Z) (oR Z (zk Z Z (v:=jV x4) Z) (oR Z (zk Z Z (v:=.bool x5) Z) (zX (cs:=[.slice none 0 0,.slice none 0 0]) Z Z Z Z Z Zf Z bo ?_))))
 intro bE bk bp
 let B3:List Value:=[.slice aW x3.far.length aZ,.slice aX x3.by_.length ba]
 refine ze (j:=0) (vs:=B3) Z Z Z Z bp Z Z Z Z Zw (zA Z) Z Z Z ?_
 intro bj bq
 have br:SW w [B0,.obj ab (.map ae ah)] U U8 [.blk bk 91 B3,B1,B2,B0,.obj ab (.map ae ah)] bj:=bq
 refine oA Z Z (oA Z Z (eN (sR fL2 Z (oM Z Z (oA Z Z (eN (zS ?_)))))))
 have hE:=nJ bh;first | subst r | cases hE
 exact ⟨rfl,_,(ZT rfl),U8,_,(br.pick [3,4] _ (by decide) rfl),rfl,rfl⟩
theorem wJa (p0:wAD) (au:Option Addr) (aT:Nat) (av:Option Addr) (aU:Nat) (az:Option Addr) (aV:Nat) (aS:Option Addr) (aW:Nat) (p1:List wAa) (bj:Option Addr) (bk:Nat) (w:World) (U:PHeap) (hS:St0 w U []) (bH:Sl U 1 au aT p0.Starts.length (nA KL.encI p0.Starts)) (bI:Sl U 2 av aU p0.Splits.length (nA wAP p0.Splits)) (bJ:Sl U 3 az aV p0.Clocks.length (nA wAA p0.Clocks)) (bK:Sl U 4 aS aW p0.Readings.length (nA wAL p0.Readings)) (cd:Sl U 2 bj bk p1.length (nA wDU p1)) {r:(Option wAr) × Int} (hm:wDa p0 p1=some r):Gv Tryz.prog 15 [.agg #[.slice au p0.Starts.length aT,.slice av p0.Splits.length aU,.slice az p0.Clocks.length aV,.slice aS p0.Readings.length aW],.slice bj p1.length bk] w (wCQ w [] U (fun U_ L_ v=>match r.1 with | none=>v=.tuple #[.pointer none,jV r.2]/\L_=[] | some d=>∃ (b0:Nat) (A0p00:Option Addr) (c0p00:Nat) (A0p01:Option Addr) (c0p01:Nat) (A0p02:Option Addr) (c0p02:Nat) (A0p03:Option Addr) (c0p03:Nat) (m0p1:Nat) (es0p1:Array MapEntry) (ck0p1:Nat) (A0p2:Option Addr) (c0p2:Nat),v=.tuple #[.pointer (some ⟨b0,0,none⟩),jV r.2]/\L_=[.blk b0 97 [.slice A0p00 d.Race.Starts.length c0p00,.slice A0p01 d.Race.Splits.length c0p01,.slice A0p02 d.Race.Clocks.length c0p02,.slice A0p03 d.Race.Readings.length c0p03,.map (some m0p1),.slice A0p2 d.edges.length c0p2],.obj m0p1 (.map es0p1 ck0p1)]/\Sl U_ 1 A0p00 c0p00 d.Race.Starts.length (nA KL.encI d.Race.Starts)/\Sl U_ 2 A0p01 c0p01 d.Race.Splits.length (nA wAP d.Race.Splits)/\Sl U_ 3 A0p02 c0p02 d.Race.Clocks.length (nA wAA d.Race.Clocks)/\Sl U_ 4 A0p03 c0p03 d.Race.Readings.length (nA wAL d.Race.Readings)/\MpR es0p1 wDD wDV d.number/\Sl U_ 7 A0p2 c0p2 d.edges.length (nA wAZ d.edges))):=by
 unfold wDa at hm
 refine Gv.of Tryz.func15 Z Tryz.ntmps15 Tryz.results15 Z (sR gCd Z ?_)
 let B0:List Value:=[.slice au p0.Starts.length aT,.slice av p0.Splits.length aU,.slice az p0.Clocks.length aV,.slice aS p0.Readings.length aW]
 refine ZG (cs:=B0) rfl rfl rfl rfl rfl rfl (by rfl) hS ?_
 intro W1 b2 bZ
 refine oA Z Z (oA Z Z (eN (sR (.fl 0 (.fx 1 (fC2_6 (.nil)) .stop)) Z (oL Z (bZ.ldBA (j:=0) Z Z Z ZK zz (vs:=B0) Z Z) ?_))))
 have q:=bnd hm
 obtain ⟨⟨x5,x6⟩,h7,aX⟩:=q
 try dsimp only at aX
 refine zH 0 Z Z Z Z (zG Z Z Tryz.call29 (zB Z zM) Z) bZ (fun hs=>wJZ p0 au aT av aU az aV aS aW W1 U hs bH bI bJ bK h7) (.inr Z) ?_
 rintro U9 dx dD bb ae bY bW
 rcases x5 with _ | ah
 try dsimp only at aX
 obtain ⟨rfl,rfl⟩:=bW
 have bF:sW w U U9 [.blk b2 28 B0] bb:=bY
 refine oM Z Z (oR Z (zk Z Z (v:=.pointer none) Z) (oR Z (zk Z Z (v:=jV x6) Z) (oA Z Z (oA Z Z (eN (zN (zf (sR fL3 Z (oM Z Z (oR Z (yU Z Z Z) (oA Z Z (eN (ifc aX ?_ ?_)))))))))))))
 intro bB dk
 refine zn (ZL (fun h=>h bB.out)) (sR (wDj gCh) Z (oM Z Z (oL Z (bF.ldBA (j:=0) Z Z Z ZK zz (vs:=B0) Z Z) (oR Z (Runs.mkf Z (zB Z zM) zM) ?_))))
 have cu:=cd.le ae
 have cw:=bH.le ae
 have cx:=bI.le ae
 have cy:=bJ.le ae
 have cz:=bK.le ae
 have cU:FnOK Tryz.prog U9 (.func (.func 31) #[.agg B0.toArray] #[]) ar89 rr89 (fun x=>wAq p0 x):=⟨31,[.agg B0.toArray],[],rfl,Tryz.call31,fun U1 w1 x y vs le hs ha hm=>by obtain rfl:=ha;exact wDc p0 au aT av aU az aV aS aW x w1 U1 hs (cw.le le) (cx.le le) (cy.le le) (cz.le le) hm⟩
 refine bnK dk fun x40 cA dl=>zH 0 Z Z Z Z (zG Z Z Tryz.call30 (zB Z (zB Z zM)) Z) bF (fun hs=>wCz p1 bj bk (fun x=>wAq p0 x) (.func (.func 31) #[.agg B0.toArray] #[]) bb U9 hs cu cU cA) (.inr Z) ?_
 rintro bN dz dE cm dB cX ⟨rfl,rfl⟩
 have cY:sW w U bN [.blk b2 28 B0] cm:=cX
 refine oR Z (Zb Z Z) (oA Z Z (eN (ifc dl ?_ ?_)))
 intro bC dm
 refine zn (nC bC.out) (sR gCn Z (oM Z Z ?_))
 cases dm
 intro bC dp
 refine ZH (nF (bC.out)) (sR fL2 Z (oA Z Z (oA Z Z (eN (zS (zo (zW ?_)))))))
 cases dp
 exact ⟨rfl,_,(wHd rfl rfl),bN,_,(cY.pick [] _ (by decide) rfl),rfl,rfl⟩
 intro bB dq
 refine cT Z bB (sR fL3 Z (oM Z Z (oA Z Z (oA Z Z (eN (zS (zo (zW ?_))))))))
 cases dq
 exact ⟨rfl,_,(wHd rfl rfl),U9,_,(bF.pick [] _ (by decide) rfl),rfl,rfl⟩
 try dsimp only at aX
 obtain ⟨bf,bm,bv,bn,bw,bo,bz,bp,bA,aj,ap,am,aZ,bg,rfl,rfl,cB,cC,cD,cG,bR⟩:=bW
 let B1:Res:=.blk bf 97 [.slice bm ah.Race.Starts.length bv,.slice bn ah.Race.Splits.length bw,.slice bo ah.Race.Clocks.length bz,.slice bp ah.Race.Readings.length bA,.map (some aj),.slice aZ ah.edges.length bg]
 let B2:Res:=.row aZ bg 120 7 (nA wAZ ah.edges)
 have bG:sW w U U9 [B1,.obj aj (.map ap am),B2,.blk b2 28 B0] bb:=bY
 refine oM Z Z (oR Z (zk Z Z (v:=.pointer (some ⟨bf,0,none⟩)) Z) (oR Z (zk Z Z (v:=jV x6) Z) (oA Z Z (oA Z Z (eN (zN (zf (sR fL3 Z (oM Z Z (oR Z (yU Z Z Z) (oA Z Z (eN (ifc aX ?_ ?_)))))))))))))
 intro bD dr
 refine zn (ZL (fun h=>h bD.out)) (sR (wDj gCh) Z (oM Z Z (oL Z (bG.ldBA (j:=3) Z Z Z ZK zz (vs:=B0) Z Z) (oR Z (Runs.mkf Z (zB Z zM) zM) ?_))))
 have cH:=cd.le ae
 have cI:=bH.le ae
 have cJ:=bI.le ae
 have cK:=bJ.le ae
 have cL:=bK.le ae
 have cV:FnOK Tryz.prog U9 (.func (.func 31) #[.agg B0.toArray] #[]) ar89 rr89 (fun x=>wAq p0 x):=⟨31,[.agg B0.toArray],[],rfl,Tryz.call31,fun U1 w1 x y vs le hs ha hm=>by obtain rfl:=ha;exact wDc p0 au aT av aU az aV aS aW x w1 U1 hs (cI.le le) (cJ.le le) (cK.le le) (cL.le le) hm⟩
 refine bnK dr fun dG cN dt=>zH 0 Z Z Z Z (zG Z Z Tryz.call30 (zB Z (zB Z zM)) Z) bG (fun hs=>wCz p1 bj bk (fun x=>wAq p0 x) (.func (.func 31) #[.agg B0.toArray] #[]) bb U9 hs cH cV cN) (.inr Z) ?_
 rintro bO dA dF bt bh cZ ⟨rfl,rfl⟩
 have cb:sW w U bO [B1,.obj aj (.map ap am),B2,.blk b2 28 B0] bt:=cZ
 refine oR Z (Zb Z Z) (oA Z Z (eN (ifc dt ?_ ?_)))
 intro bE du
 refine zn (nC bE.out) (sR gCn Z (oM Z Z ?_))
 have q:=cb.freezeR (k:=2) (n:=ah.edges.length) rfl (wAE (f:=wAZ) (sz:=7) (fun _=>rfl) ah.edges) (by decide)
 obtain ⟨bP,bi,cf,da⟩:=q
 have db:sW w U bP [B1,.obj aj (.map ap am),.blk b2 28 B0] bt:=da
 have cO:=cB.le bh
 have bS:=cO.le bi
 have cP:=cC.le bh
 have bT:=cP.le bi
 have cQ:=cD.le bh
 have bU:=cQ.le bi
 have cR:=cG.le bh
 have bV:=cR.le bi
 refine bnK du fun dH cS dv=>zH 2 Z Z Z Z (zG Z Z Tryz.call32 (zB Z zM) Z) db (fun hs=>wGL ah bf bm bv bn bw bo bz bp bA aj ap am aZ bg bt bP hs bS bT bU bV bR cf cS) (.inl Z) ?_
 rintro br dy dC cj aY cW ⟨rfl,rfl⟩
 have bX:sW w U br [B1,.obj aj (.map ap am),.blk b2 28 B0] cj:=cW
 refine oR Z (Zb Z Z) (oA Z Z (eN (ifc dv ?_ ?_)))
 intro bu de
 refine zn (nC bu.out) (ZS (zm (zI (sR fL3 Z (oM Z Z (oA Z Z (oA Z Z (eN (zS ?_)))))))))
 have cn:=bS.le aY
 have cp:=bT.le aY
 have cq:=bU.le aY
 have cr:=bV.le aY
 have ct:=cf.le aY
 cases de
 exact ⟨rfl,_,(wHd rfl rfl),br,_,(bX.pick [0,1] _ (by decide) rfl),bf,bm,bv,bn,bw,bo,bz,bp,bA,aj,ap,am,aZ,bg,rfl,rfl,cn,cp,cq,cr,bR,ct⟩
 intro bu df
 refine ZH (nF (bu.out)) (sR fL2 Z (oA Z Z (oA Z Z (eN (zS (zo (zW ?_)))))))
 cases df
 exact ⟨rfl,_,(wHd rfl rfl),br,_,(bX.pick [] _ (by decide) rfl),rfl,rfl⟩
 intro bE dg
 refine ZH (nF (bE.out)) (sR fL2 Z (oA Z Z (oA Z Z (eN (zS (zo (zW ?_)))))))
 cases dg
 exact ⟨rfl,_,(wHd rfl rfl),bO,_,(cb.pick [] _ (by decide) rfl),rfl,rfl⟩
 intro bD dh
 refine cT Z bD (sR fL3 Z (oM Z Z (oA Z Z (oA Z Z (eN (zS (zo (zW ?_))))))))
 cases dh
 exact ⟨rfl,_,(wHd rfl rfl),U9,_,(bG.pick [] _ (by decide) rfl),rfl,rfl⟩
theorem wJb (p0:wAa) (w:World) (U:PHeap) (hS:St0 w U [])  {r:wAF} (hm:wEk p0=some r):Gv Tryz.prog 18 [.agg #[jV p0.Skier,jV p0.Mat]] w (wCQ w [] U (fun U_ L_ v=>v=.agg #[jV r.skier,jV r.mat]/\L_=[])):=by
 unfold wEk at hm
 refine Gv.of Tryz.func18 Z Tryz.ntmps18 Tryz.results18 Z (sR gBt Z ?_)
 let B0:List Value:=[jV p0.Skier,jV p0.Mat]
 refine ZG (cs:=B0) rfl rfl rfl rfl rfl rfl (by rfl) hS ?_
 intro W1 b2 ap
 refine zX (cs:=[jV 0,jV 0]) Z Z Z Z Z zh Z ap ?_
 intro W5 b6 ae
 refine eN (sR (wDC (.fx 5 .nil .stop)) Z (oR Z (zJ Z Z yR Z zC) (oL Z (ae.ldB (j:=1) Z Z Z zE (v:=jV p0.Skier) Z) (oR Z (zJ Z Z yR Z zC) (oL Z (ae.ldB (j:=1) Z Z Z zE (v:=jV p0.Mat) Z) (oR Z (zw (pv:=[(0,jV p0.Skier),(1,jV p0.Mat)]) (z:=[jV 0,jV 0]) (cs:=B0) Z (wAC Z (wAC Z wAV)) zh wBr Z Z) (ze (j:=0) (vs:=B0) Z Z Z Z ae Z Z Z Z zF (zA Z) Z Z Z ?_)))))))
 intro W9 am
 have ah:sW w U U [.blk b6 68 B0,.blk b2 37 B0] W9:=am
 refine eN (zS ?_)
 cases hm
 exact ⟨rfl,_,(wMH (v:=.agg B0.toArray) ⟨⟨_,rfl,(wBT zg zF (ah.blkAt (k:=0) rfl) (vs:=B0) rfl rfl)⟩,trivial⟩),U,_,(ah.pick [] _ (by decide) rfl),rfl,rfl⟩
theorem wFY (p0:wAr) (aU:Nat) (aY:Option Addr) (bg:Nat) (aZ:Option Addr) (bh:Nat) (ba:Option Addr) (bi:Nat) (bb:Option Addr) (bj:Nat) (ab:Nat) (ae:Array MapEntry) (ah:Nat) (bf:Option Addr) (bk:Nat) (p1:wAF) (p2:wAF) (w:World) (U:PHeap) (hS:St0 w U [.blk aU 97 [.slice aY p0.Race.Starts.length bg,.slice aZ p0.Race.Splits.length bh,.slice ba p0.Race.Clocks.length bi,.slice bb p0.Race.Readings.length bj,.map (some ab),.slice bf p0.edges.length bk],.obj ab (.map ae ah)]) (cf:Sl U 1 aY bg p0.Race.Starts.length (nA KL.encI p0.Race.Starts)) (cg:Sl U 2 aZ bh p0.Race.Splits.length (nA wAP p0.Race.Splits)) (ci:Sl U 3 ba bi p0.Race.Clocks.length (nA wAA p0.Race.Clocks)) (cj:Sl U 4 bb bj p0.Race.Readings.length (nA wAL p0.Race.Readings)) (bm:MpR ae wDD wDV p0.number) (cm:Sl U 7 bf bk p0.edges.length (nA wAZ p0.edges)) {r:wAH} (hm:wBO p0 p1 p2=some r):Gv Tryz.prog 16 [.pointer (some ⟨aU,0,none⟩),.agg #[jV p1.skier,jV p1.mat],.agg #[jV p2.skier,jV p2.mat]] w (wCQ w [.blk aU 97 [.slice aY p0.Race.Starts.length bg,.slice aZ p0.Race.Splits.length bh,.slice ba p0.Race.Clocks.length bi,.slice bb p0.Race.Readings.length bj,.map (some ab),.slice bf p0.edges.length bk],.obj ab (.map ae ah)] U (fun U_ L_ v=>v=.agg #[jV r.Lo,jV r.Hi]/\L_=[.blk aU 97 [.slice aY p0.Race.Starts.length bg,.slice aZ p0.Race.Splits.length bh,.slice ba p0.Race.Clocks.length bi,.slice bb p0.Race.Readings.length bj,.map (some ab),.slice bf p0.edges.length bk],.obj ab (.map ae ah)])):=by
 unfold wBO at hm
 refine Gv.of Tryz.func16 Z Tryz.ntmps16 Tryz.results16 Z (sR (.fx 0 gBu .stop) Z ?_)
 let B0:List Value:=[jV p1.skier,jV p1.mat]
 refine ZG (cs:=B0) rfl rfl rfl rfl rfl rfl (by rfl) hS ?_
 intro W3 b4 eI
 let B1:List Value:=[jV p2.skier,jV p2.mat]
 refine ZG (cs:=B1) rfl rfl rfl rfl rfl rfl (by rfl) eI ?_
 intro W7 b8 eV
 let B2:List Value:=[jV 0,jV 0]
 refine zX (cs:=B2) Z Z Z Z Z Zv Z eV ?_
 intro cQ am dX
 refine eN ?_
 have q:=bnd hm
 obtain ⟨⟨aX,cp⟩,fd,dq⟩:=q
 try dsimp only at dq
 let B3:Res:=.blk aU 97 [.slice aY p0.Race.Starts.length bg,.slice aZ p0.Race.Splits.length bh,.slice ba p0.Race.Clocks.length bi,.slice bb p0.Race.Readings.length bj,.map (some ab),.slice bf p0.edges.length bk]
 refine Zp (fun σ_ w_=>∃ (U_:PHeap) (bC:Nat) (br:Option Addr) (bu:Nat) (bA:Option Addr) (bE:Nat),σ_ 0=.pointer (some ⟨aU,0,none⟩)/\σ_ 4=.pointer (some ⟨b4,0,none⟩)/\σ_ 5=.pointer (some ⟨b8,0,none⟩)/\σ_ 6=.pointer (some ⟨am,0,none⟩)/\σ_ 7=.pointer (some ⟨bC,0,none⟩)/\PHeap.Le U U_/\SW w [B3,.obj ab (.map ae ah)] U U_ [B3,.obj ab (.map ae ah),.blk am 39 B2,.blk b8 68 B1,.blk b4 68 B0,.blk bC 91 [.slice br aX.length bu,.slice bA cp.length bE],.row br bu 3 1 (nA KL.encI aX),.row bA bE 3 1 (nA KL.encI cp)] w_) ?_ ?_
 have q:=bnd fd
 obtain ⟨⟨x26,x27,x28⟩,dh,cA⟩:=q
 try dsimp only at cA
 refine zt zq [3,3,3,3,1,1,1,0,3,3,3,3,2,0,3,3] (wJv (.fx 7 (wJx gCq) (.fx 12 (.fx 7 (wJx gCi) (.stop)) (.stop)))) (by kernel_rfl) ?_
 have bw:=dX.drew
 generalize hw_W54:({ cQ with drawn:=cQ.drawn + 1 }:World)=cV at bw ⊢
 refine oM Z Z (oM Z Z (oR Z (Ze Z Z) (oR Z (zJ Z Z ZP Z yA) (oL Z (bw.ldB (j:=3) Z Z Z yE (v:=.map (some ab)) Z) (oL Z (bw.ldBA (j:=2) Z Z Z zg zF (vs:=B0) Z Z) (oL Z (bw.lookup1 (j:=4) (mk:=wDD) (mv:=wDV) (a:=p1) (z:=0) Z Z Z Z (wCM ZJ) wEY ZC bm) (zi ?_ ?_)))))))
 have eJ:SW w [B3,.obj ab (.map ae ah)] U U [B3,.obj ab (.map ae ah),.blk am 39 B2,.blk b8 68 B1,.blk b4 68 B0] cV:=bw.pick [3,4,0,1,2] _ (by decide) rfl
 refine zH 2 Z Z Z Z (zG Z Z Tryz.call33 (zB Z (zB Z (zB Z zM))) Z) eJ (fun hs=>wBk p0 aU aY bg aZ bh ba bi bb bj ab ae ah bf bk (wBE p0.number p1 0) false cV U hs cf cg ci cj bm cm dh) (.inl Z) ?_
 rintro cw fu fK dB fj eK ⟨bL,bX,bM,bY,rfl,rfl⟩
 let B4:Res:=.row bL bX 3 1 (nA KL.encI x26.far)
 let B5:Res:=.row bM bY 3 1 (nA KL.encI x26.by_)
 have eL:SW w [B3,.obj ab (.map ae ah)] U cw [B4,B5,B3,.obj ab (.map ae ah),.blk am 39 B2,.blk b8 68 B1,.blk b4 68 B0] dB:=eK
 refine oM Z Z (oR Z (zk Z Z (v:=.agg #[.slice bL x26.far.length bX,.slice bM x26.by_.length bY]) Z) (oR Z (zk Z Z (v:=jV x27) Z) (oR Z (zk Z Z (v:=.bool x28) Z) (zX (cs:=[.slice none 0 0,.slice none 0 0]) Z Z Z Z Z Zf Z eL ?_))))
 intro fC cY eM
 let B6:List Value:=[.slice bL x26.far.length bX,.slice bM x26.by_.length bY]
 refine ze (j:=0) (vs:=B6) Z Z Z Z eM Z Z Z Z Zw (zA Z) Z Z Z ?_
 intro dC eO
 have eQ:SW w [B3,.obj ab (.map ae ah)] U cw [.blk cY 91 B6,B4,B5,B3,.obj ab (.map ae ah),.blk am 39 B2,.blk b8 68 B1,.blk b4 68 B0] dC:=eO
 refine oA Z Z (oA Z Z (zd ?_))
 cases cA
 exact zI ⟨rfl,⟨cw,cY,bL,bX,bM,bY,rfl,rfl,rfl,rfl,rfl,fj,(eQ.pick [3,4,5,6,7,0,1,2] _ (by decide) rfl)⟩⟩
 let B7:List Value:=[.slice none 0 0,.slice none 0 0]
 refine zX (cs:=B7) Z Z Z Z Z Zf Z bw ?_
 intro cW bQ eU
 have eW:SW w [B3,.obj ab (.map ae ah)] U U [B3,.obj ab (.map ae ah),.blk bQ 91 B7,.blk am 39 B2,.blk b8 68 B1,.blk b4 68 B0] cW:=eU.pick [4,5,0,1,2,3] _ (by decide) rfl
 refine zH 2 Z Z Z Z (zG Z Z Tryz.call33 (zB Z (zB Z (zB Z zM))) Z) eW (fun hs=>wBk p0 aU aY bg aZ bh ba bi bb bj ab ae ah bf bk (wBE p0.number p1 0) false cW U hs cf cg ci cj bm cm dh) (.inl Z) ?_
 rintro cx fw fL dD fm dS ⟨bF,bR,bG,bS,rfl,rfl⟩
 let B8:Res:=.row bF bR 3 1 (nA KL.encI x26.far)
 let B9:Res:=.row bG bS 3 1 (nA KL.encI x26.by_)
 have dT:SW w [B3,.obj ab (.map ae ah)] U cx [B8,B9,B3,.obj ab (.map ae ah),.blk bQ 91 B7,.blk am 39 B2,.blk b8 68 B1,.blk b4 68 B0] dD:=dS
 refine oM Z Z (oR Z (zk Z Z (v:=.agg #[.slice bF x26.far.length bR,.slice bG x26.by_.length bS]) Z) (oR Z (zk Z Z (v:=jV x27) Z) (oR Z (zk Z Z (v:=.bool x28) Z) ?_)))
 let cB:List Value:=[.slice bF x26.far.length bR,.slice bG x26.by_.length bS]
 refine ze (j:=4) (vs:=cB) Z Z Z Z dT Z Z Z Z Zw (zA Z) Z Z Z ?_
 intro du dU
 have dV:SW w [B3,.obj ab (.map ae ah)] U cx [B8,B9,B3,.obj ab (.map ae ah),.blk bQ 91 cB,.blk am 39 B2,.blk b8 68 B1,.blk b4 68 B0] du:=dU
 refine oA Z Z (oA Z Z (zd ?_))
 cases cA
 exact zI ⟨rfl,⟨cx,bQ,bF,bR,bG,bS,rfl,rfl,rfl,rfl,rfl,fm,(dV.pick [2,3,5,6,7,4,0,1] _ (by decide) rfl)⟩⟩
 rintro fM cR ⟨bN,bC,br,bu,bA,bE,bZ,cZ,cy,da,db,aV,dW⟩
 have q:=bnd dq
 obtain ⟨⟨aW,cn⟩,fc,dp⟩:=q
 try dsimp only at dp
 let bn:Res:=.blk bC 91 [.slice br aX.length bu,.slice bA cp.length bE]
 let bo:Res:=.row br bu 3 1 (nA KL.encI aX)
 let bp:Res:=.row bA bE 3 1 (nA KL.encI cp)
 refine Zp (fun σ_ w_=>∃ (U_:PHeap) (bO:Nat) (bq:Option Addr) (bt:Nat) (bz:Option Addr) (bD:Nat),σ_ 0=.pointer (some ⟨aU,0,none⟩)/\σ_ 4=.pointer (some ⟨b4,0,none⟩)/\σ_ 5=.pointer (some ⟨b8,0,none⟩)/\σ_ 6=.pointer (some ⟨am,0,none⟩)/\σ_ 7=.pointer (some ⟨bC,0,none⟩)/\σ_ 10=.pointer (some ⟨bO,0,none⟩)/\PHeap.Le bN U_/\SW w [B3,.obj ab (.map ae ah)] U U_ [B3,.obj ab (.map ae ah),.blk am 39 B2,.blk b8 68 B1,.blk b4 68 B0,bo,bp,bn,.blk bO 91 [.slice bq aW.length bt,.slice bz cn.length bD],.row bq bt 3 1 (nA KL.encI aW),.row bz bD 3 1 (nA KL.encI cn)] w_) ?_ ?_
 have q:=bnd fc
 obtain ⟨⟨az,dr,dt⟩,dg,cz⟩:=q
 try dsimp only at cz
 refine zt zq [3,3,3,3,1,1,1,0,3,3,3,3,2,0,3,3] (wJv (.fx 7 (wJx gCq) (.fx 12 (.fx 7 (wJx gCi) (.stop)) (.stop)))) (by kernel_rfl) ?_
 have bv:=dW.drew
 generalize hw_W172:({ cR with drawn:=cR.drawn + 1 }:World)=dv at bv ⊢
 refine oM Z bZ (oM Z bZ (oR Z (Ze Z Z) (oR Z (zJ Z Z ZP Z yA) (oL Z (bv.ldB (j:=0) Z Z Z yE (v:=.map (some ab)) Z) (oL Z (bv.ldBA (j:=3) Z Z cy zg zF (vs:=B1) Z Z) (oL Z (bv.lookup1 (j:=1) (mk:=wDD) (mv:=wDV) (a:=p2) (z:=0) Z Z Z Z (wCM ZJ) wEY ZC bm) (zi ?_ ?_)))))))
 have dI:=cf.le aV
 have dJ:=cg.le aV
 have dK:=ci.le aV
 have dL:=cj.le aV
 have dM:=cm.le aV
 refine zH 2 Z Z Z Z (zG Z Z Tryz.call33 (zB Z (zB Z (zB Z zM))) Z) bv (fun hs=>wBk p0 aU aY bg aZ bh ba bi bb bj ab ae ah bf bk (wBE p0.number p2 0) false dv bN hs dI dJ dK dL bm dM dg) (.inl Z) ?_
 rintro ct fq fH dw ff dY ⟨bH,bT,bI,bU,rfl,rfl⟩
 let cC:Res:=.row bH bT 3 1 (nA KL.encI az.far)
 let cD:Res:=.row bI bU 3 1 (nA KL.encI az.by_)
 have dZ:SW w [B3,.obj ab (.map ae ah)] U ct [cC,cD,B3,.obj ab (.map ae ah),.blk am 39 B2,.blk b8 68 B1,.blk b4 68 B0,bn,bo,bp] dw:=dY
 refine oM Z Z (oR Z (zk Z Z (v:=.agg #[.slice bH az.far.length bT,.slice bI az.by_.length bU]) Z) (oR Z (zk Z Z (v:=jV dr) Z) (oR Z (zk Z Z (v:=.bool dt) Z) (zX (cs:=[.slice none 0 0,.slice none 0 0]) Z Z Z Z Z Zf Z dZ ?_))))
 intro fy cX d5
 let cG:List Value:=[.slice bH az.far.length bT,.slice bI az.by_.length bU]
 refine ze (j:=0) (vs:=cG) Z Z Z Z d5 Z Z Z Z Zw (zA Z) Z Z Z ?_
 intro dx d7
 have d9:SW w [B3,.obj ab (.map ae ah)] U ct [.blk cX 91 cG,cC,cD,B3,.obj ab (.map ae ah),.blk am 39 B2,.blk b8 68 B1,.blk b4 68 B0,bn,bo,bp] dx:=d7
 refine oA Z Z (oA Z Z (zd ?_))
 cases cz
 exact zI ⟨rfl,⟨ct,cX,bH,bT,bI,bU,bZ,cZ,cy,da,db,rfl,ff,(d9.pick [3,4,5,6,7,9,10,8,0,1,2] _ (by decide) rfl)⟩⟩
 let cq:List Value:=[.slice none 0 0,.slice none 0 0]
 refine zX (cs:=cq) Z Z Z Z Z Zf Z bv ?_
 intro cS bP eg
 have dN:=cf.le aV
 have dO:=cg.le aV
 have dP:=ci.le aV
 have dQ:=cj.le aV
 have dR:=cm.le aV
 have eh:SW w [B3,.obj ab (.map ae ah)] U bN [B3,.obj ab (.map ae ah),.blk bP 91 cq,.blk am 39 B2,.blk b8 68 B1,.blk b4 68 B0,bn,bo,bp] cS:=eg.pick [1,2,0,3,4,5,6,7,8] _ (by decide) rfl
 refine zH 2 Z Z Z Z (zG Z Z Tryz.call33 (zB Z (zB Z (zB Z zM))) Z) eh (fun hs=>wBk p0 aU aY bg aZ bh ba bi bb bj ab ae ah bf bk (wBE p0.number p2 0) false cS bN hs dN dO dP dQ bm dR dg) (.inl Z) ?_
 rintro cu ft fJ dy fh eu ⟨bJ,bV,bK,bW,rfl,rfl⟩
 let cH:Res:=.row bJ bV 3 1 (nA KL.encI az.far)
 let cI:Res:=.row bK bW 3 1 (nA KL.encI az.by_)
 have eA:SW w [B3,.obj ab (.map ae ah)] U cu [cH,cI,B3,.obj ab (.map ae ah),.blk bP 91 cq,.blk am 39 B2,.blk b8 68 B1,.blk b4 68 B0,bn,bo,bp] dy:=eu
 refine oM Z Z (oR Z (zk Z Z (v:=.agg #[.slice bJ az.far.length bV,.slice bK az.by_.length bW]) Z) (oR Z (zk Z Z (v:=jV dr) Z) (oR Z (zk Z Z (v:=.bool dt) Z) ?_)))
 let cJ:List Value:=[.slice bJ az.far.length bV,.slice bK az.by_.length bW]
 refine ze (j:=4) (vs:=cJ) Z Z Z Z eA Z Z Z Z Zw (zA Z) Z Z Z ?_
 intro dz eD
 have eE:SW w [B3,.obj ab (.map ae ah)] U cu [cH,cI,B3,.obj ab (.map ae ah),.blk bP 91 cJ,.blk am 39 B2,.blk b8 68 B1,.blk b4 68 B0,bn,bo,bp] dz:=eD
 refine oA Z Z (oA Z Z (zd ?_))
 cases cz
 exact zI ⟨rfl,⟨cu,bP,bJ,bV,bK,bW,bZ,cZ,cy,da,db,rfl,fh,(eE.pick [2,3,5,6,7,9,10,8,4,0,1] _ (by decide) rfl)⟩⟩
 rintro fN cU ⟨cP,bO,bq,bt,bz,bD,de,dE,dF,df,dG,dH,fG,eF⟩
 refine zN (zt zq [3,1,3,3,3,1,1,1,3,1,3,3,1,3,3,3,1,1,1,3,1,3,0] (wTc (.fx 22 .nil .stop)) (by kernel_rfl) ?_)
 have av:=eF.drew
 generalize hw_W258:({ cU with drawn:=cU.drawn + 1 }:World)=fz at av ⊢
 refine oR Z (zJ Z dH ZQ Z zy) (oL Z (av.ldB (j:=8) Z Z Z ZI (v:=.slice bq aW.length bt) Z) (oM Z de (oR Z (Ze Z Z) (oR Z (zJ Z Z ZP Z yA) (oL Z (av.ldB (j:=0) Z Z Z yE (v:=.map (some ab)) Z) (oL Z (av.ldBA (j:=4) Z Z dE zg zF (vs:=B0) Z Z) (oL Z (av.lookup1 (j:=1) (mk:=wDD) (mv:=wDV) (a:=p1) (z:=0) Z Z Z Z (wCM ZJ) wEY ZC bm) (bnK dp fun _ cb eZ=>?_))))))))
 obtain ⟨fD,dk⟩:=av.rowSome (j:=9) rfl (by rw [wAE (f:=KL.encI) (sz:=1) (fun _=>rfl) aW];have hz:=wAT cb;omega)
 refine oR Z (zl Z Z dk Z zD zC (wAu cb) (wAv cb)) ?_
 have eX:=wAx (xs:=aW) (wAT cb)
 refine ZD rfl rfl rfl rfl (av.ldR (j:=9) rfl dk rfl rfl zE (wAS (sz:=1) (fun _=>rfl) _ _ 0 _ eX (by first | omega | rfl | simp) rfl)) rfl (zV rfl rfl rfl rfl (fun _=>Runs.negw rfl rfl) (zV rfl rfl rfl rfl (fun _=>zJ rfl dG ZQ rfl zy) (ZD rfl rfl rfl rfl (av.ldB (j:=7) rfl rfl rfl ZI (v:=.slice br aX.length bu) rfl) rfl (zL rfl rfl rfl rfl rfl de (zV rfl rfl rfl rfl (fun _=>Ze rfl rfl) (zV rfl rfl rfl rfl (fun _=>zJ rfl rfl ZP rfl yA) (ZD rfl rfl rfl rfl (av.ldB (j:=0) rfl rfl rfl yE (v:=.map (some ab)) rfl) rfl (ZD rfl rfl rfl rfl (av.ldBA (j:=3) rfl rfl dF zg zF (vs:=B1) rfl rfl) rfl (ZD rfl rfl rfl rfl (av.lookup1 (j:=1) (mk:=wDD) (mv:=wDV) (a:=p2) (z:=0) rfl rfl rfl rfl (wCM ZJ) wEY ZC bm) rfl (bnK eZ fun _ cd fb=>?_))))))))))
 obtain ⟨fE,dl⟩:=av.rowSome (j:=5) rfl (by rw [wAE (f:=KL.encI) (sz:=1) (fun _=>rfl) aX];have hz:=wAT cd;omega)
 refine oR Z (zl Z Z dl Z zD zC (wAu cd) (wAv cd)) ?_
 have eY:=wAx (xs:=aX) (wAT cd)
 refine ZD rfl rfl rfl rfl (av.ldR (j:=5) rfl dl rfl rfl zE (wAS (sz:=1) (fun _=>rfl) _ _ 0 _ eY (by first | omega | rfl | simp) rfl)) rfl ?_
 let bB:List Value:=[jV (w64 (-(gd aW (wBE p0.number p1 0).toNat))),jV (gd aX (wBE p0.number p2 0).toNat)]
 refine oR Z (zw (pv:=[(0,jV (w64 (-(gd aW (wBE p0.number p1 0).toNat)))),(1,jV (gd aX (wBE p0.number p2 0).toNat))]) (z:=B2) (cs:=bB) Z (wAC Z (wAC Z wAV)) Zv wFt Z Z) (ze (j:=2) (vs:=bB) Z Z Z Z av Z df Z Z ZR (zA Z) Z Z Z ?_)
 intro dA eH
 have dm:SW w [B3,.obj ab (.map ae ah)] U cP [B3,.obj ab (.map ae ah),.blk am 39 bB,.blk b8 68 B1,.blk b4 68 B0,bo,bp,bn,.blk bO 91 [.slice bq aW.length bt,.slice bz cn.length bD],.row bq bt 3 1 (nA KL.encI aW),.row bz bD 3 1 (nA KL.encI cn)] dA:=eH
 refine eN (zS ?_)
 cases fb
 exact ⟨rfl,_,(wMH (v:=.agg bB.toArray) ⟨⟨_,df,(wBT yY ZR (dm.blkAt (k:=2) rfl) (vs:=bB) rfl rfl)⟩,trivial⟩),cP,_,(dm.pick [0,1] _ (by decide) rfl),rfl,rfl⟩
theorem wJc (p0:wAD) (aZ:Option Addr) (bg:Nat) (ba:Option Addr) (bh:Nat) (bb:Option Addr) (bi:Nat) (bf:Option Addr) (bj:Nat) (p1:wAa) (w:World) (U:PHeap) (hS:St0 w U []) (dm:Sl U 1 aZ bg p0.Starts.length (nA KL.encI p0.Starts)) (dp:Sl U 2 ba bh p0.Splits.length (nA wAP p0.Splits)) (dq:Sl U 3 bb bi p0.Clocks.length (nA wAA p0.Clocks)) (dr:Sl U 4 bf bj p0.Readings.length (nA wAL p0.Readings)) {r:wAH × Int} (hm:wCo p0 p1=some r):Gv Tryz.prog 7 [.agg #[.slice aZ p0.Starts.length bg,.slice ba p0.Splits.length bh,.slice bb p0.Clocks.length bi,.slice bf p0.Readings.length bj],.agg #[jV p1.Skier,jV p1.Mat]] w (wCQ w [] U (fun U_ L_ v=>v=.tuple #[.agg #[jV r.1.Lo,jV r.1.Hi],jV r.2]/\L_=[])):=by
 unfold wCo at hm
 refine Gv.of Tryz.func7 Z Tryz.ntmps7 Tryz.results7 Z (sR (.fx 0 (.fx 1 gBv .stop) .stop) Z ?_)
 let B0:List Value:=[.slice aZ p0.Starts.length bg,.slice ba p0.Splits.length bh,.slice bb p0.Clocks.length bi,.slice bf p0.Readings.length bj]
 refine ZG (cs:=B0) rfl rfl rfl rfl rfl rfl (by rfl) hS ?_
 intro W1 b2 de
 let B1:List Value:=[jV p1.Skier,jV p1.Mat]
 refine ZG (cs:=B1) rfl rfl rfl rfl rfl rfl (by rfl) de ?_
 intro W5 b6 dh
 let B2:List Value:=[jV 0,jV 0]
 refine zX (cs:=B2) Z Z Z Z Z Zv Z dh ?_
 intro W9 ai bq
 refine oA Z Z (eN (sR (.fl 0 (.fl 1 (.fx 2 (.fx 3 (fC4_8 (.nil)) .stop) .stop))) Z (oL Z (bq.ldBA (j:=2) Z Z Z ZK zz (vs:=B0) Z Z) (oL Z (bq.ldBA (j:=1) Z Z Z Tryz.isAgg37 yM (vs:=B1) Z Z) (ZB (pv:=[(0,.agg B1.toArray)]) (zs:=B2) (cs:=B1) Z Z Z Z Z (wAC Z wAV) Tryz.runUnderlying86 yM Tryz.zeroValue37 Z Z Z Z Z bq ?_)))))
 intro bm bI cY
 have cZ:sW w U U [.row (some ⟨bI,0,none⟩) 1 37 2 (nA wDU [p1]),.blk ai 39 B2,.blk b6 37 B1,.blk b2 28 B0] bm:=cY
 have q:=cZ.freezeR (k:=0) (n:=[p1].length) rfl (wAE (f:=wDU) (sz:=2) (fun _=>rfl) [p1]) (by decide)
 obtain ⟨bC,aY,dC,da⟩:=q
 have db:sW w U bC [.blk ai 39 B2,.blk b6 37 B1,.blk b2 28 B0] bm:=da
 have cz:=dm.le aY
 have cA:=dp.le aY
 have cB:=dq.le aY
 have cC:=dr.le aY
 have q:=bnd hm
 obtain ⟨⟨x27,x28⟩,cD,aU⟩:=q
 try dsimp only at aU
 refine zH 0 Z Z Z Z (zG Z Z Tryz.call15 (zB Z (zB Z zM)) Z) db (fun hs=>wJa p0 aZ bg ba bh bb bi bf bj [p1] (some ⟨bI,0,none⟩) 1 bm bC hs cz cA cB cC dC cD) (.inr Z) ?_
 rintro ap dH dW aS dQ bR bO
 rcases x27 with _ | aT
 try dsimp only at aU
 obtain ⟨rfl,rfl⟩:=bO
 have bS:sW w U ap [.blk ai 39 B2,.blk b6 37 B1,.blk b2 28 B0] aS:=bR
 refine oM Z Z (oR Z (zk Z Z (v:=.pointer none) Z) (oR Z (zk Z Z (v:=jV x28) Z) (oA Z Z (oA Z Z (eN (zN (sR fL2 Z (oM Z Z (oR Z (yU Z Z Z) (eN (ifc aU ?_ ?_)))))))))))
 intro bo dw
 refine zn (ZL (fun h=>h bo.out)) (kN (zN (zt zq [3,2,1,2,0,0,3] gDj (by kernel_rfl) ?_)))
 have br:=bS.drew
 generalize hw_W57:({ aS with drawn:=aS.drawn + 1 }:World)=cb at br ⊢
 refine oM Z Z (oL Z (br.ldBA (j:=1) Z Z Z Tryz.isAgg37 yM (vs:=B1) Z Z) (bnK dw fun x58 cG dx=>zH 0 Z Z Z Z (zG Z Z yG zM Z) br (fun hs=>wBQ cb ap hs cG) (.inr Z) ?_))
 rintro bD dI dX bH dR df ⟨rfl,rfl⟩
 have dg:sW w U bD [.blk ai 39 B2,.blk b6 37 B1,.blk b2 28 B0] bH:=df
 refine bnK dx fun dZ cH dy=>zH 0 Z Z Z Z (zG Z Z Tryz.call18 (zB Z zM) Z) dg (fun hs=>wJb p1 bH bD hs cH) (.inr Z) ?_
 rintro bW dJ dY cd dS dk ⟨rfl,rfl⟩
 have dO:sW w U bW [.blk ai 39 B2,.blk b6 37 B1,.blk b2 28 B0] cd:=dk
 cases dy
 intro bo dz
 refine cT Z bo (sR gCo Z (oR Z (zw (pv:=[]) (z:=B2) (cs:=B2) Z wAV Zv wFt Z Z) (oM Z Z (ze (j:=0) (vs:=B2) Z Z Z Z bS Z Z Z Z ZR (zA Z) Z Z Z ?_))))
 intro cf dl
 have bT:sW w U ap [.blk ai 39 B2,.blk b6 37 B1,.blk b2 28 B0] cf:=dl
 refine oA Z Z (eN (zS (zW ?_)))
 cases dz
 exact ⟨rfl,_,(wEL (rs:=[.cell 4 39,.tmp 5]) (vs:=[.agg B2.toArray,jV x28]) ⟨⟨_,rfl,(wBT yY ZR (bT.blkAt (k:=0) rfl) (vs:=B2) rfl rfl)⟩,⟨rfl,trivial⟩⟩ rfl),ap,_,(bT.pick [] _ (by decide) rfl),rfl,rfl⟩
 try dsimp only at aU
 obtain ⟨bn,bu,bJ,bv,bK,bw,bL,bz,bM,aq,av,au,bA,bN,rfl,rfl,cI,cJ,cK,cL,cM,cN⟩:=bO
 let B3:Res:=.blk bn 97 [.slice bu aT.Race.Starts.length bJ,.slice bv aT.Race.Splits.length bK,.slice bw aT.Race.Clocks.length bL,.slice bz aT.Race.Readings.length bM,.map (some aq),.slice bA aT.edges.length bN]
 have bU:sW w U ap [B3,.obj aq (.map av au),.blk ai 39 B2,.blk b6 37 B1,.blk b2 28 B0] aS:=bR
 refine oM Z Z (oR Z (zk Z Z (v:=.pointer (some ⟨bn,0,none⟩)) Z) (oR Z (zk Z Z (v:=jV x28) Z) (oA Z Z (oA Z Z (eN (zN (sR fL2 Z (oM Z Z (oR Z (yU Z Z Z) (eN (ifc aU ?_ ?_)))))))))))
 intro bp dA
 refine zn (ZL (fun h=>h bp.out)) (kN (zN (zt zq [3,2,1,2,0,0,3] gDj (by kernel_rfl) ?_)))
 have bt:=bU.drew
 generalize hw_W94:({ aS with drawn:=aS.drawn + 1 }:World)=cg at bt ⊢
 refine oM Z Z (oL Z (bt.ldBA (j:=3) Z Z Z Tryz.isAgg37 yM (vs:=B1) Z Z) (bnK dA fun dE cO dB=>zH 0 Z Z Z Z (zG Z Z yG zM Z) bt (fun hs=>wBQ cg ap hs cO) (.inr Z) ?_))
 rintro bE dK dT bF aV cP ⟨rfl,rfl⟩
 have cQ:sW w U bE [B3,.obj aq (.map av au),.blk ai 39 B2,.blk b6 37 B1,.blk b2 28 B0] bF:=cP
 refine bnK dB fun dD ci dt=>zH 0 Z Z Z Z (zG Z Z Tryz.call18 (zB Z zM) Z) cQ (fun hs=>wJb p1 bF bE hs ci) (.inr Z) ?_
 rintro bB dF dU bG aW cR ⟨rfl,rfl⟩
 have cS:sW w U bB [B3,.obj aq (.map av au),.blk ai 39 B2,.blk b6 37 B1,.blk b2 28 B0] bG:=cR
 have cj:=cI.le aV
 have cm:=cj.le aW
 have cn:=cJ.le aV
 have cp:=cn.le aW
 have cq:=cK.le aV
 have cr:=cq.le aW
 have ct:=cL.le aV
 have cu:=ct.le aW
 have cw:=cN.le aV
 have cx:=cw.le aW
 refine bnK dt fun bV cy du=>zH 2 Z Z Z Z (zG Z Z Tryz.call16 (zB Z (zB Z (zB Z zM))) Z) cS (fun hs=>wFY aT bn bu bJ bv bK bw bL bz bM aq av au bA bN dE dD bG bB hs cm cp cr cu cM cx cy) (.inl Z) ?_
 rintro bk dG dV bX dP cU ⟨rfl,rfl⟩
 have cV:sW w U bk [B3,.obj aq (.map av au),.blk ai 39 B2,.blk b6 37 B1,.blk b2 28 B0] bX:=cU
 let B4:List Value:=[jV bV.Lo,jV bV.Hi]
 refine ze (j:=2) (vs:=B4) Z Z Z Z cV Z Z Z Z ZR (zA Z) Z Z Z ?_
 intro bY cW
 have bP:sW w U bk [B3,.obj aq (.map av au),.blk ai 39 B4,.blk b6 37 B1,.blk b2 28 B0] bY:=cW
 refine oA Z Z (eN (zS ?_))
 cases du
 exact ⟨rfl,_,(wEL (rs:=[.cell 4 39,.tmp 5]) (vs:=[.agg B4.toArray,jV 0]) ⟨⟨_,rfl,(wBT yY ZR (bP.blkAt (k:=2) rfl) (vs:=B4) rfl rfl)⟩,⟨rfl,trivial⟩⟩ rfl),bk,_,(bP.pick [] _ (by decide) rfl),rfl,rfl⟩
 intro bp dv
 refine cT Z bp (sR gCo Z (oR Z (zw (pv:=[]) (z:=B2) (cs:=B2) Z wAV Zv wFt Z Z) (oM Z Z (ze (j:=2) (vs:=B2) Z Z Z Z bU Z Z Z Z ZR (zA Z) Z Z Z ?_))))
 intro bZ cX
 have bQ:sW w U ap [B3,.obj aq (.map av au),.blk ai 39 B2,.blk b6 37 B1,.blk b2 28 B0] bZ:=cX
 refine oA Z Z (eN (zS (zW ?_)))
 cases dv
 exact ⟨rfl,_,(wEL (rs:=[.cell 4 39,.tmp 5]) (vs:=[.agg B2.toArray,jV x28]) ⟨⟨_,rfl,(wBT yY ZR (bQ.blkAt (k:=2) rfl) (vs:=B2) rfl rfl)⟩,⟨rfl,trivial⟩⟩ rfl),ap,_,(bQ.pick [] _ (by decide) rfl),rfl,rfl⟩
end Go.Proofs.YtkeeechdijfkhaaGreat
