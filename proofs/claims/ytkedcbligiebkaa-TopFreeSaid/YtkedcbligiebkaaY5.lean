import Derived.Test.YtkedcbligiebkaaY4
import Derived.Test.YtkedcbligiebkaaY3
set_option linter.all false
open List renaming flatMap->hD,getElem_cons_succ->hH,getElem_cons_zero->hJ,getElem_toArray->nA,length_set->nD,set->nE
open Int renaming toNat_natCast->nB,eq_ofNat_of_zero_le->nH
open Option.some renaming inj->nG
open Go.Value renaming bool->nI
open Bool renaming eq_false_iff->nJ
namespace Go.Proofs.Ytkedcbligiebkaa
open Go.KL
def gBa:Sch:=.fx 2 (.fx 3 .nil .stop) .stop
def gBb:Sch:=.fx 6 (.fx 7 .nil .stop) .stop
def gBc:Sch:=.fx 8 (.fx 9 .nil .stop) .stop
def gBd:Sch:=.fl 7 (.fx 9 .nil .stop)
def gBe:Sch:=.fx 4 (.fl 5 .nil) .stop
def gBf:Sch:=.fx 7 (.fx 8 .nil .stop) .stop
def gBg:Sch:=.fx 6 (.fx 8 .nil .stop) .stop
def gBh:Sch:=.fx 0 (.fx 1 .nil .stop) .stop
def gBi:Sch:=.fx 1 (.fx 2 .nil .stop) .stop
def gBj:Sch:=.fx 2 (.fl 3 .nil) .stop
def gBk:Sch:=.fl 14 (.fx 16 .nil .stop)
def gBl:Sch:=.fl 17 (.fx 18 .nil .stop)
def gBm:Sch:=.fx 6 gBd .stop
def gBn:Sch:=.fx 4 gBd .stop
def gBo:Sch:=.fx 1 (.fl 2 (.fl 3 .nil)) .stop
def gBp:Sch:=.fx 3 gBe .stop
def gBq:Sch:=.fl 22 (.fl 23 (.fx 24 .nil .stop))
def gBr:Sch:=.fx 0 (.fl 1 (.fl 2 .nil)) .stop
def gBs:Sch:=.fx 7 (.fl 8 (.fl 9 .nil)) .stop
def gBt:Sch:=.fl 14 (.fx 15 (.fx 16 .nil .stop) .stop)
def gBu:Sch:=.fx 13 gBk .stop
def gBv:Sch:=.fx 3 (.fl 4 (.fl 5 .nil)) .stop
def gBw:Sch:=.fx 13 (.fl 14 (.fl 15 .nil)) .stop
def gBx:Sch:=.fl 7 (.fx 2 gBc .stop)
def gBy:Sch:=.fl 4 (.fl 5 gBg)
def gBz:Sch:=.fx 0 (.fl 5 gBg) .stop
def gCa:Sch:=.fx 21 gBq .stop
def gCb:Sch:=.fl 0 gBo
def gCc:Sch:=.fl 0 (.fl 1 gBj)
def gCd:Sch:=.fx 7 gBu .stop
def gCe:Sch:=.fx 12 gBw .stop
def gCf:Sch:=.fx 6 (.fl 7 gBc) (.fx 8 gBm .stop)
def gCg:Sch:=.fx 4 (.fl 7 gBc) (.fx 8 gBn .stop)
def gCh:Sch:=.fx 0 (.fx 1 (.fx 2 (.fx 3 (.fl 4 .nil) .stop) .stop) .stop) .stop
def gCi:Sch:=.fl 5 (.fx 6 gBf (.fx 7 gBg .stop))
def gCj:Sch:=.fx 3 gBy .stop
def gCk:Sch:=.fx 13 gBt (.fx 15 gBu .stop)
def gCl:Sch:=.fx 6 (.fl 12 gBu) .stop
def gCm:Sch:=.fx 4 (.fx 16 gBl .stop) (.fx 16 (.fx 4 gBl .stop) .stop)
def gCn:Sch:=.fx 2 gCj .stop
def gCo:Sch:=.fx 1 gCj .stop
def gCp:Sch:=.fx 0 gCl .stop
def gCq:Sch:=.fl 1 (.fl 2 (.fx 0 (.fl 3 (.fx 4 (.fx 5 .nil .stop) .stop)) (.fx 4 (.fx 0 (.fl 3 (.fx 5 .nil .stop)) .stop) .stop)))
def gCr:Sch:=.fl 0 (.fl 2 (.fx 1 gBp (.fx 3 (.fx 1 gBe .stop) .stop)))
def gCs:Sch:=.fx 3 (.fl 4 gCi) (.fx 7 gCj .stop)
def gCt:Sch:=.fl 4 (.fx 0 gCi (.fx 7 gBz .stop))
def gCu:Sch:=.fx 0 gCj (.fx 3 (.fl 4 gBz) .stop)
def gCv:Sch:=.fx 6 (.fl 12 gCk) (.fx 15 gCl .stop)
def gCw:Sch:=.fx 6 (.fl 12 gCd) (.fx 7 gCl .stop)
def gCx:Sch:=.fl 0 (.fl 2 (.fx 1 (.fx 3 (.fx 4 (.fx 5 (.fl 6 .nil) .stop) .stop) .stop) .stop))
def gCy:Sch:=.fx 2 gCs (.fx 7 gCn .stop)
def gCz:Sch:=.fx 1 gCs (.fx 7 gCo .stop)
def gDa:Sch:=.fx 1 gCn (.fx 2 gCo .stop)
def gDb:Sch:=.fx 0 gCn (.fx 2 gCu .stop)
def gDc:Sch:=.fx 0 gCo (.fx 1 gCu .stop)
def gDd:Sch:=.fx 0 gCs (.fx 3 gCt (.fx 7 gCu .stop))
set_option maxHeartbeats 4000000
theorem wFQ (p0:wAD) (aV:Option Addr) (aY:Nat) (aW:Option Addr) (aZ:Nat) (aX:Option Addr) (a7:Nat) (aE:Option Addr) (aF:Nat) (p1:wAK) (w:World) (U:PHeap) (hS:St0 w U []) (fM:Sl U 1 aV aY p0.Starts.length (hD KL.encI p0.Starts)) (fN:Sl U 2 aW aZ p0.Splits.length (hD wAE p0.Splits)) (fO:Sl U 3 aX a7 p0.Clocks.length (hD wAP p0.Clocks)) (eE:Sl U 4 aE aF p0.Readings.length (hD wAH p0.Readings)) {r:wAB × wAB} (hm:wCc p0 p1=some r):Gv Try.prog 78 [.agg #[.slice aV p0.Starts.length aY,.slice aW p0.Splits.length aZ,.slice aX p0.Clocks.length a7,.slice aE p0.Readings.length aF],.agg #[jV p1.Kind,jV p1.Skier,jV p1.Index,.bool p1.Up]] w (wBz w [] U (fun U_ L_ v=>v=.tuple #[.agg #[jV r.1.skier,jV r.1.mat],.agg #[jV r.2.skier,jV r.2.mat]]/\L_=[])):=by
 unfold wCc at hm
 refine Gv.of Try.func78 Z Try.ntmps78 Try.results78 Z (sR (.fx 0 (.fx 1 gBa .stop) .stop) Z ?_)
 let B0:List Value:=[.slice aV p0.Starts.length aY,.slice aW p0.Splits.length aZ,.slice aX p0.Clocks.length a7,.slice aE p0.Readings.length aF]
 refine ZD (cs:=B0) rfl rfl rfl rfl rfl rfl (by rfl) hS ?_
 intro W1 b2 d8
 let B1:List Value:=[jV p1.Kind,jV p1.Skier,jV p1.Index,.bool p1.Up]
 refine ZD (cs:=B1) rfl rfl rfl rfl rfl rfl (by rfl) d8 ?_
 intro W5 b6 eD
 let B2:List Value:=[jV 0,jV 0]
 refine zY (cs:=B2) Z Z Z Z Z zj Z eD ?_
 intro W9 ac dK
 refine zY (cs:=B2) Z Z Z Z Z zj Z dK ?_
 intro fd ae ax
 refine eN (sR (wHD gBb) Z (oR Z (zI Z Z zX Z yC) (oL Z (ax.ldB (j:=3) Z Z Z yQ (v:=.slice aE p0.Readings.length aF) Z) (oR Z (zI Z Z zu Z zC) (oL Z (ax.ldB (j:=2) Z Z Z zE (v:=jV p1.Index) Z) (bnK hm fun aa aR eF=>?_))))))
 have q:=eE.el (fun _=>rfl) (wAr aR)
 obtain ⟨fB,fQ,dI,dJ⟩:=q
 refine oR Z (zr Z Z dI Z Zq Zw (wCS aR) (wCY aR)) (oL Z (ax.ldCA (f:=0) dJ Z Z Try.isAgg50 Zw (us:=[jV aa.Skier,jV aa.Mat,jV aa.Clock,jV aa.Time]) Z Z) (zY (cs:=[jV 0,jV 0,jV 0,jV 0]) Z Z Z Z Z Try.zeroValue50 Z ax ?_))
 intro fq O dX
 let B3:List Value:=[jV aa.Skier,jV aa.Mat,jV aa.Clock,jV aa.Time]
 refine za (j:=0) (vs:=B3) Z Z Z Z dX Z Z Z Z Zw (zA Z) Z Z Z ?_
 intro aJ d7
 have d9:sW w U U [.blk O 50 B3,.blk ae 71 B2,.blk ac 71 B2,.blk b6 106 B1,.blk b2 45 B0] aJ:=d7
 refine eN ?_
 have q:=bnd eF
 obtain ⟨⟨eZ,e6⟩,eH,bN⟩:=q
 try dsimp only at bN
 let B4:List Value:=[jV aa.Skier,jV aa.Mat]
 let B5:List Value:=[jV eZ,jV e6]
 refine Zp (fun σ_ w_=>∃ (U_:PHeap),σ_ 4=.pointer (some ⟨ac,0,none⟩)/\σ_ 5=.pointer (some ⟨ae,0,none⟩)/\PHeap.Le U U_/\sW w U U_ [.blk O 50 B3,.blk ae 71 B4,.blk ac 71 B5,.blk b6 106 B1,.blk b2 45 B0] w_) ?_ ?_
 refine bnK eH fun bZ aw eG=>zw zx [3,1,2,3,2,3,2,3,0,0] (.fl 0 (.fl 1 (.fl 3 (.fl 5 (.fx 2 (.fx 4 gCf (.fx 6 gCg (.fx 8 (.fx 4 gBm (.fx 6 gBn .stop)) .stop))) (.fx 4 (.fx 2 gCf (.fx 6 gBx .stop)) (.fx 6 (.fx 2 gCg (.fx 4 gBx .stop)) .stop))))))) (by kernel_rfl) ?_
 have ap:=d9.drew
 generalize hw_W54:({ aJ with drawn:=aJ.drawn + 1 }:World)=aK at ap ⊢
 let B6:List Value:=[jV bZ.skier,jV bZ.mat]
 refine ZQ (s:=.nil) (M:=fun σ_ w_=>∃ (U_:PHeap),σ_ 4=.pointer (some ⟨ac,0,none⟩)/\σ_ 5=.pointer (some ⟨ae,0,none⟩)/\σ_ 6=.pointer (some ⟨O,0,none⟩)/\σ_ 13=.pointer (some ⟨O,2,none⟩)/\σ_ 14=jV aa.Clock/\σ_ 15=.agg B6.toArray/\σ_ 16=.pointer (some ⟨O,0,none⟩)/\σ_ 17=jV aa.Skier/\σ_ 18=.pointer (some ⟨O,1,none⟩)/\σ_ 19=jV aa.Mat/\σ_ 20=.agg B4.toArray/\PHeap.Le U U_/\sW w U U_ [.blk O 50 B3,.blk ae 71 B4,.blk ac 71 B6,.blk b6 106 B1,.blk b2 45 B0] w_) ?_ fun bO=>?_
 rintro fV ff ⟨ca,cA,cB,fC,fD,fE,fG,fH,fI,fJ,fK,fL,eJ,dL⟩
 refine zW ?_
 cases eG
 exact zF ⟨Z,⟨ca,cA,cB,eJ,dL⟩⟩
 refine ZQ (s:=.fx 9 .nil .stop) (M:=fun σ_ w_=>∃ (U_:PHeap),σ_ 4=.pointer (some ⟨ac,0,none⟩)/\σ_ 5=.pointer (some ⟨ae,0,none⟩)/\σ_ 6=.pointer (some ⟨O,0,none⟩)/\σ_ 13=.pointer (some ⟨O,2,none⟩)/\σ_ 14=jV aa.Clock/\σ_ 15=.agg B6.toArray/\σ_ 16=.pointer (some ⟨O,0,none⟩)/\σ_ 17=jV aa.Skier/\σ_ 18=.pointer (some ⟨O,1,none⟩)/\σ_ 19=jV aa.Mat/\σ_ 20=.agg B4.toArray/\PHeap.Le U U_/\sW w U U_ [.blk O 50 B3,.blk ae 71 B2,.blk ac 71 B6,.blk b6 106 B1,.blk b2 45 B0] w_) ?_ fun bP=>?_
 rintro fW fg ⟨a8,cC,bg,cD,cE,cG,cH,cI,cJ,cK,cL,bh,eL,dM⟩
 refine za (j:=1) (vs:=B4) Z Z Z Z dM Z bg bh Z zG (zA Z) Z Z Z ?_
 intro cj dN
 have dO:sW w U a8 [.blk O 50 B3,.blk ae 71 B4,.blk ac 71 B6,.blk b6 106 B1,.blk b2 45 B0] cj:=dN
 exact bO _ _ ⟨a8,cC,bg,cD,cE,cG,cH,cI,cJ,cK,cL,bh,eL,dO⟩
 refine ZQ (s:=gBc) (M:=fun σ_ w_=>∃ (U_:PHeap),σ_ 4=.pointer (some ⟨ac,0,none⟩)/\σ_ 5=.pointer (some ⟨ae,0,none⟩)/\σ_ 6=.pointer (some ⟨O,0,none⟩)/\σ_ 13=.pointer (some ⟨O,2,none⟩)/\σ_ 14=jV aa.Clock/\σ_ 15=.agg B6.toArray/\σ_ 16=.pointer (some ⟨O,0,none⟩)/\σ_ 17=jV aa.Skier/\σ_ 18=.pointer (some ⟨O,1,none⟩)/\σ_ 19=jV aa.Mat/\σ_ 20=.agg B4.toArray/\PHeap.Le U U_/\sW w U U_ [.blk O 50 B3,.blk ae 71 B2,.blk ac 71 B2,.blk b6 106 B1,.blk b2 45 B0] w_) ?_ fun eI=>?_
 rintro fY fh ⟨a9,bi,cM,cN,cO,cP,bj,cQ,cR,cS,cU,cV,eM,dP⟩
 refine za (j:=2) (vs:=B6) Z Z Z Z dP Z bi bj Z zG (zA Z) Z Z Z ?_
 intro cm dQ
 have dR:sW w U a9 [.blk O 50 B3,.blk ae 71 B2,.blk ac 71 B6,.blk b6 106 B1,.blk b2 45 B0] cm:=dQ
 exact bP _ _ ⟨a9,bi,cM,cN,cO,cP,bj,cQ,cR,cS,cU,cV,eM,dR⟩
 refine ZQ (s:=gBd) (M:=fun σ_ w_=>∃ (U_:PHeap),σ_ 4=.pointer (some ⟨ac,0,none⟩)/\σ_ 5=.pointer (some ⟨ae,0,none⟩)/\σ_ 6=.pointer (some ⟨O,0,none⟩)/\σ_ 13=.pointer (some ⟨O,2,none⟩)/\σ_ 14=jV aa.Clock/\σ_ 15=.agg B6.toArray/\σ_ 16=.pointer (some ⟨O,0,none⟩)/\σ_ 17=jV aa.Skier/\σ_ 18=.pointer (some ⟨O,1,none⟩)/\σ_ 19=jV aa.Mat/\PHeap.Le U U_/\sW w U U_ [.blk O 50 B3,.blk ae 71 B2,.blk ac 71 B6,.blk b6 106 B1,.blk b2 45 B0] w_) ?_ fun bQ=>?_
 rintro fZ fj ⟨ba,cW,bk,cX,cY,cZ,c6,c8,bm,c9,bn,eO,dS⟩
 refine oR Z (zq (pv:=[(0,jV aa.Skier),(1,jV aa.Mat)]) (z:=B2) (cs:=B4) Z (wAC bm (wAC bn wAR)) zj wBW Z Z) (za (j:=1) (vs:=B4) Z Z Z Z dS Z bk Z Z zG (zA Z) Z Z Z ?_)
 intro co dT
 have dU:sW w U ba [.blk O 50 B3,.blk ae 71 B4,.blk ac 71 B6,.blk b6 106 B1,.blk b2 45 B0] co:=dT
 exact bO _ _ ⟨ba,cW,bk,cX,cY,cZ,c6,c8,bm,c9,bn,Z,eO,dU⟩
 refine ZQ (s:=gBn) (M:=fun σ_ w_=>∃ (U_:PHeap),σ_ 4=.pointer (some ⟨ac,0,none⟩)/\σ_ 5=.pointer (some ⟨ae,0,none⟩)/\σ_ 6=.pointer (some ⟨O,0,none⟩)/\σ_ 13=.pointer (some ⟨O,2,none⟩)/\σ_ 14=jV aa.Clock/\σ_ 15=.agg B6.toArray/\σ_ 16=.pointer (some ⟨O,0,none⟩)/\σ_ 18=.pointer (some ⟨O,1,none⟩)/\σ_ 19=jV aa.Mat/\PHeap.Le U U_/\sW w U U_ [.blk O 50 B3,.blk ae 71 B2,.blk ac 71 B6,.blk b6 106 B1,.blk b2 45 B0] w_) ?_ fun bR=>?_
 rintro f4 fk ⟨cb,da,db,dd,de,df,dg,bo,dh,di,eQ,bL⟩
 exact ZO Z Z Z Z (bL.ldB (j:=0) Z Z bo zE (v:=jV aa.Skier) Z) (bQ _ _ ⟨cb,da,db,dd,de,df,dg,bo,Z,dh,di,eQ,bL⟩)
 refine ZQ (s:=gBm) (M:=fun σ_ w_=>∃ (U_:PHeap),σ_ 4=.pointer (some ⟨ac,0,none⟩)/\σ_ 5=.pointer (some ⟨ae,0,none⟩)/\σ_ 6=.pointer (some ⟨O,0,none⟩)/\σ_ 13=.pointer (some ⟨O,2,none⟩)/\σ_ 14=jV aa.Clock/\σ_ 15=.agg B6.toArray/\σ_ 16=.pointer (some ⟨O,0,none⟩)/\σ_ 17=jV aa.Skier/\σ_ 18=.pointer (some ⟨O,1,none⟩)/\PHeap.Le U U_/\sW w U U_ [.blk O 50 B3,.blk ae 71 B2,.blk ac 71 B6,.blk b6 106 B1,.blk b2 45 B0] w_) ?_ fun bS=>?_
 rintro f5 fm ⟨cc,dk,dl,dm,dn,dp,dq,dr,dt,bp,eT,bM⟩
 exact ZO Z Z Z Z (bM.ldB (j:=0) Z Z bp zE (v:=jV aa.Mat) Z) (bQ _ _ ⟨cc,dk,dl,dm,dn,dp,dq,dr,dt,bp,Z,eT,bM⟩)
 refine ZQ (s:=.fl 7 gBc) (M:=fun σ_ w_=>∃ (U_:PHeap),σ_ 4=.pointer (some ⟨ac,0,none⟩)/\σ_ 5=.pointer (some ⟨ae,0,none⟩)/\σ_ 6=.pointer (some ⟨O,0,none⟩)/\σ_ 13=.pointer (some ⟨O,2,none⟩)/\σ_ 14=jV aa.Clock/\σ_ 15=.agg B6.toArray/\σ_ 16=.pointer (some ⟨O,0,none⟩)/\σ_ 17=jV aa.Skier/\σ_ 18=.pointer (some ⟨O,1,none⟩)/\σ_ 19=jV aa.Mat/\PHeap.Le U U_/\sW w U U_ [.blk O 50 B3,.blk ae 71 B2,.blk ac 71 B2,.blk b6 106 B1,.blk b2 45 B0] w_) ?_ fun bT=>?_
 rintro f6 ft ⟨bb,bq,du,dv,dw,dx,br,dy,bt,dz,bu,eU,dV⟩
 refine oR Z (zq (pv:=[(0,jV aa.Skier),(1,jV aa.Mat)]) (z:=B2) (cs:=B4) Z (wAC bt (wAC bu wAR)) zj wBW Z Z) (za (j:=2) (vs:=B6) Z Z Z Z dV Z bq br Z zG (zA Z) Z Z Z ?_)
 intro cp dW
 have dY:sW w U bb [.blk O 50 B3,.blk ae 71 B2,.blk ac 71 B6,.blk b6 106 B1,.blk b2 45 B0] cp:=dW
 exact bP _ _ ⟨bb,bq,du,dv,dw,dx,br,dy,bt,dz,bu,Z,eU,dY⟩
 refine ZQ (s:=gBx) (M:=fun σ_ w_=>∃ (U_:PHeap),σ_ 4=.pointer (some ⟨ac,0,none⟩)/\σ_ 5=.pointer (some ⟨ae,0,none⟩)/\σ_ 6=.pointer (some ⟨O,0,none⟩)/\σ_ 13=.pointer (some ⟨O,2,none⟩)/\σ_ 14=jV aa.Clock/\σ_ 16=.pointer (some ⟨O,0,none⟩)/\σ_ 17=jV aa.Skier/\σ_ 18=.pointer (some ⟨O,1,none⟩)/\σ_ 19=jV aa.Mat/\PHeap.Le U U_/\sW w U U_ [.blk O 50 B3,.blk ae 71 B2,.blk ac 71 B2,.blk b6 106 B1,.blk b2 45 B0] w_) ?_ fun bU=>?_
 rintro f7 cq ⟨cd,dA,dB,dC,dD,bv,dE,bw,dF,bx,eV,dZ⟩
 refine oR Z (zq (pv:=[(0,jV aa.Skier),(1,jV aa.Mat)]) (z:=B2) (cs:=B4) Z (wAC bw (wAC bx wAR)) zj wBW Z Z) (zL 0 Z Z Z Z (zK Z Z Try.call75 (zB bv zQ) Z) dZ (fun hs=>wCP aa.Clock cq cd hs aw) (.inr Z) ?_)
 rintro bc e7 fR cr eW d5 ⟨rfl,rfl⟩
 have d6:sW w U bc [.blk O 50 B3,.blk ae 71 B2,.blk ac 71 B2,.blk b6 106 B1,.blk b2 45 B0] cr:=d5
 exact eI _ _ ⟨bc,dA,dB,dC,dD,bv,Z,dE,bw,dF,bx,Z,(eV.trans eW),d6⟩
 refine ZQ (s:=gCg) (M:=fun σ_ w_=>∃ (U_:PHeap),σ_ 4=.pointer (some ⟨ac,0,none⟩)/\σ_ 5=.pointer (some ⟨ae,0,none⟩)/\σ_ 6=.pointer (some ⟨O,0,none⟩)/\σ_ 13=.pointer (some ⟨O,2,none⟩)/\σ_ 14=jV aa.Clock/\σ_ 15=.agg B6.toArray/\σ_ 16=.pointer (some ⟨O,0,none⟩)/\σ_ 18=.pointer (some ⟨O,1,none⟩)/\σ_ 19=jV aa.Mat/\PHeap.Le U U_/\sW w U U_ [.blk O 50 B3,.blk ae 71 B2,.blk ac 71 B2,.blk b6 106 B1,.blk b2 45 B0] w_) ?_ fun bV=>?_
 rintro f8 fu ⟨aH,aL,bz,bA,bB,bC,aM,aN,bD,bE,bX,aS⟩
 refine zo ?_ ?_
 exact ZO Z Z Z Z (aS.ldB (j:=0) Z Z aN zE (v:=jV aa.Skier) Z) (bT _ _ ⟨aH,aL,bz,bA,bB,bC,aM,aN,Z,bD,bE,bX,aS⟩)
 refine za (j:=2) (vs:=B6) Z Z Z Z aS Z aL aM Z zG (zA Z) Z Z Z ?_
 intro ct ef
 have eh:sW w U aH [.blk O 50 B3,.blk ae 71 B2,.blk ac 71 B6,.blk b6 106 B1,.blk b2 45 B0] ct:=ef
 exact bR _ _ ⟨aH,aL,bz,bA,bB,bC,aM,aN,bD,bE,bX,eh⟩
 refine ZQ (s:=gCf) (M:=fun σ_ w_=>∃ (U_:PHeap),σ_ 4=.pointer (some ⟨ac,0,none⟩)/\σ_ 5=.pointer (some ⟨ae,0,none⟩)/\σ_ 6=.pointer (some ⟨O,0,none⟩)/\σ_ 13=.pointer (some ⟨O,2,none⟩)/\σ_ 14=jV aa.Clock/\σ_ 15=.agg B6.toArray/\σ_ 16=.pointer (some ⟨O,0,none⟩)/\σ_ 17=jV aa.Skier/\σ_ 18=.pointer (some ⟨O,1,none⟩)/\PHeap.Le U U_/\sW w U U_ [.blk O 50 B3,.blk ae 71 B2,.blk ac 71 B2,.blk b6 106 B1,.blk b2 45 B0] w_) ?_ fun bW=>?_
 rintro f9 fw ⟨aI,aO,bF,bG,bH,bI,aP,bJ,bK,aQ,bY,aT⟩
 refine zo ?_ ?_
 exact ZO Z Z Z Z (aT.ldB (j:=0) Z Z aQ zE (v:=jV aa.Mat) Z) (bT _ _ ⟨aI,aO,bF,bG,bH,bI,aP,bJ,bK,aQ,Z,bY,aT⟩)
 refine za (j:=2) (vs:=B6) Z Z Z Z aT Z aO aP Z zG (zA Z) Z Z Z ?_
 intro cu ej
 have ek:sW w U aI [.blk O 50 B3,.blk ae 71 B2,.blk ac 71 B6,.blk b6 106 B1,.blk b2 45 B0] cu:=ej
 exact bS _ _ ⟨aI,aO,bF,bG,bH,bI,aP,bJ,bK,aQ,bY,ek⟩
 refine oR Z (zI Z Z Zf Z zC) (oL Z (ap.ldB (j:=0) Z Z Z zE (v:=jV aa.Clock) Z) (oR Z (zI Z Z Zf Z zC) (oR Z (zI Z Z Zf Z zC) (zo ?_ ?_))))
 refine zL 0 Z Z Z Z (zK Z Z Try.call75 (zB Z zQ) Z) ap (fun hs=>wCP aa.Clock aK U hs aw) (.inr Z) ?_
 rintro au e8 fS cw az en ⟨rfl,rfl⟩
 have av:sW w U au [.blk O 50 B3,.blk ae 71 B2,.blk ac 71 B2,.blk b6 106 B1,.blk b2 45 B0] cw:=en
 refine zo ?_ ?_
 exact ZO Z Z Z Z (av.ldB (j:=0) Z Z Z zE (v:=jV aa.Skier) Z) (bW _ _ ⟨au,Z,Z,Z,Z,Z,Z,Z,Z,Z,az,av⟩)
 refine zo ?_ ?_
 exact ZO Z Z Z Z (av.ldB (j:=0) Z Z Z zE (v:=jV aa.Mat) Z) (bV _ _ ⟨au,Z,Z,Z,Z,Z,Z,Z,Z,Z,az,av⟩)
 refine za (j:=2) (vs:=B6) Z Z Z Z av Z Z Z Z zG (zA Z) Z Z Z ?_
 intro cx eo
 have ay:sW w U au [.blk O 50 B3,.blk ae 71 B2,.blk ac 71 B6,.blk b6 106 B1,.blk b2 45 B0] cx:=eo
 refine zo ?_ ?_
 exact ZO Z Z Z Z (ay.ldB (j:=0) Z Z Z zE (v:=jV aa.Skier) Z) (bS _ _ ⟨au,Z,Z,Z,Z,Z,Z,Z,Z,Z,az,ay⟩)
 exact ZO Z Z Z Z (ay.ldB (j:=0) Z Z Z zE (v:=jV aa.Mat) Z) (bR _ _ ⟨au,Z,Z,Z,Z,Z,Z,Z,Z,Z,az,ay⟩)
 refine zo ?_ ?_
 refine ZO Z Z Z Z (ap.ldB (j:=0) Z Z Z zE (v:=jV aa.Skier) Z) (zo ?_ ?_)
 refine zL 0 Z Z Z Z (zK Z Z Try.call75 (zB Z zQ) Z) ap (fun hs=>wCP aa.Clock aK U hs aw) (.inr Z) ?_
 rintro be e9 fT cy eX ep ⟨rfl,rfl⟩
 have ez:sW w U be [.blk O 50 B3,.blk ae 71 B2,.blk ac 71 B2,.blk b6 106 B1,.blk b2 45 B0] cy:=ep
 exact bW _ _ ⟨be,Z,Z,Z,Z,Z,Z,Z,Z,Z,eX,ez⟩
 exact ZO Z Z Z Z (ap.ldB (j:=0) Z Z Z zE (v:=jV aa.Mat) Z) (bU _ _ ⟨U,Z,Z,Z,Z,Z,Z,Z,Z,Z,(zM _),ap⟩)
 refine ZO Z Z Z Z (ap.ldB (j:=0) Z Z Z zE (v:=jV aa.Mat) Z) (zo ?_ ?_)
 refine zL 0 Z Z Z Z (zK Z Z Try.call75 (zB Z zQ) Z) ap (fun hs=>wCP aa.Clock aK U hs aw) (.inr Z) ?_
 rintro bf fb fU cz eY eB ⟨rfl,rfl⟩
 have eC:sW w U bf [.blk O 50 B3,.blk ae 71 B2,.blk ac 71 B2,.blk b6 106 B1,.blk b2 45 B0] cz:=eB
 exact bV _ _ ⟨bf,Z,Z,Z,Z,Z,Z,Z,Z,Z,eY,eC⟩
 exact ZO Z Z Z Z (ap.ldB (j:=0) Z Z Z zE (v:=jV aa.Skier) Z) (bU _ _ ⟨U,Z,Z,Z,Z,Z,Z,Z,Z,Z,(zM _),ap⟩)
 rintro ga fy ⟨ci,dG,dH,fP,aU⟩
 refine zT ?_
 cases bN
 exact ⟨rfl,_,(wDn (rs:=[.cell 4 71,.cell 5 71]) (vs:=[.agg B5.toArray,.agg B4.toArray]) ⟨⟨_,dG,(wBL zh zG (aU.blkAt (k:=2) rfl) (vs:=B5) rfl rfl)⟩,⟨⟨_,dH,(wBL zh zG (aU.blkAt (k:=1) rfl) (vs:=B4) rfl rfl)⟩,trivial⟩⟩ rfl),ci,_,(aU.pick [] _ (by decide) rfl),rfl,rfl⟩
theorem wFR (O:wAD) (ao:Option Addr) (aq:Nat) (ap:Option Addr) (au:Nat) (af:Option Addr) (ag:Nat) (aj:Option Addr) (ak:Nat) (p1:wAK) (w:World) (U:PHeap) (hS:St0 w U []) (a8:Sl U 1 ao aq O.Starts.length (hD KL.encI O.Starts)) (a9:Sl U 2 ap au O.Splits.length (hD wAE O.Splits)) (ay:Sl U 3 af ag O.Clocks.length (hD wAP O.Clocks)) (aR:Sl U 4 aj ak O.Readings.length (hD wAH O.Readings)) {r:Int × Int} (hm:wCd O p1=some r):Gv Try.prog 79 [.agg #[.slice ao O.Starts.length aq,.slice ap O.Splits.length au,.slice af O.Clocks.length ag,.slice aj O.Readings.length ak],.agg #[jV p1.Kind,jV p1.Skier,jV p1.Index,.bool p1.Up]] w (wBz w [] U (fun U_ L_ v=>v=.tuple #[jV r.1,jV r.2]/\L_=[])):=by
 unfold wCd at hm
 refine Gv.of Try.func79 Z Try.ntmps79 Try.results79 Z (sR (.fx 0 gBo .stop) Z ?_)
 let B0:List Value:=[.slice ao O.Starts.length aq,.slice ap O.Splits.length au,.slice af O.Clocks.length ag,.slice aj O.Readings.length ak]
 refine ZD (cs:=B0) rfl rfl rfl rfl rfl rfl (by rfl) hS ?_
 intro W1 b2 aQ
 let B1:List Value:=[jV p1.Kind,jV p1.Skier,jV p1.Index,.bool p1.Up]
 refine ZD (cs:=B1) rfl rfl rfl rfl rfl rfl (by rfl) aQ ?_
 intro W5 b6 ai
 refine oA Z Z (oA Z Z (eN (sR (wHD gBb) Z (oR Z (zI Z Z zX Z yC) (oL Z (ai.ldB (j:=1) Z Z Z yQ (v:=.slice aj O.Readings.length ak) Z) (oR Z (zI Z Z zu Z zC) (oL Z (ai.ldB (j:=0) Z Z Z zE (v:=jV p1.Index) Z) (bnK hm fun x9 an aS=>?_))))))))
 have q:=aR.el (fun _=>rfl) (wAr an)
 obtain ⟨aY,ba,aH,aK⟩:=q
 refine oR Z (zr Z Z aH Z Zq Zw (wCS an) (wCY an)) (oL Z (ai.ldCA (f:=0) aK Z Z Try.isAgg50 Zw (us:=[jV x9.Skier,jV x9.Mat,jV x9.Clock,jV x9.Time]) Z Z) (zY (cs:=[jV 0,jV 0,jV 0,jV 0]) Z Z Z Z Z Try.zeroValue50 Z ai ?_))
 intro aV aE aN
 let B2:List Value:=[jV x9.Skier,jV x9.Mat,jV x9.Clock,jV x9.Time]
 refine za (j:=0) (vs:=B2) Z Z Z Z aN Z Z Z Z Zw (zA Z) Z Z Z ?_
 intro am aO
 have aP:sW w U U [.blk aE 50 B2,.blk b6 106 B1,.blk b2 45 B0] am:=aO
 refine eN (zJ (zw zx [3,1,3,1,3,1,3,3,1,3,3,1,3,1,3,3,1,3,1,3,3,3] fL22 (by kernel_rfl) ?_))
 have ab:=aP.drew
 generalize hw_W24:({ am with drawn:=am.drawn + 1 }:World)=aW at ab ⊢
 refine oR Z (zI Z Z Zf Z zC) (oL Z (ab.ldB (j:=0) Z Z Z zE (v:=jV x9.Time) Z) (oR Z (zI Z Z zX Z yR) (oL Z (ab.ldB (j:=2) Z Z Z Try.isAgg40 (v:=.slice af O.Clocks.length ag) Z) (oR Z (zI Z Z Zf Z zC) (oL Z (ab.ldB (j:=0) Z Z Z zE (v:=jV x9.Clock) Z) (bnK aS fun az ae aT=>?_))))))
 have q:=ay.el (fun _=>rfl) (wAr ae)
 obtain ⟨aZ,bb,aI,aL⟩:=q
 refine oR Z (zr Z Z aI Z Zk yL (wCS ae) (wCY ae)) (oR Z (zI Z Z yJ Z zC) (oL Z (ab.ldC (f:=2) aL (v:=jV az.Error) Z Z zE Z) (oR Z (zR Z Z Z) (oR Z (zI Z Z zX Z yR) (oL Z (ab.ldB (j:=2) Z Z Z Try.isAgg40 (v:=.slice af O.Clocks.length ag) Z) (oR Z (zI Z Z Zf Z zC) (oL Z (ab.ldB (j:=0) Z Z Z zE (v:=jV x9.Clock) Z) ?_)))))))
 have q:=ay.el (fun _=>rfl) (wAr ae)
 obtain ⟨a7,bc,aJ,aM⟩:=q
 refine oR Z (zr Z Z aJ Z Zk yL (wCS ae) (wCY ae)) (oR Z (zI Z Z yJ Z zC) (oL Z (ab.ldC (f:=2) aM (v:=jV az.Error) Z Z zE Z) (oR Z (zI Z Z Zf Z zC) (oL Z (ab.ldB (j:=0) Z Z Z zE (v:=jV x9.Time) Z) (oR Z (Za Z Z Z) (oA Z Z (oA Z Z (eN (zT ?_)))))))))
 cases aT
 exact ⟨rfl,_,(wEz rfl rfl),U,_,(ab.pick [] _ (by decide) rfl),rfl,rfl⟩
theorem wBR  (w:World) (U:PHeap) (hS:St0 w U [])  {r:Unit} (hm:wBl =some r):Gv Try.prog 64 [] w (wBz w [] U (fun U_ L_ v=>v=.agg #[.func (.func 67) #[] #[],.func (.func 68) #[] #[],.func (.func 69) #[] #[],.func (.func 70) #[] #[],.func (.func 71) #[] #[],.func (.func 72) #[] #[],.func (.func 73) #[] #[],.func (.func 74) #[] #[],.func (.func 76) #[] #[],.func (.func 77) #[] #[],.func (.func 78) #[] #[],.func (.func 79) #[] #[]]/\L_=[])):=by
 unfold wBl at hm
 refine Gv.of Try.func64 Z Try.ntmps64 Try.results64 Z (sR (.fx 0 .nil .stop) Z ?_)
 let B0:List Value:=[.nilFunc,.nilFunc,.nilFunc,.nilFunc,.nilFunc,.nilFunc,.nilFunc,.nilFunc,.nilFunc,.nilFunc,.nilFunc,.nilFunc]
 refine zY (cs:=B0) Z Z Z Z Z Try.zeroValue134 Z hS ?_
 intro W1 b2 am
 refine eN (sR (wDD (.fx 5 .nil .stop)) Z ?_)
 let B1:List Value:=[.nilFunc,.nilFunc,.nilFunc]
 let B2:List Value:=[.func (.func 67) #[] #[],.func (.func 68) #[] #[],.func (.func 69) #[] #[]]
 refine oR Z (zq (pv:=[(0,.func (.func 67) #[] #[]),(1,.func (.func 68) #[] #[]),(2,.func (.func 69) #[] #[])]) (z:=B1) (cs:=B2) Z (wAC Z (wAC Z (wAC Z wAR))) Zg wEV Z Z) ?_
 let B3:List Value:=[.func (.func 70) #[] #[],.func (.func 71) #[] #[],.func (.func 72) #[] #[]]
 refine oR Z (zq (pv:=[(0,.func (.func 70) #[] #[]),(1,.func (.func 71) #[] #[]),(2,.func (.func 72) #[] #[])]) (z:=B1) (cs:=B3) Z (wAC Z (wAC Z (wAC Z wAR))) Zg wEV Z Z) ?_
 let B4:List Value:=[.func (.func 73) #[] #[],.func (.func 74) #[] #[],.func (.func 76) #[] #[]]
 refine oR Z (zq (pv:=[(0,.func (.func 73) #[] #[]),(1,.func (.func 74) #[] #[]),(2,.func (.func 76) #[] #[])]) (z:=B1) (cs:=B4) Z (wAC Z (wAC Z (wAC Z wAR))) Zg wEV Z Z) ?_
 let B5:List Value:=[.func (.func 77) #[] #[],.func (.func 78) #[] #[],.func (.func 79) #[] #[]]
 refine oR Z (zq (pv:=[(0,.func (.func 77) #[] #[]),(1,.func (.func 78) #[] #[]),(2,.func (.func 79) #[] #[])]) (z:=B1) (cs:=B5) Z (wAC Z (wAC Z (wAC Z wAR))) Zg wEV Z Z) ?_
 let O:List Value:=[.func (.func 67) #[] #[],.func (.func 68) #[] #[],.func (.func 69) #[] #[],.func (.func 70) #[] #[],.func (.func 71) #[] #[],.func (.func 72) #[] #[],.func (.func 73) #[] #[],.func (.func 74) #[] #[],.func (.func 76) #[] #[],.func (.func 77) #[] #[],.func (.func 78) #[] #[],.func (.func 79) #[] #[]]
 refine oR Z (Runs.buildA (pv:=[(0,.agg B2.toArray),(1,.agg B3.toArray),(2,.agg B4.toArray),(3,.agg B5.toArray)]) (z:=B0) (cs:=O) Z (wAC Z (wAC Z (wAC Z (wAC Z wAR)))) Try.zeroValue134 Zm ZT Z Z) (za (j:=0) (vs:=O) Z Z Z Z am Z Z Z Z Try.sizeOf134 (zA Z) Z Z Z ?_)
 intro W5 an
 have ai:sW w U U [.blk b2 134 O] W5:=an
 refine eN (zT ?_)
 cases hm
 exact ⟨rfl,_,(wIJ (v:=.agg O.toArray) ⟨⟨_,rfl,(wBL Try.isAgg134 Try.sizeOf134 (ai.blkAt (k:=0) rfl) (vs:=O) rfl rfl)⟩,trivial⟩),U,_,(ai.pick [] _ (by decide) rfl),rfl,rfl⟩
theorem wEk (p0:wAD) (aZ:Option Addr) (ba:Nat) (a7:Option Addr) (bb:Nat) (a8:Option Addr) (bc:Nat) (a9:Option Addr) (be:Nat) (O:wAK) (w:World) (U:PHeap) (hS:St0 w U []) (cc:Sl U 1 aZ ba p0.Starts.length (hD KL.encI p0.Starts)) (cd:Sl U 2 a7 bb p0.Splits.length (hD wAE p0.Splits)) (ci:Sl U 3 a8 bc p0.Clocks.length (hD wAP p0.Clocks)) (cj:Sl U 4 a9 be p0.Readings.length (hD wAH p0.Readings)) {r:wAB × wAB × Int} (hm:wBT p0 O=some r):Gv Try.prog 60 [.agg #[.slice aZ p0.Starts.length ba,.slice a7 p0.Splits.length bb,.slice a8 p0.Clocks.length bc,.slice a9 p0.Readings.length be],.agg #[jV O.Kind,jV O.Skier,jV O.Index,.bool O.Up]] w (wBz w [] U (fun U_ L_ v=>v=.tuple #[.agg #[jV r.1.skier,jV r.1.mat],.agg #[jV r.2.1.skier,jV r.2.1.mat],jV r.2.2]/\L_=[])):=by
 unfold wBT at hm
 refine Gv.of Try.func60 Z Try.ntmps60 Try.results60 Z ?_
 by_cases c1:O.Kind=0
 have fb:=hm;rw [if_pos c1] at fb
 refine sR gCh Z ?_
 let B0:List Value:=[.slice aZ p0.Starts.length ba,.slice a7 p0.Splits.length bb,.slice a8 p0.Clocks.length bc,.slice a9 p0.Readings.length be]
 refine ZD (cs:=B0) rfl rfl rfl rfl rfl rfl (by rfl) hS ?_
 intro W6 b7 mj
 let B1:List Value:=[jV O.Kind,jV O.Skier,jV O.Index,.bool O.Up]
 refine ZD (cs:=B1) rfl rfl rfl rfl rfl rfl (by rfl) mj ?_
 intro mZ aJ iW
 let B2:List Value:=[jV 0,jV 0]
 refine zY (cs:=B2) Z Z Z Z Z zj Z iW ?_
 intro m4 ax jd
 refine zY (cs:=B2) Z Z Z Z Z zj Z jd ?_
 intro dB aE jk
 refine oA Z Z (eN ?_)
 have q:=bnd fb
 obtain ⟨⟨⟩,mw,eV⟩:=q
 try dsimp only at eV
 let B3:List Value:=[.func (.func 67) #[] #[],.func (.func 68) #[] #[],.func (.func 69) #[] #[]]
 refine Zp (fun σ_ w_=>∃ (U_:PHeap) (bg:Nat),σ_ 2=.pointer (some ⟨b7,0,none⟩)/\σ_ 3=.pointer (some ⟨aJ,0,none⟩)/\σ_ 4=.pointer (some ⟨ax,0,none⟩)/\σ_ 5=.pointer (some ⟨aE,0,none⟩)/\σ_ 7=.pointer (some ⟨bg,0,none⟩)/\PHeap.Le U U_/\sW w U U_ [.blk aE 71 B2,.blk ax 71 B2,.blk aJ 106 B1,.blk b7 45 B0,.blk bg 133 B3] w_) ?_ ?_
 have q:=bnd mw
 obtain ⟨⟨⟩,d8,dr⟩:=q
 try dsimp only at dr
 refine zw zx [2,3,1,3,2,0] gCq (by kernel_rfl) ?_
 have bW:=jk.drew
 generalize hw_W45:({ dB with drawn:=dB.drawn + 1 }:World)=gq at bW ⊢
 refine oR Z (zI Z Z zu Z Try.sizeOf104) (oL Z (bW.ldB (j:=2) Z Z Z Try.isAgg104 (v:=jV O.Kind) Z) (zo ?_ ?_))
 refine zL 0 Z Z Z Z (zK Z Z yN zQ Z) bW (fun hs=>wBR gq U hs d8) (.inr Z) ?_
 rintro cM mQ oW gC mD lu ⟨rfl,rfl⟩
 have lv:sW w U cM [.blk aE 71 B2,.blk ax 71 B2,.blk aJ 106 B1,.blk b7 45 B0] gC:=lu
 refine zb rfl rfl rfl rfl (fun _=>(Runs.ixA (i:=0) rfl rfl (congrArg (jV) c1) Zm ZT (by decide) (by decide) (wDJ yS ZT rfl))) (zY (cs:=[.nilFunc,.nilFunc,.nilFunc]) rfl rfl rfl rfl rfl Zg rfl lv ?_)
 intro oh dL lG
 refine za (j:=0) (vs:=B3) Z Z Z Z lG Z Z Z Z ZT (zA Z) Z Z Z ?_
 intro gK lL
 have lP:sW w U cM [.blk dL 133 B3,.blk aE 71 B2,.blk ax 71 B2,.blk aJ 106 B1,.blk b7 45 B0] gK:=lL
 refine zW ?_
 cases dr
 exact zF ⟨rfl,⟨cM,dL,rfl,rfl,rfl,rfl,rfl,mD,(lP.pick [1,2,3,4,0] _ (by decide) rfl)⟩⟩
 refine zY (cs:=[.nilFunc,.nilFunc,.nilFunc]) Z Z Z Z Z Zg Z bW ?_
 intro gP cY l4
 refine zL 0 Z Z Z Z (zK Z Z yN zQ Z) l4 (fun hs=>wBR gP U hs d8) (.inr Z) ?_
 rintro cP mV o7 gY mG mf ⟨rfl,rfl⟩
 have mg:sW w U cP [.blk cY 133 [.nilFunc,.nilFunc,.nilFunc],.blk aE 71 B2,.blk ax 71 B2,.blk aJ 106 B1,.blk b7 45 B0] gY:=mf
 refine zb rfl rfl rfl rfl (fun _=>(Runs.ixA (i:=0) rfl rfl (congrArg (jV) c1) Zm ZT (by decide) (by decide) (wDJ yS ZT rfl))) (za (j:=0) (vs:=B3) rfl rfl rfl rfl mg rfl rfl rfl rfl ZT (zA rfl) rfl rfl rfl ?_)
 intro gZ mh
 have mi:sW w U cP [.blk cY 133 B3,.blk aE 71 B2,.blk ax 71 B2,.blk aJ 106 B1,.blk b7 45 B0] gZ:=mh
 refine zW ?_
 cases dr
 exact zF ⟨rfl,⟨cP,cY,rfl,rfl,rfl,rfl,rfl,mG,(mi.pick [1,2,3,4,0] _ (by decide) rfl)⟩⟩
 rintro pn g6 ⟨fK,bg,dW,de,bw,br,dX,cw,cb⟩
 refine sR (wDL (.fx 4 (wIb gBc) .stop)) Z (oR Z (zI Z dX Zt Z Try.sizeOf130) (oL Z (cb.ldB (j:=4) Z Z Z Try.isAgg130 (v:=.func (.func 68) #[] #[]) Z) (oL Z (cb.ldBA (j:=3) Z Z dW ZP zz (vs:=B0) Z Z) (oL Z (cb.ldBA (j:=2) Z Z de yG Zx (vs:=B1) Z Z) ?_))))
 have eD:=cc.le cw
 have eE:=cd.le cw
 have eF:=ci.le cw
 have eG:=cj.le cw
 have q:=bnd eV
 obtain ⟨⟨cD,cE⟩,iQ,fj⟩:=q
 try dsimp only at fj
 refine zL 0 Z Z Z Z (zK Z Z Try.call68 (zB Z (zB Z zQ)) Z) cb (fun hs=>wFm p0 aZ ba a7 bb a8 bc a9 be O g6 fK hs eD eE eF eG iQ) (.inr Z) ?_
 rintro bN mY o9 g7 cm iR ⟨rfl,rfl⟩
 have iS:sW w U bN [.blk aE 71 B2,.blk ax 71 B2,.blk aJ 106 B1,.blk b7 45 B0,.blk bg 133 B3] g7:=iR
 refine oM Z Z (oR Z (zn Z Z (v:=.agg #[jV cD.skier,jV cD.mat]) Z) (oR Z (zn Z Z (v:=.agg #[jV cE.skier,jV cE.mat]) Z) ?_))
 let B4:List Value:=[jV cD.skier,jV cD.mat]
 refine za (j:=1) (vs:=B4) Z Z Z Z iS Z bw Z Z zG (zA Z) Z Z Z ?_
 intro fL iT
 have iU:sW w U bN [.blk aE 71 B2,.blk ax 71 B4,.blk aJ 106 B1,.blk b7 45 B0,.blk bg 133 B3] fL:=iT
 let B5:List Value:=[jV cE.skier,jV cE.mat]
 refine za (j:=0) (vs:=B5) Z Z Z Z iU Z br Z Z zG (zA Z) Z Z Z ?_
 intro dz iV
 have bP:sW w U bN [.blk aE 71 B5,.blk ax 71 B4,.blk aJ 106 B1,.blk b7 45 B0,.blk bg 133 B3] dz:=iV
 refine eN (sR (wDL (.fx 4 (wKW (.nil)) .stop)) Z (oR Z (zI Z dX Zt Z Try.sizeOf131) (oL Z (bP.ldB (j:=4) Z Z Z Try.isAgg131 (v:=.func (.func 69) #[] #[]) Z) (oL Z (bP.ldBA (j:=3) Z Z dW ZP zz (vs:=B0) Z Z) (oL Z (bP.ldBA (j:=2) Z Z de yG Zx (vs:=B1) Z Z) ?_)))))
 have iq:=eD.le cm
 have ir:=eE.le cm
 have it:=eF.le cm
 have iu:=eG.le cm
 have q:=bnd fj
 obtain ⟨⟨dv,fu⟩,iv,eM⟩:=q
 try dsimp only at eM
 refine zL 0 Z Z Z Z (zK Z Z Try.call69 (zB Z (zB Z zQ)) Z) bP (fun hs=>wFn p0 aZ ba a7 bb a8 bc a9 be O dz bN hs iq ir it iu iv) (.inr Z) ?_
 rintro bj mH oI cQ ow iX ⟨rfl,rfl⟩
 have bC:sW w U bj [.blk aE 71 B5,.blk ax 71 B4,.blk aJ 106 B1,.blk b7 45 B0,.blk bg 133 B3] cQ:=iX
 refine oM Z Z (oR Z (zn Z Z (v:=jV dv) Z) (oR Z (zn Z Z (v:=jV fu) Z) (oA Z Z (oA Z Z (eN (zJ (sR fL3 Z (oR Z (zI Z de zu Z Try.sizeOf4) (oL Z (bC.ldB (j:=2) Z Z Z Try.isAgg4 (v:=.bool O.Up) Z) (oR Z (ZV Z Z) (eN (ifc eM ?_ ?_))))))))))))
 intro cZ ml
 refine zl (nC cZ.out) (kN ?_)
 have q:=bnd ml
 obtain ⟨⟨⟩,fk,eO⟩:=q
 try dsimp only at eO
 refine Zp (fun σ_ w_=>∃ (U_:PHeap),σ_ 4=.pointer (some ⟨ax,0,none⟩)/\σ_ 5=.pointer (some ⟨aE,0,none⟩)/\σ_ 6=jV dv/\PHeap.Le bj U_/\sW w U U_ [.blk aE 71 B5,.blk ax 71 B4,.blk aJ 106 B1,.blk b7 45 B0,.blk bg 133 B3] w_) ?_ ?_
 refine zw zx [1,2,3,0,0,3] gCr (by kernel_rfl) ?_
 have bD:=bC.drew
 generalize hw_W136:({ cQ with drawn:=cQ.drawn + 1 }:World)=m3 at bD ⊢
 refine oL Z (bD.ldBA (j:=1) Z Z bw zh zG (vs:=B4) Z Z) (oM Z Z (zo ?_ ?_))
 refine ZO Z Z Z Z (bD.ldBA (j:=0) Z Z br zh zG (vs:=B5) Z Z) (za (j:=1) (vs:=B4) Z Z Z Z bD Z bw Z Z zG (zA Z) Z Z Z ?_)
 intro fM iY
 have iZ:sW w U bj [.blk aE 71 B5,.blk ax 71 B4,.blk aJ 106 B1,.blk b7 45 B0,.blk bg 133 B3] fM:=iY
 refine za (j:=0) (vs:=B5) Z Z Z Z iZ Z br Z Z zG (zA Z) Z Z Z ?_
 intro fN i7
 have i8:sW w U bj [.blk aE 71 B5,.blk ax 71 B4,.blk aJ 106 B1,.blk b7 45 B0,.blk bg 133 B3] fN:=i7
 refine oA Z Z (zW ?_)
 cases fk
 exact zF ⟨Z,⟨bj,bw,br,Z,(zM _),i8⟩⟩
 refine za (j:=1) (vs:=B4) Z Z Z Z bD Z bw Z Z zG (zA Z) Z Z Z ?_
 intro fO i9
 have eH:sW w U bj [.blk aE 71 B5,.blk ax 71 B4,.blk aJ 106 B1,.blk b7 45 B0,.blk bg 133 B3] fO:=i9
 refine ZO Z Z Z Z (eH.ldBA (j:=0) Z Z br zh zG (vs:=B5) Z Z) (za (j:=0) (vs:=B5) Z Z Z Z eH Z br Z Z zG (zA Z) Z Z Z ?_)
 intro fP ja
 have jb:sW w U bj [.blk aE 71 B5,.blk ax 71 B4,.blk aJ 106 B1,.blk b7 45 B0,.blk bg 133 B3] fP:=ja
 refine oA Z Z (zW ?_)
 cases fk
 exact zF ⟨Z,⟨bj,bw,br,Z,(zM _),jb⟩⟩
 rintro pc m5 ⟨fA,g9,ib,ic,ox,df⟩
 refine zT ?_
 cases eO
 exact ⟨rfl,_,(wDn (rs:=[.cell 4 71,.cell 5 71,.tmp 6]) (vs:=[.agg B4.toArray,.agg B5.toArray,jV dv]) ⟨⟨_,g9,(wBL zh zG (df.blkAt (k:=1) rfl) (vs:=B4) rfl rfl)⟩,⟨⟨_,ib,(wBL zh zG (df.blkAt (k:=0) rfl) (vs:=B5) rfl rfl)⟩,⟨ic,trivial⟩⟩⟩ rfl),fA,_,(df.pick [] _ (by decide) rfl),rfl,rfl⟩
 intro cZ mm
 refine ZA (nF (cZ.out)) (sR (wDt gBp) Z (oL Z (bC.ldBA (j:=0) Z Z br zh zG (vs:=B5) Z Z) (oL Z (bC.ldBA (j:=1) Z Z bw zh zG (vs:=B4) Z Z) (oM Z Z (za (j:=1) (vs:=B5) Z Z Z Z bC Z bw Z Z zG (zA Z) Z Z Z ?_)))))
 intro fQ jc
 have je:sW w U bj [.blk aE 71 B5,.blk ax 71 B5,.blk aJ 106 B1,.blk b7 45 B0,.blk bg 133 B3] fQ:=jc
 refine za (j:=0) (vs:=B4) Z Z Z Z je Z br Z Z zG (zA Z) Z Z Z ?_
 intro fR jf
 have dg:sW w U bj [.blk aE 71 B4,.blk ax 71 B5,.blk aJ 106 B1,.blk b7 45 B0,.blk bg 133 B3] fR:=jf
 refine oA Z Z (eN (zT (zP ?_)))
 cases mm
 exact ⟨rfl,_,(wDn (rs:=[.cell 4 71,.cell 5 71,.tmp 6]) (vs:=[.agg B5.toArray,.agg B4.toArray,jV fu]) ⟨⟨_,bw,(wBL zh zG (dg.blkAt (k:=1) rfl) (vs:=B5) rfl rfl)⟩,⟨⟨_,br,(wBL zh zG (dg.blkAt (k:=0) rfl) (vs:=B4) rfl rfl)⟩,⟨rfl,trivial⟩⟩⟩ rfl),bj,_,(dg.pick [] _ (by decide) rfl),rfl,rfl⟩
 by_cases c2:O.Kind=1
 have eQ:=hm;rw [if_neg c1,if_pos c2] at eQ
 refine sR gCh Z ?_
 let B6:List Value:=[.slice aZ p0.Starts.length ba,.slice a7 p0.Splits.length bb,.slice a8 p0.Clocks.length bc,.slice a9 p0.Readings.length be]
 refine ZD (cs:=B6) rfl rfl rfl rfl rfl rfl (by rfl) hS ?_
 intro m6 aK jg
 let B7:List Value:=[jV O.Kind,jV O.Skier,jV O.Index,.bool O.Up]
 refine ZD (cs:=B7) rfl rfl rfl rfl rfl rfl (by rfl) jg ?_
 intro m7 aL jh
 let B8:List Value:=[jV 0,jV 0]
 refine zY (cs:=B8) Z Z Z Z Z zj Z jh ?_
 intro m8 ay ji
 refine zY (cs:=B8) Z Z Z Z Z zj Z ji ?_
 intro dA az jj
 refine oA Z Z (eN ?_)
 have q:=bnd eQ
 obtain ⟨⟨⟩,mu,eT⟩:=q
 try dsimp only at eT
 let B9:List Value:=[.func (.func 70) #[] #[],.func (.func 71) #[] #[],.func (.func 72) #[] #[]]
 refine Zp (fun σ_ w_=>∃ (U_:PHeap) (bf:Nat),σ_ 2=.pointer (some ⟨aK,0,none⟩)/\σ_ 3=.pointer (some ⟨aL,0,none⟩)/\σ_ 4=.pointer (some ⟨ay,0,none⟩)/\σ_ 5=.pointer (some ⟨az,0,none⟩)/\σ_ 7=.pointer (some ⟨bf,0,none⟩)/\PHeap.Le U U_/\sW w U U_ [.blk az 71 B8,.blk ay 71 B8,.blk aL 106 B7,.blk aK 45 B6,.blk bf 133 B9] w_) ?_ ?_
 have q:=bnd mu
 obtain ⟨⟨⟩,dY,dp⟩:=q
 try dsimp only at dp
 refine zw zx [2,3,1,3,2,0] gCq (by kernel_rfl) ?_
 have bQ:=jj.drew
 generalize hw_W204:({ dA with drawn:=dA.drawn + 1 }:World)=fS at bQ ⊢
 refine oR Z (zI Z Z zu Z Try.sizeOf104) (oL Z (bQ.ldB (j:=2) Z Z Z Try.isAgg104 (v:=jV O.Kind) Z) (zo ?_ ?_))
 refine zL 0 Z Z Z Z (zK Z Z yN zQ Z) bQ (fun hs=>wBR fS U hs dY) (.inr Z) ?_
 rintro cI mI oJ fT mz jl ⟨rfl,rfl⟩
 have jm:sW w U cI [.blk az 71 B8,.blk ay 71 B8,.blk aL 106 B7,.blk aK 45 B6] fT:=jl
 refine zb rfl rfl rfl rfl (fun _=>(Runs.ixA (i:=1) rfl rfl (congrArg (jV) c2) Zm ZT (by decide) (by decide) (wDJ yS ZT rfl))) (zY (cs:=[.nilFunc,.nilFunc,.nilFunc]) rfl rfl rfl rfl rfl Zg rfl jm ?_)
 intro m9 dI jo
 refine za (j:=0) (vs:=B9) Z Z Z Z jo Z Z Z Z ZT (zA Z) Z Z Z ?_
 intro fU jp
 have jq:sW w U cI [.blk dI 133 B9,.blk az 71 B8,.blk ay 71 B8,.blk aL 106 B7,.blk aK 45 B6] fU:=jp
 refine zW ?_
 cases dp
 exact zF ⟨rfl,⟨cI,dI,rfl,rfl,rfl,rfl,rfl,mz,(jq.pick [1,2,3,4,0] _ (by decide) rfl)⟩⟩
 refine zY (cs:=[.nilFunc,.nilFunc,.nilFunc]) Z Z Z Z Z Zg Z bQ ?_
 intro fV cV jr
 refine zL 0 Z Z Z Z (zK Z Z yN zQ Z) jr (fun hs=>wBR fV U hs dY) (.inr Z) ?_
 rintro cJ mJ oK fW mA jt ⟨rfl,rfl⟩
 have ju:sW w U cJ [.blk cV 133 [.nilFunc,.nilFunc,.nilFunc],.blk az 71 B8,.blk ay 71 B8,.blk aL 106 B7,.blk aK 45 B6] fW:=jt
 refine zb rfl rfl rfl rfl (fun _=>(Runs.ixA (i:=1) rfl rfl (congrArg (jV) c2) Zm ZT (by decide) (by decide) (wDJ yS ZT rfl))) (za (j:=0) (vs:=B9) rfl rfl rfl rfl ju rfl rfl rfl rfl ZT (zA rfl) rfl rfl rfl ?_)
 intro fY jv
 have jw:sW w U cJ [.blk cV 133 B9,.blk az 71 B8,.blk ay 71 B8,.blk aL 106 B7,.blk aK 45 B6] fY:=jv
 refine zW ?_
 cases dp
 exact zF ⟨rfl,⟨cJ,cV,rfl,rfl,rfl,rfl,rfl,mA,(jw.pick [1,2,3,4,0] _ (by decide) rfl)⟩⟩
 rintro pd fZ ⟨fB,bf,dQ,da,bt,bo,dR,co,bR⟩
 refine sR (wDL (.fx 4 (wIb gBc) .stop)) Z (oR Z (zI Z dR Zt Z Try.sizeOf130) (oL Z (bR.ldB (j:=4) Z Z Z Try.isAgg130 (v:=.func (.func 71) #[] #[]) Z) (oL Z (bR.ldBA (j:=3) Z Z dQ ZP zz (vs:=B6) Z Z) (oL Z (bR.ldBA (j:=2) Z Z da yG Zx (vs:=B7) Z Z) ?_))))
 have dZ:=cc.le co
 have d5:=cd.le co
 have d6:=ci.le co
 have d7:=cj.le co
 have q:=bnd eT
 obtain ⟨⟨cx,cy⟩,iw,eU⟩:=q
 try dsimp only at eU
 refine zL 0 Z Z Z Z (zK Z Z Try.call71 (zB Z (zB Z zQ)) Z) bR (fun hs=>wFo p0 aZ ba a7 bb a8 bc a9 be O fZ fB hs dZ d5 d6 d7 iw) (.inr Z) ?_
 rintro bK mK oO f4 cp jx ⟨rfl,rfl⟩
 have jy:sW w U bK [.blk az 71 B8,.blk ay 71 B8,.blk aL 106 B7,.blk aK 45 B6,.blk bf 133 B9] f4:=jx
 refine oM Z Z (oR Z (zn Z Z (v:=.agg #[jV cx.skier,jV cx.mat]) Z) (oR Z (zn Z Z (v:=.agg #[jV cy.skier,jV cy.mat]) Z) ?_))
 let aj:List Value:=[jV cx.skier,jV cx.mat]
 refine za (j:=1) (vs:=aj) Z Z Z Z jy Z bt Z Z zG (zA Z) Z Z Z ?_
 intro f5 jz
 have jA:sW w U bK [.blk az 71 B8,.blk ay 71 aj,.blk aL 106 B7,.blk aK 45 B6,.blk bf 133 B9] f5:=jz
 let ab:List Value:=[jV cy.skier,jV cy.mat]
 refine za (j:=0) (vs:=ab) Z Z Z Z jA Z bo Z Z zG (zA Z) Z Z Z ?_
 intro dC jB
 have bS:sW w U bK [.blk az 71 ab,.blk ay 71 aj,.blk aL 106 B7,.blk aK 45 B6,.blk bf 133 B9] dC:=jB
 refine eN (sR (wDL (.fx 4 (wKW (.nil)) .stop)) Z (oR Z (zI Z dR Zt Z Try.sizeOf131) (oL Z (bS.ldB (j:=4) Z Z Z Try.isAgg131 (v:=.func (.func 72) #[] #[]) Z) (oL Z (bS.ldBA (j:=3) Z Z dQ ZP zz (vs:=B6) Z Z) (oL Z (bS.ldBA (j:=2) Z Z da yG Zx (vs:=B7) Z Z) ?_)))))
 have iz:=dZ.le cp
 have iA:=d5.le cp
 have iB:=d6.le cp
 have iC:=d7.le cp
 have q:=bnd eU
 obtain ⟨⟨dw,fw⟩,iD,eW⟩:=q
 try dsimp only at eW
 refine zL 0 Z Z Z Z (zK Z Z Try.call72 (zB Z (zB Z zQ)) Z) bS (fun hs=>wFp p0 aZ ba a7 bb a8 bc a9 be O dC bK hs iz iA iB iC iD) (.inr Z) ?_
 rintro bk mL oP cR oy jC ⟨rfl,rfl⟩
 have bE:sW w U bk [.blk az 71 ab,.blk ay 71 aj,.blk aL 106 B7,.blk aK 45 B6,.blk bf 133 B9] cR:=jC
 refine oM Z Z (oR Z (zn Z Z (v:=jV dw) Z) (oR Z (zn Z Z (v:=jV fw) Z) (oA Z Z (oA Z Z (eN (zJ (sR fL3 Z (oR Z (zI Z da zu Z Try.sizeOf4) (oL Z (bE.ldB (j:=2) Z Z Z Try.isAgg4 (v:=.bool O.Up) Z) (oR Z (ZV Z Z) (eN (ifc eW ?_ ?_))))))))))))
 intro c6 mn
 refine zl (nC c6.out) (kN ?_)
 have q:=bnd mn
 obtain ⟨⟨⟩,fm,eX⟩:=q
 try dsimp only at eX
 refine Zp (fun σ_ w_=>∃ (U_:PHeap),σ_ 4=.pointer (some ⟨ay,0,none⟩)/\σ_ 5=.pointer (some ⟨az,0,none⟩)/\σ_ 6=jV dw/\PHeap.Le bk U_/\sW w U U_ [.blk az 71 ab,.blk ay 71 aj,.blk aL 106 B7,.blk aK 45 B6,.blk bf 133 B9] w_) ?_ ?_
 refine zw zx [1,2,3,0,0,3] gCr (by kernel_rfl) ?_
 have bF:=bE.drew
 generalize hw_W295:({ cR with drawn:=cR.drawn + 1 }:World)=n4 at bF ⊢
 refine oL Z (bF.ldBA (j:=1) Z Z bt zh zG (vs:=aj) Z Z) (oM Z Z (zo ?_ ?_))
 refine ZO Z Z Z Z (bF.ldBA (j:=0) Z Z bo zh zG (vs:=ab) Z Z) (za (j:=1) (vs:=aj) Z Z Z Z bF Z bt Z Z zG (zA Z) Z Z Z ?_)
 intro f6 jD
 have jE:sW w U bk [.blk az 71 ab,.blk ay 71 aj,.blk aL 106 B7,.blk aK 45 B6,.blk bf 133 B9] f6:=jD
 refine za (j:=0) (vs:=ab) Z Z Z Z jE Z bo Z Z zG (zA Z) Z Z Z ?_
 intro f7 jF
 have jG:sW w U bk [.blk az 71 ab,.blk ay 71 aj,.blk aL 106 B7,.blk aK 45 B6,.blk bf 133 B9] f7:=jF
 refine oA Z Z (zW ?_)
 cases fm
 exact zF ⟨Z,⟨bk,bt,bo,Z,(zM _),jG⟩⟩
 refine za (j:=1) (vs:=aj) Z Z Z Z bF Z bt Z Z zG (zA Z) Z Z Z ?_
 intro f8 jH
 have eI:sW w U bk [.blk az 71 ab,.blk ay 71 aj,.blk aL 106 B7,.blk aK 45 B6,.blk bf 133 B9] f8:=jH
 refine ZO Z Z Z Z (eI.ldBA (j:=0) Z Z bo zh zG (vs:=ab) Z Z) (za (j:=0) (vs:=ab) Z Z Z Z eI Z bo Z Z zG (zA Z) Z Z Z ?_)
 intro f9 jI
 have jJ:sW w U bk [.blk az 71 ab,.blk ay 71 aj,.blk aL 106 B7,.blk aK 45 B6,.blk bf 133 B9] f9:=jI
 refine oA Z Z (zW ?_)
 cases fm
 exact zF ⟨Z,⟨bk,bt,bo,Z,(zM _),jJ⟩⟩
 rintro pe n5 ⟨fC,ie,ig,ii,oz,dh⟩
 refine zT ?_
 cases eX
 exact ⟨rfl,_,(wDn (rs:=[.cell 4 71,.cell 5 71,.tmp 6]) (vs:=[.agg aj.toArray,.agg ab.toArray,jV dw]) ⟨⟨_,ie,(wBL zh zG (dh.blkAt (k:=1) rfl) (vs:=aj) rfl rfl)⟩,⟨⟨_,ig,(wBL zh zG (dh.blkAt (k:=0) rfl) (vs:=ab) rfl rfl)⟩,⟨ii,trivial⟩⟩⟩ rfl),fC,_,(dh.pick [] _ (by decide) rfl),rfl,rfl⟩
 intro c6 mo
 refine ZA (nF (c6.out)) (sR (wDt gBp) Z (oL Z (bE.ldBA (j:=0) Z Z bo zh zG (vs:=ab) Z Z) (oL Z (bE.ldBA (j:=1) Z Z bt zh zG (vs:=aj) Z Z) (oM Z Z (za (j:=1) (vs:=ab) Z Z Z Z bE Z bt Z Z zG (zA Z) Z Z Z ?_)))))
 intro ga jK
 have jL:sW w U bk [.blk az 71 ab,.blk ay 71 ab,.blk aL 106 B7,.blk aK 45 B6,.blk bf 133 B9] ga:=jK
 refine za (j:=0) (vs:=aj) Z Z Z Z jL Z bo Z Z zG (zA Z) Z Z Z ?_
 intro gb jM
 have di:sW w U bk [.blk az 71 aj,.blk ay 71 ab,.blk aL 106 B7,.blk aK 45 B6,.blk bf 133 B9] gb:=jM
 refine oA Z Z (eN (zT (zP ?_)))
 cases mo
 exact ⟨rfl,_,(wDn (rs:=[.cell 4 71,.cell 5 71,.tmp 6]) (vs:=[.agg ab.toArray,.agg aj.toArray,jV fw]) ⟨⟨_,bt,(wBL zh zG (di.blkAt (k:=1) rfl) (vs:=ab) rfl rfl)⟩,⟨⟨_,bo,(wBL zh zG (di.blkAt (k:=0) rfl) (vs:=aj) rfl rfl)⟩,⟨rfl,trivial⟩⟩⟩ rfl),bk,_,(di.pick [] _ (by decide) rfl),rfl,rfl⟩
 by_cases c3:O.Kind=2
 have eY:=hm;rw [if_neg c1,if_neg c2,if_pos c3] at eY
 refine sR gCh Z ?_
 let ak:List Value:=[.slice aZ p0.Starts.length ba,.slice a7 p0.Splits.length bb,.slice a8 p0.Clocks.length bc,.slice a9 p0.Readings.length be]
 refine ZD (cs:=ak) rfl rfl rfl rfl rfl rfl (by rfl) hS ?_
 intro n6 aM jN
 let am:List Value:=[jV O.Kind,jV O.Skier,jV O.Index,.bool O.Up]
 refine ZD (cs:=am) rfl rfl rfl rfl rfl rfl (by rfl) jN ?_
 intro n7 aN jO
 let aV:List Value:=[jV 0,jV 0]
 refine zY (cs:=aV) Z Z Z Z Z zj Z jO ?_
 intro n8 aF jP
 refine zY (cs:=aV) Z Z Z Z Z zj Z jP ?_
 intro dD aG jQ
 refine oA Z Z (eN ?_)
 have q:=bnd eY
 obtain ⟨⟨⟩,mx,eZ⟩:=q
 try dsimp only at eZ
 let aR:List Value:=[.func (.func 73) #[] #[],.func (.func 74) #[] #[],.func (.func 76) #[] #[]]
 refine Zp (fun σ_ w_=>∃ (U_:PHeap) (bh:Nat),σ_ 2=.pointer (some ⟨aM,0,none⟩)/\σ_ 3=.pointer (some ⟨aN,0,none⟩)/\σ_ 4=.pointer (some ⟨aF,0,none⟩)/\σ_ 5=.pointer (some ⟨aG,0,none⟩)/\σ_ 7=.pointer (some ⟨bh,0,none⟩)/\PHeap.Le U U_/\sW w U U_ [.blk aG 71 aV,.blk aF 71 aV,.blk aN 106 am,.blk aM 45 ak,.blk bh 133 aR] w_) ?_ ?_
 have q:=bnd mx
 obtain ⟨⟨⟩,d9,dq⟩:=q
 try dsimp only at dq
 refine zw zx [2,3,1,3,2,0] gCq (by kernel_rfl) ?_
 have bT:=jQ.drew
 generalize hw_W363:({ dD with drawn:=dD.drawn + 1 }:World)=ge at bT ⊢
 refine oR Z (zI Z Z zu Z Try.sizeOf104) (oL Z (bT.ldB (j:=2) Z Z Z Try.isAgg104 (v:=jV O.Kind) Z) (zo ?_ ?_))
 refine zL 0 Z Z Z Z (zK Z Z yN zQ Z) bT (fun hs=>wBR ge U hs d9) (.inr Z) ?_
 rintro cK mM oQ gf mB jR ⟨rfl,rfl⟩
 have jS:sW w U cK [.blk aG 71 aV,.blk aF 71 aV,.blk aN 106 am,.blk aM 45 ak] gf:=jR
 refine zb rfl rfl rfl rfl (fun _=>(Runs.ixA (i:=2) rfl rfl (congrArg (jV) c3) Zm ZT (by decide) (by decide) (wDJ yS ZT rfl))) (zY (cs:=[.nilFunc,.nilFunc,.nilFunc]) rfl rfl rfl rfl rfl Zg rfl jS ?_)
 intro n9 dJ jT
 refine za (j:=0) (vs:=aR) Z Z Z Z jT Z Z Z Z ZT (zA Z) Z Z Z ?_
 intro gg jU
 have jW:sW w U cK [.blk dJ 133 aR,.blk aG 71 aV,.blk aF 71 aV,.blk aN 106 am,.blk aM 45 ak] gg:=jU
 refine zW ?_
 cases dq
 exact zF ⟨rfl,⟨cK,dJ,rfl,rfl,rfl,rfl,rfl,mB,(jW.pick [1,2,3,4,0] _ (by decide) rfl)⟩⟩
 refine zY (cs:=[.nilFunc,.nilFunc,.nilFunc]) Z Z Z Z Z Zg Z bT ?_
 intro gh cW jX
 refine zL 0 Z Z Z Z (zK Z Z yN zQ Z) jX (fun hs=>wBR gh U hs d9) (.inr Z) ?_
 rintro cL mN oS gi mC jY ⟨rfl,rfl⟩
 have jZ:sW w U cL [.blk cW 133 [.nilFunc,.nilFunc,.nilFunc],.blk aG 71 aV,.blk aF 71 aV,.blk aN 106 am,.blk aM 45 ak] gi:=jY
 refine zb rfl rfl rfl rfl (fun _=>(Runs.ixA (i:=2) rfl rfl (congrArg (jV) c3) Zm ZT (by decide) (by decide) (wDJ yS ZT rfl))) (za (j:=0) (vs:=aR) rfl rfl rfl rfl jZ rfl rfl rfl rfl ZT (zA rfl) rfl rfl rfl ?_)
 intro gj j0
 have j3:sW w U cL [.blk cW 133 aR,.blk aG 71 aV,.blk aF 71 aV,.blk aN 106 am,.blk aM 45 ak] gj:=j0
 refine zW ?_
 cases dq
 exact zF ⟨rfl,⟨cL,cW,rfl,rfl,rfl,rfl,rfl,mC,(j3.pick [1,2,3,4,0] _ (by decide) rfl)⟩⟩
 rintro pf gk ⟨fD,bh,dS,db,bu,bp,dT,cq,bU⟩
 refine sR (wDL (.fx 4 (wIb gBc) .stop)) Z (oR Z (zI Z dT Zt Z Try.sizeOf130) (oL Z (bU.ldB (j:=4) Z Z Z Try.isAgg130 (v:=.func (.func 74) #[] #[]) Z) (oL Z (bU.ldBA (j:=3) Z Z dS ZP zz (vs:=ak) Z Z) (oL Z (bU.ldBA (j:=2) Z Z db yG Zx (vs:=am) Z Z) ?_))))
 have ef:=cc.le cq
 have eh:=cd.le cq
 have ej:=ci.le cq
 have ek:=cj.le cq
 have q:=bnd eZ
 obtain ⟨⟨cz,cA⟩,iE,e6⟩:=q
 try dsimp only at e6
 refine zL 0 Z Z Z Z (zK Z Z Try.call74 (zB Z (zB Z zQ)) Z) bU (fun hs=>wFq p0 aZ ba a7 bb a8 bc a9 be O gk fD hs ef eh ej ek iE) (.inr Z) ?_
 rintro bL mO oU gm cr j4 ⟨rfl,rfl⟩
 have j5:sW w U bL [.blk aG 71 aV,.blk aF 71 aV,.blk aN 106 am,.blk aM 45 ak,.blk bh 133 aR] gm:=j4
 refine oM Z Z (oR Z (zn Z Z (v:=.agg #[jV cz.skier,jV cz.mat]) Z) (oR Z (zn Z Z (v:=.agg #[jV cA.skier,jV cA.mat]) Z) ?_))
 let an:List Value:=[jV cz.skier,jV cz.mat]
 refine za (j:=1) (vs:=an) Z Z Z Z j5 Z bu Z Z zG (zA Z) Z Z Z ?_
 intro gp j6
 have j7:sW w U bL [.blk aG 71 aV,.blk aF 71 an,.blk aN 106 am,.blk aM 45 ak,.blk bh 133 aR] gp:=j6
 let ac:List Value:=[jV cA.skier,jV cA.mat]
 refine za (j:=0) (vs:=ac) Z Z Z Z j7 Z bp Z Z zG (zA Z) Z Z Z ?_
 intro dE j8
 have bV:sW w U bL [.blk aG 71 ac,.blk aF 71 an,.blk aN 106 am,.blk aM 45 ak,.blk bh 133 aR] dE:=j8
 refine eN (sR (wDL (.fx 4 (wKW (.nil)) .stop)) Z (oR Z (zI Z dT Zt Z Try.sizeOf131) (oL Z (bV.ldB (j:=4) Z Z Z Try.isAgg131 (v:=.func (.func 76) #[] #[]) Z) (oL Z (bV.ldBA (j:=3) Z Z dS ZP zz (vs:=ak) Z Z) (oL Z (bV.ldBA (j:=2) Z Z db yG Zx (vs:=am) Z Z) ?_)))))
 have iF:=ef.le cr
 have iG:=eh.le cr
 have iH:=ej.le cr
 have iI:=ek.le cr
 have q:=bnd e6
 obtain ⟨⟨dx,fy⟩,iJ,e7⟩:=q
 try dsimp only at e7
 refine zL 0 Z Z Z Z (zK Z Z Try.call76 (zB Z (zB Z zQ)) Z) bV (fun hs=>wFr p0 aZ ba a7 bb a8 bc a9 be O dE bL hs iF iG iH iI iJ) (.inr Z) ?_
 rintro bm mP oV cS oB j9 ⟨rfl,rfl⟩
 have bG:sW w U bm [.blk aG 71 ac,.blk aF 71 an,.blk aN 106 am,.blk aM 45 ak,.blk bh 133 aR] cS:=j9
 refine oM Z Z (oR Z (zn Z Z (v:=jV dx) Z) (oR Z (zn Z Z (v:=jV fy) Z) (oA Z Z (oA Z Z (eN (zJ (sR fL3 Z (oR Z (zI Z db zu Z Try.sizeOf4) (oL Z (bG.ldB (j:=2) Z Z Z Try.isAgg4 (v:=.bool O.Up) Z) (oR Z (ZV Z Z) (eN (ifc e7 ?_ ?_))))))))))))
 intro c8 mp
 refine zl (nC c8.out) (kN ?_)
 have q:=bnd mp
 obtain ⟨⟨⟩,fq,e8⟩:=q
 try dsimp only at e8
 refine Zp (fun σ_ w_=>∃ (U_:PHeap),σ_ 4=.pointer (some ⟨aF,0,none⟩)/\σ_ 5=.pointer (some ⟨aG,0,none⟩)/\σ_ 6=jV dx/\PHeap.Le bm U_/\sW w U U_ [.blk aG 71 ac,.blk aF 71 an,.blk aN 106 am,.blk aM 45 ak,.blk bh 133 aR] w_) ?_ ?_
 refine zw zx [1,2,3,0,0,3] gCr (by kernel_rfl) ?_
 have bH:=bG.drew
 generalize hw_W454:({ cS with drawn:=cS.drawn + 1 }:World)=oa at bH ⊢
 refine oL Z (bH.ldBA (j:=1) Z Z bu zh zG (vs:=an) Z Z) (oM Z Z (zo ?_ ?_))
 refine ZO Z Z Z Z (bH.ldBA (j:=0) Z Z bp zh zG (vs:=ac) Z Z) (za (j:=1) (vs:=an) Z Z Z Z bH Z bu Z Z zG (zA Z) Z Z Z ?_)
 intro gt k7
 have k9:sW w U bm [.blk aG 71 ac,.blk aF 71 an,.blk aN 106 am,.blk aM 45 ak,.blk bh 133 aR] gt:=k7
 refine za (j:=0) (vs:=ac) Z Z Z Z k9 Z bp Z Z zG (zA Z) Z Z Z ?_
 intro gu lb
 have lc:sW w U bm [.blk aG 71 ac,.blk aF 71 an,.blk aN 106 am,.blk aM 45 ak,.blk bh 133 aR] gu:=lb
 refine oA Z Z (zW ?_)
 cases fq
 exact zF ⟨Z,⟨bm,bu,bp,Z,(zM _),lc⟩⟩
 refine za (j:=1) (vs:=an) Z Z Z Z bH Z bu Z Z zG (zA Z) Z Z Z ?_
 intro gv lf
 have eJ:sW w U bm [.blk aG 71 ac,.blk aF 71 an,.blk aN 106 am,.blk aM 45 ak,.blk bh 133 aR] gv:=lf
 refine ZO Z Z Z Z (eJ.ldBA (j:=0) Z Z bp zh zG (vs:=ac) Z Z) (za (j:=0) (vs:=ac) Z Z Z Z eJ Z bp Z Z zG (zA Z) Z Z Z ?_)
 intro gw lg
 have li:sW w U bm [.blk aG 71 ac,.blk aF 71 an,.blk aN 106 am,.blk aM 45 ak,.blk bh 133 aR] gw:=lg
 refine oA Z Z (zW ?_)
 cases fq
 exact zF ⟨Z,⟨bm,bu,bp,Z,(zM _),li⟩⟩
 rintro pj oc ⟨fE,ij,ik,il,oC,dk⟩
 refine zT ?_
 cases e8
 exact ⟨rfl,_,(wDn (rs:=[.cell 4 71,.cell 5 71,.tmp 6]) (vs:=[.agg an.toArray,.agg ac.toArray,jV dx]) ⟨⟨_,ij,(wBL zh zG (dk.blkAt (k:=1) rfl) (vs:=an) rfl rfl)⟩,⟨⟨_,ik,(wBL zh zG (dk.blkAt (k:=0) rfl) (vs:=ac) rfl rfl)⟩,⟨il,trivial⟩⟩⟩ rfl),fE,_,(dk.pick [] _ (by decide) rfl),rfl,rfl⟩
 intro c8 mq
 refine ZA (nF (c8.out)) (sR (wDt gBp) Z (oL Z (bG.ldBA (j:=0) Z Z bp zh zG (vs:=ac) Z Z) (oL Z (bG.ldBA (j:=1) Z Z bu zh zG (vs:=an) Z Z) (oM Z Z (za (j:=1) (vs:=ac) Z Z Z Z bG Z bu Z Z zG (zA Z) Z Z Z ?_)))))
 intro gA lj
 have lk:sW w U bm [.blk aG 71 ac,.blk aF 71 ac,.blk aN 106 am,.blk aM 45 ak,.blk bh 133 aR] gA:=lj
 refine za (j:=0) (vs:=an) Z Z Z Z lk Z bp Z Z zG (zA Z) Z Z Z ?_
 intro gB ll
 have dl:sW w U bm [.blk aG 71 an,.blk aF 71 ac,.blk aN 106 am,.blk aM 45 ak,.blk bh 133 aR] gB:=ll
 refine oA Z Z (eN (zT (zP ?_)))
 cases mq
 exact ⟨rfl,_,(wDn (rs:=[.cell 4 71,.cell 5 71,.tmp 6]) (vs:=[.agg ac.toArray,.agg an.toArray,jV fy]) ⟨⟨_,bu,(wBL zh zG (dl.blkAt (k:=1) rfl) (vs:=ac) rfl rfl)⟩,⟨⟨_,bp,(wBL zh zG (dl.blkAt (k:=0) rfl) (vs:=an) rfl rfl)⟩,⟨rfl,trivial⟩⟩⟩ rfl),bm,_,(dl.pick [] _ (by decide) rfl),rfl,rfl⟩
 by_cases c4:O.Kind=3
 have e9:=hm;rw [if_neg c1,if_neg c2,if_neg c3,if_pos c4] at e9
 refine sR gCh Z ?_
 let ao:List Value:=[.slice aZ p0.Starts.length ba,.slice a7 p0.Splits.length bb,.slice a8 p0.Clocks.length bc,.slice a9 p0.Readings.length be]
 refine ZD (cs:=ao) rfl rfl rfl rfl rfl rfl (by rfl) hS ?_
 intro od aO lm
 let ap:List Value:=[jV O.Kind,jV O.Skier,jV O.Index,.bool O.Up]
 refine ZD (cs:=ap) rfl rfl rfl rfl rfl rfl (by rfl) lm ?_
 intro oe aP ln
 let aX:List Value:=[jV 0,jV 0]
 refine zY (cs:=aX) Z Z Z Z Z zj Z ln ?_
 intro og aH lp
 refine zY (cs:=aX) Z Z Z Z Z zj Z lp ?_
 intro dF aI lq
 refine oA Z Z (eN ?_)
 have q:=bnd e9
 obtain ⟨⟨⟩,my,fc⟩:=q
 try dsimp only at fc
 let aS:List Value:=[.func (.func 77) #[] #[],.func (.func 78) #[] #[],.func (.func 79) #[] #[]]
 refine Zp (fun σ_ w_=>∃ (U_:PHeap) (bi:Nat),σ_ 2=.pointer (some ⟨aO,0,none⟩)/\σ_ 3=.pointer (some ⟨aP,0,none⟩)/\σ_ 4=.pointer (some ⟨aH,0,none⟩)/\σ_ 5=.pointer (some ⟨aI,0,none⟩)/\σ_ 7=.pointer (some ⟨bi,0,none⟩)/\PHeap.Le U U_/\sW w U U_ [.blk aI 71 aX,.blk aH 71 aX,.blk aP 106 ap,.blk aO 45 ao,.blk bi 133 aS] w_) ?_ ?_
 have q:=bnd my
 obtain ⟨⟨⟩,en,dt⟩:=q
 try dsimp only at dt
 refine zw zx [2,3,1,3,2,0] gCq (by kernel_rfl) ?_
 have bX:=lq.drew
 generalize hw_W522:({ dF with drawn:=dF.drawn + 1 }:World)=gD at bX ⊢
 refine oR Z (zI Z Z zu Z Try.sizeOf104) (oL Z (bX.ldB (j:=2) Z Z Z Try.isAgg104 (v:=jV O.Kind) Z) (zo ?_ ?_))
 refine zL 0 Z Z Z Z (zK Z Z yN zQ Z) bX (fun hs=>wBR gD U hs en) (.inr Z) ?_
 rintro cN mR oZ gE mE lw ⟨rfl,rfl⟩
 have lx:sW w U cN [.blk aI 71 aX,.blk aH 71 aX,.blk aP 106 ap,.blk aO 45 ao] gE:=lw
 refine zb rfl rfl rfl rfl (fun _=>(Runs.ixA (i:=3) rfl rfl (congrArg (jV) c4) Zm ZT (by decide) (by decide) (wDJ yS ZT rfl))) (zY (cs:=[.nilFunc,.nilFunc,.nilFunc]) rfl rfl rfl rfl rfl Zg rfl lx ?_)
 intro oi dK ly
 refine za (j:=0) (vs:=aS) Z Z Z Z ly Z Z Z Z ZT (zA Z) Z Z Z ?_
 intro gF lA
 have lB:sW w U cN [.blk dK 133 aS,.blk aI 71 aX,.blk aH 71 aX,.blk aP 106 ap,.blk aO 45 ao] gF:=lA
 refine zW ?_
 cases dt
 exact zF ⟨rfl,⟨cN,dK,rfl,rfl,rfl,rfl,rfl,mE,(lB.pick [1,2,3,4,0] _ (by decide) rfl)⟩⟩
 refine zY (cs:=[.nilFunc,.nilFunc,.nilFunc]) Z Z Z Z Z Zg Z bX ?_
 intro gG cX lD
 refine zL 0 Z Z Z Z (zK Z Z yN zQ Z) lD (fun hs=>wBR gG U hs en) (.inr Z) ?_
 rintro cO mS o0 gH mF lE ⟨rfl,rfl⟩
 have lF:sW w U cO [.blk cX 133 [.nilFunc,.nilFunc,.nilFunc],.blk aI 71 aX,.blk aH 71 aX,.blk aP 106 ap,.blk aO 45 ao] gH:=lE
 refine zb rfl rfl rfl rfl (fun _=>(Runs.ixA (i:=3) rfl rfl (congrArg (jV) c4) Zm ZT (by decide) (by decide) (wDJ yS ZT rfl))) (za (j:=0) (vs:=aS) rfl rfl rfl rfl lF rfl rfl rfl rfl ZT (zA rfl) rfl rfl rfl ?_)
 intro gI lH
 have lI:sW w U cO [.blk cX 133 aS,.blk aI 71 aX,.blk aH 71 aX,.blk aP 106 ap,.blk aO 45 ao] gI:=lH
 refine zW ?_
 cases dt
 exact zF ⟨rfl,⟨cO,cX,rfl,rfl,rfl,rfl,rfl,mF,(lI.pick [1,2,3,4,0] _ (by decide) rfl)⟩⟩
 rintro pk gJ ⟨fG,bi,dU,dd,bv,bq,dV,ct,bY⟩
 refine sR (wDL (.fx 4 (wIb gBc) .stop)) Z (oR Z (zI Z dV Zt Z Try.sizeOf130) (oL Z (bY.ldB (j:=4) Z Z Z Try.isAgg130 (v:=.func (.func 78) #[] #[]) Z) (oL Z (bY.ldBA (j:=3) Z Z dU ZP zz (vs:=ao) Z Z) (oL Z (bY.ldBA (j:=2) Z Z dd yG Zx (vs:=ap) Z Z) ?_))))
 have eo:=cc.le ct
 have ep:=cd.le ct
 have ez:=ci.le ct
 have eB:=cj.le ct
 have q:=bnd fc
 obtain ⟨⟨cB,cC⟩,iK,fd⟩:=q
 try dsimp only at fd
 refine zL 0 Z Z Z Z (zK Z Z Try.call78 (zB Z (zB Z zQ)) Z) bY (fun hs=>wFQ p0 aZ ba a7 bb a8 bc a9 be O gJ fG hs eo ep ez eB iK) (.inr Z) ?_
 rintro bM mT o3 gL cu lJ ⟨rfl,rfl⟩
 have lK:sW w U bM [.blk aI 71 aX,.blk aH 71 aX,.blk aP 106 ap,.blk aO 45 ao,.blk bi 133 aS] gL:=lJ
 refine oM Z Z (oR Z (zn Z Z (v:=.agg #[jV cB.skier,jV cB.mat]) Z) (oR Z (zn Z Z (v:=.agg #[jV cC.skier,jV cC.mat]) Z) ?_))
 let aq:List Value:=[jV cB.skier,jV cB.mat]
 refine za (j:=1) (vs:=aq) Z Z Z Z lK Z bv Z Z zG (zA Z) Z Z Z ?_
 intro gM lM
 have lN:sW w U bM [.blk aI 71 aX,.blk aH 71 aq,.blk aP 106 ap,.blk aO 45 ao,.blk bi 133 aS] gM:=lM
 let ae:List Value:=[jV cC.skier,jV cC.mat]
 refine za (j:=0) (vs:=ae) Z Z Z Z lN Z bq Z Z zG (zA Z) Z Z Z ?_
 intro dG lO
 have bZ:sW w U bM [.blk aI 71 ae,.blk aH 71 aq,.blk aP 106 ap,.blk aO 45 ao,.blk bi 133 aS] dG:=lO
 refine eN (sR (wDL (.fx 4 (wKW (.nil)) .stop)) Z (oR Z (zI Z dV Zt Z Try.sizeOf131) (oL Z (bZ.ldB (j:=4) Z Z Z Try.isAgg131 (v:=.func (.func 79) #[] #[]) Z) (oL Z (bZ.ldBA (j:=3) Z Z dU ZP zz (vs:=ao) Z Z) (oL Z (bZ.ldBA (j:=2) Z Z dd yG Zx (vs:=ap) Z Z) ?_)))))
 have iL:=eo.le cu
 have iM:=ep.le cu
 have iN:=ez.le cu
 have iO:=eB.le cu
 have q:=bnd fd
 obtain ⟨⟨dy,fz⟩,iP,ff⟩:=q
 try dsimp only at ff
 refine zL 0 Z Z Z Z (zK Z Z Try.call79 (zB Z (zB Z zQ)) Z) bZ (fun hs=>wFR p0 aZ ba a7 bb a8 bc a9 be O dG bM hs iL iM iN iO iP) (.inr Z) ?_
 rintro bn mU o5 cU oD lQ ⟨rfl,rfl⟩
 have bI:sW w U bn [.blk aI 71 ae,.blk aH 71 aq,.blk aP 106 ap,.blk aO 45 ao,.blk bi 133 aS] cU:=lQ
 refine oM Z Z (oR Z (zn Z Z (v:=jV dy) Z) (oR Z (zn Z Z (v:=jV fz) Z) (oA Z Z (oA Z Z (eN (zJ (sR fL3 Z (oR Z (zI Z dd zu Z Try.sizeOf4) (oL Z (bI.ldB (j:=2) Z Z Z Try.isAgg4 (v:=.bool O.Up) Z) (oR Z (ZV Z Z) (eN (ifc ff ?_ ?_))))))))))))
 intro c9 mr
 refine zl (nC c9.out) (kN ?_)
 have q:=bnd mr
 obtain ⟨⟨⟩,ft,fg⟩:=q
 try dsimp only at fg
 refine Zp (fun σ_ w_=>∃ (U_:PHeap),σ_ 4=.pointer (some ⟨aH,0,none⟩)/\σ_ 5=.pointer (some ⟨aI,0,none⟩)/\σ_ 6=jV dy/\PHeap.Le bn U_/\sW w U U_ [.blk aI 71 ae,.blk aH 71 aq,.blk aP 106 ap,.blk aO 45 ao,.blk bi 133 aS] w_) ?_ ?_
 refine zw zx [1,2,3,0,0,3] gCr (by kernel_rfl) ?_
 have bJ:=bI.drew
 generalize hw_W613:({ cU with drawn:=cU.drawn + 1 }:World)=ol at bJ ⊢
 refine oL Z (bJ.ldBA (j:=1) Z Z bv zh zG (vs:=aq) Z Z) (oM Z Z (zo ?_ ?_))
 refine ZO Z Z Z Z (bJ.ldBA (j:=0) Z Z bq zh zG (vs:=ae) Z Z) (za (j:=1) (vs:=aq) Z Z Z Z bJ Z bv Z Z zG (zA Z) Z Z Z ?_)
 intro gN lR
 have lS:sW w U bn [.blk aI 71 ae,.blk aH 71 aq,.blk aP 106 ap,.blk aO 45 ao,.blk bi 133 aS] gN:=lR
 refine za (j:=0) (vs:=ae) Z Z Z Z lS Z bq Z Z zG (zA Z) Z Z Z ?_
 intro gO lT
 have lU:sW w U bn [.blk aI 71 ae,.blk aH 71 aq,.blk aP 106 ap,.blk aO 45 ao,.blk bi 133 aS] gO:=lT
 refine oA Z Z (zW ?_)
 cases ft
 exact zF ⟨Z,⟨bn,bv,bq,Z,(zM _),lU⟩⟩
 refine za (j:=1) (vs:=aq) Z Z Z Z bJ Z bv Z Z zG (zA Z) Z Z Z ?_
 intro gQ lV
 have eL:sW w U bn [.blk aI 71 ae,.blk aH 71 aq,.blk aP 106 ap,.blk aO 45 ao,.blk bi 133 aS] gQ:=lV
 refine ZO Z Z Z Z (eL.ldBA (j:=0) Z Z bq zh zG (vs:=ae) Z Z) (za (j:=0) (vs:=ae) Z Z Z Z eL Z bq Z Z zG (zA Z) Z Z Z ?_)
 intro gR lW
 have lX:sW w U bn [.blk aI 71 ae,.blk aH 71 aq,.blk aP 106 ap,.blk aO 45 ao,.blk bi 133 aS] gR:=lW
 refine oA Z Z (zW ?_)
 cases ft
 exact zF ⟨Z,⟨bn,bv,bq,Z,(zM _),lX⟩⟩
 rintro pm om ⟨fH,im,io,ip,oE,dm⟩
 refine zT ?_
 cases fg
 exact ⟨rfl,_,(wDn (rs:=[.cell 4 71,.cell 5 71,.tmp 6]) (vs:=[.agg aq.toArray,.agg ae.toArray,jV dy]) ⟨⟨_,im,(wBL zh zG (dm.blkAt (k:=1) rfl) (vs:=aq) rfl rfl)⟩,⟨⟨_,io,(wBL zh zG (dm.blkAt (k:=0) rfl) (vs:=ae) rfl rfl)⟩,⟨ip,trivial⟩⟩⟩ rfl),fH,_,(dm.pick [] _ (by decide) rfl),rfl,rfl⟩
 intro c9 ms
 refine ZA (nF (c9.out)) (sR (wDt gBp) Z (oL Z (bI.ldBA (j:=0) Z Z bq zh zG (vs:=ae) Z Z) (oL Z (bI.ldBA (j:=1) Z Z bv zh zG (vs:=aq) Z Z) (oM Z Z (za (j:=1) (vs:=ae) Z Z Z Z bI Z bv Z Z zG (zA Z) Z Z Z ?_)))))
 intro gS lY
 have lZ:sW w U bn [.blk aI 71 ae,.blk aH 71 ae,.blk aP 106 ap,.blk aO 45 ao,.blk bi 133 aS] gS:=lY
 refine za (j:=0) (vs:=aq) Z Z Z Z lZ Z bq Z Z zG (zA Z) Z Z Z ?_
 intro gT l0
 have dn:sW w U bn [.blk aI 71 aq,.blk aH 71 ae,.blk aP 106 ap,.blk aO 45 ao,.blk bi 133 aS] gT:=l0
 refine oA Z Z (eN (zT (zP ?_)))
 cases ms
 exact ⟨rfl,_,(wDn (rs:=[.cell 4 71,.cell 5 71,.tmp 6]) (vs:=[.agg ae.toArray,.agg aq.toArray,jV fz]) ⟨⟨_,bv,(wBL zh zG (dn.blkAt (k:=1) rfl) (vs:=ae) rfl rfl)⟩,⟨⟨_,bq,(wBL zh zG (dn.blkAt (k:=0) rfl) (vs:=aq) rfl rfl)⟩,⟨rfl,trivial⟩⟩⟩ rfl),bn,_,(dn.pick [] _ (by decide) rfl),rfl,rfl⟩
 have fh:=hm;rw [if_neg c1,if_neg c2,if_neg c3,if_neg c4] at fh
 refine sR gCh Z ?_
 let cG:List Value:=[.slice aZ p0.Starts.length ba,.slice a7 p0.Splits.length bb,.slice a8 p0.Clocks.length bc,.slice a9 p0.Readings.length be]
 refine ZD (cs:=cG) rfl rfl rfl rfl rfl rfl (by rfl) hS ?_
 intro oo dM l5
 let cH:List Value:=[jV O.Kind,jV O.Skier,jV O.Index,.bool O.Up]
 refine ZD (cs:=cH) rfl rfl rfl rfl rfl rfl (by rfl) l5 ?_
 intro oq dN l6
 let bz:List Value:=[jV 0,jV 0]
 refine zY (cs:=bz) Z Z Z Z Z zj Z l6 ?_
 intro ot dO ma
 refine zY (cs:=bz) Z Z Z Z Z zj Z ma ?_
 intro dH dP mb
 refine oA Z Z (eN (zJ ?_))
 have q:=bnd fh
 obtain ⟨⟨⟩,eC,du⟩:=q
 try dsimp only at du
 refine zw zx [2,3,1,3,2,0] gCq (by kernel_rfl) ?_
 have ca:=mb.drew
 generalize hw_W669:({ dH with drawn:=dH.drawn + 1 }:World)=gU at ca ⊢
 refine oR Z (zI Z Z zu Z Try.sizeOf104) (oL Z (ca.ldB (j:=2) Z Z Z Try.isAgg104 (v:=jV O.Kind) Z) (zo ?_ ?_))
 refine zL 0 Z Z Z Z (zK Z Z yN zQ Z) ca (fun hs=>wBR gU U hs eC) (.inr Z) ?_
 rintro fI mW o6 gV oG mc ⟨rfl,rfl⟩
 have ou:sW w U fI [.blk dP 71 bz,.blk dO 71 bz,.blk dN 106 cH,.blk dM 45 cG] gV:=mc
 cases du
 refine zY (cs:=[.nilFunc,.nilFunc,.nilFunc]) Z Z Z Z Z Zg Z ca ?_
 intro gW g8 md
 refine zL 0 Z Z Z Z (zK Z Z yN zQ Z) md (fun hs=>wBR gW U hs eC) (.inr Z) ?_
 rintro fJ mX o8 gX oH me ⟨rfl,rfl⟩
 have ov:sW w U fJ [.blk g8 133 [.nilFunc,.nilFunc,.nilFunc],.blk dP 71 bz,.blk dO 71 bz,.blk dN 106 cH,.blk dM 45 cG] gX:=me
 cases du
end Go.Proofs.Ytkedcbligiebkaa
namespace Go.Proofs.Ytkedcbligiebkaa
open Go.KL
set_option maxHeartbeats 4000000
theorem wGG (O:wAD) (af:Option Addr) (ak:Nat) (ag:Option Addr) (am:Nat) (ai:Option Addr) (an:Nat) (aj:Option Addr) (ao:Nat) (w:World) (U:PHeap) (hS:St0 w U []) (pY:Sl U 1 af ak O.Starts.length (hD KL.encI O.Starts)) (pZ:Sl U 2 ag am O.Splits.length (hD wAE O.Splits)) (p6:Sl U 3 ai an O.Clocks.length (hD wAP O.Clocks)) (p7:Sl U 4 aj ao O.Readings.length (hD wAH O.Readings)) {r:wAd} (hm:wCe O=some r):Gv Try.prog 44 [.agg #[.slice af O.Starts.length ak,.slice ag O.Splits.length am,.slice ai O.Clocks.length an,.slice aj O.Readings.length ao]] w (wBz w [] U (fun U_ L_ v=>∃ (b0:Nat) (A0p00:Option Addr) (c0p00:Nat) (A0p01:Option Addr) (c0p01:Nat) (A0p02:Option Addr) (c0p02:Nat) (A0p03:Option Addr) (c0p03:Nat) (m0p1:Nat) (es0p1:Array MapEntry) (ck0p1:Nat) (A0p2:Option Addr) (c0p2:Nat),v=.pointer (some ⟨b0,0,none⟩)/\L_=[.blk b0 94 [.slice A0p00 r.Race.Starts.length c0p00,.slice A0p01 r.Race.Splits.length c0p01,.slice A0p02 r.Race.Clocks.length c0p02,.slice A0p03 r.Race.Readings.length c0p03,.map (some m0p1),.slice A0p2 r.edges.length c0p2],.obj m0p1 (.map es0p1 ck0p1),.row A0p2 c0p2 108 7 (hD wAU r.edges)]/\Sl U_ 1 A0p00 c0p00 r.Race.Starts.length (hD KL.encI r.Race.Starts)/\Sl U_ 2 A0p01 c0p01 r.Race.Splits.length (hD wAE r.Race.Splits)/\Sl U_ 3 A0p02 c0p02 r.Race.Clocks.length (hD wAP r.Race.Clocks)/\Sl U_ 4 A0p03 c0p03 r.Race.Readings.length (hD wAH r.Race.Readings)/\MpR es0p1 wCX wCj r.number)):=by
 unfold wCe at hm
 refine Go.KX.Gv.ofM Try.func44 Z Try.ntmps44 Try.results44 (zA Z) (sR (.fx 0 (.fl 1 .nil) .stop) Z ?_)
 let B0:List Value:=[.slice af O.Starts.length ak,.slice ag O.Splits.length am,.slice ai O.Clocks.length an,.slice aj O.Readings.length ao]
 refine ZD (cs:=B0) rfl rfl rfl rfl rfl rfl (by rfl) hS ?_
 intro W1 b2 o7
 refine oA Z Z (eN (bnK hm fun iH qv qb=>Zp (fun σ_ w_=>∃ (U_:PHeap) (b6:Nat) (b8:Nat) (ae:Nat) (bO:Array MapEntry) (cH:Nat),σ_ 1=.pointer (some ⟨b2,0,none⟩)/\σ_ 3=.pointer (some ⟨b6,0,none⟩)/\PHeap.Le U U_/\sW w U U_ [.blk b2 45 B0,.blk b6 66 [.pointer (some ⟨b8,0,none⟩)],.blk b8 94 [.slice af O.Starts.length ak,.slice ag O.Splits.length am,.slice ai O.Clocks.length an,.slice aj O.Readings.length ao,.map (some ae),.slice none 0 0],.obj ae (.map bO cH)] w_/\MpR bO wCX wCj iH) ?_ ?_))
 refine bnK qv fun ac aX qh=>zw zx [2,2,2,0,3,3,2,2,0] (.fx 0 (.fx 1 gCy (.fx 2 gCz (.fx 7 gDa .stop))) (.fx 1 (.fx 0 gCy (.fx 2 gDd (.fx 7 gDb .stop))) (.fx 2 (.fx 0 gCz (.fx 1 gDd (.fx 7 gDc .stop))) (.fx 7 (.fx 0 gDa (.fx 1 gDb (.fx 2 gDc .stop))) .stop)))) (by kernel_rfl) ?_
 have aZ:=o7.drew
 generalize hw_W51:({ W1 with drawn:=W1.drawn + 1 }:World)=fH at aZ ⊢
 refine ZQ (s:=.nil) (M:=fun σ_ w_=>∃ (U_:PHeap) (cr:Nat) (bD:Nat) (a7:Nat) (cQ:Array MapEntry) (dF:Nat),σ_ 1=.pointer (some ⟨b2,0,none⟩)/\σ_ 3=.pointer (some ⟨cr,0,none⟩)/\σ_ 12=.agg B0.toArray/\σ_ 13=.map (some a7)/\σ_ 14=.agg #[jV ac.skier,jV ac.mat]/\σ_ 15=.map (some a7)/\σ_ 16=.agg #[.slice af O.Starts.length ak,.slice ag O.Splits.length am,.slice ai O.Clocks.length an,.slice aj O.Readings.length ao,.map (some a7),.slice none 0 0]/\σ_ 17=.pointer (some ⟨bD,0,none⟩)/\PHeap.Le U U_/\sW w U U_ [.blk b2 45 B0,.blk cr 66 [.pointer (some ⟨bD,0,none⟩)],.blk bD 94 [.slice af O.Starts.length ak,.slice ag O.Splits.length am,.slice ai O.Clocks.length an,.slice aj O.Readings.length ao,.map (some a7),.slice none 0 0],.obj a7 (.map cQ dF)] w_/\MpR cQ wCX wCj (wEC ([]:List (wAB × Int)) ac 0)) ?_ fun qx=>?_
 rintro sV rG ⟨iY,cr,bD,a7,cQ,dF,lA,lB,sm,sn,so,sq,sr,ss,qI,o8,mI⟩
 refine zW ?_
 cases qh
 exact zF ⟨Z,⟨iY,cr,bD,a7,cQ,dF,lA,lB,qI,o8,mI⟩⟩
 refine ZQ (s:=.fx 8 .nil .stop) (M:=fun σ_ w_=>∃ (U_:PHeap) (bE:Nat) (aU:Nat) (bQ:Array MapEntry) (cJ:Nat) (bi:Nat),σ_ 1=.pointer (some ⟨b2,0,none⟩)/\σ_ 3=.pointer (some ⟨bE,0,none⟩)/\σ_ 12=.agg B0.toArray/\σ_ 13=.map (some aU)/\σ_ 14=.agg #[jV ac.skier,jV ac.mat]/\σ_ 15=.map (some aU)/\σ_ 16=.agg #[.slice af O.Starts.length ak,.slice ag O.Splits.length am,.slice ai O.Clocks.length an,.slice aj O.Readings.length ao,.map (some aU),.slice none 0 0]/\σ_ 17=.pointer (some ⟨bi,0,none⟩)/\PHeap.Le U U_/\sW w U U_ [.blk b2 45 B0,.blk bE 66 [.pointer none],.obj aU (.map bQ cJ),.blk bi 94 [.slice af O.Starts.length ak,.slice ag O.Splits.length am,.slice ai O.Clocks.length an,.slice aj O.Readings.length ao,.map (some aU),.slice none 0 0]] w_/\MpR bQ wCX wCj (wEC ([]:List (wAB × Int)) ac 0)) ?_ fun di=>?_
 rintro sX rH ⟨fj,bE,aU,bQ,cJ,bi,lD,gi,lE,lF,lG,lH,lI,gj,qJ,o9,mJ⟩
 let B1:List Value:=[.pointer (some ⟨bi,0,none⟩)]
 refine za (j:=1) (vs:=B1) Z Z Z Z o9 Z gi gj Z Try.sizeOf66 (zA Z) Z Z Z ?_
 intro jF pc
 have pd:sW w U fj [.blk b2 45 B0,.blk bE 66 B1,.obj aU (.map bQ cJ),.blk bi 94 [.slice af O.Starts.length ak,.slice ag O.Splits.length am,.slice ai O.Clocks.length an,.slice aj O.Readings.length ao,.map (some aU),.slice none 0 0]] jF:=pc
 exact qx _ _ ⟨fj,bE,bi,aU,bQ,cJ,lD,gi,lE,lF,lG,lH,lI,gj,qJ,(pd.pick [0,1,3,2] _ (by decide) rfl),mJ⟩
 refine ZQ (s:=gBg) (M:=fun σ_ w_=>∃ (U_:PHeap) (ct:Nat) (a8:Nat) (cR:Array MapEntry) (dG:Nat),σ_ 1=.pointer (some ⟨b2,0,none⟩)/\σ_ 3=.pointer (some ⟨ct,0,none⟩)/\σ_ 12=.agg B0.toArray/\σ_ 13=.map (some a8)/\σ_ 14=.agg #[jV ac.skier,jV ac.mat]/\σ_ 15=.map (some a8)/\σ_ 16=.agg #[.slice af O.Starts.length ak,.slice ag O.Splits.length am,.slice ai O.Clocks.length an,.slice aj O.Readings.length ao,.map (some a8),.slice none 0 0]/\PHeap.Le U U_/\sW w U U_ [.blk b2 45 B0,.blk ct 66 [.pointer none],.obj a8 (.map cR dG)] w_/\MpR cR wCX wCj (wEC ([]:List (wAB × Int)) ac 0)) ?_ fun iA=>?_
 rintro sY rI ⟨iZ,ct,a8,cR,dG,lJ,lK,lL,lM,lN,lO,gk,qK,pe,mK⟩
 refine ZD (cs:=[.slice af O.Starts.length ak,.slice ag O.Splits.length am,.slice ai O.Clocks.length an,.slice aj O.Readings.length ao,.map (some a8),.slice none 0 0]) rfl rfl rfl rfl rfl gk (by rfl) pe ?_
 intro rJ j4 pf
 exact di _ _ ⟨iZ,ct,a8,cR,dG,j4,lJ,lK,lL,lM,lN,lO,gk,rfl,qK,(pf.pick [1,2,3,0] _ (by decide) rfl),mK⟩
 refine ZQ (s:=gBf) (M:=fun σ_ w_=>∃ (U_:PHeap) (a9:Nat) (cS:Array MapEntry) (dH:Nat) (cu:Nat),σ_ 1=.pointer (some ⟨b2,0,none⟩)/\σ_ 12=.agg B0.toArray/\σ_ 13=.map (some a9)/\σ_ 14=.agg #[jV ac.skier,jV ac.mat]/\σ_ 15=.map (some a9)/\σ_ 16=.agg #[.slice af O.Starts.length ak,.slice ag O.Splits.length am,.slice ai O.Clocks.length an,.slice aj O.Readings.length ao,.map (some a9),.slice none 0 0]/\σ_ 17=.pointer (some ⟨cu,0,none⟩)/\PHeap.Le U U_/\sW w U U_ [.blk b2 45 B0,.obj a9 (.map cS dH),.blk cu 94 [.slice af O.Starts.length ak,.slice ag O.Splits.length am,.slice ai O.Clocks.length an,.slice aj O.Readings.length ao,.map (some a9),.slice none 0 0]] w_/\MpR cS wCX wCj (wEC ([]:List (wAB × Int)) ac 0)) ?_ fun iB=>?_
 rintro sZ rK ⟨i7,a9,cS,dH,cu,lP,lQ,lR,lS,lT,lU,lV,qL,pj,mL⟩
 refine zY (cs:=[.pointer none]) Z Z Z Z Z Zn Z pj ?_
 intro rL j5 pk
 exact di _ _ ⟨i7,j5,a9,cS,dH,cu,lP,rfl,lQ,lR,lS,lT,lU,lV,qL,(pk.pick [1,0,2,3] _ (by decide) rfl),mL⟩
 refine ZQ (s:=.fl 5 gBg) (M:=fun σ_ w_=>∃ (U_:PHeap) (cw:Nat) (ba:Nat) (cU:Array MapEntry) (dI:Nat),σ_ 1=.pointer (some ⟨b2,0,none⟩)/\σ_ 3=.pointer (some ⟨cw,0,none⟩)/\σ_ 12=.agg B0.toArray/\σ_ 13=.map (some ba)/\σ_ 14=.agg #[jV ac.skier,jV ac.mat]/\σ_ 15=.map (some ba)/\PHeap.Le U U_/\sW w U U_ [.blk b2 45 B0,.blk cw 66 [.pointer none],.obj ba (.map cU dI)] w_/\MpR cU wCX wCj (wEC ([]:List (wAB × Int)) ac 0)) ?_ fun iC=>?_
 rintro s6 rM ⟨i8,cw,ba,cU,dI,lW,lX,gm,lY,lZ,gp,qM,pm,mM⟩
 let B2:List Value:=[.slice af O.Starts.length ak,.slice ag O.Splits.length am,.slice ai O.Clocks.length an,.slice aj O.Readings.length ao,.map (some ba),.slice none 0 0]
 refine zb rfl rfl rfl rfl (fun _=>zq (pv:=[(0,.agg B0.toArray),(1,.map (some ba))]) (z:=[.slice none 0 0,.slice none 0 0,.slice none 0 0,.slice none 0 0,.map none,.slice none 0 0]) (cs:=B2) rfl (wAC gm (wAC gp wAR)) Try.zeroValue94 wFB rfl rfl) (ZD (cs:=B2) rfl rfl rfl rfl rfl rfl (by rfl) pm ?_)
 intro rN j6 pn
 exact di _ _ ⟨i8,cw,ba,cU,dI,j6,lW,lX,gm,lY,lZ,gp,rfl,rfl,qM,(pn.pick [1,2,3,0] _ (by decide) rfl),mM⟩
 refine ZQ (s:=gBz) (M:=fun σ_ w_=>∃ (U_:PHeap) (cx:Nat) (bF:Nat) (cV:Array MapEntry) (dJ:Nat),σ_ 1=.pointer (some ⟨b2,0,none⟩)/\σ_ 3=.pointer (some ⟨cx,0,none⟩)/\σ_ 13=.map (some bF)/\σ_ 14=.agg #[jV ac.skier,jV ac.mat]/\σ_ 15=.map (some bF)/\PHeap.Le U U_/\sW w U U_ [.blk b2 45 B0,.blk cx 66 [.pointer none],.obj bF (.map cV dJ)] w_/\MpR cV wCX wCj (wEC ([]:List (wAB × Int)) ac 0)) ?_ fun qy=>?_
 rintro s7 rO ⟨i9,cx,bF,cV,dJ,gq,l0,l4,l5,l6,qN,ij,mN⟩
 exact ZO Z Z Z Z (ij.ldBA (j:=0) Z Z gq ZP zz (vs:=B0) Z Z) (iC _ _ ⟨i9,cx,bF,cV,dJ,gq,l0,Z,l4,l5,l6,qN,ij,mN⟩)
 refine ZQ (s:=gCi) (M:=fun σ_ w_=>∃ (U_:PHeap) (aW:Nat) (bR:Array MapEntry) (cK:Nat),σ_ 1=.pointer (some ⟨b2,0,none⟩)/\σ_ 12=.agg B0.toArray/\σ_ 13=.map (some aW)/\σ_ 14=.agg #[jV ac.skier,jV ac.mat]/\σ_ 15=.map (some aW)/\PHeap.Le U U_/\sW w U U_ [.blk b2 45 B0,.obj aW (.map bR cK)] w_/\MpR bR wCX wCj (wEC ([]:List (wAB × Int)) ac 0)) ?_ fun qz=>?_
 rintro s8 rP ⟨fk,aW,bR,cK,gt,dQ,gu,gv,dR,iL,ik,gX⟩
 let B3:List Value:=[.slice af O.Starts.length ak,.slice ag O.Splits.length am,.slice ai O.Clocks.length an,.slice aj O.Readings.length ao,.map (some aW),.slice none 0 0]
 refine oR Z (zq (pv:=[(0,.agg B0.toArray),(1,.map (some aW))]) (z:=[.slice none 0 0,.slice none 0 0,.slice none 0 0,.slice none 0 0,.map none,.slice none 0 0]) (cs:=B3) Z (wAC dQ (wAC dR wAR)) Try.zeroValue94 wFB Z Z) (zo ?_ ?_)
 refine ZD (cs:=B3) rfl rfl rfl rfl rfl rfl (by rfl) ik ?_
 intro rQ j7 po
 exact iB _ _ ⟨fk,aW,bR,cK,j7,gt,dQ,gu,gv,dR,rfl,rfl,iL,(po.pick [1,2,0] _ (by decide) rfl),gX⟩
 refine zY (cs:=[.pointer none]) Z Z Z Z Z Zn Z ik ?_
 intro rS j8 pp
 exact iA _ _ ⟨fk,j8,aW,bR,cK,gt,rfl,dQ,gu,gv,dR,rfl,iL,(pp.pick [1,0,2] _ (by decide) rfl),gX⟩
 refine ZQ (s:=gBy) (M:=fun σ_ w_=>∃ (U_:PHeap) (cy:Nat) (bj:Nat) (cW:Array MapEntry) (dK:Nat),σ_ 1=.pointer (some ⟨b2,0,none⟩)/\σ_ 3=.pointer (some ⟨cy,0,none⟩)/\σ_ 12=.agg B0.toArray/\σ_ 13=.map (some bj)/\σ_ 14=.agg #[jV ac.skier,jV ac.mat]/\PHeap.Le U U_/\sW w U U_ [.blk b2 45 B0,.blk cy 66 [.pointer none],.obj bj (.map cW dK)] w_/\MpR cW wCX wCj (wEC ([]:List (wAB × Int)) ac 0)) ?_ fun qA=>?_
 rintro s9 rT ⟨ja,cy,bj,cW,dK,ma,mb,gw,gA,mc,qO,pq,mO⟩
 refine oM Z gA ?_
 let B4:List Value:=[.slice af O.Starts.length ak,.slice ag O.Splits.length am,.slice ai O.Clocks.length an,.slice aj O.Readings.length ao,.map (some bj),.slice none 0 0]
 refine zb rfl rfl rfl rfl (fun _=>zq (pv:=[(0,.agg B0.toArray),(1,.map (some bj))]) (z:=[.slice none 0 0,.slice none 0 0,.slice none 0 0,.slice none 0 0,.map none,.slice none 0 0]) (cs:=B4) rfl (wAC gw (wAC rfl wAR)) Try.zeroValue94 wFB rfl rfl) (ZD (cs:=B4) rfl rfl rfl rfl rfl rfl (by rfl) pq ?_)
 intro rV j9 pu
 exact di _ _ ⟨ja,cy,bj,cW,dK,j9,ma,mb,gw,gA,mc,rfl,rfl,rfl,qO,(pu.pick [1,2,3,0] _ (by decide) rfl),mO⟩
 refine ZQ (s:=.fl 4 gBz) (M:=fun σ_ w_=>∃ (U_:PHeap) (cz:Nat) (cA:Nat) (cX:Array MapEntry) (dL:Nat),σ_ 1=.pointer (some ⟨b2,0,none⟩)/\σ_ 3=.pointer (some ⟨cz,0,none⟩)/\σ_ 13=.map (some cA)/\σ_ 14=.agg #[jV ac.skier,jV ac.mat]/\PHeap.Le U U_/\sW w U U_ [.blk b2 45 B0,.blk cz 66 [.pointer none],.obj cA (.map cX dL)] w_/\MpR cX wCX wCj (wEC ([]:List (wAB × Int)) ac 0)) ?_ fun qB=>?_
 rintro tc rW ⟨jb,cz,cA,cX,dL,gB,md,gC,me,qP,il,mP⟩
 exact oM Z gC (ZO Z Z Z Z (il.ldBA (j:=0) Z Z gB ZP zz (vs:=B0) Z Z) (iC _ _ ⟨jb,cz,cA,cX,dL,gB,md,Z,gC,me,Z,qP,il,mP⟩))
 refine ZQ (s:=gCj) (M:=fun σ_ w_=>∃ (U_:PHeap) (bG:Nat) (bH:Nat) (dO:Array MapEntry) (fN:Nat),σ_ 1=.pointer (some ⟨b2,0,none⟩)/\σ_ 3=.pointer (some ⟨bG,0,none⟩)/\σ_ 12=.agg B0.toArray/\σ_ 13=.map (some bH)/\σ_ 14=.agg #[jV ac.skier,jV ac.mat]/\PHeap.Le U U_/\sW w U U_ [.blk b2 45 B0,.blk bG 66 [.pointer none],.obj bH (.map dO fN)] w_/\MpR dO wCX wCj ([]:List (wAB × Int))) ?_ fun dk=>?_
 rintro td rX ⟨fm,bG,bH,dO,fN,mf,mg,mh,gD,gE,qQ,py,mQ⟩
 refine OKS.mapPut (x:=.tmp 13) (y:=.tmp 14) (j:=2) (mk:=wCX) (mv:=wCj) (a:=ac) (v:=0) rfl rfl rfl (by first | exact .inl rfl | exact .inr rfl) py rfl gD gE rfl (wBY ZG) wDS mQ rfl ?_
 intro fT fO jG qo pz
 have pA:sW w U fm [.blk b2 45 B0,.blk bG 66 [.pointer none],.obj bH (.map fT fO)] jG:=pz
 exact qA _ _ ⟨fm,bG,bH,fT,fO,mf,mg,mh,gD,gE,qQ,pA,qo⟩
 refine ZQ (s:=.fl 4 gCi) (M:=fun σ_ w_=>∃ (U_:PHeap) (bc:Nat) (bS:Array MapEntry) (cL:Nat),σ_ 1=.pointer (some ⟨b2,0,none⟩)/\σ_ 12=.agg B0.toArray/\σ_ 13=.map (some bc)/\σ_ 14=.agg #[jV ac.skier,jV ac.mat]/\PHeap.Le U U_/\sW w U U_ [.blk b2 45 B0,.obj bc (.map bS cL)] w_/\MpR bS wCX wCj (wEC ([]:List (wAB × Int)) ac 0)) ?_ fun qC=>?_
 rintro te rY ⟨fq,bc,bS,cL,gF,dS,dT,gG,iM,im,gY⟩
 refine oM Z dT ?_
 let B5:List Value:=[.slice af O.Starts.length ak,.slice ag O.Splits.length am,.slice ai O.Clocks.length an,.slice aj O.Readings.length ao,.map (some bc),.slice none 0 0]
 refine oR Z (zq (pv:=[(0,.agg B0.toArray),(1,.map (some bc))]) (z:=[.slice none 0 0,.slice none 0 0,.slice none 0 0,.slice none 0 0,.map none,.slice none 0 0]) (cs:=B5) Z (wAC dS (wAC Z wAR)) Try.zeroValue94 wFB Z Z) (zo ?_ ?_)
 refine ZD (cs:=B5) rfl rfl rfl rfl rfl rfl (by rfl) im ?_
 intro rZ k7 pB
 exact iB _ _ ⟨fq,bc,bS,cL,k7,gF,dS,dT,gG,rfl,rfl,rfl,iM,(pB.pick [1,2,0] _ (by decide) rfl),gY⟩
 refine zY (cs:=[.pointer none]) Z Z Z Z Z Zn Z im ?_
 intro r5 k9 pC
 exact iA _ _ ⟨fq,k9,bc,bS,cL,gF,rfl,dS,dT,gG,rfl,rfl,iM,(pC.pick [1,0,2] _ (by decide) rfl),gY⟩
 refine ZQ (s:=gCu) (M:=fun σ_ w_=>∃ (U_:PHeap) (bk:Nat) (bm:Nat) (cY:Array MapEntry) (dM:Nat),σ_ 1=.pointer (some ⟨b2,0,none⟩)/\σ_ 3=.pointer (some ⟨bk,0,none⟩)/\σ_ 13=.map (some bm)/\σ_ 14=.agg #[jV ac.skier,jV ac.mat]/\PHeap.Le U U_/\sW w U U_ [.blk b2 45 B0,.blk bk 66 [.pointer none],.obj bm (.map cY dM)] w_/\MpR cY wCX wCj ([]:List (wAB × Int))) ?_ fun eI=>?_
 rintro tf r6 ⟨dA,bk,bm,cY,dM,dU,gH,dV,dW,iN,ez,gZ⟩
 refine zo ?_ ?_
 exact ZO Z Z Z Z (ez.ldBA (j:=0) Z Z dU ZP zz (vs:=B0) Z Z) (dk _ _ ⟨dA,bk,bm,cY,dM,dU,gH,Z,dV,dW,iN,ez,gZ⟩)
 refine OKS.mapPut (x:=.tmp 13) (y:=.tmp 14) (j:=2) (mk:=wCX) (mv:=wCj) (a:=ac) (v:=0) rfl rfl rfl (by first | exact .inl rfl | exact .inr rfl) ez rfl dV dW rfl (wBY ZG) wDS gZ rfl ?_
 intro fU fP jH qp pD
 have pF:sW w U dA [.blk b2 45 B0,.blk bk 66 [.pointer none],.obj bm (.map fU fP)] jH:=pD
 exact qB _ _ ⟨dA,bk,bm,fU,fP,dU,gH,dV,dW,iN,pF,qp⟩
 refine ZQ (s:=gCt) (M:=fun σ_ w_=>∃ (U_:PHeap) (bI:Nat) (bT:Array MapEntry) (cM:Nat),σ_ 1=.pointer (some ⟨b2,0,none⟩)/\σ_ 13=.map (some bI)/\σ_ 14=.agg #[jV ac.skier,jV ac.mat]/\PHeap.Le U U_/\sW w U U_ [.blk b2 45 B0,.obj bI (.map bT cM)] w_/\MpR bT wCX wCj (wEC ([]:List (wAB × Int)) ac 0)) ?_ fun qD=>?_
 rintro tg r7 ⟨ft,bI,bT,cM,dX,dY,gI,iO,eB,g6⟩
 refine oM Z dY (zo ?_ ?_)
 exact ZO Z Z Z Z (eB.ldBA (j:=0) Z Z dX ZP zz (vs:=B0) Z Z) (qz _ _ ⟨ft,bI,bT,cM,dX,Z,dY,gI,Z,iO,eB,g6⟩)
 refine zY (cs:=[.pointer none]) Z Z Z Z Z Zn Z eB ?_
 intro r8 lb pG
 exact qy _ _ ⟨ft,lb,bI,bT,cM,dX,rfl,dY,gI,rfl,iO,(pG.pick [1,0,2] _ (by decide) rfl),g6⟩
 refine ZQ (s:=gCo) (M:=fun σ_ w_=>∃ (U_:PHeap) (cB:Nat),σ_ 1=.pointer (some ⟨b2,0,none⟩)/\σ_ 3=.pointer (some ⟨cB,0,none⟩)/\σ_ 12=.agg B0.toArray/\σ_ 14=.agg #[jV ac.skier,jV ac.mat]/\PHeap.Le U U_/\sW w U U_ [.blk b2 45 B0,.blk cB 66 [.pointer none]] w_) ?_ fun eJ=>?_
 rintro th r9 ⟨jc,cB,mi,mj,ml,mm,qR,pH⟩
 refine yO Z Z Z Z Z pH ?_
 intro sa lc pI
 have qq:=MpR.nil wCX wCj
 exact dk _ _ ⟨jc,cB,lc,#[],0,mi,mj,ml,rfl,mm,qR,(pI.pick [1,2,0] _ (by decide) rfl),qq⟩
 refine ZQ (s:=gCn) (M:=fun σ_ w_=>∃ (U_:PHeap) (bJ:Nat) (bK:Nat) (bU:Array MapEntry) (cN:Nat),σ_ 1=.pointer (some ⟨b2,0,none⟩)/\σ_ 3=.pointer (some ⟨bJ,0,none⟩)/\σ_ 12=.agg B0.toArray/\σ_ 13=.map (some bK)/\PHeap.Le U U_/\sW w U U_ [.blk b2 45 B0,.blk bJ 66 [.pointer none],.obj bK (.map bU cN)] w_/\MpR bU wCX wCj ([]:List (wAB × Int))) ?_ fun eL=>?_
 rintro tj jI ⟨jd,bJ,bK,bU,cN,mn,mo,mp,mq,qS,pJ,mR⟩
 refine zL 0 Z Z Z Z (zK Z Z yD zQ Z) pJ (fun hs=>wBK jI jd hs aX) (.inr Z) ?_
 rintro fu re sJ jJ qT pK ⟨rfl,rfl⟩
 have pL:sW w U fu [.blk b2 45 B0,.blk bJ 66 [.pointer none],.obj bK (.map bU cN)] jJ:=pK
 exact dk _ _ ⟨fu,bJ,bK,bU,cN,mn,mo,mp,mq,Z,(qS.trans qT),pL,mR⟩
 refine ZQ (s:=gCs) (M:=fun σ_ w_=>∃ (U_:PHeap) (bn:Nat) (cZ:Array MapEntry) (dN:Nat),σ_ 1=.pointer (some ⟨b2,0,none⟩)/\σ_ 12=.agg B0.toArray/\σ_ 13=.map (some bn)/\σ_ 14=.agg #[jV ac.skier,jV ac.mat]/\PHeap.Le U U_/\sW w U U_ [.blk b2 45 B0,.obj bn (.map cZ dN)] w_/\MpR cZ wCX wCj ([]:List (wAB × Int))) ?_ fun eM=>?_
 rintro tl sc ⟨dB,bn,cZ,dN,gJ,gK,dZ,d5,iP,io,g7⟩
 refine zo ?_ ?_
 refine OKS.mapPut (x:=.tmp 13) (y:=.tmp 14) (j:=1) (mk:=wCX) (mv:=wCj) (a:=ac) (v:=0) rfl rfl rfl (by first | exact .inl rfl | exact .inr rfl) io rfl dZ d5 rfl (wBY ZG) wDS g7 rfl ?_
 intro fV fQ jK qr pM
 have pN:sW w U dB [.blk b2 45 B0,.obj bn (.map fV fQ)] jK:=pM
 exact qC _ _ ⟨dB,bn,fV,fQ,gJ,gK,dZ,d5,iP,pN,qr⟩
 refine zY (cs:=[.pointer none]) Z Z Z Z Z Zn Z io ?_
 intro sd lf pO
 exact dk _ _ ⟨dB,lf,bn,cZ,dN,gJ,rfl,gK,dZ,d5,iP,(pO.pick [1,0,2] _ (by decide) rfl),g7⟩
 refine ZQ (s:=gDc) (M:=fun σ_ w_=>∃ (U_:PHeap) (bL:Nat),σ_ 1=.pointer (some ⟨b2,0,none⟩)/\σ_ 3=.pointer (some ⟨bL,0,none⟩)/\σ_ 14=.agg #[jV ac.skier,jV ac.mat]/\PHeap.Le U U_/\sW w U U_ [.blk b2 45 B0,.blk bL 66 [.pointer none]] w_) ?_ fun iD=>?_
 rintro tn se ⟨fw,bL,d6,gL,gM,iQ,eC⟩
 refine zo ?_ ?_
 exact ZO Z Z Z Z (eC.ldBA (j:=0) Z Z d6 ZP zz (vs:=B0) Z Z) (eJ _ _ ⟨fw,bL,d6,gL,Z,gM,iQ,eC⟩)
 refine yO Z Z Z Z Z eC ?_
 intro sf lg pP
 have qs:=MpR.nil wCX wCj
 exact eI _ _ ⟨fw,bL,lg,#[],0,d6,gL,rfl,gM,iQ,(pP.pick [1,2,0] _ (by decide) rfl),qs⟩
 refine ZQ (s:=gDb) (M:=fun σ_ w_=>∃ (U_:PHeap) (bo:Nat) (bp:Nat) (bu:Array MapEntry) (bN:Nat),σ_ 1=.pointer (some ⟨b2,0,none⟩)/\σ_ 3=.pointer (some ⟨bo,0,none⟩)/\σ_ 13=.map (some bp)/\PHeap.Le U U_/\sW w U U_ [.blk b2 45 B0,.blk bo 66 [.pointer none],.obj bp (.map bu bN)] w_/\MpR bu wCX wCj ([]:List (wAB × Int))) ?_ fun iE=>?_
 rintro tp jL ⟨fy,bo,bp,bu,bN,d7,gN,gO,iR,eD,g8⟩
 refine zo ?_ ?_
 exact ZO Z Z Z Z (eD.ldBA (j:=0) Z Z d7 ZP zz (vs:=B0) Z Z) (eL _ _ ⟨fy,bo,bp,bu,bN,d7,gN,Z,gO,iR,eD,g8⟩)
 refine zL 0 Z Z Z Z (zK Z Z yD zQ Z) eD (fun hs=>wBK jL fy hs aX) (.inr Z) ?_
 rintro fz rf sK jM qU pQ ⟨rfl,rfl⟩
 have pR:sW w U fz [.blk b2 45 B0,.blk bo 66 [.pointer none],.obj bp (.map bu bN)] jM:=pQ
 exact eI _ _ ⟨fz,bo,bp,bu,bN,d7,gN,gO,Z,(iR.trans qU),pR,g8⟩
 refine ZQ (s:=gDd) (M:=fun σ_ w_=>∃ (U_:PHeap) (be:Nat) (bV:Array MapEntry) (cO:Nat),σ_ 1=.pointer (some ⟨b2,0,none⟩)/\σ_ 13=.map (some be)/\σ_ 14=.agg #[jV ac.skier,jV ac.mat]/\PHeap.Le U U_/\sW w U U_ [.blk b2 45 B0,.obj be (.map bV cO)] w_/\MpR bV wCX wCj ([]:List (wAB × Int))) ?_ fun iF=>?_
 rintro tq sg ⟨co,be,bV,cO,c6,c8,c9,eQ,dg,en⟩
 refine zo ?_ ?_
 exact ZO Z Z Z Z (dg.ldBA (j:=0) Z Z c6 ZP zz (vs:=B0) Z Z) (eM _ _ ⟨co,be,bV,cO,c6,Z,c8,c9,eQ,dg,en⟩)
 refine zo ?_ ?_
 refine OKS.mapPut (x:=.tmp 13) (y:=.tmp 14) (j:=1) (mk:=wCX) (mv:=wCj) (a:=ac) (v:=0) rfl rfl rfl (by first | exact .inl rfl | exact .inr rfl) dg rfl c8 c9 rfl (wBY ZG) wDS en rfl ?_
 intro fW fR jN qt pS
 have pT:sW w U co [.blk b2 45 B0,.obj be (.map fW fR)] jN:=pS
 exact qD _ _ ⟨co,be,fW,fR,c6,c8,c9,eQ,pT,qt⟩
 refine zY (cs:=[.pointer none]) Z Z Z Z Z Zn Z dg ?_
 intro sh li pU
 exact eI _ _ ⟨co,li,be,bV,cO,c6,rfl,c8,c9,eQ,(pU.pick [1,0,2] _ (by decide) rfl),en⟩
 refine ZQ (s:=gDa) (M:=fun σ_ w_=>∃ (U_:PHeap) (bq:Nat),σ_ 1=.pointer (some ⟨b2,0,none⟩)/\σ_ 3=.pointer (some ⟨bq,0,none⟩)/\σ_ 12=.agg B0.toArray/\PHeap.Le U U_/\sW w U U_ [.blk b2 45 B0,.blk bq 66 [.pointer none]] w_) ?_ fun iG=>?_
 rintro tr jO ⟨fA,bq,gP,gQ,gR,iS,ip⟩
 refine zo ?_ ?_
 refine yO Z Z Z Z Z ip ?_
 intro sj lj pV
 have qu:=MpR.nil wCX wCj
 exact eL _ _ ⟨fA,bq,lj,#[],0,gP,gQ,gR,rfl,iS,(pV.pick [1,2,0] _ (by decide) rfl),qu⟩
 refine zL 0 Z Z Z Z (zK Z Z yD zQ Z) ip (fun hs=>wBK jO fA hs aX) (.inr Z) ?_
 rintro fB rh sL jP qV pW ⟨rfl,rfl⟩
 have mV:sW w U fB [.blk b2 45 B0,.blk bq 66 [.pointer none]] jP:=pW
 exact eJ _ _ ⟨fB,bq,gP,gQ,gR,Z,(iS.trans qV),mV⟩
 refine ZQ (s:=gCz) (M:=fun σ_ w_=>∃ (U_:PHeap),σ_ 1=.pointer (some ⟨b2,0,none⟩)/\σ_ 12=.agg B0.toArray/\σ_ 14=.agg #[jV ac.skier,jV ac.mat]/\PHeap.Le U U_/\sW w U U_ [.blk b2 45 B0] w_) ?_ fun iw=>?_
 rintro sP ri ⟨e9,fY,fZ,f4,iI,g9⟩
 refine zo ?_ ?_
 refine yO Z Z Z Z Z g9 ?_
 intro rj jQ mW
 have qi:=MpR.nil wCX wCj
 exact eM _ _ ⟨e9,jQ,#[],0,fY,fZ,rfl,f4,iI,(mW.pick [1,0] _ (by decide) rfl),qi⟩
 refine zY (cs:=[.pointer none]) Z Z Z Z Z Zn Z g9 ?_
 intro rk jR mX
 exact eJ _ _ ⟨e9,jR,fY,rfl,fZ,f4,iI,(mX.pick [1,0] _ (by decide) rfl)⟩
 refine ZQ (s:=gCy) (M:=fun σ_ w_=>∃ (U_:PHeap) (bh:Nat) (bt:Array MapEntry) (bM:Nat),σ_ 1=.pointer (some ⟨b2,0,none⟩)/\σ_ 12=.agg B0.toArray/\σ_ 13=.map (some bh)/\PHeap.Le U U_/\sW w U U_ [.blk b2 45 B0,.obj bh (.map bt bM)] w_/\MpR bt wCX wCj ([]:List (wAB × Int))) ?_ fun iz=>?_
 rintro sQ je ⟨fb,bh,bt,bM,f5,f6,f7,iJ,ib,gS⟩
 refine zo ?_ ?_
 refine zL 0 Z Z Z Z (zK Z Z yD zQ Z) ib (fun hs=>wBK je fb hs aX) (.inr Z) ?_
 rintro fc qY sC jf qE mY ⟨rfl,rfl⟩
 have mZ:sW w U fc [.blk b2 45 B0,.obj bh (.map bt bM)] jf:=mY
 exact eM _ _ ⟨fc,bh,bt,bM,f5,f6,f7,Z,(iJ.trans qE),mZ,gS⟩
 refine zY (cs:=[.pointer none]) Z Z Z Z Z Zn Z ib ?_
 intro rn jS m3
 exact eL _ _ ⟨fb,jS,bh,bt,bM,f5,rfl,f6,f7,iJ,(m3.pick [1,0,2] _ (by decide) rfl),gS⟩
 refine zo ?_ ?_
 refine ZO Z Z Z Z (aZ.ldBA (j:=0) Z Z Z ZP zz (vs:=B0) Z Z) (zo ?_ ?_)
 refine yO Z Z Z Z Z aZ ?_
 intro ro jT m4
 have qj:=MpR.nil wCX wCj
 exact iz _ _ ⟨U,jT,#[],0,rfl,rfl,rfl,(zM _),(m4.pick [1,0] _ (by decide) rfl),qj⟩
 refine zo ?_ ?_
 refine zL 0 Z Z Z Z (zK Z Z yD zQ Z) aZ (fun hs=>wBK fH U hs aX) (.inr Z) ?_
 rintro fd qZ sD jg qF m5 ⟨rfl,rfl⟩
 have m6:sW w U fd [.blk b2 45 B0] jg:=m5
 exact iw _ _ ⟨fd,Z,Z,Z,qF,m6⟩
 refine zY (cs:=[.pointer none]) Z Z Z Z Z Zn Z aZ ?_
 intro rp jU m7
 exact iG _ _ ⟨U,jU,rfl,rfl,rfl,(zM _),(m7.pick [1,0] _ (by decide) rfl)⟩
 refine zo ?_ ?_
 refine yO Z Z Z Z Z aZ ?_
 intro jh cp dd
 have eH:=MpR.nil wCX wCj
 refine zo ?_ ?_
 exact ZO rfl rfl rfl rfl (dd.ldBA (j:=1) rfl rfl rfl ZP zz (vs:=B0) rfl rfl) (iz _ _ ⟨U,cp,#[],0,rfl,rfl,rfl,(zM _),(dd.pick [1,0] _ (by decide) rfl),eH⟩)
 refine zo ?_ ?_
 refine zL 0 Z Z Z Z (zK Z Z yD zQ Z) dd (fun hs=>wBK jh U hs aX) (.inr Z) ?_
 rintro ff q5 sE ji qG m8 ⟨rfl,rfl⟩
 have m9:sW w U ff [.obj cp (.map #[] 0),.blk b2 45 B0] ji:=m8
 exact iF _ _ ⟨ff,cp,#[],0,rfl,rfl,rfl,qG,(m9.pick [1,0] _ (by decide) rfl),eH⟩
 refine zY (cs:=[.pointer none]) Z Z Z Z Z Zn Z dd ?_
 intro rq jW n4
 exact iE _ _ ⟨U,jW,cp,#[],0,rfl,rfl,rfl,(zM _),(n4.pick [2,0,1] _ (by decide) rfl),eH⟩
 refine zo ?_ ?_
 refine zL 0 Z Z Z Z (zK Z Z yD zQ Z) aZ (fun hs=>wBK fH U hs aX) (.inr Z) ?_
 rintro cj q6 sF jj eO n5 ⟨rfl,rfl⟩
 have de:sW w U cj [.blk b2 45 B0] jj:=n5
 refine zo ?_ ?_
 exact ZO Z Z Z Z (de.ldBA (j:=0) Z Z Z ZP zz (vs:=B0) Z Z) (iw _ _ ⟨cj,Z,Z,Z,eO,de⟩)
 refine zo ?_ ?_
 refine yO Z Z Z Z Z de ?_
 intro rv jX n6
 have qk:=MpR.nil wCX wCj
 exact iF _ _ ⟨cj,jX,#[],0,rfl,rfl,rfl,eO,(n6.pick [1,0] _ (by decide) rfl),qk⟩
 refine zY (cs:=[.pointer none]) Z Z Z Z Z Zn Z de ?_
 intro rx jY n7
 exact iD _ _ ⟨cj,jY,rfl,rfl,rfl,eO,(n7.pick [1,0] _ (by decide) rfl)⟩
 refine zY (cs:=[.pointer none]) Z Z Z Z Z Zn Z aZ ?_
 intro jk cq df
 refine zo ?_ ?_
 exact ZO rfl rfl rfl rfl (df.ldBA (j:=1) rfl rfl rfl ZP zz (vs:=B0) rfl rfl) (iG _ _ ⟨U,cq,rfl,rfl,rfl,(zM _),(df.pick [1,0] _ (by decide) rfl)⟩)
 refine zo ?_ ?_
 refine yO Z Z Z Z Z df ?_
 intro ry jZ n8
 have qm:=MpR.nil wCX wCj
 exact iE _ _ ⟨U,cq,jZ,#[],0,rfl,rfl,rfl,(zM _),(n8.pick [2,1,0] _ (by decide) rfl),qm⟩
 refine zL 0 Z Z Z Z (zK Z Z yD zQ Z) df (fun hs=>wBK jk U hs aX) (.inr Z) ?_
 rintro fg q7 sG jl qH n9 ⟨rfl,rfl⟩
 have oa:sW w U fg [.blk cq 66 [.pointer none],.blk b2 45 B0] jl:=n9
 exact iD _ _ ⟨fg,cq,rfl,rfl,rfl,qH,(oa.pick [1,0] _ (by decide) rfl)⟩
 rintro sS jm ⟨iX,b6,b8,ae,bO,cH,f8,lm,dl,ic,ms⟩
 refine zJ (sR (.fl 0 (.fx 1 .nil .stop)) Z (oL Z (ic.ldBA (j:=0) Z Z f8 ZP zz (vs:=B0) Z Z) ?_))
 have gT:=pY.le dl
 have gU:=pZ.le dl
 have gV:=p6.le dl
 have gW:=p7.le dl
 have q:=bnd qb
 obtain ⟨⟨⟩,mu,it⟩:=q
 try dsimp only at it
 refine zL 0 Z Z Z Z (zK Z Z Try.call59 (zB Z zQ) Z) ic (fun hs=>wEj O af ak ag am ai an aj ao jm iX hs gT gU gV gW mu) (.inr Z) ?_
 rintro fh q8 sH jo dm oc ⟨fJ,rfl,rfl,mw⟩
 let B6:Res:=.blk b6 66 [.pointer (some ⟨b8,0,none⟩)]
 have od:sW w U fh [.blk b2 45 B0,B6,.blk b8 94 [.slice af O.Starts.length ak,.slice ag O.Splits.length am,.slice ai O.Clocks.length an,.slice aj O.Readings.length ao,.map (some ae),.slice none 0 0],.obj ae (.map bO cH)] jo:=oc
 refine eN (zU (CK.fresh fun dt dh=>?_))
 have ln:dt 1=.pointer (some ⟨b2,0,none⟩):=(dh 1).trans f8
 have f9:dt 3=.pointer (some ⟨b6,0,none⟩):=(dh 3).trans lm
 have lp:dt 19=.func (.func 63) #[] #[.pointer (some ⟨fJ,0,none⟩)]:=(dh 19).trans rfl
 clear dh
 have oe:=od.nilrow 108 7
 refine bnK it fun iU qa iu=>?_
 have d8:=gT.le dm
 have d9:=gU.le dm
 have ef:=gV.le dm
 have eh:=gW.le dm
 refine CK.rangeY (S:=(List wAZ) × (List (wAB × Int))) (E:=Empty) (ar:=wLo) (PY:=(fun (s_:(List wAZ) × (List (wAB × Int))) (U_:PHeap) (L_:List Res)=>match s_ with | (l1591,l1595)=>∃ (bg:Option Addr) (br:Nat) (aS:Array MapEntry) (aT:Nat),L_=[.blk b2 45 B0,B6,.row bg br 108 7 (hD wAU l1591),.blk b8 94 [.slice af O.Starts.length ak,.slice ag O.Splits.length am,.slice ai O.Clocks.length an,.slice aj O.Readings.length ao,.map (some ae),.slice bg l1591.length br],.obj ae (.map aS aT)]/\MpR aS wCX wCj l1595)) (PE:=(fun (_:Empty) _ _=>False)) (exO:=Empty.elim) (s0:=([],iH)) (rr:=iU) lp Try.call63 (oe.pick [1,2,0,3,4] _ (by decide) rfl) (by decide) (fun _ _ _ h=>by obtain rfl:=h;rfl) (fun e=>nomatch e) ⟨none,0,bO,cH,rfl,ms⟩ (fun l w1 L1 PY' PE' mU mS pX=>wEI PY' PE' _ l _ O fJ af ak ag am ai an aj ao w1 L1 fh mU mS pX mw d8 d9 ef eh qa) ?_ ?_
 rintro ay sB su ⟨l1591,l1595⟩ ap sM sA dq q9 qX eT aG dn og mT p5 iq dr bw
 obtain ⟨bg,br,aS,aT,rfl,mx⟩:=mT
 obtain rfl:=p5
 replace bw:∀ t,dr t=upd dt 20 (.agg #[jV ap.Kind,jV ap.Skier,jV ap.Index,.bool ap.Up]) t:=bw
 have lq:dr 20=.agg #[jV ap.Kind,jV ap.Skier,jV ap.Index,.bool ap.Up]:=(bw 20).trans (wDu _ _ _)
 have ga:dr 1=.pointer (some ⟨b2,0,none⟩):=(bw 1).trans ((wEL _ _ (by decide)).trans ln)
 have lu:dr 3=.pointer (some ⟨b6,0,none⟩):=(bw 3).trans ((wEL _ _ (by decide)).trans f9)
 clear bw
 let B7:Res:=.blk b8 94 [.slice af O.Starts.length ak,.slice ag O.Splits.length am,.slice ai O.Clocks.length an,.slice aj O.Readings.length ao,.map (some ae),.slice bg l1591.length br]
 let B8:Res:=.row bg br 108 7 (hD wAU l1591)
 have oh:St aG dq [.obj ay eT,.blk b2 45 B0,B6,B8,B7,.obj ae (.map aS aT)] qX:=og
 try dsimp only at iq
 refine rR gBh Z (zY (cs:=[jV 0,jV 0,jV 0,.bool false]) Z Z Z Z Z Try.zeroValue106 Z oh ?_)
 intro rz ax oi
 let B9:List Value:=[jV ap.Kind,jV ap.Skier,jV ap.Index,.bool ap.Up]
 refine za (j:=0) (vs:=B9) Z Z Z Z oi Z Z lq Z Zx (zA Z) Z Z Z ?_
 intro jp oj
 have ol:St aG dq [.blk ax 106 B9,.obj ay eT,.blk b2 45 B0,B6,B8,B7,.obj ae (.map aS aT)] jp:=oj
 refine zW ⟨rfl,rfl,_,_,(ol.pick [1,0,2,3,4,5,6] [.obj ay eT,.blk ax 106 B9,.blk b2 45 B0,B6,B8,B7,.obj ae (.map aS aT)] (by decide) rfl),fun fD aK om=>?_⟩
 have eo:St aG dq [.obj ay aK,.blk ax 106 B9,.blk b2 45 B0,B6,B8,B7,.obj ae (.map aS aT)] fD:=om
 refine zU (sR (.fl 0 (.fl 1 (.fx 2 (wMS (.fx 7 (.fx 8 (.fx 9 (.fx 10 (.fl 11 .nil) .stop) .stop) .stop) .stop)) .stop))) Z (oL Z (eo.ldBA (j:=2) Z Z ga ZP zz (vs:=B0) Z Z) (oL Z (eo.ldBA (j:=1) Z Z Z yG Zx (vs:=B9) Z Z) ?_)))
 have my:=d8.le dn
 have mz:=d9.le dn
 have mA:=ef.le dn
 have mB:=eh.le dn
 have q:=bnd iq
 obtain ⟨⟨az,aE,aO⟩,mC,iv⟩:=q
 try dsimp only at iv
 refine zL 0 Z Z Z Z (zK Z Z Try.call60 (zB Z (zB Z zQ)) Z) eo (fun hs=>wEk O af ak ag am ai an aj ao ap fD dq hs my mz mA mB mC) (.inr Z) ?_
 rintro bC rc sI jq sv oo ⟨rfl,rfl⟩
 have oq:St aG bC [.obj ay aK,.blk ax 106 B9,.blk b2 45 B0,B6,B8,B7,.obj ae (.map aS aT)] jq:=oo
 refine oM Z Z (oR Z (zn Z Z (v:=.agg #[jV az.skier,jV az.mat]) Z) (oR Z (zn Z Z (v:=.agg #[jV aE.skier,jV aE.mat]) Z) (oR Z (zn Z Z (v:=jV aO) Z) ?_)))
 let ci:List Value:=[jV 0,jV 0]
 refine zY (cs:=ci) Z Z Z Z Z zj Z oq ?_
 intro rA aL ot
 refine zY (cs:=ci) Z Z Z Z Z zj Z ot ?_
 intro rB aM ou
 let aF:List Value:=[jV az.skier,jV az.mat]
 refine za (j:=1) (vs:=aF) Z Z Z Z ou Z Z Z Z zG (zA Z) Z Z Z ?_
 intro jr ov
 have ow:St aG bC [.blk aM 71 ci,.blk aL 71 aF,.obj ay aK,.blk ax 106 B9,.blk b2 45 B0,B6,B8,B7,.obj ae (.map aS aT)] jr:=ov
 let aH:List Value:=[jV aE.skier,jV aE.mat]
 refine za (j:=0) (vs:=aH) Z Z Z Z ow Z Z Z Z zG (zA Z) Z Z Z ?_
 intro jt ox
 have ep:St aG bC [.blk aM 71 aH,.blk aL 71 aF,.obj ay aK,.blk ax 106 B9,.blk b2 45 B0,B6,B8,B7,.obj ae (.map aS aT)] jt:=ox
 refine oA Z Z (eN (zJ (sR fL4 Z (oL Z (ep.ldBA (j:=1) Z Z Z zh zG (vs:=aF) Z Z) (oL Z (ep.ldBA (j:=0) Z Z Z zh zG (vs:=aH) Z Z) ?_)))))
 let eV:List Value:=[jV az.skier,jV az.mat,jV aE.skier,jV aE.mat]
 refine oR Z (Runs.buildA (pv:=[(0,.agg aF.toArray),(1,.agg aH.toArray)]) (z:=[jV 0,jV 0,jV 0,jV 0]) (cs:=eV) Z (wAC Z (wAC Z wAR)) Try.zeroValue123 Try.runUnderlying123 zG Z Z) (oM Z Z (eN (zU (bnK iv fun aw p8 qc=>?_))))
 have q:=wBN p8
 obtain ⟨eF,p9⟩:=q
 replace eF:=zH eF
 refine CK.forN' (fun bZ ca σ_ w_=>∃ (U_:PHeap) (bP:Array MapEntry) (cI:Nat),σ_ 31=jV (↑bZ:Int)/\σ_ 1=.pointer (some ⟨b2,0,none⟩)/\σ_ 3=.pointer (some ⟨b6,0,none⟩)/\σ_ 4=.pointer (some ⟨ax,0,none⟩)/\σ_ 5=.pointer (some ⟨aL,0,none⟩)/\σ_ 6=.pointer (some ⟨aM,0,none⟩)/\σ_ 7=jV aO/\σ_ 30=.agg eV.toArray/\PHeap.Le bC U_/\St aG U_ [.blk aM 71 aH,.blk aL 71 aF,.obj ay aK,.blk ax 106 B9,.blk b2 45 B0,B6,B8,B7,.obj ae (.map bP cI)] w_/\MpR bP wCX wCj ca) p9 ?_ ?_ ?_
 exact ⟨bC,aS,aT,Z,ga,lu,Z,Z,Z,Z,Z,(zM _),ep,mx⟩
 rintro bZ ca sN sT rC eE ⟨cm,bP,cI,da,gb,bW,ge,gf,gg,gh,dP,iK,oy,db⟩ qw
 have fL:Hid ((↑bZ:Int) < 2):=zH (wBG eE)
 replace eE:=zH eE
 have ir:Hid (w64 ((↑bZ:Int) + 1)=(↑(bZ + 1):Int)):=zH (by have h1:=eF.out;have h2:=fL.out;rw [wAY] <;> omega)
 refine sR fL1 Z (oR Z (zO Z da Z) (eN (zJ (cT Z fL (kN (zJ (zU (sR (.fl 0 gBi) Z (bnK qw fun bx ej qd=>oR Z (Runs.ixA (cs:=hD wFM ([az,aE]:List wAB)) Z dP da Try.runUnderlying123 zG (wCS ej) (wCY ej) (wDJ zh zG (wGg (sz:=2) (fun _=>Z) _ _ (wAr ej)))) (zY (cs:=ci) Z Z Z Z Z zj Z oy ?_))))))))))
 intro rD fK oz
 let bz:List Value:=[jV bx.skier,jV bx.mat]
 refine za (j:=0) (vs:=bz) Z Z Z Z oz Z Z Z Z zG (zA Z) Z Z Z ?_
 intro dC oB
 have oC:St aG cm [.blk fK 71 bz,.blk aM 71 aH,.blk aL 71 aF,.obj ay aK,.blk ax 106 B9,.blk b2 45 B0,B6,B8,B7,.obj ae (.map bP cI)] dC:=oB
 refine eN (zJ (zw zx [1,3,3,1,1,1,3,3,3,3,3] fL11 (by kernel_rfl) ?_))
 have bf:=oC.drew
 generalize hw_W1729:({ dC with drawn:=dC.drawn + 1 }:World)=fE at bf ⊢
 refine oL Z (bf.ldB (j:=6) Z Z bW yK (v:=.pointer (some ⟨b8,0,none⟩)) Z) (oR Z (ZY Z Z) (oR Z (zI Z Z ZH Z Zr) (oL Z (bf.ldB (j:=8) Z Z Z Zu (v:=.map (some ae)) Z) (oL Z (bf.ldBA (j:=0) Z Z Z zh zG (vs:=bz) Z Z) (oL Z (bf.lookup2 (j:=9) (mk:=wCX) (mv:=wCj) (a:=bx) (z:=0) Z Z Z Z (wBY ZG) wDS ZN db) (oM Z Z (oR Z (zn Z Z (v:=jV (wAs ca bx 0)) Z) (oR Z (zn Z Z (v:=.bool (wIc ca bx)) Z) (oA Z Z (oA Z Z (eN (sR fL2 Z (oM Z Z (oR Z (ZV Z Z) (eN (ifc qd ?_ ?_))))))))))))))))
 intro dD qe
 refine zl (nC dD.out) (ZL (zd (zF (rR fL2 Z (oR Z (ZJ (zR Z da Z) (congrArg (jV) ir.out)) (oM Z Z (zW ?_)))))))
 cases qe
 exact zF ⟨rfl,⟨cm,bP,cI,rfl,gb,bW,ge,gf,gg,gh,dP,iK,(bf.pick [1,2,3,4,5,6,7,8,9] _ (by decide) rfl),db⟩⟩
 intro dD qf
 refine ZA (nF (dD.out)) (zw zx [1,3,3,1,1,1,3,3,1,1,0] (wMK (.fx 10 .nil .stop)) (by kernel_rfl) ?_)
 have aY:=bf.drew
 generalize hw_W1737:({ fE with drawn:=fE.drawn + 1 }:World)=rE at aY ⊢
 refine zt rfl rfl rfl rfl (aY.ldB (j:=6) rfl rfl bW yK (v:=.pointer (some ⟨b8,0,none⟩)) rfl) rfl (zb rfl rfl rfl rfl (fun _=>ZY rfl rfl) (zb rfl rfl rfl rfl (fun _=>zI rfl rfl ZH rfl Zr) (zt rfl rfl rfl rfl (aY.ldB (j:=8) rfl rfl rfl Zu (v:=.map (some ae)) rfl) rfl (zt rfl rfl rfl rfl (aY.ldBA (j:=0) rfl rfl rfl zh zG (vs:=bz) rfl rfl) rfl (zt rfl rfl rfl rfl (aY.ldB (j:=6) rfl rfl bW yK (v:=.pointer (some ⟨b8,0,none⟩)) rfl) rfl (zb rfl rfl rfl rfl (fun _=>ZY rfl rfl) (zb rfl rfl rfl rfl (fun _=>zI rfl rfl ZH rfl Zr) (zt rfl rfl rfl rfl (aY.ldB (j:=8) rfl rfl rfl Zu (v:=.map (some ae)) rfl) rfl (zt rfl rfl rfl rfl (aY.lenM (j:=9) (mk:=wCX) (mv:=wCj) rfl rfl rfl (wBY ZG) db) rfl (OKS.mapPut (x:=.tmp 48) (y:=.tmp 49) (z:=.tmp 54) (j:=9) (mk:=wCX) (mv:=wCj) (a:=bx) (v:=(↑(ca.length):Int)) rfl rfl rfl (by first | exact .inl rfl | exact .inr rfl) aY rfl rfl rfl rfl (wBY ZG) wDS db rfl ?_))))))))))
 intro fS fM ju qn oD
 have oE:St aG cm [.blk fK 71 bz,.blk aM 71 aH,.blk aL 71 aF,.obj ay aK,.blk ax 106 B9,.blk b2 45 B0,B6,B8,B7,.obj ae (.map fS fM)] ju:=oD
 refine zW (zd (zF (rR fL2 Z (oR Z (ZJ (zR Z da Z) (congrArg (jV) ir.out)) (oM Z Z (zW ?_))))))
 cases qf
 exact zF ⟨rfl,⟨cm,fS,fM,rfl,gb,bW,ge,gf,gg,gh,dP,iK,(oE.pick [1,2,3,4,5,6,7,8,9] _ (by decide) rfl),qn⟩⟩
 rintro sU fG ⟨aV,aR,aQ,mr,sk,bv,lv,lw,lx,ly,sl,sw,oG,bX⟩
 have lk:Hid (¬ ((↑((2:Int) - 0).toNat:Int) < 2)):=zH (wAp)
 refine sR fL1 rfl (zb rfl rfl rfl rfl (fun _=>zO rfl mr rfl) (eN (zJ (cF Z lk (ZM (zc (zc (ZC (zF (bnK qc fun aP ek eG=>zw zx [2,1,3,3,1,1,1,3,3,1,1,1,1,3,3,1,1,1,3,3,2,0,3,3,0] (wMP (.fx 0 (.fx 20 gCa .stop) (.fx 20 (.fx 0 gCa (.fx 21 (.fx 0 gBq .stop) .stop)) .stop))) (by kernel_rfl) ?_))))))))))
 have aJ:=oG.drew
 generalize hw_W1786:({ fG with drawn:=fG.drawn + 1 }:World)=rF at aJ ⊢
 refine oL Z (aJ.ldB (j:=5) Z Z bv yK (v:=.pointer (some ⟨b8,0,none⟩)) Z) (oR Z (ZY Z Z) (oR Z (zI Z Z ZH Z yT) (oL Z (aJ.ldB (j:=7) Z Z Z Try.isAgg92 (v:=.slice bg l1591.length br) Z) (oL Z (aJ.ldBA (j:=3) Z Z lv yG Zx (vs:=B9) Z Z) (oL Z (aJ.ldB (j:=5) Z Z bv yK (v:=.pointer (some ⟨b8,0,none⟩)) Z) (oR Z (ZY Z Z) (oR Z (zI Z Z ZH Z Zr) (oL Z (aJ.ldB (j:=7) Z Z Z Zu (v:=.map (some ae)) Z) (oL Z (aJ.ldBA (j:=1) Z Z lw zh zG (vs:=aF) Z Z) (oL Z (aJ.lookup1 (j:=8) (mk:=wCX) (mv:=wCj) (a:=az) (z:=0) Z Z Z Z (wBY ZG) wDS ZN bX) (oL Z (aJ.ldB (j:=5) Z Z bv yK (v:=.pointer (some ⟨b8,0,none⟩)) Z) (oR Z (ZY Z Z) (oR Z (zI Z Z ZH Z Zr) (oL Z (aJ.ldB (j:=7) Z Z Z Zu (v:=.map (some ae)) Z) (oL Z (aJ.ldBA (j:=0) Z Z lx zh zG (vs:=aH) Z Z) (oL Z (aJ.lookup1 (j:=8) (mk:=wCX) (mv:=wCj) (a:=aE) (z:=0) Z Z Z Z (wBY ZG) wDS ZN bX) (oM Z ly ?_)))))))))))))))))
 let bA:List Value:=[jV ap.Kind,jV ap.Skier,jV ap.Index,.bool ap.Up,jV (wAs aw az 0),jV (wAs aw aE 0),jV aO]
 let dv:List Value:=[jV 0,jV 0,jV 0,.bool false,jV 0,jV 0,jV 0]
 refine oR Z (zq (pv:=[(0,.agg B9.toArray),(1,jV (wAs aw az 0)),(2,jV (wAs aw aE 0)),(3,jV aO)]) (z:=dv) (cs:=bA) Z (wAC Z (wAC Z (wAC Z (wAC Z wAR)))) Try.zeroValue108 wIv Z Z) (zo ?_ ?_)
 refine ZO Z Z Z Z (aJ.ldB (j:=5) Z Z bv yK (v:=.pointer (some ⟨b8,0,none⟩)) Z) (ZF (pv:=[(0,.agg bA.toArray)]) (zs:=dv) (cs:=bA) Z Z Z Z Z (wAC Z wAR) Try.runUnderlying92 Try.sizeOf108 Try.zeroValue108 Z Z Z Z Z aJ ?_)
 intro jv j0 oH
 let dw:Res:=.row (some ⟨j0,0,none⟩) 1 108 7 (hD wAU [(⟨ap,(wAs aw az 0),(wAs aw aE 0),aO⟩:wAZ)])
 have ie:St aG aV [dw,.blk aM 71 aH,.blk aL 71 aF,.obj ay aK,.blk ax 106 B9,.blk b2 45 B0,B6,B8,B7,.obj ae (.map aR aQ)] jv:=oH
 refine Zy (j:=7) (enc:=wAU) (xs:=l1591) (ys:=[(⟨ap,(wAs aw az 0),(wAs aw aE 0),aO⟩:wAZ)]) (zs:=aP) rfl rfl rfl rfl rfl Try.underlying92 wHN rfl rfl rfl rfl rfl rfl ie rfl rfl rfl (ie.srcR (j:=0) rfl (by decide) (wAG (f:=wAU) (sz:=7) (fun _=>rfl) [(⟨ap,(wAs aw az 0),(wAs aw aE 0),aO⟩:wAZ)])) (fun _=>rfl) (fun _=>rfl) ek rfl ?_
 intro cb cC jw oI
 let eW:Res:=.row cb cC 108 7 (hD wAU aP)
 have oJ:St aG aV [dw,.blk aM 71 aH,.blk aL 71 aF,.obj ay aK,.blk ax 106 B9,.blk b2 45 B0,B6,eW,B7,.obj ae (.map aR aQ)] jw:=oI
 refine oR Z (ZY Z Z) (oR Z (zI Z Z ZH Z yT) (za (j:=8) (vs:=[.slice cb aP.length cC]) Z Z Z Z oJ Z Z Z Z yT (zA Z) Z Z Z ?_))
 intro jx oK
 have oO:St aG aV [dw,.blk aM 71 aH,.blk aL 71 aF,.obj ay aK,.blk ax 106 B9,.blk b2 45 B0,B6,eW,.blk b8 94 [.slice af O.Starts.length ak,.slice ag O.Splits.length am,.slice ai O.Clocks.length an,.slice aj O.Readings.length ao,.map (some ae),.slice cb aP.length cC],.obj ae (.map aR aQ)] jx:=oK
 refine zW (zd ?_)
 have q:=nG eG
 obtain rfl:=q
 exact ⟨_,_,(oO.pick [3,5,6,7,8,9] _ (by decide) rfl),rfl,⟨cb,cC,aR,aQ,rfl,bX⟩⟩
 refine ZF (pv:=[(0,.agg bA.toArray)]) (zs:=dv) (cs:=bA) Z Z Z Z Z (wAC Z wAR) Try.runUnderlying92 Try.sizeOf108 Try.zeroValue108 Z Z Z Z Z aJ ?_
 intro jy j3 oP
 let bB:Res:=.row (some ⟨j3,0,none⟩) 1 108 7 (hD wAU [(⟨ap,(wAs aw az 0),(wAs aw aE 0),aO⟩:wAZ)])
 have bY:St aG aV [bB,.blk aM 71 aH,.blk aL 71 aF,.obj ay aK,.blk ax 106 B9,.blk b2 45 B0,B6,B8,B7,.obj ae (.map aR aQ)] jy:=oP
 refine zo ?_ ?_
 refine ZO rfl rfl rfl rfl (bY.ldB (j:=6) rfl rfl bv yK (v:=.pointer (some ⟨b8,0,none⟩)) rfl) (Zy (j:=7) (enc:=wAU) (xs:=l1591) (ys:=[(⟨ap,(wAs aw az 0),(wAs aw aE 0),aO⟩:wAZ)]) (zs:=aP) rfl rfl rfl rfl rfl Try.underlying92 wHN rfl rfl rfl rfl rfl rfl bY rfl rfl rfl (bY.srcR (j:=0) rfl (by decide) (wAG (f:=wAU) (sz:=7) (fun _=>rfl) [(⟨ap,(wAs aw az 0),(wAs aw aE 0),aO⟩:wAZ)])) (fun _=>rfl) (fun _=>rfl) ek rfl ?_)
 intro cc cD jz oQ
 let eY:Res:=.row cc cD 108 7 (hD wAU aP)
 have oS:St aG aV [bB,.blk aM 71 aH,.blk aL 71 aF,.obj ay aK,.blk ax 106 B9,.blk b2 45 B0,B6,eY,B7,.obj ae (.map aR aQ)] jz:=oQ
 refine oR Z (ZY Z Z) (oR Z (zI Z Z ZH Z yT) (za (j:=8) (vs:=[.slice cc aP.length cD]) Z Z Z Z oS Z Z Z Z yT (zA Z) Z Z Z ?_))
 intro jA oU
 have oV:St aG aV [bB,.blk aM 71 aH,.blk aL 71 aF,.obj ay aK,.blk ax 106 B9,.blk b2 45 B0,B6,eY,.blk b8 94 [.slice af O.Starts.length ak,.slice ag O.Splits.length am,.slice ai O.Clocks.length an,.slice aj O.Readings.length ao,.map (some ae),.slice cc aP.length cD],.obj ae (.map aR aQ)] jA:=oU
 refine zW (zd ?_)
 have q:=nG eG
 obtain rfl:=q
 exact ⟨_,_,(oV.pick [3,5,6,7,8,9] _ (by decide) rfl),rfl,⟨cc,cD,aR,aQ,rfl,bX⟩⟩
 refine Zy (j:=7) (enc:=wAU) (xs:=l1591) (ys:=[(⟨ap,(wAs aw az 0),(wAs aw aE 0),aO⟩:wAZ)]) (zs:=aP) rfl rfl rfl rfl rfl Try.underlying92 wHN rfl rfl rfl rfl rfl rfl bY rfl rfl rfl (bY.srcR (j:=0) rfl (by decide) (wAG (f:=wAU) (sz:=7) (fun _=>rfl) [(⟨ap,(wAs aw az 0),(wAs aw aE 0),aO⟩:wAZ)])) (fun _=>rfl) (fun _=>rfl) ek rfl ?_
 intro cd cE jB oW
 let eZ:Res:=.row cd cE 108 7 (hD wAU aP)
 have ig:St aG aV [bB,.blk aM 71 aH,.blk aL 71 aF,.obj ay aK,.blk ax 106 B9,.blk b2 45 B0,B6,eZ,B7,.obj ae (.map aR aQ)] jB:=oW
 refine ZO Z Z Z Z (ig.ldB (j:=6) Z Z bv yK (v:=.pointer (some ⟨b8,0,none⟩)) Z) (oR Z (ZY Z Z) (oR Z (zI Z Z ZH Z yT) (za (j:=8) (vs:=[.slice cd aP.length cE]) Z Z Z Z ig Z Z Z Z yT (zA Z) Z Z Z ?_)))
 intro jC oZ
 have o0:St aG aV [bB,.blk aM 71 aH,.blk aL 71 aF,.obj ay aK,.blk ax 106 B9,.blk b2 45 B0,B6,eZ,.blk b8 94 [.slice af O.Starts.length ak,.slice ag O.Splits.length am,.slice ai O.Clocks.length an,.slice aj O.Readings.length ao,.map (some ae),.slice cd aP.length cE],.obj ae (.map aR aQ)] jC:=oZ
 refine zW (zd ?_)
 have q:=nG eG
 obtain rfl:=q
 exact ⟨_,_,(o0.pick [3,5,6,7,8,9] _ (by decide) rfl),rfl,⟨cd,cE,aR,aQ,rfl,bX⟩⟩
 rintro iT dz rd jD dp o3
 rcases iU with ⟨iV,sO⟩ | ll
 try dsimp only at iu
 rintro ⟨du,dE,cP,cG,rfl,mD⟩
 let dx:Res:=.blk b8 94 [.slice af O.Starts.length ak,.slice ag O.Splits.length am,.slice ai O.Clocks.length an,.slice aj O.Readings.length ao,.map (some ae),.slice du iV.length dE]
 let dy:Res:=.row du dE 108 7 (hD wAU iV)
 have ii:sW w U dz [.blk b2 45 B0,B6,dy,dx,.obj ae (.map cP cG),.obj iT (.deferred (some []))] jD:=o3
 refine zd (zF (sR fL2 Z (oL Z (ii.ldB (j:=1) Z Z f9 yK (v:=.pointer (some ⟨b8,0,none⟩)) Z) (oA Z Z (eN (zT ?_))))))
 have mE:=d8.le dp
 have mF:=d9.le dp
 have mG:=ef.le dp
 have mH:=eh.le dp
 refine wKv (by first | exact .inl rfl | exact .inr rfl) (rbs:=[iT]) (L:=[.blk b2 45 B0,B6,dy,dx,.obj ae (.map cP cG)]) ii fun jE o5=>?_
 have o6:sW w U dz [.blk b2 45 B0,B6,dy,dx,.obj ae (.map cP cG)] jE:=o5
 cases iu
 exact ⟨_,(ZK rfl),dz,_,(o6.pick [3,4,2] _ (by decide) rfl),b8,af,ak,ag,am,ai,an,aj,ao,ae,cP,cG,du,dE,rfl,rfl,mE,mF,mG,mH,mD⟩
 exact ll.elim
end Go.Proofs.Ytkedcbligiebkaa
namespace Go.Proofs.Ytkedcbligiebkaa
open Go.KL
set_option maxHeartbeats 4000000
theorem wGj (O:wAD) (ac:Option Addr) (ai:Nat) (ae:Option Addr) (aj:Nat) (af:Option Addr) (ak:Nat) (ag:Option Addr) (am:Nat) (w:World) (U:PHeap) (hS:St0 w U []) (aR:Sl U 1 ac ai O.Starts.length (hD KL.encI O.Starts)) (aS:Sl U 2 ae aj O.Splits.length (hD wAE O.Splits)) (aT:Sl U 3 af ak O.Clocks.length (hD wAP O.Clocks)) (aU:Sl U 4 ag am O.Readings.length (hD wAH O.Readings)) {r:(Option wAd) × Int} (hm:wCV O=some r):Gv Try.prog 30 [.agg #[.slice ac O.Starts.length ai,.slice ae O.Splits.length aj,.slice af O.Clocks.length ak,.slice ag O.Readings.length am]] w (wBz w [] U (fun U_ L_ v=>match r.1 with | none=>v=.tuple #[.pointer none,jV r.2]/\L_=[] | some d=>∃ (b0:Nat) (A0p00:Option Addr) (c0p00:Nat) (A0p01:Option Addr) (c0p01:Nat) (A0p02:Option Addr) (c0p02:Nat) (A0p03:Option Addr) (c0p03:Nat) (m0p1:Nat) (es0p1:Array MapEntry) (ck0p1:Nat) (A0p2:Option Addr) (c0p2:Nat),v=.tuple #[.pointer (some ⟨b0,0,none⟩),jV r.2]/\L_=[.blk b0 94 [.slice A0p00 d.Race.Starts.length c0p00,.slice A0p01 d.Race.Splits.length c0p01,.slice A0p02 d.Race.Clocks.length c0p02,.slice A0p03 d.Race.Readings.length c0p03,.map (some m0p1),.slice A0p2 d.edges.length c0p2],.obj m0p1 (.map es0p1 ck0p1),.row A0p2 c0p2 108 7 (hD wAU d.edges)]/\Sl U_ 1 A0p00 c0p00 d.Race.Starts.length (hD KL.encI d.Race.Starts)/\Sl U_ 2 A0p01 c0p01 d.Race.Splits.length (hD wAE d.Race.Splits)/\Sl U_ 3 A0p02 c0p02 d.Race.Clocks.length (hD wAP d.Race.Clocks)/\Sl U_ 4 A0p03 c0p03 d.Race.Readings.length (hD wAH d.Race.Readings)/\MpR es0p1 wCX wCj d.number)):=by
 unfold wCV at hm
 refine Gv.of Try.func30 Z Try.ntmps30 Try.results30 Z (sR gBr Z ?_)
 let B0:List Value:=[.slice ac O.Starts.length ai,.slice ae O.Splits.length aj,.slice af O.Clocks.length ak,.slice ag O.Readings.length am]
 refine ZD (cs:=B0) rfl rfl rfl rfl rfl rfl (by rfl) hS ?_
 intro W1 b2 aQ
 refine oA Z Z (oA Z Z (eN (zJ (sR (.fl 0 (.fx 1 (.fl 2 .nil) .stop)) Z (oL Z (aQ.ldBA (j:=0) Z Z Z ZP zz (vs:=B0) Z Z) (bnK hm fun x5 h6 bn=>zL 0 Z Z Z Z (zK Z Z Try.call43 (zB Z zQ) Z) aQ (fun hs=>wGi O ac ai ae aj af ak ag am W1 U hs aR aS aT aU h6) (.inr Z) ?_))))))
 rintro U8 L9 br aG an bg ⟨rfl,rfl⟩
 have av:sW w U U8 [.blk b2 45 B0] aG:=bg
 refine oA Z Z (eN (sR fL2 Z (oM Z Z (oR Z (Zo Z Z Z) (eN (ifc bn ?_ ?_))))))
 intro aq bj
 refine zl (zy (fun h=>h aq.out)) (kN (sR gCb Z (oL Z (av.ldBA (j:=0) Z Z Z ZP zz (vs:=B0) Z Z) ?_)))
 have aX:=aR.le an
 have aY:=aS.le an
 have aZ:=aT.le an
 have a7:=aU.le an
 refine bnK bj fun aa a8 bk=>zL 0 Z Z Z Z (zK Z Z Try.call44 (zB Z zQ) Z) av (fun hs=>wGG O ac ai ae aj af ak ag am aG U8 hs aX aY aZ a7 a8) (.inr Z) ?_
 rintro aF bo bt aW bq bh ⟨aJ,ax,aK,ay,aL,az,aM,aE,aN,aw,aP,aO,ao,au,rfl,rfl,a9,ba,bb,bc,be⟩
 have bi:sW w U aF [.blk aJ 94 [.slice ax aa.Race.Starts.length aK,.slice ay aa.Race.Splits.length aL,.slice az aa.Race.Clocks.length aM,.slice aE aa.Race.Readings.length aN,.map (some aw),.slice ao aa.edges.length au],.obj aw (.map aP aO),.row ao au 108 7 (hD wAU aa.edges),.blk b2 45 B0] aW:=bh
 refine oA Z Z (oA Z Z (eN (zT ?_)))
 cases bk
 exact ⟨rfl,_,(wEz rfl rfl),aF,_,(bi.pick [0,1,2] _ (by decide) rfl),aJ,ax,aK,ay,aL,az,aM,aE,aN,aw,aP,aO,ao,au,rfl,rfl,a9,ba,bb,bc,be⟩
 intro aq bm
 refine cT Z aq (sR fL3 Z (oM Z Z (oA Z Z (oA Z Z (eN (zT (zP ?_)))))))
 cases bm
 exact ⟨rfl,_,(wEz rfl rfl),U8,_,(av.pick [] _ (by decide) rfl),rfl,rfl⟩
theorem wCh (O:List wAW) (an:Option Addr) (ao:Nat) (p1:(wAW->Option Bool)) (ap:Value) (w:World) (U:PHeap) (hS:St0 w U []) (a7:Sl U 2 an ao O.length (hD wBv O)) (a8:FnOK Try.prog U ap ar85 rr85 p1) {r:Bool} (hm:wAt O p1=some r):Gv Try.prog 31 [.slice an O.length ao,ap] w (wBz w [] U (fun U_ L_ v=>v=.bool r/\L_=[])):=by
 unfold wAt at hm
 refine Gv.of Try.func31 Z Try.ntmps31 Try.results31 Z (sR fL1 Z (oA Z Z (eN (zJ (sR fL3 Z (oM Z Z (oR Z (ZB Z Z Try.runUnderlying82) (oM Z Z (eN (zU ?_))))))))))
 have q:=wBx hm
 obtain ⟨r3,ai⟩:=q
 have q:=wBw ai
 obtain ⟨ak,bb⟩:=q
 replace ak:=zH ak
 refine yE (fun k2 _ σ_ w_=>∃ (U_:PHeap),σ_ 9=jV (↑k2:Int)/\σ_ 1=ap/\σ_ 7=.slice an O.length ao/\σ_ 8=jV (↑O.length:Int)/\PHeap.Le U U_/\sW w U U_ [] w_) bb ?_ ?_ ?_
 exact ⟨U,Z,Z,Z,Z,(zM _),hS⟩
 rintro k2 ⟨⟩ bA bC W8 aj ⟨aJ,ag,av,aw,ax,am,az⟩ aH a9
 try dsimp only at aH
 have au:Hid ((↑k2:Int) < (↑O.length:Int)):=zH (wBG aj)
 replace aj:=zH aj
 have bc:Hid (w64 ((↑k2:Int) + 1)=(↑(k2 + 1):Int)):=zH (by have h1:=ak.out;have h2:=au.out;rw [wAY] <;> omega)
 refine sR fL1 Z (oR Z (zO Z ag ax) (eN (zJ (cT Z au (kN (zJ (zU (sR (.fl 0 (.fl 1 gBa)) Z (bnK aH fun ab ay be=>?_)))))))))
 have aR:=a7.le am
 have q:=aR.el (fun _=>rfl) (wAr ay)
 obtain ⟨bq,bv,aU,aV⟩:=q
 refine oR Z (Zb Z aw aU ag Try.runUnderlying82 yM (wCz ay)) (oL Z (az.ldCA (f:=0) aV Z Z Try.isAgg54 yM (us:=[jV ab.Skier,jV ab.Mat]) Z Z) (zY (cs:=[jV 0,jV 0]) Z Z Z Z Z Try.zeroValue54 Z az ?_))
 intro bn aq aW
 let B0:List Value:=[jV ab.Skier,jV ab.Mat]
 refine za (j:=0) (vs:=B0) Z Z Z Z aW Z Z Z Z yM (zA Z) Z Z Z ?_
 intro aL aX
 have aE:sW w U aJ [.blk aq 54 B0] aL:=aX
 refine eN (sR gCc Z (oM Z av (oL Z (aE.ldBA (j:=0) Z Z Z Try.isAgg54 yM (vs:=B0) Z Z) (bnK be fun bz aS bf=>?_))))
 have aT:=a8.le am
 refine yI (a:=ab) Z Z Z Z Z Z (zB Z zQ) aE aT Z aS ?_
 rintro ae bm bx aM bj aY ⟨rfl,rfl⟩
 have aF:sW w U ae [.blk aq 54 B0] aM:=aY
 refine oR Z (ZV Z Z) (eN (ifc bf ?_ ?_))
 intro af bg
 refine zl (nC af.out) (ZL (zd (zF (rR fL2 Z (oR Z (ZJ (zR Z ag Z) (congrArg (jV) bc.out)) (oM Z Z (zW ?_)))))))
 have q:=nG bg
 obtain rfl:=q
 exact zF ⟨rfl,_,rfl,⟨ae,rfl,av,aw,ax,(am.trans bj),(aF.pick [] _ (by decide) rfl)⟩⟩
 intro af bh
 refine ZA (nF (af.out)) (sR fL1 Z (oA Z Z (eN (zT (zV (zP ?_))))))
 have q:=wAV bh
 obtain ⟨bk,bi,aO⟩:=q
 have q:=wBA hm ai (a9 bk aO)
 obtain rfl:=q
 refine zP (zV (zP ?_))
 have hE:=nG bi;first | subst r | cases hE
 exact ⟨rfl,_,(ZK rfl),ae,_,(aF.pick [] _ (by decide) rfl),rfl,rfl⟩
 rintro ⟨⟩ bB bo ⟨aK,aQ,br,bt,aP,bu,aZ⟩ ba
 have aG:=wCl hm ai ba
 try dsimp only at aG
 have aN:Hid (¬ ((↑(((↑O.length:Int):Int) - 0).toNat:Int) < (↑O.length:Int))):=zH (wAp)
 refine sR fL1 Z (oR Z (zO Z aQ aP) (eN (zJ (cF Z aN (ZM (zc (zc (ZC (zF (sR fL1 Z (oA Z Z (eN (zT ?_)))))))))))))
 have hE:=nG aG;first | subst r | cases hE
 exact ⟨Z,_,(ZK Z),aK,_,aZ,Z,Z⟩
theorem wFS (p0 p1:Int) (w:World) (U:PHeap) (hS:St0 w U []) {r:Int × Int} (hm:wCf p0 p1=some r):Gv Try.prog 61 [.int .u64 p0,.int .u64 p1] w (wBz w [] U (fun U_ L_ v=>v=.tuple #[.int .u64 r.1,.int .u64 r.2]/\L_=[])):=by
 unfold wCf at hm
 split at hm
 rename_i h
 cases hm
 obtain ⟨x,rfl⟩:=nH h.1
 obtain ⟨y,rfl⟩:=nH h.2.2.1
 refine (Go.Proofs.Try.bits_Mul x y (by omega) (by omega) w).mono ?_
 rintro e w' ⟨rfl,rfl⟩
 refine ⟨_,Z,U,[],hS,?_,Z⟩
 simp
 cases hm
theorem wAh (p0:List Int) (ay:Option Addr) (az:Nat) (p1:Int) (w:World) (U:PHeap) (hS:St0 w U []) (bC:Sl U 1 ay az p0.length (hD KL.encI p0)) {r:(List Int)} (hm:wAu p0 p1=some r):Gv Try.prog 46 [.slice ay p0.length az,jV p1] w (wBz w [] U (fun U_ L_ v=>∃ (A0:Option Addr) (c0:Nat),v=.slice A0 r.length c0/\L_=[.row A0 c0 3 1 (hD KL.encI r)])):=by
 unfold wAu at hm
 refine Gv.of Try.func46 Z Try.ntmps46 Try.results46 Z (sR fL1 Z (oA Z Z (eN (zJ (sR fL2 Z (oM Z Z (oR Z (zO Z Z Z) (eN ?_))))))))
 by_cases c1:p1 < 0
 have aR:=hm;rw [if_pos c1] at aR;replace c1:=zH c1
 refine cT Z c1 (rR gBh Z ?_)
 cases aR
 have aU:=hm;rw [if_neg c1] at aU;replace c1:=zH c1
 refine cF Z c1 (kN (sR (wDD (.fx 5 (wKp (.nil)) .stop)) Z (oM Z Z (oR Z (ZB Z Z zD) (oR Z (Runs.cv64 Z Z ZU Zc Z Z) (oM Z Z (oR Z (Runs.cv64 Z Z ZU Zc Z Z) ?_)))))))
 have q:=bnd aU
 obtain ⟨⟨x4,x5⟩,h6,aV⟩:=q
 try dsimp only at aV
 refine zL 0 Z Z Z Z (zK Z Z Try.call61 (zB Z (zB Z zQ)) Z) hS (fun hs=>wFS (wAc (↑p0.length:Int)) (wAc p1) w U hs h6) (.inr Z) ?_
 rintro U8 L9 cc bb bT bv ⟨rfl,rfl⟩
 have aL:sW w U U8 [] bb:=bv
 refine oM Z Z (oR Z (zn Z Z (v:=.int .u64 x4) Z) (oR Z (zn Z Z (v:=.int .u64 x5) Z) (oA Z Z (oA Z Z (eN (zJ (bnK aV fun bg aZ bK=>Zp (fun σ_ w_=>∃ (U_:PHeap),σ_ 0=.slice ay p0.length az/\σ_ 6=.int .u64 x5/\σ_ 26=.bool bg/\PHeap.Le U8 U_/\sW w U U_ [] w_) ?_ ?_)))))))
 refine rR fL6 Z (oM Z Z (oR Z (Zz Z Z Z) (oM Z Z ?_)))
 by_cases ab:0 < x4
 have aS:=aZ;rw [if_pos ab] at aS;replace ab:=zH ab
 refine oT Z ab (oT Z ab (oR Z (zk Z (ZW ab.out) Z) (zW ?_)))
 cases aS
 exact zF ⟨Z,⟨U8,Z,Z,Z,(zM _),aL⟩⟩
 have aT:=aZ;rw [if_neg ab] at aT;replace ab:=zH ab
 refine zN Z Z Z (wF Z ab) Z Z (rU Z (wF Z ab) (Zz Z Z Z) (oR Z (zm Z (zy ab.out) Z) (zW ?_)))
 have q:=nG aT
 obtain rfl:=q
 exact zF ⟨Z,⟨U8,Z,Z,Z,(zM _),aL⟩⟩
 rintro ci bY ⟨am,bi,bj,aJ,bU,bw⟩
 refine ifc bK ?_ ?_
 intro au bL
 refine ZA (aJ.trans (congrArg nI au.out)) (rR gBh Z ?_)
 cases bL
 intro au bM
 refine zl (aJ.trans (congrArg nI (nJ.2 au.out))) (kN (sR gCc Z (oM Z bj (oR Z (Runs.cvw Z Z Zc ZU Z Z) (bnK bM fun O bk bN=>OKS.makeSlice (enc:=KL.encI) (z:=(0:Int)) (v:=jV 0) Z Z Z Z Z (wBY zD) wIw Z Z Z Z Z Z bk bw ?_)))))
 intro bc aa bx
 have aM:sW w U am [.row (some ⟨aa,0,none⟩) O.length 3 1 (hD KL.encI O)] bc:=bx
 refine oA Z Z (eN (sR gCc Z (oM Z Z (oM Z bi ?_))))
 have bm:=bC.le bT
 have bn:=bm.le bU
 refine bnK bN fun aE bo bO=>OKS.copyM (j:=0) (f:=KL.encI) (m:=O) (ys:=p0) (z:=aE) (a:=0) (n:=O.length) rfl rfl rfl rfl rfl rfl zD zC aM rfl (fun _=>rfl) (fun _=>rfl) rfl bo rfl (by simp) (.inr (by simp)) rfl (aM.srcS bn) rfl ?_
 intro be bz aP
 have bA:sW w U am [.row (some ⟨aa,0,none⟩) O.length 3 1 (hD KL.encI aE)] be:=bz
 refine oA Z Z (eN (zJ (zU (yU (fun (ac,ae) σ_ w_=>∃ (U_:PHeap),σ_ 7=.slice (some ⟨aa,0,none⟩) ac.length O.length/\σ_ 8=jV ae/\PHeap.Le am U_/\sW w U U_ [.row (some ⟨aa,0,none⟩) O.length 3 1 (hD KL.encI ac)] w_/\ac.length=O.length) bO ?_ ?_))))
 exact ⟨am,(Eq.trans (b:=(.slice (some ⟨aa,0,none⟩) O.length O.length:Value)) (c:=(.slice (some ⟨aa,0,none⟩) aE.length O.length:Value)) rfl (by rw [aP])),rfl,(zM _),bA,aP⟩
 rintro ⟨ac,ae⟩ cd cj aH ⟨aq,aj,ao,bV,aN,bq⟩ ax bH
 try dsimp only at ax
 refine zJ (sR fL4 Z (oM Z ao (oM Z aj (oR Z (ZB Z Z zD) (oR Z (zO Z Z Z) (eN ?_))))))
 by_cases ag:ae < (↑ac.length:Int)
 have aW:=ax;rw [if_pos ag] at aW;replace ag:=zH ag
 refine cT Z ag (kN (zU (zw zx [3,3,3,3,3,3,3,0,3,3] (wHE gBs) (by kernel_rfl) ?_)))
 have ak:=aN.drew
 generalize hw_W76:({ aH with drawn:=aH.drawn + 1 }:World)=bZ at ak ⊢
 refine oM Z ao (oM Z aj (oM Z ao (bnK aW fun a9 br bP=>?_)))
 have q:=wIo br
 obtain ⟨bD,bF,av,ca,aw⟩:=q
 have aX:=ak.rowCap (j:=0) rfl (by decide) (wAG (f:=KL.encI) (sz:=1) (fun _=>rfl) ac)
 refine zb (v:=.slice (if O.length=(ae:Int).toNat then (some ⟨aa,0,none⟩) else Option.map (fun q:Addr=>q.add ((ae:Int).toNat * 1)) ((some ⟨aa,0,none⟩):Option Addr)) a9.length (O.length - (ae:Int).toNat)) rfl rfl rfl rfl (fun _=>ZJ (Runs.slc (sz:=1) (a:=ae) (b:=(↑(ac.length):Int)) rfl rfl (.inl ⟨_,rfl,rfl⟩) (.inr ⟨rfl,rfl⟩) zD zC bD bF av aX) (by rw [aw])) (zN rfl rfl rfl rfl rfl aj (zN rfl rfl rfl rfl rfl ao (bnK bP fun ba aK bQ=>?_)))
 have q:=wIo aK
 obtain ⟨bE,bG,bI,cb,bS⟩:=q
 have aY:=ak.rowCap (j:=0) rfl (by decide) (wAG (f:=KL.encI) (sz:=1) (fun _=>rfl) ac)
 refine zb (v:=.slice (if O.length=(0:Int).toNat then (some ⟨aa,0,none⟩) else Option.map (fun q:Addr=>q.add ((0:Int).toNat * 1)) ((some ⟨aa,0,none⟩):Option Addr)) ba.length (O.length - (0:Int).toNat)) rfl rfl rfl rfl (fun _=>ZJ (Runs.slc (sz:=1) (a:=0) (b:=ae) rfl rfl (.inr ⟨rfl,rfl⟩) (.inl ⟨_,rfl,rfl⟩) zD zC bE bG bI aY) (by rw [bS])) (bnK bQ fun aF bt bR=>OKS.copyM (j:=0) (f:=KL.encI) (m:=ac) (ys:=ba) (z:=aF) (a:=ae) (n:=a9.length) rfl rfl rfl rfl rfl rfl zD zC ak rfl (fun _=>rfl) (fun _=>rfl) rfl bt rfl (by have:=aw;have:=av;omega) (cutA rfl (by have:=aw;have:=av;have:=aX;omega)) rfl (ak.srcCut (f:=KL.encI) (j:=0) rfl (fun _=>rfl) rfl aK aY) rfl ?_)
 intro bf bB aO
 have bu:sW w U aq [.row (some ⟨aa,0,none⟩) O.length 3 1 (hD KL.encI aF)] bf:=bB
 refine oR Z (zR Z Z Z) (oA Z Z (zW (zd ?_)))
 have q:=nG bR
 obtain rfl:=q
 exact zF ⟨rfl,_,rfl,⟨aq,(Eq.trans (b:=(.slice (some ⟨aa,0,none⟩) ac.length O.length:Value)) (c:=(.slice (some ⟨aa,0,none⟩) aF.length O.length:Value)) aj (by rw [aO])),rfl,bV,bu,(aO.trans bq)⟩⟩
 have aQ:=ax;rw [if_neg ag] at aQ;replace ag:=zH ag
 refine cF Z ag (ZM (zc ?_))
 have q:=wAV aQ
 obtain ⟨bW,bJ,bh⟩:=q
 have q:=bH bW bh
 obtain rfl:=q
 refine zc (ZC (zF (sR fL2 Z (oM Z aj (oA Z Z (eN (zT ?_)))))))
 have hE:=nG bJ;first | subst r | cases hE
 exact ⟨Z,_,(ZK Z),aq,_,aN,(some ⟨aa,0,none⟩),O.length,Z,Z⟩
theorem wBO (p0:wAd) (af:Nat) (da:Option Addr) (df:Nat) (db:Option Addr) (dg:Nat) (dd:Option Addr) (dh:Nat) (de:Option Addr) (di:Nat) (O:Nat) (ab:Array MapEntry) (ac:Nat) (aV:Option Addr) (aW:Nat) (p1:Int) (p2:Bool) (w:World) (U:PHeap) (hS:St0 w U [.blk af 94 [.slice da p0.Race.Starts.length df,.slice db p0.Race.Splits.length dg,.slice dd p0.Race.Clocks.length dh,.slice de p0.Race.Readings.length di,.map (some O),.slice aV p0.edges.length aW],.obj O (.map ab ac)]) (xj:Sl U 1 da df p0.Race.Starts.length (hD KL.encI p0.Race.Starts)) (xk:Sl U 2 db dg p0.Race.Splits.length (hD wAE p0.Race.Splits)) (xl:Sl U 3 dd dh p0.Race.Clocks.length (hD wAP p0.Race.Clocks)) (xm:Sl U 4 de di p0.Race.Readings.length (hD wAH p0.Race.Readings)) (cr:MpR ab wCX wCj p0.number) (uy:Sl U 7 aV aW p0.edges.length (hD wAU p0.edges)) {r:wCT × Int × Bool} (hm:wAf p0 p1 p2=some r):Gv Try.prog 34 [.pointer (some ⟨af,0,none⟩),jV p1,.bool p2] w (wBz w [.blk af 94 [.slice da p0.Race.Starts.length df,.slice db p0.Race.Splits.length dg,.slice dd p0.Race.Clocks.length dh,.slice de p0.Race.Readings.length di,.map (some O),.slice aV p0.edges.length aW],.obj O (.map ab ac)] U (fun U_ L_ v=>∃ (fB:Option Addr) (gY:Nat) (fC:Option Addr) (gZ:Nat),v=.tuple #[.agg #[.slice fB r.1.far.length gY,.slice fC r.1.by_.length gZ],jV r.2.1,.bool r.2.2]/\L_=[.row fB gY 3 1 (hD KL.encI r.1.far),.row fC gZ 3 1 (hD KL.encI r.1.by_),.blk af 94 [.slice da p0.Race.Starts.length df,.slice db p0.Race.Splits.length dg,.slice dd p0.Race.Clocks.length dh,.slice de p0.Race.Readings.length di,.map (some O),.slice aV p0.edges.length aW],.obj O (.map ab ac)])):=by
 unfold wAf at hm
 refine Gv.of Try.func34 Z Try.ntmps34 Try.results34 Z (sR gBr Z ?_)
 let B0:List Value:=[.slice none 0 0,.slice none 0 0]
 refine zY (cs:=B0) Z Z Z Z Z Zd Z hS ?_
 intro W3 b4 tV
 refine oA Z Z (oA Z Z (eN ?_))
 have q:=bnd hm
 obtain ⟨⟨l9,a8⟩,vw,ln⟩:=q
 try dsimp only at ln
 let B1:Res:=.blk af 94 [.slice da p0.Race.Starts.length df,.slice db p0.Race.Splits.length dg,.slice dd p0.Race.Clocks.length dh,.slice de p0.Race.Readings.length di,.map (some O),.slice aV p0.edges.length aW]
 refine Zp (fun σ_ w_=>∃ (U_:PHeap) (b8:Nat) (am:Option Addr) (an:Nat) (ao:Option Addr) (ap:Nat),σ_ 0=.pointer (some ⟨af,0,none⟩)/\σ_ 1=jV p1/\σ_ 2=.bool p2/\σ_ 6=.pointer (some ⟨b4,0,none⟩)/\σ_ 9=.pointer (some ⟨b8,0,none⟩)/\PHeap.Le U U_/\SW w [B1,.obj O (.map ab ac)] U U_ [.blk b4 88 B0,B1,.obj O (.map ab ac),.blk b8 88 [.slice am l9.length an,.slice ao a8.length ap],.row am an 3 1 (hD KL.encI l9),.row ao ap 3 1 (hD KL.encI a8)] w_) ?_ ?_
 refine bnK vw fun aq dU vq=>bnK vq fun aG dV vr=>zw zx [2,3,3,3,1,1,2,2,3,3,3,1,1,2,3,2,0] (fC1_5 (wHF (.fx 0 (.fx 6 (.fl 12 (.fx 7 gCk (.fx 15 gCd .stop))) (.fx 7 gCv (.fx 15 gCw .stop))) (.fx 7 (.fx 0 gCv (.fx 15 gCp .stop)) (.fx 15 (.fx 0 gCw (.fx 7 gCp .stop)) .stop))))) (by kernel_rfl) ?_
 have bI:=tV.drew
 generalize hw_W74:({ W3 with drawn:=W3.drawn + 1 }:World)=wB at bI ⊢
 refine ZQ (s:=.nil) (M:=fun σ_ w_=>∃ (U_:PHeap) (dD:Nat) (bL:Option Addr) (bY:Nat) (bM:Option Addr) (bZ:Nat) (d5:Option Addr) (eD:Nat) (d6:Option Addr) (eE:Nat),σ_ 0=.pointer (some ⟨af,0,none⟩)/\σ_ 1=jV p1/\σ_ 2=.bool p2/\σ_ 6=.pointer (some ⟨b4,0,none⟩)/\σ_ 9=.pointer (some ⟨dD,0,none⟩)/\σ_ 16=.slice d5 ([1125899906842624].length) eD/\σ_ 17=.pointer (some ⟨af,0,none⟩)/\σ_ 18=.pointer (some ⟨af,0,none⟩)/\σ_ 19=.pointer (some ⟨af,4,none⟩)/\σ_ 20=.map (some O)/\σ_ 21=jV (↑(p0.number.length):Int)/\σ_ 22=.slice bL aq.length bY/\σ_ 23=.slice d6 ([-1].length) eE/\σ_ 24=.pointer (some ⟨af,0,none⟩)/\σ_ 25=.pointer (some ⟨af,0,none⟩)/\σ_ 26=.pointer (some ⟨af,4,none⟩)/\σ_ 27=.map (some O)/\σ_ 28=jV (↑(p0.number.length):Int)/\σ_ 29=.slice bM aG.length bZ/\σ_ 30=.agg #[.slice bL aq.length bY,.slice bM aG.length bZ]/\PHeap.Le U U_/\SW w [B1,.obj O (.map ab ac)] U U_ [.blk b4 88 B0,B1,.obj O (.map ab ac),.blk dD 88 [.slice bL aq.length bY,.slice bM aG.length bZ],.row bL bY 3 1 (hD KL.encI aq),.row bM bZ 3 1 (hD KL.encI aG)] w_/\Sl U_ 1 d5 eD [1125899906842624].length (hD KL.encI [1125899906842624])/\Sl U_ 1 d6 eE [-1].length (hD KL.encI [-1])) ?_ fun lG=>?_
 rintro xQ ww ⟨md,dD,bL,bY,bM,bZ,d5,eD,d6,eE,oQ,oS,oU,oV,oW,wV,wW,wX,wY,wZ,w5,w6,w7,w8,w9,xa,xb,xc,xd,xe,vI,tT,xh,xi⟩
 refine zW ?_
 cases vr
 exact zF ⟨Z,⟨md,dD,bL,bY,bM,bZ,oQ,oS,oU,oV,oW,vI,tT⟩⟩
 refine ZQ (s:=.fx 16 .nil .stop) (M:=fun σ_ w_=>∃ (U_:PHeap) (cJ:Nat) (dl:Option Addr) (dF:Nat) (bn:Option Addr) (bz:Nat) (dm:Option Addr) (dG:Nat) (bo:Option Addr) (bA:Nat),σ_ 0=.pointer (some ⟨af,0,none⟩)/\σ_ 1=jV p1/\σ_ 2=.bool p2/\σ_ 6=.pointer (some ⟨b4,0,none⟩)/\σ_ 9=.pointer (some ⟨cJ,0,none⟩)/\σ_ 16=.slice dl ([1125899906842624].length) dF/\σ_ 17=.pointer (some ⟨af,0,none⟩)/\σ_ 18=.pointer (some ⟨af,0,none⟩)/\σ_ 19=.pointer (some ⟨af,4,none⟩)/\σ_ 20=.map (some O)/\σ_ 21=jV (↑(p0.number.length):Int)/\σ_ 22=.slice bn aq.length bz/\σ_ 23=.slice dm ([-1].length) dG/\σ_ 24=.pointer (some ⟨af,0,none⟩)/\σ_ 25=.pointer (some ⟨af,0,none⟩)/\σ_ 26=.pointer (some ⟨af,4,none⟩)/\σ_ 27=.map (some O)/\σ_ 28=jV (↑(p0.number.length):Int)/\σ_ 29=.slice bo aG.length bA/\σ_ 30=.agg #[.slice bn aq.length bz,.slice bo aG.length bA]/\PHeap.Le U U_/\SW w [B1,.obj O (.map ab ac)] U U_ [.blk b4 88 B0,B1,.obj O (.map ab ac),.blk cJ 88 B0,.row bn bz 3 1 (hD KL.encI aq),.row bo bA 3 1 (hD KL.encI aG)] w_/\Sl U_ 1 dl dF [1125899906842624].length (hD KL.encI [1125899906842624])/\Sl U_ 1 dm dG [-1].length (hD KL.encI [-1])) ?_ fun vx=>?_
 rintro xR wx ⟨f8,cJ,dl,dF,bn,bz,dm,dG,bo,bA,oZ,o0,o3,o5,iY,o6,o7,o8,o9,pc,pd,pe,pf,pj,pk,pm,pn,po,pp,iZ,vJ,tU,r5,r6⟩
 let B2:List Value:=[.slice bn aq.length bz,.slice bo aG.length bA]
 refine za (j:=3) (vs:=B2) Z Z Z Z tU Z iY iZ Z Zs (zA Z) Z Z Z ?_
 intro mw tW
 have tX:SW w [B1,.obj O (.map ab ac)] U f8 [.blk b4 88 B0,B1,.obj O (.map ab ac),.blk cJ 88 B2,.row bn bz 3 1 (hD KL.encI aq),.row bo bA 3 1 (hD KL.encI aG)] mw:=tW
 exact lG _ _ ⟨f8,cJ,bn,bz,bo,bA,dl,dF,dm,dG,oZ,o0,o3,o5,iY,o6,o7,o8,o9,pc,pd,pe,pf,pj,pk,pm,pn,po,pp,iZ,vJ,tX,r5,r6⟩
 refine ZQ (s:=gBk) (M:=fun σ_ w_=>∃ (U_:PHeap) (cK:Nat) (dn:Option Addr) (dH:Nat) (bp:Option Addr) (bB:Nat) (dp:Option Addr) (dI:Nat) (bq:Option Addr) (bC:Nat),σ_ 0=.pointer (some ⟨af,0,none⟩)/\σ_ 1=jV p1/\σ_ 2=.bool p2/\σ_ 6=.pointer (some ⟨b4,0,none⟩)/\σ_ 9=.pointer (some ⟨cK,0,none⟩)/\σ_ 16=.slice dn ([1125899906842624].length) dH/\σ_ 17=.pointer (some ⟨af,0,none⟩)/\σ_ 18=.pointer (some ⟨af,0,none⟩)/\σ_ 19=.pointer (some ⟨af,4,none⟩)/\σ_ 20=.map (some O)/\σ_ 21=jV (↑(p0.number.length):Int)/\σ_ 22=.slice bp aq.length bB/\σ_ 23=.slice dp ([-1].length) dI/\σ_ 24=.pointer (some ⟨af,0,none⟩)/\σ_ 25=.pointer (some ⟨af,0,none⟩)/\σ_ 26=.pointer (some ⟨af,4,none⟩)/\σ_ 27=.map (some O)/\σ_ 28=jV (↑(p0.number.length):Int)/\σ_ 29=.slice bq aG.length bC/\PHeap.Le U U_/\SW w [B1,.obj O (.map ab ac)] U U_ [.blk b4 88 B0,B1,.obj O (.map ab ac),.blk cK 88 B0,.row bp bB 3 1 (hD KL.encI aq),.row bq bC 3 1 (hD KL.encI aG)] w_/\Sl U_ 1 dn dH [1125899906842624].length (hD KL.encI [1125899906842624])/\Sl U_ 1 dp dI [-1].length (hD KL.encI [-1])) ?_ fun lH=>?_
 rintro xS wy ⟨f9,cK,dn,dH,bp,bB,dp,dI,bq,bC,pq,pu,py,pz,i7,pA,pB,pC,pD,pF,pG,i8,pH,pI,pJ,pK,pL,pM,i9,vK,tY,r7,r8⟩
 let B3:List Value:=[.slice bp aq.length bB,.slice bq aG.length bC]
 refine oR Z (zq (pv:=[(0,.slice bp aq.length bB),(1,.slice bq aG.length bC)]) (z:=B0) (cs:=B3) Z (wAC i8 (wAC i9 wAR)) Zd wHj Z Z) (za (j:=3) (vs:=B3) Z Z Z Z tY Z i7 Z Z Zs (zA Z) Z Z Z ?_)
 intro mx tZ
 have t4:SW w [B1,.obj O (.map ab ac)] U f9 [.blk b4 88 B0,B1,.obj O (.map ab ac),.blk cK 88 B3,.row bp bB 3 1 (hD KL.encI aq),.row bq bC 3 1 (hD KL.encI aG)] mx:=tZ
 exact lG _ _ ⟨f9,cK,bp,bB,bq,bC,dn,dH,dp,dI,pq,pu,py,pz,i7,pA,pB,pC,pD,pF,pG,i8,pH,pI,pJ,pK,pL,pM,i9,Z,vK,t4,r7,r8⟩
 refine ZQ (s:=gBu) (M:=fun σ_ w_=>∃ (U_:PHeap) (bT:Nat) (dq:Option Addr) (dJ:Nat) (cu:Option Addr) (cN:Nat) (cw:Option Addr) (cO:Nat),σ_ 0=.pointer (some ⟨af,0,none⟩)/\σ_ 1=jV p1/\σ_ 2=.bool p2/\σ_ 6=.pointer (some ⟨b4,0,none⟩)/\σ_ 9=.pointer (some ⟨bT,0,none⟩)/\σ_ 16=.slice dq ([1125899906842624].length) dJ/\σ_ 17=.pointer (some ⟨af,0,none⟩)/\σ_ 18=.pointer (some ⟨af,0,none⟩)/\σ_ 19=.pointer (some ⟨af,4,none⟩)/\σ_ 20=.map (some O)/\σ_ 21=jV (↑(p0.number.length):Int)/\σ_ 22=.slice cu aq.length cN/\σ_ 23=.slice cw ([-1].length) cO/\σ_ 24=.pointer (some ⟨af,0,none⟩)/\σ_ 25=.pointer (some ⟨af,0,none⟩)/\σ_ 26=.pointer (some ⟨af,4,none⟩)/\σ_ 27=.map (some O)/\σ_ 28=jV (↑(p0.number.length):Int)/\PHeap.Le U U_/\SW w [B1,.obj O (.map ab ac)] U U_ [.blk b4 88 B0,B1,.obj O (.map ab ac),.blk bT 88 B0,.row cu cN 3 1 (hD KL.encI aq),.row cw cO 3 1 (hD KL.encI [-1])] w_/\Sl U_ 1 dq dJ [1125899906842624].length (hD KL.encI [1125899906842624])) ?_ fun dX=>?_
 rintro xT gK ⟨v9,bT,dq,dJ,cu,cN,cw,cO,pN,pO,pP,pQ,pR,pS,pT,pU,pV,pW,pX,pY,ja,pZ,p5,p6,p7,jb,vL,t5,r9⟩
 have q:=t5.freezeR (k:=5) (n:=[-1].length) rfl (wAG (f:=KL.encI) (sz:=1) (fun _=>rfl) [-1]) (by decide)
 obtain ⟨ga,lR,lv,t6⟩:=q
 let B4:Res:=.row cu cN 3 1 (hD KL.encI aq)
 have t7:SW w [B1,.obj O (.map ab ac)] U ga [.blk b4 88 B0,B1,.obj O (.map ab ac),.blk bT 88 B0,B4] gK:=t6
 refine zL 0 Z Z Z Z (zK Z Z Try.call46 (zB ja (zB jb zQ)) Z) t7 (fun hs=>wAh [-1] cw cO (↑(p0.number.length):Int) gK ga hs lv dV) (.inr Z) ?_
 rintro gb v2 xv my fy t8 ⟨fH,ie,rfl,rfl⟩
 have t9:SW w [B1,.obj O (.map ab ac)] U gb [.row fH ie 3 1 (hD KL.encI aG),.blk b4 88 B0,B1,.obj O (.map ab ac),.blk bT 88 B0,B4] my:=t8
 have sa:=r9.le lR
 have sc:=sa.le fy
 have sd:=lv.le fy
 exact lH _ _ ⟨gb,bT,dq,dJ,cu,cN,cw,cO,fH,ie,pN,pO,pP,pQ,pR,pS,pT,pU,pV,pW,pX,pY,ja,pZ,p5,p6,p7,jb,rfl,((vL.trans lR).trans fy),(t9.pick [1,2,3,4,5,0] _ (by decide) rfl),sc,sd⟩
 refine ZQ (s:=gBt) (M:=fun σ_ w_=>∃ (U_:PHeap) (dr:Option Addr) (dK:Nat) (bN:Option Addr) (ca:Nat) (dt:Option Addr) (dL:Nat) (bO:Option Addr) (cb:Nat),σ_ 0=.pointer (some ⟨af,0,none⟩)/\σ_ 1=jV p1/\σ_ 2=.bool p2/\σ_ 6=.pointer (some ⟨b4,0,none⟩)/\σ_ 16=.slice dr ([1125899906842624].length) dK/\σ_ 17=.pointer (some ⟨af,0,none⟩)/\σ_ 18=.pointer (some ⟨af,0,none⟩)/\σ_ 19=.pointer (some ⟨af,4,none⟩)/\σ_ 20=.map (some O)/\σ_ 21=jV (↑(p0.number.length):Int)/\σ_ 22=.slice bN aq.length ca/\σ_ 23=.slice dt ([-1].length) dL/\σ_ 24=.pointer (some ⟨af,0,none⟩)/\σ_ 25=.pointer (some ⟨af,0,none⟩)/\σ_ 26=.pointer (some ⟨af,4,none⟩)/\σ_ 27=.map (some O)/\σ_ 28=jV (↑(p0.number.length):Int)/\σ_ 29=.slice bO aG.length cb/\PHeap.Le U U_/\SW w [B1,.obj O (.map ab ac)] U U_ [.blk b4 88 B0,B1,.obj O (.map ab ac),.row bN ca 3 1 (hD KL.encI aq),.row bO cb 3 1 (hD KL.encI aG)] w_/\Sl U_ 1 dr dK [1125899906842624].length (hD KL.encI [1125899906842624])/\Sl U_ 1 dt dL [-1].length (hD KL.encI [-1])) ?_ fun lI=>?_
 rintro xU wz ⟨me,dr,dK,bN,ca,dt,dL,bO,cb,p8,p9,qa,qb,qc,qd,qe,qf,qh,qi,jc,qj,qk,qm,qn,qo,qp,jd,vM,ua,se,sf⟩
 refine oR Z (zq (pv:=[(0,.slice bN aq.length ca),(1,.slice bO aG.length cb)]) (z:=B0) (cs:=[.slice bN aq.length ca,.slice bO aG.length cb]) Z (wAC jc (wAC jd wAR)) Zd wHj Z Z) (zY (cs:=B0) Z Z Z Z Z Zd Z ua ?_)
 intro wA mI ub
 exact vx _ _ ⟨me,mI,dr,dK,bN,ca,dt,dL,bO,cb,p8,p9,qa,qb,rfl,qc,qd,qe,qf,qh,qi,jc,qj,qk,qm,qn,qo,qp,jd,rfl,vM,(ub.pick [1,2,3,0,4,5] _ (by decide) rfl),se,sf⟩
 refine ZQ (s:=.fl 12 gBu) (M:=fun σ_ w_=>∃ (U_:PHeap) (bU:Nat) (du:Option Addr) (dM:Nat) (cx:Option Addr) (cP:Nat) (cy:Option Addr) (cQ:Nat),σ_ 0=.pointer (some ⟨af,0,none⟩)/\σ_ 1=jV p1/\σ_ 2=.bool p2/\σ_ 6=.pointer (some ⟨b4,0,none⟩)/\σ_ 9=.pointer (some ⟨bU,0,none⟩)/\σ_ 16=.slice du ([1125899906842624].length) dM/\σ_ 17=.pointer (some ⟨af,0,none⟩)/\σ_ 18=.pointer (some ⟨af,0,none⟩)/\σ_ 19=.pointer (some ⟨af,4,none⟩)/\σ_ 20=.map (some O)/\σ_ 21=jV (↑(p0.number.length):Int)/\σ_ 22=.slice cx aq.length cP/\σ_ 23=.slice cy ([-1].length) cQ/\σ_ 24=.pointer (some ⟨af,0,none⟩)/\σ_ 25=.pointer (some ⟨af,0,none⟩)/\σ_ 26=.pointer (some ⟨af,4,none⟩)/\σ_ 27=.map (some O)/\PHeap.Le U U_/\SW w [B1,.obj O (.map ab ac)] U U_ [.blk b4 88 B0,B1,.obj O (.map ab ac),.blk bU 88 B0,.row cx cP 3 1 (hD KL.encI aq),.row cy cQ 3 1 (hD KL.encI [-1])] w_/\Sl U_ 1 du dM [1125899906842624].length (hD KL.encI [1125899906842624])) ?_ fun vy=>?_
 rintro xV gL ⟨wa,bU,du,dM,cx,cP,cy,cQ,qq,qr,qs,qt,qu,qv,qw,qx,qy,qz,qA,qB,je,qC,qD,qE,jf,vN,k7,sg⟩
 refine oL Z (k7.lenM (j:=2) (mk:=wCX) (mv:=wCj) Z Z jf (wBY ZG) cr) ?_
 have q:=k7.freezeR (k:=5) (n:=[-1].length) rfl (wAG (f:=KL.encI) (sz:=1) (fun _=>rfl) [-1]) (by decide)
 obtain ⟨ge,lS,lw,uc⟩:=q
 let B5:Res:=.row cx cP 3 1 (hD KL.encI aq)
 have ud:SW w [B1,.obj O (.map ab ac)] U ge [.blk b4 88 B0,B1,.obj O (.map ab ac),.blk bU 88 B0,B5] gL:=uc
 refine zL 0 Z Z Z Z (zK Z Z Try.call46 (zB je (zB Z zQ)) Z) ud (fun hs=>wAh [-1] cy cQ (↑(p0.number.length):Int) gL ge hs lw dV) (.inr Z) ?_
 rintro gf v3 xw mz fz ue ⟨fI,ig,rfl,rfl⟩
 have uf:SW w [B1,.obj O (.map ab ac)] U gf [.row fI ig 3 1 (hD KL.encI aG),.blk b4 88 B0,B1,.obj O (.map ab ac),.blk bU 88 B0,B5] mz:=ue
 have sh:=sg.le lS
 have sj:=sh.le fz
 have sk:=lw.le fz
 exact lH _ _ ⟨gf,bU,du,dM,cx,cP,cy,cQ,fI,ig,qq,qr,qs,qt,qu,qv,qw,qx,qy,qz,qA,qB,je,qC,qD,qE,jf,rfl,rfl,((vN.trans lS).trans fz),(uf.pick [1,2,3,4,5,0] _ (by decide) rfl),sj,sk⟩
 refine ZQ (s:=.fl 12 gCd) (M:=fun σ_ w_=>∃ (U_:PHeap) (cL:Nat) (dv:Option Addr) (dN:Nat) (cz:Option Addr) (cR:Nat),σ_ 0=.pointer (some ⟨af,0,none⟩)/\σ_ 1=jV p1/\σ_ 2=.bool p2/\σ_ 6=.pointer (some ⟨b4,0,none⟩)/\σ_ 9=.pointer (some ⟨cL,0,none⟩)/\σ_ 16=.slice dv ([1125899906842624].length) dN/\σ_ 17=.pointer (some ⟨af,0,none⟩)/\σ_ 18=.pointer (some ⟨af,0,none⟩)/\σ_ 19=.pointer (some ⟨af,4,none⟩)/\σ_ 20=.map (some O)/\σ_ 21=jV (↑(p0.number.length):Int)/\σ_ 22=.slice cz aq.length cR/\σ_ 24=.pointer (some ⟨af,0,none⟩)/\σ_ 25=.pointer (some ⟨af,0,none⟩)/\σ_ 26=.pointer (some ⟨af,4,none⟩)/\σ_ 27=.map (some O)/\PHeap.Le U U_/\SW w [B1,.obj O (.map ab ac)] U U_ [.blk b4 88 B0,B1,.obj O (.map ab ac),.blk cL 88 B0,.row cz cR 3 1 (hD KL.encI aq)] w_/\Sl U_ 1 dv dN [1125899906842624].length (hD KL.encI [1125899906842624])) ?_ fun vz=>?_
 rintro xW wC ⟨gg,cL,dv,dN,cz,cR,qF,qG,qH,qI,qJ,qK,qL,qM,qN,qO,qP,qQ,qR,qS,qT,jg,vO,k9,sl⟩
 refine oL Z (k9.lenM (j:=2) (mk:=wCX) (mv:=wCj) Z Z jg (wBY ZG) cr) (ZF (pv:=[(0,jV (-1))]) (zs:=[jV 0]) (cs:=[jV (-1)]) Z Z Z Z Z (wAC Z wAR) zD zC ZN Z Z Z Z Z k9 ?_)
 intro mA gW ug
 have uh:SW w [B1,.obj O (.map ab ac)] U gg [.row (some ⟨gW,0,none⟩) 1 3 1 (hD KL.encI [-1]),.blk b4 88 B0,B1,.obj O (.map ab ac),.blk cL 88 B0,.row cz cR 3 1 (hD KL.encI aq)] mA:=ug
 exact dX _ _ ⟨gg,cL,dv,dN,cz,cR,(some ⟨gW,0,none⟩),1,qF,qG,qH,qI,qJ,qK,qL,qM,qN,qO,qP,qQ,rfl,qR,qS,qT,jg,rfl,vO,(uh.pick [1,2,3,4,5,0] _ (by decide) rfl),sl⟩
 refine ZQ (s:=gCl) (M:=fun σ_ w_=>∃ (U_:PHeap) (bV:Nat) (cA:Option Addr) (cS:Nat) (cB:Option Addr) (cU:Nat),σ_ 0=.pointer (some ⟨af,0,none⟩)/\σ_ 1=jV p1/\σ_ 2=.bool p2/\σ_ 6=.pointer (some ⟨b4,0,none⟩)/\σ_ 9=.pointer (some ⟨bV,0,none⟩)/\σ_ 16=.slice cA ([1125899906842624].length) cS/\σ_ 17=.pointer (some ⟨af,0,none⟩)/\σ_ 18=.pointer (some ⟨af,0,none⟩)/\σ_ 19=.pointer (some ⟨af,4,none⟩)/\σ_ 20=.map (some O)/\σ_ 21=jV (↑(p0.number.length):Int)/\σ_ 23=.slice cB ([-1].length) cU/\σ_ 24=.pointer (some ⟨af,0,none⟩)/\σ_ 25=.pointer (some ⟨af,0,none⟩)/\σ_ 26=.pointer (some ⟨af,4,none⟩)/\σ_ 27=.map (some O)/\PHeap.Le U U_/\SW w [B1,.obj O (.map ab ac)] U U_ [.blk b4 88 B0,B1,.obj O (.map ab ac),.blk bV 88 B0,.row cA cS 3 1 (hD KL.encI [1125899906842624]),.row cB cU 3 1 (hD KL.encI [-1])] w_) ?_ fun fk=>?_
 rintro xX gM ⟨wb,bV,cA,cS,cB,cU,qU,qV,qW,qX,qY,jh,qZ,q5,q6,q7,ji,q8,q9,rc,rd,re,vP,ui⟩
 have q:=ui.freezeR (k:=4) (n:=[1125899906842624].length) rfl (wAG (f:=KL.encI) (sz:=1) (fun _=>rfl) [1125899906842624]) (by decide)
 obtain ⟨gh,vQ,lx,uj⟩:=q
 let B6:Res:=.row cB cU 3 1 (hD KL.encI [-1])
 have uk:SW w [B1,.obj O (.map ab ac)] U gh [.blk b4 88 B0,B1,.obj O (.map ab ac),.blk bV 88 B0,B6] gM:=uj
 refine zL 0 Z Z Z Z (zK Z Z Try.call46 (zB jh (zB ji zQ)) Z) uk (fun hs=>wAh [1125899906842624] cA cS (↑(p0.number.length):Int) gM gh hs lx dU) (.inr Z) ?_
 rintro gi v4 xx mB lT ul ⟨fJ,ii,rfl,rfl⟩
 have um:SW w [B1,.obj O (.map ab ac)] U gi [.row fJ ii 3 1 (hD KL.encI aq),.blk b4 88 B0,B1,.obj O (.map ab ac),.blk bV 88 B0,B6] mB:=ul
 have sm:=lx.le lT
 exact vy _ _ ⟨gi,bV,cA,cS,fJ,ii,cB,cU,qU,qV,qW,qX,qY,jh,qZ,q5,q6,q7,ji,rfl,q8,q9,rc,rd,re,((vP.trans vQ).trans lT),(um.pick [1,2,3,4,0,5] _ (by decide) rfl),sm⟩
 refine ZQ (s:=.fl 12 gCk) (M:=fun σ_ w_=>∃ (U_:PHeap) (cC:Option Addr) (cV:Nat) (bP:Option Addr) (cc:Nat) (bQ:Option Addr) (cd:Nat),σ_ 0=.pointer (some ⟨af,0,none⟩)/\σ_ 1=jV p1/\σ_ 2=.bool p2/\σ_ 6=.pointer (some ⟨b4,0,none⟩)/\σ_ 16=.slice cC ([1125899906842624].length) cV/\σ_ 17=.pointer (some ⟨af,0,none⟩)/\σ_ 18=.pointer (some ⟨af,0,none⟩)/\σ_ 19=.pointer (some ⟨af,4,none⟩)/\σ_ 20=.map (some O)/\σ_ 21=jV (↑(p0.number.length):Int)/\σ_ 22=.slice bP aq.length cc/\σ_ 23=.slice bQ ([-1].length) cd/\σ_ 24=.pointer (some ⟨af,0,none⟩)/\σ_ 25=.pointer (some ⟨af,0,none⟩)/\σ_ 26=.pointer (some ⟨af,4,none⟩)/\σ_ 27=.map (some O)/\PHeap.Le U U_/\SW w [B1,.obj O (.map ab ac)] U U_ [.blk b4 88 B0,B1,.obj O (.map ab ac),.row bP cc 3 1 (hD KL.encI aq),.row bQ cd 3 1 (hD KL.encI [-1])] w_/\Sl U_ 1 cC cV [1125899906842624].length (hD KL.encI [1125899906842624])) ?_ fun vA=>?_
 rintro xY gN ⟨mf,cC,cV,bP,cc,bQ,cd,jj,jk,jl,jm,jo,jp,jq,jr,jt,ju,jv,eM,jw,jx,jy,eO,lU,e7,jO⟩
 refine oL Z (e7.lenM (j:=2) (mk:=wCX) (mv:=wCj) Z Z eO (wBY ZG) cr) (zo ?_ ?_)
 have q:=e7.freezeR (k:=4) (n:=[-1].length) rfl (wAG (f:=KL.encI) (sz:=1) (fun _=>rfl) [-1]) (by decide)
 obtain ⟨gj,lV,ly,un⟩:=q
 let B7:Res:=.row bP cc 3 1 (hD KL.encI aq)
 have uo:SW w [B1,.obj O (.map ab ac)] U gj [.blk b4 88 B0,B1,.obj O (.map ab ac),B7] gN:=un
 refine zL 0 Z Z Z Z (zK Z Z Try.call46 (zB eM (zB Z zQ)) Z) uo (fun hs=>wAh [-1] bQ cd (↑(p0.number.length):Int) gN gj hs ly dV) (.inr Z) ?_
 rintro gk v5 xz mC fA up ⟨fK,ij,rfl,rfl⟩
 have uq:SW w [B1,.obj O (.map ab ac)] U gk [.row fK ij 3 1 (hD KL.encI aG),.blk b4 88 B0,B1,.obj O (.map ab ac),B7] mC:=up
 have sn:=jO.le lV
 have so:=sn.le fA
 have sq:=ly.le fA
 exact lI _ _ ⟨gk,cC,cV,bP,cc,bQ,cd,fK,ij,jj,jk,jl,jm,jo,jp,jq,jr,jt,ju,jv,eM,jw,jx,jy,eO,rfl,rfl,((lU.trans lV).trans fA),(uq.pick [1,2,3,4,0] _ (by decide) rfl),so,sq⟩
 refine zY (cs:=B0) Z Z Z Z Z Zd Z e7 ?_
 intro wD mJ ur
 exact dX _ _ ⟨mf,mJ,cC,cV,bP,cc,bQ,cd,jj,jk,jl,jm,rfl,jo,jp,jq,jr,jt,ju,jv,eM,jw,jx,jy,eO,rfl,lU,(ur.pick [1,2,3,0,4,5] _ (by decide) rfl),jO⟩
 refine ZQ (s:=gCp) (M:=fun σ_ w_=>∃ (U_:PHeap) (cM:Nat) (cD:Option Addr) (cW:Nat),σ_ 0=.pointer (some ⟨af,0,none⟩)/\σ_ 1=jV p1/\σ_ 2=.bool p2/\σ_ 6=.pointer (some ⟨b4,0,none⟩)/\σ_ 9=.pointer (some ⟨cM,0,none⟩)/\σ_ 17=.pointer (some ⟨af,0,none⟩)/\σ_ 18=.pointer (some ⟨af,0,none⟩)/\σ_ 19=.pointer (some ⟨af,4,none⟩)/\σ_ 20=.map (some O)/\σ_ 21=jV (↑(p0.number.length):Int)/\σ_ 23=.slice cD ([-1].length) cW/\σ_ 24=.pointer (some ⟨af,0,none⟩)/\σ_ 25=.pointer (some ⟨af,0,none⟩)/\σ_ 26=.pointer (some ⟨af,4,none⟩)/\σ_ 27=.map (some O)/\PHeap.Le U U_/\SW w [B1,.obj O (.map ab ac)] U U_ [.blk b4 88 B0,B1,.obj O (.map ab ac),.blk cM 88 B0,.row cD cW 3 1 (hD KL.encI [-1])] w_) ?_ fun lJ=>?_
 rintro xZ wE ⟨gm,cM,cD,cW,rf,rh,ri,rj,rk,rn,ro,rp,rq,rv,rx,ry,rz,rA,rB,vR,ut⟩
 refine ZF (pv:=[(0,jV 1125899906842624)]) (zs:=[jV 0]) (cs:=[jV 1125899906842624]) Z Z Z Z Z (wAC Z wAR) zD zC ZN Z Z Z Z Z ut ?_
 intro mD gX uu
 have uv:SW w [B1,.obj O (.map ab ac)] U gm [.row (some ⟨gX,0,none⟩) 1 3 1 (hD KL.encI [1125899906842624]),.blk b4 88 B0,B1,.obj O (.map ab ac),.blk cM 88 B0,.row cD cW 3 1 (hD KL.encI [-1])] mD:=uu
 exact fk _ _ ⟨gm,cM,(some ⟨gX,0,none⟩),1,cD,cW,rf,rh,ri,rj,rk,rfl,rn,ro,rp,rq,rv,rx,ry,rz,rA,rB,vR,(uv.pick [1,2,3,4,0,5] _ (by decide) rfl)⟩
 refine ZQ (s:=gCw) (M:=fun σ_ w_=>∃ (U_:PHeap) (bj:Nat) (br:Option Addr) (bD:Nat),σ_ 0=.pointer (some ⟨af,0,none⟩)/\σ_ 1=jV p1/\σ_ 2=.bool p2/\σ_ 6=.pointer (some ⟨b4,0,none⟩)/\σ_ 9=.pointer (some ⟨bj,0,none⟩)/\σ_ 16=.slice br ([1125899906842624].length) bD/\σ_ 17=.pointer (some ⟨af,0,none⟩)/\σ_ 18=.pointer (some ⟨af,0,none⟩)/\σ_ 19=.pointer (some ⟨af,4,none⟩)/\σ_ 20=.map (some O)/\σ_ 21=jV (↑(p0.number.length):Int)/\σ_ 24=.pointer (some ⟨af,0,none⟩)/\σ_ 25=.pointer (some ⟨af,0,none⟩)/\σ_ 26=.pointer (some ⟨af,4,none⟩)/\σ_ 27=.map (some O)/\PHeap.Le U U_/\SW w [B1,.obj O (.map ab ac)] U U_ [.blk b4 88 B0,B1,.obj O (.map ab ac),.blk bj 88 B0,.row br bD 3 1 (hD KL.encI [1125899906842624])] w_) ?_ fun lK=>?_
 rintro x8 gO ⟨gp,bj,br,bD,jz,jA,jB,jC,jD,eQ,jE,jF,jG,jH,eT,jI,jJ,jK,jL,lW,lb⟩
 refine zo ?_ ?_
 have q:=lb.freezeR (k:=4) (n:=[1125899906842624].length) rfl (wAG (f:=KL.encI) (sz:=1) (fun _=>rfl) [1125899906842624]) (by decide)
 obtain ⟨gq,vS,lA,uw⟩:=q
 have ux:SW w [B1,.obj O (.map ab ac)] U gq [.blk b4 88 B0,B1,.obj O (.map ab ac),.blk bj 88 B0] gO:=uw
 refine zL 0 Z Z Z Z (zK Z Z Try.call46 (zB eQ (zB eT zQ)) Z) ux (fun hs=>wAh [1125899906842624] br bD (↑(p0.number.length):Int) gO gq hs lA dU) (.inr Z) ?_
 rintro fT vW xq mg lL su ⟨fD,g6,rfl,rfl⟩
 have sv:SW w [B1,.obj O (.map ab ac)] U fT [.row fD g6 3 1 (hD KL.encI aq),.blk b4 88 B0,B1,.obj O (.map ab ac),.blk bj 88 B0] mg:=su
 have rF:=lA.le lL
 exact vz _ _ ⟨fT,bj,br,bD,fD,g6,jz,jA,jB,jC,jD,eQ,jE,jF,jG,jH,eT,rfl,jI,jJ,jK,jL,((lW.trans vS).trans lL),(sv.pick [1,2,3,4,0] _ (by decide) rfl),rF⟩
 refine ZF (pv:=[(0,jV (-1))]) (zs:=[jV 0]) (cs:=[jV (-1)]) Z Z Z Z Z (wAC Z wAR) zD zC ZN Z Z Z Z Z lb ?_
 intro mh gP sw
 have sA:SW w [B1,.obj O (.map ab ac)] U gp [.row (some ⟨gP,0,none⟩) 1 3 1 (hD KL.encI [-1]),.blk b4 88 B0,B1,.obj O (.map ab ac),.blk bj 88 B0,.row br bD 3 1 (hD KL.encI [1125899906842624])] mh:=sw
 exact fk _ _ ⟨gp,bj,br,bD,(some ⟨gP,0,none⟩),1,jz,jA,jB,jC,jD,eQ,jE,jF,jG,jH,eT,rfl,jI,jJ,jK,jL,lW,(sA.pick [1,2,3,4,5,0] _ (by decide) rfl)⟩
 refine ZQ (s:=gCv) (M:=fun σ_ w_=>∃ (U_:PHeap) (bJ:Option Addr) (bW:Nat) (bK:Option Addr) (bX:Nat),σ_ 0=.pointer (some ⟨af,0,none⟩)/\σ_ 1=jV p1/\σ_ 2=.bool p2/\σ_ 6=.pointer (some ⟨b4,0,none⟩)/\σ_ 16=.slice bJ ([1125899906842624].length) bW/\σ_ 17=.pointer (some ⟨af,0,none⟩)/\σ_ 18=.pointer (some ⟨af,0,none⟩)/\σ_ 19=.pointer (some ⟨af,4,none⟩)/\σ_ 20=.map (some O)/\σ_ 21=jV (↑(p0.number.length):Int)/\σ_ 23=.slice bK ([-1].length) bX/\σ_ 24=.pointer (some ⟨af,0,none⟩)/\σ_ 25=.pointer (some ⟨af,0,none⟩)/\σ_ 26=.pointer (some ⟨af,4,none⟩)/\σ_ 27=.map (some O)/\PHeap.Le U U_/\SW w [B1,.obj O (.map ab ac)] U U_ [.blk b4 88 B0,B1,.obj O (.map ab ac),.row bJ bW 3 1 (hD KL.encI [1125899906842624]),.row bK bX 3 1 (hD KL.encI [-1])] w_) ?_ fun lF=>?_
 rintro xF gt ⟨l6,bJ,bW,bK,bX,ik,il,im,io,eF,ip,iq,ir,it,eG,iu,iv,iw,iz,iA,lM,jW⟩
 refine zo ?_ ?_
 have q:=jW.freezeR (k:=3) (n:=[1125899906842624].length) rfl (wAG (f:=KL.encI) (sz:=1) (fun _=>rfl) [1125899906842624]) (by decide)
 obtain ⟨fU,vB,lq,sB⟩:=q
 let B8:Res:=.row bK bX 3 1 (hD KL.encI [-1])
 have sC:SW w [B1,.obj O (.map ab ac)] U fU [.blk b4 88 B0,B1,.obj O (.map ab ac),B8] gt:=sB
 refine zL 0 Z Z Z Z (zK Z Z Try.call46 (zB eF (zB eG zQ)) Z) sC (fun hs=>wAh [1125899906842624] bJ bW (↑(p0.number.length):Int) gt fU hs lq dU) (.inr Z) ?_
 rintro fV vX xr mi lN sD ⟨fE,g7,rfl,rfl⟩
 have sE:SW w [B1,.obj O (.map ab ac)] U fV [.row fE g7 3 1 (hD KL.encI aq),.blk b4 88 B0,B1,.obj O (.map ab ac),B8] mi:=sD
 have rG:=lq.le lN
 exact vA _ _ ⟨fV,bJ,bW,fE,g7,bK,bX,ik,il,im,io,eF,ip,iq,ir,it,eG,rfl,iu,iv,iw,iz,iA,((lM.trans vB).trans lN),(sE.pick [1,2,3,0,4] _ (by decide) rfl),rG⟩
 refine zY (cs:=B0) Z Z Z Z Z Zd Z jW ?_
 intro wc mE sF
 exact fk _ _ ⟨l6,mE,bJ,bW,bK,bX,ik,il,im,io,rfl,eF,ip,iq,ir,it,eG,iu,iv,iw,iz,iA,lM,(sF.pick [1,2,3,0,4,5] _ (by decide) rfl)⟩
 refine oM Z Z (oR Z (ZY Z Z) (oR Z (zI Z Z ZH Z Zr) (oL Z (bI.ldB (j:=1) Z Z Z Zu (v:=.map (some O)) Z) (oL Z (bI.lenM (j:=2) (mk:=wCX) (mv:=wCj) Z Z Z (wBY ZG) cr) (oM Z Z (oR Z (ZY Z Z) (oR Z (zI Z Z ZH Z Zr) (oL Z (bI.ldB (j:=1) Z Z Z Zu (v:=.map (some O)) Z) (zo ?_ ?_)))))))))
 refine ZF (pv:=[(0,jV 1125899906842624)]) (zs:=[jV 0]) (cs:=[jV 1125899906842624]) Z Z Z Z Z (wAC Z wAR) zD zC ZN Z Z Z Z Z bI ?_
 intro eh bx sG
 let B9:Res:=.row (some ⟨bx,0,none⟩) 1 3 1 (hD KL.encI [1125899906842624])
 have eV:SW w [B1,.obj O (.map ab ac)] U U [B9,.blk b4 88 B0,B1,.obj O (.map ab ac)] eh:=sG
 refine zo ?_ ?_
 have q:=eV.freezeR (k:=0) (n:=[1125899906842624].length) rfl (wAG (f:=KL.encI) (sz:=1) (fun _=>rfl) [1125899906842624]) (by decide)
 obtain ⟨fW,ft,dW,sH⟩:=q
 have sI:SW w [B1,.obj O (.map ab ac)] U fW [.blk b4 88 B0,B1,.obj O (.map ab ac)] eh:=sH
 refine zL 0 Z Z Z Z (zK Z Z Try.call46 (zB Z (zB Z zQ)) Z) sI (fun hs=>wAh [1125899906842624] (some ⟨bx,0,none⟩) 1 (↑(p0.number.length):Int) eh fW hs dW dU) (.inr Z) ?_
 rintro cI vY xt mj ct sJ ⟨dk,dE,rfl,rfl⟩
 let cE:Res:=.row dk dE 3 1 (hD KL.encI aq)
 have eW:SW w [B1,.obj O (.map ab ac)] U cI [cE,.blk b4 88 B0,B1,.obj O (.map ab ac)] mj:=sJ
 refine oL Z (eW.lenM (j:=3) (mk:=wCX) (mv:=wCj) Z Z Z (wBY ZG) cr) (zo ?_ ?_)
 refine ZF (pv:=[(0,jV (-1))]) (zs:=[jV 0]) (cs:=[jV (-1)]) Z Z Z Z Z (wAC Z wAR) zD zC ZN Z Z Z Z Z eW ?_
 intro ej dB sK
 have jX:SW w [B1,.obj O (.map ab ac)] U cI [.row (some ⟨dB,0,none⟩) 1 3 1 (hD KL.encI [-1]),cE,.blk b4 88 B0,B1,.obj O (.map ab ac)] ej:=sK
 refine zo ?_ ?_
 have q:=jX.freezeR (k:=0) (n:=[-1].length) rfl (wAG (f:=KL.encI) (sz:=1) (fun _=>rfl) [-1]) (by decide)
 obtain ⟨fY,lO,lu,sL⟩:=q
 have sM:SW w [B1,.obj O (.map ab ac)] U fY [cE,.blk b4 88 B0,B1,.obj O (.map ab ac)] ej:=sL
 refine zL 0 Z Z Z Z (zK Z Z Try.call46 (zB Z (zB Z zQ)) Z) sM (fun hs=>wAh [-1] (some ⟨dB,0,none⟩) 1 (↑(p0.number.length):Int) ej fY hs lu dV) (.inr Z) ?_
 rintro fZ vZ xu ml fu sN ⟨fG,g8,rfl,rfl⟩
 have sO:SW w [B1,.obj O (.map ab ac)] U fZ [.row fG g8 3 1 (hD KL.encI aG),cE,.blk b4 88 B0,B1,.obj O (.map ab ac)] ml:=sN
 have rH:=dW.le ct
 have rI:=rH.le lO
 have rJ:=rI.le fu
 have rK:=lu.le fu
 exact lI _ _ ⟨fZ,(some ⟨bx,0,none⟩),1,dk,dE,(some ⟨dB,0,none⟩),1,fG,g8,rfl,rfl,rfl,rfl,rfl,rfl,rfl,rfl,rfl,rfl,rfl,rfl,rfl,rfl,rfl,rfl,rfl,rfl,(((ft.trans ct).trans lO).trans fu),(sO.pick [2,3,4,1,0] _ (by decide) rfl),rJ,rK⟩
 refine zY (cs:=B0) Z Z Z Z Z Zd Z jX ?_
 intro wd mF sP
 have rL:=dW.le ct
 exact dX _ _ ⟨cI,mF,(some ⟨bx,0,none⟩),1,dk,dE,(some ⟨dB,0,none⟩),1,rfl,rfl,rfl,rfl,rfl,rfl,rfl,rfl,rfl,rfl,rfl,rfl,rfl,rfl,rfl,rfl,rfl,rfl,(ft.trans ct),(sP.pick [3,4,5,0,2,1] _ (by decide) rfl),rL⟩
 refine zY (cs:=B0) Z Z Z Z Z Zd Z eW ?_
 intro we gQ sQ
 refine ZF (pv:=[(0,jV (-1))]) (zs:=[jV 0]) (cs:=[jV (-1)]) Z Z Z Z Z (wAC Z wAR) zD zC ZN Z Z Z Z Z sQ ?_
 intro mm gR sS
 have sT:SW w [B1,.obj O (.map ab ac)] U cI [.row (some ⟨gR,0,none⟩) 1 3 1 (hD KL.encI [-1]),.blk gQ 88 B0,cE,.blk b4 88 B0,B1,.obj O (.map ab ac)] mm:=sS
 have rM:=dW.le ct
 exact dX _ _ ⟨cI,gQ,(some ⟨bx,0,none⟩),1,dk,dE,(some ⟨gR,0,none⟩),1,rfl,rfl,rfl,rfl,rfl,rfl,rfl,rfl,rfl,rfl,rfl,rfl,rfl,rfl,rfl,rfl,rfl,rfl,(ft.trans ct),(sT.pick [3,4,5,1,2,0] _ (by decide) rfl),rM⟩
 refine zo ?_ ?_
 refine ZF (pv:=[(0,jV (-1))]) (zs:=[jV 0]) (cs:=[jV (-1)]) Z Z Z Z Z (wAC Z wAR) zD zC ZN Z Z Z Z Z eV ?_
 intro mn gS sU
 have sV:SW w [B1,.obj O (.map ab ac)] U U [.row (some ⟨gS,0,none⟩) 1 3 1 (hD KL.encI [-1]),B9,.blk b4 88 B0,B1,.obj O (.map ab ac)] mn:=sU
 exact lF _ _ ⟨U,(some ⟨bx,0,none⟩),1,(some ⟨gS,0,none⟩),1,rfl,rfl,rfl,rfl,rfl,rfl,rfl,rfl,rfl,rfl,rfl,rfl,rfl,rfl,rfl,(zM _),(sV.pick [2,3,4,1,0] _ (by decide) rfl)⟩
 refine zY (cs:=B0) Z Z Z Z Z Zd Z eV ?_
 intro wg mG sX
 exact lK _ _ ⟨U,mG,(some ⟨bx,0,none⟩),1,rfl,rfl,rfl,rfl,rfl,rfl,rfl,rfl,rfl,rfl,rfl,rfl,rfl,rfl,rfl,(zM _),(sX.pick [2,3,4,0,1] _ (by decide) rfl)⟩
 refine zo ?_ ?_
 refine ZF (pv:=[(0,jV (-1))]) (zs:=[jV 0]) (cs:=[jV (-1)]) Z Z Z Z Z (wAC Z wAR) zD zC ZN Z Z Z Z Z bI ?_
 intro mo en sY
 let fL:Res:=.row (some ⟨en,0,none⟩) 1 3 1 (hD KL.encI [-1])
 have jY:SW w [B1,.obj O (.map ab ac)] U U [fL,.blk b4 88 B0,B1,.obj O (.map ab ac)] mo:=sY
 refine zo ?_ ?_
 refine ZF (pv:=[(0,jV 1125899906842624)]) (zs:=[jV 0]) (cs:=[jV 1125899906842624]) Z Z Z Z Z (wAC Z wAR) zD zC ZN Z Z Z Z Z jY ?_
 intro mp gT sZ
 have s6:SW w [B1,.obj O (.map ab ac)] U U [.row (some ⟨gT,0,none⟩) 1 3 1 (hD KL.encI [1125899906842624]),fL,.blk b4 88 B0,B1,.obj O (.map ab ac)] mp:=sZ
 exact lF _ _ ⟨U,(some ⟨gT,0,none⟩),1,(some ⟨en,0,none⟩),1,rfl,rfl,rfl,rfl,rfl,rfl,rfl,rfl,rfl,rfl,rfl,rfl,rfl,rfl,rfl,(zM _),(s6.pick [2,3,4,0,1] _ (by decide) rfl)⟩
 refine zY (cs:=B0) Z Z Z Z Z Zd Z jY ?_
 intro wh mH s7
 exact lJ _ _ ⟨U,mH,(some ⟨en,0,none⟩),1,rfl,rfl,rfl,rfl,rfl,rfl,rfl,rfl,rfl,rfl,rfl,rfl,rfl,rfl,rfl,(zM _),(s7.pick [2,3,4,0,1] _ (by decide) rfl)⟩
 refine zY (cs:=B0) Z Z Z Z Z Zd Z bI ?_
 intro wi dC jZ
 refine zo ?_ ?_
 refine ZF (pv:=[(0,jV 1125899906842624)]) (zs:=[jV 0]) (cs:=[jV 1125899906842624]) Z Z Z Z Z (wAC Z wAR) zD zC ZN Z Z Z Z Z jZ ?_
 intro mq gU s8
 have s9:SW w [B1,.obj O (.map ab ac)] U U [.row (some ⟨gU,0,none⟩) 1 3 1 (hD KL.encI [1125899906842624]),.blk dC 88 B0,.blk b4 88 B0,B1,.obj O (.map ab ac)] mq:=s8
 exact lK _ _ ⟨U,dC,(some ⟨gU,0,none⟩),1,rfl,rfl,rfl,rfl,rfl,rfl,rfl,rfl,rfl,rfl,rfl,rfl,rfl,rfl,rfl,(zM _),(s9.pick [2,3,4,1,0] _ (by decide) rfl)⟩
 refine ZF (pv:=[(0,jV (-1))]) (zs:=[jV 0]) (cs:=[jV (-1)]) Z Z Z Z Z (wAC Z wAR) zD zC ZN Z Z Z Z Z jZ ?_
 intro mr gV tc
 have td:SW w [B1,.obj O (.map ab ac)] U U [.row (some ⟨gV,0,none⟩) 1 3 1 (hD KL.encI [-1]),.blk dC 88 B0,.blk b4 88 B0,B1,.obj O (.map ab ac)] mr:=tc
 exact lJ _ _ ⟨U,dC,(some ⟨gV,0,none⟩),1,rfl,rfl,rfl,rfl,rfl,rfl,rfl,rfl,rfl,rfl,rfl,rfl,rfl,rfl,rfl,(zM _),(td.pick [2,3,4,1,0] _ (by decide) rfl)⟩
 rintro xG wj ⟨f4,b8,am,an,ao,ap,mO,mP,mQ,mR,iB,vC,j0⟩
 refine zJ (sR fL4 Z (oR Z (zI Z iB ZS Z ZE) (oL Z (j0.ldB (j:=3) Z Z Z ZI (v:=.slice am l9.length an) Z) (oR Z (ZB Z Z zD) (oM Z Z (eN (zU (bnK ln fun xD uB fj=>?_))))))))
 have q:=wBN uB
 obtain ⟨ff,uC⟩:=q
 replace ff:=zH ff
 let bt:Res:=.row ao ap 3 1 (hD KL.encI a8)
 refine CK.forN' (fun aZ aI σ_ w_=>∃ (U_:PHeap),σ_ 34=jV (↑aZ:Int)/\σ_ 0=.pointer (some ⟨af,0,none⟩)/\σ_ 1=jV p1/\σ_ 2=.bool p2/\σ_ 6=.pointer (some ⟨b4,0,none⟩)/\σ_ 9=.pointer (some ⟨b8,0,none⟩)/\σ_ 33=jV (↑l9.length:Int)/\PHeap.Le f4 U_/\SW w [B1,.obj O (.map ab ac)] U U_ [.blk b4 88 B0,B1,.obj O (.map ab ac),.row am an 3 1 (hD KL.encI aI),bt,.blk b8 88 [.slice am aI.length an,.slice ao a8.length ap]] w_/\aI.length=l9.length) uC ?_ ?_ ?_
 exact ⟨f4,rfl,mO,mP,mQ,mR,iB,rfl,(zM _),(j0.pick [0,1,2,4,5,3] _ (by decide) rfl),rfl⟩
 rintro aZ aI xA xH wk fb ⟨bw,c8,eH,cX,eI,eJ,cY,dO,fw,bH,eU⟩ lB
 have g9:Hid ((↑aZ:Int) < (↑l9.length:Int)):=zH (wBG fb)
 replace fb:=zH fb
 have e9:Hid (w64 ((↑aZ:Int) + 1)=(↑(aZ + 1):Int)):=zH (by have h1:=ff.out;have h2:=g9.out;rw [wAY] <;> omega)
 refine sR fL1 Z (oR Z (zO Z c8 dO) (eN (zJ (cT Z g9 (kN (zJ (zU (sR fL2 Z (oM Z c8 (oA Z Z (eN (sR fL7 Z (oM Z cX (oR Z (zO Z Z Z) (oM Z Z ?_)))))))))))))))
 by_cases aK:p1 < 0
 have lc:=lB;rw [if_pos aK] at lc;replace aK:=zH aK
 refine oT Z aK (oT Z aK (oT Z aK (oR Z (zk Z (ZW aK.out) Z) (eN (ZA Z (rR (wDL (.fx 4 .nil .stop)) Z (oR Z (zI Z cY ZS Z ZE) (oL Z (bH.ldB (j:=5) Z Z Z ZI (v:=.slice am aI.length an) Z) (oM Z Z (bnK lc fun _ dS u3=>?_))))))))))
 obtain ⟨wG,jP⟩:=bH.rowSome (j:=3) rfl (by rw [wAG (f:=KL.encI) (sz:=1) (fun _=>rfl) aI];have hz:=wAM dS;omega)
 refine oR Z (Zb Z Z jP Z zD zC (wAM dS)) ?_
 have uG:=wAk (xs:=aI) (wAM dS)
 refine yA (j:=3) (vs:=[jV 0]) (cs':=hD KL.encI (nE aI aZ 0)) rfl rfl rfl rfl bH rfl jP rfl rfl rfl zC (by rw [wAG (f:=KL.encI) (sz:=1) (fun _=>rfl)];have hz:=wAM dS;show _ + 1 <= _;first | omega | (simp only [nB];omega) | (simp only [nA,hH,hJ];omega)) rfl (wBf (sz:=1) (fo:=0) (fun _=>rfl) _ _ _ _ uG (by first | omega | (simp only [nB];omega) | (simp only [nA,hH,hJ];omega)) (zA rfl) rfl) rfl ?_
 intro gu te
 let d7:Res:=.row am an 3 1 (hD KL.encI (nE aI aZ 0))
 have tf:SW w [B1,.obj O (.map ab ac)] U bw [.blk b4 88 B0,B1,.obj O (.map ab ac),d7,bt,.blk b8 88 [.slice am aI.length an,.slice ao a8.length ap]] gu:=te
 have tg:SW w [B1,.obj O (.map ab ac)] U bw [.blk b4 88 B0,B1,.obj O (.map ab ac),d7,bt,.blk b8 88 [.slice am ((nE aI aZ 0).length) an,.slice ao a8.length ap]] gu:=by simpa only [B0,B1,bt,d7,nD] using tf
 refine zW (zd (zF (rR fL2 Z (oR Z (ZJ (zR Z c8 Z) (congrArg (jV) e9.out)) (oM Z Z (zW ?_))))))
 cases u3
 exact zF ⟨Z,⟨bw,Z,eH,cX,eI,eJ,cY,dO,fw,tg,(nD.trans eU)⟩⟩
 have lf:=lB;rw [if_neg aK] at lf;replace aK:=zH aK
 refine zN Z Z Z (wF Z aK) Z Z (zN Z Z Z (wF Z aK) Z cX (rU Z (wF Z aK) (Runs.eql Z Z Z) (oR Z (zm Z (zy aK.out) Z) (eN (ifc lf ?_ ?_)))))
 intro eo u4
 refine cT Z eo (rR (wDL (.fx 4 .nil .stop)) Z (oR Z (zI Z cY ZS Z ZE) (oL Z (bH.ldB (j:=5) Z Z Z ZI (v:=.slice am aI.length an) Z) (oM Z Z (bnK u4 fun _ dT u5=>?_)))))
 obtain ⟨wH,jQ⟩:=bH.rowSome (j:=3) rfl (by rw [wAG (f:=KL.encI) (sz:=1) (fun _=>rfl) aI];have hz:=wAM dT;omega)
 refine oR Z (Zb Z Z jQ Z zD zC (wAM dT)) ?_
 have uH:=wAk (xs:=aI) (wAM dT)
 refine yA (j:=3) (vs:=[jV 0]) (cs':=hD KL.encI (nE aI aZ 0)) rfl rfl rfl rfl bH rfl jQ rfl rfl rfl zC (by rw [wAG (f:=KL.encI) (sz:=1) (fun _=>rfl)];have hz:=wAM dT;show _ + 1 <= _;first | omega | (simp only [nB];omega) | (simp only [nA,hH,hJ];omega)) rfl (wBf (sz:=1) (fo:=0) (fun _=>rfl) _ _ _ _ uH (by first | omega | (simp only [nB];omega) | (simp only [nA,hH,hJ];omega)) (zA rfl) rfl) rfl ?_
 intro gv th
 let d8:Res:=.row am an 3 1 (hD KL.encI (nE aI aZ 0))
 have tj:SW w [B1,.obj O (.map ab ac)] U bw [.blk b4 88 B0,B1,.obj O (.map ab ac),d8,bt,.blk b8 88 [.slice am aI.length an,.slice ao a8.length ap]] gv:=th
 have tl:SW w [B1,.obj O (.map ab ac)] U bw [.blk b4 88 B0,B1,.obj O (.map ab ac),d8,bt,.blk b8 88 [.slice am ((nE aI aZ 0).length) an,.slice ao a8.length ap]] gv:=by simpa only [B0,B1,bt,d8,nD] using tj
 refine zW (zd (zF (rR fL2 Z (oR Z (ZJ (zR Z c8 Z) (congrArg (jV) e9.out)) (oM Z Z (zW ?_))))))
 cases u5
 exact zF ⟨Z,⟨bw,Z,eH,cX,eI,eJ,cY,dO,fw,tl,(nD.trans eU)⟩⟩
 intro eo u6
 refine cF Z eo (ZL (zd (zF (rR fL2 Z (oR Z (ZJ (zR Z c8 Z) (congrArg (jV) e9.out)) (oM Z Z (zW ?_)))))))
 cases u6
 exact zF ⟨Z,⟨bw,Z,eH,cX,eI,eJ,cY,dO,fw,bH,eU⟩⟩
 rintro xI wl ⟨f5,rC,iC,wP,mS,mT,mU,mV,vD,eX,rN⟩
 have mK:Hid (¬ ((↑(((↑l9.length:Int):Int) - 0).toNat:Int) < (↑l9.length:Int))):=zH (wAp)
 refine sR fL1 Z (oR Z (zO Z rC mV) (eN (zJ (cF Z mK (ZM (zc (zc (ZC (zF (sR fL1 Z (oA Z Z (eN (zJ (sR fL7 Z (oM Z iC (oR Z (ZY Z Z) (oR Z (zI Z Z ZH Z Zr) (oL Z (eX.ldB (j:=1) Z Z Z Zu (v:=.map (some O)) Z) (oL Z (eX.lenM (j:=2) (mk:=wCX) (mv:=wCj) Z Z Z (wBY ZG) cr) (oR Z (zR Z Z Z) (oM Z Z (eN (zU ?_)))))))))))))))))))))))
 have q:=wBx fj
 obtain ⟨xp,e8⟩:=q
 have q:=wBw e8
 obtain ⟨fg,uD⟩:=q
 replace fg:=zH fg
 refine yE (fun a7 (dY,dZ,lX) σ_ w_=>∃ (U_:PHeap),σ_ 55=jV (↑a7:Int)/\σ_ 0=.pointer (some ⟨af,0,none⟩)/\σ_ 2=.bool p2/\σ_ 6=.pointer (some ⟨b4,0,none⟩)/\σ_ 9=.pointer (some ⟨b8,0,none⟩)/\σ_ 11=jV lX/\σ_ 54=jV (w64 ((↑(p0.number.length):Int) + 1))/\PHeap.Le f5 U_/\SW w [B1,.obj O (.map ab ac)] U U_ [.blk b4 88 B0,B1,.obj O (.map ab ac),.row am an 3 1 (hD KL.encI dY),.row ao ap 3 1 (hD KL.encI dZ),.blk b8 88 [.slice am dY.length an,.slice ao dZ.length ap]] w_/\dY.length=l9.length/\dZ.length=a8.length) uD ?_ ?_ ?_
 exact ⟨f5,Z,iC,mS,mT,mU,Z,Z,(zM _),eX,rN,Z⟩
 rintro a7 ⟨dY,dZ,lX⟩ xB xJ wm fc ⟨f6,jM,iD,mW,mX,mY,wQ,iE,lP,j3,rO,rP⟩ lD uz
 try dsimp only at lD
 have ib:Hid ((↑a7:Int) < (w64 ((↑(p0.number.length):Int) + 1))):=zH (wBG fc)
 replace fc:=zH fc
 have uY:Hid (w64 ((↑a7:Int) + 1)=(↑(a7 + 1):Int)):=zH (by have h1:=fg.out;have h2:=ib.out;rw [wAY] <;> omega)
 refine sR fL1 Z (oR Z (zO Z jM iE) (eN (zJ (cT Z ib (kN (zJ (zU (sR fL1 Z (oA Z Z (eN (zJ (sR fL6 Z (oM Z iD (oR Z (ZY Z Z) (oR Z (zI Z Z ZH Z yT) (oL Z (j3.ldB (j:=1) Z Z Z Try.isAgg92 (v:=.slice aV p0.edges.length aW) Z) (oR Z (ZB Z Z Try.runUnderlying92) (oM Z Z (eN (zU ?_))))))))))))))))))))
 have q:=bnd lD
 obtain ⟨⟨lZ,l0,xE⟩,uE,lg⟩:=q
 try dsimp only at lg
 have q:=wBN uE
 obtain ⟨fh,uF⟩:=q
 replace fh:=zH fh
 refine CK.forN' (fun aE (ak,aw,lY) σ_ w_=>∃ (U_:PHeap),σ_ 62=jV (↑aE:Int)/\σ_ 0=.pointer (some ⟨af,0,none⟩)/\σ_ 2=.bool p2/\σ_ 6=.pointer (some ⟨b4,0,none⟩)/\σ_ 9=.pointer (some ⟨b8,0,none⟩)/\σ_ 11=jV lY/\σ_ 54=jV (w64 ((↑(p0.number.length):Int) + 1))/\σ_ 55=jV (↑a7:Int)/\σ_ 60=.slice aV p0.edges.length aW/\σ_ 61=jV (↑p0.edges.length:Int)/\PHeap.Le f6 U_/\SW w [B1,.obj O (.map ab ac)] U U_ [.blk b4 88 B0,B1,.obj O (.map ab ac),.row am an 3 1 (hD KL.encI ak),.row ao ap 3 1 (hD KL.encI aw),.blk b8 88 [.slice am ak.length an,.slice ao aw.length ap]] w_/\ak.length=l9.length/\aw.length=a8.length) uF ?_ ?_ ?_
 exact ⟨f6,Z,iD,mW,mX,mY,Z,iE,jM,Z,Z,(zM _),j3,rO,rP⟩
 rintro aE ⟨ak,aw,lY⟩ xC xK wn fd ⟨ay,bg,ci,bE,cj,aS,dP,cm,co,bF,bG,lQ,j4,cp,cq⟩ lE
 try dsimp only at lE
 have ic:Hid ((↑aE:Int) < (↑p0.edges.length:Int)):=zH (wBG fd)
 replace fd:=zH fd
 have uZ:Hid (w64 ((↑aE:Int) + 1)=(↑(aE + 1):Int)):=zH (by have h1:=fh.out;have h2:=ic.out;rw [wAY] <;> omega)
 refine sR fL1 Z (oR Z (zO Z bg bG) (eN (zJ (cT Z ic (kN ?_)))))
 have q:=bnd lE
 obtain ⟨⟨fm,fq,vU⟩,vt,li⟩:=q
 try dsimp only at li
 refine Zp (fun σ_ w_=>∃ (U_:PHeap),σ_ 0=.pointer (some ⟨af,0,none⟩)/\σ_ 2=.bool p2/\σ_ 6=.pointer (some ⟨b4,0,none⟩)/\σ_ 9=.pointer (some ⟨b8,0,none⟩)/\σ_ 11=jV vU/\σ_ 54=jV (w64 ((↑(p0.number.length):Int) + 1))/\σ_ 55=jV (↑a7:Int)/\σ_ 60=.slice aV p0.edges.length aW/\σ_ 61=jV (↑p0.edges.length:Int)/\σ_ 62=jV (↑aE:Int)/\PHeap.Le ay U_/\SW w [B1,.obj O (.map ab ac)] U U_ [.blk b4 88 B0,B1,.obj O (.map ab ac),.row am an 3 1 (hD KL.encI fm),.row ao ap 3 1 (hD KL.encI fq),.blk b8 88 [.slice am fm.length an,.slice ao fq.length ap]] w_/\fm.length=l9.length/\fq.length=a8.length) ?_ ?_
 refine zU (sR (wDt (.fx 3 (.fl 4 (.fx 5 .nil .stop)) .stop)) Z (oM Z bg (bnK vt fun aj jN u7=>?_)))
 have rQ:=uy.le vC
 have rS:=rQ.le vD
 have rT:=rS.le lP
 have rV:=rT.le lQ
 have q:=rV.el (fun _=>rfl) (wAr jN)
 obtain ⟨wI,xo,sr,ss⟩:=q
 refine oR Z (Zb Z bF sr bg Try.runUnderlying92 Try.sizeOf108 (wCz jN)) (oL Z (j4.ldCA (f:=0) ss Z Z Try.isAgg108 Try.sizeOf108 (us:=[jV aj.step.Kind,jV aj.step.Skier,jV aj.step.Index,.bool aj.step.Up,jV aj.from_,jV aj.to_,jV aj.count]) Z Z) (zY (cs:=[jV 0,jV 0,jV 0,.bool false,jV 0,jV 0,jV 0]) Z Z Z Z Z Try.zeroValue108 Z j4 ?_))
 intro wo aH tn
 refine oA Z Z ?_
 let ax:List Value:=[jV aj.step.Kind,jV aj.step.Skier,jV aj.step.Index,.bool aj.step.Up,jV aj.from_,jV aj.to_,jV aj.count]
 refine za (j:=0) (vs:=ax) Z Z Z Z tn Z Z Z Z Try.sizeOf108 (zA Z) Z Z Z ?_
 intro ek tp
 let aN:Res:=.row ao ap 3 1 (hD KL.encI aw)
 let bf:Res:=.blk b8 88 [.slice am ak.length an,.slice ao aw.length ap]
 have tq:SW w [B1,.obj O (.map ab ac)] U ay [.blk aH 108 ax,.blk b4 88 B0,B1,.obj O (.map ab ac),.row am an 3 1 (hD KL.encI ak),aN,bf] ek:=tp
 refine eN (zJ (zw zx [3,1,3,1,3,3] fL6 (by kernel_rfl) ?_))
 have c9:=tq.drew
 generalize hw_W1431:({ ek with drawn:=ek.drawn + 1 }:World)=dA at c9 ⊢
 refine oR Z (zI Z Z yH Z zC) (oL Z (c9.ldB (j:=0) Z Z Z zE (v:=jV aj.from_) Z) (oR Z (zI Z Z yH Z zC) (oL Z (c9.ldB (j:=0) Z Z Z zE (v:=jV aj.to_) Z) (oA Z Z (oA Z Z (eN (zJ (sR fL1 Z (oM Z bE (eN (ifc u7 ?_ ?_)))))))))))
 intro ep u9
 refine ZA (congrArg nI ep.out) (rR fL4 rfl (zN rfl rfl rfl rfl rfl rfl (zN rfl rfl rfl rfl rfl rfl (yF rfl rfl rfl rfl rfl rfl (yF rfl rfl rfl rfl rfl rfl (eN (zJ (zw zx [3,1,3,3,1,3,3,3,1,3,3,1,3,1,3,3,1,3,3,1,3,3] fL22 (by kernel_rfl) ?_))))))))
 have aT:=c9.drew
 generalize hw_W1435:({ dA with drawn:=dA.drawn + 1 }:World)=gw at aT ⊢
 refine oR Z (zI Z aS ZS Z ZE) (oL Z (aT.ldB (j:=6) Z Z Z ZI (v:=.slice am ak.length an) Z) (oM Z Z (bnK u9 fun _ ba va=>?_)))
 obtain ⟨wJ,aX⟩:=aT.rowSome (j:=4) rfl (by rw [wAG (f:=KL.encI) (sz:=1) (fun _=>rfl) ak];have hz:=wAM ba;omega)
 refine oR Z (zr Z Z aX Z zD zC (wAn ba) (wAo ba)) ?_
 have uI:=wAk (xs:=ak) (wAM ba)
 refine zt rfl rfl rfl rfl (aT.ldR (j:=4) rfl aX rfl rfl zE (wAO (sz:=1) (fun _=>rfl) _ _ 0 _ uI (by first | omega | rfl | simp) rfl)) rfl (zb rfl rfl rfl rfl (fun _=>zO rfl rfl rfl) (zN rfl rfl rfl rfl rfl rfl (ifc va ?_ ?_)))
 intro au vb
 refine rU Z (wT Z au) (zI Z aS ZS Z ZE) (zt Z Z Z (wT Z au) (aT.ldB (j:=6) Z Z Z ZI (v:=.slice am ak.length an) Z) Z (zN Z Z Z (wT Z au) Z Z (rU Z (wT Z au) (zr Z Z aX Z zD zC (wAn ba) (wAo ba)) ?_)))
 have uJ:=wAk (xs:=ak) (wAM ba)
 refine zt rfl rfl rfl (zS rfl rfl (ZW au.out)) (aT.ldR (j:=4) rfl aX rfl rfl zE (wAO (sz:=1) (fun _=>rfl) _ _ 0 _ uJ (by first | omega | rfl | simp) rfl)) rfl (zb rfl rfl rfl (zS rfl rfl (ZW au.out)) (fun _=>zI rfl rfl yH rfl zC) (zt rfl rfl rfl (zS rfl rfl (ZW au.out)) (aT.ldB (j:=0) rfl rfl rfl zE (v:=jV aj.count) rfl) rfl (zb rfl rfl rfl (zS rfl rfl (ZW au.out)) (fun _=>zR rfl rfl rfl) (zb rfl rfl rfl (zS rfl rfl (ZW au.out)) (fun _=>zI rfl aS ZS rfl ZE) (zt rfl rfl rfl (zS rfl rfl (ZW au.out)) (aT.ldB (j:=6) rfl rfl rfl ZI (v:=.slice am ak.length an) rfl) rfl (zN rfl rfl rfl (zS rfl rfl (ZW au.out)) rfl rfl (bnK vb fun _ bh vc=>zb rfl rfl rfl (zS rfl rfl (ZW au.out)) (fun _=>zr rfl rfl aX rfl zD zC (wAn bh) (wAo bh)) ?_)))))))
 have uK:=wAk (xs:=ak) (wAM bh)
 refine zt rfl rfl rfl (zS rfl rfl (ZW au.out)) (aT.ldR (j:=4) rfl aX rfl rfl zE (wAO (sz:=1) (fun _=>rfl) _ _ 0 _ uK (by first | omega | rfl | simp) rfl)) rfl (zb rfl rfl rfl (zS rfl rfl (ZW au.out)) (fun _=>zO rfl rfl rfl) (zb rfl rfl rfl rfl (fun _=>zk rfl (ZW au.out) rfl) (eN (ifc vc ?_ ?_))))
 intro ez vd
 refine cT Z ez ?_
 have q:=bnd vd
 obtain ⟨⟨⟩,vu,lj⟩:=q
 try dsimp only at lj
 let aO:Res:=.row am an 3 1 (hD KL.encI (nE ak aj.from_.toNat (w64 ((gd ak aj.to_.toNat) + aj.count))))
 let cG:Res:=.blk b8 88 [.slice am ((nE ak aj.from_.toNat (w64 ((gd ak aj.to_.toNat) + aj.count))).length) an,.slice ao ((nE aw aj.from_.toNat (↑aE:Int)).length) ap]
 let bu:Res:=.row ao ap 3 1 (hD KL.encI (nE aw aj.from_.toNat (↑aE:Int)))
 refine Zp (fun σ_ w_=>∃ (U_:PHeap),σ_ 0=.pointer (some ⟨af,0,none⟩)/\σ_ 2=.bool p2/\σ_ 6=.pointer (some ⟨b4,0,none⟩)/\σ_ 9=.pointer (some ⟨b8,0,none⟩)/\σ_ 15=jV aj.from_/\σ_ 54=jV (w64 ((↑(p0.number.length):Int) + 1))/\σ_ 55=jV (↑a7:Int)/\σ_ 60=.slice aV p0.edges.length aW/\σ_ 61=jV (↑p0.edges.length:Int)/\σ_ 62=jV (↑aE:Int)/\PHeap.Le ay U_/\SW w [B1,.obj O (.map ab ac)] U U_ [.blk aH 108 ax,.blk b4 88 B0,B1,.obj O (.map ab ac),aO,bu,cG] w_) ?_ ?_
 refine CK.fresh fun aQ aL=>?_
 have iF:aQ 0=.pointer (some ⟨af,0,none⟩):=(aL 0).trans ci
 have iG:aQ 2=.bool p2:=(aL 2).trans bE
 have iH:aQ 6=.pointer (some ⟨b4,0,none⟩):=(aL 6).trans cj
 have cZ:aQ 9=.pointer (some ⟨b8,0,none⟩):=(aL 9).trans aS
 have mZ:aQ 12=jV (↑aE:Int):=(aL 12).trans rfl
 have m3:aQ 13=.pointer (some ⟨aH,0,none⟩):=(aL 13).trans rfl
 have m4:aQ 14=jV aj.to_:=(aL 14).trans rfl
 have dQ:aQ 15=jV aj.from_:=(aL 15).trans rfl
 have iI:aQ 54=jV (w64 ((↑(p0.number.length):Int) + 1)):=(aL 54).trans cm
 have iJ:aQ 55=jV (↑a7:Int):=(aL 55).trans co
 have iK:aQ 60=.slice aV p0.edges.length aW:=(aL 60).trans bF
 have iL:aQ 61=jV (↑p0.edges.length:Int):=(aL 61).trans bG
 have iM:aQ 62=jV (↑aE:Int):=(aL 62).trans bg
 clear aL
 refine bnK vu fun _ bb lk=>zw zx [3,1,3,3,2,3,3,1,3,3,1,3,1,3,3,3,0,3,0] (wDL (wKo gCm)) (by kernel_rfl) ?_
 have bk:=aT.drew
 generalize hw_W1484:({ gw with drawn:=gw.drawn + 1 }:World)=wp at bk ⊢
 refine oR Z (zI Z cZ ZS Z ZE) (oL Z (bk.ldB (j:=6) Z Z Z ZI (v:=.slice am ak.length an) Z) (oM Z dQ (oR Z (zI Z cZ ZS Z ZE) (oM Z dQ (oR Z (zI Z cZ ZS Z ZE) (oL Z (bk.ldB (j:=6) Z Z Z ZI (v:=.slice am ak.length an) Z) (oM Z m4 (oR Z (zr Z Z aX Z zD zC (wAn ba) (wAo ba)) ?_))))))))
 have uL:=wAk (xs:=ak) (wAM ba)
 refine zt rfl rfl rfl rfl (bk.ldR (j:=4) rfl aX rfl rfl zE (wAO (sz:=1) (fun _=>rfl) _ _ 0 _ uL (by first | omega | rfl | simp) rfl)) rfl (zb rfl rfl rfl rfl (fun _=>zI rfl m3 yH rfl zC) (zt rfl rfl rfl rfl (bk.ldB (j:=0) rfl rfl rfl zE (v:=jV aj.count) rfl) rfl (zb rfl rfl rfl rfl (fun _=>zR rfl rfl rfl) (zN rfl rfl rfl rfl rfl mZ (zb rfl rfl rfl rfl (fun _=>zr rfl rfl aX rfl zD zC (wAn bh) (wAo bh)) (zo ?_ ?_))))))
 refine ZO Z Z Z Z (bk.ldB (j:=6) Z Z Z ZI (v:=.slice ao aw.length ap) Z) ?_
 have uM:=wAk (xs:=ak) (wAM bh)
 refine yA (j:=4) (vs:=[jV (w64 ((gd ak aj.to_.toNat) + aj.count))]) (cs':=hD KL.encI (nE ak aj.from_.toNat (w64 ((gd ak aj.to_.toNat) + aj.count)))) rfl rfl rfl rfl bk rfl aX rfl rfl rfl zC (by rw [wAG (f:=KL.encI) (sz:=1) (fun _=>rfl)];have hz:=wAM bh;show _ + 1 <= _;first | omega | (simp only [nB];omega) | (simp only [nA,hH,hJ];omega)) rfl (wBf (sz:=1) (fo:=0) (fun _=>rfl) _ _ _ _ uM (by first | omega | (simp only [nB];omega) | (simp only [nA,hH,hJ];omega)) (zA rfl) rfl) rfl ?_
 intro gA tr
 have tt:SW w [B1,.obj O (.map ab ac)] U ay [.blk aH 108 ax,.blk b4 88 B0,B1,.obj O (.map ab ac),aO,aN,bf] gA:=tr
 let dw:Res:=.blk b8 88 [.slice am ((nE ak aj.from_.toNat (w64 ((gd ak aj.to_.toNat) + aj.count))).length) an,.slice ao aw.length ap]
 have j5:SW w [B1,.obj O (.map ab ac)] U ay [.blk aH 108 ax,.blk b4 88 B0,B1,.obj O (.map ab ac),aO,aN,dw] gA:=by simpa only [B0,B1,ax,aN,bf,aO,dw,nD] using tt
 obtain ⟨wK,jR⟩:=j5.rowSome (j:=5) rfl (by rw [wAG (f:=KL.encI) (sz:=1) (fun _=>rfl) aw];have hz:=wAM bb;omega)
 refine oR Z (zr Z Z jR Z zD zC (wAn bb) (wAo bb)) ?_
 have uN:=wAk (xs:=aw) (wAM bb)
 refine yA (j:=5) (vs:=[jV (↑aE:Int)]) (cs':=hD KL.encI (nE aw aj.from_.toNat (↑aE:Int))) rfl rfl rfl rfl j5 rfl jR rfl rfl rfl zC (by rw [wAG (f:=KL.encI) (sz:=1) (fun _=>rfl)];have hz:=wAM bb;show _ + 1 <= _;first | omega | (simp only [nB];omega) | (simp only [nA,hH,hJ];omega)) rfl (wBf (sz:=1) (fo:=0) (fun _=>rfl) _ _ _ _ uN (by first | omega | (simp only [nB];omega) | (simp only [nA,hH,hJ];omega)) (zA rfl) rfl) rfl ?_
 intro gB tu
 have tv:SW w [B1,.obj O (.map ab ac)] U ay [.blk aH 108 ax,.blk b4 88 B0,B1,.obj O (.map ab ac),aO,bu,dw] gB:=tu
 have tw:SW w [B1,.obj O (.map ab ac)] U ay [.blk aH 108 ax,.blk b4 88 B0,B1,.obj O (.map ab ac),aO,bu,cG] gB:=by simpa only [B0,B1,ax,aO,cG,bu,dw,nD] using tv
 refine zW ?_
 cases lk
 exact zF ⟨Z,⟨ay,iF,iG,iH,cZ,dQ,iI,iJ,iK,iL,iM,(zM _),tw⟩⟩
 have uO:=wAk (xs:=ak) (wAM bh)
 refine yA (j:=4) (vs:=[jV (w64 ((gd ak aj.to_.toNat) + aj.count))]) (cs':=hD KL.encI (nE ak aj.from_.toNat (w64 ((gd ak aj.to_.toNat) + aj.count)))) rfl rfl rfl rfl bk rfl aX rfl rfl rfl zC (by rw [wAG (f:=KL.encI) (sz:=1) (fun _=>rfl)];have hz:=wAM bh;show _ + 1 <= _;first | omega | (simp only [nB];omega) | (simp only [nA,hH,hJ];omega)) rfl (wBf (sz:=1) (fo:=0) (fun _=>rfl) _ _ _ _ uO (by first | omega | (simp only [nB];omega) | (simp only [nA,hH,hJ];omega)) (zA rfl) rfl) rfl ?_
 intro gC tx
 have tz:SW w [B1,.obj O (.map ab ac)] U ay [.blk aH 108 ax,.blk b4 88 B0,B1,.obj O (.map ab ac),aO,aN,bf] gC:=tx
 let dx:Res:=.blk b8 88 [.slice am ((nE ak aj.from_.toNat (w64 ((gd ak aj.to_.toNat) + aj.count))).length) an,.slice ao aw.length ap]
 have eY:SW w [B1,.obj O (.map ab ac)] U ay [.blk aH 108 ax,.blk b4 88 B0,B1,.obj O (.map ab ac),aO,aN,dx] gC:=by simpa only [B0,B1,ax,aN,bf,aO,dx,nD] using tz
 refine ZO Z Z Z Z (eY.ldB (j:=6) Z Z Z ZI (v:=.slice ao aw.length ap) Z) ?_
 obtain ⟨wL,jS⟩:=eY.rowSome (j:=5) rfl (by rw [wAG (f:=KL.encI) (sz:=1) (fun _=>rfl) aw];have hz:=wAM bb;omega)
 refine oR Z (zr Z Z jS Z zD zC (wAn bb) (wAo bb)) ?_
 have uP:=wAk (xs:=aw) (wAM bb)
 refine yA (j:=5) (vs:=[jV (↑aE:Int)]) (cs':=hD KL.encI (nE aw aj.from_.toNat (↑aE:Int))) rfl rfl rfl rfl eY rfl jS rfl rfl rfl zC (by rw [wAG (f:=KL.encI) (sz:=1) (fun _=>rfl)];have hz:=wAM bb;show _ + 1 <= _;first | omega | (simp only [nB];omega) | (simp only [nA,hH,hJ];omega)) rfl (wBf (sz:=1) (fo:=0) (fun _=>rfl) _ _ _ _ uP (by first | omega | (simp only [nB];omega) | (simp only [nA,hH,hJ];omega)) (zA rfl) rfl) rfl ?_
 intro gD tB
 have tC:SW w [B1,.obj O (.map ab ac)] U ay [.blk aH 108 ax,.blk b4 88 B0,B1,.obj O (.map ab ac),aO,bu,dx] gD:=tB
 have tD:SW w [B1,.obj O (.map ab ac)] U ay [.blk aH 108 ax,.blk b4 88 B0,B1,.obj O (.map ab ac),aO,bu,cG] gD:=by simpa only [B0,B1,ax,aO,cG,bu,dx,nD] using tC
 refine zW ?_
 cases lk
 exact zF ⟨Z,⟨ay,iF,iG,iH,cZ,dQ,iI,iJ,iK,iL,iM,(zM _),tD⟩⟩
 rintro xL wq ⟨ma,m5,m6,m7,m8,m9,n4,n5,n6,n7,n8,vE,tE⟩
 refine rR fL2 Z (oM Z m9 (oA Z Z (zW (zd ?_))))
 cases lj
 exact zF ⟨rfl,⟨ma,m5,m6,m7,m8,rfl,n4,n5,n6,n7,n8,vE,(tE.pick [1,2,3,4,5,6] _ (by decide) rfl),(nD.trans cp),(nD.trans cq)⟩⟩
 intro ez ve
 refine cF Z ez (ZL (zd ?_))
 cases ve
 exact zF ⟨rfl,⟨ay,ci,bE,cj,aS,dP,cm,co,bF,bG,bg,(zM _),(aT.pick [1,2,3,4,5,6] _ (by decide) rfl),cp,cq⟩⟩
 intro au vf
 refine oF Z au (oF Z au (oF Z au (oF Z au (oF Z au (oF Z au (oF Z au (oF Z au (oF Z au (oF Z au (oF Z au (oF Z au (oF Z au (oF Z au (oR Z (zm Z (zy au.out) Z) (eN (zl Z (ZL (zd ?_))))))))))))))))))
 cases vf
 exact zF ⟨rfl,⟨ay,ci,bE,cj,aS,dP,cm,co,bF,bG,bg,(zM _),(aT.pick [1,2,3,4,5,6] _ (by decide) rfl),cp,cq⟩⟩
 intro ep vg
 refine zl (congrArg nI (nJ.2 ep.out)) (kN (zJ (zw zx [3,1,3,3,1,3,3,3,1,3,3,1,3,1,3,3,1,3,3,1,3,3] fL22 (by kernel_rfl) ?_)))
 have aU:=c9.drew
 generalize hw_W1538:({ dA with drawn:=dA.drawn + 1 }:World)=gE at aU ⊢
 refine oR Z (zI Z aS ZS Z ZE) (oL Z (aU.ldB (j:=6) Z Z Z ZI (v:=.slice am ak.length an) Z) (oM Z Z (bnK vg fun _ bc vh=>?_)))
 obtain ⟨wM,aY⟩:=aU.rowSome (j:=4) rfl (by rw [wAG (f:=KL.encI) (sz:=1) (fun _=>rfl) ak];have hz:=wAM bc;omega)
 refine oR Z (zr Z Z aY Z zD zC (wAn bc) (wAo bc)) ?_
 have uQ:=wAk (xs:=ak) (wAM bc)
 refine zt rfl rfl rfl rfl (aU.ldR (j:=4) rfl aY rfl rfl zE (wAO (sz:=1) (fun _=>rfl) _ _ 0 _ uQ (by first | omega | rfl | simp) rfl)) rfl (zb rfl rfl rfl rfl (fun _=>zO rfl rfl rfl) (zN rfl rfl rfl rfl rfl rfl (ifc vh ?_ ?_)))
 intro av vi
 refine rU Z (wT Z av) (zI Z aS ZS Z ZE) (zt Z Z Z (wT Z av) (aU.ldB (j:=6) Z Z Z ZI (v:=.slice am ak.length an) Z) Z (zN Z Z Z (wT Z av) Z Z (rU Z (wT Z av) (zr Z Z aY Z zD zC (wAn bc) (wAo bc)) ?_)))
 have uR:=wAk (xs:=ak) (wAM bc)
 refine zt rfl rfl rfl (zS rfl rfl (ZW av.out)) (aU.ldR (j:=4) rfl aY rfl rfl zE (wAO (sz:=1) (fun _=>rfl) _ _ 0 _ uR (by first | omega | rfl | simp) rfl)) rfl (zb rfl rfl rfl (zS rfl rfl (ZW av.out)) (fun _=>zI rfl rfl yH rfl zC) (zt rfl rfl rfl (zS rfl rfl (ZW av.out)) (aU.ldB (j:=0) rfl rfl rfl zE (v:=jV aj.count) rfl) rfl (zb rfl rfl rfl (zS rfl rfl (ZW av.out)) (fun _=>zR rfl rfl rfl) (zb rfl rfl rfl (zS rfl rfl (ZW av.out)) (fun _=>zI rfl aS ZS rfl ZE) (zt rfl rfl rfl (zS rfl rfl (ZW av.out)) (aU.ldB (j:=6) rfl rfl rfl ZI (v:=.slice am ak.length an) rfl) rfl (zN rfl rfl rfl (zS rfl rfl (ZW av.out)) rfl rfl (bnK vi fun _ bi vj=>zb rfl rfl rfl (zS rfl rfl (ZW av.out)) (fun _=>zr rfl rfl aY rfl zD zC (wAn bi) (wAo bi)) ?_)))))))
 have uS:=wAk (xs:=ak) (wAM bi)
 refine zt rfl rfl rfl (zS rfl rfl (ZW av.out)) (aU.ldR (j:=4) rfl aY rfl rfl zE (wAO (sz:=1) (fun _=>rfl) _ _ 0 _ uS (by first | omega | rfl | simp) rfl)) rfl (zb rfl rfl rfl (zS rfl rfl (ZW av.out)) (fun _=>zO rfl rfl rfl) (zb rfl rfl rfl rfl (fun _=>zk rfl (ZW av.out) rfl) (eN (ifc vj ?_ ?_))))
 intro eB vk
 refine cT Z eB ?_
 have q:=bnd vk
 obtain ⟨⟨⟩,vv,ll⟩:=q
 try dsimp only at ll
 let aP:Res:=.row am an 3 1 (hD KL.encI (nE ak aj.to_.toNat (w64 ((gd ak aj.from_.toNat) + aj.count))))
 let cH:Res:=.blk b8 88 [.slice am ((nE ak aj.to_.toNat (w64 ((gd ak aj.from_.toNat) + aj.count))).length) an,.slice ao ((nE aw aj.to_.toNat (↑aE:Int)).length) ap]
 let bv:Res:=.row ao ap 3 1 (hD KL.encI (nE aw aj.to_.toNat (↑aE:Int)))
 refine Zp (fun σ_ w_=>∃ (U_:PHeap),σ_ 0=.pointer (some ⟨af,0,none⟩)/\σ_ 2=.bool p2/\σ_ 6=.pointer (some ⟨b4,0,none⟩)/\σ_ 9=.pointer (some ⟨b8,0,none⟩)/\σ_ 15=jV aj.to_/\σ_ 54=jV (w64 ((↑(p0.number.length):Int) + 1))/\σ_ 55=jV (↑a7:Int)/\σ_ 60=.slice aV p0.edges.length aW/\σ_ 61=jV (↑p0.edges.length:Int)/\σ_ 62=jV (↑aE:Int)/\PHeap.Le ay U_/\SW w [B1,.obj O (.map ab ac)] U U_ [.blk aH 108 ax,.blk b4 88 B0,B1,.obj O (.map ab ac),aP,bv,cH] w_) ?_ ?_
 refine CK.fresh fun aR aM=>?_
 have iN:aR 0=.pointer (some ⟨af,0,none⟩):=(aM 0).trans ci
 have iO:aR 2=.bool p2:=(aM 2).trans bE
 have iP:aR 6=.pointer (some ⟨b4,0,none⟩):=(aM 6).trans cj
 have c6:aR 9=.pointer (some ⟨b8,0,none⟩):=(aM 9).trans aS
 have n9:aR 12=jV (↑aE:Int):=(aM 12).trans rfl
 have oa:aR 13=.pointer (some ⟨aH,0,none⟩):=(aM 13).trans rfl
 have oc:aR 14=jV aj.from_:=(aM 14).trans rfl
 have dR:aR 15=jV aj.to_:=(aM 15).trans rfl
 have iQ:aR 54=jV (w64 ((↑(p0.number.length):Int) + 1)):=(aM 54).trans cm
 have iR:aR 55=jV (↑a7:Int):=(aM 55).trans co
 have iS:aR 60=.slice aV p0.edges.length aW:=(aM 60).trans bF
 have iT:aR 61=jV (↑p0.edges.length:Int):=(aM 61).trans bG
 have iU:aR 62=jV (↑aE:Int):=(aM 62).trans bg
 clear aM
 refine bnK vv fun _ be lm=>zw zx [3,1,3,3,2,3,3,1,3,3,1,3,1,3,3,3,0,3,0] (wDL (wKo gCm)) (by kernel_rfl) ?_
 have bm:=aU.drew
 generalize hw_W1587:({ gE with drawn:=gE.drawn + 1 }:World)=wr at bm ⊢
 refine oR Z (zI Z c6 ZS Z ZE) (oL Z (bm.ldB (j:=6) Z Z Z ZI (v:=.slice am ak.length an) Z) (oM Z dR (oR Z (zI Z c6 ZS Z ZE) (oM Z dR (oR Z (zI Z c6 ZS Z ZE) (oL Z (bm.ldB (j:=6) Z Z Z ZI (v:=.slice am ak.length an) Z) (oM Z oc (oR Z (zr Z Z aY Z zD zC (wAn bc) (wAo bc)) ?_))))))))
 have uT:=wAk (xs:=ak) (wAM bc)
 refine zt rfl rfl rfl rfl (bm.ldR (j:=4) rfl aY rfl rfl zE (wAO (sz:=1) (fun _=>rfl) _ _ 0 _ uT (by first | omega | rfl | simp) rfl)) rfl (zb rfl rfl rfl rfl (fun _=>zI rfl oa yH rfl zC) (zt rfl rfl rfl rfl (bm.ldB (j:=0) rfl rfl rfl zE (v:=jV aj.count) rfl) rfl (zb rfl rfl rfl rfl (fun _=>zR rfl rfl rfl) (zN rfl rfl rfl rfl rfl n9 (zb rfl rfl rfl rfl (fun _=>zr rfl rfl aY rfl zD zC (wAn bi) (wAo bi)) (zo ?_ ?_))))))
 refine ZO Z Z Z Z (bm.ldB (j:=6) Z Z Z ZI (v:=.slice ao aw.length ap) Z) ?_
 have uU:=wAk (xs:=ak) (wAM bi)
 refine yA (j:=4) (vs:=[jV (w64 ((gd ak aj.from_.toNat) + aj.count))]) (cs':=hD KL.encI (nE ak aj.to_.toNat (w64 ((gd ak aj.from_.toNat) + aj.count)))) rfl rfl rfl rfl bm rfl aY rfl rfl rfl zC (by rw [wAG (f:=KL.encI) (sz:=1) (fun _=>rfl)];have hz:=wAM bi;show _ + 1 <= _;first | omega | (simp only [nB];omega) | (simp only [nA,hH,hJ];omega)) rfl (wBf (sz:=1) (fo:=0) (fun _=>rfl) _ _ _ _ uU (by first | omega | (simp only [nB];omega) | (simp only [nA,hH,hJ];omega)) (zA rfl) rfl) rfl ?_
 intro gF tF
 have tG:SW w [B1,.obj O (.map ab ac)] U ay [.blk aH 108 ax,.blk b4 88 B0,B1,.obj O (.map ab ac),aP,aN,bf] gF:=tF
 let dy:Res:=.blk b8 88 [.slice am ((nE ak aj.to_.toNat (w64 ((gd ak aj.from_.toNat) + aj.count))).length) an,.slice ao aw.length ap]
 have j6:SW w [B1,.obj O (.map ab ac)] U ay [.blk aH 108 ax,.blk b4 88 B0,B1,.obj O (.map ab ac),aP,aN,dy] gF:=by simpa only [B0,B1,ax,aN,bf,aP,dy,nD] using tG
 obtain ⟨wN,jT⟩:=j6.rowSome (j:=5) rfl (by rw [wAG (f:=KL.encI) (sz:=1) (fun _=>rfl) aw];have hz:=wAM be;omega)
 refine oR Z (zr Z Z jT Z zD zC (wAn be) (wAo be)) ?_
 have uV:=wAk (xs:=aw) (wAM be)
 refine yA (j:=5) (vs:=[jV (↑aE:Int)]) (cs':=hD KL.encI (nE aw aj.to_.toNat (↑aE:Int))) rfl rfl rfl rfl j6 rfl jT rfl rfl rfl zC (by rw [wAG (f:=KL.encI) (sz:=1) (fun _=>rfl)];have hz:=wAM be;show _ + 1 <= _;first | omega | (simp only [nB];omega) | (simp only [nA,hH,hJ];omega)) rfl (wBf (sz:=1) (fo:=0) (fun _=>rfl) _ _ _ _ uV (by first | omega | (simp only [nB];omega) | (simp only [nA,hH,hJ];omega)) (zA rfl) rfl) rfl ?_
 intro gG tH
 have tI:SW w [B1,.obj O (.map ab ac)] U ay [.blk aH 108 ax,.blk b4 88 B0,B1,.obj O (.map ab ac),aP,bv,dy] gG:=tH
 have tJ:SW w [B1,.obj O (.map ab ac)] U ay [.blk aH 108 ax,.blk b4 88 B0,B1,.obj O (.map ab ac),aP,bv,cH] gG:=by simpa only [B0,B1,ax,aP,cH,bv,dy,nD] using tI
 refine zW ?_
 cases lm
 exact zF ⟨Z,⟨ay,iN,iO,iP,c6,dR,iQ,iR,iS,iT,iU,(zM _),tJ⟩⟩
 have uW:=wAk (xs:=ak) (wAM bi)
 refine yA (j:=4) (vs:=[jV (w64 ((gd ak aj.from_.toNat) + aj.count))]) (cs':=hD KL.encI (nE ak aj.to_.toNat (w64 ((gd ak aj.from_.toNat) + aj.count)))) rfl rfl rfl rfl bm rfl aY rfl rfl rfl zC (by rw [wAG (f:=KL.encI) (sz:=1) (fun _=>rfl)];have hz:=wAM bi;show _ + 1 <= _;first | omega | (simp only [nB];omega) | (simp only [nA,hH,hJ];omega)) rfl (wBf (sz:=1) (fo:=0) (fun _=>rfl) _ _ _ _ uW (by first | omega | (simp only [nB];omega) | (simp only [nA,hH,hJ];omega)) (zA rfl) rfl) rfl ?_
 intro gH tK
 have tL:SW w [B1,.obj O (.map ab ac)] U ay [.blk aH 108 ax,.blk b4 88 B0,B1,.obj O (.map ab ac),aP,aN,bf] gH:=tK
 let dz:Res:=.blk b8 88 [.slice am ((nE ak aj.to_.toNat (w64 ((gd ak aj.from_.toNat) + aj.count))).length) an,.slice ao aw.length ap]
 have eZ:SW w [B1,.obj O (.map ab ac)] U ay [.blk aH 108 ax,.blk b4 88 B0,B1,.obj O (.map ab ac),aP,aN,dz] gH:=by simpa only [B0,B1,ax,aN,bf,aP,dz,nD] using tL
 refine ZO Z Z Z Z (eZ.ldB (j:=6) Z Z Z ZI (v:=.slice ao aw.length ap) Z) ?_
 obtain ⟨wO,jU⟩:=eZ.rowSome (j:=5) rfl (by rw [wAG (f:=KL.encI) (sz:=1) (fun _=>rfl) aw];have hz:=wAM be;omega)
 refine oR Z (zr Z Z jU Z zD zC (wAn be) (wAo be)) ?_
 have uX:=wAk (xs:=aw) (wAM be)
 refine yA (j:=5) (vs:=[jV (↑aE:Int)]) (cs':=hD KL.encI (nE aw aj.to_.toNat (↑aE:Int))) rfl rfl rfl rfl eZ rfl jU rfl rfl rfl zC (by rw [wAG (f:=KL.encI) (sz:=1) (fun _=>rfl)];have hz:=wAM be;show _ + 1 <= _;first | omega | (simp only [nB];omega) | (simp only [nA,hH,hJ];omega)) rfl (wBf (sz:=1) (fo:=0) (fun _=>rfl) _ _ _ _ uX (by first | omega | (simp only [nB];omega) | (simp only [nA,hH,hJ];omega)) (zA rfl) rfl) rfl ?_
 intro gI tM
 have tN:SW w [B1,.obj O (.map ab ac)] U ay [.blk aH 108 ax,.blk b4 88 B0,B1,.obj O (.map ab ac),aP,bv,dz] gI:=tM
 have tO:SW w [B1,.obj O (.map ab ac)] U ay [.blk aH 108 ax,.blk b4 88 B0,B1,.obj O (.map ab ac),aP,bv,cH] gI:=by simpa only [B0,B1,ax,aP,cH,bv,dz,nD] using tN
 refine zW ?_
 cases lm
 exact zF ⟨Z,⟨ay,iN,iO,iP,c6,dR,iQ,iR,iS,iT,iU,(zM _),tO⟩⟩
 rintro xM ws ⟨mb,od,oe,og,oh,oi,oj,ol,om,oo,oq,vF,tP⟩
 refine rR fL2 Z (oM Z oi (oA Z Z (zW (zd ?_))))
 cases ll
 exact zF ⟨rfl,⟨mb,od,oe,og,oh,rfl,oj,ol,om,oo,oq,vF,(tP.pick [1,2,3,4,5,6] _ (by decide) rfl),(nD.trans cp),(nD.trans cq)⟩⟩
 intro eB vl
 refine cF Z eB (ZL (zd ?_))
 cases vl
 exact zF ⟨rfl,⟨ay,ci,bE,cj,aS,dP,cm,co,bF,bG,bg,(zM _),(aU.pick [1,2,3,4,5,6] _ (by decide) rfl),cp,cq⟩⟩
 intro av vm
 refine oF Z av (oF Z av (oF Z av (oF Z av (oF Z av (oF Z av (oF Z av (oF Z av (oF Z av (oF Z av (oF Z av (oF Z av (oF Z av (oF Z av (oR Z (zm Z (zy av.out) Z) (eN (zl Z (ZL (zd ?_))))))))))))))))))
 cases vm
 exact zF ⟨rfl,⟨ay,ci,bE,cj,aS,dP,cm,co,bF,bG,bg,(zM _),(aU.pick [1,2,3,4,5,6] _ (by decide) rfl),cp,cq⟩⟩
 rintro xN wt ⟨mc,ot,ou,ov,ow,ox,oy,oz,oB,oC,oD,vG,tQ,rW,rX⟩
 refine rR fL2 Z (oR Z (ZJ (zR Z oD Z) (congrArg (jV) uZ.out)) (oM Z Z (zW ?_)))
 cases li
 exact zF ⟨Z,⟨mc,Z,ot,ou,ov,ow,ox,oy,oz,oB,oC,(lQ.trans vG),tQ,rW,rX⟩⟩
 rintro xO wu ⟨ef,rD,oE,oG,eL,iV,iW,oH,oI,wR,oJ,vH,e6,rY,rZ⟩
 have mL:Hid (¬ ((↑(((↑p0.edges.length:Int):Int) - 0).toNat:Int) < (↑p0.edges.length:Int))):=zH (wAp)
 refine sR fL1 Z (oR Z (zO Z rD oJ) (eN (zJ (cF Z mL (ZM (zc (zc (ZC (zF (sR fL2 Z (oM Z iW (oR Z (zO Z Z Z) (eN (ifc lg ?_ ?_))))))))))))))
 intro eC vn
 refine cT Z eC (sR gCb Z ?_)
 let bR:List Value:=[.slice am lZ.length an,.slice ao l0.length ap]
 refine oL Z (e6.ldBA (j:=5) Z Z iV Try.isAgg88 Zs (vs:=bR) Z Z) (za (j:=0) (vs:=bR) Z Z Z Z e6 Z eL Z Z Zs (zA Z) Z Z Z ?_)
 intro ms tR
 have j7:SW w [B1,.obj O (.map ab ac)] U ef [.blk b4 88 bR,B1,.obj O (.map ab ac),.row am an 3 1 (hD KL.encI lZ),.row ao ap 3 1 (hD KL.encI l0),.blk b8 88 bR] ms:=tR
 refine oA Z Z (oA Z Z (eN (zT (zV (zP ?_)))))
 have q:=wAV vn
 obtain ⟨vT,vo,mN⟩:=q
 have q:=wBA fj e8 (uz vT mN)
 obtain rfl:=q
 refine zP (zV (zP ?_))
 cases vo
 exact ⟨rfl,_,(wDn (rs:=[.cell 6 88,.tmp 7,.tmp 8]) (vs:=[.agg bR.toArray,jV 0,.bool true]) ⟨⟨_,eL,(wBL Try.isAgg88 Zs (j7.blkAt (k:=0) rfl) (vs:=bR) rfl rfl)⟩,⟨rfl,⟨rfl,trivial⟩⟩⟩ rfl),ef,_,(j7.pick [3,4,1,2] _ (by decide) rfl),am,an,ao,ap,rfl,rfl⟩
 intro eC vp
 refine cF Z eC (ZL (zd (zF (rR fL2 Z (oR Z (ZJ (zR Z oI Z) (congrArg (jV) uY.out)) (oM Z Z (zW ?_)))))))
 have q:=nG vp
 obtain rfl:=q
 exact zF ⟨Z,_,Z,⟨ef,Z,oE,oG,eL,iV,iW,oH,(lP.trans vH),e6,rY,rZ⟩⟩
 rintro ⟨l4,l5,vV⟩ xP wv ⟨f7,rE,wS,wU,iX,oK,oO,oP,xn,j8,xf,xg⟩ uA
 have lp:=wCl fj e8 uA
 try dsimp only at lp
 have mM:Hid (¬ ((↑((w64 ((↑(p0.number.length):Int) + 1):Int) - 0).toNat:Int) < (w64 ((↑(p0.number.length):Int) + 1)))):=zH (wAp)
 refine sR fL1 Z (oR Z (zO Z rE oP) (eN (zJ (cF Z mM (ZM (zc (zc (ZC (zF (sR (.fl 0 (.fl 1 (.fx 2 (.fl 3 (.fl 4 .nil)) .stop))) Z ?_))))))))))
 let bS:List Value:=[.slice am l4.length an,.slice ao l5.length ap]
 refine oL Z (j8.ldBA (j:=5) Z Z oK Try.isAgg88 Zs (vs:=bS) Z Z) (oM Z oO (za (j:=0) (vs:=bS) Z Z Z Z j8 Z iX Z Z Zs (zA Z) Z Z Z ?_))
 intro mu tS
 have j9:SW w [B1,.obj O (.map ab ac)] U f7 [.blk b4 88 bS,B1,.obj O (.map ab ac),.row am an 3 1 (hD KL.encI l4),.row ao ap 3 1 (hD KL.encI l5),.blk b8 88 bS] mu:=tS
 refine oA Z Z (oA Z Z (eN (zT ?_)))
 cases lp
 exact ⟨rfl,_,(wDn (rs:=[.cell 6 88,.tmp 7,.tmp 8]) (vs:=[.agg bS.toArray,jV vV,.bool false]) ⟨⟨_,iX,(wBL Try.isAgg88 Zs (j9.blkAt (k:=0) rfl) (vs:=bS) rfl rfl)⟩,⟨rfl,⟨rfl,trivial⟩⟩⟩ rfl),f7,_,(j9.pick [3,4,1,2] _ (by decide) rfl),am,an,ao,ap,rfl,rfl⟩
end Go.Proofs.Ytkedcbligiebkaa
namespace Go.Proofs.Ytkedcbligiebkaa
open Go.KL
set_option maxHeartbeats 4000000
theorem wEl (O:wAd) (ak:Nat) (ae:Option Addr) (am:Nat) (af:Option Addr) (an:Nat) (ag:Option Addr) (ao:Nat) (ai:Option Addr) (ap:Nat) (aa:Nat) (ab:Array MapEntry) (ac:Nat) (aj:Option Addr) (aq:Nat) (w:World) (U:PHeap) (hS:St0 w U [.blk ak 94 [.slice ae O.Race.Starts.length am,.slice af O.Race.Splits.length an,.slice ag O.Race.Clocks.length ao,.slice ai O.Race.Readings.length ap,.map (some aa),.slice aj O.edges.length aq],.obj aa (.map ab ac)]) (aS:Sl U 1 ae am O.Race.Starts.length (hD KL.encI O.Race.Starts)) (aT:Sl U 2 af an O.Race.Splits.length (hD wAE O.Race.Splits)) (aU:Sl U 3 ag ao O.Race.Clocks.length (hD wAP O.Race.Clocks)) (aV:Sl U 4 ai ap O.Race.Readings.length (hD wAH O.Race.Readings)) (aW:MpR ab wCX wCj O.number) (aX:Sl U 7 aj aq O.edges.length (hD wAU O.edges)) {r:Bool} (hm:wBj O=some r):Gv Try.prog 33 [.pointer (some ⟨ak,0,none⟩)] w (wBz w [.blk ak 94 [.slice ae O.Race.Starts.length am,.slice af O.Race.Splits.length an,.slice ag O.Race.Clocks.length ao,.slice ai O.Race.Readings.length ap,.map (some aa),.slice aj O.edges.length aq],.obj aa (.map ab ac)] U (fun U_ L_ v=>v=.bool r/\L_=[.blk ak 94 [.slice ae O.Race.Starts.length am,.slice af O.Race.Splits.length an,.slice ag O.Race.Clocks.length ao,.slice ai O.Race.Readings.length ap,.map (some aa),.slice aj O.edges.length aq],.obj aa (.map ab ac)])):=by
 unfold wBj at hm
 refine Gv.of Try.func33 Z Try.ntmps33 Try.results33 Z (sR fL1 Z (oA Z Z (eN (sR (.fl 0 (.fx 1 (wMQ (.fx 6 gBs .stop)) .stop)) Z (oM Z Z ?_)))))
 have q:=bnd hm
 obtain ⟨⟨x3,x4,x5⟩,h6,aI⟩:=q
 try dsimp only at aI
 refine zL 2 Z Z Z Z (zK Z Z Try.call34 (zB Z (zB Z (zB Z zQ))) Z) hS (fun hs=>wBO O ak ae am af an ag ao ai ap aa ab ac aj aq (-1) false w U hs aS aT aU aV aW aX h6) (.inl Z) ?_
 rintro U8 L9 ba aJ a9 aN ⟨aw,az,ax,aE,rfl,rfl⟩
 let B0:Res:=.blk ak 94 [.slice ae O.Race.Starts.length am,.slice af O.Race.Splits.length an,.slice ag O.Race.Clocks.length ao,.slice ai O.Race.Readings.length ap,.map (some aa),.slice aj O.edges.length aq]
 let B1:Res:=.row aw az 3 1 (hD KL.encI x3.far)
 let B2:Res:=.row ax aE 3 1 (hD KL.encI x3.by_)
 have aO:SW w [B0,.obj aa (.map ab ac)] U U8 [B1,B2,B0,.obj aa (.map ab ac)] aJ:=aN
 refine oM Z Z (oR Z (zn Z Z (v:=.agg #[.slice aw x3.far.length az,.slice ax x3.by_.length aE]) Z) (oR Z (zn Z Z (v:=jV x4) Z) (oR Z (zn Z Z (v:=.bool x5) Z) (zY (cs:=[.slice none 0 0,.slice none 0 0]) Z Z Z Z Z Zd Z aO ?_))))
 intro a8 aL aP
 let B3:List Value:=[.slice aw x3.far.length az,.slice ax x3.by_.length aE]
 refine za (j:=0) (vs:=B3) Z Z Z Z aP Z Z Z Z Zs (zA Z) Z Z Z ?_
 intro aK aQ
 have aR:SW w [B0,.obj aa (.map ab ac)] U U8 [.blk aL 88 B3,B1,B2,B0,.obj aa (.map ab ac)] aK:=aQ
 refine oA Z Z (oA Z Z (eN (sR fL2 Z (oM Z Z (oA Z Z (eN (zT ?_)))))))
 have hE:=nG aI;first | subst r | cases hE
 exact ⟨rfl,_,(ZK rfl),U8,_,(aR.pick [3,4] _ (by decide) rfl),rfl,rfl⟩
theorem wEu (O:wAD) (am:Option Addr) (aq:Nat) (an:Option Addr) (au:Nat) (ao:Option Addr) (av:Nat) (ap:Option Addr) (aw:Nat) (p1:List wAW) (aK:Option Addr) (aL:Nat) (w:World) (U:PHeap) (hS:St0 w U []) (bb:Sl U 1 am aq O.Starts.length (hD KL.encI O.Starts)) (bc:Sl U 2 an au O.Splits.length (hD wAE O.Splits)) (be:Sl U 3 ao av O.Clocks.length (hD wAP O.Clocks)) (bf:Sl U 4 ap aw O.Readings.length (hD wAH O.Readings)) (bz:Sl U 2 aK aL p1.length (hD wBv p1)) {r:(Option wAd) × Int} (hm:wCW O p1=some r):Gv Try.prog 19 [.agg #[.slice am O.Starts.length aq,.slice an O.Splits.length au,.slice ao O.Clocks.length av,.slice ap O.Readings.length aw],.slice aK p1.length aL] w (wBz w [] U (fun U_ L_ v=>match r.1 with | none=>v=.tuple #[.pointer none,jV r.2]/\L_=[] | some d=>∃ (b0:Nat) (A0p00:Option Addr) (c0p00:Nat) (A0p01:Option Addr) (c0p01:Nat) (A0p02:Option Addr) (c0p02:Nat) (A0p03:Option Addr) (c0p03:Nat) (m0p1:Nat) (es0p1:Array MapEntry) (ck0p1:Nat) (A0p2:Option Addr) (c0p2:Nat),v=.tuple #[.pointer (some ⟨b0,0,none⟩),jV r.2]/\L_=[.blk b0 94 [.slice A0p00 d.Race.Starts.length c0p00,.slice A0p01 d.Race.Splits.length c0p01,.slice A0p02 d.Race.Clocks.length c0p02,.slice A0p03 d.Race.Readings.length c0p03,.map (some m0p1),.slice A0p2 d.edges.length c0p2],.obj m0p1 (.map es0p1 ck0p1)]/\Sl U_ 1 A0p00 c0p00 d.Race.Starts.length (hD KL.encI d.Race.Starts)/\Sl U_ 2 A0p01 c0p01 d.Race.Splits.length (hD wAE d.Race.Splits)/\Sl U_ 3 A0p02 c0p02 d.Race.Clocks.length (hD wAP d.Race.Clocks)/\Sl U_ 4 A0p03 c0p03 d.Race.Readings.length (hD wAH d.Race.Readings)/\MpR es0p1 wCX wCj d.number/\Sl U_ 7 A0p2 c0p2 d.edges.length (hD wAU d.edges))):=by
 unfold wCW at hm
 refine Gv.of Try.func19 Z Try.ntmps19 Try.results19 Z (sR gBr Z ?_)
 let B0:List Value:=[.slice am O.Starts.length aq,.slice an O.Splits.length au,.slice ao O.Clocks.length av,.slice ap O.Readings.length aw]
 refine ZD (cs:=B0) rfl rfl rfl rfl rfl rfl (by rfl) hS ?_
 intro W1 b2 bw
 refine oA Z Z (oA Z Z (eN (sR (.fl 0 (.fx 1 (wMR (.nil)) .stop)) Z (oL Z (bw.ldBA (j:=0) Z Z Z ZP zz (vs:=B0) Z Z) ?_))))
 have q:=bnd hm
 obtain ⟨⟨x5,x6⟩,h7,ax⟩:=q
 try dsimp only at ax
 refine zL 0 Z Z Z Z (zK Z Z Try.call30 (zB Z zQ) Z) bw (fun hs=>wGj O am aq an au ao av ap aw W1 U hs bb bc be bf h7) (.inr Z) ?_
 rintro U9 cM cS aF ab bv bt
 rcases x5 with _ | ac
 try dsimp only at ax
 obtain ⟨rfl,rfl⟩:=bt
 have a9:sW w U U9 [.blk b2 45 B0] aF:=bv
 refine oM Z Z (oR Z (zn Z Z (v:=.pointer none) Z) (oR Z (zn Z Z (v:=jV x6) Z) (oA Z Z (oA Z Z (eN (zJ (zU (sR fL3 Z (oM Z Z (oR Z (Zo Z Z Z) (oA Z Z (eN (ifc ax ?_ ?_)))))))))))))
 intro aY cB
 refine zl (zy (fun h=>h aY.out)) (sR (wDt gBv) Z (oM Z Z (oL Z (a9.ldBA (j:=0) Z Z Z ZP zz (vs:=B0) Z Z) (oR Z (Runs.mkf Z (zB Z zQ) zQ) ?_))))
 have bK:=bz.le ab
 have bL:=bb.le ab
 have bM:=bc.le ab
 have bN:=be.le ab
 have bO:=bf.le ab
 have cm:FnOK Try.prog U9 (.func (.func 32) #[.agg B0.toArray] #[]) ar85 rr85 (fun x=>wAq O x):=⟨32,[.agg B0.toArray],[],rfl,Try.call32,fun U1 w1 x y vs le hs ha hm=>by obtain rfl:=ha;exact wDF O am aq an au ao av ap aw x w1 U1 hs (bL.le le) (bM.le le) (bN.le le) (bO.le le) hm⟩
 refine bnK cB fun cW bP cC=>zL 0 Z Z Z Z (zK Z Z Try.call31 (zB Z (zB Z zQ)) Z) a9 (fun hs=>wCh p1 aK aL (fun x=>wAq O x) (.func (.func 32) #[.agg B0.toArray] #[]) aF U9 hs bK cm bP) (.inr Z) ?_
 rintro bi cO cU bE cQ cq ⟨rfl,rfl⟩
 have cr:sW w U bi [.blk b2 45 B0] bE:=cq
 refine oR Z (ZV Z Z) (oA Z Z (eN (ifc cC ?_ ?_)))
 intro aZ cD
 refine zl (nC aZ.out) (sR gCb Z (oM Z Z ?_))
 cases cD
 intro aZ cE
 refine ZA (nF (aZ.out)) (sR fL2 Z (oA Z Z (oA Z Z (eN (zT (zV (zP ?_)))))))
 cases cE
 exact ⟨rfl,_,(wEz rfl rfl),bi,_,(cr.pick [] _ (by decide) rfl),rfl,rfl⟩
 intro aY cG
 refine cT Z aY (sR fL3 Z (oM Z Z (oA Z Z (oA Z Z (eN (zT (zV (zP ?_))))))))
 cases cG
 exact ⟨rfl,_,(wEz rfl rfl),U9,_,(a9.pick [] _ (by decide) rfl),rfl,rfl⟩
 try dsimp only at ax
 obtain ⟨aG,aM,aU,aN,aV,aO,aW,aP,aX,af,aj,ai,az,aH,rfl,rfl,bQ,bR,bS,bT,bn⟩:=bt
 let B1:Res:=.blk aG 94 [.slice aM ac.Race.Starts.length aU,.slice aN ac.Race.Splits.length aV,.slice aO ac.Race.Clocks.length aW,.slice aP ac.Race.Readings.length aX,.map (some af),.slice az ac.edges.length aH]
 let B2:Res:=.row az aH 108 7 (hD wAU ac.edges)
 have ba:sW w U U9 [B1,.obj af (.map aj ai),B2,.blk b2 45 B0] aF:=bv
 refine oM Z Z (oR Z (zn Z Z (v:=.pointer (some ⟨aG,0,none⟩)) Z) (oR Z (zn Z Z (v:=jV x6) Z) (oA Z Z (oA Z Z (eN (zJ (zU (sR fL3 Z (oM Z Z (oR Z (Zo Z Z Z) (oA Z Z (eN (ifc ax ?_ ?_)))))))))))))
 intro a7 cH
 refine zl (zy (fun h=>h a7.out)) (sR (wDt gBv) Z (oM Z Z (oL Z (ba.ldBA (j:=3) Z Z Z ZP zz (vs:=B0) Z Z) (oR Z (Runs.mkf Z (zB Z zQ) zQ) ?_))))
 have bU:=bz.le ab
 have bV:=bb.le ab
 have bW:=bc.le ab
 have bX:=be.le ab
 have bY:=bf.le ab
 have co:FnOK Try.prog U9 (.func (.func 32) #[.agg B0.toArray] #[]) ar85 rr85 (fun x=>wAq O x):=⟨32,[.agg B0.toArray],[],rfl,Try.call32,fun U1 w1 x y vs le hs ha hm=>by obtain rfl:=ha;exact wDF O am aq an au ao av ap aw x w1 U1 hs (bV.le le) (bW.le le) (bX.le le) (bY.le le) hm⟩
 refine bnK cH fun cX ca cI=>zL 0 Z Z Z Z (zK Z Z Try.call31 (zB Z (zB Z zQ)) Z) ba (fun hs=>wCh p1 aK aL (fun x=>wAq O x) (.func (.func 32) #[.agg B0.toArray] #[]) aF U9 hs bU co ca) (.inr Z) ?_
 rintro bj cP cV aS aI ct ⟨rfl,rfl⟩
 have bx:sW w U bj [B1,.obj af (.map aj ai),B2,.blk b2 45 B0] aS:=ct
 refine oR Z (ZV Z Z) (oA Z Z (eN (ifc cI ?_ ?_)))
 intro a8 cJ
 refine zl (nC a8.out) (sR gCb Z (oM Z Z ?_))
 have q:=bx.freezeR (k:=2) (n:=ac.edges.length) rfl (wAG (f:=wAU) (sz:=7) (fun _=>rfl) ac.edges) (by decide)
 obtain ⟨bk,aJ,bA,cu⟩:=q
 have cw:sW w U bk [B1,.obj af (.map aj ai),.blk b2 45 B0] aS:=cu
 have cb:=bQ.le aI
 have bo:=cb.le aJ
 have cc:=bR.le aI
 have bp:=cc.le aJ
 have cd:=bS.le aI
 have bq:=cd.le aJ
 have ci:=bT.le aI
 have br:=ci.le aJ
 refine bnK cJ fun cY cj cK=>zL 2 Z Z Z Z (zK Z Z Try.call33 (zB Z zQ) Z) cw (fun hs=>wEl ac aG aM aU aN aV aO aW aP aX af aj ai az aH aS bk hs bo bp bq br bn bA cj) (.inl Z) ?_
 rintro aR cN cR bD ay cp ⟨rfl,rfl⟩
 have bu:sW w U aR [B1,.obj af (.map aj ai),.blk b2 45 B0] bD:=cp
 refine oR Z (ZV Z Z) (oA Z Z (eN (ifc cK ?_ ?_)))
 intro aT cx
 refine zl (nC aT.out) (ZL (zd (zF (sR fL3 Z (oM Z Z (oA Z Z (oA Z Z (eN (zT ?_)))))))))
 have bF:=bo.le ay
 have bG:=bp.le ay
 have bH:=bq.le ay
 have bI:=br.le ay
 have bJ:=bA.le ay
 cases cx
 exact ⟨rfl,_,(wEz rfl rfl),aR,_,(bu.pick [0,1] _ (by decide) rfl),aG,aM,aU,aN,aV,aO,aW,aP,aX,af,aj,ai,az,aH,rfl,rfl,bF,bG,bH,bI,bn,bJ⟩
 intro aT cy
 refine ZA (nF (aT.out)) (sR fL2 Z (oA Z Z (oA Z Z (eN (zT (zV (zP ?_)))))))
 cases cy
 exact ⟨rfl,_,(wEz rfl rfl),aR,_,(bu.pick [] _ (by decide) rfl),rfl,rfl⟩
 intro a8 cz
 refine ZA (nF (a8.out)) (sR fL2 Z (oA Z Z (oA Z Z (eN (zT (zV (zP ?_)))))))
 cases cz
 exact ⟨rfl,_,(wEz rfl rfl),bj,_,(bx.pick [] _ (by decide) rfl),rfl,rfl⟩
 intro a7 cA
 refine cT Z a7 (sR fL3 Z (oM Z Z (oA Z Z (oA Z Z (eN (zT (zV (zP ?_))))))))
 cases cA
 exact ⟨rfl,_,(wEz rfl rfl),U9,_,(ba.pick [] _ (by decide) rfl),rfl,rfl⟩
theorem wGk (O:wAW) (w:World) (U:PHeap) (hS:St0 w U [])  {r:wAB} (hm:wDo O=some r):Gv Try.prog 22 [.agg #[jV O.Skier,jV O.Mat]] w (wBz w [] U (fun U_ L_ v=>v=.agg #[jV r.skier,jV r.mat]/\L_=[])):=by
 unfold wDo at hm
 refine Gv.of Try.func22 Z Try.ntmps22 Try.results22 Z (sR gBh Z ?_)
 let B0:List Value:=[jV O.Skier,jV O.Mat]
 refine ZD (cs:=B0) rfl rfl rfl rfl rfl rfl (by rfl) hS ?_
 intro W1 b2 aj
 refine zY (cs:=[jV 0,jV 0]) Z Z Z Z Z zj Z aj ?_
 intro W5 b6 ab
 refine eN (sR (wDD (.fx 5 .nil .stop)) Z (oR Z (zI Z Z Try.runUnderlying54 Z zC) (oL Z (ab.ldB (j:=1) Z Z Z zE (v:=jV O.Skier) Z) (oR Z (zI Z Z Try.runUnderlying54 Z zC) (oL Z (ab.ldB (j:=1) Z Z Z zE (v:=jV O.Mat) Z) (oR Z (zq (pv:=[(0,jV O.Skier),(1,jV O.Mat)]) (z:=[jV 0,jV 0]) (cs:=B0) Z (wAC Z (wAC Z wAR)) zj wBW Z Z) (za (j:=0) (vs:=B0) Z Z Z Z ab Z Z Z Z zG (zA Z) Z Z Z ?_)))))))
 intro W9 ai
 have ac:sW w U U [.blk b6 71 B0,.blk b2 54 B0] W9:=ai
 refine eN (zT ?_)
 cases hm
 exact ⟨rfl,_,(wIJ (v:=.agg B0.toArray) ⟨⟨_,rfl,(wBL zh zG (ac.blkAt (k:=0) rfl) (vs:=B0) rfl rfl)⟩,trivial⟩),U,_,(ac.pick [] _ (by decide) rfl),rfl,rfl⟩
theorem wEJ (O:wAd) (av:Nat) (az:Option Addr) (aI:Nat) (aE:Option Addr) (aJ:Nat) (aF:Option Addr) (aK:Nat) (aG:Option Addr) (aL:Nat) (aa:Nat) (ab:Array MapEntry) (ac:Nat) (aH:Option Addr) (aM:Nat) (p1:wAB) (p2:wAB) (w:World) (U:PHeap) (hS:St0 w U [.blk av 94 [.slice az O.Race.Starts.length aI,.slice aE O.Race.Splits.length aJ,.slice aF O.Race.Clocks.length aK,.slice aG O.Race.Readings.length aL,.map (some aa),.slice aH O.edges.length aM],.obj aa (.map ab ac)]) (bB:Sl U 1 az aI O.Race.Starts.length (hD KL.encI O.Race.Starts)) (bC:Sl U 2 aE aJ O.Race.Splits.length (hD wAE O.Race.Splits)) (bD:Sl U 3 aF aK O.Race.Clocks.length (hD wAP O.Race.Clocks)) (bE:Sl U 4 aG aL O.Race.Readings.length (hD wAH O.Race.Readings)) (aN:MpR ab wCX wCj O.number) (bF:Sl U 7 aH aM O.edges.length (hD wAU O.edges)) {r:wAA} (hm:wBJ O p1 p2=some r):Gv Try.prog 20 [.pointer (some ⟨av,0,none⟩),.agg #[jV p1.skier,jV p1.mat],.agg #[jV p2.skier,jV p2.mat]] w (wBz w [.blk av 94 [.slice az O.Race.Starts.length aI,.slice aE O.Race.Splits.length aJ,.slice aF O.Race.Clocks.length aK,.slice aG O.Race.Readings.length aL,.map (some aa),.slice aH O.edges.length aM],.obj aa (.map ab ac)] U (fun U_ L_ v=>v=.agg #[jV r.Lo,jV r.Hi]/\L_=[.blk av 94 [.slice az O.Race.Starts.length aI,.slice aE O.Race.Splits.length aJ,.slice aF O.Race.Clocks.length aK,.slice aG O.Race.Readings.length aL,.map (some aa),.slice aH O.edges.length aM],.obj aa (.map ab ac)])):=by
 unfold wBJ at hm
 refine Gv.of Try.func20 Z Try.ntmps20 Try.results20 Z (sR (.fx 0 gBi .stop) Z ?_)
 let B0:List Value:=[jV p1.skier,jV p1.mat]
 refine ZD (cs:=B0) rfl rfl rfl rfl rfl rfl (by rfl) hS ?_
 intro W3 b4 dF
 let B1:List Value:=[jV p2.skier,jV p2.mat]
 refine ZD (cs:=B1) rfl rfl rfl rfl rfl rfl (by rfl) dF ?_
 intro W7 b8 dN
 let B2:List Value:=[jV 0,jV 0]
 refine zY (cs:=B2) Z Z Z Z Z ZX Z dN ?_
 intro ci ai dq
 refine eN ?_
 have q:=bnd hm
 obtain ⟨⟨ay,bH⟩,dU,cH⟩:=q
 try dsimp only at cH
 let B3:Res:=.blk av 94 [.slice az O.Race.Starts.length aI,.slice aE O.Race.Splits.length aJ,.slice aF O.Race.Clocks.length aK,.slice aG O.Race.Readings.length aL,.map (some aa),.slice aH O.edges.length aM]
 refine Zp (fun σ_ w_=>∃ (U_:PHeap) (a7:Nat) (aS:Option Addr) (aU:Nat) (aY:Option Addr) (a9:Nat),σ_ 0=.pointer (some ⟨av,0,none⟩)/\σ_ 4=.pointer (some ⟨b4,0,none⟩)/\σ_ 5=.pointer (some ⟨b8,0,none⟩)/\σ_ 6=.pointer (some ⟨ai,0,none⟩)/\σ_ 7=.pointer (some ⟨a7,0,none⟩)/\PHeap.Le U U_/\SW w [B3,.obj aa (.map ab ac)] U U_ [B3,.obj aa (.map ab ac),.blk ai 37 B2,.blk b8 71 B1,.blk b4 71 B0,.blk a7 88 [.slice aS ay.length aU,.slice aY bH.length a9],.row aS aU 3 1 (hD KL.encI ay),.row aY a9 3 1 (hD KL.encI bH)] w_) ?_ ?_
 have q:=bnd dU
 obtain ⟨⟨ap,cK,cL⟩,cB,bQ⟩:=q
 try dsimp only at bQ
 refine zw zx [3,3,3,3,1,1,1,0,3,3,3,3,2,0,3,3] (wHE (.fx 7 (wHF gCe) (.fx 12 (.fx 7 (wHF gBw) (.stop)) (.stop)))) (by kernel_rfl) ?_
 have aW:=dq.drew
 generalize hw_W54:({ ci with drawn:=ci.drawn + 1 }:World)=cp at aW ⊢
 refine oM Z Z (oM Z Z (oR Z (ZY Z Z) (oR Z (zI Z Z ZH Z Zr) (oL Z (aW.ldB (j:=3) Z Z Z Zu (v:=.map (some aa)) Z) (oL Z (aW.ldBA (j:=2) Z Z Z zh zG (vs:=B0) Z Z) (oL Z (aW.lookup1 (j:=4) (mk:=wCX) (mv:=wCj) (a:=p1) (z:=0) Z Z Z Z (wBY ZG) wDS ZN aN) (zo ?_ ?_)))))))
 have dG:SW w [B3,.obj aa (.map ab ac)] U U [B3,.obj aa (.map ab ac),.blk ai 37 B2,.blk b8 71 B1,.blk b4 71 B0] cp:=aW.pick [3,4,0,1,2] _ (by decide) rfl
 refine zL 2 Z Z Z Z (zK Z Z Try.call34 (zB Z (zB Z (zB Z zQ))) Z) dG (fun hs=>wBO O av az aI aE aJ aF aK aG aL aa ab ac aH aM (wAs O.number p1 0) false cp U hs bB bC bD bE aN bF cB) (.inl Z) ?_
 rintro bM d6 eB cU dX dH ⟨bh,bv,bi,bw,rfl,rfl⟩
 let B4:Res:=.row bh bv 3 1 (hD KL.encI ap.far)
 let B5:Res:=.row bi bw 3 1 (hD KL.encI ap.by_)
 have dI:SW w [B3,.obj aa (.map ab ac)] U bM [B4,B5,B3,.obj aa (.map ab ac),.blk ai 37 B2,.blk b8 71 B1,.blk b4 71 B0] cU:=dH
 refine oM Z Z (oR Z (zn Z Z (v:=.agg #[.slice bh ap.far.length bv,.slice bi ap.by_.length bw]) Z) (oR Z (zn Z Z (v:=jV cK) Z) (oR Z (zn Z Z (v:=.bool cL) Z) (zY (cs:=[.slice none 0 0,.slice none 0 0]) Z Z Z Z Z Zd Z dI ?_))))
 intro ej ct dJ
 let B6:List Value:=[.slice bh ap.far.length bv,.slice bi ap.by_.length bw]
 refine za (j:=0) (vs:=B6) Z Z Z Z dJ Z Z Z Z Zs (zA Z) Z Z Z ?_
 intro cV dK
 have dL:SW w [B3,.obj aa (.map ab ac)] U bM [.blk ct 88 B6,B4,B5,B3,.obj aa (.map ab ac),.blk ai 37 B2,.blk b8 71 B1,.blk b4 71 B0] cV:=dK
 refine oA Z Z (oA Z Z (zW ?_))
 cases bQ
 exact zF ⟨rfl,⟨bM,ct,bh,bv,bi,bw,rfl,rfl,rfl,rfl,rfl,dX,(dL.pick [3,4,5,6,7,0,1,2] _ (by decide) rfl)⟩⟩
 let B7:List Value:=[.slice none 0 0,.slice none 0 0]
 refine zY (cs:=B7) Z Z Z Z Z Zd Z aW ?_
 intro cq bn dM
 have dO:SW w [B3,.obj aa (.map ab ac)] U U [B3,.obj aa (.map ab ac),.blk bn 88 B7,.blk ai 37 B2,.blk b8 71 B1,.blk b4 71 B0] cq:=dM.pick [4,5,0,1,2,3] _ (by decide) rfl
 refine zL 2 Z Z Z Z (zK Z Z Try.call34 (zB Z (zB Z (zB Z zQ))) Z) dO (fun hs=>wBO O av az aI aE aJ aF aK aG aL aa ab ac aH aM (wAs O.number p1 0) false cq U hs bB bC bD bE aN bF cB) (.inl Z) ?_
 rintro bN d7 eC cW dY dk ⟨ba,bo,bb,bp,rfl,rfl⟩
 let B8:Res:=.row ba bo 3 1 (hD KL.encI ap.far)
 let B9:Res:=.row bb bp 3 1 (hD KL.encI ap.by_)
 have dl:SW w [B3,.obj aa (.map ab ac)] U bN [B8,B9,B3,.obj aa (.map ab ac),.blk bn 88 B7,.blk ai 37 B2,.blk b8 71 B1,.blk b4 71 B0] cW:=dk
 refine oM Z Z (oR Z (zn Z Z (v:=.agg #[.slice ba ap.far.length bo,.slice bb ap.by_.length bp]) Z) (oR Z (zn Z Z (v:=jV cK) Z) (oR Z (zn Z Z (v:=.bool cL) Z) ?_)))
 let bR:List Value:=[.slice ba ap.far.length bo,.slice bb ap.by_.length bp]
 refine za (j:=4) (vs:=bR) Z Z Z Z dl Z Z Z Z Zs (zA Z) Z Z Z ?_
 intro cM dm
 have dn:SW w [B3,.obj aa (.map ab ac)] U bN [B8,B9,B3,.obj aa (.map ab ac),.blk bn 88 bR,.blk ai 37 B2,.blk b8 71 B1,.blk b4 71 B0] cM:=dm
 refine oA Z Z (oA Z Z (zW ?_))
 cases bQ
 exact zF ⟨rfl,⟨bN,bn,ba,bo,bb,bp,rfl,rfl,rfl,rfl,rfl,dY,(dn.pick [2,3,5,6,7,4,0,1] _ (by decide) rfl)⟩⟩
 rintro eD cj ⟨bj,a7,aS,aU,aY,a9,bx,cu,bO,cw,cx,aw,dp⟩
 have q:=bnd cH
 obtain ⟨⟨ax,bG⟩,dT,cG⟩:=q
 try dsimp only at cG
 let aO:Res:=.blk a7 88 [.slice aS ay.length aU,.slice aY bH.length a9]
 let aP:Res:=.row aS aU 3 1 (hD KL.encI ay)
 let aQ:Res:=.row aY a9 3 1 (hD KL.encI bH)
 refine Zp (fun σ_ w_=>∃ (U_:PHeap) (bk:Nat) (aR:Option Addr) (aT:Nat) (aX:Option Addr) (a8:Nat),σ_ 0=.pointer (some ⟨av,0,none⟩)/\σ_ 4=.pointer (some ⟨b4,0,none⟩)/\σ_ 5=.pointer (some ⟨b8,0,none⟩)/\σ_ 6=.pointer (some ⟨ai,0,none⟩)/\σ_ 7=.pointer (some ⟨a7,0,none⟩)/\σ_ 10=.pointer (some ⟨bk,0,none⟩)/\PHeap.Le bj U_/\SW w [B3,.obj aa (.map ab ac)] U U_ [B3,.obj aa (.map ab ac),.blk ai 37 B2,.blk b8 71 B1,.blk b4 71 B0,aP,aQ,aO,.blk bk 88 [.slice aR ax.length aT,.slice aX bG.length a8],.row aR aT 3 1 (hD KL.encI ax),.row aX a8 3 1 (hD KL.encI bG)] w_) ?_ ?_
 have q:=bnd dT
 obtain ⟨⟨ao,cI,cJ⟩,cA,bP⟩:=q
 try dsimp only at bP
 refine zw zx [3,3,3,3,1,1,1,0,3,3,3,3,2,0,3,3] (wHE (.fx 7 (wHF gCe) (.fx 12 (.fx 7 (wHF gBw) (.stop)) (.stop)))) (by kernel_rfl) ?_
 have aV:=dp.drew
 generalize hw_W172:({ cj with drawn:=cj.drawn + 1 }:World)=cN at aV ⊢
 refine oM Z bx (oM Z bx (oR Z (ZY Z Z) (oR Z (zI Z Z ZH Z Zr) (oL Z (aV.ldB (j:=0) Z Z Z Zu (v:=.map (some aa)) Z) (oL Z (aV.ldBA (j:=3) Z Z bO zh zG (vs:=B1) Z Z) (oL Z (aV.lookup1 (j:=1) (mk:=wCX) (mv:=wCj) (a:=p2) (z:=0) Z Z Z Z (wBY ZG) wDS ZN aN) (zo ?_ ?_)))))))
 have c8:=bB.le aw
 have c9:=bC.le aw
 have da:=bD.le aw
 have db:=bE.le aw
 have dd:=bF.le aw
 refine zL 2 Z Z Z Z (zK Z Z Try.call34 (zB Z (zB Z (zB Z zQ))) Z) aV (fun hs=>wBO O av az aI aE aJ aF aK aG aL aa ab ac aH aM (wAs O.number p2 0) false cN bj hs c8 c9 da db aN dd cA) (.inl Z) ?_
 rintro bK dZ ep cO dV dr ⟨bc,bq,be,br,rfl,rfl⟩
 let bS:Res:=.row bc bq 3 1 (hD KL.encI ao.far)
 let bT:Res:=.row be br 3 1 (hD KL.encI ao.by_)
 have dt:SW w [B3,.obj aa (.map ab ac)] U bK [bS,bT,B3,.obj aa (.map ab ac),.blk ai 37 B2,.blk b8 71 B1,.blk b4 71 B0,aO,aP,aQ] cO:=dr
 refine oM Z Z (oR Z (zn Z Z (v:=.agg #[.slice bc ao.far.length bq,.slice be ao.by_.length br]) Z) (oR Z (zn Z Z (v:=jV cI) Z) (oR Z (zn Z Z (v:=.bool cJ) Z) (zY (cs:=[.slice none 0 0,.slice none 0 0]) Z Z Z Z Z Zd Z dt ?_))))
 intro d8 cr du
 let bU:List Value:=[.slice bc ao.far.length bq,.slice be ao.by_.length br]
 refine za (j:=0) (vs:=bU) Z Z Z Z du Z Z Z Z Zs (zA Z) Z Z Z ?_
 intro cP dv
 have dw:SW w [B3,.obj aa (.map ab ac)] U bK [.blk cr 88 bU,bS,bT,B3,.obj aa (.map ab ac),.blk ai 37 B2,.blk b8 71 B1,.blk b4 71 B0,aO,aP,aQ] cP:=dv
 refine oA Z Z (oA Z Z (zW ?_))
 cases bP
 exact zF ⟨rfl,⟨bK,cr,bc,bq,be,br,bx,cu,bO,cw,cx,rfl,dV,(dw.pick [3,4,5,6,7,9,10,8,0,1,2] _ (by decide) rfl)⟩⟩
 let bI:List Value:=[.slice none 0 0,.slice none 0 0]
 refine zY (cs:=bI) Z Z Z Z Z Zd Z aV ?_
 intro cm bm dx
 have de:=bB.le aw
 have df:=bC.le aw
 have dg:=bD.le aw
 have dh:=bE.le aw
 have di:=bF.le aw
 have dy:SW w [B3,.obj aa (.map ab ac)] U bj [B3,.obj aa (.map ab ac),.blk bm 88 bI,.blk ai 37 B2,.blk b8 71 B1,.blk b4 71 B0,aO,aP,aQ] cm:=dx.pick [1,2,0,3,4,5,6,7,8] _ (by decide) rfl
 refine zL 2 Z Z Z Z (zK Z Z Try.call34 (zB Z (zB Z (zB Z zQ))) Z) dy (fun hs=>wBO O av az aI aE aJ aF aK aG aL aa ab ac aH aM (wAs O.number p2 0) false cm bj hs de df dg dh aN di cA) (.inl Z) ?_
 rintro bL d5 ez cQ dW dz ⟨bf,bt,bg,bu,rfl,rfl⟩
 let bV:Res:=.row bf bt 3 1 (hD KL.encI ao.far)
 let bW:Res:=.row bg bu 3 1 (hD KL.encI ao.by_)
 have dA:SW w [B3,.obj aa (.map ab ac)] U bL [bV,bW,B3,.obj aa (.map ab ac),.blk bm 88 bI,.blk ai 37 B2,.blk b8 71 B1,.blk b4 71 B0,aO,aP,aQ] cQ:=dz
 refine oM Z Z (oR Z (zn Z Z (v:=.agg #[.slice bf ao.far.length bt,.slice bg ao.by_.length bu]) Z) (oR Z (zn Z Z (v:=jV cI) Z) (oR Z (zn Z Z (v:=.bool cJ) Z) ?_)))
 let bX:List Value:=[.slice bf ao.far.length bt,.slice bg ao.by_.length bu]
 refine za (j:=4) (vs:=bX) Z Z Z Z dA Z Z Z Z Zs (zA Z) Z Z Z ?_
 intro cR dB
 have dC:SW w [B3,.obj aa (.map ab ac)] U bL [bV,bW,B3,.obj aa (.map ab ac),.blk bm 88 bX,.blk ai 37 B2,.blk b8 71 B1,.blk b4 71 B0,aO,aP,aQ] cR:=dB
 refine oA Z Z (oA Z Z (zW ?_))
 cases bP
 exact zF ⟨rfl,⟨bL,bm,bf,bt,bg,bu,bx,cu,bO,cw,cx,rfl,dW,(dC.pick [2,3,5,6,7,9,10,8,4,0,1] _ (by decide) rfl)⟩⟩
 rintro eE co ⟨cd,bk,aR,aT,aX,a8,cy,cX,cY,cz,cZ,c6,eo,dD⟩
 refine zJ (zw zx [3,1,3,3,3,1,1,1,3,1,3,3,1,3,3,3,1,1,1,3,1,3,0] (wMO (.fx 22 .nil .stop)) (by kernel_rfl) ?_)
 have an:=dD.drew
 generalize hw_W258:({ co with drawn:=co.drawn + 1 }:World)=d9 at an ⊢
 refine oR Z (zI Z c6 ZS Z ZE) (oL Z (an.ldB (j:=8) Z Z Z ZI (v:=.slice aR ax.length aT) Z) (oM Z cy (oR Z (ZY Z Z) (oR Z (zI Z Z ZH Z Zr) (oL Z (an.ldB (j:=0) Z Z Z Zu (v:=.map (some aa)) Z) (oL Z (an.ldBA (j:=4) Z Z cX zh zG (vs:=B0) Z Z) (oL Z (an.lookup1 (j:=1) (mk:=wCX) (mv:=wCj) (a:=p1) (z:=0) Z Z Z Z (wBY ZG) wDS ZN aN) (bnK cG fun _ bz dR=>?_))))))))
 obtain ⟨ek,cC⟩:=an.rowSome (j:=9) rfl (by rw [wAG (f:=KL.encI) (sz:=1) (fun _=>rfl) ax];have hz:=wAM bz;omega)
 refine oR Z (zr Z Z cC Z zD zC (wAn bz) (wAo bz)) ?_
 have dP:=wAk (xs:=ax) (wAM bz)
 refine zt rfl rfl rfl rfl (an.ldR (j:=9) rfl cC rfl rfl zE (wAO (sz:=1) (fun _=>rfl) _ _ 0 _ dP (by first | omega | rfl | simp) rfl)) rfl (zb rfl rfl rfl rfl (fun _=>Runs.negw rfl rfl) (zb rfl rfl rfl rfl (fun _=>zI rfl cZ ZS rfl ZE) (zt rfl rfl rfl rfl (an.ldB (j:=7) rfl rfl rfl ZI (v:=.slice aS ay.length aU) rfl) rfl (zN rfl rfl rfl rfl rfl cy (zb rfl rfl rfl rfl (fun _=>ZY rfl rfl) (zb rfl rfl rfl rfl (fun _=>zI rfl rfl ZH rfl Zr) (zt rfl rfl rfl rfl (an.ldB (j:=0) rfl rfl rfl Zu (v:=.map (some aa)) rfl) rfl (zt rfl rfl rfl rfl (an.ldBA (j:=3) rfl rfl cY zh zG (vs:=B1) rfl rfl) rfl (zt rfl rfl rfl rfl (an.lookup1 (j:=1) (mk:=wCX) (mv:=wCj) (a:=p2) (z:=0) rfl rfl rfl rfl (wBY ZG) wDS ZN aN) rfl (bnK dR fun _ bA dS=>?_))))))))))
 obtain ⟨en,cD⟩:=an.rowSome (j:=5) rfl (by rw [wAG (f:=KL.encI) (sz:=1) (fun _=>rfl) ay];have hz:=wAM bA;omega)
 refine oR Z (zr Z Z cD Z zD zC (wAn bA) (wAo bA)) ?_
 have dQ:=wAk (xs:=ay) (wAM bA)
 refine zt rfl rfl rfl rfl (an.ldR (j:=5) rfl cD rfl rfl zE (wAO (sz:=1) (fun _=>rfl) _ _ 0 _ dQ (by first | omega | rfl | simp) rfl)) rfl ?_
 let aZ:List Value:=[jV (w64 (-(gd ax (wAs O.number p1 0).toNat))),jV (gd ay (wAs O.number p2 0).toNat)]
 refine oR Z (zq (pv:=[(0,jV (w64 (-(gd ax (wAs O.number p1 0).toNat)))),(1,jV (gd ay (wAs O.number p2 0).toNat))]) (z:=B2) (cs:=aZ) Z (wAC Z (wAC Z wAR)) ZX wDe Z Z) (za (j:=2) (vs:=aZ) Z Z Z Z an Z cz Z Z zi (zA Z) Z Z Z ?_)
 intro cS dE
 have cE:SW w [B3,.obj aa (.map ab ac)] U cd [B3,.obj aa (.map ab ac),.blk ai 37 aZ,.blk b8 71 B1,.blk b4 71 B0,aP,aQ,aO,.blk bk 88 [.slice aR ax.length aT,.slice aX bG.length a8],.row aR aT 3 1 (hD KL.encI ax),.row aX a8 3 1 (hD KL.encI bG)] cS:=dE
 refine eN (zT ?_)
 cases dS
 exact ⟨rfl,_,(wIJ (v:=.agg aZ.toArray) ⟨⟨_,cz,(wBL Zi zi (cE.blkAt (k:=2) rfl) (vs:=aZ) rfl rfl)⟩,trivial⟩),cd,_,(cE.pick [0,1] _ (by decide) rfl),rfl,rfl⟩
theorem wGl (p0:wAD) (az:Option Addr) (aH:Nat) (aE:Option Addr) (aI:Nat) (aF:Option Addr) (aJ:Nat) (aG:Option Addr) (aK:Nat) (p1:wAW) (w:World) (U:PHeap) (hS:St0 w U []) (cE:Sl U 1 az aH p0.Starts.length (hD KL.encI p0.Starts)) (cG:Sl U 2 aE aI p0.Splits.length (hD wAE p0.Splits)) (cH:Sl U 3 aF aJ p0.Clocks.length (hD wAP p0.Clocks)) (cI:Sl U 4 aG aK p0.Readings.length (hD wAH p0.Readings)) {r:wAA × Int} (hm:wCF p0 p1=some r):Gv Try.prog 10 [.agg #[.slice az p0.Starts.length aH,.slice aE p0.Splits.length aI,.slice aF p0.Clocks.length aJ,.slice aG p0.Readings.length aK],.agg #[jV p1.Skier,jV p1.Mat]] w (wBz w [] U (fun U_ L_ v=>v=.tuple #[.agg #[jV r.1.Lo,jV r.1.Hi],jV r.2]/\L_=[])):=by
 unfold wCF at hm
 refine Gv.of Try.func10 Z Try.ntmps10 Try.results10 Z (sR (.fx 0 (.fx 1 gBj .stop) .stop) Z ?_)
 let B0:List Value:=[.slice az p0.Starts.length aH,.slice aE p0.Splits.length aI,.slice aF p0.Clocks.length aJ,.slice aG p0.Readings.length aK]
 refine ZD (cs:=B0) rfl rfl rfl rfl rfl rfl (by rfl) hS ?_
 intro W1 b2 cy
 let B1:List Value:=[jV p1.Skier,jV p1.Mat]
 refine ZD (cs:=B1) rfl rfl rfl rfl rfl rfl (by rfl) cy ?_
 intro W5 b6 cB
 let O:List Value:=[jV 0,jV 0]
 refine zY (cs:=O) Z Z Z Z Z ZX Z cB ?_
 intro W9 ae aR
 refine oA Z Z (eN (sR (.fl 0 (.fl 1 (.fx 2 (.fx 3 (fC4_8 (.nil)) .stop) .stop))) Z (oL Z (aR.ldBA (j:=2) Z Z Z ZP zz (vs:=B0) Z Z) (oL Z (aR.ldBA (j:=1) Z Z Z Try.isAgg54 yM (vs:=B1) Z Z) (ZF (pv:=[(0,.agg B1.toArray)]) (zs:=O) (cs:=B1) Z Z Z Z Z (wAC Z wAR) Try.runUnderlying82 yM Try.zeroValue54 Z Z Z Z Z aR ?_)))))
 intro aN be ct
 have cu:sW w U U [.row (some ⟨be,0,none⟩) 1 54 2 (hD wBv [p1]),.blk ae 37 O,.blk b6 54 B1,.blk b2 45 B0] aN:=ct
 have q:=cu.freezeR (k:=0) (n:=[p1].length) rfl (wAG (f:=wBv) (sz:=2) (fun _=>rfl) [p1]) (by decide)
 obtain ⟨a7,ay,cS,cw⟩:=q
 have cx:sW w U a7 [.blk ae 37 O,.blk b6 54 B1,.blk b2 45 B0] aN:=cw
 have bP:=cE.le ay
 have bQ:=cG.le ay
 have bR:=cH.le ay
 have bS:=cI.le ay
 have q:=bnd hm
 obtain ⟨⟨cV,aL⟩,bT,au⟩:=q
 try dsimp only at au
 refine zL 0 Z Z Z Z (zK Z Z Try.call19 (zB Z (zB Z zQ)) Z) cx (fun hs=>wEu p0 az aH aE aI aF aJ aG aK [p1] (some ⟨be,0,none⟩) 1 aN a7 hs bP bQ bR bS cS bT) (.inr Z) ?_
 rintro aj cZ dn ap dg bo bk
 rcases cV with _ | aq
 try dsimp only at au
 obtain ⟨rfl,rfl⟩:=bk
 have bp:sW w U aj [.blk ae 37 O,.blk b6 54 B1,.blk b2 45 B0] ap:=bo
 refine oM Z Z (oR Z (zn Z Z (v:=.pointer none) Z) (oR Z (zn Z Z (v:=jV aL) Z) (oA Z Z (oA Z Z (eN (zJ (sR fL2 Z (oM Z Z (oR Z (Zo Z Z Z) (eN (ifc au ?_ ?_)))))))))))
 intro aP cM
 refine zl (zy (fun h=>h aP.out)) (kN (zJ (zw zx [3,2,1,2,0,0,3] gCx (by kernel_rfl) ?_)))
 have aS:=bp.drew
 generalize hw_W57:({ ap with drawn:=ap.drawn + 1 }:World)=bz at aS ⊢
 refine oM Z Z (oL Z (aS.ldBA (j:=1) Z Z Z Try.isAgg54 yM (vs:=B1) Z Z) (bnK cM fun dr bU cN=>zL 0 Z Z Z Z (zK Z Z yD zQ Z) aS (fun hs=>wBK bz aj hs bU) (.inr Z) ?_))
 rintro a8 c6 dp bc dh cz ⟨rfl,rfl⟩
 have cA:sW w U a8 [.blk ae 37 O,.blk b6 54 B1,.blk b2 45 B0] bc:=cz
 refine bnK cN fun dt bV cO=>zL 0 Z Z Z Z (zK Z Z Try.call22 (zB Z zQ) Z) cA (fun hs=>wGk p1 bc a8 hs bV) (.inr Z) ?_
 rintro bu c8 dq bA di cC ⟨rfl,rfl⟩
 have de:sW w U bu [.blk ae 37 O,.blk b6 54 B1,.blk b2 45 B0] bA:=cC
 cases cO
 intro aP cP
 refine cT Z aP (sR gCc Z (oR Z (zq (pv:=[]) (z:=O) (cs:=O) Z wAR ZX wDe Z Z) (oM Z Z (za (j:=0) (vs:=O) Z Z Z Z bp Z Z Z Z zi (zA Z) Z Z Z ?_))))
 intro bB cD
 have bq:sW w U aj [.blk ae 37 O,.blk b6 54 B1,.blk b2 45 B0] bB:=cD
 refine oA Z Z (eN (zT (zP ?_)))
 cases cP
 exact ⟨rfl,_,(wDn (rs:=[.cell 4 37,.tmp 5]) (vs:=[.agg O.toArray,jV aL]) ⟨⟨_,rfl,(wBL Zi zi (bq.blkAt (k:=0) rfl) (vs:=O) rfl rfl)⟩,⟨rfl,trivial⟩⟩ rfl),aj,_,(bq.pick [] _ (by decide) rfl),rfl,rfl⟩
 try dsimp only at au
 obtain ⟨aO,aU,bf,aV,bg,aW,bh,aX,bi,ak,an,am,aY,bj,rfl,rfl,bW,bX,bY,bZ,ca,cb⟩:=bk
 let B3:Res:=.blk aO 94 [.slice aU aq.Race.Starts.length bf,.slice aV aq.Race.Splits.length bg,.slice aW aq.Race.Clocks.length bh,.slice aX aq.Race.Readings.length bi,.map (some ak),.slice aY aq.edges.length bj]
 have br:sW w U aj [B3,.obj ak (.map an am),.blk ae 37 O,.blk b6 54 B1,.blk b2 45 B0] ap:=bo
 refine oM Z Z (oR Z (zn Z Z (v:=.pointer (some ⟨aO,0,none⟩)) Z) (oR Z (zn Z Z (v:=jV aL) Z) (oA Z Z (oA Z Z (eN (zJ (sR fL2 Z (oM Z Z (oR Z (Zo Z Z Z) (eN (ifc au ?_ ?_)))))))))))
 intro aQ cQ
 refine zl (zy (fun h=>h aQ.out)) (kN (zJ (zw zx [3,2,1,2,0,0,3] gCx (by kernel_rfl) ?_)))
 have aT:=br.drew
 generalize hw_W94:({ ap with drawn:=ap.drawn + 1 }:World)=bC at aT ⊢
 refine oM Z Z (oL Z (aT.ldBA (j:=3) Z Z Z Try.isAgg54 yM (vs:=B1) Z Z) (bnK cQ fun cW cc cR=>zL 0 Z Z Z Z (zK Z Z yD zQ Z) aT (fun hs=>wBK bC aj hs cc) (.inr Z) ?_))
 rintro a9 c9 dk ba av cd ⟨rfl,rfl⟩
 have ci:sW w U a9 [B3,.obj ak (.map an am),.blk ae 37 O,.blk b6 54 B1,.blk b2 45 B0] ba:=cd
 refine bnK cR fun cU bD cJ=>zL 0 Z Z Z Z (zK Z Z Try.call22 (zB Z zQ) Z) ci (fun hs=>wGk p1 ba a9 hs bD) (.inr Z) ?_
 rintro aZ cX dl bb aw cj ⟨rfl,rfl⟩
 have cm:sW w U aZ [B3,.obj ak (.map an am),.blk ae 37 O,.blk b6 54 B1,.blk b2 45 B0] bb:=cj
 have bE:=bW.le av
 have bF:=bE.le aw
 have bG:=bX.le av
 have bH:=bG.le aw
 have bI:=bY.le av
 have bJ:=bI.le aw
 have bK:=bZ.le av
 have bL:=bK.le aw
 have bM:=cb.le av
 have bN:=bM.le aw
 refine bnK cJ fun bt bO cK=>zL 2 Z Z Z Z (zK Z Z Try.call20 (zB Z (zB Z (zB Z zQ))) Z) cm (fun hs=>wEJ aq aO aU bf aV bg aW bh aX bi ak an am aY bj cW cU bb aZ hs bF bH bJ bL ca bN bO) (.inl Z) ?_
 rintro aM cY dm bv df co ⟨rfl,rfl⟩
 have cp:sW w U aM [B3,.obj ak (.map an am),.blk ae 37 O,.blk b6 54 B1,.blk b2 45 B0] bv:=co
 let B4:List Value:=[jV bt.Lo,jV bt.Hi]
 refine za (j:=2) (vs:=B4) Z Z Z Z cp Z Z Z Z zi (zA Z) Z Z Z ?_
 intro bw cq
 have bm:sW w U aM [B3,.obj ak (.map an am),.blk ae 37 B4,.blk b6 54 B1,.blk b2 45 B0] bw:=cq
 refine oA Z Z (eN (zT ?_))
 cases cK
 exact ⟨rfl,_,(wDn (rs:=[.cell 4 37,.tmp 5]) (vs:=[.agg B4.toArray,jV 0]) ⟨⟨_,rfl,(wBL Zi zi (bm.blkAt (k:=2) rfl) (vs:=B4) rfl rfl)⟩,⟨rfl,trivial⟩⟩ rfl),aM,_,(bm.pick [] _ (by decide) rfl),rfl,rfl⟩
 intro aQ cL
 refine cT Z aQ (sR gCc Z (oR Z (zq (pv:=[]) (z:=O) (cs:=O) Z wAR ZX wDe Z Z) (oM Z Z (za (j:=2) (vs:=O) Z Z Z Z br Z Z Z Z zi (zA Z) Z Z Z ?_))))
 intro bx cr
 have bn:sW w U aj [B3,.obj ak (.map an am),.blk ae 37 O,.blk b6 54 B1,.blk b2 45 B0] bx:=cr
 refine oA Z Z (eN (zT (zP ?_)))
 cases cL
 exact ⟨rfl,_,(wDn (rs:=[.cell 4 37,.tmp 5]) (vs:=[.agg O.toArray,jV aL]) ⟨⟨_,rfl,(wBL Zi zi (bn.blkAt (k:=2) rfl) (vs:=O) rfl rfl)⟩,⟨rfl,trivial⟩⟩ rfl),aj,_,(bn.pick [] _ (by decide) rfl),rfl,rfl⟩
end Go.Proofs.Ytkedcbligiebkaa
