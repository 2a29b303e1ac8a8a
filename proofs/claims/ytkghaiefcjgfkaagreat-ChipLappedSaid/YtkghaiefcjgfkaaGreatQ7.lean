import Derived.Test.YtkghaiefcjgfkaaGreatQ6
import Derived.Test.YtkghaiefcjgfkaaGreatQ5
set_option linter.all false
open List renaming flatMap->hD,getElem_cons_succ->hJ,getElem_cons_zero->nA,getElem_toArray->nB,length_set->nE,set->nG
open Int renaming toNat_natCast->nD,eq_ofNat_of_zero_le->nI
open Option.some renaming inj->nH
open Go.Value renaming bool->nJ
open Bool renaming eq_false_iff->nK
namespace Go.Proofs.YtkghaiefcjgfkaaGreat
open Go.KL
def gBr:Sch:=.fx 2 (.fx 3 .nil .stop) .stop
def gBs:Sch:=.fx 6 (.fx 7 .nil .stop) .stop
def gBt:Sch:=.fx 8 (.fx 9 .nil .stop) .stop
def gBu:Sch:=.fl 7 (.fx 9 .nil .stop)
def gBv:Sch:=.fx 4 (.fl 5 .nil) .stop
def gBw:Sch:=.fx 7 (.fx 8 .nil .stop) .stop
def gBx:Sch:=.fx 6 (.fx 8 .nil .stop) .stop
def gBy:Sch:=.fx 0 (.fx 1 .nil .stop) .stop
def gBz:Sch:=.fx 1 (.fx 2 .nil .stop) .stop
def gCa:Sch:=.fx 2 (.fl 3 .nil) .stop
def gCb:Sch:=.fl 14 (.fx 16 .nil .stop)
def gCc:Sch:=.fl 17 (.fx 18 .nil .stop)
def gCd:Sch:=.fx 6 gBu .stop
def gCe:Sch:=.fx 4 gBu .stop
def gCf:Sch:=.fx 1 (.fl 2 (.fl 3 .nil)) .stop
def gCg:Sch:=.fx 3 gBv .stop
def gCh:Sch:=.fl 22 (.fl 23 (.fx 24 .nil .stop))
def gCi:Sch:=.fx 0 (.fl 1 (.fl 2 .nil)) .stop
def gCj:Sch:=.fx 7 (.fl 8 (.fl 9 .nil)) .stop
def gCk:Sch:=.fl 14 (.fx 15 (.fx 16 .nil .stop) .stop)
def gCl:Sch:=.fx 13 gCb .stop
def gCm:Sch:=.fx 3 (.fl 4 (.fl 5 .nil)) .stop
def gCn:Sch:=.fx 13 (.fl 14 (.fl 15 .nil)) .stop
def gCo:Sch:=.fl 7 (.fx 2 gBt .stop)
def gCp:Sch:=.fl 4 (.fl 5 gBx)
def gCq:Sch:=.fx 0 (.fl 5 gBx) .stop
def gCr:Sch:=.fx 21 gCh .stop
def gCs:Sch:=.fl 0 gCf
def gCt:Sch:=.fl 0 (.fl 1 gCa)
def gCu:Sch:=.fx 7 gCl .stop
def gCv:Sch:=.fx 12 gCn .stop
def gCw:Sch:=.fx 6 (.fl 7 gBt) (.fx 8 gCd .stop)
def gCx:Sch:=.fx 4 (.fl 7 gBt) (.fx 8 gCe .stop)
def gCy:Sch:=.fx 0 (.fx 1 (.fx 2 (.fx 3 (.fl 4 .nil) .stop) .stop) .stop) .stop
def gCz:Sch:=.fl 5 (.fx 6 gBw (.fx 7 gBx .stop))
def gDa:Sch:=.fx 3 gCp .stop
def gDb:Sch:=.fx 13 gCk (.fx 15 gCl .stop)
def gDc:Sch:=.fx 6 (.fl 12 gCl) .stop
def gDd:Sch:=.fx 4 (.fx 16 gCc .stop) (.fx 16 (.fx 4 gCc .stop) .stop)
def gDe:Sch:=.fx 2 gDa .stop
def gDf:Sch:=.fx 1 gDa .stop
def gDg:Sch:=.fx 0 gDc .stop
def gDh:Sch:=.fl 1 (.fl 2 (.fx 0 (.fl 3 (.fx 4 (.fx 5 .nil .stop) .stop)) (.fx 4 (.fx 0 (.fl 3 (.fx 5 .nil .stop)) .stop) .stop)))
def gDi:Sch:=.fl 0 (.fl 2 (.fx 1 gCg (.fx 3 (.fx 1 gBv .stop) .stop)))
def gDj:Sch:=.fx 3 (.fl 4 gCz) (.fx 7 gDa .stop)
def gDk:Sch:=.fl 4 (.fx 0 gCz (.fx 7 gCq .stop))
def gDl:Sch:=.fx 0 gDa (.fx 3 (.fl 4 gCq) .stop)
def gDm:Sch:=.fx 6 (.fl 12 gDb) (.fx 15 gDc .stop)
def gDn:Sch:=.fx 6 (.fl 12 gCu) (.fx 7 gDc .stop)
def gDo:Sch:=.fl 0 (.fl 2 (.fx 1 (.fx 3 (.fx 4 (.fx 5 (.fl 6 .nil) .stop) .stop) .stop) .stop))
def gDp:Sch:=.fx 2 gDj (.fx 7 gDe .stop)
def gDq:Sch:=.fx 1 gDj (.fx 7 gDf .stop)
def gDr:Sch:=.fx 1 gDe (.fx 2 gDf .stop)
def gDs:Sch:=.fx 0 gDe (.fx 2 gDl .stop)
def gDt:Sch:=.fx 0 gDf (.fx 1 gDl .stop)
def gDu:Sch:=.fx 0 gDj (.fx 3 gDk (.fx 7 gDl .stop))
set_option maxHeartbeats 4000000
theorem wGx (p0:wAE) (bj:Option Addr) (bn:Nat) (bk:Option Addr) (bo:Nat) (bm:Option Addr) (bp:Nat) (aV:Option Addr) (aW:Nat) (p1:wAG) (w:World) (U:PHeap) (hS:St0 w U []) (gy:Sl U 1 bj bn p0.Starts.length (hD KL.encI p0.Starts)) (gz:Sl U 2 bk bo p0.Splits.length (hD wAF p0.Splits)) (gA:Sl U 3 bm bp p0.Clocks.length (hD wAA p0.Clocks)) (fu:Sl U 4 aV aW p0.Readings.length (hD wAB p0.Readings)) {r:wAH × wAH} (hm:wDW p0 p1=some r):Gv Tryz.prog 126 [.agg #[.slice bj p0.Starts.length bn,.slice bk p0.Splits.length bo,.slice bm p0.Clocks.length bp,.slice aV p0.Readings.length aW],.agg #[jV p1.Kind,jV p1.Skier,jV p1.Index,.bool p1.Up]] w (wBa w [] U (fun U_ L_ v=>v=.tuple #[.agg #[jV r.1.skier,jV r.1.mat],.agg #[jV r.2.skier,jV r.2.mat]]/\L_=[])):=by
 unfold wDW at hm
 refine Gv.of Tryz.func126 Z Tryz.ntmps126 Tryz.results126 Z (sR (.fx 0 (.fx 1 gBr .stop) .stop) Z ?_)
 let B0:List Value:=[.slice bj p0.Starts.length bn,.slice bk p0.Splits.length bo,.slice bm p0.Clocks.length bp,.slice aV p0.Readings.length aW]
 refine ZC (cs:=B0) rfl rfl rfl rfl rfl rfl (by rfl) hS ?_
 intro W1 b2 eY
 let B1:List Value:=[jV p1.Kind,jV p1.Skier,jV p1.Index,.bool p1.Up]
 refine ZC (cs:=B1) rfl rfl rfl rfl rfl rfl (by rfl) eY ?_
 intro W5 b6 ft
 let B2:List Value:=[jV 0,jV 0]
 refine zW (cs:=B2) Z Z Z Z Z zf Z ft ?_
 intro W9 ae ep
 refine zW (cs:=B2) Z Z Z Z Z zf Z ep ?_
 intro fU af ay
 refine eN (sR (wFd gBs) Z (oR Z (zJ Z Z zP Z Zo) (oL Z (ay.ldB (j:=3) Z Z Z yN (v:=.slice aV p0.Readings.length aW) Z) (oR Z (zJ Z Z zq Z zD) (oL Z (ay.ldB (j:=2) Z Z Z zF (v:=jV p1.Index) Z) (bnK hm fun ab bf fw=>?_))))))
 have q:=fu.el (fun _=>rfl) (wAX bf)
 obtain ⟨gh,gC,ef,eh⟩:=q
 refine oR Z (Ze Z Z ef Z ZY Zg (wBt bf) (wBy bf)) (oL Z (ay.ldCA (f:=0) eh Z Z yr Zg (us:=[jV ab.Skier,jV ab.Mat,jV ab.Clock,jV ab.Time]) Z Z) (zW (cs:=[jV 0,jV 0,jV 0,jV 0]) Z Z Z Z Z Zn Z ay ?_))
 intro f8 aa eO
 let B3:List Value:=[jV ab.Skier,jV ab.Mat,jV ab.Clock,jV ab.Time]
 refine zX (j:=0) (vs:=B3) Z Z Z Z eO Z Z Z Z Zg (zA Z) Z Z Z ?_
 intro a6 eX
 have eZ:sW w U U [.blk aa 52 B3,.blk af 115 B2,.blk ae 115 B2,.blk b6 101 B1,.blk b2 45 B0] a6:=eX
 refine eN ?_
 have q:=bnd fw
 obtain ⟨⟨fN,fO⟩,fz,ci⟩:=q
 try dsimp only at ci
 let B4:List Value:=[jV ab.Skier,jV ab.Mat]
 let B5:List Value:=[jV fN,jV fO]
 refine yW (fun σ_ w_=>∃ (U_:PHeap),σ_ 4=.pointer (some ⟨ae,0,none⟩)/\σ_ 5=.pointer (some ⟨af,0,none⟩)/\PHeap.Le U U_/\sW w U U_ [.blk aa 52 B3,.blk af 115 B4,.blk ae 115 B5,.blk b6 101 B1,.blk b2 45 B0] w_) ?_ ?_
 refine bnK fz fun cA ax fy=>ZF ZB [3,1,2,3,2,3,2,3,0,0] (.fl 0 (.fl 1 (.fl 3 (.fl 5 (.fx 2 (.fx 4 gCw (.fx 6 gCx (.fx 8 (.fx 4 gCd (.fx 6 gCe .stop)) .stop))) (.fx 4 (.fx 2 gCw (.fx 6 gCo .stop)) (.fx 6 (.fx 2 gCx (.fx 4 gCo .stop)) .stop))))))) (by kernel_rfl) ?_
 have ap:=eZ.drew
 generalize hw_W54:({ a6 with drawn:=a6.drawn + 1 }:World)=a7 at ap ⊢
 let B6:List Value:=[jV cA.skier,jV cA.mat]
 refine ZS (s:=.nil) (M:=fun σ_ w_=>∃ (U_:PHeap),σ_ 4=.pointer (some ⟨ae,0,none⟩)/\σ_ 5=.pointer (some ⟨af,0,none⟩)/\σ_ 6=.pointer (some ⟨aa,0,none⟩)/\σ_ 13=.pointer (some ⟨aa,2,none⟩)/\σ_ 14=jV ab.Clock/\σ_ 15=.agg B6.toArray/\σ_ 16=.pointer (some ⟨aa,0,none⟩)/\σ_ 17=jV ab.Skier/\σ_ 18=.pointer (some ⟨aa,1,none⟩)/\σ_ 19=jV ab.Mat/\σ_ 20=.agg B4.toArray/\PHeap.Le U U_/\sW w U U_ [.blk aa 52 B3,.blk af 115 B4,.blk ae 115 B6,.blk b6 101 B1,.blk b2 45 B0] w_) ?_ fun cj=>?_
 rintro gH fV ⟨cB,cU,cV,gi,gj,gm,gq,gt,gu,gv,gw,gx,fB,eu⟩
 refine zg ?_
 cases fy
 exact zI ⟨Z,⟨cB,cU,cV,fB,eu⟩⟩
 refine ZS (s:=.fx 9 .nil .stop) (M:=fun σ_ w_=>∃ (U_:PHeap),σ_ 4=.pointer (some ⟨ae,0,none⟩)/\σ_ 5=.pointer (some ⟨af,0,none⟩)/\σ_ 6=.pointer (some ⟨aa,0,none⟩)/\σ_ 13=.pointer (some ⟨aa,2,none⟩)/\σ_ 14=jV ab.Clock/\σ_ 15=.agg B6.toArray/\σ_ 16=.pointer (some ⟨aa,0,none⟩)/\σ_ 17=jV ab.Skier/\σ_ 18=.pointer (some ⟨aa,1,none⟩)/\σ_ 19=jV ab.Mat/\σ_ 20=.agg B4.toArray/\PHeap.Le U U_/\sW w U U_ [.blk aa 52 B3,.blk af 115 B2,.blk ae 115 B6,.blk b6 101 B1,.blk b2 45 B0] w_) ?_ fun cm=>?_
 rintro gI fW ⟨bq,cW,bx,cX,cY,cZ,c6,c8,da,db,dd,bz,fC,ew⟩
 refine zX (j:=1) (vs:=B4) Z Z Z Z ew Z bx bz Z zK (zA Z) Z Z Z ?_
 intro cH eA
 have eB:sW w U bq [.blk aa 52 B3,.blk af 115 B4,.blk ae 115 B6,.blk b6 101 B1,.blk b2 45 B0] cH:=eA
 exact cj _ _ ⟨bq,cW,bx,cX,cY,cZ,c6,c8,da,db,dd,bz,fC,eB⟩
 refine ZS (s:=gBt) (M:=fun σ_ w_=>∃ (U_:PHeap),σ_ 4=.pointer (some ⟨ae,0,none⟩)/\σ_ 5=.pointer (some ⟨af,0,none⟩)/\σ_ 6=.pointer (some ⟨aa,0,none⟩)/\σ_ 13=.pointer (some ⟨aa,2,none⟩)/\σ_ 14=jV ab.Clock/\σ_ 15=.agg B6.toArray/\σ_ 16=.pointer (some ⟨aa,0,none⟩)/\σ_ 17=jV ab.Skier/\σ_ 18=.pointer (some ⟨aa,1,none⟩)/\σ_ 19=jV ab.Mat/\σ_ 20=.agg B4.toArray/\PHeap.Le U U_/\sW w U U_ [.blk aa 52 B3,.blk af 115 B2,.blk ae 115 B2,.blk b6 101 B1,.blk b2 45 B0] w_) ?_ fun fA=>?_
 rintro gJ fY ⟨br,bA,de,df,dg,dh,bB,di,dm,dn,dp,dq,fD,eD⟩
 refine zX (j:=2) (vs:=B6) Z Z Z Z eD Z bA bB Z zK (zA Z) Z Z Z ?_
 intro cI eF
 have eG:sW w U br [.blk aa 52 B3,.blk af 115 B2,.blk ae 115 B6,.blk b6 101 B1,.blk b2 45 B0] cI:=eF
 exact cm _ _ ⟨br,bA,de,df,dg,dh,bB,di,dm,dn,dp,dq,fD,eG⟩
 refine ZS (s:=gBu) (M:=fun σ_ w_=>∃ (U_:PHeap),σ_ 4=.pointer (some ⟨ae,0,none⟩)/\σ_ 5=.pointer (some ⟨af,0,none⟩)/\σ_ 6=.pointer (some ⟨aa,0,none⟩)/\σ_ 13=.pointer (some ⟨aa,2,none⟩)/\σ_ 14=jV ab.Clock/\σ_ 15=.agg B6.toArray/\σ_ 16=.pointer (some ⟨aa,0,none⟩)/\σ_ 17=jV ab.Skier/\σ_ 18=.pointer (some ⟨aa,1,none⟩)/\σ_ 19=jV ab.Mat/\PHeap.Le U U_/\sW w U U_ [.blk aa 52 B3,.blk af 115 B2,.blk ae 115 B6,.blk b6 101 B1,.blk b2 45 B0] w_) ?_ fun co=>?_
 rintro gK fZ ⟨bs,dr,bC,dt,du,dv,dw,dx,bD,dy,bE,fE,eH⟩
 refine oR Z (zu (pv:=[(0,jV ab.Skier),(1,jV ab.Mat)]) (z:=B2) (cs:=B4) Z (wAD bD (wAD bE wAM)) zf wBY Z Z) (zX (j:=1) (vs:=B4) Z Z Z Z eH Z bC Z Z zK (zA Z) Z Z Z ?_)
 intro cJ eI
 have eJ:sW w U bs [.blk aa 52 B3,.blk af 115 B4,.blk ae 115 B6,.blk b6 101 B1,.blk b2 45 B0] cJ:=eI
 exact cj _ _ ⟨bs,dr,bC,dt,du,dv,dw,dx,bD,dy,bE,Z,fE,eJ⟩
 refine ZS (s:=gCe) (M:=fun σ_ w_=>∃ (U_:PHeap),σ_ 4=.pointer (some ⟨ae,0,none⟩)/\σ_ 5=.pointer (some ⟨af,0,none⟩)/\σ_ 6=.pointer (some ⟨aa,0,none⟩)/\σ_ 13=.pointer (some ⟨aa,2,none⟩)/\σ_ 14=jV ab.Clock/\σ_ 15=.agg B6.toArray/\σ_ 16=.pointer (some ⟨aa,0,none⟩)/\σ_ 18=.pointer (some ⟨aa,1,none⟩)/\σ_ 19=jV ab.Mat/\PHeap.Le U U_/\sW w U U_ [.blk aa 52 B3,.blk af 115 B2,.blk ae 115 B6,.blk b6 101 B1,.blk b2 45 B0] w_) ?_ fun cp=>?_
 rintro gL f5 ⟨cC,dz,dA,dB,dC,dD,dE,bF,dF,dG,fG,cd⟩
 exact Zb Z Z Z Z (cd.ldB (j:=0) Z Z bF zF (v:=jV ab.Skier) Z) (co _ _ ⟨cC,dz,dA,dB,dC,dD,dE,bF,Z,dF,dG,fG,cd⟩)
 refine ZS (s:=gCd) (M:=fun σ_ w_=>∃ (U_:PHeap),σ_ 4=.pointer (some ⟨ae,0,none⟩)/\σ_ 5=.pointer (some ⟨af,0,none⟩)/\σ_ 6=.pointer (some ⟨aa,0,none⟩)/\σ_ 13=.pointer (some ⟨aa,2,none⟩)/\σ_ 14=jV ab.Clock/\σ_ 15=.agg B6.toArray/\σ_ 16=.pointer (some ⟨aa,0,none⟩)/\σ_ 17=jV ab.Skier/\σ_ 18=.pointer (some ⟨aa,1,none⟩)/\PHeap.Le U U_/\sW w U U_ [.blk aa 52 B3,.blk af 115 B2,.blk ae 115 B6,.blk b6 101 B1,.blk b2 45 B0] w_) ?_ fun cq=>?_
 rintro gM f7 ⟨cD,dH,dI,dJ,dK,dL,dM,dN,dO,bG,fH,cg⟩
 exact Zb Z Z Z Z (cg.ldB (j:=0) Z Z bG zF (v:=jV ab.Mat) Z) (co _ _ ⟨cD,dH,dI,dJ,dK,dL,dM,dN,dO,bG,Z,fH,cg⟩)
 refine ZS (s:=.fl 7 gBt) (M:=fun σ_ w_=>∃ (U_:PHeap),σ_ 4=.pointer (some ⟨ae,0,none⟩)/\σ_ 5=.pointer (some ⟨af,0,none⟩)/\σ_ 6=.pointer (some ⟨aa,0,none⟩)/\σ_ 13=.pointer (some ⟨aa,2,none⟩)/\σ_ 14=jV ab.Clock/\σ_ 15=.agg B6.toArray/\σ_ 16=.pointer (some ⟨aa,0,none⟩)/\σ_ 17=jV ab.Skier/\σ_ 18=.pointer (some ⟨aa,1,none⟩)/\σ_ 19=jV ab.Mat/\PHeap.Le U U_/\sW w U U_ [.blk aa 52 B3,.blk af 115 B2,.blk ae 115 B2,.blk b6 101 B1,.blk b2 45 B0] w_) ?_ fun cr=>?_
 rintro gN f9 ⟨bt,bH,dP,dQ,dR,dS,bI,dT,bJ,dU,bK,fI,eK⟩
 refine oR Z (zu (pv:=[(0,jV ab.Skier),(1,jV ab.Mat)]) (z:=B2) (cs:=B4) Z (wAD bJ (wAD bK wAM)) zf wBY Z Z) (zX (j:=2) (vs:=B6) Z Z Z Z eK Z bH bI Z zK (zA Z) Z Z Z ?_)
 intro cK eM
 have eQ:sW w U bt [.blk aa 52 B3,.blk af 115 B2,.blk ae 115 B6,.blk b6 101 B1,.blk b2 45 B0] cK:=eM
 exact cm _ _ ⟨bt,bH,dP,dQ,dR,dS,bI,dT,bJ,dU,bK,Z,fI,eQ⟩
 refine ZS (s:=gCo) (M:=fun σ_ w_=>∃ (U_:PHeap),σ_ 4=.pointer (some ⟨ae,0,none⟩)/\σ_ 5=.pointer (some ⟨af,0,none⟩)/\σ_ 6=.pointer (some ⟨aa,0,none⟩)/\σ_ 13=.pointer (some ⟨aa,2,none⟩)/\σ_ 14=jV ab.Clock/\σ_ 16=.pointer (some ⟨aa,0,none⟩)/\σ_ 17=jV ab.Skier/\σ_ 18=.pointer (some ⟨aa,1,none⟩)/\σ_ 19=jV ab.Mat/\PHeap.Le U U_/\sW w U U_ [.blk aa 52 B3,.blk af 115 B2,.blk ae 115 B2,.blk b6 101 B1,.blk b2 45 B0] w_) ?_ fun cu=>?_
 rintro gO cL ⟨cE,dV,dW,dX,dY,bL,dZ,bM,d5,bN,fJ,eU⟩
 refine oR Z (zu (pv:=[(0,jV ab.Skier),(1,jV ab.Mat)]) (z:=B2) (cs:=B4) Z (wAD bM (wAD bN wAM)) zf wBY Z Z) (zH 0 Z Z Z Z (zG Z Z Tryz.call73 (zB bL zO) Z) eU (fun hs=>wCq ab.Clock cL cE hs ax) (.inr Z) ?_)
 rintro bu fP gD cM fK eV ⟨rfl,rfl⟩
 have eW:sW w U bu [.blk aa 52 B3,.blk af 115 B2,.blk ae 115 B2,.blk b6 101 B1,.blk b2 45 B0] cM:=eV
 exact fA _ _ ⟨bu,dV,dW,dX,dY,bL,Z,dZ,bM,d5,bN,Z,(fJ.trans fK),eW⟩
 refine ZS (s:=gCx) (M:=fun σ_ w_=>∃ (U_:PHeap),σ_ 4=.pointer (some ⟨ae,0,none⟩)/\σ_ 5=.pointer (some ⟨af,0,none⟩)/\σ_ 6=.pointer (some ⟨aa,0,none⟩)/\σ_ 13=.pointer (some ⟨aa,2,none⟩)/\σ_ 14=jV ab.Clock/\σ_ 15=.agg B6.toArray/\σ_ 16=.pointer (some ⟨aa,0,none⟩)/\σ_ 18=.pointer (some ⟨aa,1,none⟩)/\σ_ 19=jV ab.Mat/\PHeap.Le U U_/\sW w U U_ [.blk aa 52 B3,.blk af 115 B2,.blk ae 115 B2,.blk b6 101 B1,.blk b2 45 B0] w_) ?_ fun cw=>?_
 rintro gP ga ⟨aY,a8,bP,bQ,bR,bS,ba,bb,bU,bV,cy,bg⟩
 refine zw ?_ ?_
 exact Zb Z Z Z Z (bg.ldB (j:=0) Z Z bb zF (v:=jV ab.Skier) Z) (cr _ _ ⟨aY,a8,bP,bQ,bR,bS,ba,bb,Z,bU,bV,cy,bg⟩)
 refine zX (j:=2) (vs:=B6) Z Z Z Z bg Z a8 ba Z zK (zA Z) Z Z Z ?_
 intro cN fb
 have fc:sW w U aY [.blk aa 52 B3,.blk af 115 B2,.blk ae 115 B6,.blk b6 101 B1,.blk b2 45 B0] cN:=fb
 exact cp _ _ ⟨aY,a8,bP,bQ,bR,bS,ba,bb,bU,bV,cy,fc⟩
 refine ZS (s:=gCw) (M:=fun σ_ w_=>∃ (U_:PHeap),σ_ 4=.pointer (some ⟨ae,0,none⟩)/\σ_ 5=.pointer (some ⟨af,0,none⟩)/\σ_ 6=.pointer (some ⟨aa,0,none⟩)/\σ_ 13=.pointer (some ⟨aa,2,none⟩)/\σ_ 14=jV ab.Clock/\σ_ 15=.agg B6.toArray/\σ_ 16=.pointer (some ⟨aa,0,none⟩)/\σ_ 17=jV ab.Skier/\σ_ 18=.pointer (some ⟨aa,1,none⟩)/\PHeap.Le U U_/\sW w U U_ [.blk aa 52 B3,.blk af 115 B2,.blk ae 115 B2,.blk b6 101 B1,.blk b2 45 B0] w_) ?_ fun cx=>?_
 rintro gQ gb ⟨aZ,bc,bW,bX,bY,bZ,bd,ca,cc,be,cz,bh⟩
 refine zw ?_ ?_
 exact Zb Z Z Z Z (bh.ldB (j:=0) Z Z be zF (v:=jV ab.Mat) Z) (cr _ _ ⟨aZ,bc,bW,bX,bY,bZ,bd,ca,cc,be,Z,cz,bh⟩)
 refine zX (j:=2) (vs:=B6) Z Z Z Z bh Z bc bd Z zK (zA Z) Z Z Z ?_
 intro cO fd
 have ff:sW w U aZ [.blk aa 52 B3,.blk af 115 B2,.blk ae 115 B6,.blk b6 101 B1,.blk b2 45 B0] cO:=fd
 exact cq _ _ ⟨aZ,bc,bW,bX,bY,bZ,bd,ca,cc,be,cz,ff⟩
 refine oR Z (zJ Z Z ZL Z zD) (oL Z (ap.ldB (j:=0) Z Z Z zF (v:=jV ab.Clock) Z) (oR Z (zJ Z Z ZL Z zD) (oR Z (zJ Z Z ZL Z zD) (zw ?_ ?_))))
 refine zH 0 Z Z Z Z (zG Z Z Tryz.call73 (zB Z zO) Z) ap (fun hs=>wCq ab.Clock a7 U hs ax) (.inr Z) ?_
 rintro au fQ gE cP aU fg ⟨rfl,rfl⟩
 have av:sW w U au [.blk aa 52 B3,.blk af 115 B2,.blk ae 115 B2,.blk b6 101 B1,.blk b2 45 B0] cP:=fg
 refine zw ?_ ?_
 exact Zb Z Z Z Z (av.ldB (j:=0) Z Z Z zF (v:=jV ab.Skier) Z) (cx _ _ ⟨au,Z,Z,Z,Z,Z,Z,Z,Z,Z,aU,av⟩)
 refine zw ?_ ?_
 exact Zb Z Z Z Z (av.ldB (j:=0) Z Z Z zF (v:=jV ab.Mat) Z) (cw _ _ ⟨au,Z,Z,Z,Z,Z,Z,Z,Z,Z,aU,av⟩)
 refine zX (j:=2) (vs:=B6) Z Z Z Z av Z Z Z Z zK (zA Z) Z Z Z ?_
 intro cQ fh
 have az:sW w U au [.blk aa 52 B3,.blk af 115 B2,.blk ae 115 B6,.blk b6 101 B1,.blk b2 45 B0] cQ:=fh
 refine zw ?_ ?_
 exact Zb Z Z Z Z (az.ldB (j:=0) Z Z Z zF (v:=jV ab.Skier) Z) (cq _ _ ⟨au,Z,Z,Z,Z,Z,Z,Z,Z,Z,aU,az⟩)
 exact Zb Z Z Z Z (az.ldB (j:=0) Z Z Z zF (v:=jV ab.Mat) Z) (cp _ _ ⟨au,Z,Z,Z,Z,Z,Z,Z,Z,Z,aU,az⟩)
 refine zw ?_ ?_
 refine Zb Z Z Z Z (ap.ldB (j:=0) Z Z Z zF (v:=jV ab.Skier) Z) (zw ?_ ?_)
 refine zH 0 Z Z Z Z (zG Z Z Tryz.call73 (zB Z zO) Z) ap (fun hs=>wCq ab.Clock a7 U hs ax) (.inr Z) ?_
 rintro bv fR gF cR fL fj ⟨rfl,rfl⟩
 have fk:sW w U bv [.blk aa 52 B3,.blk af 115 B2,.blk ae 115 B2,.blk b6 101 B1,.blk b2 45 B0] cR:=fj
 exact cx _ _ ⟨bv,Z,Z,Z,Z,Z,Z,Z,Z,Z,fL,fk⟩
 exact Zb Z Z Z Z (ap.ldB (j:=0) Z Z Z zF (v:=jV ab.Mat) Z) (cu _ _ ⟨U,Z,Z,Z,Z,Z,Z,Z,Z,Z,(zN _),ap⟩)
 refine Zb Z Z Z Z (ap.ldB (j:=0) Z Z Z zF (v:=jV ab.Mat) Z) (zw ?_ ?_)
 refine zH 0 Z Z Z Z (zG Z Z Tryz.call73 (zB Z zO) Z) ap (fun hs=>wCq ab.Clock a7 U hs ax) (.inr Z) ?_
 rintro bw fS gG cS fM fm ⟨rfl,rfl⟩
 have fq:sW w U bw [.blk aa 52 B3,.blk af 115 B2,.blk ae 115 B2,.blk b6 101 B1,.blk b2 45 B0] cS:=fm
 exact cw _ _ ⟨bw,Z,Z,Z,Z,Z,Z,Z,Z,Z,fM,fq⟩
 exact Zb Z Z Z Z (ap.ldB (j:=0) Z Z Z zF (v:=jV ab.Skier) Z) (cu _ _ ⟨U,Z,Z,Z,Z,Z,Z,Z,Z,Z,(zN _),ap⟩)
 rintro gR ge ⟨cG,d7,d9,gB,bi⟩
 refine zR ?_
 cases ci
 exact ⟨rfl,_,(wEH (rs:=[.cell 4 115,.cell 5 115]) (vs:=[.agg B5.toArray,.agg B4.toArray]) ⟨⟨_,d7,(wBN zk zK (bi.blkAt (k:=2) rfl) (vs:=B5) rfl rfl)⟩,⟨⟨_,d9,(wBN zk zK (bi.blkAt (k:=1) rfl) (vs:=B4) rfl rfl)⟩,trivial⟩⟩ rfl),cG,_,(bi.pick [] _ (by decide) rfl),rfl,rfl⟩
theorem wGy (p0:wAE) (ao:Option Addr) (aq:Nat) (ap:Option Addr) (au:Nat) (ag:Option Addr) (ah:Nat) (aj:Option Addr) (ak:Nat) (p1:wAG) (w:World) (U:PHeap) (hS:St0 w U []) (bq:Sl U 1 ao aq p0.Starts.length (hD KL.encI p0.Starts)) (br:Sl U 2 ap au p0.Splits.length (hD wAF p0.Splits)) (az:Sl U 3 ag ah p0.Clocks.length (hD wAA p0.Clocks)) (bf:Sl U 4 aj ak p0.Readings.length (hD wAB p0.Readings)) {r:Int × Int} (hm:wDX p0 p1=some r):Gv Tryz.prog 127 [.agg #[.slice ao p0.Starts.length aq,.slice ap p0.Splits.length au,.slice ag p0.Clocks.length ah,.slice aj p0.Readings.length ak],.agg #[jV p1.Kind,jV p1.Skier,jV p1.Index,.bool p1.Up]] w (wBa w [] U (fun U_ L_ v=>v=.tuple #[jV r.1,jV r.2]/\L_=[])):=by
 unfold wDX at hm
 refine Gv.of Tryz.func127 Z Tryz.ntmps127 Tryz.results127 Z (sR (.fx 0 gCf .stop) Z ?_)
 let B0:List Value:=[.slice ao p0.Starts.length aq,.slice ap p0.Splits.length au,.slice ag p0.Clocks.length ah,.slice aj p0.Readings.length ak]
 refine ZC (cs:=B0) rfl rfl rfl rfl rfl rfl (by rfl) hS ?_
 intro W1 b2 be
 let B1:List Value:=[jV p1.Kind,jV p1.Skier,jV p1.Index,.bool p1.Up]
 refine ZC (cs:=B1) rfl rfl rfl rfl rfl rfl (by rfl) be ?_
 intro W5 b6 ai
 refine oA Z Z (oA Z Z (eN (sR (wFd gBs) Z (oR Z (zJ Z Z zP Z Zo) (oL Z (ai.ldB (j:=1) Z Z Z yN (v:=.slice aj p0.Readings.length ak) Z) (oR Z (zJ Z Z zq Z zD) (oL Z (ai.ldB (j:=0) Z Z Z zF (v:=jV p1.Index) Z) (bnK hm fun x9 an bg=>?_))))))))
 have q:=bf.el (fun _=>rfl) (wAX an)
 obtain ⟨bn,bs,aY,a7⟩:=q
 refine oR Z (Ze Z Z aY Z ZY Zg (wBt an) (wBy an)) (oL Z (ai.ldCA (f:=0) a7 Z Z yr Zg (us:=[jV x9.Skier,jV x9.Mat,jV x9.Clock,jV x9.Time]) Z Z) (zW (cs:=[jV 0,jV 0,jV 0,jV 0]) Z Z Z Z Z Zn Z ai ?_))
 intro bj aV bb
 let B2:List Value:=[jV x9.Skier,jV x9.Mat,jV x9.Clock,jV x9.Time]
 refine zX (j:=0) (vs:=B2) Z Z Z Z bb Z Z Z Z Zg (zA Z) Z Z Z ?_
 intro am bc
 have bd:sW w U U [.blk aV 52 B2,.blk b6 101 B1,.blk b2 45 B0] am:=bc
 refine eN (zL (ZF ZB [3,1,3,1,3,1,3,3,1,3,3,1,3,1,3,3,1,3,1,3,3,3] fL22 (by kernel_rfl) ?_))
 have ac:=bd.drew
 generalize hw_W24:({ am with drawn:=am.drawn + 1 }:World)=bk at ac ⊢
 refine oR Z (zJ Z Z ZL Z zD) (oL Z (ac.ldB (j:=0) Z Z Z zF (v:=jV x9.Time) Z) (oR Z (zJ Z Z zP Z Zr) (oL Z (ac.ldB (j:=2) Z Z Z yM (v:=.slice ag p0.Clocks.length ah) Z) (oR Z (zJ Z Z ZL Z zD) (oL Z (ac.ldB (j:=0) Z Z Z zF (v:=jV x9.Clock) Z) (bnK bg fun aU af bh=>?_))))))
 have q:=az.el (fun _=>rfl) (wAX af)
 obtain ⟨bo,bt,aZ,a8⟩:=q
 refine oR Z (Ze Z Z aZ Z Za Zs (wBt af) (wBy af)) (oR Z (zJ Z Z Zv Z zD) (oL Z (ac.ldC (f:=2) a8 (v:=jV aU.Error) Z Z zF Z) (oR Z (za Z Z Z) (oR Z (zJ Z Z zP Z Zr) (oL Z (ac.ldB (j:=2) Z Z Z yM (v:=.slice ag p0.Clocks.length ah) Z) (oR Z (zJ Z Z ZL Z zD) (oL Z (ac.ldB (j:=0) Z Z Z zF (v:=jV x9.Clock) Z) ?_)))))))
 have q:=az.el (fun _=>rfl) (wAX af)
 obtain ⟨bp,bu,a6,ba⟩:=q
 refine oR Z (Ze Z Z a6 Z Za Zs (wBt af) (wBy af)) (oR Z (zJ Z Z Zv Z zD) (oL Z (ac.ldC (f:=2) ba (v:=jV aU.Error) Z Z zF Z) (oR Z (zJ Z Z ZL Z zD) (oL Z (ac.ldB (j:=0) Z Z Z zF (v:=jV x9.Time) Z) (oR Z (yP Z Z Z) (oA Z Z (oA Z Z (eN (zR ?_)))))))))
 cases bh
 exact ⟨rfl,_,(wEF rfl rfl),U,_,(ac.pick [] _ (by decide) rfl),rfl,rfl⟩
theorem wBH  (w:World) (U:PHeap) (hS:St0 w U [])  {r:Unit} (hm:wBT =some r):Gv Tryz.prog 106 [] w (wBa w [] U (fun U_ L_ v=>v=.agg #[.func (.func 116) #[] #[],.func (.func 117) #[] #[],.func (.func 118) #[] #[],.func (.func 119) #[] #[],.func (.func 120) #[] #[],.func (.func 121) #[] #[],.func (.func 122) #[] #[],.func (.func 123) #[] #[],.func (.func 124) #[] #[],.func (.func 125) #[] #[],.func (.func 126) #[] #[],.func (.func 127) #[] #[]]/\L_=[])):=by
 unfold wBT at hm
 refine Gv.of Tryz.func106 Z Tryz.ntmps106 Tryz.results106 Z (sR (.fx 0 .nil .stop) Z ?_)
 let B0:List Value:=[.nilFunc,.nilFunc,.nilFunc,.nilFunc,.nilFunc,.nilFunc,.nilFunc,.nilFunc,.nilFunc,.nilFunc,.nilFunc,.nilFunc]
 refine zW (cs:=B0) Z Z Z Z Z Tryz.zeroValue184 Z hS ?_
 intro W1 b2 am
 refine eN (sR (wHC (.fx 5 .nil .stop)) Z ?_)
 let B1:List Value:=[.nilFunc,.nilFunc,.nilFunc]
 let B2:List Value:=[.func (.func 116) #[] #[],.func (.func 117) #[] #[],.func (.func 118) #[] #[]]
 refine oR Z (zu (pv:=[(0,.func (.func 116) #[] #[]),(1,.func (.func 117) #[] #[]),(2,.func (.func 118) #[] #[])]) (z:=B1) (cs:=B2) Z (wAD Z (wAD Z (wAD Z wAM))) yH wGE Z Z) ?_
 let B3:List Value:=[.func (.func 119) #[] #[],.func (.func 120) #[] #[],.func (.func 121) #[] #[]]
 refine oR Z (zu (pv:=[(0,.func (.func 119) #[] #[]),(1,.func (.func 120) #[] #[]),(2,.func (.func 121) #[] #[])]) (z:=B1) (cs:=B3) Z (wAD Z (wAD Z (wAD Z wAM))) yH wGE Z Z) ?_
 let B4:List Value:=[.func (.func 122) #[] #[],.func (.func 123) #[] #[],.func (.func 124) #[] #[]]
 refine oR Z (zu (pv:=[(0,.func (.func 122) #[] #[]),(1,.func (.func 123) #[] #[]),(2,.func (.func 124) #[] #[])]) (z:=B1) (cs:=B4) Z (wAD Z (wAD Z (wAD Z wAM))) yH wGE Z Z) ?_
 let B5:List Value:=[.func (.func 125) #[] #[],.func (.func 126) #[] #[],.func (.func 127) #[] #[]]
 refine oR Z (zu (pv:=[(0,.func (.func 125) #[] #[]),(1,.func (.func 126) #[] #[]),(2,.func (.func 127) #[] #[])]) (z:=B1) (cs:=B5) Z (wAD Z (wAD Z (wAD Z wAM))) yH wGE Z Z) ?_
 let B6:List Value:=[.func (.func 116) #[] #[],.func (.func 117) #[] #[],.func (.func 118) #[] #[],.func (.func 119) #[] #[],.func (.func 120) #[] #[],.func (.func 121) #[] #[],.func (.func 122) #[] #[],.func (.func 123) #[] #[],.func (.func 124) #[] #[],.func (.func 125) #[] #[],.func (.func 126) #[] #[],.func (.func 127) #[] #[]]
 refine oR Z (Runs.buildA (pv:=[(0,.agg B2.toArray),(1,.agg B3.toArray),(2,.agg B4.toArray),(3,.agg B5.toArray)]) (z:=B0) (cs:=B6) Z (wAD Z (wAD Z (wAD Z (wAD Z wAM)))) Tryz.zeroValue184 Zt ZZ Z Z) (zX (j:=0) (vs:=B6) Z Z Z Z am Z Z Z Z Tryz.sizeOf184 (zA Z) Z Z Z ?_)
 intro W5 an
 have ai:sW w U U [.blk b2 184 B6] W5:=an
 refine eN (zR ?_)
 cases hm
 exact ⟨rfl,_,(wHx (v:=.agg B6.toArray) ⟨⟨_,rfl,(wBN Tryz.isAgg184 Tryz.sizeOf184 (ai.blkAt (k:=0) rfl) (vs:=B6) rfl rfl)⟩,trivial⟩),U,_,(ai.pick [] _ (by decide) rfl),rfl,rfl⟩
theorem wBn (p0:wAE) (bo:Option Addr) (bs:Nat) (bp:Option Addr) (bt:Nat) (bq:Option Addr) (bu:Nat) (br:Option Addr) (bv:Nat) (p1:wAG) (w:World) (U:PHeap) (hS:St0 w U []) (cD:Sl U 1 bo bs p0.Starts.length (hD KL.encI p0.Starts)) (cE:Sl U 2 bp bt p0.Splits.length (hD wAF p0.Splits)) (cG:Sl U 3 bq bu p0.Clocks.length (hD wAA p0.Clocks)) (cH:Sl U 4 br bv p0.Readings.length (hD wAB p0.Readings)) {r:wAH × wAH × Int} (hm:wBU p0 p1=some r):Gv Tryz.prog 65 [.agg #[.slice bo p0.Starts.length bs,.slice bp p0.Splits.length bt,.slice bq p0.Clocks.length bu,.slice br p0.Readings.length bv],.agg #[jV p1.Kind,jV p1.Skier,jV p1.Index,.bool p1.Up]] w (wBa w [] U (fun U_ L_ v=>v=.tuple #[.agg #[jV r.1.skier,jV r.1.mat],.agg #[jV r.2.1.skier,jV r.2.1.mat],jV r.2.2]/\L_=[])):=by
 unfold wBU at hm
 refine Gv.of Tryz.func65 Z Tryz.ntmps65 Tryz.results65 Z ?_
 by_cases c1:p1.Kind=0
 have fS:=hm;rw [if_pos c1] at fS
 refine sR gCy Z ?_
 let B0:List Value:=[.slice bo p0.Starts.length bs,.slice bp p0.Splits.length bt,.slice bq p0.Clocks.length bu,.slice br p0.Readings.length bv]
 refine ZC (cs:=B0) rfl rfl rfl rfl rfl rfl (by rfl) hS ?_
 intro W6 b7 mK
 let B1:List Value:=[jV p1.Kind,jV p1.Skier,jV p1.Index,.bool p1.Up]
 refine ZC (cs:=B1) rfl rfl rfl rfl rfl rfl (by rfl) mK ?_
 intro ot a6 jy
 let B2:List Value:=[jV 0,jV 0]
 refine zW (cs:=B2) Z Z Z Z Z zf Z jy ?_
 intro ov ay jI
 refine zW (cs:=B2) Z Z Z Z Z zf Z jI ?_
 intro dW aV jP
 refine oA Z Z (eN ?_)
 have q:=bnd fS
 obtain ⟨⟨⟩,mU,fJ⟩:=q
 try dsimp only at fJ
 let B3:List Value:=[.func (.func 116) #[] #[],.func (.func 117) #[] #[],.func (.func 118) #[] #[]]
 refine yW (fun σ_ w_=>∃ (U_:PHeap) (bx:Nat),σ_ 2=.pointer (some ⟨b7,0,none⟩)/\σ_ 3=.pointer (some ⟨a6,0,none⟩)/\σ_ 4=.pointer (some ⟨ay,0,none⟩)/\σ_ 5=.pointer (some ⟨aV,0,none⟩)/\σ_ 7=.pointer (some ⟨bx,0,none⟩)/\PHeap.Le U U_/\sW w U U_ [.blk aV 115 B2,.blk ay 115 B2,.blk a6 101 B1,.blk b7 45 B0,.blk bx 183 B3] w_) ?_ ?_
 have q:=bnd mU
 obtain ⟨⟨⟩,eY,dN⟩:=q
 try dsimp only at dN
 refine ZF ZB [2,3,1,3,2,0] gDh (by kernel_rfl) ?_
 have cx:=jP.drew
 generalize hw_W45:({ dW with drawn:=dW.drawn + 1 }:World)=g8 at cx ⊢
 refine oR Z (zJ Z Z zq Z yQ) (oL Z (cx.ldB (j:=2) Z Z Z yX (v:=jV p1.Kind) Z) (zw ?_ ?_))
 refine zH 0 Z Z Z Z (zG Z Z yY zO Z) cx (fun hs=>wBH g8 U hs eY) (.inr Z) ?_
 rintro de oa pB ik m3 lW ⟨rfl,rfl⟩
 have lX:sW w U de [.blk aV 115 B2,.blk ay 115 B2,.blk a6 101 B1,.blk b7 45 B0] ik:=lW
 refine ze rfl rfl rfl rfl (fun _=>(YB (i:=0) rfl rfl (congrArg (jV) c1) Zt ZZ (by decide) (by decide) (wCz yd ZZ rfl))) (zW (cs:=[.nilFunc,.nilFunc,.nilFunc]) rfl rfl rfl rfl rfl yH rfl lX ?_)
 intro oS eu ma
 refine zX (j:=0) (vs:=B3) Z Z Z Z ma Z Z Z Z ZZ (zA Z) Z Z Z ?_
 intro iu mf
 have mj:sW w U de [.blk eu 183 B3,.blk aV 115 B2,.blk ay 115 B2,.blk a6 101 B1,.blk b7 45 B0] iu:=mf
 refine zg ?_
 cases dN
 exact zI ⟨rfl,⟨de,eu,rfl,rfl,rfl,rfl,rfl,m3,(mj.pick [1,2,3,4,0] _ (by decide) rfl)⟩⟩
 refine zW (cs:=[.nilFunc,.nilFunc,.nilFunc]) Z Z Z Z Z yH Z cx ?_
 intro iA du my
 refine zH 0 Z Z Z Z (zG Z Z yY zO Z) my (fun hs=>wBH iA U hs eY) (.inr Z) ?_
 rintro dh oh pH iJ m6 mG ⟨rfl,rfl⟩
 have mH:sW w U dh [.blk du 183 [.nilFunc,.nilFunc,.nilFunc],.blk aV 115 B2,.blk ay 115 B2,.blk a6 101 B1,.blk b7 45 B0] iJ:=mG
 refine ze rfl rfl rfl rfl (fun _=>(YB (i:=0) rfl rfl (congrArg (jV) c1) Zt ZZ (by decide) (by decide) (wCz yd ZZ rfl))) (zX (j:=0) (vs:=B3) rfl rfl rfl rfl mH rfl rfl rfl rfl ZZ (zA rfl) rfl rfl rfl ?_)
 intro iK mI
 have mJ:sW w U dh [.blk du 183 B3,.blk aV 115 B2,.blk ay 115 B2,.blk a6 101 B1,.blk b7 45 B0] iK:=mI
 refine zg ?_
 cases dN
 exact zI ⟨rfl,⟨dh,du,rfl,rfl,rfl,rfl,rfl,m6,(mJ.pick [1,2,3,4,0] _ (by decide) rfl)⟩⟩
 rintro pR iL ⟨gw,bx,eM,dC,bM,bI,eO,cP,cC⟩
 refine sR (wET (.fx 4 (wLX gBt) .stop)) Z (oR Z (zJ Z eO Zy Z Tryz.sizeOf180) (oL Z (cC.ldB (j:=4) Z Z Z Tryz.isAgg180 (v:=.func (.func 117) #[] #[]) Z) (oL Z (cC.ldBA (j:=3) Z Z eM zz zh (vs:=B0) Z Z) (oL Z (cC.ldBA (j:=2) Z Z dC Zw Zh (vs:=B1) Z Z) ?_))))
 have ft:=cD.le cP
 have fu:=cE.le cP
 have fw:=cG.le cP
 have fy:=cH.le cP
 have q:=bnd fJ
 obtain ⟨⟨cX,cY⟩,jr,fZ⟩:=q
 try dsimp only at fZ
 refine zH 0 Z Z Z Z (zG Z Z Tryz.call117 (zB Z (zB Z zO)) Z) cC (fun hs=>wHQ p0 bo bs bp bt bq bu br bv p1 iL gw hs ft fu fw fy jr) (.inr Z) ?_
 rintro ci oq pJ iM cI jt ⟨rfl,rfl⟩
 have ju:sW w U ci [.blk aV 115 B2,.blk ay 115 B2,.blk a6 101 B1,.blk b7 45 B0,.blk bx 183 B3] iM:=jt
 refine oM Z Z (oR Z (zV Z Z (v:=.agg #[jV cX.skier,jV cX.mat]) Z) (oR Z (zV Z Z (v:=.agg #[jV cY.skier,jV cY.mat]) Z) ?_))
 let B4:List Value:=[jV cX.skier,jV cX.mat]
 refine zX (j:=1) (vs:=B4) Z Z Z Z ju Z bM Z Z zK (zA Z) Z Z Z ?_
 intro gx jv
 have jw:sW w U ci [.blk aV 115 B2,.blk ay 115 B4,.blk a6 101 B1,.blk b7 45 B0,.blk bx 183 B3] gx:=jv
 let B5:List Value:=[jV cY.skier,jV cY.mat]
 refine zX (j:=0) (vs:=B5) Z Z Z Z jw Z bI Z Z zK (zA Z) Z Z Z ?_
 intro dU jx
 have cm:sW w U ci [.blk aV 115 B5,.blk ay 115 B4,.blk a6 101 B1,.blk b7 45 B0,.blk bx 183 B3] dU:=jx
 refine eN (sR (wET (.fx 4 (wJX (.nil)) .stop)) Z (oR Z (zJ Z eO Zy Z Tryz.sizeOf181) (oL Z (cm.ldB (j:=4) Z Z Z Tryz.isAgg181 (v:=.func (.func 118) #[] #[]) Z) (oL Z (cm.ldBA (j:=3) Z Z eM zz zh (vs:=B0) Z Z) (oL Z (cm.ldBA (j:=2) Z Z dC Zw Zh (vs:=B1) Z Z) ?_)))))
 have i2:=ft.le cI
 have i4:=fu.le cI
 have i5:=fw.le cI
 have i6:=fy.le cI
 have q:=bnd fZ
 obtain ⟨⟨dQ,ga⟩,i7,fD⟩:=q
 try dsimp only at fD
 refine zH 0 Z Z Z Z (zG Z Z Tryz.call118 (zB Z (zB Z zO)) Z) cm (fun hs=>wHR p0 bo bs bp bt bq bu br bv p1 dU ci hs i2 i4 i5 i6 i7) (.inr Z) ?_
 rintro bB m7 pk di o6 jz ⟨rfl,rfl⟩
 have bS:sW w U bB [.blk aV 115 B5,.blk ay 115 B4,.blk a6 101 B1,.blk b7 45 B0,.blk bx 183 B3] di:=jz
 refine oM Z Z (oR Z (zV Z Z (v:=jV dQ) Z) (oR Z (zV Z Z (v:=jV ga) Z) (oA Z Z (oA Z Z (eN (zL (sR fL3 Z (oR Z (zJ Z dC zq Z yp) (oL Z (bS.ldB (j:=2) Z Z Z Tryz.isAgg4 (v:=.bool p1.Up) Z) (oR Z (ZW Z Z) (eN (ifc fD ?_ ?_))))))))))))
 intro dv mL
 refine zy (nC dv.out) (kN ?_)
 have q:=bnd mL
 obtain ⟨⟨⟩,f5,fE⟩:=q
 try dsimp only at fE
 refine yW (fun σ_ w_=>∃ (U_:PHeap),σ_ 4=.pointer (some ⟨ay,0,none⟩)/\σ_ 5=.pointer (some ⟨aV,0,none⟩)/\σ_ 6=jV dQ/\PHeap.Le bB U_/\sW w U U_ [.blk aV 115 B5,.blk ay 115 B4,.blk a6 101 B1,.blk b7 45 B0,.blk bx 183 B3] w_) ?_ ?_
 refine ZF ZB [1,2,3,0,0,3] gDi (by kernel_rfl) ?_
 have bU:=bS.drew
 generalize hw_W136:({ di with drawn:=di.drawn + 1 }:World)=ou at bU ⊢
 refine oL Z (bU.ldBA (j:=1) Z Z bM zk zK (vs:=B4) Z Z) (oM Z Z (zw ?_ ?_))
 refine Zb Z Z Z Z (bU.ldBA (j:=0) Z Z bI zk zK (vs:=B5) Z Z) (zX (j:=1) (vs:=B4) Z Z Z Z bU Z bM Z Z zK (zA Z) Z Z Z ?_)
 intro gy jA
 have jB:sW w U bB [.blk aV 115 B5,.blk ay 115 B4,.blk a6 101 B1,.blk b7 45 B0,.blk bx 183 B3] gy:=jA
 refine zX (j:=0) (vs:=B5) Z Z Z Z jB Z bI Z Z zK (zA Z) Z Z Z ?_
 intro gz jC
 have jD:sW w U bB [.blk aV 115 B5,.blk ay 115 B4,.blk a6 101 B1,.blk b7 45 B0,.blk bx 183 B3] gz:=jC
 refine oA Z Z (zg ?_)
 cases f5
 exact zI ⟨Z,⟨bB,bM,bI,Z,(zN _),jD⟩⟩
 refine zX (j:=1) (vs:=B4) Z Z Z Z bU Z bM Z Z zK (zA Z) Z Z Z ?_
 intro gA jE
 have fz:sW w U bB [.blk aV 115 B5,.blk ay 115 B4,.blk a6 101 B1,.blk b7 45 B0,.blk bx 183 B3] gA:=jE
 refine Zb Z Z Z Z (fz.ldBA (j:=0) Z Z bI zk zK (vs:=B5) Z Z) (zX (j:=0) (vs:=B5) Z Z Z Z fz Z bI Z Z zK (zA Z) Z Z Z ?_)
 intro gB jF
 have jG:sW w U bB [.blk aV 115 B5,.blk ay 115 B4,.blk a6 101 B1,.blk b7 45 B0,.blk bx 183 B3] gB:=jF
 refine oA Z Z (zg ?_)
 cases f5
 exact zI ⟨Z,⟨bB,bM,bI,Z,(zN _),jG⟩⟩
 rintro pK ow ⟨gg,iO,iP,iQ,o7,dD⟩
 refine zR ?_
 cases fE
 exact ⟨rfl,_,(wEH (rs:=[.cell 4 115,.cell 5 115,.tmp 6]) (vs:=[.agg B4.toArray,.agg B5.toArray,jV dQ]) ⟨⟨_,iO,(wBN zk zK (dD.blkAt (k:=1) rfl) (vs:=B4) rfl rfl)⟩,⟨⟨_,iP,(wBN zk zK (dD.blkAt (k:=0) rfl) (vs:=B5) rfl rfl)⟩,⟨iQ,trivial⟩⟩⟩ rfl),gg,_,(dD.pick [] _ (by decide) rfl),rfl,rfl⟩
 intro dv mM
 refine ZJ (nF (dv.out)) (sR (wCv gCg) Z (oL Z (bS.ldBA (j:=0) Z Z bI zk zK (vs:=B5) Z Z) (oL Z (bS.ldBA (j:=1) Z Z bM zk zK (vs:=B4) Z Z) (oM Z Z (zX (j:=1) (vs:=B5) Z Z Z Z bS Z bM Z Z zK (zA Z) Z Z Z ?_)))))
 intro gC jH
 have jJ:sW w U bB [.blk aV 115 B5,.blk ay 115 B5,.blk a6 101 B1,.blk b7 45 B0,.blk bx 183 B3] gC:=jH
 refine zX (j:=0) (vs:=B4) Z Z Z Z jJ Z bI Z Z zK (zA Z) Z Z Z ?_
 intro gD jK
 have dE:sW w U bB [.blk aV 115 B4,.blk ay 115 B5,.blk a6 101 B1,.blk b7 45 B0,.blk bx 183 B3] gD:=jK
 refine oA Z Z (eN (zR (zS ?_)))
 cases mM
 exact ⟨rfl,_,(wEH (rs:=[.cell 4 115,.cell 5 115,.tmp 6]) (vs:=[.agg B5.toArray,.agg B4.toArray,jV ga]) ⟨⟨_,bM,(wBN zk zK (dE.blkAt (k:=1) rfl) (vs:=B5) rfl rfl)⟩,⟨⟨_,bI,(wBN zk zK (dE.blkAt (k:=0) rfl) (vs:=B4) rfl rfl)⟩,⟨rfl,trivial⟩⟩⟩ rfl),bB,_,(dE.pick [] _ (by decide) rfl),rfl,rfl⟩
 by_cases c2:p1.Kind=1
 have fG:=hm;rw [if_neg c1,if_pos c2] at fG
 refine sR gCy Z ?_
 let B6:List Value:=[.slice bo p0.Starts.length bs,.slice bp p0.Splits.length bt,.slice bq p0.Clocks.length bu,.slice br p0.Readings.length bv]
 refine ZC (cs:=B6) rfl rfl rfl rfl rfl rfl (by rfl) hS ?_
 intro ox a7 jL
 let B7:List Value:=[jV p1.Kind,jV p1.Skier,jV p1.Index,.bool p1.Up]
 refine ZC (cs:=B7) rfl rfl rfl rfl rfl rfl (by rfl) jL ?_
 intro oy a8 jM
 let B8:List Value:=[jV 0,jV 0]
 refine zW (cs:=B8) Z Z Z Z Z zf Z jM ?_
 intro oz az jN
 refine zW (cs:=B8) Z Z Z Z Z zf Z jN ?_
 intro dV aU jO
 refine oA Z Z (eN ?_)
 have q:=bnd fG
 obtain ⟨⟨⟩,mT,fH⟩:=q
 try dsimp only at fH
 let B9:List Value:=[.func (.func 119) #[] #[],.func (.func 120) #[] #[],.func (.func 121) #[] #[]]
 refine yW (fun σ_ w_=>∃ (U_:PHeap) (bw:Nat),σ_ 2=.pointer (some ⟨a7,0,none⟩)/\σ_ 3=.pointer (some ⟨a8,0,none⟩)/\σ_ 4=.pointer (some ⟨az,0,none⟩)/\σ_ 5=.pointer (some ⟨aU,0,none⟩)/\σ_ 7=.pointer (some ⟨bw,0,none⟩)/\PHeap.Le U U_/\sW w U U_ [.blk aU 115 B8,.blk az 115 B8,.blk a8 101 B7,.blk a7 45 B6,.blk bw 183 B9] w_) ?_ ?_
 have q:=bnd mT
 obtain ⟨⟨⟩,eQ,dL⟩:=q
 try dsimp only at dL
 refine ZF ZB [2,3,1,3,2,0] gDh (by kernel_rfl) ?_
 have co:=jO.drew
 generalize hw_W204:({ dV with drawn:=dV.drawn + 1 }:World)=gE at co ⊢
 refine oR Z (zJ Z Z zq Z yQ) (oL Z (co.ldB (j:=2) Z Z Z yX (v:=jV p1.Kind) Z) (zw ?_ ?_))
 refine zH 0 Z Z Z Z (zG Z Z yY zO Z) co (fun hs=>wBH gE U hs eQ) (.inr Z) ?_
 rintro c8 m8 pm gF mX jQ ⟨rfl,rfl⟩
 have jR:sW w U c8 [.blk aU 115 B8,.blk az 115 B8,.blk a8 101 B7,.blk a7 45 B6] gF:=jQ
 refine ze rfl rfl rfl rfl (fun _=>(YB (i:=1) rfl rfl (congrArg (jV) c2) Zt ZZ (by decide) (by decide) (wCz yd ZZ rfl))) (zW (cs:=[.nilFunc,.nilFunc,.nilFunc]) rfl rfl rfl rfl rfl yH rfl jR ?_)
 intro oB ef jS
 refine zX (j:=0) (vs:=B9) Z Z Z Z jS Z Z Z Z ZZ (zA Z) Z Z Z ?_
 intro gG jT
 have jU:sW w U c8 [.blk ef 183 B9,.blk aU 115 B8,.blk az 115 B8,.blk a8 101 B7,.blk a7 45 B6] gG:=jT
 refine zg ?_
 cases dL
 exact zI ⟨rfl,⟨c8,ef,rfl,rfl,rfl,rfl,rfl,mX,(jU.pick [1,2,3,4,0] _ (by decide) rfl)⟩⟩
 refine zW (cs:=[.nilFunc,.nilFunc,.nilFunc]) Z Z Z Z Z yH Z co ?_
 intro gH dq jW
 refine zH 0 Z Z Z Z (zG Z Z yY zO Z) jW (fun hs=>wBH gH U hs eQ) (.inr Z) ?_
 rintro da m9 pn gI mY jX ⟨rfl,rfl⟩
 have jY:sW w U da [.blk dq 183 [.nilFunc,.nilFunc,.nilFunc],.blk aU 115 B8,.blk az 115 B8,.blk a8 101 B7,.blk a7 45 B6] gI:=jX
 refine ze rfl rfl rfl rfl (fun _=>(YB (i:=1) rfl rfl (congrArg (jV) c2) Zt ZZ (by decide) (by decide) (wCz yd ZZ rfl))) (zX (j:=0) (vs:=B9) rfl rfl rfl rfl jY rfl rfl rfl rfl ZZ (zA rfl) rfl rfl rfl ?_)
 intro gJ jZ
 have j4:sW w U da [.blk dq 183 B9,.blk aU 115 B8,.blk az 115 B8,.blk a8 101 B7,.blk a7 45 B6] gJ:=jZ
 refine zg ?_
 cases dL
 exact zI ⟨rfl,⟨da,dq,rfl,rfl,rfl,rfl,rfl,mY,(j4.pick [1,2,3,4,0] _ (by decide) rfl)⟩⟩
 rintro pL gK ⟨gh,bw,eF,dz,bJ,bF,eG,cJ,cp⟩
 refine sR (wET (.fx 4 (wLX gBt) .stop)) Z (oR Z (zJ Z eG Zy Z Tryz.sizeOf180) (oL Z (cp.ldB (j:=4) Z Z Z Tryz.isAgg180 (v:=.func (.func 120) #[] #[]) Z) (oL Z (cp.ldBA (j:=3) Z Z eF zz zh (vs:=B6) Z Z) (oL Z (cp.ldBA (j:=2) Z Z dz Zw Zh (vs:=B7) Z Z) ?_))))
 have eU:=cD.le cJ
 have eV:=cE.le cJ
 have eW:=cG.le cJ
 have eX:=cH.le cJ
 have q:=bnd fH
 obtain ⟨⟨cQ,cR⟩,i8,fI⟩:=q
 try dsimp only at fI
 refine zH 0 Z Z Z Z (zG Z Z Tryz.call120 (zB Z (zB Z zO)) Z) cp (fun hs=>wHT p0 bo bs bp bt bq bu br bv p1 gK gh hs eU eV eW eX i8) (.inr Z) ?_
 rintro cc n3 po gL cK j5 ⟨rfl,rfl⟩
 have j6:sW w U cc [.blk aU 115 B8,.blk az 115 B8,.blk a8 101 B7,.blk a7 45 B6,.blk bw 183 B9] gL:=j5
 refine oM Z Z (oR Z (zV Z Z (v:=.agg #[jV cQ.skier,jV cQ.mat]) Z) (oR Z (zV Z Z (v:=.agg #[jV cR.skier,jV cR.mat]) Z) ?_))
 let aj:List Value:=[jV cQ.skier,jV cQ.mat]
 refine zX (j:=1) (vs:=aj) Z Z Z Z j6 Z bJ Z Z zK (zA Z) Z Z Z ?_
 intro gM j7
 have j8:sW w U cc [.blk aU 115 B8,.blk az 115 aj,.blk a8 101 B7,.blk a7 45 B6,.blk bw 183 B9] gM:=j7
 let ac:List Value:=[jV cR.skier,jV cR.mat]
 refine zX (j:=0) (vs:=ac) Z Z Z Z j8 Z bF Z Z zK (zA Z) Z Z Z ?_
 intro dX j9
 have cq:sW w U cc [.blk aU 115 ac,.blk az 115 aj,.blk a8 101 B7,.blk a7 45 B6,.blk bw 183 B9] dX:=j9
 refine eN (sR (wET (.fx 4 (wJX (.nil)) .stop)) Z (oR Z (zJ Z eG Zy Z Tryz.sizeOf181) (oL Z (cq.ldB (j:=4) Z Z Z Tryz.isAgg181 (v:=.func (.func 121) #[] #[]) Z) (oL Z (cq.ldBA (j:=3) Z Z eF zz zh (vs:=B6) Z Z) (oL Z (cq.ldBA (j:=2) Z Z dz Zw Zh (vs:=B7) Z Z) ?_)))))
 have i9:=eU.le cK
 have ja:=eV.le cK
 have jb:=eW.le cK
 have jc:=eX.le cK
 have q:=bnd fI
 obtain ⟨⟨dR,gb⟩,jd,fK⟩:=q
 try dsimp only at fK
 refine zH 0 Z Z Z Z (zG Z Z Tryz.call121 (zB Z (zB Z zO)) Z) cq (fun hs=>wHU p0 bo bs bp bt bq bu br bv p1 dX cc hs i9 ja jb jc jd) (.inr Z) ?_
 rintro bC n4 pp dm o8 k5 ⟨rfl,rfl⟩
 have bV:sW w U bC [.blk aU 115 ac,.blk az 115 aj,.blk a8 101 B7,.blk a7 45 B6,.blk bw 183 B9] dm:=k5
 refine oM Z Z (oR Z (zV Z Z (v:=jV dR) Z) (oR Z (zV Z Z (v:=jV gb) Z) (oA Z Z (oA Z Z (eN (zL (sR fL3 Z (oR Z (zJ Z dz zq Z yp) (oL Z (bV.ldB (j:=2) Z Z Z Tryz.isAgg4 (v:=.bool p1.Up) Z) (oR Z (ZW Z Z) (eN (ifc fK ?_ ?_))))))))))))
 intro dw mN
 refine zy (nC dw.out) (kN ?_)
 have q:=bnd mN
 obtain ⟨⟨⟩,f7,fL⟩:=q
 try dsimp only at fL
 refine yW (fun σ_ w_=>∃ (U_:PHeap),σ_ 4=.pointer (some ⟨az,0,none⟩)/\σ_ 5=.pointer (some ⟨aU,0,none⟩)/\σ_ 6=jV dR/\PHeap.Le bC U_/\sW w U U_ [.blk aU 115 ac,.blk az 115 aj,.blk a8 101 B7,.blk a7 45 B6,.blk bw 183 B9] w_) ?_ ?_
 refine ZF ZB [1,2,3,0,0,3] gDi (by kernel_rfl) ?_
 have bW:=bV.drew
 generalize hw_W295:({ dm with drawn:=dm.drawn + 1 }:World)=oC at bW ⊢
 refine oL Z (bW.ldBA (j:=1) Z Z bJ zk zK (vs:=aj) Z Z) (oM Z Z (zw ?_ ?_))
 refine Zb Z Z Z Z (bW.ldBA (j:=0) Z Z bF zk zK (vs:=ac) Z Z) (zX (j:=1) (vs:=aj) Z Z Z Z bW Z bJ Z Z zK (zA Z) Z Z Z ?_)
 intro gN k6
 have k8:sW w U bC [.blk aU 115 ac,.blk az 115 aj,.blk a8 101 B7,.blk a7 45 B6,.blk bw 183 B9] gN:=k6
 refine zX (j:=0) (vs:=ac) Z Z Z Z k8 Z bF Z Z zK (zA Z) Z Z Z ?_
 intro gO k9
 have lb:sW w U bC [.blk aU 115 ac,.blk az 115 aj,.blk a8 101 B7,.blk a7 45 B6,.blk bw 183 B9] gO:=k9
 refine oA Z Z (zg ?_)
 cases f7
 exact zI ⟨Z,⟨bC,bJ,bF,Z,(zN _),lb⟩⟩
 refine zX (j:=1) (vs:=aj) Z Z Z Z bW Z bJ Z Z zK (zA Z) Z Z Z ?_
 intro gP lc
 have fA:sW w U bC [.blk aU 115 ac,.blk az 115 aj,.blk a8 101 B7,.blk a7 45 B6,.blk bw 183 B9] gP:=lc
 refine Zb Z Z Z Z (fA.ldBA (j:=0) Z Z bF zk zK (vs:=ac) Z Z) (zX (j:=0) (vs:=ac) Z Z Z Z fA Z bF Z Z zK (zA Z) Z Z Z ?_)
 intro gQ lf
 have lg:sW w U bC [.blk aU 115 ac,.blk az 115 aj,.blk a8 101 B7,.blk a7 45 B6,.blk bw 183 B9] gQ:=lf
 refine oA Z Z (zg ?_)
 cases f7
 exact zI ⟨Z,⟨bC,bJ,bF,Z,(zN _),lg⟩⟩
 rintro pM oD ⟨gi,iR,iS,iT,o9,dF⟩
 refine zR ?_
 cases fL
 exact ⟨rfl,_,(wEH (rs:=[.cell 4 115,.cell 5 115,.tmp 6]) (vs:=[.agg aj.toArray,.agg ac.toArray,jV dR]) ⟨⟨_,iR,(wBN zk zK (dF.blkAt (k:=1) rfl) (vs:=aj) rfl rfl)⟩,⟨⟨_,iS,(wBN zk zK (dF.blkAt (k:=0) rfl) (vs:=ac) rfl rfl)⟩,⟨iT,trivial⟩⟩⟩ rfl),gi,_,(dF.pick [] _ (by decide) rfl),rfl,rfl⟩
 intro dw mO
 refine ZJ (nF (dw.out)) (sR (wCv gCg) Z (oL Z (bV.ldBA (j:=0) Z Z bF zk zK (vs:=ac) Z Z) (oL Z (bV.ldBA (j:=1) Z Z bJ zk zK (vs:=aj) Z Z) (oM Z Z (zX (j:=1) (vs:=ac) Z Z Z Z bV Z bJ Z Z zK (zA Z) Z Z Z ?_)))))
 intro gR lh
 have li:sW w U bC [.blk aU 115 ac,.blk az 115 ac,.blk a8 101 B7,.blk a7 45 B6,.blk bw 183 B9] gR:=lh
 refine zX (j:=0) (vs:=aj) Z Z Z Z li Z bF Z Z zK (zA Z) Z Z Z ?_
 intro gS lj
 have dG:sW w U bC [.blk aU 115 aj,.blk az 115 ac,.blk a8 101 B7,.blk a7 45 B6,.blk bw 183 B9] gS:=lj
 refine oA Z Z (eN (zR (zS ?_)))
 cases mO
 exact ⟨rfl,_,(wEH (rs:=[.cell 4 115,.cell 5 115,.tmp 6]) (vs:=[.agg ac.toArray,.agg aj.toArray,jV gb]) ⟨⟨_,bJ,(wBN zk zK (dG.blkAt (k:=1) rfl) (vs:=ac) rfl rfl)⟩,⟨⟨_,bF,(wBN zk zK (dG.blkAt (k:=0) rfl) (vs:=aj) rfl rfl)⟩,⟨rfl,trivial⟩⟩⟩ rfl),bC,_,(dG.pick [] _ (by decide) rfl),rfl,rfl⟩
 by_cases c3:p1.Kind=2
 have fM:=hm;rw [if_neg c1,if_neg c2,if_pos c3] at fM
 refine sR gCy Z ?_
 let ak:List Value:=[.slice bo p0.Starts.length bs,.slice bp p0.Splits.length bt,.slice bq p0.Clocks.length bu,.slice br p0.Readings.length bv]
 refine ZC (cs:=ak) rfl rfl rfl rfl rfl rfl (by rfl) hS ?_
 intro oE ba lk
 let am:List Value:=[jV p1.Kind,jV p1.Skier,jV p1.Index,.bool p1.Up]
 refine ZC (cs:=am) rfl rfl rfl rfl rfl rfl (by rfl) lk ?_
 intro oG bb lm
 let bj:List Value:=[jV 0,jV 0]
 refine zW (cs:=bj) Z Z Z Z Z zf Z lm ?_
 intro oH aW ln
 refine zW (cs:=bj) Z Z Z Z Z zf Z ln ?_
 intro dY aX lp
 refine oA Z Z (eN ?_)
 have q:=bnd fM
 obtain ⟨⟨⟩,mV,fN⟩:=q
 try dsimp only at fN
 let bf:List Value:=[.func (.func 122) #[] #[],.func (.func 123) #[] #[],.func (.func 124) #[] #[]]
 refine yW (fun σ_ w_=>∃ (U_:PHeap) (bz:Nat),σ_ 2=.pointer (some ⟨ba,0,none⟩)/\σ_ 3=.pointer (some ⟨bb,0,none⟩)/\σ_ 4=.pointer (some ⟨aW,0,none⟩)/\σ_ 5=.pointer (some ⟨aX,0,none⟩)/\σ_ 7=.pointer (some ⟨bz,0,none⟩)/\PHeap.Le U U_/\sW w U U_ [.blk aX 115 bj,.blk aW 115 bj,.blk bb 101 am,.blk ba 45 ak,.blk bz 183 bf] w_) ?_ ?_
 have q:=bnd mV
 obtain ⟨⟨⟩,eZ,dM⟩:=q
 try dsimp only at dM
 refine ZF ZB [2,3,1,3,2,0] gDh (by kernel_rfl) ?_
 have cr:=lp.drew
 generalize hw_W363:({ dY with drawn:=dY.drawn + 1 }:World)=gT at cr ⊢
 refine oR Z (zJ Z Z zq Z yQ) (oL Z (cr.ldB (j:=2) Z Z Z yX (v:=jV p1.Kind) Z) (zw ?_ ?_))
 refine zH 0 Z Z Z Z (zG Z Z yY zO Z) cr (fun hs=>wBH gT U hs eZ) (.inr Z) ?_
 rintro db n5 pq gU mZ lq ⟨rfl,rfl⟩
 have ls:sW w U db [.blk aX 115 bj,.blk aW 115 bj,.blk bb 101 am,.blk ba 45 ak] gU:=lq
 refine ze rfl rfl rfl rfl (fun _=>(YB (i:=2) rfl rfl (congrArg (jV) c3) Zt ZZ (by decide) (by decide) (wCz yd ZZ rfl))) (zW (cs:=[.nilFunc,.nilFunc,.nilFunc]) rfl rfl rfl rfl rfl yH rfl ls ?_)
 intro oI eh lu
 refine zX (j:=0) (vs:=bf) Z Z Z Z lu Z Z Z Z ZZ (zA Z) Z Z Z ?_
 intro gV lv
 have lw:sW w U db [.blk eh 183 bf,.blk aX 115 bj,.blk aW 115 bj,.blk bb 101 am,.blk ba 45 ak] gV:=lv
 refine zg ?_
 cases dM
 exact zI ⟨rfl,⟨db,eh,rfl,rfl,rfl,rfl,rfl,mZ,(lw.pick [1,2,3,4,0] _ (by decide) rfl)⟩⟩
 refine zW (cs:=[.nilFunc,.nilFunc,.nilFunc]) Z Z Z Z Z yH Z cr ?_
 intro gW dr lx
 refine zH 0 Z Z Z Z (zG Z Z yY zO Z) lx (fun hs=>wBH gW U hs eZ) (.inr Z) ?_
 rintro dd n7 pu gX m2 ly ⟨rfl,rfl⟩
 have lz:sW w U dd [.blk dr 183 [.nilFunc,.nilFunc,.nilFunc],.blk aX 115 bj,.blk aW 115 bj,.blk bb 101 am,.blk ba 45 ak] gX:=ly
 refine ze rfl rfl rfl rfl (fun _=>(YB (i:=2) rfl rfl (congrArg (jV) c3) Zt ZZ (by decide) (by decide) (wCz yd ZZ rfl))) (zX (j:=0) (vs:=bf) rfl rfl rfl rfl lz rfl rfl rfl rfl ZZ (zA rfl) rfl rfl rfl ?_)
 intro gY lA
 have lB:sW w U dd [.blk dr 183 bf,.blk aX 115 bj,.blk aW 115 bj,.blk bb 101 am,.blk ba 45 ak] gY:=lA
 refine zg ?_
 cases dM
 exact zI ⟨rfl,⟨dd,dr,rfl,rfl,rfl,rfl,rfl,m2,(lB.pick [1,2,3,4,0] _ (by decide) rfl)⟩⟩
 rintro pN gZ ⟨gj,bz,eH,dA,bK,bG,eI,cL,cu⟩
 refine sR (wET (.fx 4 (wLX gBt) .stop)) Z (oR Z (zJ Z eI Zy Z Tryz.sizeOf180) (oL Z (cu.ldB (j:=4) Z Z Z Tryz.isAgg180 (v:=.func (.func 123) #[] #[]) Z) (oL Z (cu.ldBA (j:=3) Z Z eH zz zh (vs:=ak) Z Z) (oL Z (cu.ldBA (j:=2) Z Z dA Zw Zh (vs:=am) Z Z) ?_))))
 have fb:=cD.le cL
 have fc:=cE.le cL
 have fd:=cG.le cL
 have ff:=cH.le cL
 have q:=bnd fN
 obtain ⟨⟨cS,cU⟩,je,fO⟩:=q
 try dsimp only at fO
 refine zH 0 Z Z Z Z (zG Z Z Tryz.call123 (zB Z (zB Z zO)) Z) cu (fun hs=>wHW p0 bo bs bp bt bq bu br bv p1 gZ gj hs fb fc fd ff je) (.inr Z) ?_
 rintro cd n8 py g6 cM lC ⟨rfl,rfl⟩
 have lD:sW w U cd [.blk aX 115 bj,.blk aW 115 bj,.blk bb 101 am,.blk ba 45 ak,.blk bz 183 bf] g6:=lC
 refine oM Z Z (oR Z (zV Z Z (v:=.agg #[jV cS.skier,jV cS.mat]) Z) (oR Z (zV Z Z (v:=.agg #[jV cU.skier,jV cU.mat]) Z) ?_))
 let an:List Value:=[jV cS.skier,jV cS.mat]
 refine zX (j:=1) (vs:=an) Z Z Z Z lD Z bK Z Z zK (zA Z) Z Z Z ?_
 intro g7 lE
 have lF:sW w U cd [.blk aX 115 bj,.blk aW 115 an,.blk bb 101 am,.blk ba 45 ak,.blk bz 183 bf] g7:=lE
 let ae:List Value:=[jV cU.skier,jV cU.mat]
 refine zX (j:=0) (vs:=ae) Z Z Z Z lF Z bG Z Z zK (zA Z) Z Z Z ?_
 intro dZ lG
 have cw:sW w U cd [.blk aX 115 ae,.blk aW 115 an,.blk bb 101 am,.blk ba 45 ak,.blk bz 183 bf] dZ:=lG
 refine eN (sR (wET (.fx 4 (wJX (.nil)) .stop)) Z (oR Z (zJ Z eI Zy Z Tryz.sizeOf181) (oL Z (cw.ldB (j:=4) Z Z Z Tryz.isAgg181 (v:=.func (.func 124) #[] #[]) Z) (oL Z (cw.ldBA (j:=3) Z Z eH zz zh (vs:=ak) Z Z) (oL Z (cw.ldBA (j:=2) Z Z dA Zw Zh (vs:=am) Z Z) ?_)))))
 have jf:=fb.le cM
 have jg:=fc.le cM
 have jh:=fd.le cM
 have ji:=ff.le cM
 have q:=bnd fO
 obtain ⟨⟨dS,ge⟩,jj,fP⟩:=q
 try dsimp only at fP
 refine zH 0 Z Z Z Z (zG Z Z Tryz.call124 (zB Z (zB Z zO)) Z) cw (fun hs=>wHX p0 bo bs bp bt bq bu br bv p1 dZ cd hs jf jg jh ji jj) (.inr Z) ?_
 rintro bD n9 pz dn pd lH ⟨rfl,rfl⟩
 have bX:sW w U bD [.blk aX 115 ae,.blk aW 115 an,.blk bb 101 am,.blk ba 45 ak,.blk bz 183 bf] dn:=lH
 refine oM Z Z (oR Z (zV Z Z (v:=jV dS) Z) (oR Z (zV Z Z (v:=jV ge) Z) (oA Z Z (oA Z Z (eN (zL (sR fL3 Z (oR Z (zJ Z dA zq Z yp) (oL Z (bX.ldB (j:=2) Z Z Z Tryz.isAgg4 (v:=.bool p1.Up) Z) (oR Z (ZW Z Z) (eN (ifc fP ?_ ?_))))))))))))
 intro dx mP
 refine zy (nC dx.out) (kN ?_)
 have q:=bnd mP
 obtain ⟨⟨⟩,f8,fQ⟩:=q
 try dsimp only at fQ
 refine yW (fun σ_ w_=>∃ (U_:PHeap),σ_ 4=.pointer (some ⟨aW,0,none⟩)/\σ_ 5=.pointer (some ⟨aX,0,none⟩)/\σ_ 6=jV dS/\PHeap.Le bD U_/\sW w U U_ [.blk aX 115 ae,.blk aW 115 an,.blk bb 101 am,.blk ba 45 ak,.blk bz 183 bf] w_) ?_ ?_
 refine ZF ZB [1,2,3,0,0,3] gDi (by kernel_rfl) ?_
 have bY:=bX.drew
 generalize hw_W454:({ dn with drawn:=dn.drawn + 1 }:World)=oJ at bY ⊢
 refine oL Z (bY.ldBA (j:=1) Z Z bK zk zK (vs:=an) Z Z) (oM Z Z (zw ?_ ?_))
 refine Zb Z Z Z Z (bY.ldBA (j:=0) Z Z bG zk zK (vs:=ae) Z Z) (zX (j:=1) (vs:=an) Z Z Z Z bY Z bK Z Z zK (zA Z) Z Z Z ?_)
 intro g9 lI
 have lJ:sW w U bD [.blk aX 115 ae,.blk aW 115 an,.blk bb 101 am,.blk ba 45 ak,.blk bz 183 bf] g9:=lI
 refine zX (j:=0) (vs:=ae) Z Z Z Z lJ Z bG Z Z zK (zA Z) Z Z Z ?_
 intro ic lK
 have lL:sW w U bD [.blk aX 115 ae,.blk aW 115 an,.blk bb 101 am,.blk ba 45 ak,.blk bz 183 bf] ic:=lK
 refine oA Z Z (zg ?_)
 cases f8
 exact zI ⟨Z,⟨bD,bK,bG,Z,(zN _),lL⟩⟩
 refine zX (j:=1) (vs:=an) Z Z Z Z bY Z bK Z Z zK (zA Z) Z Z Z ?_
 intro ie lM
 have fB:sW w U bD [.blk aX 115 ae,.blk aW 115 an,.blk bb 101 am,.blk ba 45 ak,.blk bz 183 bf] ie:=lM
 refine Zb Z Z Z Z (fB.ldBA (j:=0) Z Z bG zk zK (vs:=ae) Z Z) (zX (j:=0) (vs:=ae) Z Z Z Z fB Z bG Z Z zK (zA Z) Z Z Z ?_)
 intro ig lN
 have lO:sW w U bD [.blk aX 115 ae,.blk aW 115 an,.blk bb 101 am,.blk ba 45 ak,.blk bz 183 bf] ig:=lN
 refine oA Z Z (zg ?_)
 cases f8
 exact zI ⟨Z,⟨bD,bK,bG,Z,(zN _),lO⟩⟩
 rintro pO oK ⟨gm,iU,iV,iW,pe,dH⟩
 refine zR ?_
 cases fQ
 exact ⟨rfl,_,(wEH (rs:=[.cell 4 115,.cell 5 115,.tmp 6]) (vs:=[.agg an.toArray,.agg ae.toArray,jV dS]) ⟨⟨_,iU,(wBN zk zK (dH.blkAt (k:=1) rfl) (vs:=an) rfl rfl)⟩,⟨⟨_,iV,(wBN zk zK (dH.blkAt (k:=0) rfl) (vs:=ae) rfl rfl)⟩,⟨iW,trivial⟩⟩⟩ rfl),gm,_,(dH.pick [] _ (by decide) rfl),rfl,rfl⟩
 intro dx mQ
 refine ZJ (nF (dx.out)) (sR (wCv gCg) Z (oL Z (bX.ldBA (j:=0) Z Z bG zk zK (vs:=ae) Z Z) (oL Z (bX.ldBA (j:=1) Z Z bK zk zK (vs:=an) Z Z) (oM Z Z (zX (j:=1) (vs:=ae) Z Z Z Z bX Z bK Z Z zK (zA Z) Z Z Z ?_)))))
 intro ii lP
 have lQ:sW w U bD [.blk aX 115 ae,.blk aW 115 ae,.blk bb 101 am,.blk ba 45 ak,.blk bz 183 bf] ii:=lP
 refine zX (j:=0) (vs:=an) Z Z Z Z lQ Z bG Z Z zK (zA Z) Z Z Z ?_
 intro ij lR
 have dI:sW w U bD [.blk aX 115 an,.blk aW 115 ae,.blk bb 101 am,.blk ba 45 ak,.blk bz 183 bf] ij:=lR
 refine oA Z Z (eN (zR (zS ?_)))
 cases mQ
 exact ⟨rfl,_,(wEH (rs:=[.cell 4 115,.cell 5 115,.tmp 6]) (vs:=[.agg ae.toArray,.agg an.toArray,jV ge]) ⟨⟨_,bK,(wBN zk zK (dI.blkAt (k:=1) rfl) (vs:=ae) rfl rfl)⟩,⟨⟨_,bG,(wBN zk zK (dI.blkAt (k:=0) rfl) (vs:=an) rfl rfl)⟩,⟨rfl,trivial⟩⟩⟩ rfl),bD,_,(dI.pick [] _ (by decide) rfl),rfl,rfl⟩
 by_cases c4:p1.Kind=3
 have fR:=hm;rw [if_neg c1,if_neg c2,if_neg c3,if_pos c4] at fR
 refine sR gCy Z ?_
 let ao:List Value:=[.slice bo p0.Starts.length bs,.slice bp p0.Splits.length bt,.slice bq p0.Clocks.length bu,.slice br p0.Readings.length bv]
 refine ZC (cs:=ao) rfl rfl rfl rfl rfl rfl (by rfl) hS ?_
 intro oO bc lS
 let ap:List Value:=[jV p1.Kind,jV p1.Skier,jV p1.Index,.bool p1.Up]
 refine ZC (cs:=ap) rfl rfl rfl rfl rfl rfl (by rfl) lS ?_
 intro oP bd lT
 let bm:List Value:=[jV 0,jV 0]
 refine zW (cs:=bm) Z Z Z Z Z zf Z lT ?_
 intro oQ aY lU
 refine zW (cs:=bm) Z Z Z Z Z zf Z lU ?_
 intro d5 aZ lV
 refine oA Z Z (eN ?_)
 have q:=bnd fR
 obtain ⟨⟨⟩,mW,fT⟩:=q
 try dsimp only at fT
 let bg:List Value:=[.func (.func 125) #[] #[],.func (.func 126) #[] #[],.func (.func 127) #[] #[]]
 refine yW (fun σ_ w_=>∃ (U_:PHeap) (bA:Nat),σ_ 2=.pointer (some ⟨bc,0,none⟩)/\σ_ 3=.pointer (some ⟨bd,0,none⟩)/\σ_ 4=.pointer (some ⟨aY,0,none⟩)/\σ_ 5=.pointer (some ⟨aZ,0,none⟩)/\σ_ 7=.pointer (some ⟨bA,0,none⟩)/\PHeap.Le U U_/\sW w U U_ [.blk aZ 115 bm,.blk aY 115 bm,.blk bd 101 ap,.blk bc 45 ao,.blk bA 183 bg] w_) ?_ ?_
 have q:=bnd mW
 obtain ⟨⟨⟩,fg,dO⟩:=q
 try dsimp only at dO
 refine ZF ZB [2,3,1,3,2,0] gDh (by kernel_rfl) ?_
 have cy:=lV.drew
 generalize hw_W522:({ d5 with drawn:=d5.drawn + 1 }:World)=il at cy ⊢
 refine oR Z (zJ Z Z zq Z yQ) (oL Z (cy.ldB (j:=2) Z Z Z yX (v:=jV p1.Kind) Z) (zw ?_ ?_))
 refine zH 0 Z Z Z Z (zG Z Z yY zO Z) cy (fun hs=>wBH il U hs fg) (.inr Z) ?_
 rintro df oc pC im m4 lY ⟨rfl,rfl⟩
 have lZ:sW w U df [.blk aZ 115 bm,.blk aY 115 bm,.blk bd 101 ap,.blk bc 45 ao] im:=lY
 refine ze rfl rfl rfl rfl (fun _=>(YB (i:=3) rfl rfl (congrArg (jV) c4) Zt ZZ (by decide) (by decide) (wCz yd ZZ rfl))) (zW (cs:=[.nilFunc,.nilFunc,.nilFunc]) rfl rfl rfl rfl rfl yH rfl lZ ?_)
 intro oU ep l3
 refine zX (j:=0) (vs:=bg) Z Z Z Z l3 Z Z Z Z ZZ (zA Z) Z Z Z ?_
 intro io l4
 have l5:sW w U df [.blk ep 183 bg,.blk aZ 115 bm,.blk aY 115 bm,.blk bd 101 ap,.blk bc 45 ao] io:=l4
 refine zg ?_
 cases dO
 exact zI ⟨rfl,⟨df,ep,rfl,rfl,rfl,rfl,rfl,m4,(l5.pick [1,2,3,4,0] _ (by decide) rfl)⟩⟩
 refine zW (cs:=[.nilFunc,.nilFunc,.nilFunc]) Z Z Z Z Z yH Z cy ?_
 intro ip dt l6
 refine zH 0 Z Z Z Z (zG Z Z yY zO Z) l6 (fun hs=>wBH ip U hs fg) (.inr Z) ?_
 rintro dg od pD iq m5 l7 ⟨rfl,rfl⟩
 have l8:sW w U dg [.blk dt 183 [.nilFunc,.nilFunc,.nilFunc],.blk aZ 115 bm,.blk aY 115 bm,.blk bd 101 ap,.blk bc 45 ao] iq:=l7
 refine ze rfl rfl rfl rfl (fun _=>(YB (i:=3) rfl rfl (congrArg (jV) c4) Zt ZZ (by decide) (by decide) (wCz yd ZZ rfl))) (zX (j:=0) (vs:=bg) rfl rfl rfl rfl l8 rfl rfl rfl rfl ZZ (zA rfl) rfl rfl rfl ?_)
 intro ir mb
 have mc:sW w U dg [.blk dt 183 bg,.blk aZ 115 bm,.blk aY 115 bm,.blk bd 101 ap,.blk bc 45 ao] ir:=mb
 refine zg ?_
 cases dO
 exact zI ⟨rfl,⟨dg,dt,rfl,rfl,rfl,rfl,rfl,m5,(mc.pick [1,2,3,4,0] _ (by decide) rfl)⟩⟩
 rintro pP it ⟨gq,bA,eJ,dB,bL,bH,eK,cN,cz⟩
 refine sR (wET (.fx 4 (wLX gBt) .stop)) Z (oR Z (zJ Z eK Zy Z Tryz.sizeOf180) (oL Z (cz.ldB (j:=4) Z Z Z Tryz.isAgg180 (v:=.func (.func 126) #[] #[]) Z) (oL Z (cz.ldBA (j:=3) Z Z eJ zz zh (vs:=ao) Z Z) (oL Z (cz.ldBA (j:=2) Z Z dB Zw Zh (vs:=ap) Z Z) ?_))))
 have fh:=cD.le cN
 have fj:=cE.le cN
 have fk:=cG.le cN
 have fm:=cH.le cN
 have q:=bnd fT
 obtain ⟨⟨cV,cW⟩,jk,fU⟩:=q
 try dsimp only at fU
 refine zH 0 Z Z Z Z (zG Z Z Tryz.call126 (zB Z (zB Z zO)) Z) cz (fun hs=>wGx p0 bo bs bp bt bq bu br bv p1 it gq hs fh fj fk fm jk) (.inr Z) ?_
 rintro cg oe pE iv cO md ⟨rfl,rfl⟩
 have me:sW w U cg [.blk aZ 115 bm,.blk aY 115 bm,.blk bd 101 ap,.blk bc 45 ao,.blk bA 183 bg] iv:=md
 refine oM Z Z (oR Z (zV Z Z (v:=.agg #[jV cV.skier,jV cV.mat]) Z) (oR Z (zV Z Z (v:=.agg #[jV cW.skier,jV cW.mat]) Z) ?_))
 let aq:List Value:=[jV cV.skier,jV cV.mat]
 refine zX (j:=1) (vs:=aq) Z Z Z Z me Z bL Z Z zK (zA Z) Z Z Z ?_
 intro iw mg
 have mh:sW w U cg [.blk aZ 115 bm,.blk aY 115 aq,.blk bd 101 ap,.blk bc 45 ao,.blk bA 183 bg] iw:=mg
 let af:List Value:=[jV cW.skier,jV cW.mat]
 refine zX (j:=0) (vs:=af) Z Z Z Z mh Z bH Z Z zK (zA Z) Z Z Z ?_
 intro d7 mi
 have cA:sW w U cg [.blk aZ 115 af,.blk aY 115 aq,.blk bd 101 ap,.blk bc 45 ao,.blk bA 183 bg] d7:=mi
 refine eN (sR (wET (.fx 4 (wJX (.nil)) .stop)) Z (oR Z (zJ Z eK Zy Z Tryz.sizeOf181) (oL Z (cA.ldB (j:=4) Z Z Z Tryz.isAgg181 (v:=.func (.func 127) #[] #[]) Z) (oL Z (cA.ldBA (j:=3) Z Z eJ zz zh (vs:=ao) Z Z) (oL Z (cA.ldBA (j:=2) Z Z dB Zw Zh (vs:=ap) Z Z) ?_)))))
 have jl:=fh.le cO
 have jm:=fj.le cO
 have jo:=fk.le cO
 have jp:=fm.le cO
 have q:=bnd fU
 obtain ⟨⟨dT,gf⟩,jq,fV⟩:=q
 try dsimp only at fV
 refine zH 0 Z Z Z Z (zG Z Z Tryz.call127 (zB Z (zB Z zO)) Z) cA (fun hs=>wGy p0 bo bs bp bt bq bu br bv p1 d7 cg hs jl jm jo jp jq) (.inr Z) ?_
 rintro bE og pF dp pf ml ⟨rfl,rfl⟩
 have bZ:sW w U bE [.blk aZ 115 af,.blk aY 115 aq,.blk bd 101 ap,.blk bc 45 ao,.blk bA 183 bg] dp:=ml
 refine oM Z Z (oR Z (zV Z Z (v:=jV dT) Z) (oR Z (zV Z Z (v:=jV gf) Z) (oA Z Z (oA Z Z (eN (zL (sR fL3 Z (oR Z (zJ Z dB zq Z yp) (oL Z (bZ.ldB (j:=2) Z Z Z Tryz.isAgg4 (v:=.bool p1.Up) Z) (oR Z (ZW Z Z) (eN (ifc fV ?_ ?_))))))))))))
 intro dy mR
 refine zy (nC dy.out) (kN ?_)
 have q:=bnd mR
 obtain ⟨⟨⟩,f9,fW⟩:=q
 try dsimp only at fW
 refine yW (fun σ_ w_=>∃ (U_:PHeap),σ_ 4=.pointer (some ⟨aY,0,none⟩)/\σ_ 5=.pointer (some ⟨aZ,0,none⟩)/\σ_ 6=jV dT/\PHeap.Le bE U_/\sW w U U_ [.blk aZ 115 af,.blk aY 115 aq,.blk bd 101 ap,.blk bc 45 ao,.blk bA 183 bg] w_) ?_ ?_
 refine ZF ZB [1,2,3,0,0,3] gDi (by kernel_rfl) ?_
 have ca:=bZ.drew
 generalize hw_W613:({ dp with drawn:=dp.drawn + 1 }:World)=oW at ca ⊢
 refine oL Z (ca.ldBA (j:=1) Z Z bL zk zK (vs:=aq) Z Z) (oM Z Z (zw ?_ ?_))
 refine Zb Z Z Z Z (ca.ldBA (j:=0) Z Z bH zk zK (vs:=af) Z Z) (zX (j:=1) (vs:=aq) Z Z Z Z ca Z bL Z Z zK (zA Z) Z Z Z ?_)
 intro iy mm
 have mn:sW w U bE [.blk aZ 115 af,.blk aY 115 aq,.blk bd 101 ap,.blk bc 45 ao,.blk bA 183 bg] iy:=mm
 refine zX (j:=0) (vs:=af) Z Z Z Z mn Z bH Z Z zK (zA Z) Z Z Z ?_
 intro iz mo
 have mp:sW w U bE [.blk aZ 115 af,.blk aY 115 aq,.blk bd 101 ap,.blk bc 45 ao,.blk bA 183 bg] iz:=mo
 refine oA Z Z (zg ?_)
 cases f9
 exact zI ⟨Z,⟨bE,bL,bH,Z,(zN _),mp⟩⟩
 refine zX (j:=1) (vs:=aq) Z Z Z Z ca Z bL Z Z zK (zA Z) Z Z Z ?_
 intro iB mq
 have fC:sW w U bE [.blk aZ 115 af,.blk aY 115 aq,.blk bd 101 ap,.blk bc 45 ao,.blk bA 183 bg] iB:=mq
 refine Zb Z Z Z Z (fC.ldBA (j:=0) Z Z bH zk zK (vs:=af) Z Z) (zX (j:=0) (vs:=af) Z Z Z Z fC Z bH Z Z zK (zA Z) Z Z Z ?_)
 intro iC mr
 have ms:sW w U bE [.blk aZ 115 af,.blk aY 115 aq,.blk bd 101 ap,.blk bc 45 ao,.blk bA 183 bg] iC:=mr
 refine oA Z Z (zg ?_)
 cases f9
 exact zI ⟨Z,⟨bE,bL,bH,Z,(zN _),ms⟩⟩
 rintro pQ oX ⟨gt,iX,iY,iZ,pg,dJ⟩
 refine zR ?_
 cases fW
 exact ⟨rfl,_,(wEH (rs:=[.cell 4 115,.cell 5 115,.tmp 6]) (vs:=[.agg aq.toArray,.agg af.toArray,jV dT]) ⟨⟨_,iX,(wBN zk zK (dJ.blkAt (k:=1) rfl) (vs:=aq) rfl rfl)⟩,⟨⟨_,iY,(wBN zk zK (dJ.blkAt (k:=0) rfl) (vs:=af) rfl rfl)⟩,⟨iZ,trivial⟩⟩⟩ rfl),gt,_,(dJ.pick [] _ (by decide) rfl),rfl,rfl⟩
 intro dy mS
 refine ZJ (nF (dy.out)) (sR (wCv gCg) Z (oL Z (bZ.ldBA (j:=0) Z Z bH zk zK (vs:=af) Z Z) (oL Z (bZ.ldBA (j:=1) Z Z bL zk zK (vs:=aq) Z Z) (oM Z Z (zX (j:=1) (vs:=af) Z Z Z Z bZ Z bL Z Z zK (zA Z) Z Z Z ?_)))))
 intro iD mu
 have mw:sW w U bE [.blk aZ 115 af,.blk aY 115 af,.blk bd 101 ap,.blk bc 45 ao,.blk bA 183 bg] iD:=mu
 refine zX (j:=0) (vs:=aq) Z Z Z Z mw Z bH Z Z zK (zA Z) Z Z Z ?_
 intro iE mx
 have dK:sW w U bE [.blk aZ 115 aq,.blk aY 115 af,.blk bd 101 ap,.blk bc 45 ao,.blk bA 183 bg] iE:=mx
 refine oA Z Z (eN (zR (zS ?_)))
 cases mS
 exact ⟨rfl,_,(wEH (rs:=[.cell 4 115,.cell 5 115,.tmp 6]) (vs:=[.agg af.toArray,.agg aq.toArray,jV gf]) ⟨⟨_,bL,(wBN zk zK (dK.blkAt (k:=1) rfl) (vs:=af) rfl rfl)⟩,⟨⟨_,bH,(wBN zk zK (dK.blkAt (k:=0) rfl) (vs:=aq) rfl rfl)⟩,⟨rfl,trivial⟩⟩⟩ rfl),bE,_,(dK.pick [] _ (by decide) rfl),rfl,rfl⟩
 have fY:=hm;rw [if_neg c1,if_neg c2,if_neg c3,if_neg c4] at fY
 refine sR gCy Z ?_
 let cZ:List Value:=[.slice bo p0.Starts.length bs,.slice bp p0.Splits.length bt,.slice bq p0.Clocks.length bu,.slice br p0.Readings.length bv]
 refine ZC (cs:=cZ) rfl rfl rfl rfl rfl rfl (by rfl) hS ?_
 intro oY ew mz
 let c6:List Value:=[jV p1.Kind,jV p1.Skier,jV p1.Index,.bool p1.Up]
 refine ZC (cs:=c6) rfl rfl rfl rfl rfl rfl (by rfl) mz ?_
 intro oZ eA mA
 let bP:List Value:=[jV 0,jV 0]
 refine zW (cs:=bP) Z Z Z Z Z zf Z mA ?_
 intro o0 eB mB
 refine zW (cs:=bP) Z Z Z Z Z zf Z mB ?_
 intro d9 eD mC
 refine oA Z Z (eN (zL ?_))
 have q:=bnd fY
 obtain ⟨⟨⟩,fq,dP⟩:=q
 try dsimp only at dP
 refine ZF ZB [2,3,1,3,2,0] gDh (by kernel_rfl) ?_
 have cB:=mC.drew
 generalize hw_W669:({ d9 with drawn:=d9.drawn + 1 }:World)=iF at cB ⊢
 refine oR Z (zJ Z Z zq Z yQ) (oL Z (cB.ldB (j:=2) Z Z Z yX (v:=jV p1.Kind) Z) (zw ?_ ?_))
 refine zH 0 Z Z Z Z (zG Z Z yY zO Z) cB (fun hs=>wBH iF U hs fq) (.inr Z) ?_
 rintro gu oj pG iG ph mD ⟨rfl,rfl⟩
 have o3:sW w U gu [.blk eD 115 bP,.blk eB 115 bP,.blk eA 101 c6,.blk ew 45 cZ] iG:=mD
 cases dP
 refine zW (cs:=[.nilFunc,.nilFunc,.nilFunc]) Z Z Z Z Z yH Z cB ?_
 intro iH iN mE
 refine zH 0 Z Z Z Z (zG Z Z yY zO Z) mE (fun hs=>wBH iH U hs fq) (.inr Z) ?_
 rintro gv om pI iI pj mF ⟨rfl,rfl⟩
 have o5:sW w U gv [.blk iN 183 [.nilFunc,.nilFunc,.nilFunc],.blk eD 115 bP,.blk eB 115 bP,.blk eA 101 c6,.blk ew 45 cZ] iI:=mF
 cases dP
end Go.Proofs.YtkghaiefcjgfkaaGreat
namespace Go.Proofs.YtkghaiefcjgfkaaGreat
open Go.KL
set_option maxHeartbeats 4000000
theorem wGF (p0:wAE) (ag:Option Addr) (ak:Nat) (ah:Option Addr) (am:Nat) (ai:Option Addr) (an:Nat) (aj:Option Addr) (ao:Nat) (w:World) (U:PHeap) (hS:St0 w U []) (qr:Sl U 1 ag ak p0.Starts.length (hD KL.encI p0.Starts)) (qs:Sl U 2 ah am p0.Splits.length (hD wAF p0.Splits)) (qu:Sl U 3 ai an p0.Clocks.length (hD wAA p0.Clocks)) (qv:Sl U 4 aj ao p0.Readings.length (hD wAB p0.Readings)) {r:wAh} (hm:wDB p0=some r):Gv Tryz.prog 105 [.agg #[.slice ag p0.Starts.length ak,.slice ah p0.Splits.length am,.slice ai p0.Clocks.length an,.slice aj p0.Readings.length ao]] w (wBa w [] U (fun U_ L_ v=>∃ (b0:Nat) (A0p00:Option Addr) (c0p00:Nat) (A0p01:Option Addr) (c0p01:Nat) (A0p02:Option Addr) (c0p02:Nat) (A0p03:Option Addr) (c0p03:Nat) (m0p1:Nat) (es0p1:Array MapEntry) (ck0p1:Nat) (A0p2:Option Addr) (c0p2:Nat),v=.pointer (some ⟨b0,0,none⟩)/\L_=[.blk b0 124 [.slice A0p00 r.Race.Starts.length c0p00,.slice A0p01 r.Race.Splits.length c0p01,.slice A0p02 r.Race.Clocks.length c0p02,.slice A0p03 r.Race.Readings.length c0p03,.map (some m0p1),.slice A0p2 r.edges.length c0p2],.obj m0p1 (.map es0p1 ck0p1),.row A0p2 c0p2 151 7 (hD wAR r.edges)]/\Sl U_ 1 A0p00 c0p00 r.Race.Starts.length (hD KL.encI r.Race.Starts)/\Sl U_ 2 A0p01 c0p01 r.Race.Splits.length (hD wAF r.Race.Splits)/\Sl U_ 3 A0p02 c0p02 r.Race.Clocks.length (hD wAA r.Race.Clocks)/\Sl U_ 4 A0p03 c0p03 r.Race.Readings.length (hD wAB r.Race.Readings)/\MpR es0p1 wBL wBO r.number)):=by
 unfold wDB at hm
 refine Go.KX.Gv.ofM Tryz.func105 Z Tryz.ntmps105 Tryz.results105 (zA Z) (sR (.fx 0 (.fl 1 .nil) .stop) Z ?_)
 let B0:List Value:=[.slice ag p0.Starts.length ak,.slice ah p0.Splits.length am,.slice ai p0.Clocks.length an,.slice aj p0.Readings.length ao]
 refine ZC (cs:=B0) rfl rfl rfl rfl rfl rfl (by rfl) hS ?_
 intro W1 b2 pH
 refine oA Z Z (eN (bnK hm fun jh qR qz=>yW (fun σ_ w_=>∃ (U_:PHeap) (b6:Nat) (b8:Nat) (af:Nat) (cj:Array MapEntry) (c6:Nat),σ_ 1=.pointer (some ⟨b2,0,none⟩)/\σ_ 3=.pointer (some ⟨b6,0,none⟩)/\PHeap.Le U U_/\sW w U U_ [.blk b2 45 B0,.blk b6 85 [.pointer (some ⟨b8,0,none⟩)],.blk b8 124 [.slice ag p0.Starts.length ak,.slice ah p0.Splits.length am,.slice ai p0.Clocks.length an,.slice aj p0.Readings.length ao,.map (some af),.slice none 0 0],.obj af (.map cj c6)] w_/\MpR cj wBL wBO jh) ?_ ?_))
 refine bnK qR fun ae bm qE=>ZF ZB [2,2,2,0,3,3,2,2,0] (.fx 0 (.fx 1 gDp (.fx 2 gDq (.fx 7 gDr .stop))) (.fx 1 (.fx 0 gDp (.fx 2 gDu (.fx 7 gDs .stop))) (.fx 2 (.fx 0 gDq (.fx 1 gDu (.fx 7 gDt .stop))) (.fx 7 (.fx 0 gDr (.fx 1 gDs (.fx 2 gDt .stop))) .stop)))) (by kernel_rfl) ?_
 have bo:=pH.drew
 generalize hw_W51:({ W1 with drawn:=W1.drawn + 1 }:World)=gt at bo ⊢
 refine ZS (s:=.nil) (M:=fun σ_ w_=>∃ (U_:PHeap) (cM:Nat) (bU:Nat) (bp:Nat) (di:Array MapEntry) (d5:Nat),σ_ 1=.pointer (some ⟨b2,0,none⟩)/\σ_ 3=.pointer (some ⟨cM,0,none⟩)/\σ_ 12=.agg B0.toArray/\σ_ 13=.map (some bp)/\σ_ 14=.agg #[jV ae.skier,jV ae.mat]/\σ_ 15=.map (some bp)/\σ_ 16=.agg #[.slice ag p0.Starts.length ak,.slice ah p0.Splits.length am,.slice ai p0.Clocks.length an,.slice aj p0.Readings.length ao,.map (some bp),.slice none 0 0]/\σ_ 17=.pointer (some ⟨bU,0,none⟩)/\PHeap.Le U U_/\sW w U U_ [.blk b2 45 B0,.blk cM 85 [.pointer (some ⟨bU,0,none⟩)],.blk bU 124 [.slice ag p0.Starts.length ak,.slice ah p0.Splits.length am,.slice ai p0.Clocks.length an,.slice aj p0.Readings.length ao,.map (some bp),.slice none 0 0],.obj bp (.map di d5)] w_/\MpR di wBL wBO (wFe ([]:List (wAH × Int)) ae 0)) ?_ fun qT=>?_
 rintro tD sg ⟨jA,cM,bU,bp,di,d5,l4,l5,sV,sX,sY,sZ,s3,s4,q9,pI,m8⟩
 refine zg ?_
 cases qE
 exact zI ⟨Z,⟨jA,cM,bU,bp,di,d5,l4,l5,q9,pI,m8⟩⟩
 refine ZS (s:=.fx 8 .nil .stop) (M:=fun σ_ w_=>∃ (U_:PHeap) (bV:Nat) (bi:Nat) (co:Array MapEntry) (da:Nat) (bA:Nat),σ_ 1=.pointer (some ⟨b2,0,none⟩)/\σ_ 3=.pointer (some ⟨bV,0,none⟩)/\σ_ 12=.agg B0.toArray/\σ_ 13=.map (some bi)/\σ_ 14=.agg #[jV ae.skier,jV ae.mat]/\σ_ 15=.map (some bi)/\σ_ 16=.agg #[.slice ag p0.Starts.length ak,.slice ah p0.Splits.length am,.slice ai p0.Clocks.length an,.slice aj p0.Readings.length ao,.map (some bi),.slice none 0 0]/\σ_ 17=.pointer (some ⟨bA,0,none⟩)/\PHeap.Le U U_/\sW w U U_ [.blk b2 45 B0,.blk bV 85 [.pointer none],.obj bi (.map co da),.blk bA 124 [.slice ag p0.Starts.length ak,.slice ah p0.Splits.length am,.slice ai p0.Clocks.length an,.slice aj p0.Readings.length ao,.map (some bi),.slice none 0 0]] w_/\MpR co wBL wBO (wFe ([]:List (wAH × Int)) ae 0)) ?_ fun dG=>?_
 rintro tE sh ⟨fZ,bV,bi,co,da,bA,l6,gX,l7,l8,ma,mb,mc,gY,rc,pJ,m9⟩
 let B1:List Value:=[.pointer (some ⟨bA,0,none⟩)]
 refine zX (j:=1) (vs:=B1) Z Z Z Z pJ Z gX gY Z Tryz.sizeOf85 (zA Z) Z Z Z ?_
 intro k9 pK
 have pL:sW w U fZ [.blk b2 45 B0,.blk bV 85 B1,.obj bi (.map co da),.blk bA 124 [.slice ag p0.Starts.length ak,.slice ah p0.Splits.length am,.slice ai p0.Clocks.length an,.slice aj p0.Readings.length ao,.map (some bi),.slice none 0 0]] k9:=pK
 exact qT _ _ ⟨fZ,bV,bA,bi,co,da,l6,gX,l7,l8,ma,mb,mc,gY,rc,(pL.pick [0,1,3,2] _ (by decide) rfl),m9⟩
 refine ZS (s:=gBx) (M:=fun σ_ w_=>∃ (U_:PHeap) (cN:Nat) (bq:Nat) (dm:Array MapEntry) (d7:Nat),σ_ 1=.pointer (some ⟨b2,0,none⟩)/\σ_ 3=.pointer (some ⟨cN,0,none⟩)/\σ_ 12=.agg B0.toArray/\σ_ 13=.map (some bq)/\σ_ 14=.agg #[jV ae.skier,jV ae.mat]/\σ_ 15=.map (some bq)/\σ_ 16=.agg #[.slice ag p0.Starts.length ak,.slice ah p0.Splits.length am,.slice ai p0.Clocks.length an,.slice aj p0.Readings.length ao,.map (some bq),.slice none 0 0]/\PHeap.Le U U_/\sW w U U_ [.blk b2 45 B0,.blk cN 85 [.pointer none],.obj bq (.map dm d7)] w_/\MpR dm wBL wBO (wFe ([]:List (wAH × Int)) ae 0)) ?_ fun ja=>?_
 rintro tF sj ⟨jB,cN,bq,dm,d7,md,me,mf,mg,mh,mi,gZ,rd,pM,n3⟩
 refine ZC (cs:=[.slice ag p0.Starts.length ak,.slice ah p0.Splits.length am,.slice ai p0.Clocks.length an,.slice aj p0.Readings.length ao,.map (some bq),.slice none 0 0]) rfl rfl rfl rfl rfl gZ (by rfl) pM ?_
 intro sk lC pN
 exact dG _ _ ⟨jB,cN,bq,dm,d7,lC,md,me,mf,mg,mh,mi,gZ,rfl,rd,(pN.pick [1,2,3,0] _ (by decide) rfl),n3⟩
 refine ZS (s:=gBw) (M:=fun σ_ w_=>∃ (U_:PHeap) (br:Nat) (dn:Array MapEntry) (d9:Nat) (cO:Nat),σ_ 1=.pointer (some ⟨b2,0,none⟩)/\σ_ 12=.agg B0.toArray/\σ_ 13=.map (some br)/\σ_ 14=.agg #[jV ae.skier,jV ae.mat]/\σ_ 15=.map (some br)/\σ_ 16=.agg #[.slice ag p0.Starts.length ak,.slice ah p0.Splits.length am,.slice ai p0.Clocks.length an,.slice aj p0.Readings.length ao,.map (some br),.slice none 0 0]/\σ_ 17=.pointer (some ⟨cO,0,none⟩)/\PHeap.Le U U_/\sW w U U_ [.blk b2 45 B0,.obj br (.map dn d9),.blk cO 124 [.slice ag p0.Starts.length ak,.slice ah p0.Splits.length am,.slice ai p0.Clocks.length an,.slice aj p0.Readings.length ao,.map (some br),.slice none 0 0]] w_/\MpR dn wBL wBO (wFe ([]:List (wAH × Int)) ae 0)) ?_ fun jb=>?_
 rintro tG sl ⟨jC,br,dn,d9,cO,mj,ml,mm,mn,mo,mp,mq,re,pO,n4⟩
 refine zW (cs:=[.pointer none]) Z Z Z Z Z yR Z pO ?_
 intro sm lD pP
 exact dG _ _ ⟨jC,lD,br,dn,d9,cO,mj,rfl,ml,mm,mn,mo,mp,mq,re,(pP.pick [1,0,2,3] _ (by decide) rfl),n4⟩
 refine ZS (s:=.fl 5 gBx) (M:=fun σ_ w_=>∃ (U_:PHeap) (cP:Nat) (bs:Nat) (dp:Array MapEntry) (ef:Nat),σ_ 1=.pointer (some ⟨b2,0,none⟩)/\σ_ 3=.pointer (some ⟨cP,0,none⟩)/\σ_ 12=.agg B0.toArray/\σ_ 13=.map (some bs)/\σ_ 14=.agg #[jV ae.skier,jV ae.mat]/\σ_ 15=.map (some bs)/\PHeap.Le U U_/\sW w U U_ [.blk b2 45 B0,.blk cP 85 [.pointer none],.obj bs (.map dp ef)] w_/\MpR dp wBL wBO (wFe ([]:List (wAH × Int)) ae 0)) ?_ fun jc=>?_
 rintro tH sn ⟨jD,cP,bs,dp,ef,mr,ms,g6,mu,mw,g7,rf,pQ,n5⟩
 let B2:List Value:=[.slice ag p0.Starts.length ak,.slice ah p0.Splits.length am,.slice ai p0.Clocks.length an,.slice aj p0.Readings.length ao,.map (some bs),.slice none 0 0]
 refine ze rfl rfl rfl rfl (fun _=>zu (pv:=[(0,.agg B0.toArray),(1,.map (some bs))]) (z:=[.slice none 0 0,.slice none 0 0,.slice none 0 0,.slice none 0 0,.map none,.slice none 0 0]) (cs:=B2) rfl (wAD g6 (wAD g7 wAM)) Tryz.zeroValue124 wGD rfl rfl) (ZC (cs:=B2) rfl rfl rfl rfl rfl rfl (by rfl) pQ ?_)
 intro sq lE pR
 exact dG _ _ ⟨jD,cP,bs,dp,ef,lE,mr,ms,g6,mu,mw,g7,rfl,rfl,rf,(pR.pick [1,2,3,0] _ (by decide) rfl),n5⟩
 refine ZS (s:=gCq) (M:=fun σ_ w_=>∃ (U_:PHeap) (cQ:Nat) (bW:Nat) (dq:Array MapEntry) (eh:Nat),σ_ 1=.pointer (some ⟨b2,0,none⟩)/\σ_ 3=.pointer (some ⟨cQ,0,none⟩)/\σ_ 13=.map (some bW)/\σ_ 14=.agg #[jV ae.skier,jV ae.mat]/\σ_ 15=.map (some bW)/\PHeap.Le U U_/\sW w U U_ [.blk b2 45 B0,.blk cQ 85 [.pointer none],.obj bW (.map dq eh)] w_/\MpR dq wBL wBO (wFe ([]:List (wAH × Int)) ae 0)) ?_ fun qU=>?_
 rintro tI sr ⟨jE,cQ,bW,dq,eh,g8,mx,my,mz,mA,rh,iU,n7⟩
 exact Zb Z Z Z Z (iU.ldBA (j:=0) Z Z g8 zz zh (vs:=B0) Z Z) (jc _ _ ⟨jE,cQ,bW,dq,eh,g8,mx,Z,my,mz,mA,rh,iU,n7⟩)
 refine ZS (s:=gCz) (M:=fun σ_ w_=>∃ (U_:PHeap) (bk:Nat) (cp:Array MapEntry) (db:Nat),σ_ 1=.pointer (some ⟨b2,0,none⟩)/\σ_ 12=.agg B0.toArray/\σ_ 13=.map (some bk)/\σ_ 14=.agg #[jV ae.skier,jV ae.mat]/\σ_ 15=.map (some bk)/\PHeap.Le U U_/\sW w U U_ [.blk b2 45 B0,.obj bk (.map cp db)] w_/\MpR cp wBL wBO (wFe ([]:List (wAH × Int)) ae 0)) ?_ fun qV=>?_
 rintro tJ ss ⟨f5,bk,cp,db,g9,eF,ic,ie,eG,jl,iV,iI⟩
 let B3:List Value:=[.slice ag p0.Starts.length ak,.slice ah p0.Splits.length am,.slice ai p0.Clocks.length an,.slice aj p0.Readings.length ao,.map (some bk),.slice none 0 0]
 refine oR Z (zu (pv:=[(0,.agg B0.toArray),(1,.map (some bk))]) (z:=[.slice none 0 0,.slice none 0 0,.slice none 0 0,.slice none 0 0,.map none,.slice none 0 0]) (cs:=B3) Z (wAD eF (wAD eG wAM)) Tryz.zeroValue124 wGD Z Z) (zw ?_ ?_)
 refine ZC (cs:=B3) rfl rfl rfl rfl rfl rfl (by rfl) iV ?_
 intro su lF pS
 exact jb _ _ ⟨f5,bk,cp,db,lF,g9,eF,ic,ie,eG,rfl,rfl,jl,(pS.pick [1,2,0] _ (by decide) rfl),iI⟩
 refine zW (cs:=[.pointer none]) Z Z Z Z Z yR Z iV ?_
 intro sv lG pT
 exact ja _ _ ⟨f5,lG,bk,cp,db,g9,rfl,eF,ic,ie,eG,rfl,jl,(pT.pick [1,0,2] _ (by decide) rfl),iI⟩
 refine ZS (s:=gCp) (M:=fun σ_ w_=>∃ (U_:PHeap) (cR:Nat) (bB:Nat) (dr:Array MapEntry) (ep:Nat),σ_ 1=.pointer (some ⟨b2,0,none⟩)/\σ_ 3=.pointer (some ⟨cR,0,none⟩)/\σ_ 12=.agg B0.toArray/\σ_ 13=.map (some bB)/\σ_ 14=.agg #[jV ae.skier,jV ae.mat]/\PHeap.Le U U_/\sW w U U_ [.blk b2 45 B0,.blk cR 85 [.pointer none],.obj bB (.map dr ep)] w_/\MpR dr wBL wBO (wFe ([]:List (wAH × Int)) ae 0)) ?_ fun qW=>?_
 rintro tK sw ⟨jF,cR,bB,dr,ep,mB,mC,ig,ii,mD,ri,pU,n8⟩
 refine oM Z ii ?_
 let B4:List Value:=[.slice ag p0.Starts.length ak,.slice ah p0.Splits.length am,.slice ai p0.Clocks.length an,.slice aj p0.Readings.length ao,.map (some bB),.slice none 0 0]
 refine ze rfl rfl rfl rfl (fun _=>zu (pv:=[(0,.agg B0.toArray),(1,.map (some bB))]) (z:=[.slice none 0 0,.slice none 0 0,.slice none 0 0,.slice none 0 0,.map none,.slice none 0 0]) (cs:=B4) rfl (wAD ig (wAD rfl wAM)) Tryz.zeroValue124 wGD rfl rfl) (ZC (cs:=B4) rfl rfl rfl rfl rfl rfl (by rfl) pU ?_)
 intro sA lH pV
 exact dG _ _ ⟨jF,cR,bB,dr,ep,lH,mB,mC,ig,ii,mD,rfl,rfl,rfl,ri,(pV.pick [1,2,3,0] _ (by decide) rfl),n8⟩
 refine ZS (s:=.fl 4 gCq) (M:=fun σ_ w_=>∃ (U_:PHeap) (cS:Nat) (cU:Nat) (dt:Array MapEntry) (eu:Nat),σ_ 1=.pointer (some ⟨b2,0,none⟩)/\σ_ 3=.pointer (some ⟨cS,0,none⟩)/\σ_ 13=.map (some cU)/\σ_ 14=.agg #[jV ae.skier,jV ae.mat]/\PHeap.Le U U_/\sW w U U_ [.blk b2 45 B0,.blk cS 85 [.pointer none],.obj cU (.map dt eu)] w_/\MpR dt wBL wBO (wFe ([]:List (wAH × Int)) ae 0)) ?_ fun qX=>?_
 rintro tL sB ⟨jG,cS,cU,dt,eu,ij,mE,ik,mF,rj,iW,n9⟩
 exact oM Z ik (Zb Z Z Z Z (iW.ldBA (j:=0) Z Z ij zz zh (vs:=B0) Z Z) (jc _ _ ⟨jG,cS,cU,dt,eu,ij,mE,Z,ik,mF,Z,rj,iW,n9⟩))
 refine ZS (s:=gDa) (M:=fun σ_ w_=>∃ (U_:PHeap) (bX:Nat) (bY:Nat) (eB:Array MapEntry) (gz:Nat),σ_ 1=.pointer (some ⟨b2,0,none⟩)/\σ_ 3=.pointer (some ⟨bX,0,none⟩)/\σ_ 12=.agg B0.toArray/\σ_ 13=.map (some bY)/\σ_ 14=.agg #[jV ae.skier,jV ae.mat]/\PHeap.Le U U_/\sW w U U_ [.blk b2 45 B0,.blk bX 85 [.pointer none],.obj bY (.map eB gz)] w_/\MpR eB wBL wBO ([]:List (wAH × Int))) ?_ fun dH=>?_
 rintro tM sC ⟨f7,bX,bY,eB,gz,mG,mH,mI,il,im,rk,pW,oa⟩
 refine OKS.mapPut (x:=.tmp 13) (y:=.tmp 14) (j:=2) (mk:=wBL) (mv:=wBO) (a:=ae) (v:=0) rfl rfl rfl (by first | exact .inl rfl | exact .inr rfl) pW rfl il im rfl (wBE ZO) wCa oa rfl ?_
 intro gF gA lb qK pX
 have pY:sW w U f7 [.blk b2 45 B0,.blk bX 85 [.pointer none],.obj bY (.map gF gA)] lb:=pX
 exact qW _ _ ⟨f7,bX,bY,gF,gA,mG,mH,mI,il,im,rk,pY,qK⟩
 refine ZS (s:=.fl 4 gCz) (M:=fun σ_ w_=>∃ (U_:PHeap) (bu:Nat) (cq:Array MapEntry) (dd:Nat),σ_ 1=.pointer (some ⟨b2,0,none⟩)/\σ_ 12=.agg B0.toArray/\σ_ 13=.map (some bu)/\σ_ 14=.agg #[jV ae.skier,jV ae.mat]/\PHeap.Le U U_/\sW w U U_ [.blk b2 45 B0,.obj bu (.map cq dd)] w_/\MpR cq wBL wBO (wFe ([]:List (wAH × Int)) ae 0)) ?_ fun qY=>?_
 rintro tN sD ⟨f8,bu,cq,dd,io,eH,eI,ip,jm,iX,iJ⟩
 refine oM Z eI ?_
 let B5:List Value:=[.slice ag p0.Starts.length ak,.slice ah p0.Splits.length am,.slice ai p0.Clocks.length an,.slice aj p0.Readings.length ao,.map (some bu),.slice none 0 0]
 refine oR Z (zu (pv:=[(0,.agg B0.toArray),(1,.map (some bu))]) (z:=[.slice none 0 0,.slice none 0 0,.slice none 0 0,.slice none 0 0,.map none,.slice none 0 0]) (cs:=B5) Z (wAD eH (wAD Z wAM)) Tryz.zeroValue124 wGD Z Z) (zw ?_ ?_)
 refine ZC (cs:=B5) rfl rfl rfl rfl rfl rfl (by rfl) iX ?_
 intro sE lI pZ
 exact jb _ _ ⟨f8,bu,cq,dd,lI,io,eH,eI,ip,rfl,rfl,rfl,jm,(pZ.pick [1,2,0] _ (by decide) rfl),iJ⟩
 refine zW (cs:=[.pointer none]) Z Z Z Z Z yR Z iX ?_
 intro sF lJ p4
 exact ja _ _ ⟨f8,lJ,bu,cq,dd,io,rfl,eH,eI,ip,rfl,rfl,jm,(p4.pick [1,0,2] _ (by decide) rfl),iJ⟩
 refine ZS (s:=gDl) (M:=fun σ_ w_=>∃ (U_:PHeap) (bC:Nat) (bD:Nat) (du:Array MapEntry) (ew:Nat),σ_ 1=.pointer (some ⟨b2,0,none⟩)/\σ_ 3=.pointer (some ⟨bC,0,none⟩)/\σ_ 13=.map (some bD)/\σ_ 14=.agg #[jV ae.skier,jV ae.mat]/\PHeap.Le U U_/\sW w U U_ [.blk b2 45 B0,.blk bC 85 [.pointer none],.obj bD (.map du ew)] w_/\MpR du wBL wBO ([]:List (wAH × Int))) ?_ fun fA=>?_
 rintro tO sG ⟨dV,bC,bD,du,ew,eJ,iq,eK,eM,jo,fk,iK⟩
 refine zw ?_ ?_
 exact Zb Z Z Z Z (fk.ldBA (j:=0) Z Z eJ zz zh (vs:=B0) Z Z) (dH _ _ ⟨dV,bC,bD,du,ew,eJ,iq,Z,eK,eM,jo,fk,iK⟩)
 refine OKS.mapPut (x:=.tmp 13) (y:=.tmp 14) (j:=2) (mk:=wBL) (mv:=wBO) (a:=ae) (v:=0) rfl rfl rfl (by first | exact .inl rfl | exact .inr rfl) fk rfl eK eM rfl (wBE ZO) wCa iK rfl ?_
 intro gG gB lc qL p5
 have p6:sW w U dV [.blk b2 45 B0,.blk bC 85 [.pointer none],.obj bD (.map gG gB)] lc:=p5
 exact qX _ _ ⟨dV,bC,bD,gG,gB,eJ,iq,eK,eM,jo,p6,qL⟩
 refine ZS (s:=gDk) (M:=fun σ_ w_=>∃ (U_:PHeap) (bZ:Nat) (cr:Array MapEntry) (de:Nat),σ_ 1=.pointer (some ⟨b2,0,none⟩)/\σ_ 13=.map (some bZ)/\σ_ 14=.agg #[jV ae.skier,jV ae.mat]/\PHeap.Le U U_/\sW w U U_ [.blk b2 45 B0,.obj bZ (.map cr de)] w_/\MpR cr wBL wBO (wFe ([]:List (wAH × Int)) ae 0)) ?_ fun qZ=>?_
 rintro tP sH ⟨f9,bZ,cr,de,eO,eQ,ir,jp,fm,iL⟩
 refine oM Z eQ (zw ?_ ?_)
 exact Zb Z Z Z Z (fm.ldBA (j:=0) Z Z eO zz zh (vs:=B0) Z Z) (qV _ _ ⟨f9,bZ,cr,de,eO,Z,eQ,ir,Z,jp,fm,iL⟩)
 refine zW (cs:=[.pointer none]) Z Z Z Z Z yR Z fm ?_
 intro sI lK p7
 exact qU _ _ ⟨f9,lK,bZ,cr,de,eO,rfl,eQ,ir,rfl,jp,(p7.pick [1,0,2] _ (by decide) rfl),iL⟩
 refine ZS (s:=gDf) (M:=fun σ_ w_=>∃ (U_:PHeap) (cV:Nat),σ_ 1=.pointer (some ⟨b2,0,none⟩)/\σ_ 3=.pointer (some ⟨cV,0,none⟩)/\σ_ 12=.agg B0.toArray/\σ_ 14=.agg #[jV ae.skier,jV ae.mat]/\PHeap.Le U U_/\sW w U U_ [.blk b2 45 B0,.blk cV 85 [.pointer none]] w_) ?_ fun fB=>?_
 rintro tQ sJ ⟨jH,cV,mJ,mK,mL,mM,rn,p8⟩
 refine YG Z Z Z Z Z p8 ?_
 intro sK lL p9
 have qM:=MpR.nil wBL wBO
 exact dH _ _ ⟨jH,cV,lL,#[],0,mJ,mK,mL,rfl,mM,rn,(p9.pick [1,2,0] _ (by decide) rfl),qM⟩
 refine ZS (s:=gDe) (M:=fun σ_ w_=>∃ (U_:PHeap) (ca:Nat) (cc:Nat) (cu:Array MapEntry) (df:Nat),σ_ 1=.pointer (some ⟨b2,0,none⟩)/\σ_ 3=.pointer (some ⟨ca,0,none⟩)/\σ_ 12=.agg B0.toArray/\σ_ 13=.map (some cc)/\PHeap.Le U U_/\sW w U U_ [.blk b2 45 B0,.blk ca 85 [.pointer none],.obj cc (.map cu df)] w_/\MpR cu wBL wBO ([]:List (wAH × Int))) ?_ fun fC=>?_
 rintro tR lf ⟨jI,ca,cc,cu,df,mN,mO,mP,mQ,ro,qa,oc⟩
 refine zH 0 Z Z Z Z (zG Z Z yg zO Z) qa (fun hs=>wBm lf jI hs bm) (.inr Z) ?_
 rintro ga rK tm lg rp qb ⟨rfl,rfl⟩
 have qc:sW w U ga [.blk b2 45 B0,.blk ca 85 [.pointer none],.obj cc (.map cu df)] lg:=qb
 exact dH _ _ ⟨ga,ca,cc,cu,df,mN,mO,mP,mQ,Z,(ro.trans rp),qc,oc⟩
 refine ZS (s:=gDj) (M:=fun σ_ w_=>∃ (U_:PHeap) (bE:Nat) (dv:Array MapEntry) (eA:Nat),σ_ 1=.pointer (some ⟨b2,0,none⟩)/\σ_ 12=.agg B0.toArray/\σ_ 13=.map (some bE)/\σ_ 14=.agg #[jV ae.skier,jV ae.mat]/\PHeap.Le U U_/\sW w U U_ [.blk b2 45 B0,.obj bE (.map dv eA)] w_/\MpR dv wBL wBO ([]:List (wAH × Int))) ?_ fun fD=>?_
 rintro tS sL ⟨dW,bE,dv,eA,it,iu,eU,eV,jq,iY,iM⟩
 refine zw ?_ ?_
 refine OKS.mapPut (x:=.tmp 13) (y:=.tmp 14) (j:=1) (mk:=wBL) (mv:=wBO) (a:=ae) (v:=0) rfl rfl rfl (by first | exact .inl rfl | exact .inr rfl) iY rfl eU eV rfl (wBE ZO) wCa iM rfl ?_
 intro gH gC lh qN qd
 have qe:sW w U dW [.blk b2 45 B0,.obj bE (.map gH gC)] lh:=qd
 exact qY _ _ ⟨dW,bE,gH,gC,it,iu,eU,eV,jq,qe,qN⟩
 refine zW (cs:=[.pointer none]) Z Z Z Z Z yR Z iY ?_
 intro sM lM qf
 exact dH _ _ ⟨dW,lM,bE,dv,eA,it,rfl,iu,eU,eV,jq,(qf.pick [1,0,2] _ (by decide) rfl),iM⟩
 refine ZS (s:=gDt) (M:=fun σ_ w_=>∃ (U_:PHeap) (cd:Nat),σ_ 1=.pointer (some ⟨b2,0,none⟩)/\σ_ 3=.pointer (some ⟨cd,0,none⟩)/\σ_ 14=.agg #[jV ae.skier,jV ae.mat]/\PHeap.Le U U_/\sW w U U_ [.blk b2 45 B0,.blk cd 85 [.pointer none]] w_) ?_ fun jd=>?_
 rintro tT sN ⟨gb,cd,eW,iv,iw,jr,fq⟩
 refine zw ?_ ?_
 exact Zb Z Z Z Z (fq.ldBA (j:=0) Z Z eW zz zh (vs:=B0) Z Z) (fB _ _ ⟨gb,cd,eW,iv,Z,iw,jr,fq⟩)
 refine YG Z Z Z Z Z fq ?_
 intro sO lN qh
 have qO:=MpR.nil wBL wBO
 exact fA _ _ ⟨gb,cd,lN,#[],0,eW,iv,rfl,iw,jr,(qh.pick [1,2,0] _ (by decide) rfl),qO⟩
 refine ZS (s:=gDs) (M:=fun σ_ w_=>∃ (U_:PHeap) (bF:Nat) (bG:Nat) (bK:Array MapEntry) (ci:Nat),σ_ 1=.pointer (some ⟨b2,0,none⟩)/\σ_ 3=.pointer (some ⟨bF,0,none⟩)/\σ_ 13=.map (some bG)/\PHeap.Le U U_/\sW w U U_ [.blk b2 45 B0,.blk bF 85 [.pointer none],.obj bG (.map bK ci)] w_/\MpR bK wBL wBO ([]:List (wAH × Int))) ?_ fun je=>?_
 rintro tU li ⟨ge,bF,bG,bK,ci,eX,iy,iz,jt,ft,iN⟩
 refine zw ?_ ?_
 exact Zb Z Z Z Z (ft.ldBA (j:=0) Z Z eX zz zh (vs:=B0) Z Z) (fC _ _ ⟨ge,bF,bG,bK,ci,eX,iy,Z,iz,jt,ft,iN⟩)
 refine zH 0 Z Z Z Z (zG Z Z yg zO Z) ft (fun hs=>wBm li ge hs bm) (.inr Z) ?_
 rintro gf rL tp lj rq qi ⟨rfl,rfl⟩
 have qj:sW w U gf [.blk b2 45 B0,.blk bF 85 [.pointer none],.obj bG (.map bK ci)] lj:=qi
 exact fA _ _ ⟨gf,bF,bG,bK,ci,eX,iy,iz,Z,(jt.trans rq),qj,iN⟩
 refine ZS (s:=gDu) (M:=fun σ_ w_=>∃ (U_:PHeap) (bv:Nat) (cw:Array MapEntry) (dg:Nat),σ_ 1=.pointer (some ⟨b2,0,none⟩)/\σ_ 13=.map (some bv)/\σ_ 14=.agg #[jV ae.skier,jV ae.mat]/\PHeap.Le U U_/\sW w U U_ [.blk b2 45 B0,.obj bv (.map cw dg)] w_/\MpR cw wBL wBO ([]:List (wAH × Int))) ?_ fun jf=>?_
 rintro tV sP ⟨cJ,bv,cw,dg,dw,dx,dy,fG,dE,fg⟩
 refine zw ?_ ?_
 exact Zb Z Z Z Z (dE.ldBA (j:=0) Z Z dw zz zh (vs:=B0) Z Z) (fD _ _ ⟨cJ,bv,cw,dg,dw,Z,dx,dy,fG,dE,fg⟩)
 refine zw ?_ ?_
 refine OKS.mapPut (x:=.tmp 13) (y:=.tmp 14) (j:=1) (mk:=wBL) (mv:=wBO) (a:=ae) (v:=0) rfl rfl rfl (by first | exact .inl rfl | exact .inr rfl) dE rfl dx dy rfl (wBE ZO) wCa fg rfl ?_
 intro gI gD lk qP qk
 have qm:sW w U cJ [.blk b2 45 B0,.obj bv (.map gI gD)] lk:=qk
 exact qZ _ _ ⟨cJ,bv,gI,gD,dw,dx,dy,fG,qm,qP⟩
 refine zW (cs:=[.pointer none]) Z Z Z Z Z yR Z dE ?_
 intro sQ lO qn
 exact fA _ _ ⟨cJ,lO,bv,cw,dg,dw,rfl,dx,dy,fG,(qn.pick [1,0,2] _ (by decide) rfl),fg⟩
 refine ZS (s:=gDr) (M:=fun σ_ w_=>∃ (U_:PHeap) (bH:Nat),σ_ 1=.pointer (some ⟨b2,0,none⟩)/\σ_ 3=.pointer (some ⟨bH,0,none⟩)/\σ_ 12=.agg B0.toArray/\PHeap.Le U U_/\sW w U U_ [.blk b2 45 B0,.blk bH 85 [.pointer none]] w_) ?_ fun jg=>?_
 rintro tW lm ⟨gg,bH,iA,iB,iC,ju,iZ⟩
 refine zw ?_ ?_
 refine YG Z Z Z Z Z iZ ?_
 intro sS lP qo
 have qQ:=MpR.nil wBL wBO
 exact fC _ _ ⟨gg,bH,lP,#[],0,iA,iB,iC,rfl,ju,(qo.pick [1,2,0] _ (by decide) rfl),qQ⟩
 refine zH 0 Z Z Z Z (zG Z Z yg zO Z) iZ (fun hs=>wBm lm gg hs bm) (.inr Z) ?_
 rintro gh rM tq ln rv qp ⟨rfl,rfl⟩
 have oh:sW w U gh [.blk b2 45 B0,.blk bH 85 [.pointer none]] ln:=qp
 exact fB _ _ ⟨gh,bH,iA,iB,iC,Z,(ju.trans rv),oh⟩
 refine ZS (s:=gDq) (M:=fun σ_ w_=>∃ (U_:PHeap),σ_ 1=.pointer (some ⟨b2,0,none⟩)/\σ_ 12=.agg B0.toArray/\σ_ 14=.agg #[jV ae.skier,jV ae.mat]/\PHeap.Le U U_/\sW w U U_ [.blk b2 45 B0] w_) ?_ fun i8=>?_
 rintro tw rN ⟨fR,gJ,gK,gL,ji,iO⟩
 refine zw ?_ ?_
 refine YG Z Z Z Z Z iO ?_
 intro rP lp oj
 have qF:=MpR.nil wBL wBO
 exact fD _ _ ⟨fR,lp,#[],0,gJ,gK,rfl,gL,ji,(oj.pick [1,0] _ (by decide) rfl),qF⟩
 refine zW (cs:=[.pointer none]) Z Z Z Z Z yR Z iO ?_
 intro rQ lq om
 exact fB _ _ ⟨fR,lq,gJ,rfl,gK,gL,ji,(om.pick [1,0] _ (by decide) rfl)⟩
 refine ZS (s:=gDp) (M:=fun σ_ w_=>∃ (U_:PHeap) (bz:Nat) (bJ:Array MapEntry) (cg:Nat),σ_ 1=.pointer (some ⟨b2,0,none⟩)/\σ_ 12=.agg B0.toArray/\σ_ 13=.map (some bz)/\PHeap.Le U U_/\sW w U U_ [.blk b2 45 B0,.obj bz (.map bJ cg)] w_/\MpR bJ wBL wBO ([]:List (wAH × Int))) ?_ fun i9=>?_
 rintro tz jJ ⟨fS,bz,bJ,cg,gM,gN,gO,jj,iP,iD⟩
 refine zw ?_ ?_
 refine zH 0 Z Z Z Z (zG Z Z yg zO Z) iP (fun hs=>wBm jJ fS hs bm) (.inr Z) ?_
 rintro fT rz ta jK q5 oq ⟨rfl,rfl⟩
 have ot:sW w U fT [.blk b2 45 B0,.obj bz (.map bJ cg)] jK:=oq
 exact fD _ _ ⟨fT,bz,bJ,cg,gM,gN,gO,Z,(jj.trans q5),ot,iD⟩
 refine zW (cs:=[.pointer none]) Z Z Z Z Z yR Z iP ?_
 intro rS ls ou
 exact fC _ _ ⟨fS,ls,bz,bJ,cg,gM,rfl,gN,gO,jj,(ou.pick [1,0,2] _ (by decide) rfl),iD⟩
 refine zw ?_ ?_
 refine Zb Z Z Z Z (bo.ldBA (j:=0) Z Z Z zz zh (vs:=B0) Z Z) (zw ?_ ?_)
 refine YG Z Z Z Z Z bo ?_
 intro rT lu ov
 have qG:=MpR.nil wBL wBO
 exact i9 _ _ ⟨U,lu,#[],0,rfl,rfl,rfl,(zN _),(ov.pick [1,0] _ (by decide) rfl),qG⟩
 refine zw ?_ ?_
 refine zH 0 Z Z Z Z (zG Z Z yg zO Z) bo (fun hs=>wBm gt U hs bm) (.inr Z) ?_
 rintro fU rC tb jL q6 ow ⟨rfl,rfl⟩
 have ox:sW w U fU [.blk b2 45 B0] jL:=ow
 exact i8 _ _ ⟨fU,Z,Z,Z,q6,ox⟩
 refine zW (cs:=[.pointer none]) Z Z Z Z Z yR Z bo ?_
 intro rV lv oy
 exact jg _ _ ⟨U,lv,rfl,rfl,rfl,(zN _),(oy.pick [1,0] _ (by decide) rfl)⟩
 refine zw ?_ ?_
 refine YG Z Z Z Z Z bo ?_
 intro jM cK dB
 have fz:=MpR.nil wBL wBO
 refine zw ?_ ?_
 exact Zb rfl rfl rfl rfl (dB.ldBA (j:=1) rfl rfl rfl zz zh (vs:=B0) rfl rfl) (i9 _ _ ⟨U,cK,#[],0,rfl,rfl,rfl,(zN _),(dB.pick [1,0] _ (by decide) rfl),fz⟩)
 refine zw ?_ ?_
 refine zH 0 Z Z Z Z (zG Z Z yg zO Z) dB (fun hs=>wBm jM U hs bm) (.inr Z) ?_
 rintro fV rD tc jN q7 oz ⟨rfl,rfl⟩
 have oB:sW w U fV [.obj cK (.map #[] 0),.blk b2 45 B0] jN:=oz
 exact jf _ _ ⟨fV,cK,#[],0,rfl,rfl,rfl,q7,(oB.pick [1,0] _ (by decide) rfl),fz⟩
 refine zW (cs:=[.pointer none]) Z Z Z Z Z yR Z dB ?_
 intro rW lw oC
 exact je _ _ ⟨U,lw,cK,#[],0,rfl,rfl,rfl,(zN _),(oC.pick [2,0,1] _ (by decide) rfl),fz⟩
 refine zw ?_ ?_
 refine zH 0 Z Z Z Z (zG Z Z yg zO Z) bo (fun hs=>wBm gt U hs bm) (.inr Z) ?_
 rintro cH rE tf jO fE oD ⟨rfl,rfl⟩
 have dC:sW w U cH [.blk b2 45 B0] jO:=oD
 refine zw ?_ ?_
 exact Zb Z Z Z Z (dC.ldBA (j:=0) Z Z Z zz zh (vs:=B0) Z Z) (i8 _ _ ⟨cH,Z,Z,Z,fE,dC⟩)
 refine zw ?_ ?_
 refine YG Z Z Z Z Z dC ?_
 intro rX lx oE
 have qH:=MpR.nil wBL wBO
 exact jf _ _ ⟨cH,lx,#[],0,rfl,rfl,rfl,fE,(oE.pick [1,0] _ (by decide) rfl),qH⟩
 refine zW (cs:=[.pointer none]) Z Z Z Z Z yR Z dC ?_
 intro rY ly oG
 exact jd _ _ ⟨cH,ly,rfl,rfl,rfl,fE,(oG.pick [1,0] _ (by decide) rfl)⟩
 refine zW (cs:=[.pointer none]) Z Z Z Z Z yR Z bo ?_
 intro jP cL dD
 refine zw ?_ ?_
 exact Zb rfl rfl rfl rfl (dD.ldBA (j:=1) rfl rfl rfl zz zh (vs:=B0) rfl rfl) (jg _ _ ⟨U,cL,rfl,rfl,rfl,(zN _),(dD.pick [1,0] _ (by decide) rfl)⟩)
 refine zw ?_ ?_
 refine YG Z Z Z Z Z dD ?_
 intro rZ lz oH
 have qI:=MpR.nil wBL wBO
 exact je _ _ ⟨U,cL,lz,#[],0,rfl,rfl,rfl,(zN _),(oH.pick [2,1,0] _ (by decide) rfl),qI⟩
 refine zH 0 Z Z Z Z (zG Z Z yg zO Z) dD (fun hs=>wBm jP U hs bm) (.inr Z) ?_
 rintro fW rF tg jQ q8 oI ⟨rfl,rfl⟩
 have oJ:sW w U fW [.blk cL 85 [.pointer none],.blk b2 45 B0] jQ:=oI
 exact jd _ _ ⟨fW,cL,rfl,rfl,rfl,q8,(oJ.pick [1,0] _ (by decide) rfl)⟩
 rintro tA jR ⟨jz,b6,b8,af,cj,c6,gP,lS,dI,iQ,mS⟩
 refine zL (sR (.fl 0 (.fx 1 .nil .stop)) Z (oL Z (iQ.ldBA (j:=0) Z Z gP zz zh (vs:=B0) Z Z) ?_))
 have iE:=qr.le dI
 have iF:=qs.le dI
 have iG:=qu.le dI
 have iH:=qv.le dI
 have q:=bnd qz
 obtain ⟨⟨⟩,mT,i5⟩:=q
 try dsimp only at i5
 refine zH 0 Z Z Z Z (zG Z Z Tryz.call115 (zB Z zO) Z) iQ (fun hs=>wGX p0 ag ak ah am ai an aj ao jR jz hs iE iF iG iH mT) (.inr Z) ?_
 rintro fY rG th jS dJ oK ⟨gv,rfl,rfl,mU⟩
 let B6:Res:=.blk b6 85 [.pointer (some ⟨b8,0,none⟩)]
 have oO:sW w U fY [.blk b2 45 B0,B6,.blk b8 124 [.slice ag p0.Starts.length ak,.slice ah p0.Splits.length am,.slice ai p0.Clocks.length an,.slice aj p0.Readings.length ao,.map (some af),.slice none 0 0],.obj af (.map cj c6)] jS:=oK
 refine eN (zb (yf fun dO dF=>?_))
 have lT:dO 1=.pointer (some ⟨b2,0,none⟩):=(dF 1).trans gP
 have gQ:dO 3=.pointer (some ⟨b6,0,none⟩):=(dF 3).trans lS
 have lU:dO 19=.func (.func 144) #[] #[.pointer (some ⟨gv,0,none⟩)]:=(dF 19).trans rfl
 clear dF
 have oP:=oO.nilrow 151 7
 refine bnK i5 fun jw qy i6=>?_
 have eY:=iE.le dJ
 have eZ:=iF.le dJ
 have fb:=iG.le dJ
 have fc:=iH.le dJ
 refine CK.rangeY (S:=(List wAg) × (List (wAH × Int))) (E:=Empty) (ar:=wLl) (PY:=(fun (s_:(List wAg) × (List (wAH × Int))) (U_:PHeap) (L_:List Res)=>match s_ with | (l1591,l1595)=>∃ (bx:Option Addr) (bI:Nat) (bg:Array MapEntry) (bh:Nat),L_=[.blk b2 45 B0,B6,.row bx bI 151 7 (hD wAR l1591),.blk b8 124 [.slice ag p0.Starts.length ak,.slice ah p0.Splits.length am,.slice ai p0.Clocks.length an,.slice aj p0.Readings.length ao,.map (some af),.slice bx l1591.length bI],.obj af (.map bg bh)]/\MpR bg wBL wBO l1595)) (PE:=(fun (_:Empty) _ _=>False)) (exO:=Empty.elim) (s0:=([],jh)) (rr:=jw) lU Tryz.call144 (oP.pick [1,2,0,3,4] _ (by decide) rfl) (by decide) (fun _ _ _ h=>by obtain rfl:=h;rfl) (fun e=>nomatch e) ⟨none,0,cj,c6,rfl,mS⟩ (fun l w1 L1 PY' PE' og od qq=>wFo PY' PE' _ l _ p0 gv ag ak ah am ai an aj ao w1 L1 fY og od qq mU eY eZ fb fc qy) ?_ ?_
 rintro az s9 s5 ⟨l1591,l1595⟩ ap tr s8 dM rH ry fH aX dK oQ oe qt i2 dN bM
 obtain ⟨bx,bI,bg,bh,rfl,mV⟩:=oe
 obtain rfl:=qt
 replace bM:∀ t,dN t=upd dO 20 (.agg #[jV ap.Kind,jV ap.Skier,jV ap.Index,.bool ap.Up]) t:=bM
 have lV:dN 20=.agg #[jV ap.Kind,jV ap.Skier,jV ap.Index,.bool ap.Up]:=(bM 20).trans (wEt _ _ _)
 have gR:dN 1=.pointer (some ⟨b2,0,none⟩):=(bM 1).trans ((wFK _ _ (by decide)).trans lT)
 have lW:dN 3=.pointer (some ⟨b6,0,none⟩):=(bM 3).trans ((wFK _ _ (by decide)).trans gQ)
 clear bM
 let B7:Res:=.blk b8 124 [.slice ag p0.Starts.length ak,.slice ah p0.Splits.length am,.slice ai p0.Clocks.length an,.slice aj p0.Readings.length ao,.map (some af),.slice bx l1591.length bI]
 let B8:Res:=.row bx bI 151 7 (hD wAR l1591)
 have oS:St aX dM [.obj az fH,.blk b2 45 B0,B6,B8,B7,.obj af (.map bg bh)] ry:=oQ
 try dsimp only at i2
 refine rR gBy Z (zW (cs:=[jV 0,jV 0,jV 0,.bool false]) Z Z Z Z Z Zx Z oS ?_)
 intro r6 ay oU
 let B9:List Value:=[jV ap.Kind,jV ap.Skier,jV ap.Index,.bool ap.Up]
 refine zX (j:=0) (vs:=B9) Z Z Z Z oU Z Z lV Z Zh (zA Z) Z Z Z ?_
 intro jT oV
 have oW:St aX dM [.blk ay 101 B9,.obj az fH,.blk b2 45 B0,B6,B8,B7,.obj af (.map bg bh)] jT:=oV
 refine zg ⟨rfl,rfl,_,_,(oW.pick [1,0,2,3,4,5,6] [.obj az fH,.blk ay 101 B9,.blk b2 45 B0,B6,B8,B7,.obj af (.map bg bh)] (by decide) rfl),fun gj a7 oX=>?_⟩
 have fh:St aX dM [.obj az a7,.blk ay 101 B9,.blk b2 45 B0,B6,B8,B7,.obj af (.map bg bh)] gj:=oX
 refine zb (sR (.fl 0 (.fl 1 (.fx 2 (wKZ (.fx 7 (.fx 8 (.fx 9 (.fx 10 (.fl 11 .nil) .stop) .stop) .stop) .stop)) .stop))) Z (oL Z (fh.ldBA (j:=2) Z Z gR zz zh (vs:=B0) Z Z) (oL Z (fh.ldBA (j:=1) Z Z Z Zw Zh (vs:=B9) Z Z) ?_)))
 have mW:=eY.le dK
 have mX:=eZ.le dK
 have mY:=fb.le dK
 have mZ:=fc.le dK
 have q:=bnd i2
 obtain ⟨⟨aU,aV,bc⟩,m2,i7⟩:=q
 try dsimp only at i7
 refine zH 0 Z Z Z Z (zG Z Z Tryz.call65 (zB Z (zB Z zO)) Z) fh (fun hs=>wBn p0 ag ak ah am ai an aj ao ap gj dM hs mW mX mY mZ m2) (.inr Z) ?_
 rintro bS rI tj jU s6 oY ⟨rfl,rfl⟩
 have oZ:St aX bS [.obj az a7,.blk ay 101 B9,.blk b2 45 B0,B6,B8,B7,.obj af (.map bg bh)] jU:=oY
 refine oM Z Z (oR Z (zV Z Z (v:=.agg #[jV aU.skier,jV aU.mat]) Z) (oR Z (zV Z Z (v:=.agg #[jV aV.skier,jV aV.mat]) Z) (oR Z (zV Z Z (v:=jV bc) Z) ?_)))
 let cG:List Value:=[jV 0,jV 0]
 refine zW (cs:=cG) Z Z Z Z Z zf Z oZ ?_
 intro r7 a8 o0
 refine zW (cs:=cG) Z Z Z Z Z zf Z o0 ?_
 intro r8 ba o3
 let aW:List Value:=[jV aU.skier,jV aU.mat]
 refine zX (j:=1) (vs:=aW) Z Z Z Z o3 Z Z Z Z zK (zA Z) Z Z Z ?_
 intro jW o5
 have o6:St aX bS [.blk ba 115 cG,.blk a8 115 aW,.obj az a7,.blk ay 101 B9,.blk b2 45 B0,B6,B8,B7,.obj af (.map bg bh)] jW:=o5
 let aY:List Value:=[jV aV.skier,jV aV.mat]
 refine zX (j:=0) (vs:=aY) Z Z Z Z o6 Z Z Z Z zK (zA Z) Z Z Z ?_
 intro jX o7
 have fj:St aX bS [.blk ba 115 aY,.blk a8 115 aW,.obj az a7,.blk ay 101 B9,.blk b2 45 B0,B6,B8,B7,.obj af (.map bg bh)] jX:=o7
 refine oA Z Z (eN (zL (sR fL4 Z (oL Z (fj.ldBA (j:=1) Z Z Z zk zK (vs:=aW) Z Z) (oL Z (fj.ldBA (j:=0) Z Z Z zk zK (vs:=aY) Z Z) ?_)))))
 let fJ:List Value:=[jV aU.skier,jV aU.mat,jV aV.skier,jV aV.mat]
 refine oR Z (Runs.buildA (pv:=[(0,.agg aW.toArray),(1,.agg aY.toArray)]) (z:=[jV 0,jV 0,jV 0,jV 0]) (cs:=fJ) Z (wAD Z (wAD Z wAM)) Tryz.zeroValue200 Tryz.runUnderlying200 zK Z Z) (oM Z Z (eN (zb (bnK i7 fun ax qw qA=>?_))))
 have q:=wBM qw
 obtain ⟨fw,qx⟩:=q
 replace fw:=zM fw
 refine CK.forN' (fun cA cB σ_ w_=>∃ (U_:PHeap) (cm:Array MapEntry) (c8:Nat),σ_ 31=jV (↑cA:Int)/\σ_ 1=.pointer (some ⟨b2,0,none⟩)/\σ_ 3=.pointer (some ⟨b6,0,none⟩)/\σ_ 4=.pointer (some ⟨ay,0,none⟩)/\σ_ 5=.pointer (some ⟨a8,0,none⟩)/\σ_ 6=.pointer (some ⟨ba,0,none⟩)/\σ_ 7=jV bc/\σ_ 30=.agg fJ.toArray/\PHeap.Le bS U_/\St aX U_ [.blk ba 115 aY,.blk a8 115 aW,.obj az a7,.blk ay 101 B9,.blk b2 45 B0,B6,B8,B7,.obj af (.map cm c8)] w_/\MpR cm wBL wBO cB) qx ?_ ?_ ?_
 exact ⟨bS,bg,bh,Z,gR,lW,Z,Z,Z,Z,Z,(zN _),fj,mV⟩
 rintro cA cB tu tB r9 fu ⟨cI,cm,c8,dz,gS,cx,gT,gU,gV,gW,eD,jk,o8,dA⟩ qS
 have gx:Hid ((↑cA:Int) < 2):=zM (wAr fu)
 replace fu:=zM fu
 have i4:Hid (w64 ((↑cA:Int) + 1)=(↑(cA + 1):Int)):=zM (by have h1:=fw.out;have h2:=gx.out;rw [wAW] <;> omega)
 refine sR fL1 Z (oR Z (zY Z dz Z) (eN (zL (cT Z gx (kN (zL (zb (sR (.fl 0 gBz) Z (bnK qS fun bN fd qB=>oR Z (YB (cs:=hD wBr ([aU,aV]:List wAH)) Z eD dz Tryz.runUnderlying200 zK (wBt fd) (wBy fd) (wCz zk zK (wIV (sz:=2) (fun _=>Z) _ _ (wAX fd)))) (zW (cs:=cG) Z Z Z Z Z zf Z o8 ?_))))))))))
 intro sc gw o9
 let bP:List Value:=[jV bN.skier,jV bN.mat]
 refine zX (j:=0) (vs:=bP) Z Z Z Z o9 Z Z Z Z zK (zA Z) Z Z Z ?_
 intro dX pd
 have pe:St aX cI [.blk gw 115 bP,.blk ba 115 aY,.blk a8 115 aW,.obj az a7,.blk ay 101 B9,.blk b2 45 B0,B6,B8,B7,.obj af (.map cm c8)] dX:=pd
 refine eN (zL (ZF ZB [1,3,3,1,1,1,3,3,3,3,3] wON (by kernel_rfl) ?_))
 have bw:=pe.drew
 generalize hw_W1729:({ dX with drawn:=dX.drawn + 1 }:World)=gm at bw ⊢
 refine oL Z (bw.ldB (j:=6) Z Z cx yu (v:=.pointer (some ⟨b8,0,none⟩)) Z) (oR Z (ZT Z Z) (oR Z (zJ Z Z ZN Z Zz) (oL Z (bw.ldB (j:=8) Z Z Z yD (v:=.map (some af)) Z) (oL Z (bw.ldBA (j:=0) Z Z Z zk zK (vs:=bP) Z Z) (oL Z (bw.lookup2 (j:=9) (mk:=wBL) (mv:=wBO) (a:=bN) (z:=0) Z Z Z Z (wBE ZO) wCa zt dA) (oM Z Z (oR Z (zV Z Z (v:=jV (wAv cB bN 0)) Z) (oR Z (zV Z Z (v:=.bool (wKa cB bN)) Z) (oA Z Z (oA Z Z (eN (sR fL2 Z (oM Z Z (oR Z (ZW Z Z) (eN (ifc qB ?_ ?_))))))))))))))))
 intro dY qC
 refine zy (nC dY.out) (Zi (zx (zI (rR fL2 Z (oR Z (ZG (za Z dz Z) (congrArg (jV) i4.out)) (oM Z Z (zg ?_)))))))
 cases qC
 exact zI ⟨rfl,⟨cI,cm,c8,rfl,gS,cx,gT,gU,gV,gW,eD,jk,(bw.pick [1,2,3,4,5,6,7,8,9] _ (by decide) rfl),dA⟩⟩
 intro dY qD
 refine ZJ (nF (dY.out)) (ZF ZB [1,3,3,1,1,1,3,3,1,1,0] (wNL (.fx 10 .nil .stop)) (by kernel_rfl) ?_)
 have bn:=bw.drew
 generalize hw_W1737:({ gm with drawn:=gm.drawn + 1 }:World)=sd at bn ⊢
 refine ZE rfl rfl rfl rfl (bn.ldB (j:=6) rfl rfl cx yu (v:=.pointer (some ⟨b8,0,none⟩)) rfl) rfl (ze rfl rfl rfl rfl (fun _=>ZT rfl rfl) (ze rfl rfl rfl rfl (fun _=>zJ rfl rfl ZN rfl Zz) (ZE rfl rfl rfl rfl (bn.ldB (j:=8) rfl rfl rfl yD (v:=.map (some af)) rfl) rfl (ZE rfl rfl rfl rfl (bn.ldBA (j:=0) rfl rfl rfl zk zK (vs:=bP) rfl rfl) rfl (ZE rfl rfl rfl rfl (bn.ldB (j:=6) rfl rfl cx yu (v:=.pointer (some ⟨b8,0,none⟩)) rfl) rfl (ze rfl rfl rfl rfl (fun _=>ZT rfl rfl) (ze rfl rfl rfl rfl (fun _=>zJ rfl rfl ZN rfl Zz) (ZE rfl rfl rfl rfl (bn.ldB (j:=8) rfl rfl rfl yD (v:=.map (some af)) rfl) rfl (ZE rfl rfl rfl rfl (bn.lenM (j:=9) (mk:=wBL) (mv:=wBO) rfl rfl rfl (wBE ZO) dA) rfl (OKS.mapPut (x:=.tmp 48) (y:=.tmp 49) (z:=.tmp 54) (j:=9) (mk:=wBL) (mv:=wBO) (a:=bN) (v:=(↑(cB.length):Int)) rfl rfl rfl (by first | exact .inl rfl | exact .inr rfl) bn rfl rfl rfl rfl (wBE ZO) wCa dA rfl ?_))))))))))
 intro gE gy jY qJ pf
 have pg:St aX cI [.blk gw 115 bP,.blk ba 115 aY,.blk a8 115 aW,.obj az a7,.blk ay 101 B9,.blk b2 45 B0,B6,B8,B7,.obj af (.map gE gy)] jY:=pf
 refine zg (zx (zI (rR fL2 Z (oR Z (ZG (za Z dz Z) (congrArg (jV) i4.out)) (oM Z Z (zg ?_))))))
 cases qD
 exact zI ⟨rfl,⟨cI,gE,gy,rfl,gS,cx,gT,gU,gV,gW,eD,jk,(pg.pick [1,2,3,4,5,6,7,8,9] _ (by decide) rfl),qJ⟩⟩
 rintro tC gq ⟨bj,bf,be,mR,sT,bL,lX,lY,lZ,l3,sU,s7,ph,cy⟩
 have lQ:Hid (¬ ((↑((2:Int) - 0).toNat:Int) < 2)):=zM (wAf)
 refine sR fL1 rfl (ze rfl rfl rfl rfl (fun _=>zY rfl mR rfl) (eN (zL (cF Z lQ (Zd (zn (zn (ZV (zI (bnK qA fun bd ff fy=>ZF ZB [2,1,3,3,1,1,1,3,3,1,1,1,1,3,3,1,1,1,3,3,2,0,3,3,0] (wOY (.fx 0 (.fx 20 gCr .stop) (.fx 20 (.fx 0 gCr (.fx 21 (.fx 0 gCh .stop) .stop)) .stop))) (by kernel_rfl) ?_))))))))))
 have a6:=ph.drew
 generalize hw_W1786:({ gq with drawn:=gq.drawn + 1 }:World)=sf at a6 ⊢
 refine oL Z (a6.ldB (j:=5) Z Z bL yu (v:=.pointer (some ⟨b8,0,none⟩)) Z) (oR Z (ZT Z Z) (oR Z (zJ Z Z ZN Z YC) (oL Z (a6.ldB (j:=7) Z Z Z Tryz.isAgg122 (v:=.slice bx l1591.length bI) Z) (oL Z (a6.ldBA (j:=3) Z Z lX Zw Zh (vs:=B9) Z Z) (oL Z (a6.ldB (j:=5) Z Z bL yu (v:=.pointer (some ⟨b8,0,none⟩)) Z) (oR Z (ZT Z Z) (oR Z (zJ Z Z ZN Z Zz) (oL Z (a6.ldB (j:=7) Z Z Z yD (v:=.map (some af)) Z) (oL Z (a6.ldBA (j:=1) Z Z lY zk zK (vs:=aW) Z Z) (oL Z (a6.lookup1 (j:=8) (mk:=wBL) (mv:=wBO) (a:=aU) (z:=0) Z Z Z Z (wBE ZO) wCa zt cy) (oL Z (a6.ldB (j:=5) Z Z bL yu (v:=.pointer (some ⟨b8,0,none⟩)) Z) (oR Z (ZT Z Z) (oR Z (zJ Z Z ZN Z Zz) (oL Z (a6.ldB (j:=7) Z Z Z yD (v:=.map (some af)) Z) (oL Z (a6.ldBA (j:=0) Z Z lZ zk zK (vs:=aY) Z Z) (oL Z (a6.lookup1 (j:=8) (mk:=wBL) (mv:=wBO) (a:=aV) (z:=0) Z Z Z Z (wBE ZO) wCa zt cy) (oM Z l3 ?_)))))))))))))))))
 let bQ:List Value:=[jV ap.Kind,jV ap.Skier,jV ap.Index,.bool ap.Up,jV (wAv ax aU 0),jV (wAv ax aV 0),jV bc]
 let dQ:List Value:=[jV 0,jV 0,jV 0,.bool false,jV 0,jV 0,jV 0]
 refine oR Z (zu (pv:=[(0,.agg B9.toArray),(1,jV (wAv ax aU 0)),(2,jV (wAv ax aV 0)),(3,jV bc)]) (z:=dQ) (cs:=bQ) Z (wAD Z (wAD Z (wAD Z (wAD Z wAM)))) Tryz.zeroValue151 wKz Z Z) (zw ?_ ?_)
 refine Zb Z Z Z Z (a6.ldB (j:=5) Z Z bL yu (v:=.pointer (some ⟨b8,0,none⟩)) Z) (zo (pv:=[(0,.agg bQ.toArray)]) (zs:=dQ) (cs:=bQ) Z Z Z Z Z (wAD Z wAM) Tryz.runUnderlying122 Tryz.sizeOf151 Tryz.zeroValue151 Z Z Z Z Z a6 ?_)
 intro jZ lA pj
 let dR:Res:=.row (some ⟨lA,0,none⟩) 1 151 7 (hD wAR [(⟨ap,(wAv ax aU 0),(wAv ax aV 0),bc⟩:wAg)])
 have iR:St aX bj [dR,.blk ba 115 aY,.blk a8 115 aW,.obj az a7,.blk ay 101 B9,.blk b2 45 B0,B6,B8,B7,.obj af (.map bf be)] jZ:=pj
 refine yK (j:=7) (enc:=wAR) (xs:=l1591) (ys:=[(⟨ap,(wAv ax aU 0),(wAv ax aV 0),bc⟩:wAg)]) (zs:=bd) rfl rfl rfl rfl rfl Tryz.underlying122 wJH rfl rfl rfl rfl rfl rfl iR rfl rfl rfl (iR.srcR (j:=0) rfl (by decide) (wAC (f:=wAR) (sz:=7) (fun _=>rfl) [(⟨ap,(wAv ax aU 0),(wAv ax aV 0),bc⟩:wAg)])) (fun _=>rfl) (fun _=>rfl) ff rfl ?_
 intro cC cW j4 pk
 let fK:Res:=.row cC cW 151 7 (hD wAR bd)
 have pm:St aX bj [dR,.blk ba 115 aY,.blk a8 115 aW,.obj az a7,.blk ay 101 B9,.blk b2 45 B0,B6,fK,B7,.obj af (.map bf be)] j4:=pk
 refine oR Z (ZT Z Z) (oR Z (zJ Z Z ZN Z YC) (zX (j:=8) (vs:=[.slice cC bd.length cW]) Z Z Z Z pm Z Z Z Z YC (zA Z) Z Z Z ?_))
 intro j5 pn
 have po:St aX bj [dR,.blk ba 115 aY,.blk a8 115 aW,.obj az a7,.blk ay 101 B9,.blk b2 45 B0,B6,fK,.blk b8 124 [.slice ag p0.Starts.length ak,.slice ah p0.Splits.length am,.slice ai p0.Clocks.length an,.slice aj p0.Readings.length ao,.map (some af),.slice cC bd.length cW],.obj af (.map bf be)] j5:=pn
 refine zg (zx ?_)
 have q:=nH fy
 obtain rfl:=q
 exact ⟨_,_,(po.pick [3,5,6,7,8,9] _ (by decide) rfl),rfl,⟨cC,cW,bf,be,rfl,cy⟩⟩
 refine zo (pv:=[(0,.agg bQ.toArray)]) (zs:=dQ) (cs:=bQ) Z Z Z Z Z (wAD Z wAM) Tryz.runUnderlying122 Tryz.sizeOf151 Tryz.zeroValue151 Z Z Z Z Z a6 ?_
 intro j6 lB pp
 let bR:Res:=.row (some ⟨lB,0,none⟩) 1 151 7 (hD wAR [(⟨ap,(wAv ax aU 0),(wAv ax aV 0),bc⟩:wAg)])
 have cz:St aX bj [bR,.blk ba 115 aY,.blk a8 115 aW,.obj az a7,.blk ay 101 B9,.blk b2 45 B0,B6,B8,B7,.obj af (.map bf be)] j6:=pp
 refine zw ?_ ?_
 refine Zb rfl rfl rfl rfl (cz.ldB (j:=6) rfl rfl bL yu (v:=.pointer (some ⟨b8,0,none⟩)) rfl) (yK (j:=7) (enc:=wAR) (xs:=l1591) (ys:=[(⟨ap,(wAv ax aU 0),(wAv ax aV 0),bc⟩:wAg)]) (zs:=bd) rfl rfl rfl rfl rfl Tryz.underlying122 wJH rfl rfl rfl rfl rfl rfl cz rfl rfl rfl (cz.srcR (j:=0) rfl (by decide) (wAC (f:=wAR) (sz:=7) (fun _=>rfl) [(⟨ap,(wAv ax aU 0),(wAv ax aV 0),bc⟩:wAg)])) (fun _=>rfl) (fun _=>rfl) ff rfl ?_)
 intro cD cX j7 pq
 let fM:Res:=.row cD cX 151 7 (hD wAR bd)
 have pu:St aX bj [bR,.blk ba 115 aY,.blk a8 115 aW,.obj az a7,.blk ay 101 B9,.blk b2 45 B0,B6,fM,B7,.obj af (.map bf be)] j7:=pq
 refine oR Z (ZT Z Z) (oR Z (zJ Z Z ZN Z YC) (zX (j:=8) (vs:=[.slice cD bd.length cX]) Z Z Z Z pu Z Z Z Z YC (zA Z) Z Z Z ?_))
 intro j8 py
 have pz:St aX bj [bR,.blk ba 115 aY,.blk a8 115 aW,.obj az a7,.blk ay 101 B9,.blk b2 45 B0,B6,fM,.blk b8 124 [.slice ag p0.Starts.length ak,.slice ah p0.Splits.length am,.slice ai p0.Clocks.length an,.slice aj p0.Readings.length ao,.map (some af),.slice cD bd.length cX],.obj af (.map bf be)] j8:=py
 refine zg (zx ?_)
 have q:=nH fy
 obtain rfl:=q
 exact ⟨_,_,(pz.pick [3,5,6,7,8,9] _ (by decide) rfl),rfl,⟨cD,cX,bf,be,rfl,cy⟩⟩
 refine yK (j:=7) (enc:=wAR) (xs:=l1591) (ys:=[(⟨ap,(wAv ax aU 0),(wAv ax aV 0),bc⟩:wAg)]) (zs:=bd) rfl rfl rfl rfl rfl Tryz.underlying122 wJH rfl rfl rfl rfl rfl rfl cz rfl rfl rfl (cz.srcR (j:=0) rfl (by decide) (wAC (f:=wAR) (sz:=7) (fun _=>rfl) [(⟨ap,(wAv ax aU 0),(wAv ax aV 0),bc⟩:wAg)])) (fun _=>rfl) (fun _=>rfl) ff rfl ?_
 intro cE cY j9 pB
 let fN:Res:=.row cE cY 151 7 (hD wAR bd)
 have iS:St aX bj [bR,.blk ba 115 aY,.blk a8 115 aW,.obj az a7,.blk ay 101 B9,.blk b2 45 B0,B6,fN,B7,.obj af (.map bf be)] j9:=pB
 refine Zb Z Z Z Z (iS.ldB (j:=6) Z Z bL yu (v:=.pointer (some ⟨b8,0,none⟩)) Z) (oR Z (ZT Z Z) (oR Z (zJ Z Z ZN Z YC) (zX (j:=8) (vs:=[.slice cE bd.length cY]) Z Z Z Z iS Z Z Z Z YC (zA Z) Z Z Z ?_)))
 intro k5 pC
 have pD:St aX bj [bR,.blk ba 115 aY,.blk a8 115 aW,.obj az a7,.blk ay 101 B9,.blk b2 45 B0,B6,fN,.blk b8 124 [.slice ag p0.Starts.length ak,.slice ah p0.Splits.length am,.slice ai p0.Clocks.length an,.slice aj p0.Readings.length ao,.map (some af),.slice cE bd.length cY],.obj af (.map bf be)] k5:=pC
 refine zg (zx ?_)
 have q:=nH fy
 obtain rfl:=q
 exact ⟨_,_,(pD.pick [3,5,6,7,8,9] _ (by decide) rfl),rfl,⟨cE,cY,bf,be,rfl,cy⟩⟩
 rintro jv dU rJ k6 dL pE
 rcases jw with ⟨jx,tv⟩ | lR
 try dsimp only at i6
 rintro ⟨dP,dZ,dh,cZ,rfl,m3⟩
 let dS:Res:=.blk b8 124 [.slice ag p0.Starts.length ak,.slice ah p0.Splits.length am,.slice ai p0.Clocks.length an,.slice aj p0.Readings.length ao,.map (some af),.slice dP jx.length dZ]
 let dT:Res:=.row dP dZ 151 7 (hD wAR jx)
 have iT:sW w U dU [.blk b2 45 B0,B6,dT,dS,.obj af (.map dh cZ),.obj jv (.deferred (some []))] k6:=pE
 refine zx (zI (sR fL2 Z (oL Z (iT.ldB (j:=1) Z Z gQ yu (v:=.pointer (some ⟨b8,0,none⟩)) Z) (oA Z Z (eN (zR ?_))))))
 have m4:=eY.le dL
 have m5:=eZ.le dL
 have m6:=fb.le dL
 have m7:=fc.le dL
 refine wKq (by first | exact .inl rfl | exact .inr rfl) (rbs:=[jv]) (L:=[.blk b2 45 B0,B6,dT,dS,.obj af (.map dh cZ)]) iT fun k8 pF=>?_
 have pG:sW w U dU [.blk b2 45 B0,B6,dT,dS,.obj af (.map dh cZ)] k8:=pF
 cases i6
 exact ⟨_,(ZH rfl),dU,_,(pG.pick [3,4,2] _ (by decide) rfl),b8,ag,ak,ah,am,ai,an,aj,ao,af,dh,cZ,dP,dZ,rfl,rfl,m4,m5,m6,m7,m3⟩
 exact lR.elim
end Go.Proofs.YtkghaiefcjgfkaaGreat
namespace Go.Proofs.YtkghaiefcjgfkaaGreat
open Go.KL
set_option maxHeartbeats 4000000
theorem wEZ (p0:wAE) (ae:Option Addr) (ai:Nat) (af:Option Addr) (aj:Nat) (ag:Option Addr) (ak:Nat) (ah:Option Addr) (am:Nat) (w:World) (U:PHeap) (hS:St0 w U []) (bf:Sl U 1 ae ai p0.Starts.length (hD KL.encI p0.Starts)) (bg:Sl U 2 af aj p0.Splits.length (hD wAF p0.Splits)) (bh:Sl U 3 ag ak p0.Clocks.length (hD wAA p0.Clocks)) (bi:Sl U 4 ah am p0.Readings.length (hD wAB p0.Readings)) {r:(Option wAh) × Int} (hm:wCP p0=some r):Gv Tryz.prog 64 [.agg #[.slice ae p0.Starts.length ai,.slice af p0.Splits.length aj,.slice ag p0.Clocks.length ak,.slice ah p0.Readings.length am]] w (wBa w [] U (fun U_ L_ v=>match r.1 with | none=>v=.tuple #[.pointer none,jV r.2]/\L_=[] | some d=>∃ (b0:Nat) (A0p00:Option Addr) (c0p00:Nat) (A0p01:Option Addr) (c0p01:Nat) (A0p02:Option Addr) (c0p02:Nat) (A0p03:Option Addr) (c0p03:Nat) (m0p1:Nat) (es0p1:Array MapEntry) (ck0p1:Nat) (A0p2:Option Addr) (c0p2:Nat),v=.tuple #[.pointer (some ⟨b0,0,none⟩),jV r.2]/\L_=[.blk b0 124 [.slice A0p00 d.Race.Starts.length c0p00,.slice A0p01 d.Race.Splits.length c0p01,.slice A0p02 d.Race.Clocks.length c0p02,.slice A0p03 d.Race.Readings.length c0p03,.map (some m0p1),.slice A0p2 d.edges.length c0p2],.obj m0p1 (.map es0p1 ck0p1),.row A0p2 c0p2 151 7 (hD wAR d.edges)]/\Sl U_ 1 A0p00 c0p00 d.Race.Starts.length (hD KL.encI d.Race.Starts)/\Sl U_ 2 A0p01 c0p01 d.Race.Splits.length (hD wAF d.Race.Splits)/\Sl U_ 3 A0p02 c0p02 d.Race.Clocks.length (hD wAA d.Race.Clocks)/\Sl U_ 4 A0p03 c0p03 d.Race.Readings.length (hD wAB d.Race.Readings)/\MpR es0p1 wBL wBO d.number)):=by
 unfold wCP at hm
 refine Gv.of Tryz.func64 Z Tryz.ntmps64 Tryz.results64 Z (sR gCi Z ?_)
 let B0:List Value:=[.slice ae p0.Starts.length ai,.slice af p0.Splits.length aj,.slice ag p0.Clocks.length ak,.slice ah p0.Readings.length am]
 refine ZC (cs:=B0) rfl rfl rfl rfl rfl rfl (by rfl) hS ?_
 intro W1 b2 be
 refine oA Z Z (oA Z Z (eN (zL (sR (.fl 0 (.fx 1 (.fl 2 .nil) .stop)) Z (oL Z (be.ldBA (j:=0) Z Z Z zz zh (vs:=B0) Z Z) (bnK hm fun x5 h6 bE=>zH 0 Z Z Z Z (zG Z Z Tryz.call58 (zB Z zO) Z) be (fun hs=>wEY p0 ae ai af aj ag ak ah am W1 U hs bf bg bh bi h6) (.inr Z) ?_))))))
 rintro U8 L9 bI aX an bx ⟨rfl,rfl⟩
 have av:sW w U U8 [.blk b2 45 B0] aX:=bx
 refine oA Z Z (eN (sR fL2 Z (oM Z Z (oR Z (Zk Z Z Z) (eN (ifc bE ?_ ?_))))))
 intro aq bB
 refine zy (ZM (fun h=>h aq.out)) (kN (sR gCs Z (oL Z (av.ldBA (j:=0) Z Z Z zz zh (vs:=B0) Z Z) ?_)))
 have bm:=bf.le an
 have bn:=bg.le an
 have bo:=bh.le an
 have bp:=bi.le an
 refine bnK bB fun ab bq bC=>zH 0 Z Z Z Z (zG Z Z Tryz.call105 (zB Z zO) Z) av (fun hs=>wGF p0 ae ai af aj ag ak ah am aX U8 hs bm bn bo bp bq) (.inr Z) ?_
 rintro aW bF bJ bk bH bz ⟨a6,ay,a7,az,a8,aU,ba,aV,bb,ax,bd,bc,ao,au,rfl,rfl,br,bs,bt,bu,bv⟩
 have bA:sW w U aW [.blk a6 124 [.slice ay ab.Race.Starts.length a7,.slice az ab.Race.Splits.length a8,.slice aU ab.Race.Clocks.length ba,.slice aV ab.Race.Readings.length bb,.map (some ax),.slice ao ab.edges.length au],.obj ax (.map bd bc),.row ao au 151 7 (hD wAR ab.edges),.blk b2 45 B0] bk:=bz
 refine oA Z Z (oA Z Z (eN (zR ?_)))
 cases bC
 exact ⟨rfl,_,(wEF rfl rfl),aW,_,(bA.pick [0,1,2] _ (by decide) rfl),a6,ay,a7,az,a8,aU,ba,aV,bb,ax,bd,bc,ao,au,rfl,rfl,br,bs,bt,bu,bv⟩
 intro aq bD
 refine cT Z aq (sR fL3 Z (oM Z Z (oA Z Z (oA Z Z (eN (zR (zS ?_)))))))
 cases bD
 exact ⟨rfl,_,(wEF rfl rfl),U8,_,(av.pick [] _ (by decide) rfl),rfl,rfl⟩
theorem wDa (p0:List wAP) (an:Option Addr) (ao:Nat) (p1:(wAP->Option Bool)) (ap:Value) (w:World) (U:PHeap) (hS:St0 w U []) (bp:Sl U 2 an ao p0.length (hD wAU p0)) (bq:FnOK Tryz.prog U ap wMk wMl p1) {r:Bool} (hm:wBJ p0 p1=some r):Gv Tryz.prog 71 [.slice an p0.length ao,ap] w (wBa w [] U (fun U_ L_ v=>v=.bool r/\L_=[])):=by
 unfold wBJ at hm
 refine Gv.of Tryz.func71 Z Tryz.ntmps71 Tryz.results71 Z (sR fL1 Z (oA Z Z (eN (zL (sR fL3 Z (oM Z Z (oR Z (zr Z Z Zu) (oM Z Z (eN (zb ?_))))))))))
 have q:=wBQ hm
 obtain ⟨r3,ai⟩:=q
 have q:=wBP ai
 obtain ⟨ak,bt⟩:=q
 replace ak:=zM ak
 refine yG (fun k2 _ σ_ w_=>∃ (U_:PHeap),σ_ 9=jV (↑k2:Int)/\σ_ 1=ap/\σ_ 7=.slice an p0.length ao/\σ_ 8=jV (↑p0.length:Int)/\PHeap.Le U U_/\sW w U U_ [] w_) bt ?_ ?_ ?_
 exact ⟨U,Z,Z,Z,Z,(zN _),hS⟩
 rintro k2 ⟨⟩ bQ bS W8 aj ⟨a6,ah,av,ax,ay,am,aU⟩ aY br
 try dsimp only at aY
 have au:Hid ((↑k2:Int) < (↑p0.length:Int)):=zM (wAr aj)
 replace aj:=zM aj
 have bu:Hid (w64 ((↑k2:Int) + 1)=(↑(k2 + 1):Int)):=zM (by have h1:=ak.out;have h2:=au.out;rw [wAW] <;> omega)
 refine sR fL1 Z (oR Z (zY Z ah ay) (eN (zL (cT Z au (kN (zL (zb (sR (.fl 0 (.fl 1 gBr)) Z (bnK aY fun ac az bv=>?_)))))))))
 have bf:=bp.le am
 have q:=bf.el (fun _=>rfl) (wAX az)
 obtain ⟨bH,bL,bi,bj⟩:=q
 refine oR Z (ZR Z ax bi ah Zu ZX (wBA az)) (oL Z (aU.ldCA (f:=0) bj Z Z Zq ZX (us:=[jV ac.Skier,jV ac.Mat]) Z Z) (zW (cs:=[jV 0,jV 0]) Z Z Z Z Z yF Z aU ?_))
 intro bE aq bk
 let B0:List Value:=[jV ac.Skier,jV ac.Mat]
 refine zX (j:=0) (vs:=B0) Z Z Z Z bk Z Z Z Z ZX (zA Z) Z Z Z ?_
 intro a8 bm
 have aV:sW w U a6 [.blk aq 62 B0] a8:=bm
 refine eN (sR gCt Z (oM Z av (oL Z (aV.ldBA (j:=0) Z Z Z Zq ZX (vs:=B0) Z Z) (bnK bv fun bP bg bw=>?_))))
 have bh:=bq.le am
 refine YF (a:=ac) Z Z Z Z Z Z (zB Z zO) aV bh Z bg ?_
 rintro af bD bN ba bB bn ⟨rfl,rfl⟩
 have aW:sW w U af [.blk aq 62 B0] ba:=bn
 refine oR Z (ZW Z Z) (eN (ifc bw ?_ ?_))
 intro ag bx
 refine zy (nC ag.out) (Zi (zx (zI (rR fL2 Z (oR Z (ZG (za Z ah Z) (congrArg (jV) bu.out)) (oM Z Z (zg ?_)))))))
 have q:=nH bx
 obtain rfl:=q
 exact zI ⟨rfl,_,rfl,⟨af,rfl,av,ax,ay,(am.trans bB),(aW.pick [] _ (by decide) rfl)⟩⟩
 intro ag bz
 refine ZJ (nF (ag.out)) (sR fL1 Z (oA Z Z (eN (zR (zd (zS ?_))))))
 have q:=wAZ bz
 obtain ⟨bC,bA,bc⟩:=q
 have q:=wBB hm ai (br bC bc)
 obtain rfl:=q
 refine zS (zd (zS ?_))
 have hE:=nH bA;first | subst r | cases hE
 exact ⟨rfl,_,(ZH rfl),af,_,(aW.pick [] _ (by decide) rfl),rfl,rfl⟩
 rintro ⟨⟩ bR bF ⟨a7,be,bI,bJ,bd,bK,bo⟩ bs
 have aX:=wCE hm ai bs
 try dsimp only at aX
 have bb:Hid (¬ ((↑(((↑p0.length:Int):Int) - 0).toNat:Int) < (↑p0.length:Int))):=zM (wAf)
 refine sR fL1 Z (oR Z (zY Z be bd) (eN (zL (cF Z bb (Zd (zn (zn (ZV (zI (sR fL1 Z (oA Z Z (eN (zR ?_)))))))))))))
 have hE:=nH aX;first | subst r | cases hE
 exact ⟨Z,_,(ZH Z),a7,_,bo,Z,Z⟩
theorem wGz (p0 p1:Int) (w:World) (U:PHeap) (hS:St0 w U []) {r:Int × Int} (hm:wDY p0 p1=some r):Gv Tryz.prog 107 [.int .u64 p0,.int .u64 p1] w (wBa w [] U (fun U_ L_ v=>v=.tuple #[.int .u64 r.1,.int .u64 r.2]/\L_=[])):=by
 unfold wDY at hm
 split at hm
 rename_i h
 cases hm
 obtain ⟨x,rfl⟩:=nI h.1
 obtain ⟨y,rfl⟩:=nI h.2.2.1
 refine (Go.Proofs.Tryz.bits_Mul x y (by omega) (by omega) w).mono ?_
 rintro e w' ⟨rfl,rfl⟩
 refine ⟨_,Z,U,[],hS,?_,Z⟩
 simp
 cases hm
theorem wAo (p0:List Int) (az:Option Addr) (aU:Nat) (p1:Int) (w:World) (U:PHeap) (hS:St0 w U []) (bS:Sl U 1 az aU p0.length (hD KL.encI p0)) {r:(List Int)} (hm:wBK p0 p1=some r):Gv Tryz.prog 72 [.slice az p0.length aU,jV p1] w (wBa w [] U (fun U_ L_ v=>∃ (A0:Option Addr) (c0:Nat),v=.slice A0 r.length c0/\L_=[.row A0 c0 3 1 (hD KL.encI r)])):=by
 unfold wBK at hm
 refine Gv.of Tryz.func72 Z Tryz.ntmps72 Tryz.results72 Z (sR fL1 Z (oA Z Z (eN (zL (sR fL2 Z (oM Z Z (oR Z (zY Z Z Z) (eN ?_))))))))
 by_cases c1:p1 < 0
 have bf:=hm;rw [if_pos c1] at bf;replace c1:=zM c1
 refine cT Z c1 (rR gBy Z ?_)
 cases bf
 have bi:=hm;rw [if_neg c1] at bi;replace c1:=zM c1
 refine cF Z c1 (kN (sR (wHC (.fx 5 (wOd (.nil)) .stop)) Z (oM Z Z (oR Z (zr Z Z zC) (oR Z (Runs.cv64 Z Z yo Tryz.runUnderlying188 Z Z) (oM Z Z (oR Z (Runs.cv64 Z Z yo Tryz.runUnderlying188 Z Z) ?_)))))))
 have q:=bnd bi
 obtain ⟨⟨x4,x5⟩,h6,bj⟩:=q
 try dsimp only at bj
 refine zH 0 Z Z Z Z (zG Z Z Tryz.call107 (zB Z (zB Z zO)) Z) hS (fun hs=>wGz (wLa (↑p0.length:Int)) (wLa p1) w U hs h6) (.inr Z) ?_
 rintro U8 L9 cD bt cr bL ⟨rfl,rfl⟩
 have a8:sW w U U8 [] bt:=bL
 refine oM Z Z (oR Z (zV Z Z (v:=.int .u64 x4) Z) (oR Z (zV Z Z (v:=.int .u64 x5) Z) (oA Z Z (oA Z Z (eN (zL (bnK bj fun bx bo cc=>yW (fun σ_ w_=>∃ (U_:PHeap),σ_ 0=.slice az p0.length aU/\σ_ 6=.int .u64 x5/\σ_ 26=.bool bx/\PHeap.Le U8 U_/\sW w U U_ [] w_) ?_ ?_)))))))
 refine rR fL6 Z (oM Z Z (oR Z (yt Z Z Z) (oM Z Z ?_)))
 by_cases ac:0 < x4
 have bg:=bo;rw [if_pos ac] at bg;replace ac:=zM ac
 refine oT Z ac (oT Z ac (oR Z (zT Z (Zm ac.out) Z) (zg ?_)))
 cases bg
 exact zI ⟨Z,⟨U8,Z,Z,Z,(zN _),a8⟩⟩
 have bh:=bo;rw [if_neg ac] at bh;replace ac:=zM ac
 refine zm Z Z Z (wF Z ac) Z Z (rU Z (wF Z ac) (yt Z Z Z) (oR Z (zc Z (ZM ac.out) Z) (zg ?_)))
 have q:=nH bh
 obtain rfl:=q
 exact zI ⟨Z,⟨U8,Z,Z,Z,(zN _),a8⟩⟩
 rintro cG cz ⟨am,bA,bB,a6,cu,bM⟩
 refine ifc cc ?_ ?_
 intro au cd
 refine ZJ (a6.trans (congrArg nJ au.out)) (rR gBy Z ?_)
 cases cd
 intro au cg
 refine zy (a6.trans (congrArg nJ (nK.2 au.out))) (kN (sR gCt Z (oM Z bB (oR Z (Runs.cvw Z Z Tryz.runUnderlying188 yo Z Z) (bnK cg fun aa bC ci=>yw (enc:=KL.encI) (z:=(0:Int)) (v:=jV 0) Z Z Z Z Z (wBE zC) wFm Z Z Z Z Z Z bC bM ?_)))))
 intro bu ab bN
 have ba:sW w U am [.row (some ⟨ab,0,none⟩) aa.length 3 1 (hD KL.encI aa)] bu:=bN
 refine oA Z Z (eN (sR gCt Z (oM Z Z (oM Z bA ?_))))
 have bD:=bS.le cr
 have bE:=bD.le cu
 refine bnK ci fun aV bF cj=>OKS.copyM (j:=0) (f:=KL.encI) (m:=aa) (ys:=p0) (z:=aV) (a:=0) (n:=aa.length) rfl rfl rfl rfl rfl rfl zC zD ba rfl (fun _=>rfl) (fun _=>rfl) rfl bF rfl (by simp) (.inr (by simp)) rfl (ba.srcS bE) rfl ?_
 intro bv bP bd
 have bQ:sW w U am [.row (some ⟨ab,0,none⟩) aa.length 3 1 (hD KL.encI aV)] bv:=bP
 refine oA Z Z (eN (zL (zb (CK.iter (fun (ae,af) σ_ w_=>∃ (U_:PHeap),σ_ 7=.slice (some ⟨ab,0,none⟩) ae.length aa.length/\σ_ 8=jV af/\PHeap.Le am U_/\sW w U U_ [.row (some ⟨ab,0,none⟩) aa.length 3 1 (hD KL.encI ae)] w_/\ae.length=aa.length) cj ?_ ?_))))
 exact ⟨am,(Eq.trans (b:=(.slice (some ⟨ab,0,none⟩) aa.length aa.length:Value)) (c:=(.slice (some ⟨ab,0,none⟩) aV.length aa.length:Value)) rfl (by rw [bd])),rfl,(zN _),bQ,bd⟩
 rintro ⟨ae,af⟩ cE cH aY ⟨aq,aj,ao,cw,bb,bH⟩ ay bY
 try dsimp only at ay
 refine zL (sR fL4 Z (oM Z ao (oM Z aj (oR Z (zr Z Z zC) (oR Z (zY Z Z Z) (eN ?_))))))
 by_cases ah:af < (↑ae.length:Int)
 have bk:=ay;rw [if_pos ah] at bk;replace ah:=zM ah
 refine cT Z ah (kN (zb (ZF ZB [3,3,3,3,3,3,3,0,3,3] (wMK gCj) (by kernel_rfl) ?_)))
 have ak:=bb.drew
 generalize hw_W76:({ aY with drawn:=aY.drawn + 1 }:World)=cA at ak ⊢
 refine oM Z ao (oM Z aj (oM Z ao (bnK bk fun br bI cm=>?_)))
 have q:=wIW bI
 obtain ⟨bU,bW,av,cB,ax⟩:=q
 have bm:=ak.rowCap (j:=0) rfl (by decide) (wAC (f:=KL.encI) (sz:=1) (fun _=>rfl) ae)
 refine ze (v:=.slice (if aa.length=(af:Int).toNat then (some ⟨ab,0,none⟩) else Option.map (fun q:Addr=>q.add ((af:Int).toNat * 1)) ((some ⟨ab,0,none⟩):Option Addr)) br.length (aa.length - (af:Int).toNat)) rfl rfl rfl rfl (fun _=>ZG (Runs.slc (sz:=1) (a:=af) (b:=(↑(ae.length):Int)) rfl rfl (.inl ⟨_,rfl,rfl⟩) (.inr ⟨rfl,rfl⟩) zC zD bU bW av bm) (by rw [ax])) (zm rfl rfl rfl rfl rfl aj (zm rfl rfl rfl rfl rfl ao (bnK cm fun bs a7 co=>?_)))
 have q:=wIW a7
 obtain ⟨bV,bX,bZ,cC,cq⟩:=q
 have bn:=ak.rowCap (j:=0) rfl (by decide) (wAC (f:=KL.encI) (sz:=1) (fun _=>rfl) ae)
 refine ze (v:=.slice (if aa.length=(0:Int).toNat then (some ⟨ab,0,none⟩) else Option.map (fun q:Addr=>q.add ((0:Int).toNat * 1)) ((some ⟨ab,0,none⟩):Option Addr)) bs.length (aa.length - (0:Int).toNat)) rfl rfl rfl rfl (fun _=>ZG (Runs.slc (sz:=1) (a:=0) (b:=af) rfl rfl (.inr ⟨rfl,rfl⟩) (.inl ⟨_,rfl,rfl⟩) zC zD bV bX bZ bn) (by rw [cq])) (bnK co fun aW bJ cp=>OKS.copyM (j:=0) (f:=KL.encI) (m:=ae) (ys:=bs) (z:=aW) (a:=af) (n:=br.length) rfl rfl rfl rfl rfl rfl zC zD ak rfl (fun _=>rfl) (fun _=>rfl) rfl bJ rfl (by have:=ax;have:=av;omega) (cutA rfl (by have:=ax;have:=av;have:=bm;omega)) rfl (ak.srcCut (f:=KL.encI) (j:=0) rfl (fun _=>rfl) rfl a7 bn) rfl ?_)
 intro bw bR bc
 have bK:sW w U aq [.row (some ⟨ab,0,none⟩) aa.length 3 1 (hD KL.encI aW)] bw:=bR
 refine oR Z (za Z Z Z) (oA Z Z (zg (zx ?_)))
 have q:=nH cp
 obtain rfl:=q
 exact zI ⟨rfl,_,rfl,⟨aq,(Eq.trans (b:=(.slice (some ⟨ab,0,none⟩) ae.length aa.length:Value)) (c:=(.slice (some ⟨ab,0,none⟩) aW.length aa.length:Value)) aj (by rw [bc])),rfl,cw,bK,(bc.trans bH)⟩⟩
 have be:=ay;rw [if_neg ah] at be;replace ah:=zM ah
 refine cF Z ah (Zd (zn ?_))
 have q:=wAZ be
 obtain ⟨cx,ca,bz⟩:=q
 have q:=bY cx bz
 obtain rfl:=q
 refine zn (ZV (zI (sR fL2 Z (oM Z aj (oA Z Z (eN (zR ?_)))))))
 have hE:=nH ca;first | subst r | cases hE
 exact ⟨Z,_,(ZH Z),aq,_,bb,(some ⟨ab,0,none⟩),aa.length,Z,Z⟩
theorem wAk (p0:wAh) (ag:Nat) (dz:Option Addr) (dD:Nat) (dA:Option Addr) (dE:Nat) (dB:Option Addr) (dF:Nat) (dC:Option Addr) (dG:Nat) (aa:Nat) (ac:Array MapEntry) (ae:Nat) (bj:Option Addr) (bk:Nat) (p1:Int) (p2:Bool) (w:World) (U:PHeap) (hS:St0 w U [.blk ag 124 [.slice dz p0.Race.Starts.length dD,.slice dA p0.Race.Splits.length dE,.slice dB p0.Race.Clocks.length dF,.slice dC p0.Race.Readings.length dG,.map (some aa),.slice bj p0.edges.length bk],.obj aa (.map ac ae)]) (xV:Sl U 1 dz dD p0.Race.Starts.length (hD KL.encI p0.Race.Starts)) (xW:Sl U 2 dA dE p0.Race.Splits.length (hD wAF p0.Race.Splits)) (xX:Sl U 3 dB dF p0.Race.Clocks.length (hD wAA p0.Race.Clocks)) (xY:Sl U 4 dC dG p0.Race.Readings.length (hD wAB p0.Race.Readings)) (cM:MpR ac wBL wBO p0.number) (u7:Sl U 7 bj bk p0.edges.length (hD wAR p0.edges)) {r:wDR × Int × Bool} (hm:wAj p0 p1 p2=some r):Gv Tryz.prog 49 [.pointer (some ⟨ag,0,none⟩),jV p1,.bool p2] w (wBa w [.blk ag 124 [.slice dz p0.Race.Starts.length dD,.slice dA p0.Race.Splits.length dE,.slice dB p0.Race.Clocks.length dF,.slice dC p0.Race.Readings.length dG,.map (some aa),.slice bj p0.edges.length bk],.obj aa (.map ac ae)] U (fun U_ L_ v=>∃ (gh:Option Addr) (iJ:Nat) (gi:Option Addr) (iK:Nat),v=.tuple #[.agg #[.slice gh r.1.far.length iJ,.slice gi r.1.by_.length iK],jV r.2.1,.bool r.2.2]/\L_=[.row gh iJ 3 1 (hD KL.encI r.1.far),.row gi iK 3 1 (hD KL.encI r.1.by_),.blk ag 124 [.slice dz p0.Race.Starts.length dD,.slice dA p0.Race.Splits.length dE,.slice dB p0.Race.Clocks.length dF,.slice dC p0.Race.Readings.length dG,.map (some aa),.slice bj p0.edges.length bk],.obj aa (.map ac ae)])):=by
 unfold wAj at hm
 refine Gv.of Tryz.func49 Z Tryz.ntmps49 Tryz.results49 Z (sR gCi Z ?_)
 let B0:List Value:=[.slice none 0 0,.slice none 0 0]
 refine zW (cs:=B0) Z Z Z Z Z Zf Z hS ?_
 intro W3 b4 ux
 refine oA Z Z (oA Z Z (eN ?_))
 have q:=bnd hm
 obtain ⟨⟨l9,bq⟩,wb,lT⟩:=q
 try dsimp only at lT
 let B1:Res:=.blk ag 124 [.slice dz p0.Race.Starts.length dD,.slice dA p0.Race.Splits.length dE,.slice dB p0.Race.Clocks.length dF,.slice dC p0.Race.Readings.length dG,.map (some aa),.slice bj p0.edges.length bk]
 refine yW (fun σ_ w_=>∃ (U_:PHeap) (b8:Nat) (am:Option Addr) (an:Nat) (ao:Option Addr) (ap:Nat),σ_ 0=.pointer (some ⟨ag,0,none⟩)/\σ_ 1=jV p1/\σ_ 2=.bool p2/\σ_ 6=.pointer (some ⟨b4,0,none⟩)/\σ_ 9=.pointer (some ⟨b8,0,none⟩)/\PHeap.Le U U_/\SW w [B1,.obj aa (.map ac ae)] U U_ [.blk b4 118 B0,B1,.obj aa (.map ac ae),.blk b8 118 [.slice am l9.length an,.slice ao bq.length ap],.row am an 3 1 (hD KL.encI l9),.row ao ap 3 1 (hD KL.encI bq)] w_) ?_ ?_
 refine bnK wb fun aq eJ vX=>bnK vX fun aX eK vY=>ZF ZB [2,3,3,3,1,1,2,2,3,3,3,1,1,2,3,2,0] (fC1_5 (wIt (.fx 0 (.fx 6 (.fl 12 (.fx 7 gDb (.fx 15 gCu .stop))) (.fx 7 gDm (.fx 15 gDn .stop))) (.fx 7 (.fx 0 gDm (.fx 15 gDg .stop)) (.fx 15 (.fx 0 gDn (.fx 7 gDg .stop)) .stop))))) (by kernel_rfl) ?_
 have bZ:=ux.drew
 generalize hw_W74:({ W3 with drawn:=W3.drawn + 1 }:World)=xi at bZ ⊢
 refine ZS (s:=.nil) (M:=fun σ_ w_=>∃ (U_:PHeap) (dY:Nat) (cd:Option Addr) (cz:Nat) (cg:Option Addr) (cA:Nat) (eV:Option Addr) (ft:Nat) (eW:Option Addr) (fu:Nat),σ_ 0=.pointer (some ⟨ag,0,none⟩)/\σ_ 1=jV p1/\σ_ 2=.bool p2/\σ_ 6=.pointer (some ⟨b4,0,none⟩)/\σ_ 9=.pointer (some ⟨dY,0,none⟩)/\σ_ 16=.slice eV ([1125899906842624].length) ft/\σ_ 17=.pointer (some ⟨ag,0,none⟩)/\σ_ 18=.pointer (some ⟨ag,0,none⟩)/\σ_ 19=.pointer (some ⟨ag,4,none⟩)/\σ_ 20=.map (some aa)/\σ_ 21=jV (↑(p0.number.length):Int)/\σ_ 22=.slice cd aq.length cz/\σ_ 23=.slice eW ([-1].length) fu/\σ_ 24=.pointer (some ⟨ag,0,none⟩)/\σ_ 25=.pointer (some ⟨ag,0,none⟩)/\σ_ 26=.pointer (some ⟨ag,4,none⟩)/\σ_ 27=.map (some aa)/\σ_ 28=jV (↑(p0.number.length):Int)/\σ_ 29=.slice cg aX.length cA/\σ_ 30=.agg #[.slice cd aq.length cz,.slice cg aX.length cA]/\PHeap.Le U U_/\SW w [B1,.obj aa (.map ac ae)] U U_ [.blk b4 118 B0,B1,.obj aa (.map ac ae),.blk dY 118 [.slice cd aq.length cz,.slice cg aX.length cA],.row cd cz 3 1 (hD KL.encI aq),.row cg cA 3 1 (hD KL.encI aX)] w_/\Sl U_ 1 eV ft [1125899906842624].length (hD KL.encI [1125899906842624])/\Sl U_ 1 eW fu [-1].length (hD KL.encI [-1])) ?_ fun ma=>?_
 rintro Aq xd ⟨mE,dY,cd,cz,cg,cA,eV,ft,eW,fu,pq,pu,py,pz,pB,xC,xD,xE,xF,xG,xH,xI,xJ,xK,xL,xM,xN,xO,xP,xQ,wo,uv,xT,xU⟩
 refine zg ?_
 cases vY
 exact zI ⟨Z,⟨mE,dY,cd,cz,cg,cA,pq,pu,py,pz,pB,wo,uv⟩⟩
 refine ZS (s:=.fx 16 .nil .stop) (M:=fun σ_ w_=>∃ (U_:PHeap) (da:Nat) (dI:Option Addr) (d5:Nat) (bE:Option Addr) (bP:Nat) (dJ:Option Addr) (d7:Nat) (bF:Option Addr) (bQ:Nat),σ_ 0=.pointer (some ⟨ag,0,none⟩)/\σ_ 1=jV p1/\σ_ 2=.bool p2/\σ_ 6=.pointer (some ⟨b4,0,none⟩)/\σ_ 9=.pointer (some ⟨da,0,none⟩)/\σ_ 16=.slice dI ([1125899906842624].length) d5/\σ_ 17=.pointer (some ⟨ag,0,none⟩)/\σ_ 18=.pointer (some ⟨ag,0,none⟩)/\σ_ 19=.pointer (some ⟨ag,4,none⟩)/\σ_ 20=.map (some aa)/\σ_ 21=jV (↑(p0.number.length):Int)/\σ_ 22=.slice bE aq.length bP/\σ_ 23=.slice dJ ([-1].length) d7/\σ_ 24=.pointer (some ⟨ag,0,none⟩)/\σ_ 25=.pointer (some ⟨ag,0,none⟩)/\σ_ 26=.pointer (some ⟨ag,4,none⟩)/\σ_ 27=.map (some aa)/\σ_ 28=jV (↑(p0.number.length):Int)/\σ_ 29=.slice bF aX.length bQ/\σ_ 30=.agg #[.slice bE aq.length bP,.slice bF aX.length bQ]/\PHeap.Le U U_/\SW w [B1,.obj aa (.map ac ae)] U U_ [.blk b4 118 B0,B1,.obj aa (.map ac ae),.blk da 118 B0,.row bE bP 3 1 (hD KL.encI aq),.row bF bQ 3 1 (hD KL.encI aX)] w_/\Sl U_ 1 dI d5 [1125899906842624].length (hD KL.encI [1125899906842624])/\Sl U_ 1 dJ d7 [-1].length (hD KL.encI [-1])) ?_ fun wc=>?_
 rintro Ar xe ⟨gP,da,dI,d5,bE,bP,dJ,d7,bF,bQ,pC,pD,pE,pF,jA,pG,pH,pI,pJ,pK,pL,pM,pN,pO,pP,pQ,pR,pS,pT,jB,wp,uw,sF,sG⟩
 let B2:List Value:=[.slice bE aq.length bP,.slice bF aX.length bQ]
 refine zX (j:=3) (vs:=B2) Z Z Z Z uw Z jA jB Z Zp (zA Z) Z Z Z ?_
 intro mU uy
 have uz:SW w [B1,.obj aa (.map ac ae)] U gP [.blk b4 118 B0,B1,.obj aa (.map ac ae),.blk da 118 B2,.row bE bP 3 1 (hD KL.encI aq),.row bF bQ 3 1 (hD KL.encI aX)] mU:=uy
 exact ma _ _ ⟨gP,da,bE,bP,bF,bQ,dI,d5,dJ,d7,pC,pD,pE,pF,jA,pG,pH,pI,pJ,pK,pL,pM,pN,pO,pP,pQ,pR,pS,pT,jB,wp,uz,sF,sG⟩
 refine ZS (s:=gCb) (M:=fun σ_ w_=>∃ (U_:PHeap) (db:Nat) (dK:Option Addr) (d9:Nat) (bG:Option Addr) (bR:Nat) (dL:Option Addr) (ef:Nat) (bH:Option Addr) (bS:Nat),σ_ 0=.pointer (some ⟨ag,0,none⟩)/\σ_ 1=jV p1/\σ_ 2=.bool p2/\σ_ 6=.pointer (some ⟨b4,0,none⟩)/\σ_ 9=.pointer (some ⟨db,0,none⟩)/\σ_ 16=.slice dK ([1125899906842624].length) d9/\σ_ 17=.pointer (some ⟨ag,0,none⟩)/\σ_ 18=.pointer (some ⟨ag,0,none⟩)/\σ_ 19=.pointer (some ⟨ag,4,none⟩)/\σ_ 20=.map (some aa)/\σ_ 21=jV (↑(p0.number.length):Int)/\σ_ 22=.slice bG aq.length bR/\σ_ 23=.slice dL ([-1].length) ef/\σ_ 24=.pointer (some ⟨ag,0,none⟩)/\σ_ 25=.pointer (some ⟨ag,0,none⟩)/\σ_ 26=.pointer (some ⟨ag,4,none⟩)/\σ_ 27=.map (some aa)/\σ_ 28=jV (↑(p0.number.length):Int)/\σ_ 29=.slice bH aX.length bS/\PHeap.Le U U_/\SW w [B1,.obj aa (.map ac ae)] U U_ [.blk b4 118 B0,B1,.obj aa (.map ac ae),.blk db 118 B0,.row bG bR 3 1 (hD KL.encI aq),.row bH bS 3 1 (hD KL.encI aX)] w_/\Sl U_ 1 dK d9 [1125899906842624].length (hD KL.encI [1125899906842624])/\Sl U_ 1 dL ef [-1].length (hD KL.encI [-1])) ?_ fun mb=>?_
 rintro As xf ⟨gQ,db,dK,d9,bG,bR,dL,ef,bH,bS,pU,pV,pW,pX,jC,pY,pZ,p4,p5,p6,p7,jD,p8,p9,qa,qb,qc,qd,jE,wq,uA,sH,sI⟩
 let B3:List Value:=[.slice bG aq.length bR,.slice bH aX.length bS]
 refine oR Z (zu (pv:=[(0,.slice bG aq.length bR),(1,.slice bH aX.length bS)]) (z:=B0) (cs:=B3) Z (wAD jD (wAD jE wAM)) Zf wIZ Z Z) (zX (j:=3) (vs:=B3) Z Z Z Z uA Z jC Z Z Zp (zA Z) Z Z Z ?_)
 intro mV uB
 have uC:SW w [B1,.obj aa (.map ac ae)] U gQ [.blk b4 118 B0,B1,.obj aa (.map ac ae),.blk db 118 B3,.row bG bR 3 1 (hD KL.encI aq),.row bH bS 3 1 (hD KL.encI aX)] mV:=uB
 exact ma _ _ ⟨gQ,db,bG,bR,bH,bS,dK,d9,dL,ef,pU,pV,pW,pX,jC,pY,pZ,p4,p5,p6,p7,jD,p8,p9,qa,qb,qc,qd,jE,Z,wq,uC,sH,sI⟩
 refine ZS (s:=gCl) (M:=fun σ_ w_=>∃ (U_:PHeap) (cr:Nat) (dM:Option Addr) (eh:Nat) (cO:Option Addr) (df:Nat) (cP:Option Addr) (dg:Nat),σ_ 0=.pointer (some ⟨ag,0,none⟩)/\σ_ 1=jV p1/\σ_ 2=.bool p2/\σ_ 6=.pointer (some ⟨b4,0,none⟩)/\σ_ 9=.pointer (some ⟨cr,0,none⟩)/\σ_ 16=.slice dM ([1125899906842624].length) eh/\σ_ 17=.pointer (some ⟨ag,0,none⟩)/\σ_ 18=.pointer (some ⟨ag,0,none⟩)/\σ_ 19=.pointer (some ⟨ag,4,none⟩)/\σ_ 20=.map (some aa)/\σ_ 21=jV (↑(p0.number.length):Int)/\σ_ 22=.slice cO aq.length df/\σ_ 23=.slice cP ([-1].length) dg/\σ_ 24=.pointer (some ⟨ag,0,none⟩)/\σ_ 25=.pointer (some ⟨ag,0,none⟩)/\σ_ 26=.pointer (some ⟨ag,4,none⟩)/\σ_ 27=.map (some aa)/\σ_ 28=jV (↑(p0.number.length):Int)/\PHeap.Le U U_/\SW w [B1,.obj aa (.map ac ae)] U U_ [.blk b4 118 B0,B1,.obj aa (.map ac ae),.blk cr 118 B0,.row cO df 3 1 (hD KL.encI aq),.row cP dg 3 1 (hD KL.encI [-1])] w_/\Sl U_ 1 dM eh [1125899906842624].length (hD KL.encI [1125899906842624])) ?_ fun eO=>?_
 rintro Au iu ⟨wL,cr,dM,eh,cO,df,cP,dg,qe,qf,qh,qi,qj,qk,qm,qn,qo,qp,qq,qr,jF,qs,qt,qu,qv,jG,wr,uD,sJ⟩
 have q:=uD.freezeR (k:=5) (n:=[-1].length) rfl (wAC (f:=KL.encI) (sz:=1) (fun _=>rfl) [-1]) (by decide)
 obtain ⟨gR,mm,lX,uE⟩:=q
 let B4:Res:=.row cO df 3 1 (hD KL.encI aq)
 have uF:SW w [B1,.obj aa (.map ac ae)] U gR [.blk b4 118 B0,B1,.obj aa (.map ac ae),.blk cr 118 B0,B4] iu:=uE
 refine zH 0 Z Z Z Z (zG Z Z Tryz.call72 (zB jF (zB jG zO)) Z) uF (fun hs=>wAo [-1] cP dg (↑(p0.number.length):Int) iu gR hs lX eK) (.inr Z) ?_
 rintro gS wH y9 mW ge uG ⟨gt,iR,rfl,rfl⟩
 have uH:SW w [B1,.obj aa (.map ac ae)] U gS [.row gt iR 3 1 (hD KL.encI aX),.blk b4 118 B0,B1,.obj aa (.map ac ae),.blk cr 118 B0,B4] mW:=uG
 have sK:=sJ.le mm
 have sL:=sK.le ge
 have sM:=lX.le ge
 exact mb _ _ ⟨gS,cr,dM,eh,cO,df,cP,dg,gt,iR,qe,qf,qh,qi,qj,qk,qm,qn,qo,qp,qq,qr,jF,qs,qt,qu,qv,jG,rfl,((wr.trans mm).trans ge),(uH.pick [1,2,3,4,5,0] _ (by decide) rfl),sL,sM⟩
 refine ZS (s:=gCk) (M:=fun σ_ w_=>∃ (U_:PHeap) (dN:Option Addr) (ep:Nat) (ci:Option Addr) (cB:Nat) (dO:Option Addr) (eu:Nat) (cj:Option Addr) (cC:Nat),σ_ 0=.pointer (some ⟨ag,0,none⟩)/\σ_ 1=jV p1/\σ_ 2=.bool p2/\σ_ 6=.pointer (some ⟨b4,0,none⟩)/\σ_ 16=.slice dN ([1125899906842624].length) ep/\σ_ 17=.pointer (some ⟨ag,0,none⟩)/\σ_ 18=.pointer (some ⟨ag,0,none⟩)/\σ_ 19=.pointer (some ⟨ag,4,none⟩)/\σ_ 20=.map (some aa)/\σ_ 21=jV (↑(p0.number.length):Int)/\σ_ 22=.slice ci aq.length cB/\σ_ 23=.slice dO ([-1].length) eu/\σ_ 24=.pointer (some ⟨ag,0,none⟩)/\σ_ 25=.pointer (some ⟨ag,0,none⟩)/\σ_ 26=.pointer (some ⟨ag,4,none⟩)/\σ_ 27=.map (some aa)/\σ_ 28=jV (↑(p0.number.length):Int)/\σ_ 29=.slice cj aX.length cC/\PHeap.Le U U_/\SW w [B1,.obj aa (.map ac ae)] U U_ [.blk b4 118 B0,B1,.obj aa (.map ac ae),.row ci cB 3 1 (hD KL.encI aq),.row cj cC 3 1 (hD KL.encI aX)] w_/\Sl U_ 1 dN ep [1125899906842624].length (hD KL.encI [1125899906842624])/\Sl U_ 1 dO eu [-1].length (hD KL.encI [-1])) ?_ fun mc=>?_
 rintro Av xg ⟨mF,dN,ep,ci,cB,dO,eu,cj,cC,qw,qx,qy,qz,qA,qB,qC,qD,qE,qF,jH,qG,qH,qI,qJ,qK,qL,jI,ws,uI,sN,sO⟩
 refine oR Z (zu (pv:=[(0,.slice ci aq.length cB),(1,.slice cj aX.length cC)]) (z:=B0) (cs:=[.slice ci aq.length cB,.slice cj aX.length cC]) Z (wAD jH (wAD jI wAM)) Zf wIZ Z Z) (zW (cs:=B0) Z Z Z Z Z Zf Z uI ?_)
 intro xh m8 uJ
 exact wc _ _ ⟨mF,m8,dN,ep,ci,cB,dO,eu,cj,cC,qw,qx,qy,qz,rfl,qA,qB,qC,qD,qE,qF,jH,qG,qH,qI,qJ,qK,qL,jI,rfl,ws,(uJ.pick [1,2,3,0,4,5] _ (by decide) rfl),sN,sO⟩
 refine ZS (s:=.fl 12 gCl) (M:=fun σ_ w_=>∃ (U_:PHeap) (cu:Nat) (dP:Option Addr) (ew:Nat) (cQ:Option Addr) (dh:Nat) (cR:Option Addr) (di:Nat),σ_ 0=.pointer (some ⟨ag,0,none⟩)/\σ_ 1=jV p1/\σ_ 2=.bool p2/\σ_ 6=.pointer (some ⟨b4,0,none⟩)/\σ_ 9=.pointer (some ⟨cu,0,none⟩)/\σ_ 16=.slice dP ([1125899906842624].length) ew/\σ_ 17=.pointer (some ⟨ag,0,none⟩)/\σ_ 18=.pointer (some ⟨ag,0,none⟩)/\σ_ 19=.pointer (some ⟨ag,4,none⟩)/\σ_ 20=.map (some aa)/\σ_ 21=jV (↑(p0.number.length):Int)/\σ_ 22=.slice cQ aq.length dh/\σ_ 23=.slice cR ([-1].length) di/\σ_ 24=.pointer (some ⟨ag,0,none⟩)/\σ_ 25=.pointer (some ⟨ag,0,none⟩)/\σ_ 26=.pointer (some ⟨ag,4,none⟩)/\σ_ 27=.map (some aa)/\PHeap.Le U U_/\SW w [B1,.obj aa (.map ac ae)] U U_ [.blk b4 118 B0,B1,.obj aa (.map ac ae),.blk cu 118 B0,.row cQ dh 3 1 (hD KL.encI aq),.row cR di 3 1 (hD KL.encI [-1])] w_/\Sl U_ 1 dP ew [1125899906842624].length (hD KL.encI [1125899906842624])) ?_ fun wd=>?_
 rintro Aw iv ⟨wM,cu,dP,ew,cQ,dh,cR,di,qM,qN,qO,qP,qQ,qR,qS,qT,qU,qV,qW,qX,jJ,qY,qZ,q5,jK,wt,lI,sP⟩
 refine oL Z (lI.lenM (j:=2) (mk:=wBL) (mv:=wBO) Z Z jK (wBE ZO) cM) ?_
 have q:=lI.freezeR (k:=5) (n:=[-1].length) rfl (wAC (f:=KL.encI) (sz:=1) (fun _=>rfl) [-1]) (by decide)
 obtain ⟨gT,mn,lY,uK⟩:=q
 let B5:Res:=.row cQ dh 3 1 (hD KL.encI aq)
 have uL:SW w [B1,.obj aa (.map ac ae)] U gT [.blk b4 118 B0,B1,.obj aa (.map ac ae),.blk cu 118 B0,B5] iv:=uK
 refine zH 0 Z Z Z Z (zG Z Z Tryz.call72 (zB jJ (zB Z zO)) Z) uL (fun hs=>wAo [-1] cR di (↑(p0.number.length):Int) iv gT hs lY eK) (.inr Z) ?_
 rintro gU wI z6 mX gf uM ⟨gu,iS,rfl,rfl⟩
 have uN:SW w [B1,.obj aa (.map ac ae)] U gU [.row gu iS 3 1 (hD KL.encI aX),.blk b4 118 B0,B1,.obj aa (.map ac ae),.blk cu 118 B0,B5] mX:=uM
 have sQ:=sP.le mn
 have sS:=sQ.le gf
 have sT:=lY.le gf
 exact mb _ _ ⟨gU,cu,dP,ew,cQ,dh,cR,di,gu,iS,qM,qN,qO,qP,qQ,qR,qS,qT,qU,qV,qW,qX,jJ,qY,qZ,q5,jK,rfl,rfl,((wt.trans mn).trans gf),(uN.pick [1,2,3,4,5,0] _ (by decide) rfl),sS,sT⟩
 refine ZS (s:=.fl 12 gCu) (M:=fun σ_ w_=>∃ (U_:PHeap) (dd:Nat) (dQ:Option Addr) (eA:Nat) (cS:Option Addr) (dm:Nat),σ_ 0=.pointer (some ⟨ag,0,none⟩)/\σ_ 1=jV p1/\σ_ 2=.bool p2/\σ_ 6=.pointer (some ⟨b4,0,none⟩)/\σ_ 9=.pointer (some ⟨dd,0,none⟩)/\σ_ 16=.slice dQ ([1125899906842624].length) eA/\σ_ 17=.pointer (some ⟨ag,0,none⟩)/\σ_ 18=.pointer (some ⟨ag,0,none⟩)/\σ_ 19=.pointer (some ⟨ag,4,none⟩)/\σ_ 20=.map (some aa)/\σ_ 21=jV (↑(p0.number.length):Int)/\σ_ 22=.slice cS aq.length dm/\σ_ 24=.pointer (some ⟨ag,0,none⟩)/\σ_ 25=.pointer (some ⟨ag,0,none⟩)/\σ_ 26=.pointer (some ⟨ag,4,none⟩)/\σ_ 27=.map (some aa)/\PHeap.Le U U_/\SW w [B1,.obj aa (.map ac ae)] U U_ [.blk b4 118 B0,B1,.obj aa (.map ac ae),.blk dd 118 B0,.row cS dm 3 1 (hD KL.encI aq)] w_/\Sl U_ 1 dQ eA [1125899906842624].length (hD KL.encI [1125899906842624])) ?_ fun we=>?_
 rintro Ax xj ⟨gV,dd,dQ,eA,cS,dm,q6,q7,q8,q9,rc,rd,re,rf,rh,ri,rj,rk,rn,ro,rp,jL,wu,lJ,sU⟩
 refine oL Z (lJ.lenM (j:=2) (mk:=wBL) (mv:=wBO) Z Z jL (wBE ZO) cM) (zo (pv:=[(0,jV (-1))]) (zs:=[jV 0]) (cs:=[jV (-1)]) Z Z Z Z Z (wAD Z wAM) zC zD zt Z Z Z Z Z lJ ?_)
 intro mY iH uO
 have uP:SW w [B1,.obj aa (.map ac ae)] U gV [.row (some ⟨iH,0,none⟩) 1 3 1 (hD KL.encI [-1]),.blk b4 118 B0,B1,.obj aa (.map ac ae),.blk dd 118 B0,.row cS dm 3 1 (hD KL.encI aq)] mY:=uO
 exact eO _ _ ⟨gV,dd,dQ,eA,cS,dm,(some ⟨iH,0,none⟩),1,q6,q7,q8,q9,rc,rd,re,rf,rh,ri,rj,rk,rfl,rn,ro,rp,jL,rfl,wu,(uP.pick [1,2,3,4,5,0] _ (by decide) rfl),sU⟩
 refine ZS (s:=gDc) (M:=fun σ_ w_=>∃ (U_:PHeap) (cw:Nat) (cU:Option Addr) (dn:Nat) (cV:Option Addr) (dp:Nat),σ_ 0=.pointer (some ⟨ag,0,none⟩)/\σ_ 1=jV p1/\σ_ 2=.bool p2/\σ_ 6=.pointer (some ⟨b4,0,none⟩)/\σ_ 9=.pointer (some ⟨cw,0,none⟩)/\σ_ 16=.slice cU ([1125899906842624].length) dn/\σ_ 17=.pointer (some ⟨ag,0,none⟩)/\σ_ 18=.pointer (some ⟨ag,0,none⟩)/\σ_ 19=.pointer (some ⟨ag,4,none⟩)/\σ_ 20=.map (some aa)/\σ_ 21=jV (↑(p0.number.length):Int)/\σ_ 23=.slice cV ([-1].length) dp/\σ_ 24=.pointer (some ⟨ag,0,none⟩)/\σ_ 25=.pointer (some ⟨ag,0,none⟩)/\σ_ 26=.pointer (some ⟨ag,4,none⟩)/\σ_ 27=.map (some aa)/\PHeap.Le U U_/\SW w [B1,.obj aa (.map ac ae)] U U_ [.blk b4 118 B0,B1,.obj aa (.map ac ae),.blk cw 118 B0,.row cU dn 3 1 (hD KL.encI [1125899906842624]),.row cV dp 3 1 (hD KL.encI [-1])] w_) ?_ fun f5=>?_
 rintro Ay iw ⟨wN,cw,cU,dn,cV,dp,rq,rv,rx,ry,rz,jM,rC,rD,rE,rF,jN,rG,rH,rI,rJ,rK,wv,uQ⟩
 have q:=uQ.freezeR (k:=4) (n:=[1125899906842624].length) rfl (wAC (f:=KL.encI) (sz:=1) (fun _=>rfl) [1125899906842624]) (by decide)
 obtain ⟨gW,ww,lZ,uR⟩:=q
 let B6:Res:=.row cV dp 3 1 (hD KL.encI [-1])
 have uS:SW w [B1,.obj aa (.map ac ae)] U gW [.blk b4 118 B0,B1,.obj aa (.map ac ae),.blk cw 118 B0,B6] iw:=uR
 refine zH 0 Z Z Z Z (zG Z Z Tryz.call72 (zB jM (zB jN zO)) Z) uS (fun hs=>wAo [1125899906842624] cU dn (↑(p0.number.length):Int) iw gW hs lZ eJ) (.inr Z) ?_
 rintro gX wJ z7 mZ mo uT ⟨gv,iT,rfl,rfl⟩
 have uU:SW w [B1,.obj aa (.map ac ae)] U gX [.row gv iT 3 1 (hD KL.encI aq),.blk b4 118 B0,B1,.obj aa (.map ac ae),.blk cw 118 B0,B6] mZ:=uT
 have sV:=lZ.le mo
 exact wd _ _ ⟨gX,cw,cU,dn,gv,iT,cV,dp,rq,rv,rx,ry,rz,jM,rC,rD,rE,rF,jN,rfl,rG,rH,rI,rJ,rK,((wv.trans ww).trans mo),(uU.pick [1,2,3,4,0,5] _ (by decide) rfl),sV⟩
 refine ZS (s:=.fl 12 gDb) (M:=fun σ_ w_=>∃ (U_:PHeap) (cW:Option Addr) (dq:Nat) (cm:Option Addr) (cD:Nat) (co:Option Addr) (cE:Nat),σ_ 0=.pointer (some ⟨ag,0,none⟩)/\σ_ 1=jV p1/\σ_ 2=.bool p2/\σ_ 6=.pointer (some ⟨b4,0,none⟩)/\σ_ 16=.slice cW ([1125899906842624].length) dq/\σ_ 17=.pointer (some ⟨ag,0,none⟩)/\σ_ 18=.pointer (some ⟨ag,0,none⟩)/\σ_ 19=.pointer (some ⟨ag,4,none⟩)/\σ_ 20=.map (some aa)/\σ_ 21=jV (↑(p0.number.length):Int)/\σ_ 22=.slice cm aq.length cD/\σ_ 23=.slice co ([-1].length) cE/\σ_ 24=.pointer (some ⟨ag,0,none⟩)/\σ_ 25=.pointer (some ⟨ag,0,none⟩)/\σ_ 26=.pointer (some ⟨ag,4,none⟩)/\σ_ 27=.map (some aa)/\PHeap.Le U U_/\SW w [B1,.obj aa (.map ac ae)] U U_ [.blk b4 118 B0,B1,.obj aa (.map ac ae),.row cm cD 3 1 (hD KL.encI aq),.row co cE 3 1 (hD KL.encI [-1])] w_/\Sl U_ 1 cW dq [1125899906842624].length (hD KL.encI [1125899906842624])) ?_ fun wg=>?_
 rintro Az iy ⟨mG,cW,dq,cm,cD,co,cE,jO,jP,jQ,jR,jS,jT,jU,jW,jX,jY,jZ,fD,j4,j5,j6,fE,mp,fP,lm⟩
 refine oL Z (fP.lenM (j:=2) (mk:=wBL) (mv:=wBO) Z Z fE (wBE ZO) cM) (zw ?_ ?_)
 have q:=fP.freezeR (k:=4) (n:=[-1].length) rfl (wAC (f:=KL.encI) (sz:=1) (fun _=>rfl) [-1]) (by decide)
 obtain ⟨gY,mq,l3,uV⟩:=q
 let B7:Res:=.row cm cD 3 1 (hD KL.encI aq)
 have uW:SW w [B1,.obj aa (.map ac ae)] U gY [.blk b4 118 B0,B1,.obj aa (.map ac ae),B7] iy:=uV
 refine zH 0 Z Z Z Z (zG Z Z Tryz.call72 (zB fD (zB Z zO)) Z) uW (fun hs=>wAo [-1] co cE (↑(p0.number.length):Int) iy gY hs l3 eK) (.inr Z) ?_
 rintro gZ wK z8 m2 gg uX ⟨gw,iU,rfl,rfl⟩
 have uY:SW w [B1,.obj aa (.map ac ae)] U gZ [.row gw iU 3 1 (hD KL.encI aX),.blk b4 118 B0,B1,.obj aa (.map ac ae),B7] m2:=uX
 have sX:=lm.le mq
 have sY:=sX.le gg
 have sZ:=l3.le gg
 exact mc _ _ ⟨gZ,cW,dq,cm,cD,co,cE,gw,iU,jO,jP,jQ,jR,jS,jT,jU,jW,jX,jY,jZ,fD,j4,j5,j6,fE,rfl,rfl,((mp.trans mq).trans gg),(uY.pick [1,2,3,4,0] _ (by decide) rfl),sY,sZ⟩
 refine zW (cs:=B0) Z Z Z Z Z Zf Z fP ?_
 intro xk m9 uZ
 exact eO _ _ ⟨mG,m9,cW,dq,cm,cD,co,cE,jO,jP,jQ,jR,rfl,jS,jT,jU,jW,jX,jY,jZ,fD,j4,j5,j6,fE,rfl,mp,(uZ.pick [1,2,3,0,4,5] _ (by decide) rfl),lm⟩
 refine ZS (s:=gDg) (M:=fun σ_ w_=>∃ (U_:PHeap) (de:Nat) (cX:Option Addr) (dr:Nat),σ_ 0=.pointer (some ⟨ag,0,none⟩)/\σ_ 1=jV p1/\σ_ 2=.bool p2/\σ_ 6=.pointer (some ⟨b4,0,none⟩)/\σ_ 9=.pointer (some ⟨de,0,none⟩)/\σ_ 17=.pointer (some ⟨ag,0,none⟩)/\σ_ 18=.pointer (some ⟨ag,0,none⟩)/\σ_ 19=.pointer (some ⟨ag,4,none⟩)/\σ_ 20=.map (some aa)/\σ_ 21=jV (↑(p0.number.length):Int)/\σ_ 23=.slice cX ([-1].length) dr/\σ_ 24=.pointer (some ⟨ag,0,none⟩)/\σ_ 25=.pointer (some ⟨ag,0,none⟩)/\σ_ 26=.pointer (some ⟨ag,4,none⟩)/\σ_ 27=.map (some aa)/\PHeap.Le U U_/\SW w [B1,.obj aa (.map ac ae)] U U_ [.blk b4 118 B0,B1,.obj aa (.map ac ae),.blk de 118 B0,.row cX dr 3 1 (hD KL.encI [-1])] w_) ?_ fun md=>?_
 rintro AA xl ⟨g6,de,cX,dr,rL,rM,rN,rP,rQ,rS,rT,rV,rW,rX,rY,rZ,r6,r7,r8,wx,u0⟩
 refine zo (pv:=[(0,jV 1125899906842624)]) (zs:=[jV 0]) (cs:=[jV 1125899906842624]) Z Z Z Z Z (wAD Z wAM) zC zD zt Z Z Z Z Z u0 ?_
 intro m3 iI u3
 have u4:SW w [B1,.obj aa (.map ac ae)] U g6 [.row (some ⟨iI,0,none⟩) 1 3 1 (hD KL.encI [1125899906842624]),.blk b4 118 B0,B1,.obj aa (.map ac ae),.blk de 118 B0,.row cX dr 3 1 (hD KL.encI [-1])] m3:=u3
 exact f5 _ _ ⟨g6,de,(some ⟨iI,0,none⟩),1,cX,dr,rL,rM,rN,rP,rQ,rfl,rS,rT,rV,rW,rX,rY,rZ,r6,r7,r8,wx,(u4.pick [1,2,3,4,0,5] _ (by decide) rfl)⟩
 refine ZS (s:=gDn) (M:=fun σ_ w_=>∃ (U_:PHeap) (bB:Nat) (bI:Option Addr) (bU:Nat),σ_ 0=.pointer (some ⟨ag,0,none⟩)/\σ_ 1=jV p1/\σ_ 2=.bool p2/\σ_ 6=.pointer (some ⟨b4,0,none⟩)/\σ_ 9=.pointer (some ⟨bB,0,none⟩)/\σ_ 16=.slice bI ([1125899906842624].length) bU/\σ_ 17=.pointer (some ⟨ag,0,none⟩)/\σ_ 18=.pointer (some ⟨ag,0,none⟩)/\σ_ 19=.pointer (some ⟨ag,4,none⟩)/\σ_ 20=.map (some aa)/\σ_ 21=jV (↑(p0.number.length):Int)/\σ_ 24=.pointer (some ⟨ag,0,none⟩)/\σ_ 25=.pointer (some ⟨ag,0,none⟩)/\σ_ 26=.pointer (some ⟨ag,4,none⟩)/\σ_ 27=.map (some aa)/\PHeap.Le U U_/\SW w [B1,.obj aa (.map ac ae)] U U_ [.blk b4 118 B0,B1,.obj aa (.map ac ae),.blk bB 118 B0,.row bI bU 3 1 (hD KL.encI [1125899906842624])] w_) ?_ fun me=>?_
 rintro AB iz ⟨g7,bB,bI,bU,j7,j8,j9,k5,k6,fG,k8,k9,lb,lc,fH,lf,lg,lh,li,mr,lK⟩
 refine zw ?_ ?_
 have q:=lK.freezeR (k:=4) (n:=[1125899906842624].length) rfl (wAC (f:=KL.encI) (sz:=1) (fun _=>rfl) [1125899906842624]) (by decide)
 obtain ⟨g8,wy,l4,u5⟩:=q
 have u6:SW w [B1,.obj aa (.map ac ae)] U g8 [.blk b4 118 B0,B1,.obj aa (.map ac ae),.blk bB 118 B0] iz:=u5
 refine zH 0 Z Z Z Z (zG Z Z Tryz.call72 (zB fG (zB fH zO)) Z) u6 (fun hs=>wAo [1125899906842624] bI bU (↑(p0.number.length):Int) iz g8 hs l4 eJ) (.inr Z) ?_
 rintro gF wC y5 mH mf s5 ⟨gj,iL,rfl,rfl⟩
 have s6:SW w [B1,.obj aa (.map ac ae)] U gF [.row gj iL 3 1 (hD KL.encI aq),.blk b4 118 B0,B1,.obj aa (.map ac ae),.blk bB 118 B0] mH:=s5
 have sf:=l4.le mf
 exact we _ _ ⟨gF,bB,bI,bU,gj,iL,j7,j8,j9,k5,k6,fG,k8,k9,lb,lc,fH,rfl,lf,lg,lh,li,((mr.trans wy).trans mf),(s6.pick [1,2,3,4,0] _ (by decide) rfl),sf⟩
 refine zo (pv:=[(0,jV (-1))]) (zs:=[jV 0]) (cs:=[jV (-1)]) Z Z Z Z Z (wAD Z wAM) zC zD zt Z Z Z Z Z lK ?_
 intro mI iA s7
 have s8:SW w [B1,.obj aa (.map ac ae)] U g7 [.row (some ⟨iA,0,none⟩) 1 3 1 (hD KL.encI [-1]),.blk b4 118 B0,B1,.obj aa (.map ac ae),.blk bB 118 B0,.row bI bU 3 1 (hD KL.encI [1125899906842624])] mI:=s7
 exact f5 _ _ ⟨g7,bB,bI,bU,(some ⟨iA,0,none⟩),1,j7,j8,j9,k5,k6,fG,k8,k9,lb,lc,fH,rfl,lf,lg,lh,li,mr,(s8.pick [1,2,3,4,5,0] _ (by decide) rfl)⟩
 refine ZS (s:=gDm) (M:=fun σ_ w_=>∃ (U_:PHeap) (ca:Option Addr) (cx:Nat) (cc:Option Addr) (cy:Nat),σ_ 0=.pointer (some ⟨ag,0,none⟩)/\σ_ 1=jV p1/\σ_ 2=.bool p2/\σ_ 6=.pointer (some ⟨b4,0,none⟩)/\σ_ 16=.slice ca ([1125899906842624].length) cx/\σ_ 17=.pointer (some ⟨ag,0,none⟩)/\σ_ 18=.pointer (some ⟨ag,0,none⟩)/\σ_ 19=.pointer (some ⟨ag,4,none⟩)/\σ_ 20=.map (some aa)/\σ_ 21=jV (↑(p0.number.length):Int)/\σ_ 23=.slice cc ([-1].length) cy/\σ_ 24=.pointer (some ⟨ag,0,none⟩)/\σ_ 25=.pointer (some ⟨ag,0,none⟩)/\σ_ 26=.pointer (some ⟨ag,4,none⟩)/\σ_ 27=.map (some aa)/\PHeap.Le U U_/\SW w [B1,.obj aa (.map ac ae)] U U_ [.blk b4 118 B0,B1,.obj aa (.map ac ae),.row ca cx 3 1 (hD KL.encI [1125899906842624]),.row cc cy 3 1 (hD KL.encI [-1])] w_) ?_ fun l8=>?_
 rintro Af g9 ⟨mA,ca,cx,cc,cy,iV,iW,iX,iY,fw,iZ,i2,i4,i5,fy,i6,i7,i8,i9,ja,mg,lw⟩
 refine zw ?_ ?_
 have q:=lw.freezeR (k:=3) (n:=[1125899906842624].length) rfl (wAC (f:=KL.encI) (sz:=1) (fun _=>rfl) [1125899906842624]) (by decide)
 obtain ⟨gG,wh,lV,s9⟩:=q
 let B8:Res:=.row cc cy 3 1 (hD KL.encI [-1])
 have ta:SW w [B1,.obj aa (.map ac ae)] U gG [.blk b4 118 B0,B1,.obj aa (.map ac ae),B8] g9:=s9
 refine zH 0 Z Z Z Z (zG Z Z Tryz.call72 (zB fw (zB fy zO)) Z) ta (fun hs=>wAo [1125899906842624] ca cx (↑(p0.number.length):Int) g9 gG hs lV eJ) (.inr Z) ?_
 rintro gH wD y6 mJ mh tb ⟨gm,iM,rfl,rfl⟩
 have tc:SW w [B1,.obj aa (.map ac ae)] U gH [.row gm iM 3 1 (hD KL.encI aq),.blk b4 118 B0,B1,.obj aa (.map ac ae),B8] mJ:=tb
 have sg:=lV.le mh
 exact wg _ _ ⟨gH,ca,cx,gm,iM,cc,cy,iV,iW,iX,iY,fw,iZ,i2,i4,i5,fy,rfl,i6,i7,i8,i9,ja,((mg.trans wh).trans mh),(tc.pick [1,2,3,0,4] _ (by decide) rfl),sg⟩
 refine zW (cs:=B0) Z Z Z Z Z Zf Z lw ?_
 intro wO m4 tf
 exact f5 _ _ ⟨mA,m4,ca,cx,cc,cy,iV,iW,iX,iY,rfl,fw,iZ,i2,i4,i5,fy,i6,i7,i8,i9,ja,mg,(tf.pick [1,2,3,0,4,5] _ (by decide) rfl)⟩
 refine oM Z Z (oR Z (ZT Z Z) (oR Z (zJ Z Z ZN Z Zz) (oL Z (bZ.ldB (j:=1) Z Z Z yD (v:=.map (some aa)) Z) (oL Z (bZ.lenM (j:=2) (mk:=wBL) (mv:=wBO) Z Z Z (wBE ZO) cM) (oM Z Z (oR Z (ZT Z Z) (oR Z (zJ Z Z ZN Z Zz) (oL Z (bZ.ldB (j:=1) Z Z Z yD (v:=.map (some aa)) Z) (zw ?_ ?_)))))))))
 refine zo (pv:=[(0,jV 1125899906842624)]) (zs:=[jV 0]) (cs:=[jV 1125899906842624]) Z Z Z Z Z (wAD Z wAM) zC zD zt Z Z Z Z Z bZ ?_
 intro fc bN tg
 let B9:Res:=.row (some ⟨bN,0,none⟩) 1 3 1 (hD KL.encI [1125899906842624])
 have fJ:SW w [B1,.obj aa (.map ac ae)] U U [B9,.blk b4 118 B0,B1,.obj aa (.map ac ae)] fc:=tg
 refine zw ?_ ?_
 have q:=fJ.freezeR (k:=0) (n:=[1125899906842624].length) rfl (wAC (f:=KL.encI) (sz:=1) (fun _=>rfl) [1125899906842624]) (by decide)
 obtain ⟨gI,f9,eM,th⟩:=q
 have tj:SW w [B1,.obj aa (.map ac ae)] U gI [.blk b4 118 B0,B1,.obj aa (.map ac ae)] fc:=th
 refine zH 0 Z Z Z Z (zG Z Z Tryz.call72 (zB Z (zB Z zO)) Z) tj (fun hs=>wAo [1125899906842624] (some ⟨bN,0,none⟩) 1 (↑(p0.number.length):Int) fc gI hs eM eJ) (.inr Z) ?_
 rintro c8 wE y7 mK cN tm ⟨dH,dZ,rfl,rfl⟩
 let cY:Res:=.row dH dZ 3 1 (hD KL.encI aq)
 have fK:SW w [B1,.obj aa (.map ac ae)] U c8 [cY,.blk b4 118 B0,B1,.obj aa (.map ac ae)] mK:=tm
 refine oL Z (fK.lenM (j:=3) (mk:=wBL) (mv:=wBO) Z Z Z (wBE ZO) cM) (zw ?_ ?_)
 refine zo (pv:=[(0,jV (-1))]) (zs:=[jV 0]) (cs:=[jV (-1)]) Z Z Z Z Z (wAD Z wAM) zC zD zt Z Z Z Z Z fK ?_
 intro fd dW tp
 have lx:SW w [B1,.obj aa (.map ac ae)] U c8 [.row (some ⟨dW,0,none⟩) 1 3 1 (hD KL.encI [-1]),cY,.blk b4 118 B0,B1,.obj aa (.map ac ae)] fd:=tp
 refine zw ?_ ?_
 have q:=lx.freezeR (k:=0) (n:=[-1].length) rfl (wAC (f:=KL.encI) (sz:=1) (fun _=>rfl) [-1]) (by decide)
 obtain ⟨gJ,mi,lW,tq⟩:=q
 have tr:SW w [B1,.obj aa (.map ac ae)] U gJ [cY,.blk b4 118 B0,B1,.obj aa (.map ac ae)] fd:=tq
 refine zH 0 Z Z Z Z (zG Z Z Tryz.call72 (zB Z (zB Z zO)) Z) tr (fun hs=>wAo [-1] (some ⟨dW,0,none⟩) 1 (↑(p0.number.length):Int) fd gJ hs lW eK) (.inr Z) ?_
 rintro gK wG y8 mL ga tu ⟨gq,iN,rfl,rfl⟩
 have tv:SW w [B1,.obj aa (.map ac ae)] U gK [.row gq iN 3 1 (hD KL.encI aX),cY,.blk b4 118 B0,B1,.obj aa (.map ac ae)] mL:=tu
 have sh:=eM.le cN
 have sj:=sh.le mi
 have sk:=sj.le ga
 have sl:=lW.le ga
 exact mc _ _ ⟨gK,(some ⟨bN,0,none⟩),1,dH,dZ,(some ⟨dW,0,none⟩),1,gq,iN,rfl,rfl,rfl,rfl,rfl,rfl,rfl,rfl,rfl,rfl,rfl,rfl,rfl,rfl,rfl,rfl,rfl,rfl,(((f9.trans cN).trans mi).trans ga),(tv.pick [2,3,4,1,0] _ (by decide) rfl),sk,sl⟩
 refine zW (cs:=B0) Z Z Z Z Z Zf Z lx ?_
 intro wP m5 tw
 have sm:=eM.le cN
 exact eO _ _ ⟨c8,m5,(some ⟨bN,0,none⟩),1,dH,dZ,(some ⟨dW,0,none⟩),1,rfl,rfl,rfl,rfl,rfl,rfl,rfl,rfl,rfl,rfl,rfl,rfl,rfl,rfl,rfl,rfl,rfl,rfl,(f9.trans cN),(tw.pick [3,4,5,0,2,1] _ (by decide) rfl),sm⟩
 refine zW (cs:=B0) Z Z Z Z Z Zf Z fK ?_
 intro wQ iB tz
 refine zo (pv:=[(0,jV (-1))]) (zs:=[jV 0]) (cs:=[jV (-1)]) Z Z Z Z Z (wAD Z wAM) zC zD zt Z Z Z Z Z tz ?_
 intro mM iC tA
 have tB:SW w [B1,.obj aa (.map ac ae)] U c8 [.row (some ⟨iC,0,none⟩) 1 3 1 (hD KL.encI [-1]),.blk iB 118 B0,cY,.blk b4 118 B0,B1,.obj aa (.map ac ae)] mM:=tA
 have sn:=eM.le cN
 exact eO _ _ ⟨c8,iB,(some ⟨bN,0,none⟩),1,dH,dZ,(some ⟨iC,0,none⟩),1,rfl,rfl,rfl,rfl,rfl,rfl,rfl,rfl,rfl,rfl,rfl,rfl,rfl,rfl,rfl,rfl,rfl,rfl,(f9.trans cN),(tB.pick [3,4,5,1,2,0] _ (by decide) rfl),sn⟩
 refine zw ?_ ?_
 refine zo (pv:=[(0,jV (-1))]) (zs:=[jV 0]) (cs:=[jV (-1)]) Z Z Z Z Z (wAD Z wAM) zC zD zt Z Z Z Z Z fJ ?_
 intro mN iD tC
 have tD:SW w [B1,.obj aa (.map ac ae)] U U [.row (some ⟨iD,0,none⟩) 1 3 1 (hD KL.encI [-1]),B9,.blk b4 118 B0,B1,.obj aa (.map ac ae)] mN:=tC
 exact l8 _ _ ⟨U,(some ⟨bN,0,none⟩),1,(some ⟨iD,0,none⟩),1,rfl,rfl,rfl,rfl,rfl,rfl,rfl,rfl,rfl,rfl,rfl,rfl,rfl,rfl,rfl,(zN _),(tD.pick [2,3,4,1,0] _ (by decide) rfl)⟩
 refine zW (cs:=B0) Z Z Z Z Z Zf Z fJ ?_
 intro wR m6 tE
 exact me _ _ ⟨U,m6,(some ⟨bN,0,none⟩),1,rfl,rfl,rfl,rfl,rfl,rfl,rfl,rfl,rfl,rfl,rfl,rfl,rfl,rfl,rfl,(zN _),(tE.pick [2,3,4,0,1] _ (by decide) rfl)⟩
 refine zw ?_ ?_
 refine zo (pv:=[(0,jV (-1))]) (zs:=[jV 0]) (cs:=[jV (-1)]) Z Z Z Z Z (wAD Z wAM) zC zD zt Z Z Z Z Z bZ ?_
 intro mO fg tF
 let gx:Res:=.row (some ⟨fg,0,none⟩) 1 3 1 (hD KL.encI [-1])
 have ly:SW w [B1,.obj aa (.map ac ae)] U U [gx,.blk b4 118 B0,B1,.obj aa (.map ac ae)] mO:=tF
 refine zw ?_ ?_
 refine zo (pv:=[(0,jV 1125899906842624)]) (zs:=[jV 0]) (cs:=[jV 1125899906842624]) Z Z Z Z Z (wAD Z wAM) zC zD zt Z Z Z Z Z ly ?_
 intro mP iE tG
 have tH:SW w [B1,.obj aa (.map ac ae)] U U [.row (some ⟨iE,0,none⟩) 1 3 1 (hD KL.encI [1125899906842624]),gx,.blk b4 118 B0,B1,.obj aa (.map ac ae)] mP:=tG
 exact l8 _ _ ⟨U,(some ⟨iE,0,none⟩),1,(some ⟨fg,0,none⟩),1,rfl,rfl,rfl,rfl,rfl,rfl,rfl,rfl,rfl,rfl,rfl,rfl,rfl,rfl,rfl,(zN _),(tH.pick [2,3,4,0,1] _ (by decide) rfl)⟩
 refine zW (cs:=B0) Z Z Z Z Z Zf Z ly ?_
 intro wS m7 tI
 exact md _ _ ⟨U,m7,(some ⟨fg,0,none⟩),1,rfl,rfl,rfl,rfl,rfl,rfl,rfl,rfl,rfl,rfl,rfl,rfl,rfl,rfl,rfl,(zN _),(tI.pick [2,3,4,0,1] _ (by decide) rfl)⟩
 refine zW (cs:=B0) Z Z Z Z Z Zf Z bZ ?_
 intro wU dX lz
 refine zw ?_ ?_
 refine zo (pv:=[(0,jV 1125899906842624)]) (zs:=[jV 0]) (cs:=[jV 1125899906842624]) Z Z Z Z Z (wAD Z wAM) zC zD zt Z Z Z Z Z lz ?_
 intro mQ iF tJ
 have tK:SW w [B1,.obj aa (.map ac ae)] U U [.row (some ⟨iF,0,none⟩) 1 3 1 (hD KL.encI [1125899906842624]),.blk dX 118 B0,.blk b4 118 B0,B1,.obj aa (.map ac ae)] mQ:=tJ
 exact me _ _ ⟨U,dX,(some ⟨iF,0,none⟩),1,rfl,rfl,rfl,rfl,rfl,rfl,rfl,rfl,rfl,rfl,rfl,rfl,rfl,rfl,rfl,(zN _),(tK.pick [2,3,4,1,0] _ (by decide) rfl)⟩
 refine zo (pv:=[(0,jV (-1))]) (zs:=[jV 0]) (cs:=[jV (-1)]) Z Z Z Z Z (wAD Z wAM) zC zD zt Z Z Z Z Z lz ?_
 intro mR iG tL
 have tM:SW w [B1,.obj aa (.map ac ae)] U U [.row (some ⟨iG,0,none⟩) 1 3 1 (hD KL.encI [-1]),.blk dX 118 B0,.blk b4 118 B0,B1,.obj aa (.map ac ae)] mR:=tL
 exact md _ _ ⟨U,dX,(some ⟨iG,0,none⟩),1,rfl,rfl,rfl,rfl,rfl,rfl,rfl,rfl,rfl,rfl,rfl,rfl,rfl,rfl,rfl,(zN _),(tM.pick [2,3,4,1,0] _ (by decide) rfl)⟩
 rintro Ag wV ⟨gL,b8,am,an,ao,ap,n8,n9,oa,oc,jb,wi,lA⟩
 refine zL (sR fL4 Z (oR Z (zJ Z jb Zc Z zZ) (oL Z (lA.ldB (j:=3) Z Z Z zj (v:=.slice am l9.length an) Z) (oR Z (zr Z Z zC) (oM Z Z (eN (zb (bnK lT fun Ad vb fZ=>?_))))))))
 have q:=wBM vb
 obtain ⟨fV,vc⟩:=q
 replace fV:=zM fV
 let bJ:Res:=.row ao ap 3 1 (hD KL.encI bq)
 refine CK.forN' (fun bo aZ σ_ w_=>∃ (U_:PHeap),σ_ 34=jV (↑bo:Int)/\σ_ 0=.pointer (some ⟨ag,0,none⟩)/\σ_ 1=jV p1/\σ_ 2=.bool p2/\σ_ 6=.pointer (some ⟨b4,0,none⟩)/\σ_ 9=.pointer (some ⟨b8,0,none⟩)/\σ_ 33=jV (↑l9.length:Int)/\PHeap.Le gL U_/\SW w [B1,.obj aa (.map ac ae)] U U_ [.blk b4 118 B0,B1,.obj aa (.map ac ae),.row am an 3 1 (hD KL.encI aZ),bJ,.blk b8 118 [.slice am aZ.length an,.slice ao bq.length ap]] w_/\aZ.length=l9.length) vc ?_ ?_ ?_
 exact ⟨gL,rfl,n8,n9,oa,oc,jb,rfl,(zN _),(lA.pick [0,1,2,4,5,3] _ (by decide) rfl),rfl⟩
 rintro bo aZ Aa Ah wW fS ⟨bM,dx,fz,dt,fA,fB,du,eB,gb,bY,fI⟩ l5
 have iO:Hid ((↑bo:Int) < (↑l9.length:Int)):=zM (wAr fS)
 replace fS:=zM fS
 have fR:Hid (w64 ((↑bo:Int) + 1)=(↑(bo + 1):Int)):=zM (by have h1:=fV.out;have h2:=iO.out;rw [wAW] <;> omega)
 refine sR fL1 Z (oR Z (zY Z dx eB) (eN (zL (cT Z iO (kN (zL (zb (sR fL2 Z (oM Z dx (oA Z Z (eN (sR fL7 Z (oM Z dt (oR Z (zY Z Z Z) (oM Z Z ?_)))))))))))))))
 by_cases a7:p1 < 0
 have lL:=l5;rw [if_pos a7] at lL;replace a7:=zM a7
 refine oT Z a7 (oT Z a7 (oT Z a7 (oR Z (zT Z (Zm a7.out) Z) (eN (ZJ Z (rR (wET (.fx 4 .nil .stop)) Z (oR Z (zJ Z du Zc Z zZ) (oL Z (bY.ldB (j:=5) Z Z Z zj (v:=.slice am aZ.length an) Z) (oM Z Z (bnK lL fun _ eH vB=>?_))))))))))
 obtain ⟨xm,ln⟩:=bY.rowSome (j:=3) rfl (by rw [wAC (f:=KL.encI) (sz:=1) (fun _=>rfl) aZ];have hz:=wAY eH;omega)
 refine oR Z (ZR Z Z ln Z zC zD (wAY eH)) ?_
 have vg:=wBb (xs:=aZ) (wAY eH)
 refine YI (j:=3) (vs:=[jV 0]) (cs':=hD KL.encI (nG aZ bo 0)) rfl rfl rfl rfl bY rfl ln rfl rfl rfl zD (by rw [wAC (f:=KL.encI) (sz:=1) (fun _=>rfl)];have hz:=wAY eH;show _ + 1 <= _;first | omega | (simp only [nD];omega) | (simp only [nB,hJ,nA];omega)) rfl (wDU (sz:=1) (fo:=0) (fun _=>rfl) _ _ _ _ vg (by first | omega | (simp only [nD];omega) | (simp only [nB,hJ,nA];omega)) (zA rfl) rfl) rfl ?_
 intro ic tN
 let eX:Res:=.row am an 3 1 (hD KL.encI (nG aZ bo 0))
 have tO:SW w [B1,.obj aa (.map ac ae)] U bM [.blk b4 118 B0,B1,.obj aa (.map ac ae),eX,bJ,.blk b8 118 [.slice am aZ.length an,.slice ao bq.length ap]] ic:=tN
 have tP:SW w [B1,.obj aa (.map ac ae)] U bM [.blk b4 118 B0,B1,.obj aa (.map ac ae),eX,bJ,.blk b8 118 [.slice am ((nG aZ bo 0).length) an,.slice ao bq.length ap]] ic:=by simpa only [B0,B1,bJ,eX,nE] using tO
 refine zg (zx (zI (rR fL2 Z (oR Z (ZG (za Z dx Z) (congrArg (jV) fR.out)) (oM Z Z (zg ?_))))))
 cases vB
 exact zI ⟨Z,⟨bM,Z,fz,dt,fA,fB,du,eB,gb,tP,(nE.trans fI)⟩⟩
 have lM:=l5;rw [if_neg a7] at lM;replace a7:=zM a7
 refine zm Z Z Z (wF Z a7) Z Z (zm Z Z Z (wF Z a7) Z dt (rU Z (wF Z a7) (yO Z Z Z) (oR Z (zc Z (ZM a7.out) Z) (eN (ifc lM ?_ ?_)))))
 intro fh vC
 refine cT Z fh (rR (wET (.fx 4 .nil .stop)) Z (oR Z (zJ Z du Zc Z zZ) (oL Z (bY.ldB (j:=5) Z Z Z zj (v:=.slice am aZ.length an) Z) (oM Z Z (bnK vC fun _ eI vD=>?_)))))
 obtain ⟨xn,lp⟩:=bY.rowSome (j:=3) rfl (by rw [wAC (f:=KL.encI) (sz:=1) (fun _=>rfl) aZ];have hz:=wAY eI;omega)
 refine oR Z (ZR Z Z lp Z zC zD (wAY eI)) ?_
 have vh:=wBb (xs:=aZ) (wAY eI)
 refine YI (j:=3) (vs:=[jV 0]) (cs':=hD KL.encI (nG aZ bo 0)) rfl rfl rfl rfl bY rfl lp rfl rfl rfl zD (by rw [wAC (f:=KL.encI) (sz:=1) (fun _=>rfl)];have hz:=wAY eI;show _ + 1 <= _;first | omega | (simp only [nD];omega) | (simp only [nB,hJ,nA];omega)) rfl (wDU (sz:=1) (fo:=0) (fun _=>rfl) _ _ _ _ vh (by first | omega | (simp only [nD];omega) | (simp only [nB,hJ,nA];omega)) (zA rfl) rfl) rfl ?_
 intro ie tQ
 let eY:Res:=.row am an 3 1 (hD KL.encI (nG aZ bo 0))
 have tR:SW w [B1,.obj aa (.map ac ae)] U bM [.blk b4 118 B0,B1,.obj aa (.map ac ae),eY,bJ,.blk b8 118 [.slice am aZ.length an,.slice ao bq.length ap]] ie:=tQ
 have tS:SW w [B1,.obj aa (.map ac ae)] U bM [.blk b4 118 B0,B1,.obj aa (.map ac ae),eY,bJ,.blk b8 118 [.slice am ((nG aZ bo 0).length) an,.slice ao bq.length ap]] ie:=by simpa only [B0,B1,bJ,eY,nE] using tR
 refine zg (zx (zI (rR fL2 Z (oR Z (ZG (za Z dx Z) (congrArg (jV) fR.out)) (oM Z Z (zg ?_))))))
 cases vD
 exact zI ⟨Z,⟨bM,Z,fz,dt,fA,fB,du,eB,gb,tS,(nE.trans fI)⟩⟩
 intro fh vE
 refine cF Z fh (Zi (zx (zI (rR fL2 Z (oR Z (ZG (za Z dx Z) (congrArg (jV) fR.out)) (oM Z Z (zg ?_)))))))
 cases vE
 exact zI ⟨Z,⟨bM,Z,fz,dt,fA,fB,du,eB,gb,bY,fI⟩⟩
 rintro Ai wX ⟨gM,r9,jc,xw,od,oe,og,oh,wj,fL,sq⟩
 have n3:Hid (¬ ((↑(((↑l9.length:Int):Int) - 0).toNat:Int) < (↑l9.length:Int))):=zM (wAf)
 refine sR fL1 Z (oR Z (zY Z r9 oh) (eN (zL (cF Z n3 (Zd (zn (zn (ZV (zI (sR fL1 Z (oA Z Z (eN (zL (sR fL7 Z (oM Z jc (oR Z (ZT Z Z) (oR Z (zJ Z Z ZN Z Zz) (oL Z (fL.ldB (j:=1) Z Z Z yD (v:=.map (some aa)) Z) (oL Z (fL.lenM (j:=2) (mk:=wBL) (mv:=wBO) Z Z Z (wBE ZO) cM) (oR Z (za Z Z Z) (oM Z Z (eN (zb ?_)))))))))))))))))))))))
 have q:=wBQ fZ
 obtain ⟨y4,fQ⟩:=q
 have q:=wBP fQ
 obtain ⟨fW,vd⟩:=q
 replace fW:=zM fW
 refine yG (fun bp (eQ,eU,ms) σ_ w_=>∃ (U_:PHeap),σ_ 55=jV (↑bp:Int)/\σ_ 0=.pointer (some ⟨ag,0,none⟩)/\σ_ 2=.bool p2/\σ_ 6=.pointer (some ⟨b4,0,none⟩)/\σ_ 9=.pointer (some ⟨b8,0,none⟩)/\σ_ 11=jV ms/\σ_ 54=jV (w64 ((↑(p0.number.length):Int) + 1))/\PHeap.Le gM U_/\SW w [B1,.obj aa (.map ac ae)] U U_ [.blk b4 118 B0,B1,.obj aa (.map ac ae),.row am an 3 1 (hD KL.encI eQ),.row ao ap 3 1 (hD KL.encI eU),.blk b8 118 [.slice am eQ.length an,.slice ao eU.length ap]] w_/\eQ.length=l9.length/\eU.length=bq.length) vd ?_ ?_ ?_
 exact ⟨gM,Z,jc,od,oe,og,Z,Z,(zN _),fL,sq,Z⟩
 rintro bp ⟨eQ,eU,ms⟩ Ab Aj wY fT ⟨gN,lj,jd,oj,om,oq,xx,je,mj,lB,sr,ss⟩ l6 u9
 try dsimp only at l6
 have iP:Hid ((↑bp:Int) < (w64 ((↑(p0.number.length):Int) + 1))):=zM (wAr fT)
 replace fT:=zM fT
 have vz:Hid (w64 ((↑bp:Int) + 1)=(↑(bp + 1):Int)):=zM (by have h1:=fW.out;have h2:=iP.out;rw [wAW] <;> omega)
 refine sR fL1 Z (oR Z (zY Z lj je) (eN (zL (cT Z iP (kN (zL (zb (sR fL1 Z (oA Z Z (eN (zL (sR fL6 Z (oM Z jd (oR Z (ZT Z Z) (oR Z (zJ Z Z ZN Z YC) (oL Z (lB.ldB (j:=1) Z Z Z Tryz.isAgg122 (v:=.slice bj p0.edges.length bk) Z) (oR Z (zr Z Z Tryz.runUnderlying122) (oM Z Z (eN (zb ?_))))))))))))))))))))
 have q:=bnd l6
 obtain ⟨⟨mw,mx,Ae⟩,ve,lN⟩:=q
 try dsimp only at lN
 have q:=wBM ve
 obtain ⟨fY,vf⟩:=q
 replace fY:=zM fY
 refine CK.forN' (fun aV (ak,ax,mu) σ_ w_=>∃ (U_:PHeap),σ_ 62=jV (↑aV:Int)/\σ_ 0=.pointer (some ⟨ag,0,none⟩)/\σ_ 2=.bool p2/\σ_ 6=.pointer (some ⟨b4,0,none⟩)/\σ_ 9=.pointer (some ⟨b8,0,none⟩)/\σ_ 11=jV mu/\σ_ 54=jV (w64 ((↑(p0.number.length):Int) + 1))/\σ_ 55=jV (↑bp:Int)/\σ_ 60=.slice bj p0.edges.length bk/\σ_ 61=jV (↑p0.edges.length:Int)/\PHeap.Le gN U_/\SW w [B1,.obj aa (.map ac ae)] U U_ [.blk b4 118 B0,B1,.obj aa (.map ac ae),.row am an 3 1 (hD KL.encI ak),.row ao ap 3 1 (hD KL.encI ax),.blk b8 118 [.slice am ak.length an,.slice ao ax.length ap]] w_/\ak.length=l9.length/\ax.length=bq.length) vf ?_ ?_ ?_
 exact ⟨gN,Z,jd,oj,om,oq,Z,je,lj,Z,Z,(zN _),lB,sr,ss⟩
 rintro aV ⟨ak,ax,mu⟩ Ac Ak wZ fU ⟨az,bx,cG,bV,cH,bg,eD,cI,cJ,bW,bX,ml,lC,cK,cL⟩ l7
 try dsimp only at l7
 have iQ:Hid ((↑aV:Int) < (↑p0.edges.length:Int)):=zM (wAr fU)
 replace fU:=zM fU
 have vA:Hid (w64 ((↑aV:Int) + 1)=(↑(aV + 1):Int)):=zM (by have h1:=fY.out;have h2:=iQ.out;rw [wAW] <;> omega)
 refine sR fL1 Z (oR Z (zY Z bx bX) (eN (zL (cT Z iQ (kN ?_)))))
 have q:=bnd l7
 obtain ⟨⟨f7,f8,wA⟩,vZ,lO⟩:=q
 try dsimp only at lO
 refine yW (fun σ_ w_=>∃ (U_:PHeap),σ_ 0=.pointer (some ⟨ag,0,none⟩)/\σ_ 2=.bool p2/\σ_ 6=.pointer (some ⟨b4,0,none⟩)/\σ_ 9=.pointer (some ⟨b8,0,none⟩)/\σ_ 11=jV wA/\σ_ 54=jV (w64 ((↑(p0.number.length):Int) + 1))/\σ_ 55=jV (↑bp:Int)/\σ_ 60=.slice bj p0.edges.length bk/\σ_ 61=jV (↑p0.edges.length:Int)/\σ_ 62=jV (↑aV:Int)/\PHeap.Le az U_/\SW w [B1,.obj aa (.map ac ae)] U U_ [.blk b4 118 B0,B1,.obj aa (.map ac ae),.row am an 3 1 (hD KL.encI f7),.row ao ap 3 1 (hD KL.encI f8),.blk b8 118 [.slice am f7.length an,.slice ao f8.length ap]] w_/\f7.length=l9.length/\f8.length=bq.length) ?_ ?_
 refine zb (sR (wCv (.fx 3 (.fl 4 (.fx 5 .nil .stop)) .stop)) Z (oM Z bx (bnK vZ fun aj lk vF=>?_)))
 have su:=u7.le wi
 have sv:=su.le wj
 have sw:=sv.le mj
 have sA:=sw.le ml
 have q:=sA.el (fun _=>rfl) (wAX lk)
 obtain ⟨xo,x8,s3,s4⟩:=q
 refine oR Z (ZR Z bW s3 bx Tryz.runUnderlying122 Tryz.sizeOf151 (wBA lk)) (oL Z (lC.ldCA (f:=0) s4 Z Z Tryz.isAgg151 Tryz.sizeOf151 (us:=[jV aj.step.Kind,jV aj.step.Skier,jV aj.step.Index,.bool aj.step.Up,jV aj.from_,jV aj.to_,jV aj.count]) Z Z) (zW (cs:=[jV 0,jV 0,jV 0,.bool false,jV 0,jV 0,jV 0]) Z Z Z Z Z Tryz.zeroValue151 Z lC ?_))
 intro w5 aY tT
 refine oA Z Z ?_
 let ay:List Value:=[jV aj.step.Kind,jV aj.step.Skier,jV aj.step.Index,.bool aj.step.Up,jV aj.from_,jV aj.to_,jV aj.count]
 refine zX (j:=0) (vs:=ay) Z Z Z Z tT Z Z Z Z Tryz.sizeOf151 (zA Z) Z Z Z ?_
 intro ff tU
 let bb:Res:=.row ao ap 3 1 (hD KL.encI ax)
 let bw:Res:=.blk b8 118 [.slice am ak.length an,.slice ao ax.length ap]
 have tV:SW w [B1,.obj aa (.map ac ae)] U az [.blk aY 151 ay,.blk b4 118 B0,B1,.obj aa (.map ac ae),.row am an 3 1 (hD KL.encI ak),bb,bw] ff:=tU
 refine eN (zL (ZF ZB [3,1,3,1,3,3] fL6 (by kernel_rfl) ?_))
 have dy:=tV.drew
 generalize hw_W1431:({ ff with drawn:=ff.drawn + 1 }:World)=dV at dy ⊢
 refine oR Z (zJ Z Z yq Z zD) (oL Z (dy.ldB (j:=0) Z Z Z zF (v:=jV aj.from_) Z) (oR Z (zJ Z Z yq Z zD) (oL Z (dy.ldB (j:=0) Z Z Z zF (v:=jV aj.to_) Z) (oA Z Z (oA Z Z (eN (zL (sR fL1 Z (oM Z bV (eN (ifc vF ?_ ?_)))))))))))
 intro fj vG
 refine ZJ (congrArg nJ fj.out) (rR fL4 rfl (zm rfl rfl rfl rfl rfl rfl (zm rfl rfl rfl rfl rfl rfl (yB rfl rfl rfl rfl rfl rfl (yB rfl rfl rfl rfl rfl rfl (eN (zL (ZF ZB [3,1,3,3,1,3,3,3,1,3,3,1,3,1,3,3,1,3,3,1,3,3] fL22 (by kernel_rfl) ?_))))))))
 have bh:=dy.drew
 generalize hw_W1435:({ dV with drawn:=dV.drawn + 1 }:World)=ig at bh ⊢
 refine oR Z (zJ Z bg Zc Z zZ) (oL Z (bh.ldB (j:=6) Z Z Z zj (v:=.slice am ak.length an) Z) (oM Z Z (bnK vG fun _ bs vH=>?_)))
 obtain ⟨xp,bm⟩:=bh.rowSome (j:=4) rfl (by rw [wAC (f:=KL.encI) (sz:=1) (fun _=>rfl) ak];have hz:=wAY bs;omega)
 refine oR Z (Ze Z Z bm Z zC zD (wCC bs) (wCD bs)) ?_
 have vi:=wBb (xs:=ak) (wAY bs)
 refine ZE rfl rfl rfl rfl (bh.ldR (j:=4) rfl bm rfl rfl zF (wAa (sz:=1) (fun _=>rfl) _ _ 0 _ vi (by first | omega | rfl | simp) rfl)) rfl (ze rfl rfl rfl rfl (fun _=>zY rfl rfl rfl) (zm rfl rfl rfl rfl rfl rfl (ifc vH ?_ ?_)))
 intro au vI
 refine rU Z (wT Z au) (zJ Z bg Zc Z zZ) (ZE Z Z Z (wT Z au) (bh.ldB (j:=6) Z Z Z zj (v:=.slice am ak.length an) Z) Z (zm Z Z Z (wT Z au) Z Z (rU Z (wT Z au) (Ze Z Z bm Z zC zD (wCC bs) (wCD bs)) ?_)))
 have vj:=wBb (xs:=ak) (wAY bs)
 refine ZE rfl rfl rfl (zQ rfl rfl (Zm au.out)) (bh.ldR (j:=4) rfl bm rfl rfl zF (wAa (sz:=1) (fun _=>rfl) _ _ 0 _ vj (by first | omega | rfl | simp) rfl)) rfl (ze rfl rfl rfl (zQ rfl rfl (Zm au.out)) (fun _=>zJ rfl rfl yq rfl zD) (ZE rfl rfl rfl (zQ rfl rfl (Zm au.out)) (bh.ldB (j:=0) rfl rfl rfl zF (v:=jV aj.count) rfl) rfl (ze rfl rfl rfl (zQ rfl rfl (Zm au.out)) (fun _=>za rfl rfl rfl) (ze rfl rfl rfl (zQ rfl rfl (Zm au.out)) (fun _=>zJ rfl bg Zc rfl zZ) (ZE rfl rfl rfl (zQ rfl rfl (Zm au.out)) (bh.ldB (j:=6) rfl rfl rfl zj (v:=.slice am ak.length an) rfl) rfl (zm rfl rfl rfl (zQ rfl rfl (Zm au.out)) rfl rfl (bnK vI fun _ bz vJ=>ze rfl rfl rfl (zQ rfl rfl (Zm au.out)) (fun _=>Ze rfl rfl bm rfl zC zD (wCC bz) (wCD bz)) ?_)))))))
 have vk:=wBb (xs:=ak) (wAY bz)
 refine ZE rfl rfl rfl (zQ rfl rfl (Zm au.out)) (bh.ldR (j:=4) rfl bm rfl rfl zF (wAa (sz:=1) (fun _=>rfl) _ _ 0 _ vk (by first | omega | rfl | simp) rfl)) rfl (ze rfl rfl rfl (zQ rfl rfl (Zm au.out)) (fun _=>zY rfl rfl rfl) (ze rfl rfl rfl rfl (fun _=>zT rfl (Zm au.out) rfl) (eN (ifc vJ ?_ ?_))))
 intro fk vK
 refine cT Z fk ?_
 have q:=bnd vK
 obtain ⟨⟨⟩,v2,lP⟩:=q
 try dsimp only at lP
 let bc:Res:=.row am an 3 1 (hD KL.encI (nG ak aj.from_.toNat (w64 ((gd ak aj.to_.toNat) + aj.count))))
 let cZ:Res:=.blk b8 118 [.slice am ((nG ak aj.from_.toNat (w64 ((gd ak aj.to_.toNat) + aj.count))).length) an,.slice ao ((nG ax aj.from_.toNat (↑aV:Int)).length) ap]
 let bK:Res:=.row ao ap 3 1 (hD KL.encI (nG ax aj.from_.toNat (↑aV:Int)))
 refine yW (fun σ_ w_=>∃ (U_:PHeap),σ_ 0=.pointer (some ⟨ag,0,none⟩)/\σ_ 2=.bool p2/\σ_ 6=.pointer (some ⟨b4,0,none⟩)/\σ_ 9=.pointer (some ⟨b8,0,none⟩)/\σ_ 15=jV aj.from_/\σ_ 54=jV (w64 ((↑(p0.number.length):Int) + 1))/\σ_ 55=jV (↑bp:Int)/\σ_ 60=.slice bj p0.edges.length bk/\σ_ 61=jV (↑p0.edges.length:Int)/\σ_ 62=jV (↑aV:Int)/\PHeap.Le az U_/\SW w [B1,.obj aa (.map ac ae)] U U_ [.blk aY 151 ay,.blk b4 118 B0,B1,.obj aa (.map ac ae),bc,bK,cZ] w_) ?_ ?_
 refine yf fun be a8=>?_
 have jf:be 0=.pointer (some ⟨ag,0,none⟩):=(a8 0).trans cG
 have jg:be 2=.bool p2:=(a8 2).trans bV
 have jh:be 6=.pointer (some ⟨b4,0,none⟩):=(a8 6).trans cH
 have dv:be 9=.pointer (some ⟨b8,0,none⟩):=(a8 9).trans bg
 have ot:be 12=jV (↑aV:Int):=(a8 12).trans rfl
 have ou:be 13=.pointer (some ⟨aY,0,none⟩):=(a8 13).trans rfl
 have ov:be 14=jV aj.to_:=(a8 14).trans rfl
 have eF:be 15=jV aj.from_:=(a8 15).trans rfl
 have ji:be 54=jV (w64 ((↑(p0.number.length):Int) + 1)):=(a8 54).trans cI
 have jj:be 55=jV (↑bp:Int):=(a8 55).trans cJ
 have jk:be 60=.slice bj p0.edges.length bk:=(a8 60).trans bW
 have jl:be 61=jV (↑p0.edges.length:Int):=(a8 61).trans bX
 have jm:be 62=jV (↑aV:Int):=(a8 62).trans bx
 clear a8
 refine bnK v2 fun _ bt lQ=>ZF ZB [3,1,3,3,2,3,3,1,3,3,1,3,1,3,3,3,0,3,0] (wET (wMb gDd)) (by kernel_rfl) ?_
 have bC:=bh.drew
 generalize hw_W1484:({ ig with drawn:=ig.drawn + 1 }:World)=w6 at bC ⊢
 refine oR Z (zJ Z dv Zc Z zZ) (oL Z (bC.ldB (j:=6) Z Z Z zj (v:=.slice am ak.length an) Z) (oM Z eF (oR Z (zJ Z dv Zc Z zZ) (oM Z eF (oR Z (zJ Z dv Zc Z zZ) (oL Z (bC.ldB (j:=6) Z Z Z zj (v:=.slice am ak.length an) Z) (oM Z ov (oR Z (Ze Z Z bm Z zC zD (wCC bs) (wCD bs)) ?_))))))))
 have vl:=wBb (xs:=ak) (wAY bs)
 refine ZE rfl rfl rfl rfl (bC.ldR (j:=4) rfl bm rfl rfl zF (wAa (sz:=1) (fun _=>rfl) _ _ 0 _ vl (by first | omega | rfl | simp) rfl)) rfl (ze rfl rfl rfl rfl (fun _=>zJ rfl ou yq rfl zD) (ZE rfl rfl rfl rfl (bC.ldB (j:=0) rfl rfl rfl zF (v:=jV aj.count) rfl) rfl (ze rfl rfl rfl rfl (fun _=>za rfl rfl rfl) (zm rfl rfl rfl rfl rfl ot (ze rfl rfl rfl rfl (fun _=>Ze rfl rfl bm rfl zC zD (wCC bz) (wCD bz)) (zw ?_ ?_))))))
 refine Zb Z Z Z Z (bC.ldB (j:=6) Z Z Z zj (v:=.slice ao ax.length ap) Z) ?_
 have vm:=wBb (xs:=ak) (wAY bz)
 refine YI (j:=4) (vs:=[jV (w64 ((gd ak aj.to_.toNat) + aj.count))]) (cs':=hD KL.encI (nG ak aj.from_.toNat (w64 ((gd ak aj.to_.toNat) + aj.count)))) rfl rfl rfl rfl bC rfl bm rfl rfl rfl zD (by rw [wAC (f:=KL.encI) (sz:=1) (fun _=>rfl)];have hz:=wAY bz;show _ + 1 <= _;first | omega | (simp only [nD];omega) | (simp only [nB,hJ,nA];omega)) rfl (wDU (sz:=1) (fo:=0) (fun _=>rfl) _ _ _ _ vm (by first | omega | (simp only [nD];omega) | (simp only [nB,hJ,nA];omega)) (zA rfl) rfl) rfl ?_
 intro ii tW
 have tX:SW w [B1,.obj aa (.map ac ae)] U az [.blk aY 151 ay,.blk b4 118 B0,B1,.obj aa (.map ac ae),bc,bb,bw] ii:=tW
 let dR:Res:=.blk b8 118 [.slice am ((nG ak aj.from_.toNat (w64 ((gd ak aj.to_.toNat) + aj.count))).length) an,.slice ao ax.length ap]
 have lD:SW w [B1,.obj aa (.map ac ae)] U az [.blk aY 151 ay,.blk b4 118 B0,B1,.obj aa (.map ac ae),bc,bb,dR] ii:=by simpa only [B0,B1,ay,bb,bw,bc,dR,nE] using tX
 obtain ⟨xq,lq⟩:=lD.rowSome (j:=5) rfl (by rw [wAC (f:=KL.encI) (sz:=1) (fun _=>rfl) ax];have hz:=wAY bt;omega)
 refine oR Z (Ze Z Z lq Z zC zD (wCC bt) (wCD bt)) ?_
 have vn:=wBb (xs:=ax) (wAY bt)
 refine YI (j:=5) (vs:=[jV (↑aV:Int)]) (cs':=hD KL.encI (nG ax aj.from_.toNat (↑aV:Int))) rfl rfl rfl rfl lD rfl lq rfl rfl rfl zD (by rw [wAC (f:=KL.encI) (sz:=1) (fun _=>rfl)];have hz:=wAY bt;show _ + 1 <= _;first | omega | (simp only [nD];omega) | (simp only [nB,hJ,nA];omega)) rfl (wDU (sz:=1) (fo:=0) (fun _=>rfl) _ _ _ _ vn (by first | omega | (simp only [nD];omega) | (simp only [nB,hJ,nA];omega)) (zA rfl) rfl) rfl ?_
 intro ij tY
 have tZ:SW w [B1,.obj aa (.map ac ae)] U az [.blk aY 151 ay,.blk b4 118 B0,B1,.obj aa (.map ac ae),bc,bK,dR] ij:=tY
 have t6:SW w [B1,.obj aa (.map ac ae)] U az [.blk aY 151 ay,.blk b4 118 B0,B1,.obj aa (.map ac ae),bc,bK,cZ] ij:=by simpa only [B0,B1,ay,bc,cZ,bK,dR,nE] using tZ
 refine zg ?_
 cases lQ
 exact zI ⟨Z,⟨az,jf,jg,jh,dv,eF,ji,jj,jk,jl,jm,(zN _),t6⟩⟩
 have vo:=wBb (xs:=ak) (wAY bz)
 refine YI (j:=4) (vs:=[jV (w64 ((gd ak aj.to_.toNat) + aj.count))]) (cs':=hD KL.encI (nG ak aj.from_.toNat (w64 ((gd ak aj.to_.toNat) + aj.count)))) rfl rfl rfl rfl bC rfl bm rfl rfl rfl zD (by rw [wAC (f:=KL.encI) (sz:=1) (fun _=>rfl)];have hz:=wAY bz;show _ + 1 <= _;first | omega | (simp only [nD];omega) | (simp only [nB,hJ,nA];omega)) rfl (wDU (sz:=1) (fo:=0) (fun _=>rfl) _ _ _ _ vo (by first | omega | (simp only [nD];omega) | (simp only [nB,hJ,nA];omega)) (zA rfl) rfl) rfl ?_
 intro ik t7
 have t8:SW w [B1,.obj aa (.map ac ae)] U az [.blk aY 151 ay,.blk b4 118 B0,B1,.obj aa (.map ac ae),bc,bb,bw] ik:=t7
 let dS:Res:=.blk b8 118 [.slice am ((nG ak aj.from_.toNat (w64 ((gd ak aj.to_.toNat) + aj.count))).length) an,.slice ao ax.length ap]
 have fM:SW w [B1,.obj aa (.map ac ae)] U az [.blk aY 151 ay,.blk b4 118 B0,B1,.obj aa (.map ac ae),bc,bb,dS] ik:=by simpa only [B0,B1,ay,bb,bw,bc,dS,nE] using t8
 refine Zb Z Z Z Z (fM.ldB (j:=6) Z Z Z zj (v:=.slice ao ax.length ap) Z) ?_
 obtain ⟨xr,ls⟩:=fM.rowSome (j:=5) rfl (by rw [wAC (f:=KL.encI) (sz:=1) (fun _=>rfl) ax];have hz:=wAY bt;omega)
 refine oR Z (Ze Z Z ls Z zC zD (wCC bt) (wCD bt)) ?_
 have vp:=wBb (xs:=ax) (wAY bt)
 refine YI (j:=5) (vs:=[jV (↑aV:Int)]) (cs':=hD KL.encI (nG ax aj.from_.toNat (↑aV:Int))) rfl rfl rfl rfl fM rfl ls rfl rfl rfl zD (by rw [wAC (f:=KL.encI) (sz:=1) (fun _=>rfl)];have hz:=wAY bt;show _ + 1 <= _;first | omega | (simp only [nD];omega) | (simp only [nB,hJ,nA];omega)) rfl (wDU (sz:=1) (fo:=0) (fun _=>rfl) _ _ _ _ vp (by first | omega | (simp only [nD];omega) | (simp only [nB,hJ,nA];omega)) (zA rfl) rfl) rfl ?_
 intro il ua
 have ub:SW w [B1,.obj aa (.map ac ae)] U az [.blk aY 151 ay,.blk b4 118 B0,B1,.obj aa (.map ac ae),bc,bK,dS] il:=ua
 have ud:SW w [B1,.obj aa (.map ac ae)] U az [.blk aY 151 ay,.blk b4 118 B0,B1,.obj aa (.map ac ae),bc,bK,cZ] il:=by simpa only [B0,B1,ay,bc,cZ,bK,dS,nE] using ub
 refine zg ?_
 cases lQ
 exact zI ⟨Z,⟨az,jf,jg,jh,dv,eF,ji,jj,jk,jl,jm,(zN _),ud⟩⟩
 rintro Al w7 ⟨mB,ow,ox,oy,oz,oB,oC,oD,oE,oG,oH,wk,ue⟩
 refine rR fL2 Z (oM Z oB (oA Z Z (zg (zx ?_))))
 cases lP
 exact zI ⟨rfl,⟨mB,ow,ox,oy,oz,rfl,oC,oD,oE,oG,oH,wk,(ue.pick [1,2,3,4,5,6] _ (by decide) rfl),(nE.trans cK),(nE.trans cL)⟩⟩
 intro fk vL
 refine cF Z fk (Zi (zx ?_))
 cases vL
 exact zI ⟨rfl,⟨az,cG,bV,cH,bg,eD,cI,cJ,bW,bX,bx,(zN _),(bh.pick [1,2,3,4,5,6] _ (by decide) rfl),cK,cL⟩⟩
 intro au vM
 refine oF Z au (oF Z au (oF Z au (oF Z au (oF Z au (oF Z au (oF Z au (oF Z au (oF Z au (oF Z au (oF Z au (oF Z au (oF Z au (oF Z au (oR Z (zc Z (ZM au.out) Z) (eN (zy Z (Zi (zx ?_))))))))))))))))))
 cases vM
 exact zI ⟨rfl,⟨az,cG,bV,cH,bg,eD,cI,cJ,bW,bX,bx,(zN _),(bh.pick [1,2,3,4,5,6] _ (by decide) rfl),cK,cL⟩⟩
 intro fj vN
 refine zy (congrArg nJ (nK.2 fj.out)) (kN (zL (ZF ZB [3,1,3,3,1,3,3,3,1,3,3,1,3,1,3,3,1,3,3,1,3,3] fL22 (by kernel_rfl) ?_)))
 have bi:=dy.drew
 generalize hw_W1538:({ dV with drawn:=dV.drawn + 1 }:World)=im at bi ⊢
 refine oR Z (zJ Z bg Zc Z zZ) (oL Z (bi.ldB (j:=6) Z Z Z zj (v:=.slice am ak.length an) Z) (oM Z Z (bnK vN fun _ bu vO=>?_)))
 obtain ⟨xt,bn⟩:=bi.rowSome (j:=4) rfl (by rw [wAC (f:=KL.encI) (sz:=1) (fun _=>rfl) ak];have hz:=wAY bu;omega)
 refine oR Z (Ze Z Z bn Z zC zD (wCC bu) (wCD bu)) ?_
 have vq:=wBb (xs:=ak) (wAY bu)
 refine ZE rfl rfl rfl rfl (bi.ldR (j:=4) rfl bn rfl rfl zF (wAa (sz:=1) (fun _=>rfl) _ _ 0 _ vq (by first | omega | rfl | simp) rfl)) rfl (ze rfl rfl rfl rfl (fun _=>zY rfl rfl rfl) (zm rfl rfl rfl rfl rfl rfl (ifc vO ?_ ?_)))
 intro av vP
 refine rU Z (wT Z av) (zJ Z bg Zc Z zZ) (ZE Z Z Z (wT Z av) (bi.ldB (j:=6) Z Z Z zj (v:=.slice am ak.length an) Z) Z (zm Z Z Z (wT Z av) Z Z (rU Z (wT Z av) (Ze Z Z bn Z zC zD (wCC bu) (wCD bu)) ?_)))
 have vr:=wBb (xs:=ak) (wAY bu)
 refine ZE rfl rfl rfl (zQ rfl rfl (Zm av.out)) (bi.ldR (j:=4) rfl bn rfl rfl zF (wAa (sz:=1) (fun _=>rfl) _ _ 0 _ vr (by first | omega | rfl | simp) rfl)) rfl (ze rfl rfl rfl (zQ rfl rfl (Zm av.out)) (fun _=>zJ rfl rfl yq rfl zD) (ZE rfl rfl rfl (zQ rfl rfl (Zm av.out)) (bi.ldB (j:=0) rfl rfl rfl zF (v:=jV aj.count) rfl) rfl (ze rfl rfl rfl (zQ rfl rfl (Zm av.out)) (fun _=>za rfl rfl rfl) (ze rfl rfl rfl (zQ rfl rfl (Zm av.out)) (fun _=>zJ rfl bg Zc rfl zZ) (ZE rfl rfl rfl (zQ rfl rfl (Zm av.out)) (bi.ldB (j:=6) rfl rfl rfl zj (v:=.slice am ak.length an) rfl) rfl (zm rfl rfl rfl (zQ rfl rfl (Zm av.out)) rfl rfl (bnK vP fun _ bA vQ=>ze rfl rfl rfl (zQ rfl rfl (Zm av.out)) (fun _=>Ze rfl rfl bn rfl zC zD (wCC bA) (wCD bA)) ?_)))))))
 have vt:=wBb (xs:=ak) (wAY bA)
 refine ZE rfl rfl rfl (zQ rfl rfl (Zm av.out)) (bi.ldR (j:=4) rfl bn rfl rfl zF (wAa (sz:=1) (fun _=>rfl) _ _ 0 _ vt (by first | omega | rfl | simp) rfl)) rfl (ze rfl rfl rfl (zQ rfl rfl (Zm av.out)) (fun _=>zY rfl rfl rfl) (ze rfl rfl rfl rfl (fun _=>zT rfl (Zm av.out) rfl) (eN (ifc vQ ?_ ?_))))
 intro fm vR
 refine cT Z fm ?_
 have q:=bnd vR
 obtain ⟨⟨⟩,wa,lR⟩:=q
 try dsimp only at lR
 let bd:Res:=.row am an 3 1 (hD KL.encI (nG ak aj.to_.toNat (w64 ((gd ak aj.from_.toNat) + aj.count))))
 let c6:Res:=.blk b8 118 [.slice am ((nG ak aj.to_.toNat (w64 ((gd ak aj.from_.toNat) + aj.count))).length) an,.slice ao ((nG ax aj.to_.toNat (↑aV:Int)).length) ap]
 let bL:Res:=.row ao ap 3 1 (hD KL.encI (nG ax aj.to_.toNat (↑aV:Int)))
 refine yW (fun σ_ w_=>∃ (U_:PHeap),σ_ 0=.pointer (some ⟨ag,0,none⟩)/\σ_ 2=.bool p2/\σ_ 6=.pointer (some ⟨b4,0,none⟩)/\σ_ 9=.pointer (some ⟨b8,0,none⟩)/\σ_ 15=jV aj.to_/\σ_ 54=jV (w64 ((↑(p0.number.length):Int) + 1))/\σ_ 55=jV (↑bp:Int)/\σ_ 60=.slice bj p0.edges.length bk/\σ_ 61=jV (↑p0.edges.length:Int)/\σ_ 62=jV (↑aV:Int)/\PHeap.Le az U_/\SW w [B1,.obj aa (.map ac ae)] U U_ [.blk aY 151 ay,.blk b4 118 B0,B1,.obj aa (.map ac ae),bd,bL,c6] w_) ?_ ?_
 refine yf fun bf ba=>?_
 have jo:bf 0=.pointer (some ⟨ag,0,none⟩):=(ba 0).trans cG
 have jp:bf 2=.bool p2:=(ba 2).trans bV
 have jq:bf 6=.pointer (some ⟨b4,0,none⟩):=(ba 6).trans cH
 have dw:bf 9=.pointer (some ⟨b8,0,none⟩):=(ba 9).trans bg
 have oI:bf 12=jV (↑aV:Int):=(ba 12).trans rfl
 have oJ:bf 13=.pointer (some ⟨aY,0,none⟩):=(ba 13).trans rfl
 have oK:bf 14=jV aj.from_:=(ba 14).trans rfl
 have eG:bf 15=jV aj.to_:=(ba 15).trans rfl
 have jr:bf 54=jV (w64 ((↑(p0.number.length):Int) + 1)):=(ba 54).trans cI
 have jt:bf 55=jV (↑bp:Int):=(ba 55).trans cJ
 have ju:bf 60=.slice bj p0.edges.length bk:=(ba 60).trans bW
 have jv:bf 61=jV (↑p0.edges.length:Int):=(ba 61).trans bX
 have jw:bf 62=jV (↑aV:Int):=(ba 62).trans bx
 clear ba
 refine bnK wa fun _ bv lS=>ZF ZB [3,1,3,3,2,3,3,1,3,3,1,3,1,3,3,3,0,3,0] (wET (wMb gDd)) (by kernel_rfl) ?_
 have bD:=bi.drew
 generalize hw_W1587:({ im with drawn:=im.drawn + 1 }:World)=w8 at bD ⊢
 refine oR Z (zJ Z dw Zc Z zZ) (oL Z (bD.ldB (j:=6) Z Z Z zj (v:=.slice am ak.length an) Z) (oM Z eG (oR Z (zJ Z dw Zc Z zZ) (oM Z eG (oR Z (zJ Z dw Zc Z zZ) (oL Z (bD.ldB (j:=6) Z Z Z zj (v:=.slice am ak.length an) Z) (oM Z oK (oR Z (Ze Z Z bn Z zC zD (wCC bu) (wCD bu)) ?_))))))))
 have vu:=wBb (xs:=ak) (wAY bu)
 refine ZE rfl rfl rfl rfl (bD.ldR (j:=4) rfl bn rfl rfl zF (wAa (sz:=1) (fun _=>rfl) _ _ 0 _ vu (by first | omega | rfl | simp) rfl)) rfl (ze rfl rfl rfl rfl (fun _=>zJ rfl oJ yq rfl zD) (ZE rfl rfl rfl rfl (bD.ldB (j:=0) rfl rfl rfl zF (v:=jV aj.count) rfl) rfl (ze rfl rfl rfl rfl (fun _=>za rfl rfl rfl) (zm rfl rfl rfl rfl rfl oI (ze rfl rfl rfl rfl (fun _=>Ze rfl rfl bn rfl zC zD (wCC bA) (wCD bA)) (zw ?_ ?_))))))
 refine Zb Z Z Z Z (bD.ldB (j:=6) Z Z Z zj (v:=.slice ao ax.length ap) Z) ?_
 have vv:=wBb (xs:=ak) (wAY bA)
 refine YI (j:=4) (vs:=[jV (w64 ((gd ak aj.from_.toNat) + aj.count))]) (cs':=hD KL.encI (nG ak aj.to_.toNat (w64 ((gd ak aj.from_.toNat) + aj.count)))) rfl rfl rfl rfl bD rfl bn rfl rfl rfl zD (by rw [wAC (f:=KL.encI) (sz:=1) (fun _=>rfl)];have hz:=wAY bA;show _ + 1 <= _;first | omega | (simp only [nD];omega) | (simp only [nB,hJ,nA];omega)) rfl (wDU (sz:=1) (fo:=0) (fun _=>rfl) _ _ _ _ vv (by first | omega | (simp only [nD];omega) | (simp only [nB,hJ,nA];omega)) (zA rfl) rfl) rfl ?_
 intro io uf
 have ug:SW w [B1,.obj aa (.map ac ae)] U az [.blk aY 151 ay,.blk b4 118 B0,B1,.obj aa (.map ac ae),bd,bb,bw] io:=uf
 let dT:Res:=.blk b8 118 [.slice am ((nG ak aj.to_.toNat (w64 ((gd ak aj.from_.toNat) + aj.count))).length) an,.slice ao ax.length ap]
 have lE:SW w [B1,.obj aa (.map ac ae)] U az [.blk aY 151 ay,.blk b4 118 B0,B1,.obj aa (.map ac ae),bd,bb,dT] io:=by simpa only [B0,B1,ay,bb,bw,bd,dT,nE] using ug
 obtain ⟨xu,lu⟩:=lE.rowSome (j:=5) rfl (by rw [wAC (f:=KL.encI) (sz:=1) (fun _=>rfl) ax];have hz:=wAY bv;omega)
 refine oR Z (Ze Z Z lu Z zC zD (wCC bv) (wCD bv)) ?_
 have vw:=wBb (xs:=ax) (wAY bv)
 refine YI (j:=5) (vs:=[jV (↑aV:Int)]) (cs':=hD KL.encI (nG ax aj.to_.toNat (↑aV:Int))) rfl rfl rfl rfl lE rfl lu rfl rfl rfl zD (by rw [wAC (f:=KL.encI) (sz:=1) (fun _=>rfl)];have hz:=wAY bv;show _ + 1 <= _;first | omega | (simp only [nD];omega) | (simp only [nB,hJ,nA];omega)) rfl (wDU (sz:=1) (fo:=0) (fun _=>rfl) _ _ _ _ vw (by first | omega | (simp only [nD];omega) | (simp only [nB,hJ,nA];omega)) (zA rfl) rfl) rfl ?_
 intro ip uh
 have ui:SW w [B1,.obj aa (.map ac ae)] U az [.blk aY 151 ay,.blk b4 118 B0,B1,.obj aa (.map ac ae),bd,bL,dT] ip:=uh
 have uj:SW w [B1,.obj aa (.map ac ae)] U az [.blk aY 151 ay,.blk b4 118 B0,B1,.obj aa (.map ac ae),bd,bL,c6] ip:=by simpa only [B0,B1,ay,bd,c6,bL,dT,nE] using ui
 refine zg ?_
 cases lS
 exact zI ⟨Z,⟨az,jo,jp,jq,dw,eG,jr,jt,ju,jv,jw,(zN _),uj⟩⟩
 have vx:=wBb (xs:=ak) (wAY bA)
 refine YI (j:=4) (vs:=[jV (w64 ((gd ak aj.from_.toNat) + aj.count))]) (cs':=hD KL.encI (nG ak aj.to_.toNat (w64 ((gd ak aj.from_.toNat) + aj.count)))) rfl rfl rfl rfl bD rfl bn rfl rfl rfl zD (by rw [wAC (f:=KL.encI) (sz:=1) (fun _=>rfl)];have hz:=wAY bA;show _ + 1 <= _;first | omega | (simp only [nD];omega) | (simp only [nB,hJ,nA];omega)) rfl (wDU (sz:=1) (fo:=0) (fun _=>rfl) _ _ _ _ vx (by first | omega | (simp only [nD];omega) | (simp only [nB,hJ,nA];omega)) (zA rfl) rfl) rfl ?_
 intro iq uk
 have ul:SW w [B1,.obj aa (.map ac ae)] U az [.blk aY 151 ay,.blk b4 118 B0,B1,.obj aa (.map ac ae),bd,bb,bw] iq:=uk
 let dU:Res:=.blk b8 118 [.slice am ((nG ak aj.to_.toNat (w64 ((gd ak aj.from_.toNat) + aj.count))).length) an,.slice ao ax.length ap]
 have fN:SW w [B1,.obj aa (.map ac ae)] U az [.blk aY 151 ay,.blk b4 118 B0,B1,.obj aa (.map ac ae),bd,bb,dU] iq:=by simpa only [B0,B1,ay,bb,bw,bd,dU,nE] using ul
 refine Zb Z Z Z Z (fN.ldB (j:=6) Z Z Z zj (v:=.slice ao ax.length ap) Z) ?_
 obtain ⟨xv,lv⟩:=fN.rowSome (j:=5) rfl (by rw [wAC (f:=KL.encI) (sz:=1) (fun _=>rfl) ax];have hz:=wAY bv;omega)
 refine oR Z (Ze Z Z lv Z zC zD (wCC bv) (wCD bv)) ?_
 have vy:=wBb (xs:=ax) (wAY bv)
 refine YI (j:=5) (vs:=[jV (↑aV:Int)]) (cs':=hD KL.encI (nG ax aj.to_.toNat (↑aV:Int))) rfl rfl rfl rfl fN rfl lv rfl rfl rfl zD (by rw [wAC (f:=KL.encI) (sz:=1) (fun _=>rfl)];have hz:=wAY bv;show _ + 1 <= _;first | omega | (simp only [nD];omega) | (simp only [nB,hJ,nA];omega)) rfl (wDU (sz:=1) (fo:=0) (fun _=>rfl) _ _ _ _ vy (by first | omega | (simp only [nD];omega) | (simp only [nB,hJ,nA];omega)) (zA rfl) rfl) rfl ?_
 intro ir um
 have un:SW w [B1,.obj aa (.map ac ae)] U az [.blk aY 151 ay,.blk b4 118 B0,B1,.obj aa (.map ac ae),bd,bL,dU] ir:=um
 have uo:SW w [B1,.obj aa (.map ac ae)] U az [.blk aY 151 ay,.blk b4 118 B0,B1,.obj aa (.map ac ae),bd,bL,c6] ir:=by simpa only [B0,B1,ay,bd,c6,bL,dU,nE] using un
 refine zg ?_
 cases lS
 exact zI ⟨Z,⟨az,jo,jp,jq,dw,eG,jr,jt,ju,jv,jw,(zN _),uo⟩⟩
 rintro Am w9 ⟨mC,oO,oP,oQ,oS,oU,oV,oW,oX,oY,oZ,wl,up⟩
 refine rR fL2 Z (oM Z oU (oA Z Z (zg (zx ?_))))
 cases lR
 exact zI ⟨rfl,⟨mC,oO,oP,oQ,oS,rfl,oV,oW,oX,oY,oZ,wl,(up.pick [1,2,3,4,5,6] _ (by decide) rfl),(nE.trans cK),(nE.trans cL)⟩⟩
 intro fm vS
 refine cF Z fm (Zi (zx ?_))
 cases vS
 exact zI ⟨rfl,⟨az,cG,bV,cH,bg,eD,cI,cJ,bW,bX,bx,(zN _),(bi.pick [1,2,3,4,5,6] _ (by decide) rfl),cK,cL⟩⟩
 intro av vT
 refine oF Z av (oF Z av (oF Z av (oF Z av (oF Z av (oF Z av (oF Z av (oF Z av (oF Z av (oF Z av (oF Z av (oF Z av (oF Z av (oF Z av (oR Z (zc Z (ZM av.out) Z) (eN (zy Z (Zi (zx ?_))))))))))))))))))
 cases vT
 exact zI ⟨rfl,⟨az,cG,bV,cH,bg,eD,cI,cJ,bW,bX,bx,(zN _),(bi.pick [1,2,3,4,5,6] _ (by decide) rfl),cK,cL⟩⟩
 rintro An xa ⟨mD,o0,o3,o5,o6,o7,o8,o9,pd,pe,pf,wm,uq,sB,sC⟩
 refine rR fL2 Z (oR Z (ZG (za Z pf Z) (congrArg (jV) vA.out)) (oM Z Z (zg ?_)))
 cases lO
 exact zI ⟨Z,⟨mD,Z,o0,o3,o5,o6,o7,o8,o9,pd,pe,(ml.trans wm),uq,sB,sC⟩⟩
 rintro Ao xb ⟨fb,sc,pg,ph,fC,jx,jy,pj,pk,xz,pm,wn,fO,sD,sE⟩
 have n4:Hid (¬ ((↑(((↑p0.edges.length:Int):Int) - 0).toNat:Int) < (↑p0.edges.length:Int))):=zM (wAf)
 refine sR fL1 Z (oR Z (zY Z sc pm) (eN (zL (cF Z n4 (Zd (zn (zn (ZV (zI (sR fL2 Z (oM Z jy (oR Z (zY Z Z Z) (eN (ifc lN ?_ ?_))))))))))))))
 intro fq vU
 refine cT Z fq (sR gCs Z ?_)
 let cp:List Value:=[.slice am mw.length an,.slice ao mx.length ap]
 refine oL Z (fO.ldBA (j:=5) Z Z jx Tryz.isAgg118 Zp (vs:=cp) Z Z) (zX (j:=0) (vs:=cp) Z Z Z Z fO Z fC Z Z Zp (zA Z) Z Z Z ?_)
 intro mS ur
 have lF:SW w [B1,.obj aa (.map ac ae)] U fb [.blk b4 118 cp,B1,.obj aa (.map ac ae),.row am an 3 1 (hD KL.encI mw),.row ao ap 3 1 (hD KL.encI mx),.blk b8 118 cp] mS:=ur
 refine oA Z Z (oA Z Z (eN (zR (zd (zS ?_)))))
 have q:=wAZ vU
 obtain ⟨wz,vV,n7⟩:=q
 have q:=wBB fZ fQ (u9 wz n7)
 obtain rfl:=q
 refine zS (zd (zS ?_))
 cases vV
 exact ⟨rfl,_,(wEH (rs:=[.cell 6 118,.tmp 7,.tmp 8]) (vs:=[.agg cp.toArray,jV 0,.bool true]) ⟨⟨_,fC,(wBN Tryz.isAgg118 Zp (lF.blkAt (k:=0) rfl) (vs:=cp) rfl rfl)⟩,⟨rfl,⟨rfl,trivial⟩⟩⟩ rfl),fb,_,(lF.pick [3,4,1,2] _ (by decide) rfl),am,an,ao,ap,rfl,rfl⟩
 intro fq vW
 refine cF Z fq (Zi (zx (zI (rR fL2 Z (oR Z (ZG (za Z pk Z) (congrArg (jV) vz.out)) (oM Z Z (zg ?_)))))))
 have q:=nH vW
 obtain rfl:=q
 exact zI ⟨Z,_,Z,⟨fb,Z,pg,ph,fC,jx,jy,pj,(mj.trans wn),fO,sD,sE⟩⟩
 rintro ⟨my,mz,wB⟩ Ap xc ⟨gO,sd,xA,xB,jz,pn,po,pp,xZ,lG,xR,xS⟩ va
 have lU:=wCE fZ fQ va
 try dsimp only at lU
 have n5:Hid (¬ ((↑((w64 ((↑(p0.number.length):Int) + 1):Int) - 0).toNat:Int) < (w64 ((↑(p0.number.length):Int) + 1)))):=zM (wAf)
 refine sR fL1 Z (oR Z (zY Z sd pp) (eN (zL (cF Z n5 (Zd (zn (zn (ZV (zI (sR (.fl 0 (.fl 1 (.fx 2 (.fl 3 (.fl 4 .nil)) .stop))) Z ?_))))))))))
 let cq:List Value:=[.slice am my.length an,.slice ao mz.length ap]
 refine oL Z (lG.ldBA (j:=5) Z Z pn Tryz.isAgg118 Zp (vs:=cq) Z Z) (oM Z po (zX (j:=0) (vs:=cq) Z Z Z Z lG Z jz Z Z Zp (zA Z) Z Z Z ?_))
 intro mT uu
 have lH:SW w [B1,.obj aa (.map ac ae)] U gO [.blk b4 118 cq,B1,.obj aa (.map ac ae),.row am an 3 1 (hD KL.encI my),.row ao ap 3 1 (hD KL.encI mz),.blk b8 118 cq] mT:=uu
 refine oA Z Z (oA Z Z (eN (zR ?_)))
 cases lU
 exact ⟨rfl,_,(wEH (rs:=[.cell 6 118,.tmp 7,.tmp 8]) (vs:=[.agg cq.toArray,jV wB,.bool false]) ⟨⟨_,jz,(wBN Tryz.isAgg118 Zp (lH.blkAt (k:=0) rfl) (vs:=cq) rfl rfl)⟩,⟨rfl,⟨rfl,trivial⟩⟩⟩ rfl),gO,_,(lH.pick [3,4,1,2] _ (by decide) rfl),am,an,ao,ap,rfl,rfl⟩
end Go.Proofs.YtkghaiefcjgfkaaGreat
namespace Go.Proofs.YtkghaiefcjgfkaaGreat
open Go.KL
set_option maxHeartbeats 4000000
theorem wCH (p0:wAh) (ak:Nat) (af:Option Addr) (am:Nat) (ag:Option Addr) (an:Nat) (ah:Option Addr) (ao:Nat) (ai:Option Addr) (ap:Nat) (ab:Nat) (ac:Array MapEntry) (ae:Nat) (aj:Option Addr) (aq:Nat) (w:World) (U:PHeap) (hS:St0 w U [.blk ak 124 [.slice af p0.Race.Starts.length am,.slice ag p0.Race.Splits.length an,.slice ah p0.Race.Clocks.length ao,.slice ai p0.Race.Readings.length ap,.map (some ab),.slice aj p0.edges.length aq],.obj ab (.map ac ae)]) (bg:Sl U 1 af am p0.Race.Starts.length (hD KL.encI p0.Race.Starts)) (bh:Sl U 2 ag an p0.Race.Splits.length (hD wAF p0.Race.Splits)) (bi:Sl U 3 ah ao p0.Race.Clocks.length (hD wAA p0.Race.Clocks)) (bj:Sl U 4 ai ap p0.Race.Readings.length (hD wAB p0.Race.Readings)) (bk:MpR ac wBL wBO p0.number) (bm:Sl U 7 aj aq p0.edges.length (hD wAR p0.edges)) {r:Bool} (hm:wAy p0=some r):Gv Tryz.prog 66 [.pointer (some ⟨ak,0,none⟩)] w (wBa w [.blk ak 124 [.slice af p0.Race.Starts.length am,.slice ag p0.Race.Splits.length an,.slice ah p0.Race.Clocks.length ao,.slice ai p0.Race.Readings.length ap,.map (some ab),.slice aj p0.edges.length aq],.obj ab (.map ac ae)] U (fun U_ L_ v=>v=.bool r/\L_=[.blk ak 124 [.slice af p0.Race.Starts.length am,.slice ag p0.Race.Splits.length an,.slice ah p0.Race.Clocks.length ao,.slice ai p0.Race.Readings.length ap,.map (some ab),.slice aj p0.edges.length aq],.obj ab (.map ac ae)])):=by
 unfold wAy at hm
 refine Gv.of Tryz.func66 Z Tryz.ntmps66 Tryz.results66 Z (sR fL1 Z (oA Z Z (eN (sR (.fl 0 (.fx 1 (wNM (.fx 6 gCj .stop)) .stop)) Z (oM Z Z ?_)))))
 have q:=bnd hm
 obtain ⟨⟨x3,x4,x5⟩,h6,aZ⟩:=q
 try dsimp only at aZ
 refine zH 2 Z Z Z Z (zG Z Z yh (zB Z (zB Z (zB Z zO))) Z) hS (fun hs=>wAk p0 ak af am ag an ah ao ai ap ab ac ae aj aq (-1) false w U hs bg bh bi bj bk bm h6) (.inl Z) ?_
 rintro U8 L9 bs a6 br bb ⟨ax,aU,ay,aV,rfl,rfl⟩
 let B0:Res:=.blk ak 124 [.slice af p0.Race.Starts.length am,.slice ag p0.Race.Splits.length an,.slice ah p0.Race.Clocks.length ao,.slice ai p0.Race.Readings.length ap,.map (some ab),.slice aj p0.edges.length aq]
 let B1:Res:=.row ax aU 3 1 (hD KL.encI x3.far)
 let B2:Res:=.row ay aV 3 1 (hD KL.encI x3.by_)
 have bc:SW w [B0,.obj ab (.map ac ae)] U U8 [B1,B2,B0,.obj ab (.map ac ae)] a6:=bb
 refine oM Z Z (oR Z (zV Z Z (v:=.agg #[.slice ax x3.far.length aU,.slice ay x3.by_.length aV]) Z) (oR Z (zV Z Z (v:=jV x4) Z) (oR Z (zV Z Z (v:=.bool x5) Z) (zW (cs:=[.slice none 0 0,.slice none 0 0]) Z Z Z Z Z Zf Z bc ?_))))
 intro bq a8 bd
 let B3:List Value:=[.slice ax x3.far.length aU,.slice ay x3.by_.length aV]
 refine zX (j:=0) (vs:=B3) Z Z Z Z bd Z Z Z Z Zp (zA Z) Z Z Z ?_
 intro a7 be
 have bf:SW w [B0,.obj ab (.map ac ae)] U U8 [.blk a8 118 B3,B1,B2,B0,.obj ab (.map ac ae)] a7:=be
 refine oA Z Z (oA Z Z (eN (sR fL2 Z (oM Z Z (oA Z Z (eN (zR ?_)))))))
 have hE:=nH aZ;first | subst r | cases hE
 exact ⟨rfl,_,(ZH rfl),U8,_,(bf.pick [3,4] _ (by decide) rfl),rfl,rfl⟩
theorem wEa (p0:wAE) (am:Option Addr) (aq:Nat) (an:Option Addr) (au:Nat) (ao:Option Addr) (av:Nat) (ap:Option Addr) (ax:Nat) (p1:List wAP) (a7:Option Addr) (a8:Nat) (w:World) (U:PHeap) (hS:St0 w U []) (bt:Sl U 1 am aq p0.Starts.length (hD KL.encI p0.Starts)) (bu:Sl U 2 an au p0.Splits.length (hD wAF p0.Splits)) (bv:Sl U 3 ao av p0.Clocks.length (hD wAA p0.Clocks)) (bw:Sl U 4 ap ax p0.Readings.length (hD wAB p0.Readings)) (bP:Sl U 2 a7 a8 p1.length (hD wAU p1)) {r:(Option wAh) × Int} (hm:wCe p0 p1=some r):Gv Tryz.prog 46 [.agg #[.slice am p0.Starts.length aq,.slice an p0.Splits.length au,.slice ao p0.Clocks.length av,.slice ap p0.Readings.length ax],.slice a7 p1.length a8] w (wBa w [] U (fun U_ L_ v=>match r.1 with | none=>v=.tuple #[.pointer none,jV r.2]/\L_=[] | some d=>∃ (b0:Nat) (A0p00:Option Addr) (c0p00:Nat) (A0p01:Option Addr) (c0p01:Nat) (A0p02:Option Addr) (c0p02:Nat) (A0p03:Option Addr) (c0p03:Nat) (m0p1:Nat) (es0p1:Array MapEntry) (ck0p1:Nat) (A0p2:Option Addr) (c0p2:Nat),v=.tuple #[.pointer (some ⟨b0,0,none⟩),jV r.2]/\L_=[.blk b0 124 [.slice A0p00 d.Race.Starts.length c0p00,.slice A0p01 d.Race.Splits.length c0p01,.slice A0p02 d.Race.Clocks.length c0p02,.slice A0p03 d.Race.Readings.length c0p03,.map (some m0p1),.slice A0p2 d.edges.length c0p2],.obj m0p1 (.map es0p1 ck0p1)]/\Sl U_ 1 A0p00 c0p00 d.Race.Starts.length (hD KL.encI d.Race.Starts)/\Sl U_ 2 A0p01 c0p01 d.Race.Splits.length (hD wAF d.Race.Splits)/\Sl U_ 3 A0p02 c0p02 d.Race.Clocks.length (hD wAA d.Race.Clocks)/\Sl U_ 4 A0p03 c0p03 d.Race.Readings.length (hD wAB d.Race.Readings)/\MpR es0p1 wBL wBO d.number/\Sl U_ 7 A0p2 c0p2 d.edges.length (hD wAR d.edges))):=by
 unfold wCe at hm
 refine Gv.of Tryz.func46 Z Tryz.ntmps46 Tryz.results46 Z (sR gCi Z ?_)
 let B0:List Value:=[.slice am p0.Starts.length aq,.slice an p0.Splits.length au,.slice ao p0.Clocks.length av,.slice ap p0.Readings.length ax]
 refine ZC (cs:=B0) rfl rfl rfl rfl rfl rfl (by rfl) hS ?_
 intro W1 b2 bM
 refine oA Z Z (oA Z Z (eN (sR (.fl 0 (.fx 1 (wHD (.nil)) .stop)) Z (oL Z (bM.ldBA (j:=0) Z Z Z zz zh (vs:=B0) Z Z) ?_))))
 have q:=bnd hm
 obtain ⟨⟨x5,x6⟩,h7,ay⟩:=q
 try dsimp only at ay
 refine zH 0 Z Z Z Z (zG Z Z Tryz.call64 (zB Z zO) Z) bM (fun hs=>wEZ p0 am aq an au ao av ap ax W1 U hs bt bu bv bw h7) (.inr Z) ?_
 rintro U9 de dn aW ac bL bJ
 rcases x5 with _ | ae
 try dsimp only at ay
 obtain ⟨rfl,rfl⟩:=bJ
 have br:sW w U U9 [.blk b2 45 B0] aW:=bL
 refine oM Z Z (oR Z (zV Z Z (v:=.pointer none) Z) (oR Z (zV Z Z (v:=jV x6) Z) (oA Z Z (oA Z Z (eN (zL (zb (sR fL3 Z (oM Z Z (oR Z (Zk Z Z Z) (oA Z Z (eN (ifc ay ?_ ?_)))))))))))))
 intro bn cV
 refine zy (ZM (fun h=>h bn.out)) (sR (wCv gCm) Z (oM Z Z (oL Z (br.ldBA (j:=0) Z Z Z zz zh (vs:=B0) Z Z) (oR Z (YD Z (zB Z zO) zO) ?_))))
 have cc:=bP.le ac
 have cd:=bt.le ac
 have cg:=bu.le ac
 have ci:=bv.le ac
 have cj:=bw.le ac
 have cI:FnOK Tryz.prog U9 (.func (.func 59) #[.agg B0.toArray] #[]) wMk wMl (fun x=>wAn p0 x):=⟨59,[.agg B0.toArray],[],rfl,Tryz.call59,fun U1 w1 x y vs le hs ha hm=>by obtain rfl:=ha;exact wCj p0 am aq an au ao av ap ax x w1 U1 hs (cd.le le) (cg.le le) (ci.le le) (cj.le le) hm⟩
 refine bnK cV fun dr cm cW=>zH 0 Z Z Z Z (zG Z Z Tryz.call71 (zB Z (zB Z zO)) Z) br (fun hs=>wDa p1 a7 a8 (fun x=>wAn p0 x) (.func (.func 59) #[.agg B0.toArray] #[]) aW U9 hs cc cI cm) (.inr Z) ?_
 rintro bA dg dp bV di cL ⟨rfl,rfl⟩
 have cM:sW w U bA [.blk b2 45 B0] bV:=cL
 refine oR Z (ZW Z Z) (oA Z Z (eN (ifc cW ?_ ?_)))
 intro bo cX
 refine zy (nC bo.out) (sR gCs Z (oM Z Z ?_))
 cases cX
 intro bo cY
 refine ZJ (nF (bo.out)) (sR fL2 Z (oA Z Z (oA Z Z (eN (zR (zd (zS ?_)))))))
 cases cY
 exact ⟨rfl,_,(wEF rfl rfl),bA,_,(cM.pick [] _ (by decide) rfl),rfl,rfl⟩
 intro bn cZ
 refine cT Z bn (sR fL3 Z (oM Z Z (oA Z Z (oA Z Z (eN (zR (zd (zS ?_))))))))
 cases cZ
 exact ⟨rfl,_,(wEF rfl rfl),U9,_,(br.pick [] _ (by decide) rfl),rfl,rfl⟩
 try dsimp only at ay
 obtain ⟨aX,ba,bi,bb,bj,bc,bk,bd,bm,ag,aj,ai,aU,aY,rfl,rfl,co,cp,cq,cr,bE⟩:=bJ
 let B1:Res:=.blk aX 124 [.slice ba ae.Race.Starts.length bi,.slice bb ae.Race.Splits.length bj,.slice bc ae.Race.Clocks.length bk,.slice bd ae.Race.Readings.length bm,.map (some ag),.slice aU ae.edges.length aY]
 let B2:Res:=.row aU aY 151 7 (hD wAR ae.edges)
 have bs:sW w U U9 [B1,.obj ag (.map aj ai),B2,.blk b2 45 B0] aW:=bL
 refine oM Z Z (oR Z (zV Z Z (v:=.pointer (some ⟨aX,0,none⟩)) Z) (oR Z (zV Z Z (v:=jV x6) Z) (oA Z Z (oA Z Z (eN (zL (zb (sR fL3 Z (oM Z Z (oR Z (Zk Z Z Z) (oA Z Z (eN (ifc ay ?_ ?_)))))))))))))
 intro bp c6
 refine zy (ZM (fun h=>h bp.out)) (sR (wCv gCm) Z (oM Z Z (oL Z (bs.ldBA (j:=3) Z Z Z zz zh (vs:=B0) Z Z) (oR Z (YD Z (zB Z zO) zO) ?_))))
 have cu:=bP.le ac
 have cw:=bt.le ac
 have cx:=bu.le ac
 have cy:=bv.le ac
 have cz:=bw.le ac
 have cJ:FnOK Tryz.prog U9 (.func (.func 59) #[.agg B0.toArray] #[]) wMk wMl (fun x=>wAn p0 x):=⟨59,[.agg B0.toArray],[],rfl,Tryz.call59,fun U1 w1 x y vs le hs ha hm=>by obtain rfl:=ha;exact wCj p0 am aq an au ao av ap ax x w1 U1 hs (cw.le le) (cx.le le) (cy.le le) (cz.le le) hm⟩
 refine bnK c6 fun dt cB c8=>zH 0 Z Z Z Z (zG Z Z Tryz.call71 (zB Z (zB Z zO)) Z) bs (fun hs=>wDa p1 a7 a8 (fun x=>wAn p0 x) (.func (.func 59) #[.agg B0.toArray] #[]) aW U9 hs cu cJ cB) (.inr Z) ?_
 rintro bB dh dq bg aZ cN ⟨rfl,rfl⟩
 have bN:sW w U bB [B1,.obj ag (.map aj ai),B2,.blk b2 45 B0] bg:=cN
 refine oR Z (ZW Z Z) (oA Z Z (eN (ifc c8 ?_ ?_)))
 intro bq da
 refine zy (nC bq.out) (sR gCs Z (oM Z Z ?_))
 have q:=bN.freezeR (k:=2) (n:=ae.edges.length) rfl (wAC (f:=wAR) (sz:=7) (fun _=>rfl) ae.edges) (by decide)
 obtain ⟨bC,a6,bQ,cO⟩:=q
 have cP:sW w U bC [B1,.obj ag (.map aj ai),.blk b2 45 B0] bg:=cO
 have cC:=co.le aZ
 have bF:=cC.le a6
 have cD:=cp.le aZ
 have bG:=cD.le a6
 have cE:=cq.le aZ
 have bH:=cE.le a6
 have cG:=cr.le aZ
 have bI:=cG.le a6
 refine bnK da fun du cH db=>zH 2 Z Z Z Z (zG Z Z Tryz.call66 (zB Z zO) Z) cP (fun hs=>wCH ae aX ba bi bb bj bc bk bd bm ag aj ai aU aY bg bC hs bF bG bH bI bE bQ cH) (.inl Z) ?_
 rintro bf df dm bU az cK ⟨rfl,rfl⟩
 have bK:sW w U bf [B1,.obj ag (.map aj ai),.blk b2 45 B0] bU:=cK
 refine oR Z (ZW Z Z) (oA Z Z (eN (ifc db ?_ ?_)))
 intro bh cQ
 refine zy (nC bh.out) (Zi (zx (zI (sR fL3 Z (oM Z Z (oA Z Z (oA Z Z (eN (zR ?_)))))))))
 have bW:=bF.le az
 have bX:=bG.le az
 have bY:=bH.le az
 have bZ:=bI.le az
 have ca:=bQ.le az
 cases cQ
 exact ⟨rfl,_,(wEF rfl rfl),bf,_,(bK.pick [0,1] _ (by decide) rfl),aX,ba,bi,bb,bj,bc,bk,bd,bm,ag,aj,ai,aU,aY,rfl,rfl,bW,bX,bY,bZ,bE,ca⟩
 intro bh cR
 refine ZJ (nF (bh.out)) (sR fL2 Z (oA Z Z (oA Z Z (eN (zR (zd (zS ?_)))))))
 cases cR
 exact ⟨rfl,_,(wEF rfl rfl),bf,_,(bK.pick [] _ (by decide) rfl),rfl,rfl⟩
 intro bq cS
 refine ZJ (nF (bq.out)) (sR fL2 Z (oA Z Z (oA Z Z (eN (zR (zd (zS ?_)))))))
 cases cS
 exact ⟨rfl,_,(wEF rfl rfl),bB,_,(bN.pick [] _ (by decide) rfl),rfl,rfl⟩
 intro bp cU
 refine cT Z bp (sR fL3 Z (oM Z Z (oA Z Z (oA Z Z (eN (zR (zd (zS ?_))))))))
 cases cU
 exact ⟨rfl,_,(wEF rfl rfl),U9,_,(bs.pick [] _ (by decide) rfl),rfl,rfl⟩
theorem wCb (p0:wAP) (w:World) (U:PHeap) (hS:St0 w U [])  {r:wAH} (hm:wCK p0=some r):Gv Tryz.prog 48 [.agg #[jV p0.Skier,jV p0.Mat]] w (wBa w [] U (fun U_ L_ v=>v=.agg #[jV r.skier,jV r.mat]/\L_=[])):=by
 unfold wCK at hm
 refine Gv.of Tryz.func48 Z Tryz.ntmps48 Tryz.results48 Z (sR gBy Z ?_)
 let B0:List Value:=[jV p0.Skier,jV p0.Mat]
 refine ZC (cs:=B0) rfl rfl rfl rfl rfl rfl (by rfl) hS ?_
 intro W1 b2 aj
 refine zW (cs:=[jV 0,jV 0]) Z Z Z Z Z zf Z aj ?_
 intro W5 b6 ac
 refine eN (sR (wHC (.fx 5 .nil .stop)) Z (oR Z (zJ Z Z Tryz.runUnderlying62 Z zD) (oL Z (ac.ldB (j:=1) Z Z Z zF (v:=jV p0.Skier) Z) (oR Z (zJ Z Z Tryz.runUnderlying62 Z zD) (oL Z (ac.ldB (j:=1) Z Z Z zF (v:=jV p0.Mat) Z) (oR Z (zu (pv:=[(0,jV p0.Skier),(1,jV p0.Mat)]) (z:=[jV 0,jV 0]) (cs:=B0) Z (wAD Z (wAD Z wAM)) zf wBY Z Z) (zX (j:=0) (vs:=B0) Z Z Z Z ac Z Z Z Z zK (zA Z) Z Z Z ?_)))))))
 intro W9 ai
 have ae:sW w U U [.blk b6 115 B0,.blk b2 62 B0] W9:=ai
 refine eN (zR ?_)
 cases hm
 exact ⟨rfl,_,(wHx (v:=.agg B0.toArray) ⟨⟨_,rfl,(wBN zk zK (ae.blkAt (k:=0) rfl) (vs:=B0) rfl rfl)⟩,trivial⟩),U,_,(ae.pick [] _ (by decide) rfl),rfl,rfl⟩
theorem wEJ (p0:wAh) (av:Nat) (aU:Option Addr) (aZ:Nat) (aV:Option Addr) (a6:Nat) (aW:Option Addr) (a7:Nat) (aX:Option Addr) (a8:Nat) (ab:Nat) (ac:Array MapEntry) (ae:Nat) (aY:Option Addr) (ba:Nat) (p1:wAH) (p2:wAH) (w:World) (U:PHeap) (hS:St0 w U [.blk av 124 [.slice aU p0.Race.Starts.length aZ,.slice aV p0.Race.Splits.length a6,.slice aW p0.Race.Clocks.length a7,.slice aX p0.Race.Readings.length a8,.map (some ab),.slice aY p0.edges.length ba],.obj ab (.map ac ae)]) (bR:Sl U 1 aU aZ p0.Race.Starts.length (hD KL.encI p0.Race.Starts)) (bS:Sl U 2 aV a6 p0.Race.Splits.length (hD wAF p0.Race.Splits)) (bU:Sl U 3 aW a7 p0.Race.Clocks.length (hD wAA p0.Race.Clocks)) (bV:Sl U 4 aX a8 p0.Race.Readings.length (hD wAB p0.Race.Readings)) (bb:MpR ac wBL wBO p0.number) (bW:Sl U 7 aY ba p0.edges.length (hD wAR p0.edges)) {r:wAI} (hm:wBh p0 p1 p2=some r):Gv Tryz.prog 47 [.pointer (some ⟨av,0,none⟩),.agg #[jV p1.skier,jV p1.mat],.agg #[jV p2.skier,jV p2.mat]] w (wBa w [.blk av 124 [.slice aU p0.Race.Starts.length aZ,.slice aV p0.Race.Splits.length a6,.slice aW p0.Race.Clocks.length a7,.slice aX p0.Race.Readings.length a8,.map (some ab),.slice aY p0.edges.length ba],.obj ab (.map ac ae)] U (fun U_ L_ v=>v=.agg #[jV r.Lo,jV r.Hi]/\L_=[.blk av 124 [.slice aU p0.Race.Starts.length aZ,.slice aV p0.Race.Splits.length a6,.slice aW p0.Race.Clocks.length a7,.slice aX p0.Race.Readings.length a8,.map (some ab),.slice aY p0.edges.length ba],.obj ab (.map ac ae)])):=by
 unfold wBh at hm
 refine Gv.of Tryz.func47 Z Tryz.ntmps47 Tryz.results47 Z (sR (.fx 0 gBz .stop) Z ?_)
 let B0:List Value:=[jV p1.skier,jV p1.mat]
 refine ZC (cs:=B0) rfl rfl rfl rfl rfl rfl (by rfl) hS ?_
 intro W3 b4 d5
 let B1:List Value:=[jV p2.skier,jV p2.mat]
 refine ZC (cs:=B1) rfl rfl rfl rfl rfl rfl (by rfl) d5 ?_
 intro W7 b8 eA
 let B2:List Value:=[jV 0,jV 0]
 refine zW (cs:=B2) Z Z Z Z Z ZQ Z eA ?_
 intro cG ai dM
 refine eN ?_
 have q:=bnd hm
 obtain ⟨⟨az,bY⟩,eJ,c6⟩:=q
 try dsimp only at c6
 let B3:Res:=.blk av 124 [.slice aU p0.Race.Starts.length aZ,.slice aV p0.Race.Splits.length a6,.slice aW p0.Race.Clocks.length a7,.slice aX p0.Race.Readings.length a8,.map (some ab),.slice aY p0.edges.length ba]
 refine yW (fun σ_ w_=>∃ (U_:PHeap) (bp:Nat) (bg:Option Addr) (bi:Nat) (bn:Option Addr) (br:Nat),σ_ 0=.pointer (some ⟨av,0,none⟩)/\σ_ 4=.pointer (some ⟨b4,0,none⟩)/\σ_ 5=.pointer (some ⟨b8,0,none⟩)/\σ_ 6=.pointer (some ⟨ai,0,none⟩)/\σ_ 7=.pointer (some ⟨bp,0,none⟩)/\PHeap.Le U U_/\SW w [B3,.obj ab (.map ac ae)] U U_ [B3,.obj ab (.map ac ae),.blk ai 37 B2,.blk b8 115 B1,.blk b4 115 B0,.blk bp 118 [.slice bg az.length bi,.slice bn bY.length br],.row bg bi 3 1 (hD KL.encI az),.row bn br 3 1 (hD KL.encI bY)] w_) ?_ ?_
 have q:=bnd eJ
 obtain ⟨⟨ap,db,dd⟩,cV,co⟩:=q
 try dsimp only at co
 refine ZF ZB [3,3,3,3,1,1,1,0,3,3,3,3,2,0,3,3] (wMK (.fx 7 (wIt gCv) (.fx 12 (.fx 7 (wIt gCn) (.stop)) (.stop)))) (by kernel_rfl) ?_
 have bk:=dM.drew
 generalize hw_W54:({ cG with drawn:=cG.drawn + 1 }:World)=cK at bk ⊢
 refine oM Z Z (oM Z Z (oR Z (ZT Z Z) (oR Z (zJ Z Z ZN Z Zz) (oL Z (bk.ldB (j:=3) Z Z Z yD (v:=.map (some ab)) Z) (oL Z (bk.ldBA (j:=2) Z Z Z zk zK (vs:=B0) Z Z) (oL Z (bk.lookup1 (j:=4) (mk:=wBL) (mv:=wBO) (a:=p1) (z:=0) Z Z Z Z (wBE ZO) wCa zt bb) (zw ?_ ?_)))))))
 have d7:SW w [B3,.obj ab (.map ac ae)] U U [B3,.obj ab (.map ac ae),.blk ai 37 B2,.blk b8 115 B1,.blk b4 115 B0] cK:=bk.pick [3,4,0,1,2] _ (by decide) rfl
 refine zH 2 Z Z Z Z (zG Z Z yh (zB Z (zB Z (zB Z zO))) Z) d7 (fun hs=>wAk p0 av aU aZ aV a6 aW a7 aX a8 ab ac ae aY ba (wAv p0.number p1 0) false cK U hs bR bS bU bV bb bW cV) (.inl Z) ?_
 rintro cg eW fm dp eO d9 ⟨bz,bL,bA,bM,rfl,rfl⟩
 let B4:Res:=.row bz bL 3 1 (hD KL.encI ap.far)
 let B5:Res:=.row bA bM 3 1 (hD KL.encI ap.by_)
 have ef:SW w [B3,.obj ab (.map ac ae)] U cg [B4,B5,B3,.obj ab (.map ac ae),.blk ai 37 B2,.blk b8 115 B1,.blk b4 115 B0] dp:=d9
 refine oM Z Z (oR Z (zV Z Z (v:=.agg #[.slice bz ap.far.length bL,.slice bA ap.by_.length bM]) Z) (oR Z (zV Z Z (v:=jV db) Z) (oR Z (zV Z Z (v:=.bool dd) Z) (zW (cs:=[.slice none 0 0,.slice none 0 0]) Z Z Z Z Z Zf Z ef ?_))))
 intro fd cN eh
 let B6:List Value:=[.slice bz ap.far.length bL,.slice bA ap.by_.length bM]
 refine zX (j:=0) (vs:=B6) Z Z Z Z eh Z Z Z Z Zp (zA Z) Z Z Z ?_
 intro dq ep
 have eu:SW w [B3,.obj ab (.map ac ae)] U cg [.blk cN 118 B6,B4,B5,B3,.obj ab (.map ac ae),.blk ai 37 B2,.blk b8 115 B1,.blk b4 115 B0] dq:=ep
 refine oA Z Z (oA Z Z (zg ?_))
 cases co
 exact zI ⟨rfl,⟨cg,cN,bz,bL,bA,bM,rfl,rfl,rfl,rfl,rfl,eO,(eu.pick [3,4,5,6,7,0,1,2] _ (by decide) rfl)⟩⟩
 let B7:List Value:=[.slice none 0 0,.slice none 0 0]
 refine zW (cs:=B7) Z Z Z Z Z Zf Z bk ?_
 intro cL bE ew
 have eB:SW w [B3,.obj ab (.map ac ae)] U U [B3,.obj ab (.map ac ae),.blk bE 118 B7,.blk ai 37 B2,.blk b8 115 B1,.blk b4 115 B0] cL:=ew.pick [4,5,0,1,2,3] _ (by decide) rfl
 refine zH 2 Z Z Z Z (zG Z Z yh (zB Z (zB Z (zB Z zO))) Z) eB (fun hs=>wAk p0 av aU aZ aV a6 aW a7 aX a8 ab ac ae aY ba (wAv p0.number p1 0) false cL U hs bR bS bU bV bb bW cV) (.inl Z) ?_
 rintro ci eX fq dr eQ dH ⟨bs,bF,bt,bG,rfl,rfl⟩
 let B8:Res:=.row bs bF 3 1 (hD KL.encI ap.far)
 let B9:Res:=.row bt bG 3 1 (hD KL.encI ap.by_)
 have dI:SW w [B3,.obj ab (.map ac ae)] U ci [B8,B9,B3,.obj ab (.map ac ae),.blk bE 118 B7,.blk ai 37 B2,.blk b8 115 B1,.blk b4 115 B0] dr:=dH
 refine oM Z Z (oR Z (zV Z Z (v:=.agg #[.slice bs ap.far.length bF,.slice bt ap.by_.length bG]) Z) (oR Z (zV Z Z (v:=jV db) Z) (oR Z (zV Z Z (v:=.bool dd) Z) ?_)))
 let cp:List Value:=[.slice bs ap.far.length bF,.slice bt ap.by_.length bG]
 refine zX (j:=4) (vs:=cp) Z Z Z Z dI Z Z Z Z Zp (zA Z) Z Z Z ?_
 intro de dJ
 have dK:SW w [B3,.obj ab (.map ac ae)] U ci [B8,B9,B3,.obj ab (.map ac ae),.blk bE 118 cp,.blk ai 37 B2,.blk b8 115 B1,.blk b4 115 B0] de:=dJ
 refine oA Z Z (oA Z Z (zg ?_))
 cases co
 exact zI ⟨rfl,⟨ci,bE,bs,bF,bt,bG,rfl,rfl,rfl,rfl,rfl,eQ,(dK.pick [2,3,5,6,7,4,0,1] _ (by decide) rfl)⟩⟩
 rintro ft cH ⟨bB,bp,bg,bi,bn,br,bN,cO,cj,cP,cQ,ax,dL⟩
 have q:=bnd c6
 obtain ⟨⟨ay,bX⟩,eI,cZ⟩:=q
 try dsimp only at cZ
 let bc:Res:=.blk bp 118 [.slice bg az.length bi,.slice bn bY.length br]
 let bd:Res:=.row bg bi 3 1 (hD KL.encI az)
 let be:Res:=.row bn br 3 1 (hD KL.encI bY)
 refine yW (fun σ_ w_=>∃ (U_:PHeap) (bC:Nat) (bf:Option Addr) (bh:Nat) (bm:Option Addr) (bq:Nat),σ_ 0=.pointer (some ⟨av,0,none⟩)/\σ_ 4=.pointer (some ⟨b4,0,none⟩)/\σ_ 5=.pointer (some ⟨b8,0,none⟩)/\σ_ 6=.pointer (some ⟨ai,0,none⟩)/\σ_ 7=.pointer (some ⟨bp,0,none⟩)/\σ_ 10=.pointer (some ⟨bC,0,none⟩)/\PHeap.Le bB U_/\SW w [B3,.obj ab (.map ac ae)] U U_ [B3,.obj ab (.map ac ae),.blk ai 37 B2,.blk b8 115 B1,.blk b4 115 B0,bd,be,bc,.blk bC 118 [.slice bf ay.length bh,.slice bm bX.length bq],.row bf bh 3 1 (hD KL.encI ay),.row bm bq 3 1 (hD KL.encI bX)] w_) ?_ ?_
 have q:=bnd eI
 obtain ⟨⟨ao,c8,da⟩,cU,cm⟩:=q
 try dsimp only at cm
 refine ZF ZB [3,3,3,3,1,1,1,0,3,3,3,3,2,0,3,3] (wMK (.fx 7 (wIt gCv) (.fx 12 (.fx 7 (wIt gCn) (.stop)) (.stop)))) (by kernel_rfl) ?_
 have bj:=dL.drew
 generalize hw_W172:({ cH with drawn:=cH.drawn + 1 }:World)=df at bj ⊢
 refine oM Z bN (oM Z bN (oR Z (ZT Z Z) (oR Z (zJ Z Z ZN Z Zz) (oL Z (bj.ldB (j:=0) Z Z Z yD (v:=.map (some ab)) Z) (oL Z (bj.ldBA (j:=3) Z Z cj zk zK (vs:=B1) Z Z) (oL Z (bj.lookup1 (j:=1) (mk:=wBL) (mv:=wBO) (a:=p2) (z:=0) Z Z Z Z (wBE ZO) wCa zt bb) (zw ?_ ?_)))))))
 have dx:=bR.le ax
 have dy:=bS.le ax
 have dz:=bU.le ax
 have dA:=bV.le ax
 have dB:=bW.le ax
 refine zH 2 Z Z Z Z (zG Z Z yh (zB Z (zB Z (zB Z zO))) Z) bj (fun hs=>wAk p0 av aU aZ aV a6 aW a7 aX a8 ab ac ae aY ba (wAv p0.number p2 0) false df bB hs dx dy dz dA bb dB cU) (.inl Z) ?_
 rintro cc eU fj dg eK dN ⟨bu,bH,bv,bI,rfl,rfl⟩
 let cq:Res:=.row bu bH 3 1 (hD KL.encI ao.far)
 let cr:Res:=.row bv bI 3 1 (hD KL.encI ao.by_)
 have dO:SW w [B3,.obj ab (.map ac ae)] U cc [cq,cr,B3,.obj ab (.map ac ae),.blk ai 37 B2,.blk b8 115 B1,.blk b4 115 B0,bc,bd,be] dg:=dN
 refine oM Z Z (oR Z (zV Z Z (v:=.agg #[.slice bu ao.far.length bH,.slice bv ao.by_.length bI]) Z) (oR Z (zV Z Z (v:=jV c8) Z) (oR Z (zV Z Z (v:=.bool da) Z) (zW (cs:=[.slice none 0 0,.slice none 0 0]) Z Z Z Z Z Zf Z dO ?_))))
 intro eY cM dP
 let cu:List Value:=[.slice bu ao.far.length bH,.slice bv ao.by_.length bI]
 refine zX (j:=0) (vs:=cu) Z Z Z Z dP Z Z Z Z Zp (zA Z) Z Z Z ?_
 intro dh dQ
 have dR:SW w [B3,.obj ab (.map ac ae)] U cc [.blk cM 118 cu,cq,cr,B3,.obj ab (.map ac ae),.blk ai 37 B2,.blk b8 115 B1,.blk b4 115 B0,bc,bd,be] dh:=dQ
 refine oA Z Z (oA Z Z (zg ?_))
 cases cm
 exact zI ⟨rfl,⟨cc,cM,bu,bH,bv,bI,bN,cO,cj,cP,cQ,rfl,eK,(dR.pick [3,4,5,6,7,9,10,8,0,1,2] _ (by decide) rfl)⟩⟩
 let bZ:List Value:=[.slice none 0 0,.slice none 0 0]
 refine zW (cs:=bZ) Z Z Z Z Z Zf Z bj ?_
 intro cI bD dS
 have dC:=bR.le ax
 have dD:=bS.le ax
 have dE:=bU.le ax
 have dF:=bV.le ax
 have dG:=bW.le ax
 have dT:SW w [B3,.obj ab (.map ac ae)] U bB [B3,.obj ab (.map ac ae),.blk bD 118 bZ,.blk ai 37 B2,.blk b8 115 B1,.blk b4 115 B0,bc,bd,be] cI:=dS.pick [1,2,0,3,4,5,6,7,8] _ (by decide) rfl
 refine zH 2 Z Z Z Z (zG Z Z yh (zB Z (zB Z (zB Z zO))) Z) dT (fun hs=>wAk p0 av aU aZ aV a6 aW a7 aX a8 ab ac ae aY ba (wAv p0.number p2 0) false cI bB hs dC dD dE dF bb dG cU) (.inl Z) ?_
 rintro cd eV fk di eM dU ⟨bw,bJ,bx,bK,rfl,rfl⟩
 let cw:Res:=.row bw bJ 3 1 (hD KL.encI ao.far)
 let cx:Res:=.row bx bK 3 1 (hD KL.encI ao.by_)
 have dV:SW w [B3,.obj ab (.map ac ae)] U cd [cw,cx,B3,.obj ab (.map ac ae),.blk bD 118 bZ,.blk ai 37 B2,.blk b8 115 B1,.blk b4 115 B0,bc,bd,be] di:=dU
 refine oM Z Z (oR Z (zV Z Z (v:=.agg #[.slice bw ao.far.length bJ,.slice bx ao.by_.length bK]) Z) (oR Z (zV Z Z (v:=jV c8) Z) (oR Z (zV Z Z (v:=.bool da) Z) ?_)))
 let cy:List Value:=[.slice bw ao.far.length bJ,.slice bx ao.by_.length bK]
 refine zX (j:=4) (vs:=cy) Z Z Z Z dV Z Z Z Z Zp (zA Z) Z Z Z ?_
 intro dm dW
 have dX:SW w [B3,.obj ab (.map ac ae)] U cd [cw,cx,B3,.obj ab (.map ac ae),.blk bD 118 cy,.blk ai 37 B2,.blk b8 115 B1,.blk b4 115 B0,bc,bd,be] dm:=dW
 refine oA Z Z (oA Z Z (zg ?_))
 cases cm
 exact zI ⟨rfl,⟨cd,bD,bw,bJ,bx,bK,bN,cO,cj,cP,cQ,rfl,eM,(dX.pick [2,3,5,6,7,9,10,8,4,0,1] _ (by decide) rfl)⟩⟩
 rintro fu cJ ⟨cE,bC,bf,bh,bm,bq,cR,dt,du,cS,dv,dw,fh,dY⟩
 refine zL (ZF ZB [3,1,3,3,3,1,1,1,3,1,3,3,1,3,3,3,1,1,1,3,1,3,0] (wOV (.fx 22 .nil .stop)) (by kernel_rfl) ?_)
 have an:=dY.drew
 generalize hw_W258:({ cJ with drawn:=cJ.drawn + 1 }:World)=eZ at an ⊢
 refine oR Z (zJ Z dw Zc Z zZ) (oL Z (an.ldB (j:=8) Z Z Z zj (v:=.slice bf ay.length bh) Z) (oM Z cR (oR Z (ZT Z Z) (oR Z (zJ Z Z ZN Z Zz) (oL Z (an.ldB (j:=0) Z Z Z yD (v:=.map (some ab)) Z) (oL Z (an.ldBA (j:=4) Z Z dt zk zK (vs:=B0) Z Z) (oL Z (an.lookup1 (j:=1) (mk:=wBL) (mv:=wBO) (a:=p1) (z:=0) Z Z Z Z (wBE ZO) wCa zt bb) (bnK cZ fun _ bP eG=>?_))))))))
 obtain ⟨ff,cW⟩:=an.rowSome (j:=9) rfl (by rw [wAC (f:=KL.encI) (sz:=1) (fun _=>rfl) ay];have hz:=wAY bP;omega)
 refine oR Z (Ze Z Z cW Z zC zD (wCC bP) (wCD bP)) ?_
 have eD:=wBb (xs:=ay) (wAY bP)
 refine ZE rfl rfl rfl rfl (an.ldR (j:=9) rfl cW rfl rfl zF (wAa (sz:=1) (fun _=>rfl) _ _ 0 _ eD (by first | omega | rfl | simp) rfl)) rfl (ze rfl rfl rfl rfl (fun _=>Runs.negw rfl rfl) (ze rfl rfl rfl rfl (fun _=>zJ rfl dv Zc rfl zZ) (ZE rfl rfl rfl rfl (an.ldB (j:=7) rfl rfl rfl zj (v:=.slice bg az.length bi) rfl) rfl (zm rfl rfl rfl rfl rfl cR (ze rfl rfl rfl rfl (fun _=>ZT rfl rfl) (ze rfl rfl rfl rfl (fun _=>zJ rfl rfl ZN rfl Zz) (ZE rfl rfl rfl rfl (an.ldB (j:=0) rfl rfl rfl yD (v:=.map (some ab)) rfl) rfl (ZE rfl rfl rfl rfl (an.ldBA (j:=3) rfl rfl du zk zK (vs:=B1) rfl rfl) rfl (ZE rfl rfl rfl rfl (an.lookup1 (j:=1) (mk:=wBL) (mv:=wBO) (a:=p2) (z:=0) rfl rfl rfl rfl (wBE ZO) wCa zt bb) rfl (bnK eG fun _ bQ eH=>?_))))))))))
 obtain ⟨fg,cX⟩:=an.rowSome (j:=5) rfl (by rw [wAC (f:=KL.encI) (sz:=1) (fun _=>rfl) az];have hz:=wAY bQ;omega)
 refine oR Z (Ze Z Z cX Z zC zD (wCC bQ) (wCD bQ)) ?_
 have eF:=wBb (xs:=az) (wAY bQ)
 refine ZE rfl rfl rfl rfl (an.ldR (j:=5) rfl cX rfl rfl zF (wAa (sz:=1) (fun _=>rfl) _ _ 0 _ eF (by first | omega | rfl | simp) rfl)) rfl ?_
 let bo:List Value:=[jV (w64 (-(gd ay (wAv p0.number p1 0).toNat))),jV (gd az (wAv p0.number p2 0).toNat)]
 refine oR Z (zu (pv:=[(0,jV (w64 (-(gd ay (wAv p0.number p1 0).toNat)))),(1,jV (gd az (wAv p0.number p2 0).toNat))]) (z:=B2) (cs:=bo) Z (wAD Z (wAD Z wAM)) ZQ wCU Z Z) (zX (j:=2) (vs:=bo) Z Z Z Z an Z cS Z Z ZD (zA Z) Z Z Z ?_)
 intro dn dZ
 have cY:SW w [B3,.obj ab (.map ac ae)] U cE [B3,.obj ab (.map ac ae),.blk ai 37 bo,.blk b8 115 B1,.blk b4 115 B0,bd,be,bc,.blk bC 118 [.slice bf ay.length bh,.slice bm bX.length bq],.row bf bh 3 1 (hD KL.encI ay),.row bm bq 3 1 (hD KL.encI bX)] dn:=dZ
 refine eN (zR ?_)
 cases eH
 exact ⟨rfl,_,(wHx (v:=.agg bo.toArray) ⟨⟨_,cS,(wBN yE ZD (cY.blkAt (k:=2) rfl) (vs:=bo) rfl rfl)⟩,trivial⟩),cE,_,(cY.pick [0,1] _ (by decide) rfl),rfl,rfl⟩
theorem wGg (p0:wAE) (aU:Option Addr) (aY:Nat) (aV:Option Addr) (aZ:Nat) (aW:Option Addr) (a6:Nat) (aX:Option Addr) (a7:Nat) (p1:wAP) (w:World) (U:PHeap) (hS:St0 w U []) (cY:Sl U 1 aU aY p0.Starts.length (hD KL.encI p0.Starts)) (cZ:Sl U 2 aV aZ p0.Splits.length (hD wAF p0.Splits)) (c6:Sl U 3 aW a6 p0.Clocks.length (hD wAA p0.Clocks)) (c8:Sl U 4 aX a7 p0.Readings.length (hD wAB p0.Readings)) {r:wAI × Int} (hm:wEW p0 p1=some r):Gv Tryz.prog 34 [.agg #[.slice aU p0.Starts.length aY,.slice aV p0.Splits.length aZ,.slice aW p0.Clocks.length a6,.slice aX p0.Readings.length a7],.agg #[jV p1.Skier,jV p1.Mat]] w (wBa w [] U (fun U_ L_ v=>v=.tuple #[.agg #[jV r.1.Lo,jV r.1.Hi],jV r.2]/\L_=[])):=by
 unfold wEW at hm
 refine Gv.of Tryz.func34 Z Tryz.ntmps34 Tryz.results34 Z (sR (.fx 0 (.fx 1 gCa .stop) .stop) Z ?_)
 let B0:List Value:=[.slice aU p0.Starts.length aY,.slice aV p0.Splits.length aZ,.slice aW p0.Clocks.length a6,.slice aX p0.Readings.length a7]
 refine ZC (cs:=B0) rfl rfl rfl rfl rfl rfl (by rfl) hS ?_
 intro W1 b2 cR
 let B1:List Value:=[jV p1.Skier,jV p1.Mat]
 refine ZC (cs:=B1) rfl rfl rfl rfl rfl rfl (by rfl) cR ?_
 intro W5 b6 cV
 let B2:List Value:=[jV 0,jV 0]
 refine zW (cs:=B2) Z Z Z Z Z ZQ Z cV ?_
 intro W9 af bf
 refine oA Z Z (eN (sR (.fl 0 (.fl 1 (.fx 2 (.fx 3 (wMM (.nil)) .stop) .stop))) Z (oL Z (bf.ldBA (j:=2) Z Z Z zz zh (vs:=B0) Z Z) (oL Z (bf.ldBA (j:=1) Z Z Z Zq ZX (vs:=B1) Z Z) (zo (pv:=[(0,.agg B1.toArray)]) (zs:=B2) (cs:=B1) Z Z Z Z Z (wAD Z wAM) Zu ZX yF Z Z Z Z Z bf ?_)))))
 intro bb bv cN
 have cO:sW w U U [.row (some ⟨bv,0,none⟩) 1 62 2 (hD wAU [p1]),.blk af 37 B2,.blk b6 62 B1,.blk b2 45 B0] bb:=cN
 have q:=cO.freezeR (k:=0) (n:=[p1].length) rfl (wAC (f:=wAU) (sz:=2) (fun _=>rfl) [p1]) (by decide)
 obtain ⟨bp,az,dn,cP⟩:=q
 have cQ:sW w U bp [.blk af 37 B2,.blk b6 62 B1,.blk b2 45 B0] bb:=cP
 have cm:=cY.le az
 have co:=cZ.le az
 have cp:=c6.le az
 have cq:=c8.le az
 have q:=bnd hm
 obtain ⟨⟨dq,a8⟩,cr,au⟩:=q
 try dsimp only at au
 refine zH 0 Z Z Z Z (zG Z Z Tryz.call46 (zB Z (zB Z zO)) Z) cQ (fun hs=>wEa p0 aU aY aV aZ aW a6 aX a7 [p1] (some ⟨bv,0,none⟩) 1 bb bp hs cm co cp cq dn cr) (.inr Z) ?_
 rintro aj dv dK ap dE bF bC
 rcases dq with _ | aq
 try dsimp only at au
 obtain ⟨rfl,rfl⟩:=bC
 have bG:sW w U aj [.blk af 37 B2,.blk b6 62 B1,.blk b2 45 B0] ap:=bF
 refine oM Z Z (oR Z (zV Z Z (v:=.pointer none) Z) (oR Z (zV Z Z (v:=jV a8) Z) (oA Z Z (oA Z Z (eN (zL (sR fL2 Z (oM Z Z (oR Z (Zk Z Z Z) (eN (ifc au ?_ ?_)))))))))))
 intro bd de
 refine zy (ZM (fun h=>h bd.out)) (kN (zL (ZF ZB [3,2,1,2,0,0,3] gDo (by kernel_rfl) ?_)))
 have bg:=bG.drew
 generalize hw_W57:({ ap with drawn:=ap.drawn + 1 }:World)=bP at bg ⊢
 refine oM Z Z (oL Z (bg.ldBA (j:=1) Z Z Z Zq ZX (vs:=B1) Z Z) (bnK de fun dN cu df=>zH 0 Z Z Z Z (zG Z Z yg zO Z) bg (fun hs=>wBm bP aj hs cu) (.inr Z) ?_))
 rintro bq dw dL bu dF cS ⟨rfl,rfl⟩
 have cU:sW w U bq [.blk af 37 B2,.blk b6 62 B1,.blk b2 45 B0] bu:=cS
 refine bnK df fun dO cw dg=>zH 0 Z Z Z Z (zG Z Z yk (zB Z zO) Z) cU (fun hs=>wCb p1 bu bq hs cw) (.inr Z) ?_
 rintro bK dx dM bQ dG cW ⟨rfl,rfl⟩
 have dC:sW w U bK [.blk af 37 B2,.blk b6 62 B1,.blk b2 45 B0] bQ:=cW
 cases dg
 intro bd dh
 refine cT Z bd (sR gCt Z (oR Z (zu (pv:=[]) (z:=B2) (cs:=B2) Z wAM ZQ wCU Z Z) (oM Z Z (zX (j:=0) (vs:=B2) Z Z Z Z bG Z Z Z Z ZD (zA Z) Z Z Z ?_))))
 intro bR cX
 have bH:sW w U aj [.blk af 37 B2,.blk b6 62 B1,.blk b2 45 B0] bR:=cX
 refine oA Z Z (eN (zR (zS ?_)))
 cases dh
 exact ⟨rfl,_,(wEH (rs:=[.cell 4 37,.tmp 5]) (vs:=[.agg B2.toArray,jV a8]) ⟨⟨_,rfl,(wBN yE ZD (bH.blkAt (k:=0) rfl) (vs:=B2) rfl rfl)⟩,⟨rfl,trivial⟩⟩ rfl),aj,_,(bH.pick [] _ (by decide) rfl),rfl,rfl⟩
 try dsimp only at au
 obtain ⟨bc,bi,bw,bj,bx,bk,bz,bm,bA,ak,an,am,bn,bB,rfl,rfl,cx,cy,cz,cA,cB,cC⟩:=bC
 let B3:Res:=.blk bc 124 [.slice bi aq.Race.Starts.length bw,.slice bj aq.Race.Splits.length bx,.slice bk aq.Race.Clocks.length bz,.slice bm aq.Race.Readings.length bA,.map (some ak),.slice bn aq.edges.length bB]
 have bI:sW w U aj [B3,.obj ak (.map an am),.blk af 37 B2,.blk b6 62 B1,.blk b2 45 B0] ap:=bF
 refine oM Z Z (oR Z (zV Z Z (v:=.pointer (some ⟨bc,0,none⟩)) Z) (oR Z (zV Z Z (v:=jV a8) Z) (oA Z Z (oA Z Z (eN (zL (sR fL2 Z (oM Z Z (oR Z (Zk Z Z Z) (eN (ifc au ?_ ?_)))))))))))
 intro be di
 refine zy (ZM (fun h=>h be.out)) (kN (zL (ZF ZB [3,2,1,2,0,0,3] gDo (by kernel_rfl) ?_)))
 have bh:=bI.drew
 generalize hw_W94:({ ap with drawn:=ap.drawn + 1 }:World)=bS at bh ⊢
 refine oM Z Z (oL Z (bh.ldBA (j:=3) Z Z Z Zq ZX (vs:=B1) Z Z) (bnK di fun dr cD dm=>zH 0 Z Z Z Z (zG Z Z yg zO Z) bh (fun hs=>wBm bS aj hs cD) (.inr Z) ?_))
 rintro br dy dH bs av cE ⟨rfl,rfl⟩
 have cG:sW w U br [B3,.obj ak (.map an am),.blk af 37 B2,.blk b6 62 B1,.blk b2 45 B0] bs:=cE
 refine bnK dm fun dp bU da=>zH 0 Z Z Z Z (zG Z Z yk (zB Z zO) Z) cG (fun hs=>wCb p1 bs br hs bU) (.inr Z) ?_
 rintro bo dt dI bt ax cH ⟨rfl,rfl⟩
 have cI:sW w U bo [B3,.obj ak (.map an am),.blk af 37 B2,.blk b6 62 B1,.blk b2 45 B0] bt:=cH
 have bV:=cx.le av
 have bW:=bV.le ax
 have bX:=cy.le av
 have bY:=bX.le ax
 have bZ:=cz.le av
 have ca:=bZ.le ax
 have cc:=cA.le av
 have cd:=cc.le ax
 have cg:=cC.le av
 have ci:=cg.le ax
 refine bnK da fun bJ cj db=>zH 2 Z Z Z Z (zG Z Z Tryz.call47 (zB Z (zB Z (zB Z zO))) Z) cI (fun hs=>wEJ aq bc bi bw bj bx bk bz bm bA ak an am bn bB dr dp bt bo hs bW bY ca cd cB ci cj) (.inl Z) ?_
 rintro ba du dJ bL dD cJ ⟨rfl,rfl⟩
 have cK:sW w U ba [B3,.obj ak (.map an am),.blk af 37 B2,.blk b6 62 B1,.blk b2 45 B0] bL:=cJ
 let B4:List Value:=[jV bJ.Lo,jV bJ.Hi]
 refine zX (j:=2) (vs:=B4) Z Z Z Z cK Z Z Z Z ZD (zA Z) Z Z Z ?_
 intro bM cL
 have bD:sW w U ba [B3,.obj ak (.map an am),.blk af 37 B4,.blk b6 62 B1,.blk b2 45 B0] bM:=cL
 refine oA Z Z (eN (zR ?_))
 cases db
 exact ⟨rfl,_,(wEH (rs:=[.cell 4 37,.tmp 5]) (vs:=[.agg B4.toArray,jV 0]) ⟨⟨_,rfl,(wBN yE ZD (bD.blkAt (k:=2) rfl) (vs:=B4) rfl rfl)⟩,⟨rfl,trivial⟩⟩ rfl),ba,_,(bD.pick [] _ (by decide) rfl),rfl,rfl⟩
 intro be dd
 refine cT Z be (sR gCt Z (oR Z (zu (pv:=[]) (z:=B2) (cs:=B2) Z wAM ZQ wCU Z Z) (oM Z Z (zX (j:=2) (vs:=B2) Z Z Z Z bI Z Z Z Z ZD (zA Z) Z Z Z ?_))))
 intro bN cM
 have bE:sW w U aj [B3,.obj ak (.map an am),.blk af 37 B2,.blk b6 62 B1,.blk b2 45 B0] bN:=cM
 refine oA Z Z (eN (zR (zS ?_)))
 cases dd
 exact ⟨rfl,_,(wEH (rs:=[.cell 4 37,.tmp 5]) (vs:=[.agg B2.toArray,jV a8]) ⟨⟨_,rfl,(wBN yE ZD (bE.blkAt (k:=2) rfl) (vs:=B2) rfl rfl)⟩,⟨rfl,trivial⟩⟩ rfl),aj,_,(bE.pick [] _ (by decide) rfl),rfl,rfl⟩
end Go.Proofs.YtkghaiefcjgfkaaGreat
