import Derived.Test.YtlnfbjphfoipaaaP4
import Derived.Test.YtlnfbjphfoipaaaP3
set_option linter.all false
open List renaming flatMap->hD,getElem_cons_succ->hH,getElem_cons_zero->hJ,getElem_toArray->hU,length_set->nB,set->nD
open Int renaming toNat_natCast->nA,eq_ofNat_of_zero_le->nI
open Option.some renaming inj->nE
open Go.Value renaming bool->nG
open Bool renaming eq_false_iff->nH
namespace Go.Proofs.Ytlnfbjphfoipaaa
open Go.KL
def gBq:Sch:=.fx 1 (.fl 2 .nil) .stop
def gBr:Sch:=.fx 6 (.fx 7 .nil .stop) .stop
def gBs:Sch:=.fx 8 (.fx 9 .nil .stop) .stop
def gBt:Sch:=.fl 7 (.fx 9 .nil .stop)
def gBu:Sch:=.fx 4 (.fx 5 .nil .stop) .stop
def gBv:Sch:=.fx 4 (.fl 5 .nil) .stop
def gBw:Sch:=.fx 7 (.fx 8 .nil .stop) .stop
def gBx:Sch:=.fx 6 (.fx 8 .nil .stop) .stop
def gBy:Sch:=.fx 0 (.fx 1 .nil .stop) .stop
def gBz:Sch:=.fl 14 (.fx 16 .nil .stop)
def gCa:Sch:=.fl 17 (.fx 18 .nil .stop)
def gCb:Sch:=.fx 6 gBt .stop
def gCc:Sch:=.fx 4 gBt .stop
def gCd:Sch:=.fx 1 (.fl 2 (.fl 3 .nil)) .stop
def gCe:Sch:=.fx 2 (.fx 3 (.fl 4 .nil) .stop) .stop
def gCf:Sch:=.fx 3 gBv .stop
def gCg:Sch:=.fl 22 (.fl 23 (.fx 24 .nil .stop))
def gCh:Sch:=.fx 0 (.fl 1 (.fl 2 .nil)) .stop
def gCi:Sch:=.fx 7 (.fl 8 (.fl 9 .nil)) .stop
def gCj:Sch:=.fl 14 (.fx 15 (.fx 16 .nil .stop) .stop)
def gCk:Sch:=.fx 13 gBz .stop
def gCl:Sch:=.fl 7 (.fx 2 gBs .stop)
def gCm:Sch:=.fl 4 (.fl 5 gBx)
def gCn:Sch:=.fx 0 (.fl 5 gBx) .stop
def gCo:Sch:=.fx 21 gCg .stop
def gCp:Sch:=.fl 0 (.fl 1 (.fx 2 (.fl 3 .nil) .stop))
def gCq:Sch:=.fx 7 gCk .stop
def gCr:Sch:=.fx 6 gCi .stop
def gCs:Sch:=.fx 6 (.fl 7 gBs) (.fx 8 gCb .stop)
def gCt:Sch:=.fx 4 (.fl 7 gBs) (.fx 8 gCc .stop)
def gCu:Sch:=.fx 0 (.fx 1 gCe .stop) .stop
def gCv:Sch:=.fl 5 (.fx 6 gBw (.fx 7 gBx .stop))
def gCw:Sch:=.fx 3 gCm .stop
def gCx:Sch:=.fx 13 gCj (.fx 15 gCk .stop)
def gCy:Sch:=.fx 6 (.fl 12 gCk) .stop
def gCz:Sch:=.fx 4 (.fx 16 gCa .stop) (.fx 16 (.fx 4 gCa .stop) .stop)
def gDa:Sch:=.fx 2 gCw .stop
def gDb:Sch:=.fx 1 gCw .stop
def gDc:Sch:=.fx 0 gCy .stop
def gDd:Sch:=.fl 1 (.fl 2 (.fx 0 (.fl 3 gBu) (.fx 4 (.fx 0 (.fl 3 (.fx 5 .nil .stop)) .stop) .stop)))
def gDe:Sch:=.fl 0 (.fl 2 (.fx 1 gCf (.fx 3 (.fx 1 gBv .stop) .stop)))
def gDf:Sch:=.fx 3 (.fl 4 gCv) (.fx 7 gCw .stop)
def gDg:Sch:=.fl 4 (.fx 0 gCv (.fx 7 gCn .stop))
def gDh:Sch:=.fx 0 gCw (.fx 3 (.fl 4 gCn) .stop)
def gDi:Sch:=.fx 6 (.fl 12 gCx) (.fx 15 gCy .stop)
def gDj:Sch:=.fx 6 (.fl 12 gCq) (.fx 7 gCy .stop)
def gDk:Sch:=.fx 2 gDf (.fx 7 gDa .stop)
def gDl:Sch:=.fx 1 gDf (.fx 7 gDb .stop)
def gDm:Sch:=.fx 1 gDa (.fx 2 gDb .stop)
def gDn:Sch:=.fx 0 gDa (.fx 2 gDh .stop)
def gDo:Sch:=.fx 0 gDb (.fx 1 gDh .stop)
def gDp:Sch:=.fx 0 gDf (.fx 3 gDg (.fx 7 gDh .stop))
set_option maxHeartbeats 4000000
theorem wGY (p0:wAC) (ah:Option Addr) (ak:Nat) (ai:Option Addr) (am:Nat) (aj:Option Addr) (an:Nat) (af:Option Addr) (ag:Nat) (p1:wAF) (w:World) (φ:PHeap) (hS:St0 w φ []) (aL:Sl φ 1 ah ak p0.Starts.length (hD KL.encI p0.Starts)) (aM:Sl φ 2 ai am p0.Splits.length (hD wAE p0.Splits)) (aN:Sl φ 3 aj an p0.Clocks.length (hD wAB p0.Clocks)) (aO:Sl φ 4 af ag p0.Readings.length (hD wAA p0.Readings)) {r:Bool} (hm:wCl p0 p1=some r):Gv Try.prog 117 [.agg #[.slice ah p0.Starts.length ak,.slice ai p0.Splits.length am,.slice aj p0.Clocks.length an,.slice af p0.Readings.length ag],.agg #[jV p1.Kind,jV p1.Skier,jV p1.Index,.bool p1.Up]] w (wCF w [] φ (fun φ_ L_ v=>v=.bool r/\L_=[])):=by
 unfold wCl at hm
 refine Gv.of Try.func117 Z Try.ntmps117 Try.results117 Z (sR (.fx 0 gBq .stop) Z ?_)
 let B0:List Value:=[.slice ah p0.Starts.length ak,.slice ai p0.Splits.length am,.slice aj p0.Clocks.length an,.slice af p0.Readings.length ag]
 refine zu (cs:=B0) rfl rfl rfl rfl rfl rfl (by rfl) hS ?_
 intro W1 b2 aH
 let B1:List Value:=[jV p1.Kind,jV p1.Skier,jV p1.Index,.bool p1.Up]
 refine zu (cs:=B1) rfl rfl rfl rfl rfl rfl (by rfl) aH ?_
 intro W5 b6 ae
 refine oA Z Z (eN (sR (wKz (.fx 10 (.fl 11 (.fl 12 .nil)) .stop)) Z (oR Z (zG Z Z zj Z zC) (oL Z (ae.ldB (j:=0) Z Z Z zJ (v:=jV p1.Skier) Z) (oR Z (Zs Z Z Z) (oM Z Z ?_))))))
 by_cases c9:p1.Skier=0
 have aq:=hm;rw [if_pos c9] at aq;replace c9:=zM c9
 refine rU Z (wT Z c9) (zG Z Z zj Z zC) (ZJ Z Z Z (wT Z c9) (ae.ldB (j:=0) Z Z Z zJ (v:=jV p1.Index) Z) Z (rU Z (wT Z c9) (zG Z Z zK Z ZH) (ZJ Z Z Z (wT Z c9) (ae.ldB (j:=1) Z Z Z Zi (v:=.slice af p0.Readings.length ag) Z) Z (rU Z (wT Z c9) (zq Z Z zn) (rU Z (wT Z c9) (yJ Z Z Z) (bnK aq fun aR aE aI=>zF 0 Z Z Z (wT Z c9) (zD Z Z yP (zB Z (zB Z (zB Z zN))) Z) ae (fun hs=>wBj p1.Index 0 (w64 ((↑p0.Readings.length:Int) - 1)) W5 φ hs aE) (.inr Z) ?_))))))
 rintro av aJ aQ ax aP aF ⟨rfl,rfl⟩
 have aG:sW w φ av [.blk b6 78 B1,.blk b2 28 B0] ax:=aF
 refine oR Z (zP Z (Zj c9.out) Z) (oA Z Z (eN (zS ?_)))
 have hE:=nE aI;first | subst r | cases hE
 exact ⟨rfl,_,(ZM rfl),av,_,(aG.pick [] _ (by decide) rfl),rfl,rfl⟩
 have au:=hm;rw [if_neg c9] at au;replace c9:=zM c9
 refine oF Z c9 (oF Z c9 (oF Z c9 (oF Z c9 (oF Z c9 (oF Z c9 (ZB Z Z Z (zT Z Z (zw c9.out) Z) (oR Z (zZ Z (zw c9.out) Z) (oA Z Z (eN (zS ?_))))))))))
 have hE:=nE au;first | subst r | cases hE
 exact ⟨rfl,_,(ZM rfl),φ,_,(ae.pick [] _ (by decide) rfl),rfl,rfl⟩
theorem wGZ (p0:wAC) (aT:Option Addr) (aW:Nat) (aU:Option Addr) (aX:Nat) (aV:Option Addr) (aY:Nat) (aE:Option Addr) (aF:Nat) (p1:wAF) (w:World) (φ:PHeap) (hS:St0 w φ []) (fN:Sl φ 1 aT aW p0.Starts.length (hD KL.encI p0.Starts)) (fO:Sl φ 2 aU aX p0.Splits.length (hD wAE p0.Splits)) (fP:Sl φ 3 aV aY p0.Clocks.length (hD wAB p0.Clocks)) (ep:Sl φ 4 aE aF p0.Readings.length (hD wAA p0.Readings)) {r:wAJ × wAJ} (hm:wDP p0 p1=some r):Gv Try.prog 118 [.agg #[.slice aT p0.Starts.length aW,.slice aU p0.Splits.length aX,.slice aV p0.Clocks.length aY,.slice aE p0.Readings.length aF],.agg #[jV p1.Kind,jV p1.Skier,jV p1.Index,.bool p1.Up]] w (wCF w [] φ (fun φ_ L_ v=>v=.tuple #[.agg #[jV r.1.skier,jV r.1.mat],.agg #[jV r.2.skier,jV r.2.mat]]/\L_=[])):=by
 unfold wDP at hm
 refine Gv.of Try.func118 Z Try.ntmps118 Try.results118 Z (sR (.fx 0 (.fx 1 (.fx 2 (.fx 3 .nil .stop) .stop) .stop) .stop) Z ?_)
 let B0:List Value:=[.slice aT p0.Starts.length aW,.slice aU p0.Splits.length aX,.slice aV p0.Clocks.length aY,.slice aE p0.Readings.length aF]
 refine zu (cs:=B0) rfl rfl rfl rfl rfl rfl (by rfl) hS ?_
 intro W1 b2 dX
 let B1:List Value:=[jV p1.Kind,jV p1.Skier,jV p1.Index,.bool p1.Up]
 refine zu (cs:=B1) rfl rfl rfl rfl rfl rfl (by rfl) dX ?_
 intro W5 b6 eo
 let B2:List Value:=[jV 0,jV 0]
 refine zV (cs:=B2) Z Z Z Z Z zd Z eo ?_
 intro W9 ae dE
 refine zV (cs:=B2) Z Z Z Z Z zd Z dE ?_
 intro ff af ay
 refine eN (sR (wHd gBr) Z (oR Z (zG Z Z zK Z ZH) (oL Z (ay.ldB (j:=3) Z Z Z Zi (v:=.slice aE p0.Readings.length aF) Z) (oR Z (zG Z Z zj Z zC) (oL Z (ay.ldB (j:=2) Z Z Z zJ (v:=jV p1.Index) Z) (bnK hm fun ab aP er=>?_))))))
 have q:=ep.el (fun _=>rfl) (wAX aP)
 obtain ⟨fC,fR,dC,dD⟩:=q
 refine oR Z (ZY Z Z dC Z zn ZC (wCG aP) (wCI aP)) (oL Z (ay.ldCA (f:=0) dD Z Z yI ZC (us:=[jV ab.Skier,jV ab.Mat,jV ab.Clock,jV ab.Time]) Z Z) (zV (cs:=[jV 0,jV 0,jV 0,jV 0]) Z Z Z Z Z Zb Z ay ?_))
 intro ft aa dR
 let B3:List Value:=[jV ab.Skier,jV ab.Mat,jV ab.Clock,jV ab.Time]
 refine zW (j:=0) (vs:=B3) Z Z Z Z dR Z Z Z Z ZC (zA Z) Z Z Z ?_
 intro aH dW
 have dY:sW w φ φ [.blk aa 39 B3,.blk af 104 B2,.blk ae 104 B2,.blk b6 78 B1,.blk b2 28 B0] aH:=dW
 refine eN ?_
 have q:=bnd er
 obtain ⟨⟨eM,eO⟩,ew,bD⟩:=q
 try dsimp only at bD
 let B4:List Value:=[jV ab.Skier,jV ab.Mat]
 let B5:List Value:=[jV eM,jV eO]
 refine yO (fun σ_ w_=>∃ (φ_:PHeap),σ_ 4=.pointer (some ⟨ae,0,none⟩)/\σ_ 5=.pointer (some ⟨af,0,none⟩)/\PHeap.Le φ φ_/\sW w φ φ_ [.blk aa 39 B3,.blk af 104 B4,.blk ae 104 B5,.blk b6 78 B1,.blk b2 28 B0] w_) ?_ ?_
 refine bnK ew fun bQ ax eu=>ZE ZF [3,1,2,3,2,3,2,3,0,0] (.fl 0 (.fl 1 (.fl 3 (.fl 5 (.fx 2 (.fx 4 gCs (.fx 6 gCt (.fx 8 (.fx 4 gCb (.fx 6 gCc .stop)) .stop))) (.fx 4 (.fx 2 gCs (.fx 6 gCl .stop)) (.fx 6 (.fx 2 gCt (.fx 4 gCl .stop)) .stop))))))) (by kernel_rfl) ?_
 have ap:=dY.drew
 generalize hw_W54:({ aH with drawn:=aH.drawn + 1 }:World)=aI at ap ⊢
 let B6:List Value:=[jV bQ.skier,jV bQ.mat]
 refine ZT (s:=.nil) (M:=fun σ_ w_=>∃ (φ_:PHeap),σ_ 4=.pointer (some ⟨ae,0,none⟩)/\σ_ 5=.pointer (some ⟨af,0,none⟩)/\σ_ 6=.pointer (some ⟨aa,0,none⟩)/\σ_ 13=.pointer (some ⟨aa,2,none⟩)/\σ_ 14=jV ab.Clock/\σ_ 15=.agg B6.toArray/\σ_ 16=.pointer (some ⟨aa,0,none⟩)/\σ_ 17=jV ab.Skier/\σ_ 18=.pointer (some ⟨aa,1,none⟩)/\σ_ 19=jV ab.Mat/\σ_ 20=.agg B4.toArray/\PHeap.Le φ φ_/\sW w φ φ_ [.blk aa 39 B3,.blk af 104 B4,.blk ae 104 B6,.blk b6 78 B1,.blk b2 28 B0] w_) ?_ fun bE=>?_
 rintro fW fg ⟨eQ,cq,cr,fD,fE,fG,fH,fI,fJ,fK,fL,fM,eA,dF⟩
 refine zb ?_
 cases eu
 exact zH ⟨Z,⟨eQ,cq,cr,eA,dF⟩⟩
 refine ZT (s:=.fx 9 .nil .stop) (M:=fun σ_ w_=>∃ (φ_:PHeap),σ_ 4=.pointer (some ⟨ae,0,none⟩)/\σ_ 5=.pointer (some ⟨af,0,none⟩)/\σ_ 6=.pointer (some ⟨aa,0,none⟩)/\σ_ 13=.pointer (some ⟨aa,2,none⟩)/\σ_ 14=jV ab.Clock/\σ_ 15=.agg B6.toArray/\σ_ 16=.pointer (some ⟨aa,0,none⟩)/\σ_ 17=jV ab.Skier/\σ_ 18=.pointer (some ⟨aa,1,none⟩)/\σ_ 19=jV ab.Mat/\σ_ 20=.agg B4.toArray/\PHeap.Le φ φ_/\sW w φ φ_ [.blk aa 39 B3,.blk af 104 B2,.blk ae 104 B6,.blk b6 78 B1,.blk b2 28 B0] w_) ?_ fun bF=>?_
 rintro fY fh ⟨bR,ct,a6,cu,cw,cx,cy,cz,cA,cB,cC,a7,eB,dG⟩
 refine zW (j:=1) (vs:=B4) Z Z Z Z dG Z a6 a7 Z zI (zA Z) Z Z Z ?_
 intro bZ dH
 have dI:sW w φ bR [.blk aa 39 B3,.blk af 104 B4,.blk ae 104 B6,.blk b6 78 B1,.blk b2 28 B0] bZ:=dH
 exact bE _ _ ⟨bR,ct,a6,cu,cw,cx,cy,cz,cA,cB,cC,a7,eB,dI⟩
 refine ZT (s:=gBs) (M:=fun σ_ w_=>∃ (φ_:PHeap),σ_ 4=.pointer (some ⟨ae,0,none⟩)/\σ_ 5=.pointer (some ⟨af,0,none⟩)/\σ_ 6=.pointer (some ⟨aa,0,none⟩)/\σ_ 13=.pointer (some ⟨aa,2,none⟩)/\σ_ 14=jV ab.Clock/\σ_ 15=.agg B6.toArray/\σ_ 16=.pointer (some ⟨aa,0,none⟩)/\σ_ 17=jV ab.Skier/\σ_ 18=.pointer (some ⟨aa,1,none⟩)/\σ_ 19=jV ab.Mat/\σ_ 20=.agg B4.toArray/\PHeap.Le φ φ_/\sW w φ φ_ [.blk aa 39 B3,.blk af 104 B2,.blk ae 104 B2,.blk b6 78 B1,.blk b2 28 B0] w_) ?_ fun ey=>?_
 rintro fZ fj ⟨bS,a8,cD,cE,cG,cH,a9,cI,cJ,cK,cL,cM,eD,dJ⟩
 refine zW (j:=2) (vs:=B6) Z Z Z Z dJ Z a8 a9 Z zI (zA Z) Z Z Z ?_
 intro ca dK
 have dL:sW w φ bS [.blk aa 39 B3,.blk af 104 B2,.blk ae 104 B6,.blk b6 78 B1,.blk b2 28 B0] ca:=dK
 exact bF _ _ ⟨bS,a8,cD,cE,cG,cH,a9,cI,cJ,cK,cL,cM,eD,dL⟩
 refine ZT (s:=gBt) (M:=fun σ_ w_=>∃ (φ_:PHeap),σ_ 4=.pointer (some ⟨ae,0,none⟩)/\σ_ 5=.pointer (some ⟨af,0,none⟩)/\σ_ 6=.pointer (some ⟨aa,0,none⟩)/\σ_ 13=.pointer (some ⟨aa,2,none⟩)/\σ_ 14=jV ab.Clock/\σ_ 15=.agg B6.toArray/\σ_ 16=.pointer (some ⟨aa,0,none⟩)/\σ_ 17=jV ab.Skier/\σ_ 18=.pointer (some ⟨aa,1,none⟩)/\σ_ 19=jV ab.Mat/\PHeap.Le φ φ_/\sW w φ φ_ [.blk aa 39 B3,.blk af 104 B2,.blk ae 104 B6,.blk b6 78 B1,.blk b2 28 B0] w_) ?_ fun bG=>?_
 rintro f4 fk ⟨bU,cN,ba,cO,cP,cQ,cR,cS,bb,cU,bc,eE,dM⟩
 refine oR Z (zl (pv:=[(0,jV ab.Skier),(1,jV ab.Mat)]) (z:=B2) (cs:=B4) Z (wAG bb (wAG bc wAN)) zd wBU Z Z) (zW (j:=1) (vs:=B4) Z Z Z Z dM Z ba Z Z zI (zA Z) Z Z Z ?_)
 intro cb dN
 have dO:sW w φ bU [.blk aa 39 B3,.blk af 104 B4,.blk ae 104 B6,.blk b6 78 B1,.blk b2 28 B0] cb:=dN
 exact bE _ _ ⟨bU,cN,ba,cO,cP,cQ,cR,cS,bb,cU,bc,Z,eE,dO⟩
 refine ZT (s:=gCc) (M:=fun σ_ w_=>∃ (φ_:PHeap),σ_ 4=.pointer (some ⟨ae,0,none⟩)/\σ_ 5=.pointer (some ⟨af,0,none⟩)/\σ_ 6=.pointer (some ⟨aa,0,none⟩)/\σ_ 13=.pointer (some ⟨aa,2,none⟩)/\σ_ 14=jV ab.Clock/\σ_ 15=.agg B6.toArray/\σ_ 16=.pointer (some ⟨aa,0,none⟩)/\σ_ 18=.pointer (some ⟨aa,1,none⟩)/\σ_ 19=jV ab.Mat/\PHeap.Le φ φ_/\sW w φ φ_ [.blk aa 39 B3,.blk af 104 B2,.blk ae 104 B6,.blk b6 78 B1,.blk b2 28 B0] w_) ?_ fun bH=>?_
 rintro f6 fm ⟨eU,cV,cW,cX,cY,cZ,c6,bd,da,db,eF,bB⟩
 exact ZR Z Z Z Z (bB.ldB (j:=0) Z Z bd zJ (v:=jV ab.Skier) Z) (bG _ _ ⟨eU,cV,cW,cX,cY,cZ,c6,bd,Z,da,db,eF,bB⟩)
 refine ZT (s:=gCb) (M:=fun σ_ w_=>∃ (φ_:PHeap),σ_ 4=.pointer (some ⟨ae,0,none⟩)/\σ_ 5=.pointer (some ⟨af,0,none⟩)/\σ_ 6=.pointer (some ⟨aa,0,none⟩)/\σ_ 13=.pointer (some ⟨aa,2,none⟩)/\σ_ 14=jV ab.Clock/\σ_ 15=.agg B6.toArray/\σ_ 16=.pointer (some ⟨aa,0,none⟩)/\σ_ 17=jV ab.Skier/\σ_ 18=.pointer (some ⟨aa,1,none⟩)/\PHeap.Le φ φ_/\sW w φ φ_ [.blk aa 39 B3,.blk af 104 B2,.blk ae 104 B6,.blk b6 78 B1,.blk b2 28 B0] w_) ?_ fun bI=>?_
 rintro f7 fq ⟨eV,dd,de,df,dg,dh,di,dk,dl,be,eG,bC⟩
 exact ZR Z Z Z Z (bC.ldB (j:=0) Z Z be zJ (v:=jV ab.Mat) Z) (bG _ _ ⟨eV,dd,de,df,dg,dh,di,dk,dl,be,Z,eG,bC⟩)
 refine ZT (s:=.fl 7 gBs) (M:=fun σ_ w_=>∃ (φ_:PHeap),σ_ 4=.pointer (some ⟨ae,0,none⟩)/\σ_ 5=.pointer (some ⟨af,0,none⟩)/\σ_ 6=.pointer (some ⟨aa,0,none⟩)/\σ_ 13=.pointer (some ⟨aa,2,none⟩)/\σ_ 14=jV ab.Clock/\σ_ 15=.agg B6.toArray/\σ_ 16=.pointer (some ⟨aa,0,none⟩)/\σ_ 17=jV ab.Skier/\σ_ 18=.pointer (some ⟨aa,1,none⟩)/\σ_ 19=jV ab.Mat/\PHeap.Le φ φ_/\sW w φ φ_ [.blk aa 39 B3,.blk af 104 B2,.blk ae 104 B2,.blk b6 78 B1,.blk b2 28 B0] w_) ?_ fun bJ=>?_
 rintro f8 fu ⟨bV,bf,dm,dn,dp,dq,bg,dr,bh,dt,bi,eH,dP⟩
 refine oR Z (zl (pv:=[(0,jV ab.Skier),(1,jV ab.Mat)]) (z:=B2) (cs:=B4) Z (wAG bh (wAG bi wAN)) zd wBU Z Z) (zW (j:=2) (vs:=B6) Z Z Z Z dP Z bf bg Z zI (zA Z) Z Z Z ?_)
 intro cc dQ
 have dS:sW w φ bV [.blk aa 39 B3,.blk af 104 B2,.blk ae 104 B6,.blk b6 78 B1,.blk b2 28 B0] cc:=dQ
 exact bF _ _ ⟨bV,bf,dm,dn,dp,dq,bg,dr,bh,dt,bi,Z,eH,dS⟩
 refine ZT (s:=gCl) (M:=fun σ_ w_=>∃ (φ_:PHeap),σ_ 4=.pointer (some ⟨ae,0,none⟩)/\σ_ 5=.pointer (some ⟨af,0,none⟩)/\σ_ 6=.pointer (some ⟨aa,0,none⟩)/\σ_ 13=.pointer (some ⟨aa,2,none⟩)/\σ_ 14=jV ab.Clock/\σ_ 16=.pointer (some ⟨aa,0,none⟩)/\σ_ 17=jV ab.Skier/\σ_ 18=.pointer (some ⟨aa,1,none⟩)/\σ_ 19=jV ab.Mat/\PHeap.Le φ φ_/\sW w φ φ_ [.blk aa 39 B3,.blk af 104 B2,.blk ae 104 B2,.blk b6 78 B1,.blk b2 28 B0] w_) ?_ fun bK=>?_
 rintro f9 cd ⟨eW,du,dv,dw,dx,bj,dy,bm,dz,bn,eI,dT⟩
 refine oR Z (zl (pv:=[(0,jV ab.Skier),(1,jV ab.Mat)]) (z:=B2) (cs:=B4) Z (wAG bm (wAG bn wAN)) zd wBU Z Z) (zF 0 Z Z Z Z (zD Z Z Try.call82 (zB bj zN) Z) dT (fun hs=>wCi ab.Clock cd eW hs ax) (.inr Z) ?_)
 rintro bW eY fS cf eJ dU ⟨rfl,rfl⟩
 have dV:sW w φ bW [.blk aa 39 B3,.blk af 104 B2,.blk ae 104 B2,.blk b6 78 B1,.blk b2 28 B0] cf:=dU
 exact ey _ _ ⟨bW,du,dv,dw,dx,bj,Z,dy,bm,dz,bn,Z,(eI.trans eJ),dV⟩
 refine ZT (s:=gCt) (M:=fun σ_ w_=>∃ (φ_:PHeap),σ_ 4=.pointer (some ⟨ae,0,none⟩)/\σ_ 5=.pointer (some ⟨af,0,none⟩)/\σ_ 6=.pointer (some ⟨aa,0,none⟩)/\σ_ 13=.pointer (some ⟨aa,2,none⟩)/\σ_ 14=jV ab.Clock/\σ_ 15=.agg B6.toArray/\σ_ 16=.pointer (some ⟨aa,0,none⟩)/\σ_ 18=.pointer (some ⟨aa,1,none⟩)/\σ_ 19=jV ab.Mat/\PHeap.Le φ φ_/\sW w φ φ_ [.blk aa 39 B3,.blk af 104 B2,.blk ae 104 B2,.blk b6 78 B1,.blk b2 28 B0] w_) ?_ fun bL=>?_
 rintro ga fw ⟨aZ,aJ,bo,bp,bq,br,aK,aL,bs,bt,bN,aQ⟩
 refine zr ?_ ?_
 exact ZR Z Z Z Z (aQ.ldB (j:=0) Z Z aL zJ (v:=jV ab.Skier) Z) (bJ _ _ ⟨aZ,aJ,bo,bp,bq,br,aK,aL,Z,bs,bt,bN,aQ⟩)
 refine zW (j:=2) (vs:=B6) Z Z Z Z aQ Z aJ aK Z zI (zA Z) Z Z Z ?_
 intro cg dZ
 have d5:sW w φ aZ [.blk aa 39 B3,.blk af 104 B2,.blk ae 104 B6,.blk b6 78 B1,.blk b2 28 B0] cg:=dZ
 exact bH _ _ ⟨aZ,aJ,bo,bp,bq,br,aK,aL,bs,bt,bN,d5⟩
 refine ZT (s:=gCs) (M:=fun σ_ w_=>∃ (φ_:PHeap),σ_ 4=.pointer (some ⟨ae,0,none⟩)/\σ_ 5=.pointer (some ⟨af,0,none⟩)/\σ_ 6=.pointer (some ⟨aa,0,none⟩)/\σ_ 13=.pointer (some ⟨aa,2,none⟩)/\σ_ 14=jV ab.Clock/\σ_ 15=.agg B6.toArray/\σ_ 16=.pointer (some ⟨aa,0,none⟩)/\σ_ 17=jV ab.Skier/\σ_ 18=.pointer (some ⟨aa,1,none⟩)/\PHeap.Le φ φ_/\sW w φ φ_ [.blk aa 39 B3,.blk af 104 B2,.blk ae 104 B2,.blk b6 78 B1,.blk b2 28 B0] w_) ?_ fun bM=>?_
 rintro ge fy ⟨a5,aM,bu,bv,bw,bx,aN,bz,bA,aO,bP,aR⟩
 refine zr ?_ ?_
 exact ZR Z Z Z Z (aR.ldB (j:=0) Z Z aO zJ (v:=jV ab.Mat) Z) (bJ _ _ ⟨a5,aM,bu,bv,bw,bx,aN,bz,bA,aO,Z,bP,aR⟩)
 refine zW (j:=2) (vs:=B6) Z Z Z Z aR Z aM aN Z zI (zA Z) Z Z Z ?_
 intro ci d7
 have d9:sW w φ a5 [.blk aa 39 B3,.blk af 104 B2,.blk ae 104 B6,.blk b6 78 B1,.blk b2 28 B0] ci:=d7
 exact bI _ _ ⟨a5,aM,bu,bv,bw,bx,aN,bz,bA,aO,bP,d9⟩
 refine oR Z (zG Z Z zx Z zC) (oL Z (ap.ldB (j:=0) Z Z Z zJ (v:=jV ab.Clock) Z) (oR Z (zG Z Z zx Z zC) (oR Z (zG Z Z zx Z zC) (zr ?_ ?_))))
 refine zF 0 Z Z Z Z (zD Z Z Try.call82 (zB Z zN) Z) ap (fun hs=>wCi ab.Clock aI φ hs ax) (.inr Z) ?_
 rintro au eZ fT cm aD ef ⟨rfl,rfl⟩
 have av:sW w φ au [.blk aa 39 B3,.blk af 104 B2,.blk ae 104 B2,.blk b6 78 B1,.blk b2 28 B0] cm:=ef
 refine zr ?_ ?_
 exact ZR Z Z Z Z (av.ldB (j:=0) Z Z Z zJ (v:=jV ab.Skier) Z) (bM _ _ ⟨au,Z,Z,Z,Z,Z,Z,Z,Z,Z,aD,av⟩)
 refine zr ?_ ?_
 exact ZR Z Z Z Z (av.ldB (j:=0) Z Z Z zJ (v:=jV ab.Mat) Z) (bL _ _ ⟨au,Z,Z,Z,Z,Z,Z,Z,Z,Z,aD,av⟩)
 refine zW (j:=2) (vs:=B6) Z Z Z Z av Z Z Z Z zI (zA Z) Z Z Z ?_
 intro cn eg
 have az:sW w φ au [.blk aa 39 B3,.blk af 104 B2,.blk ae 104 B6,.blk b6 78 B1,.blk b2 28 B0] cn:=eg
 refine zr ?_ ?_
 exact ZR Z Z Z Z (az.ldB (j:=0) Z Z Z zJ (v:=jV ab.Skier) Z) (bI _ _ ⟨au,Z,Z,Z,Z,Z,Z,Z,Z,Z,aD,az⟩)
 exact ZR Z Z Z Z (az.ldB (j:=0) Z Z Z zJ (v:=jV ab.Mat) Z) (bH _ _ ⟨au,Z,Z,Z,Z,Z,Z,Z,Z,Z,aD,az⟩)
 refine zr ?_ ?_
 refine ZR Z Z Z Z (ap.ldB (j:=0) Z Z Z zJ (v:=jV ab.Skier) Z) (zr ?_ ?_)
 refine zF 0 Z Z Z Z (zD Z Z Try.call82 (zB Z zN) Z) ap (fun hs=>wCi ab.Clock aI φ hs ax) (.inr Z) ?_
 rintro bX fb fU co eK eh ⟨rfl,rfl⟩
 have ej:sW w φ bX [.blk aa 39 B3,.blk af 104 B2,.blk ae 104 B2,.blk b6 78 B1,.blk b2 28 B0] co:=eh
 exact bM _ _ ⟨bX,Z,Z,Z,Z,Z,Z,Z,Z,Z,eK,ej⟩
 exact ZR Z Z Z Z (ap.ldB (j:=0) Z Z Z zJ (v:=jV ab.Mat) Z) (bK _ _ ⟨φ,Z,Z,Z,Z,Z,Z,Z,Z,Z,(zO _),ap⟩)
 refine ZR Z Z Z Z (ap.ldB (j:=0) Z Z Z zJ (v:=jV ab.Mat) Z) (zr ?_ ?_)
 refine zF 0 Z Z Z Z (zD Z Z Try.call82 (zB Z zN) Z) ap (fun hs=>wCi ab.Clock aI φ hs ax) (.inr Z) ?_
 rintro bY fc fV cp eL ek ⟨rfl,rfl⟩
 have en:sW w φ bY [.blk aa 39 B3,.blk af 104 B2,.blk ae 104 B2,.blk b6 78 B1,.blk b2 28 B0] cp:=ek
 exact bL _ _ ⟨bY,Z,Z,Z,Z,Z,Z,Z,Z,Z,eL,en⟩
 exact ZR Z Z Z Z (ap.ldB (j:=0) Z Z Z zJ (v:=jV ab.Skier) Z) (bK _ _ ⟨φ,Z,Z,Z,Z,Z,Z,Z,Z,Z,(zO _),ap⟩)
 rintro gg fz ⟨eX,dA,dB,fQ,aS⟩
 refine zS ?_
 cases bD
 exact ⟨rfl,_,(wDy (rs:=[.cell 4 104,.cell 5 104]) (vs:=[.agg B5.toArray,.agg B4.toArray]) ⟨⟨_,dA,(wBA zh zI (aS.blkAt (k:=2) rfl) (vs:=B5) rfl rfl)⟩,⟨⟨_,dB,(wBA zh zI (aS.blkAt (k:=1) rfl) (vs:=B4) rfl rfl)⟩,trivial⟩⟩ rfl),eX,_,(aS.pick [] _ (by decide) rfl),rfl,rfl⟩
theorem wGa (p0:wAC) (ao:Option Addr) (aq:Nat) (ap:Option Addr) (au:Nat) (ag:Option Addr) (ah:Nat) (aj:Option Addr) (ak:Nat) (p1:wAF) (w:World) (φ:PHeap) (hS:St0 w φ []) (a6:Sl φ 1 ao aq p0.Starts.length (hD KL.encI p0.Starts)) (a7:Sl φ 2 ap au p0.Splits.length (hD wAE p0.Splits)) (az:Sl φ 3 ag ah p0.Clocks.length (hD wAB p0.Clocks)) (aR:Sl φ 4 aj ak p0.Readings.length (hD wAA p0.Readings)) {r:Int × Int} (hm:wDQ p0 p1=some r):Gv Try.prog 119 [.agg #[.slice ao p0.Starts.length aq,.slice ap p0.Splits.length au,.slice ag p0.Clocks.length ah,.slice aj p0.Readings.length ak],.agg #[jV p1.Kind,jV p1.Skier,jV p1.Index,.bool p1.Up]] w (wCF w [] φ (fun φ_ L_ v=>v=.tuple #[jV r.1,jV r.2]/\L_=[])):=by
 unfold wDQ at hm
 refine Gv.of Try.func119 Z Try.ntmps119 Try.results119 Z (sR (.fx 0 gCd .stop) Z ?_)
 let B0:List Value:=[.slice ao p0.Starts.length aq,.slice ap p0.Splits.length au,.slice ag p0.Clocks.length ah,.slice aj p0.Readings.length ak]
 refine zu (cs:=B0) rfl rfl rfl rfl rfl rfl (by rfl) hS ?_
 intro W1 b2 aQ
 let B1:List Value:=[jV p1.Kind,jV p1.Skier,jV p1.Index,.bool p1.Up]
 refine zu (cs:=B1) rfl rfl rfl rfl rfl rfl (by rfl) aQ ?_
 intro W5 b6 ai
 refine oA Z Z (oA Z Z (eN (sR (wHd gBr) Z (oR Z (zG Z Z zK Z ZH) (oL Z (ai.ldB (j:=1) Z Z Z Zi (v:=.slice aj p0.Readings.length ak) Z) (oR Z (zG Z Z zj Z zC) (oL Z (ai.ldB (j:=0) Z Z Z zJ (v:=jV p1.Index) Z) (bnK hm fun x9 an aS=>?_))))))))
 have q:=aR.el (fun _=>rfl) (wAX an)
 obtain ⟨aY,a8,aH,aK⟩:=q
 refine oR Z (ZY Z Z aH Z zn ZC (wCG an) (wCI an)) (oL Z (ai.ldCA (f:=0) aK Z Z yI ZC (us:=[jV x9.Skier,jV x9.Mat,jV x9.Clock,jV x9.Time]) Z Z) (zV (cs:=[jV 0,jV 0,jV 0,jV 0]) Z Z Z Z Z Zb Z ai ?_))
 intro aV aE aN
 let B2:List Value:=[jV x9.Skier,jV x9.Mat,jV x9.Clock,jV x9.Time]
 refine zW (j:=0) (vs:=B2) Z Z Z Z aN Z Z Z Z ZC (zA Z) Z Z Z ?_
 intro am aO
 have aP:sW w φ φ [.blk aE 39 B2,.blk b6 78 B1,.blk b2 28 B0] am:=aO
 refine eN (zL (ZE ZF [3,1,3,1,3,1,3,3,1,3,3,1,3,1,3,3,1,3,1,3,3,3] fL22 (by kernel_rfl) ?_))
 have ac:=aP.drew
 generalize hw_W24:({ am with drawn:=am.drawn + 1 }:World)=aW at ac ⊢
 refine oR Z (zG Z Z zx Z zC) (oL Z (ac.ldB (j:=0) Z Z Z zJ (v:=jV x9.Time) Z) (oR Z (zG Z Z zK Z Zl) (oL Z (ac.ldB (j:=2) Z Z Z yE (v:=.slice ag p0.Clocks.length ah) Z) (oR Z (zG Z Z zx Z zC) (oL Z (ac.ldB (j:=0) Z Z Z zJ (v:=jV x9.Clock) Z) (bnK aS fun aD af aT=>?_))))))
 have q:=az.el (fun _=>rfl) (wAX af)
 obtain ⟨aZ,a9,aI,aL⟩:=q
 refine oR Z (ZY Z Z aI Z ZV Zq (wCG af) (wCI af)) (oR Z (zG Z Z Zr Z zC) (oL Z (ac.ldC (f:=2) aL (v:=jV aD.Error) Z Z zJ Z) (oR Z (za Z Z Z) (oR Z (zG Z Z zK Z Zl) (oL Z (ac.ldB (j:=2) Z Z Z yE (v:=.slice ag p0.Clocks.length ah) Z) (oR Z (zG Z Z zx Z zC) (oL Z (ac.ldB (j:=0) Z Z Z zJ (v:=jV x9.Clock) Z) ?_)))))))
 have q:=az.el (fun _=>rfl) (wAX af)
 obtain ⟨a5,ba,aJ,aM⟩:=q
 refine oR Z (ZY Z Z aJ Z ZV Zq (wCG af) (wCI af)) (oR Z (zG Z Z Zr Z zC) (oL Z (ac.ldC (f:=2) aM (v:=jV aD.Error) Z Z zJ Z) (oR Z (zG Z Z zx Z zC) (oL Z (ac.ldB (j:=0) Z Z Z zJ (v:=jV x9.Time) Z) (oR Z (yJ Z Z Z) (oA Z Z (oA Z Z (eN (zS ?_)))))))))
 cases aT
 exact ⟨rfl,_,(wDx rfl rfl),φ,_,(ac.pick [] _ (by decide) rfl),rfl,rfl⟩
theorem wAz  (w:World) (φ:PHeap) (hS:St0 w φ [])  {r:Unit} (hm:wAg =some r):Gv Try.prog 103 [] w (wCF w [] φ (fun φ_ L_ v=>v=.agg #[.func (.func 108) #[] #[],.func (.func 109) #[] #[],.func (.func 110) #[] #[],.func (.func 111) #[] #[],.func (.func 112) #[] #[],.func (.func 113) #[] #[],.func (.func 114) #[] #[],.func (.func 115) #[] #[],.func (.func 116) #[] #[],.func (.func 117) #[] #[],.func (.func 118) #[] #[],.func (.func 119) #[] #[]]/\L_=[])):=by
 unfold wAg at hm
 refine Gv.of Try.func103 Z Try.ntmps103 Try.results103 Z (sR (.fx 0 .nil .stop) Z ?_)
 let B0:List Value:=[.nilFunc,.nilFunc,.nilFunc,.nilFunc,.nilFunc,.nilFunc,.nilFunc,.nilFunc,.nilFunc,.nilFunc,.nilFunc,.nilFunc]
 refine zV (cs:=B0) Z Z Z Z Z Try.zeroValue170 Z hS ?_
 intro W1 b2 am
 refine eN (sR (wIJ (.fx 5 .nil .stop)) Z ?_)
 let B1:List Value:=[.nilFunc,.nilFunc,.nilFunc]
 let B2:List Value:=[.func (.func 108) #[] #[],.func (.func 109) #[] #[],.func (.func 110) #[] #[]]
 refine oR Z (zl (pv:=[(0,.func (.func 108) #[] #[]),(1,.func (.func 109) #[] #[]),(2,.func (.func 110) #[] #[])]) (z:=B1) (cs:=B2) Z (wAG Z (wAG Z (wAG Z wAN))) yB wFY Z Z) ?_
 let B3:List Value:=[.func (.func 111) #[] #[],.func (.func 112) #[] #[],.func (.func 113) #[] #[]]
 refine oR Z (zl (pv:=[(0,.func (.func 111) #[] #[]),(1,.func (.func 112) #[] #[]),(2,.func (.func 113) #[] #[])]) (z:=B1) (cs:=B3) Z (wAG Z (wAG Z (wAG Z wAN))) yB wFY Z Z) ?_
 let B4:List Value:=[.func (.func 114) #[] #[],.func (.func 115) #[] #[],.func (.func 116) #[] #[]]
 refine oR Z (zl (pv:=[(0,.func (.func 114) #[] #[]),(1,.func (.func 115) #[] #[]),(2,.func (.func 116) #[] #[])]) (z:=B1) (cs:=B4) Z (wAG Z (wAG Z (wAG Z wAN))) yB wFY Z Z) ?_
 let B5:List Value:=[.func (.func 117) #[] #[],.func (.func 118) #[] #[],.func (.func 119) #[] #[]]
 refine oR Z (zl (pv:=[(0,.func (.func 117) #[] #[]),(1,.func (.func 118) #[] #[]),(2,.func (.func 119) #[] #[])]) (z:=B1) (cs:=B5) Z (wAG Z (wAG Z (wAG Z wAN))) yB wFY Z Z) ?_
 let B6:List Value:=[.func (.func 108) #[] #[],.func (.func 109) #[] #[],.func (.func 110) #[] #[],.func (.func 111) #[] #[],.func (.func 112) #[] #[],.func (.func 113) #[] #[],.func (.func 114) #[] #[],.func (.func 115) #[] #[],.func (.func 116) #[] #[],.func (.func 117) #[] #[],.func (.func 118) #[] #[],.func (.func 119) #[] #[]]
 refine oR Z (Runs.buildA (pv:=[(0,.agg B2.toArray),(1,.agg B3.toArray),(2,.agg B4.toArray),(3,.agg B5.toArray)]) (z:=B0) (cs:=B6) Z (wAG Z (wAG Z (wAG Z (wAG Z wAN)))) Try.zeroValue170 Zo ZW Z Z) (zW (j:=0) (vs:=B6) Z Z Z Z am Z Z Z Z Try.sizeOf170 (zA Z) Z Z Z ?_)
 intro W5 an
 have ai:sW w φ φ [.blk b2 170 B6] W5:=an
 refine eN (zS ?_)
 cases hm
 exact ⟨rfl,_,(wGV (v:=.agg B6.toArray) ⟨⟨_,rfl,(wBA Try.isAgg170 Try.sizeOf170 (ai.blkAt (k:=0) rfl) (vs:=B6) rfl rfl)⟩,trivial⟩),φ,_,(ai.pick [] _ (by decide) rfl),rfl,rfl⟩
theorem wBf (p0:wAC) (aZ:Option Addr) (a8:Nat) (a5:Option Addr) (a9:Nat) (a6:Option Addr) (ba:Nat) (a7:Option Addr) (bb:Nat) (p1:wAF) (w:World) (φ:PHeap) (hS:St0 w φ []) (bX:Sl φ 1 aZ a8 p0.Starts.length (hD KL.encI p0.Starts)) (bY:Sl φ 2 a5 a9 p0.Splits.length (hD wAE p0.Splits)) (bZ:Sl φ 3 a6 ba p0.Clocks.length (hD wAB p0.Clocks)) (ca:Sl φ 4 a7 bb p0.Readings.length (hD wAA p0.Readings)) {r:wAJ × wAJ × Int} (hm:wAt p0 p1=some r):Gv Try.prog 70 [.agg #[.slice aZ p0.Starts.length a8,.slice a5 p0.Splits.length a9,.slice a6 p0.Clocks.length ba,.slice a7 p0.Readings.length bb],.agg #[jV p1.Kind,jV p1.Skier,jV p1.Index,.bool p1.Up]] w (wCF w [] φ (fun φ_ L_ v=>v=.tuple #[.agg #[jV r.1.skier,jV r.1.mat],.agg #[jV r.2.1.skier,jV r.2.1.mat],jV r.2.2]/\L_=[])):=by
 unfold wAt at hm
 refine Gv.of Try.func70 Z Try.ntmps70 Try.results70 Z ?_
 by_cases c1:p1.Kind=0
 have fc:=hm;rw [if_pos c1] at fc
 refine sR gCu Z ?_
 let B0:List Value:=[.slice aZ p0.Starts.length a8,.slice a5 p0.Splits.length a9,.slice a6 p0.Clocks.length ba,.slice a7 p0.Readings.length bb]
 refine zu (cs:=B0) rfl rfl rfl rfl rfl rfl (by rfl) hS ?_
 intro W6 b7 lT
 let B1:List Value:=[jV p1.Kind,jV p1.Skier,jV p1.Index,.bool p1.Up]
 refine zu (cs:=B1) rfl rfl rfl rfl rfl rfl (by rfl) lT ?_
 intro mP aJ iO
 let B2:List Value:=[jV 0,jV 0]
 refine zV (cs:=B2) Z Z Z Z Z zd Z iO ?_
 intro mR ay iY
 refine zV (cs:=B2) Z Z Z Z Z zd Z iY ?_
 intro dA aE i8
 refine oA Z Z (eN ?_)
 have q:=bnd fc
 obtain ⟨⟨⟩,l6,eO⟩:=q
 try dsimp only at eO
 let B3:List Value:=[.func (.func 108) #[] #[],.func (.func 109) #[] #[],.func (.func 110) #[] #[]]
 refine yO (fun σ_ w_=>∃ (φ_:PHeap) (bd:Nat),σ_ 2=.pointer (some ⟨b7,0,none⟩)/\σ_ 3=.pointer (some ⟨aJ,0,none⟩)/\σ_ 4=.pointer (some ⟨ay,0,none⟩)/\σ_ 5=.pointer (some ⟨aE,0,none⟩)/\σ_ 7=.pointer (some ⟨bd,0,none⟩)/\PHeap.Le φ φ_/\sW w φ φ_ [.blk aE 104 B2,.blk ay 104 B2,.blk aJ 78 B1,.blk b7 28 B0,.blk bd 169 B3] w_) ?_ ?_
 have q:=bnd l6
 obtain ⟨⟨⟩,d9,dg⟩:=q
 try dsimp only at dg
 refine ZE ZF [2,3,1,3,2,0] gDd (by kernel_rfl) ?_
 have bQ:=i8.drew
 generalize hw_W45:({ dA with drawn:=dA.drawn + 1 }:World)=gh at bQ ⊢
 refine oR Z (zG Z Z zj Z yL) (oL Z (bQ.ldB (j:=2) Z Z Z yR (v:=jV p1.Kind) Z) (zr ?_ ?_))
 refine zF 0 Z Z Z Z (zD Z Z yS zN Z) bQ (fun hs=>wAz gh φ hs d9) (.inr Z) ?_
 rintro du mG oJ gv me k5 ⟨rfl,rfl⟩
 have k6:sW w φ du [.blk aE 104 B2,.blk ay 104 B2,.blk aJ 78 B1,.blk b7 28 B0] gv:=k5
 refine zg rfl rfl rfl rfl (fun _=>(yh (i:=0) rfl rfl (congrArg (jV) c1) Zo ZW (by decide) (by decide) (wCr yW ZW rfl))) (zV (cs:=[.nilFunc,.nilFunc,.nilFunc]) rfl rfl rfl rfl rfl yB rfl k6 ?_)
 intro n5 dK li
 refine zW (j:=0) (vs:=B3) Z Z Z Z li Z Z Z Z ZW (zA Z) Z Z Z ?_
 intro gD lp
 have lv:sW w φ du [.blk dK 169 B3,.blk aE 104 B2,.blk ay 104 B2,.blk aJ 78 B1,.blk b7 28 B0] gD:=lp
 refine zb ?_
 cases dg
 exact zH ⟨rfl,⟨du,dK,rfl,rfl,rfl,rfl,rfl,me,(lv.pick [1,2,3,4,0] _ (by decide) rfl)⟩⟩
 refine zV (cs:=[.nilFunc,.nilFunc,.nilFunc]) Z Z Z Z Z yB Z bQ ?_
 intro gI cM lH
 refine zF 0 Z Z Z Z (zD Z Z yS zN Z) lH (fun hs=>wAz gI φ hs d9) (.inr Z) ?_
 rintro dx mL oU gR mh lP ⟨rfl,rfl⟩
 have lQ:sW w φ dx [.blk cM 169 [.nilFunc,.nilFunc,.nilFunc],.blk aE 104 B2,.blk ay 104 B2,.blk aJ 78 B1,.blk b7 28 B0] gR:=lP
 refine zg rfl rfl rfl rfl (fun _=>(yh (i:=0) rfl rfl (congrArg (jV) c1) Zo ZW (by decide) (by decide) (wCr yW ZW rfl))) (zW (j:=0) (vs:=B3) rfl rfl rfl rfl lQ rfl rfl rfl rfl ZW (zA rfl) rfl rfl rfl ?_)
 intro gS lR
 have lS:sW w φ dx [.blk cM 169 B3,.blk aE 104 B2,.blk ay 104 B2,.blk aJ 78 B1,.blk b7 28 B0] gS:=lR
 refine zb ?_
 cases dg
 exact zH ⟨rfl,⟨dx,cM,rfl,rfl,rfl,rfl,rfl,mh,(lS.pick [1,2,3,4,0] _ (by decide) rfl)⟩⟩
 rintro o7 gT ⟨mw,bd,dV,cV,bt,bp,dW,cn,bW⟩
 refine sR (wEI (.fx 4 (wLB gBs) .stop)) Z (oR Z (zG Z dW Zt Z Try.sizeOf166) (oL Z (bW.ldB (j:=4) Z Z Z Try.isAgg166 (v:=.func (.func 109) #[] #[]) Z) (oL Z (bW.ldBA (j:=3) Z Z dV zf zX (vs:=B0) Z Z) (oL Z (bW.ldBA (j:=2) Z Z cV Zp ZN (vs:=B1) Z Z) ?_))))
 have ey:=bX.le cn
 have eA:=bY.le cn
 have eB:=bZ.le cn
 have eD:=ca.le cn
 have q:=bnd eO
 obtain ⟨⟨cw,cx⟩,iI,fk⟩:=q
 try dsimp only at fk
 refine zF 0 Z Z Z Z (zD Z Z Try.call109 (zB Z (zB Z zN)) Z) bW (fun hs=>wGq p0 aZ a8 a5 a9 a6 ba a7 bb p1 gT mw hs ey eA eB eD iI) (.inr Z) ?_
 rintro cB mO oW gU cb iJ ⟨rfl,rfl⟩
 have iK:sW w φ cB [.blk aE 104 B2,.blk ay 104 B2,.blk aJ 78 B1,.blk b7 28 B0,.blk bd 169 B3] gU:=iJ
 refine oM Z Z (oR Z (zU Z Z (v:=.agg #[jV cw.skier,jV cw.mat]) Z) (oR Z (zU Z Z (v:=.agg #[jV cx.skier,jV cx.mat]) Z) ?_))
 let B4:List Value:=[jV cw.skier,jV cw.mat]
 refine zW (j:=1) (vs:=B4) Z Z Z Z iK Z bt Z Z zI (zA Z) Z Z Z ?_
 intro fB iL
 have iM:sW w φ cB [.blk aE 104 B2,.blk ay 104 B4,.blk aJ 78 B1,.blk b7 28 B0,.blk bd 169 B3] fB:=iL
 let B5:List Value:=[jV cx.skier,jV cx.mat]
 refine zW (j:=0) (vs:=B5) Z Z Z Z iM Z bp Z Z zI (zA Z) Z Z Z ?_
 intro dy iN
 have bI:sW w φ cB [.blk aE 104 B5,.blk ay 104 B4,.blk aJ 78 B1,.blk b7 28 B0,.blk bd 169 B3] dy:=iN
 refine eN (sR (wEI (.fx 4 (wJg (.nil)) .stop)) Z (oR Z (zG Z dW Zt Z Try.sizeOf167) (oL Z (bI.ldB (j:=4) Z Z Z Try.isAgg167 (v:=.func (.func 110) #[] #[]) Z) (oL Z (bI.ldBA (j:=3) Z Z dV zf zX (vs:=B0) Z Z) (oL Z (bI.ldBA (j:=2) Z Z cV Zp ZN (vs:=B1) Z Z) ?_)))))
 have ii:=ey.le cb
 have ij:=eA.le cb
 have ik:=eB.le cb
 have il:=eD.le cb
 have q:=bnd fk
 obtain ⟨⟨dk,fw⟩,im,eI⟩:=q
 try dsimp only at eI
 refine zF 0 Z Z Z Z (zD Z Z Try.call110 (zB Z (zB Z zN)) Z) bI (fun hs=>wGr p0 aZ a8 a5 a9 a6 ba a7 bb p1 dy cB hs ii ij ik il im) (.inr Z) ?_
 rintro bg mx oy cE oh iP ⟨rfl,rfl⟩
 have bz:sW w φ bg [.blk aE 104 B5,.blk ay 104 B4,.blk aJ 78 B1,.blk b7 28 B0,.blk bd 169 B3] cE:=iP
 refine oM Z Z (oR Z (zU Z Z (v:=jV dk) Z) (oR Z (zU Z Z (v:=jV fw) Z) (oA Z Z (oA Z Z (eN (zL (sR fL3 Z (oR Z (zG Z cV zj Z Try.sizeOf4) (oL Z (bz.ldB (j:=2) Z Z Z Try.isAgg4 (v:=.bool p1.Up) Z) (oR Z (Ze Z Z) (eN (ifc eI ?_ ?_))))))))))))
 intro cN lU
 refine zt (nC cN.out) (kN ?_)
 have q:=bnd lU
 obtain ⟨⟨⟩,fm,eJ⟩:=q
 try dsimp only at eJ
 refine yO (fun σ_ w_=>∃ (φ_:PHeap),σ_ 4=.pointer (some ⟨ay,0,none⟩)/\σ_ 5=.pointer (some ⟨aE,0,none⟩)/\σ_ 6=jV dk/\PHeap.Le bg φ_/\sW w φ φ_ [.blk aE 104 B5,.blk ay 104 B4,.blk aJ 78 B1,.blk b7 28 B0,.blk bd 169 B3] w_) ?_ ?_
 refine ZE ZF [1,2,3,0,0,3] gDe (by kernel_rfl) ?_
 have bA:=bz.drew
 generalize hw_W136:({ cE with drawn:=cE.drawn + 1 }:World)=mQ at bA ⊢
 refine oL Z (bA.ldBA (j:=1) Z Z bt zh zI (vs:=B4) Z Z) (oM Z Z (zr ?_ ?_))
 refine ZR Z Z Z Z (bA.ldBA (j:=0) Z Z bp zh zI (vs:=B5) Z Z) (zW (j:=1) (vs:=B4) Z Z Z Z bA Z bt Z Z zI (zA Z) Z Z Z ?_)
 intro fC iQ
 have iR:sW w φ bg [.blk aE 104 B5,.blk ay 104 B4,.blk aJ 78 B1,.blk b7 28 B0,.blk bd 169 B3] fC:=iQ
 refine zW (j:=0) (vs:=B5) Z Z Z Z iR Z bp Z Z zI (zA Z) Z Z Z ?_
 intro fD iS
 have iT:sW w φ bg [.blk aE 104 B5,.blk ay 104 B4,.blk aJ 78 B1,.blk b7 28 B0,.blk bd 169 B3] fD:=iS
 refine oA Z Z (zb ?_)
 cases fm
 exact zH ⟨Z,⟨bg,bt,bp,Z,(zO _),iT⟩⟩
 refine zW (j:=1) (vs:=B4) Z Z Z Z bA Z bt Z Z zI (zA Z) Z Z Z ?_
 intro fE iU
 have eE:sW w φ bg [.blk aE 104 B5,.blk ay 104 B4,.blk aJ 78 B1,.blk b7 28 B0,.blk bd 169 B3] fE:=iU
 refine ZR Z Z Z Z (eE.ldBA (j:=0) Z Z bp zh zI (vs:=B5) Z Z) (zW (j:=0) (vs:=B5) Z Z Z Z eE Z bp Z Z zI (zA Z) Z Z Z ?_)
 intro fG iV
 have iW:sW w φ bg [.blk aE 104 B5,.blk ay 104 B4,.blk aJ 78 B1,.blk b7 28 B0,.blk bd 169 B3] fG:=iV
 refine oA Z Z (zb ?_)
 cases fm
 exact zH ⟨Z,⟨bg,bt,bp,Z,(zO _),iW⟩⟩
 rintro oX mS ⟨mi,gW,gX,gY,oi,cW⟩
 refine zS ?_
 cases eJ
 exact ⟨rfl,_,(wDy (rs:=[.cell 4 104,.cell 5 104,.tmp 6]) (vs:=[.agg B4.toArray,.agg B5.toArray,jV dk]) ⟨⟨_,gW,(wBA zh zI (cW.blkAt (k:=1) rfl) (vs:=B4) rfl rfl)⟩,⟨⟨_,gX,(wBA zh zI (cW.blkAt (k:=0) rfl) (vs:=B5) rfl rfl)⟩,⟨gY,trivial⟩⟩⟩ rfl),mi,_,(cW.pick [] _ (by decide) rfl),rfl,rfl⟩
 intro cN lV
 refine ZL (nF (cN.out)) (sR (wCa gCf) Z (oL Z (bz.ldBA (j:=0) Z Z bp zh zI (vs:=B5) Z Z) (oL Z (bz.ldBA (j:=1) Z Z bt zh zI (vs:=B4) Z Z) (oM Z Z (zW (j:=1) (vs:=B5) Z Z Z Z bz Z bt Z Z zI (zA Z) Z Z Z ?_)))))
 intro fH iX
 have iZ:sW w φ bg [.blk aE 104 B5,.blk ay 104 B5,.blk aJ 78 B1,.blk b7 28 B0,.blk bd 169 B3] fH:=iX
 refine zW (j:=0) (vs:=B4) Z Z Z Z iZ Z bp Z Z zI (zA Z) Z Z Z ?_
 intro fI i3
 have cX:sW w φ bg [.blk aE 104 B4,.blk ay 104 B5,.blk aJ 78 B1,.blk b7 28 B0,.blk bd 169 B3] fI:=i3
 refine oA Z Z (eN (zS (zR ?_)))
 cases lV
 exact ⟨rfl,_,(wDy (rs:=[.cell 4 104,.cell 5 104,.tmp 6]) (vs:=[.agg B5.toArray,.agg B4.toArray,jV fw]) ⟨⟨_,bt,(wBA zh zI (cX.blkAt (k:=1) rfl) (vs:=B5) rfl rfl)⟩,⟨⟨_,bp,(wBA zh zI (cX.blkAt (k:=0) rfl) (vs:=B4) rfl rfl)⟩,⟨rfl,trivial⟩⟩⟩ rfl),bg,_,(cX.pick [] _ (by decide) rfl),rfl,rfl⟩
 by_cases c2:p1.Kind=1
 have eK:=hm;rw [if_neg c1,if_pos c2] at eK
 refine sR gCu Z ?_
 let B6:List Value:=[.slice aZ p0.Starts.length a8,.slice a5 p0.Splits.length a9,.slice a6 p0.Clocks.length ba,.slice a7 p0.Readings.length bb]
 refine zu (cs:=B6) rfl rfl rfl rfl rfl rfl (by rfl) hS ?_
 intro mT aK i4
 let B7:List Value:=[jV p1.Kind,jV p1.Skier,jV p1.Index,.bool p1.Up]
 refine zu (cs:=B7) rfl rfl rfl rfl rfl rfl (by rfl) i4 ?_
 intro mU aL i5
 let B8:List Value:=[jV 0,jV 0]
 refine zV (cs:=B8) Z Z Z Z Z zd Z i5 ?_
 intro mV az i6
 refine zV (cs:=B8) Z Z Z Z Z zd Z i6 ?_
 intro dz aD i7
 refine oA Z Z (eN ?_)
 have q:=bnd eK
 obtain ⟨⟨⟩,l5,eL⟩:=q
 try dsimp only at eL
 let B9:List Value:=[.func (.func 111) #[] #[],.func (.func 112) #[] #[],.func (.func 113) #[] #[]]
 refine yO (fun σ_ w_=>∃ (φ_:PHeap) (bc:Nat),σ_ 2=.pointer (some ⟨aK,0,none⟩)/\σ_ 3=.pointer (some ⟨aL,0,none⟩)/\σ_ 4=.pointer (some ⟨az,0,none⟩)/\σ_ 5=.pointer (some ⟨aD,0,none⟩)/\σ_ 7=.pointer (some ⟨bc,0,none⟩)/\PHeap.Le φ φ_/\sW w φ φ_ [.blk aD 104 B8,.blk az 104 B8,.blk aL 78 B7,.blk aK 28 B6,.blk bc 169 B9] w_) ?_ ?_
 have q:=bnd l5
 obtain ⟨⟨⟩,dX,de⟩:=q
 try dsimp only at de
 refine ZE ZF [2,3,1,3,2,0] gDd (by kernel_rfl) ?_
 have bJ:=i7.drew
 generalize hw_W204:({ dz with drawn:=dz.drawn + 1 }:World)=fJ at bJ ⊢
 refine oR Z (zG Z Z zj Z yL) (oL Z (bJ.ldB (j:=2) Z Z Z yR (v:=jV p1.Kind) Z) (zr ?_ ?_))
 refine zF 0 Z Z Z Z (zD Z Z yS zN Z) bJ (fun hs=>wAz fJ φ hs dX) (.inr Z) ?_
 rintro dp my oz fK ma i9 ⟨rfl,rfl⟩
 have ja:sW w φ dp [.blk aD 104 B8,.blk az 104 B8,.blk aL 78 B7,.blk aK 28 B6] fK:=i9
 refine zg rfl rfl rfl rfl (fun _=>(yh (i:=1) rfl rfl (congrArg (jV) c2) Zo ZW (by decide) (by decide) (wCr yW ZW rfl))) (zV (cs:=[.nilFunc,.nilFunc,.nilFunc]) rfl rfl rfl rfl rfl yB rfl ja ?_)
 intro mW dH jb
 refine zW (j:=0) (vs:=B9) Z Z Z Z jb Z Z Z Z ZW (zA Z) Z Z Z ?_
 intro fL jc
 have jd:sW w φ dp [.blk dH 169 B9,.blk aD 104 B8,.blk az 104 B8,.blk aL 78 B7,.blk aK 28 B6] fL:=jc
 refine zb ?_
 cases de
 exact zH ⟨rfl,⟨dp,dH,rfl,rfl,rfl,rfl,rfl,ma,(jd.pick [1,2,3,4,0] _ (by decide) rfl)⟩⟩
 refine zV (cs:=[.nilFunc,.nilFunc,.nilFunc]) Z Z Z Z Z yB Z bJ ?_
 intro fM cJ je
 refine zF 0 Z Z Z Z (zD Z Z yS zN Z) je (fun hs=>wAz fM φ hs dX) (.inr Z) ?_
 rintro dq mz oB fN mb jf ⟨rfl,rfl⟩
 have jg:sW w φ dq [.blk cJ 169 [.nilFunc,.nilFunc,.nilFunc],.blk aD 104 B8,.blk az 104 B8,.blk aL 78 B7,.blk aK 28 B6] fN:=jf
 refine zg rfl rfl rfl rfl (fun _=>(yh (i:=1) rfl rfl (congrArg (jV) c2) Zo ZW (by decide) (by decide) (wCr yW ZW rfl))) (zW (j:=0) (vs:=B9) rfl rfl rfl rfl jg rfl rfl rfl rfl ZW (zA rfl) rfl rfl rfl ?_)
 intro fO jh
 have ji:sW w φ dq [.blk cJ 169 B9,.blk aD 104 B8,.blk az 104 B8,.blk aL 78 B7,.blk aK 28 B6] fO:=jh
 refine zb ?_
 cases de
 exact zH ⟨rfl,⟨dq,cJ,rfl,rfl,rfl,rfl,rfl,mb,(ji.pick [1,2,3,4,0] _ (by decide) rfl)⟩⟩
 rintro oY fP ⟨mj,bc,dP,cR,bq,bm,dQ,cc,bK⟩
 refine sR (wEI (.fx 4 (wLB gBs) .stop)) Z (oR Z (zG Z dQ Zt Z Try.sizeOf166) (oL Z (bK.ldB (j:=4) Z Z Z Try.isAgg166 (v:=.func (.func 112) #[] #[]) Z) (oL Z (bK.ldBA (j:=3) Z Z dP zf zX (vs:=B6) Z Z) (oL Z (bK.ldBA (j:=2) Z Z cR Zp ZN (vs:=B7) Z Z) ?_))))
 have dY:=bX.le cc
 have dZ:=bY.le cc
 have d5:=bZ.le cc
 have d7:=ca.le cc
 have q:=bnd eL
 obtain ⟨⟨co,cp⟩,io,eM⟩:=q
 try dsimp only at eM
 refine zF 0 Z Z Z Z (zD Z Z Try.call112 (zB Z (zB Z zN)) Z) bK (fun hs=>wGt p0 aZ a8 a5 a9 a6 ba a7 bb p1 fP mj hs dY dZ d5 d7 io) (.inr Z) ?_
 rintro cy mA oC fQ cd jj ⟨rfl,rfl⟩
 have jk:sW w φ cy [.blk aD 104 B8,.blk az 104 B8,.blk aL 78 B7,.blk aK 28 B6,.blk bc 169 B9] fQ:=jj
 refine oM Z Z (oR Z (zU Z Z (v:=.agg #[jV co.skier,jV co.mat]) Z) (oR Z (zU Z Z (v:=.agg #[jV cp.skier,jV cp.mat]) Z) ?_))
 let aj:List Value:=[jV co.skier,jV co.mat]
 refine zW (j:=1) (vs:=aj) Z Z Z Z jk Z bq Z Z zI (zA Z) Z Z Z ?_
 intro fR jl
 have jm:sW w φ cy [.blk aD 104 B8,.blk az 104 aj,.blk aL 78 B7,.blk aK 28 B6,.blk bc 169 B9] fR:=jl
 let ac:List Value:=[jV cp.skier,jV cp.mat]
 refine zW (j:=0) (vs:=ac) Z Z Z Z jm Z bm Z Z zI (zA Z) Z Z Z ?_
 intro dB jo
 have bL:sW w φ cy [.blk aD 104 ac,.blk az 104 aj,.blk aL 78 B7,.blk aK 28 B6,.blk bc 169 B9] dB:=jo
 refine eN (sR (wEI (.fx 4 (wJg (.nil)) .stop)) Z (oR Z (zG Z dQ Zt Z Try.sizeOf167) (oL Z (bL.ldB (j:=4) Z Z Z Try.isAgg167 (v:=.func (.func 113) #[] #[]) Z) (oL Z (bL.ldBA (j:=3) Z Z dP zf zX (vs:=B6) Z Z) (oL Z (bL.ldBA (j:=2) Z Z cR Zp ZN (vs:=B7) Z Z) ?_)))))
 have ip:=dY.le cd
 have iq:=dZ.le cd
 have ir:=d5.le cd
 have it:=d7.le cd
 have q:=bnd eM
 obtain ⟨⟨dl,fy⟩,iu,eQ⟩:=q
 try dsimp only at eQ
 refine zF 0 Z Z Z Z (zD Z Z Try.call113 (zB Z (zB Z zN)) Z) bL (fun hs=>wGu p0 aZ a8 a5 a9 a6 ba a7 bb p1 dB cy hs ip iq ir it iu) (.inr Z) ?_
 rintro bh mB oD cG oj jp ⟨rfl,rfl⟩
 have bB:sW w φ bh [.blk aD 104 ac,.blk az 104 aj,.blk aL 78 B7,.blk aK 28 B6,.blk bc 169 B9] cG:=jp
 refine oM Z Z (oR Z (zU Z Z (v:=jV dl) Z) (oR Z (zU Z Z (v:=jV fy) Z) (oA Z Z (oA Z Z (eN (zL (sR fL3 Z (oR Z (zG Z cR zj Z Try.sizeOf4) (oL Z (bB.ldB (j:=2) Z Z Z Try.isAgg4 (v:=.bool p1.Up) Z) (oR Z (Ze Z Z) (eN (ifc eQ ?_ ?_))))))))))))
 intro cO lW
 refine zt (nC cO.out) (kN ?_)
 have q:=bnd lW
 obtain ⟨⟨⟩,fq,eU⟩:=q
 try dsimp only at eU
 refine yO (fun σ_ w_=>∃ (φ_:PHeap),σ_ 4=.pointer (some ⟨az,0,none⟩)/\σ_ 5=.pointer (some ⟨aD,0,none⟩)/\σ_ 6=jV dl/\PHeap.Le bh φ_/\sW w φ φ_ [.blk aD 104 ac,.blk az 104 aj,.blk aL 78 B7,.blk aK 28 B6,.blk bc 169 B9] w_) ?_ ?_
 refine ZE ZF [1,2,3,0,0,3] gDe (by kernel_rfl) ?_
 have bC:=bB.drew
 generalize hw_W295:({ cG with drawn:=cG.drawn + 1 }:World)=mX at bC ⊢
 refine oL Z (bC.ldBA (j:=1) Z Z bq zh zI (vs:=aj) Z Z) (oM Z Z (zr ?_ ?_))
 refine ZR Z Z Z Z (bC.ldBA (j:=0) Z Z bm zh zI (vs:=ac) Z Z) (zW (j:=1) (vs:=aj) Z Z Z Z bC Z bq Z Z zI (zA Z) Z Z Z ?_)
 intro fS jq
 have jr:sW w φ bh [.blk aD 104 ac,.blk az 104 aj,.blk aL 78 B7,.blk aK 28 B6,.blk bc 169 B9] fS:=jq
 refine zW (j:=0) (vs:=ac) Z Z Z Z jr Z bm Z Z zI (zA Z) Z Z Z ?_
 intro fT jt
 have ju:sW w φ bh [.blk aD 104 ac,.blk az 104 aj,.blk aL 78 B7,.blk aK 28 B6,.blk bc 169 B9] fT:=jt
 refine oA Z Z (zb ?_)
 cases fq
 exact zH ⟨Z,⟨bh,bq,bm,Z,(zO _),ju⟩⟩
 refine zW (j:=1) (vs:=aj) Z Z Z Z bC Z bq Z Z zI (zA Z) Z Z Z ?_
 intro fU jv
 have eF:sW w φ bh [.blk aD 104 ac,.blk az 104 aj,.blk aL 78 B7,.blk aK 28 B6,.blk bc 169 B9] fU:=jv
 refine ZR Z Z Z Z (eF.ldBA (j:=0) Z Z bm zh zI (vs:=ac) Z Z) (zW (j:=0) (vs:=ac) Z Z Z Z eF Z bm Z Z zI (zA Z) Z Z Z ?_)
 intro fV jw
 have jx:sW w φ bh [.blk aD 104 ac,.blk az 104 aj,.blk aL 78 B7,.blk aK 28 B6,.blk bc 169 B9] fV:=jw
 refine oA Z Z (zb ?_)
 cases fq
 exact zH ⟨Z,⟨bh,bq,bm,Z,(zO _),jx⟩⟩
 rintro oZ mY ⟨ml,gZ,g6,g7,om,cY⟩
 refine zS ?_
 cases eU
 exact ⟨rfl,_,(wDy (rs:=[.cell 4 104,.cell 5 104,.tmp 6]) (vs:=[.agg aj.toArray,.agg ac.toArray,jV dl]) ⟨⟨_,gZ,(wBA zh zI (cY.blkAt (k:=1) rfl) (vs:=aj) rfl rfl)⟩,⟨⟨_,g6,(wBA zh zI (cY.blkAt (k:=0) rfl) (vs:=ac) rfl rfl)⟩,⟨g7,trivial⟩⟩⟩ rfl),ml,_,(cY.pick [] _ (by decide) rfl),rfl,rfl⟩
 intro cO lX
 refine ZL (nF (cO.out)) (sR (wCa gCf) Z (oL Z (bB.ldBA (j:=0) Z Z bm zh zI (vs:=ac) Z Z) (oL Z (bB.ldBA (j:=1) Z Z bq zh zI (vs:=aj) Z Z) (oM Z Z (zW (j:=1) (vs:=ac) Z Z Z Z bB Z bq Z Z zI (zA Z) Z Z Z ?_)))))
 intro fW jy
 have jz:sW w φ bh [.blk aD 104 ac,.blk az 104 ac,.blk aL 78 B7,.blk aK 28 B6,.blk bc 169 B9] fW:=jy
 refine zW (j:=0) (vs:=aj) Z Z Z Z jz Z bm Z Z zI (zA Z) Z Z Z ?_
 intro fY jA
 have cZ:sW w φ bh [.blk aD 104 aj,.blk az 104 ac,.blk aL 78 B7,.blk aK 28 B6,.blk bc 169 B9] fY:=jA
 refine oA Z Z (eN (zS (zR ?_)))
 cases lX
 exact ⟨rfl,_,(wDy (rs:=[.cell 4 104,.cell 5 104,.tmp 6]) (vs:=[.agg ac.toArray,.agg aj.toArray,jV fy]) ⟨⟨_,bq,(wBA zh zI (cZ.blkAt (k:=1) rfl) (vs:=ac) rfl rfl)⟩,⟨⟨_,bm,(wBA zh zI (cZ.blkAt (k:=0) rfl) (vs:=aj) rfl rfl)⟩,⟨rfl,trivial⟩⟩⟩ rfl),bh,_,(cZ.pick [] _ (by decide) rfl),rfl,rfl⟩
 by_cases c3:p1.Kind=2
 have eV:=hm;rw [if_neg c1,if_neg c2,if_pos c3] at eV
 refine sR gCu Z ?_
 let ak:List Value:=[.slice aZ p0.Starts.length a8,.slice a5 p0.Splits.length a9,.slice a6 p0.Clocks.length ba,.slice a7 p0.Readings.length bb]
 refine zu (cs:=ak) rfl rfl rfl rfl rfl rfl (by rfl) hS ?_
 intro mZ aM jB
 let am:List Value:=[jV p1.Kind,jV p1.Skier,jV p1.Index,.bool p1.Up]
 refine zu (cs:=am) rfl rfl rfl rfl rfl rfl (by rfl) jB ?_
 intro m4 aN jC
 let aV:List Value:=[jV 0,jV 0]
 refine zV (cs:=aV) Z Z Z Z Z zd Z jC ?_
 intro m5 aF jD
 refine zV (cs:=aV) Z Z Z Z Z zd Z jD ?_
 intro dC aG jE
 refine oA Z Z (eN ?_)
 have q:=bnd eV
 obtain ⟨⟨⟩,l7,eW⟩:=q
 try dsimp only at eW
 let aR:List Value:=[.func (.func 114) #[] #[],.func (.func 115) #[] #[],.func (.func 116) #[] #[]]
 refine yO (fun σ_ w_=>∃ (φ_:PHeap) (be:Nat),σ_ 2=.pointer (some ⟨aM,0,none⟩)/\σ_ 3=.pointer (some ⟨aN,0,none⟩)/\σ_ 4=.pointer (some ⟨aF,0,none⟩)/\σ_ 5=.pointer (some ⟨aG,0,none⟩)/\σ_ 7=.pointer (some ⟨be,0,none⟩)/\PHeap.Le φ φ_/\sW w φ φ_ [.blk aG 104 aV,.blk aF 104 aV,.blk aN 78 am,.blk aM 28 ak,.blk be 169 aR] w_) ?_ ?_
 have q:=bnd l7
 obtain ⟨⟨⟩,ef,df⟩:=q
 try dsimp only at df
 refine ZE ZF [2,3,1,3,2,0] gDd (by kernel_rfl) ?_
 have bM:=jE.drew
 generalize hw_W363:({ dC with drawn:=dC.drawn + 1 }:World)=fZ at bM ⊢
 refine oR Z (zG Z Z zj Z yL) (oL Z (bM.ldB (j:=2) Z Z Z yR (v:=jV p1.Kind) Z) (zr ?_ ?_))
 refine zF 0 Z Z Z Z (zD Z Z yS zN Z) bM (fun hs=>wAz fZ φ hs ef) (.inr Z) ?_
 rintro dr mC oE f4 mc jF ⟨rfl,rfl⟩
 have jG:sW w φ dr [.blk aG 104 aV,.blk aF 104 aV,.blk aN 78 am,.blk aM 28 ak] f4:=jF
 refine zg rfl rfl rfl rfl (fun _=>(yh (i:=2) rfl rfl (congrArg (jV) c3) Zo ZW (by decide) (by decide) (wCr yW ZW rfl))) (zV (cs:=[.nilFunc,.nilFunc,.nilFunc]) rfl rfl rfl rfl rfl yB rfl jG ?_)
 intro m6 dI jH
 refine zW (j:=0) (vs:=aR) Z Z Z Z jH Z Z Z Z ZW (zA Z) Z Z Z ?_
 intro f6 jI
 have jJ:sW w φ dr [.blk dI 169 aR,.blk aG 104 aV,.blk aF 104 aV,.blk aN 78 am,.blk aM 28 ak] f6:=jI
 refine zb ?_
 cases df
 exact zH ⟨rfl,⟨dr,dI,rfl,rfl,rfl,rfl,rfl,mc,(jJ.pick [1,2,3,4,0] _ (by decide) rfl)⟩⟩
 refine zV (cs:=[.nilFunc,.nilFunc,.nilFunc]) Z Z Z Z Z yB Z bM ?_
 intro f7 cK jK
 refine zF 0 Z Z Z Z (zD Z Z yS zN Z) jK (fun hs=>wAz f7 φ hs ef) (.inr Z) ?_
 rintro dt mD oG f8 md jL ⟨rfl,rfl⟩
 have jM:sW w φ dt [.blk cK 169 [.nilFunc,.nilFunc,.nilFunc],.blk aG 104 aV,.blk aF 104 aV,.blk aN 78 am,.blk aM 28 ak] f8:=jL
 refine zg rfl rfl rfl rfl (fun _=>(yh (i:=2) rfl rfl (congrArg (jV) c3) Zo ZW (by decide) (by decide) (wCr yW ZW rfl))) (zW (j:=0) (vs:=aR) rfl rfl rfl rfl jM rfl rfl rfl rfl ZW (zA rfl) rfl rfl rfl ?_)
 intro f9 jN
 have jO:sW w φ dt [.blk cK 169 aR,.blk aG 104 aV,.blk aF 104 aV,.blk aN 78 am,.blk aM 28 ak] f9:=jN
 refine zb ?_
 cases df
 exact zH ⟨rfl,⟨dt,cK,rfl,rfl,rfl,rfl,rfl,md,(jO.pick [1,2,3,4,0] _ (by decide) rfl)⟩⟩
 rintro o0 ga ⟨mo,be,dR,cS,br,bn,dS,cf,bN⟩
 refine sR (wEI (.fx 4 (wLB gBs) .stop)) Z (oR Z (zG Z dS Zt Z Try.sizeOf166) (oL Z (bN.ldB (j:=4) Z Z Z Try.isAgg166 (v:=.func (.func 115) #[] #[]) Z) (oL Z (bN.ldBA (j:=3) Z Z dR zf zX (vs:=ak) Z Z) (oL Z (bN.ldBA (j:=2) Z Z cS Zp ZN (vs:=am) Z Z) ?_))))
 have eg:=bX.le cf
 have eh:=bY.le cf
 have ej:=bZ.le cf
 have ek:=ca.le cf
 have q:=bnd eW
 obtain ⟨⟨cq,cr⟩,iv,eX⟩:=q
 try dsimp only at eX
 refine zF 0 Z Z Z Z (zD Z Z Try.call115 (zB Z (zB Z zN)) Z) bN (fun hs=>wGw p0 aZ a8 a5 a9 a6 ba a7 bb p1 ga mo hs eg eh ej ek iv) (.inr Z) ?_
 rintro cz mE oH ge cg jP ⟨rfl,rfl⟩
 have jQ:sW w φ cz [.blk aG 104 aV,.blk aF 104 aV,.blk aN 78 am,.blk aM 28 ak,.blk be 169 aR] ge:=jP
 refine oM Z Z (oR Z (zU Z Z (v:=.agg #[jV cq.skier,jV cq.mat]) Z) (oR Z (zU Z Z (v:=.agg #[jV cr.skier,jV cr.mat]) Z) ?_))
 let an:List Value:=[jV cq.skier,jV cq.mat]
 refine zW (j:=1) (vs:=an) Z Z Z Z jQ Z br Z Z zI (zA Z) Z Z Z ?_
 intro gg jR
 have jS:sW w φ cz [.blk aG 104 aV,.blk aF 104 an,.blk aN 78 am,.blk aM 28 ak,.blk be 169 aR] gg:=jR
 let ae:List Value:=[jV cr.skier,jV cr.mat]
 refine zW (j:=0) (vs:=ae) Z Z Z Z jS Z bn Z Z zI (zA Z) Z Z Z ?_
 intro dD jT
 have bP:sW w φ cz [.blk aG 104 ae,.blk aF 104 an,.blk aN 78 am,.blk aM 28 ak,.blk be 169 aR] dD:=jT
 refine eN (sR (wEI (.fx 4 (wJg (.nil)) .stop)) Z (oR Z (zG Z dS Zt Z Try.sizeOf167) (oL Z (bP.ldB (j:=4) Z Z Z Try.isAgg167 (v:=.func (.func 116) #[] #[]) Z) (oL Z (bP.ldBA (j:=3) Z Z dR zf zX (vs:=ak) Z Z) (oL Z (bP.ldBA (j:=2) Z Z cS Zp ZN (vs:=am) Z Z) ?_)))))
 have iw:=eg.le cg
 have iy:=eh.le cg
 have iz:=ej.le cg
 have iA:=ek.le cg
 have q:=bnd eX
 obtain ⟨⟨dm,fz⟩,iB,eY⟩:=q
 try dsimp only at eY
 refine zF 0 Z Z Z Z (zD Z Z Try.call116 (zB Z (zB Z zN)) Z) bP (fun hs=>wGx p0 aZ a8 a5 a9 a6 ba a7 bb p1 dD cz hs iw iy iz iA iB) (.inr Z) ?_
 rintro bi mF oI cH oq jU ⟨rfl,rfl⟩
 have bD:sW w φ bi [.blk aG 104 ae,.blk aF 104 an,.blk aN 78 am,.blk aM 28 ak,.blk be 169 aR] cH:=jU
 refine oM Z Z (oR Z (zU Z Z (v:=jV dm) Z) (oR Z (zU Z Z (v:=jV fz) Z) (oA Z Z (oA Z Z (eN (zL (sR fL3 Z (oR Z (zG Z cS zj Z Try.sizeOf4) (oL Z (bD.ldB (j:=2) Z Z Z Try.isAgg4 (v:=.bool p1.Up) Z) (oR Z (Ze Z Z) (eN (ifc eY ?_ ?_))))))))))))
 intro cP lY
 refine zt (nC cP.out) (kN ?_)
 have q:=bnd lY
 obtain ⟨⟨⟩,ft,eZ⟩:=q
 try dsimp only at eZ
 refine yO (fun σ_ w_=>∃ (φ_:PHeap),σ_ 4=.pointer (some ⟨aF,0,none⟩)/\σ_ 5=.pointer (some ⟨aG,0,none⟩)/\σ_ 6=jV dm/\PHeap.Le bi φ_/\sW w φ φ_ [.blk aG 104 ae,.blk aF 104 an,.blk aN 78 am,.blk aM 28 ak,.blk be 169 aR] w_) ?_ ?_
 refine ZE ZF [1,2,3,0,0,3] gDe (by kernel_rfl) ?_
 have bE:=bD.drew
 generalize hw_W454:({ cH with drawn:=cH.drawn + 1 }:World)=m7 at bE ⊢
 refine oL Z (bE.ldBA (j:=1) Z Z br zh zI (vs:=an) Z Z) (oM Z Z (zr ?_ ?_))
 refine ZR Z Z Z Z (bE.ldBA (j:=0) Z Z bn zh zI (vs:=ae) Z Z) (zW (j:=1) (vs:=an) Z Z Z Z bE Z br Z Z zI (zA Z) Z Z Z ?_)
 intro gi jW
 have jX:sW w φ bi [.blk aG 104 ae,.blk aF 104 an,.blk aN 78 am,.blk aM 28 ak,.blk be 169 aR] gi:=jW
 refine zW (j:=0) (vs:=ae) Z Z Z Z jX Z bn Z Z zI (zA Z) Z Z Z ?_
 intro gj jY
 have jZ:sW w φ bi [.blk aG 104 ae,.blk aF 104 an,.blk aN 78 am,.blk aM 28 ak,.blk be 169 aR] gj:=jY
 refine oA Z Z (zb ?_)
 cases ft
 exact zH ⟨Z,⟨bi,br,bn,Z,(zO _),jZ⟩⟩
 refine zW (j:=1) (vs:=an) Z Z Z Z bE Z br Z Z zI (zA Z) Z Z Z ?_
 intro gp j0
 have eG:sW w φ bi [.blk aG 104 ae,.blk aF 104 an,.blk aN 78 am,.blk aM 28 ak,.blk be 169 aR] gp:=j0
 refine ZR Z Z Z Z (eG.ldBA (j:=0) Z Z bn zh zI (vs:=ae) Z Z) (zW (j:=0) (vs:=ae) Z Z Z Z eG Z bn Z Z zI (zA Z) Z Z Z ?_)
 intro gq j1
 have j2:sW w φ bi [.blk aG 104 ae,.blk aF 104 an,.blk aN 78 am,.blk aM 28 ak,.blk be 169 aR] gq:=j1
 refine oA Z Z (zb ?_)
 cases ft
 exact zH ⟨Z,⟨bi,br,bn,Z,(zO _),j2⟩⟩
 rintro o3 m8 ⟨mp,g8,g9,ib,ot,c6⟩
 refine zS ?_
 cases eZ
 exact ⟨rfl,_,(wDy (rs:=[.cell 4 104,.cell 5 104,.tmp 6]) (vs:=[.agg an.toArray,.agg ae.toArray,jV dm]) ⟨⟨_,g8,(wBA zh zI (c6.blkAt (k:=1) rfl) (vs:=an) rfl rfl)⟩,⟨⟨_,g9,(wBA zh zI (c6.blkAt (k:=0) rfl) (vs:=ae) rfl rfl)⟩,⟨ib,trivial⟩⟩⟩ rfl),mp,_,(c6.pick [] _ (by decide) rfl),rfl,rfl⟩
 intro cP lZ
 refine ZL (nF (cP.out)) (sR (wCa gCf) Z (oL Z (bD.ldBA (j:=0) Z Z bn zh zI (vs:=ae) Z Z) (oL Z (bD.ldBA (j:=1) Z Z br zh zI (vs:=an) Z Z) (oM Z Z (zW (j:=1) (vs:=ae) Z Z Z Z bD Z br Z Z zI (zA Z) Z Z Z ?_)))))
 intro gt j3
 have j4:sW w φ bi [.blk aG 104 ae,.blk aF 104 ae,.blk aN 78 am,.blk aM 28 ak,.blk be 169 aR] gt:=j3
 refine zW (j:=0) (vs:=an) Z Z Z Z j4 Z bn Z Z zI (zA Z) Z Z Z ?_
 intro gu j5
 have da:sW w φ bi [.blk aG 104 an,.blk aF 104 ae,.blk aN 78 am,.blk aM 28 ak,.blk be 169 aR] gu:=j5
 refine oA Z Z (eN (zS (zR ?_)))
 cases lZ
 exact ⟨rfl,_,(wDy (rs:=[.cell 4 104,.cell 5 104,.tmp 6]) (vs:=[.agg ae.toArray,.agg an.toArray,jV fz]) ⟨⟨_,br,(wBA zh zI (da.blkAt (k:=1) rfl) (vs:=ae) rfl rfl)⟩,⟨⟨_,bn,(wBA zh zI (da.blkAt (k:=0) rfl) (vs:=an) rfl rfl)⟩,⟨rfl,trivial⟩⟩⟩ rfl),bi,_,(da.pick [] _ (by decide) rfl),rfl,rfl⟩
 by_cases c4:p1.Kind=3
 have fb:=hm;rw [if_neg c1,if_neg c2,if_neg c3,if_pos c4] at fb
 refine sR gCu Z ?_
 let ao:List Value:=[.slice aZ p0.Starts.length a8,.slice a5 p0.Splits.length a9,.slice a6 p0.Clocks.length ba,.slice a7 p0.Readings.length bb]
 refine zu (cs:=ao) rfl rfl rfl rfl rfl rfl (by rfl) hS ?_
 intro m9 aO j6
 let ap:List Value:=[jV p1.Kind,jV p1.Skier,jV p1.Index,.bool p1.Up]
 refine zu (cs:=ap) rfl rfl rfl rfl rfl rfl (by rfl) j6 ?_
 intro n3 aP j7
 let aX:List Value:=[jV 0,jV 0]
 refine zV (cs:=aX) Z Z Z Z Z zd Z j7 ?_
 intro n4 aH j8
 refine zV (cs:=aX) Z Z Z Z Z zd Z j8 ?_
 intro dE aI j9
 refine oA Z Z (eN ?_)
 have q:=bnd fb
 obtain ⟨⟨⟩,l8,fd⟩:=q
 try dsimp only at fd
 let aS:List Value:=[.func (.func 117) #[] #[],.func (.func 118) #[] #[],.func (.func 119) #[] #[]]
 refine yO (fun σ_ w_=>∃ (φ_:PHeap) (bf:Nat),σ_ 2=.pointer (some ⟨aO,0,none⟩)/\σ_ 3=.pointer (some ⟨aP,0,none⟩)/\σ_ 4=.pointer (some ⟨aH,0,none⟩)/\σ_ 5=.pointer (some ⟨aI,0,none⟩)/\σ_ 7=.pointer (some ⟨bf,0,none⟩)/\PHeap.Le φ φ_/\sW w φ φ_ [.blk aI 104 aX,.blk aH 104 aX,.blk aP 78 ap,.blk aO 28 ao,.blk bf 169 aS] w_) ?_ ?_
 have q:=bnd l8
 obtain ⟨⟨⟩,en,dh⟩:=q
 try dsimp only at dh
 refine ZE ZF [2,3,1,3,2,0] gDd (by kernel_rfl) ?_
 have bR:=j9.drew
 generalize hw_W522:({ dE with drawn:=dE.drawn + 1 }:World)=gw at bR ⊢
 refine oR Z (zG Z Z zj Z yL) (oL Z (bR.ldB (j:=2) Z Z Z yR (v:=jV p1.Kind) Z) (zr ?_ ?_))
 refine zF 0 Z Z Z Z (zD Z Z yS zN Z) bR (fun hs=>wAz gw φ hs en) (.inr Z) ?_
 rintro dv mH oK gx mf k7 ⟨rfl,rfl⟩
 have k8:sW w φ dv [.blk aI 104 aX,.blk aH 104 aX,.blk aP 78 ap,.blk aO 28 ao] gx:=k7
 refine zg rfl rfl rfl rfl (fun _=>(yh (i:=3) rfl rfl (congrArg (jV) c4) Zo ZW (by decide) (by decide) (wCr yW ZW rfl))) (zV (cs:=[.nilFunc,.nilFunc,.nilFunc]) rfl rfl rfl rfl rfl yB rfl k8 ?_)
 intro n6 dJ k9
 refine zW (j:=0) (vs:=aS) Z Z Z Z k9 Z Z Z Z ZW (zA Z) Z Z Z ?_
 intro gy lb
 have lc:sW w φ dv [.blk dJ 169 aS,.blk aI 104 aX,.blk aH 104 aX,.blk aP 78 ap,.blk aO 28 ao] gy:=lb
 refine zb ?_
 cases dh
 exact zH ⟨rfl,⟨dv,dJ,rfl,rfl,rfl,rfl,rfl,mf,(lc.pick [1,2,3,4,0] _ (by decide) rfl)⟩⟩
 refine zV (cs:=[.nilFunc,.nilFunc,.nilFunc]) Z Z Z Z Z yB Z bR ?_
 intro gz cL lf
 refine zF 0 Z Z Z Z (zD Z Z yS zN Z) lf (fun hs=>wAz gz φ hs en) (.inr Z) ?_
 rintro dw mI oO gA mg lg ⟨rfl,rfl⟩
 have lh:sW w φ dw [.blk cL 169 [.nilFunc,.nilFunc,.nilFunc],.blk aI 104 aX,.blk aH 104 aX,.blk aP 78 ap,.blk aO 28 ao] gA:=lg
 refine zg rfl rfl rfl rfl (fun _=>(yh (i:=3) rfl rfl (congrArg (jV) c4) Zo ZW (by decide) (by decide) (wCr yW ZW rfl))) (zW (j:=0) (vs:=aS) rfl rfl rfl rfl lh rfl rfl rfl rfl ZW (zA rfl) rfl rfl rfl ?_)
 intro gB lj
 have lk:sW w φ dw [.blk cL 169 aS,.blk aI 104 aX,.blk aH 104 aX,.blk aP 78 ap,.blk aO 28 ao] gB:=lj
 refine zb ?_
 cases dh
 exact zH ⟨rfl,⟨dw,cL,rfl,rfl,rfl,rfl,rfl,mg,(lk.pick [1,2,3,4,0] _ (by decide) rfl)⟩⟩
 rintro o5 gC ⟨mq,bf,dT,cU,bs,bo,dU,ci,bS⟩
 refine sR (wEI (.fx 4 (wLB gBs) .stop)) Z (oR Z (zG Z dU Zt Z Try.sizeOf166) (oL Z (bS.ldB (j:=4) Z Z Z Try.isAgg166 (v:=.func (.func 118) #[] #[]) Z) (oL Z (bS.ldBA (j:=3) Z Z dT zf zX (vs:=ao) Z Z) (oL Z (bS.ldBA (j:=2) Z Z cU Zp ZN (vs:=ap) Z Z) ?_))))
 have eo:=bX.le ci
 have ep:=bY.le ci
 have er:=bZ.le ci
 have eu:=ca.le ci
 have q:=bnd fd
 obtain ⟨⟨ct,cu⟩,iC,ff⟩:=q
 try dsimp only at ff
 refine zF 0 Z Z Z Z (zD Z Z Try.call118 (zB Z (zB Z zN)) Z) bS (fun hs=>wGZ p0 aZ a8 a5 a9 a6 ba a7 bb p1 gC mq hs eo ep er eu iC) (.inr Z) ?_
 rintro cA mJ oP gE cm lm ⟨rfl,rfl⟩
 have ln:sW w φ cA [.blk aI 104 aX,.blk aH 104 aX,.blk aP 78 ap,.blk aO 28 ao,.blk bf 169 aS] gE:=lm
 refine oM Z Z (oR Z (zU Z Z (v:=.agg #[jV ct.skier,jV ct.mat]) Z) (oR Z (zU Z Z (v:=.agg #[jV cu.skier,jV cu.mat]) Z) ?_))
 let aq:List Value:=[jV ct.skier,jV ct.mat]
 refine zW (j:=1) (vs:=aq) Z Z Z Z ln Z bs Z Z zI (zA Z) Z Z Z ?_
 intro gF lq
 have ls:sW w φ cA [.blk aI 104 aX,.blk aH 104 aq,.blk aP 78 ap,.blk aO 28 ao,.blk bf 169 aS] gF:=lq
 let af:List Value:=[jV cu.skier,jV cu.mat]
 refine zW (j:=0) (vs:=af) Z Z Z Z ls Z bo Z Z zI (zA Z) Z Z Z ?_
 intro dF lu
 have bU:sW w φ cA [.blk aI 104 af,.blk aH 104 aq,.blk aP 78 ap,.blk aO 28 ao,.blk bf 169 aS] dF:=lu
 refine eN (sR (wEI (.fx 4 (wJg (.nil)) .stop)) Z (oR Z (zG Z dU Zt Z Try.sizeOf167) (oL Z (bU.ldB (j:=4) Z Z Z Try.isAgg167 (v:=.func (.func 119) #[] #[]) Z) (oL Z (bU.ldBA (j:=3) Z Z dT zf zX (vs:=ao) Z Z) (oL Z (bU.ldBA (j:=2) Z Z cU Zp ZN (vs:=ap) Z Z) ?_)))))
 have iD:=eo.le cm
 have iE:=ep.le cm
 have iF:=er.le cm
 have iG:=eu.le cm
 have q:=bnd ff
 obtain ⟨⟨dn,fA⟩,iH,fg⟩:=q
 try dsimp only at fg
 refine zF 0 Z Z Z Z (zD Z Z Try.call119 (zB Z (zB Z zN)) Z) bU (fun hs=>wGa p0 aZ a8 a5 a9 a6 ba a7 bb p1 dF cA hs iD iE iF iG iH) (.inr Z) ?_
 rintro bj mK oQ cI ou lw ⟨rfl,rfl⟩
 have bF:sW w φ bj [.blk aI 104 af,.blk aH 104 aq,.blk aP 78 ap,.blk aO 28 ao,.blk bf 169 aS] cI:=lw
 refine oM Z Z (oR Z (zU Z Z (v:=jV dn) Z) (oR Z (zU Z Z (v:=jV fA) Z) (oA Z Z (oA Z Z (eN (zL (sR fL3 Z (oR Z (zG Z cU zj Z Try.sizeOf4) (oL Z (bF.ldB (j:=2) Z Z Z Try.isAgg4 (v:=.bool p1.Up) Z) (oR Z (Ze Z Z) (eN (ifc fg ?_ ?_))))))))))))
 intro cQ l3
 refine zt (nC cQ.out) (kN ?_)
 have q:=bnd l3
 obtain ⟨⟨⟩,fu,fh⟩:=q
 try dsimp only at fh
 refine yO (fun σ_ w_=>∃ (φ_:PHeap),σ_ 4=.pointer (some ⟨aH,0,none⟩)/\σ_ 5=.pointer (some ⟨aI,0,none⟩)/\σ_ 6=jV dn/\PHeap.Le bj φ_/\sW w φ φ_ [.blk aI 104 af,.blk aH 104 aq,.blk aP 78 ap,.blk aO 28 ao,.blk bf 169 aS] w_) ?_ ?_
 refine ZE ZF [1,2,3,0,0,3] gDe (by kernel_rfl) ?_
 have bG:=bF.drew
 generalize hw_W613:({ cI with drawn:=cI.drawn + 1 }:World)=n8 at bG ⊢
 refine oL Z (bG.ldBA (j:=1) Z Z bs zh zI (vs:=aq) Z Z) (oM Z Z (zr ?_ ?_))
 refine ZR Z Z Z Z (bG.ldBA (j:=0) Z Z bo zh zI (vs:=af) Z Z) (zW (j:=1) (vs:=aq) Z Z Z Z bG Z bs Z Z zI (zA Z) Z Z Z ?_)
 intro gG lx
 have ly:sW w φ bj [.blk aI 104 af,.blk aH 104 aq,.blk aP 78 ap,.blk aO 28 ao,.blk bf 169 aS] gG:=lx
 refine zW (j:=0) (vs:=af) Z Z Z Z ly Z bo Z Z zI (zA Z) Z Z Z ?_
 intro gH lz
 have lA:sW w φ bj [.blk aI 104 af,.blk aH 104 aq,.blk aP 78 ap,.blk aO 28 ao,.blk bf 169 aS] gH:=lz
 refine oA Z Z (zb ?_)
 cases fu
 exact zH ⟨Z,⟨bj,bs,bo,Z,(zO _),lA⟩⟩
 refine zW (j:=1) (vs:=aq) Z Z Z Z bG Z bs Z Z zI (zA Z) Z Z Z ?_
 intro gJ lB
 have eH:sW w φ bj [.blk aI 104 af,.blk aH 104 aq,.blk aP 78 ap,.blk aO 28 ao,.blk bf 169 aS] gJ:=lB
 refine ZR Z Z Z Z (eH.ldBA (j:=0) Z Z bo zh zI (vs:=af) Z Z) (zW (j:=0) (vs:=af) Z Z Z Z eH Z bo Z Z zI (zA Z) Z Z Z ?_)
 intro gK lC
 have lD:sW w φ bj [.blk aI 104 af,.blk aH 104 aq,.blk aP 78 ap,.blk aO 28 ao,.blk bf 169 aS] gK:=lC
 refine oA Z Z (zb ?_)
 cases fu
 exact zH ⟨Z,⟨bj,bs,bo,Z,(zO _),lD⟩⟩
 rintro o6 n9 ⟨mr,ic,ie,ig,ov,db⟩
 refine zS ?_
 cases fh
 exact ⟨rfl,_,(wDy (rs:=[.cell 4 104,.cell 5 104,.tmp 6]) (vs:=[.agg aq.toArray,.agg af.toArray,jV dn]) ⟨⟨_,ic,(wBA zh zI (db.blkAt (k:=1) rfl) (vs:=aq) rfl rfl)⟩,⟨⟨_,ie,(wBA zh zI (db.blkAt (k:=0) rfl) (vs:=af) rfl rfl)⟩,⟨ig,trivial⟩⟩⟩ rfl),mr,_,(db.pick [] _ (by decide) rfl),rfl,rfl⟩
 intro cQ l4
 refine ZL (nF (cQ.out)) (sR (wCa gCf) Z (oL Z (bF.ldBA (j:=0) Z Z bo zh zI (vs:=af) Z Z) (oL Z (bF.ldBA (j:=1) Z Z bs zh zI (vs:=aq) Z Z) (oM Z Z (zW (j:=1) (vs:=af) Z Z Z Z bF Z bs Z Z zI (zA Z) Z Z Z ?_)))))
 intro gL lE
 have lF:sW w φ bj [.blk aI 104 af,.blk aH 104 af,.blk aP 78 ap,.blk aO 28 ao,.blk bf 169 aS] gL:=lE
 refine zW (j:=0) (vs:=aq) Z Z Z Z lF Z bo Z Z zI (zA Z) Z Z Z ?_
 intro gM lG
 have dd:sW w φ bj [.blk aI 104 aq,.blk aH 104 af,.blk aP 78 ap,.blk aO 28 ao,.blk bf 169 aS] gM:=lG
 refine oA Z Z (eN (zS (zR ?_)))
 cases l4
 exact ⟨rfl,_,(wDy (rs:=[.cell 4 104,.cell 5 104,.tmp 6]) (vs:=[.agg af.toArray,.agg aq.toArray,jV fA]) ⟨⟨_,bs,(wBA zh zI (dd.blkAt (k:=1) rfl) (vs:=af) rfl rfl)⟩,⟨⟨_,bo,(wBA zh zI (dd.blkAt (k:=0) rfl) (vs:=aq) rfl rfl)⟩,⟨rfl,trivial⟩⟩⟩ rfl),bj,_,(dd.pick [] _ (by decide) rfl),rfl,rfl⟩
 have fj:=hm;rw [if_neg c1,if_neg c2,if_neg c3,if_neg c4] at fj
 refine sR gCu Z ?_
 let cC:List Value:=[.slice aZ p0.Starts.length a8,.slice a5 p0.Splits.length a9,.slice a6 p0.Clocks.length ba,.slice a7 p0.Readings.length bb]
 refine zu (cs:=cC) rfl rfl rfl rfl rfl rfl (by rfl) hS ?_
 intro oa dL lI
 let cD:List Value:=[jV p1.Kind,jV p1.Skier,jV p1.Index,.bool p1.Up]
 refine zu (cs:=cD) rfl rfl rfl rfl rfl rfl (by rfl) lI ?_
 intro oc dM lJ
 let bv:List Value:=[jV 0,jV 0]
 refine zV (cs:=bv) Z Z Z Z Z zd Z lJ ?_
 intro od dN lK
 refine zV (cs:=bv) Z Z Z Z Z zd Z lK ?_
 intro dG dO lL
 refine oA Z Z (eN (zL ?_))
 have q:=bnd fj
 obtain ⟨⟨⟩,ew,di⟩:=q
 try dsimp only at di
 refine ZE ZF [2,3,1,3,2,0] gDd (by kernel_rfl) ?_
 have bV:=lL.drew
 generalize hw_W669:({ dG with drawn:=dG.drawn + 1 }:World)=gN at bV ⊢
 refine oR Z (zG Z Z zj Z yL) (oL Z (bV.ldB (j:=2) Z Z Z yR (v:=jV p1.Kind) Z) (zr ?_ ?_))
 refine zF 0 Z Z Z Z (zD Z Z yS zN Z) bV (fun hs=>wAz gN φ hs ew) (.inr Z) ?_
 rintro ms mM oS gO ow lM ⟨rfl,rfl⟩
 have oe:sW w φ ms [.blk dO 104 bv,.blk dN 104 bv,.blk dM 78 cD,.blk dL 28 cC] gO:=lM
 cases di
 refine zV (cs:=[.nilFunc,.nilFunc,.nilFunc]) Z Z Z Z Z yB Z bV ?_
 intro gP gV lN
 refine zF 0 Z Z Z Z (zD Z Z yS zN Z) lN (fun hs=>wAz gP φ hs ew) (.inr Z) ?_
 rintro mu mN oV gQ ox lO ⟨rfl,rfl⟩
 have og:sW w φ mu [.blk gV 169 [.nilFunc,.nilFunc,.nilFunc],.blk dO 104 bv,.blk dN 104 bv,.blk dM 78 cD,.blk dL 28 cC] gQ:=lO
 cases di
end Go.Proofs.Ytlnfbjphfoipaaa
namespace Go.Proofs.Ytlnfbjphfoipaaa
open Go.KL
set_option maxHeartbeats 4000000
theorem wFZ (p0:wAC) (ag:Option Addr) (ak:Nat) (ah:Option Addr) (am:Nat) (ai:Option Addr) (an:Nat) (aj:Option Addr) (ao:Nat) (w:World) (φ:PHeap) (hS:St0 w φ []) (pC:Sl φ 1 ag ak p0.Starts.length (hD KL.encI p0.Starts)) (pD:Sl φ 2 ah am p0.Splits.length (hD wAE p0.Splits)) (pF:Sl φ 3 ai an p0.Clocks.length (hD wAB p0.Clocks)) (pG:Sl φ 4 aj ao p0.Readings.length (hD wAA p0.Readings)) {r:wAW} (hm:wCt p0=some r):Gv Try.prog 89 [.agg #[.slice ag p0.Starts.length ak,.slice ah p0.Splits.length am,.slice ai p0.Clocks.length an,.slice aj p0.Readings.length ao]] w (wCF w [] φ (fun φ_ L_ v=>∃ (b0:Nat) (A0p00:Option Addr) (c0p00:Nat) (A0p01:Option Addr) (c0p01:Nat) (A0p02:Option Addr) (c0p02:Nat) (A0p03:Option Addr) (c0p03:Nat) (m0p1:Nat) (es0p1:Array MapEntry) (ck0p1:Nat) (A0p2:Option Addr) (c0p2:Nat),v=.pointer (some ⟨b0,0,none⟩)/\L_=[.blk b0 124 [.slice A0p00 r.Race.Starts.length c0p00,.slice A0p01 r.Race.Splits.length c0p01,.slice A0p02 r.Race.Clocks.length c0p02,.slice A0p03 r.Race.Readings.length c0p03,.map (some m0p1),.slice A0p2 r.edges.length c0p2],.obj m0p1 (.map es0p1 ck0p1),.row A0p2 c0p2 130 7 (hD wAQ r.edges)]/\Sl φ_ 1 A0p00 c0p00 r.Race.Starts.length (hD KL.encI r.Race.Starts)/\Sl φ_ 2 A0p01 c0p01 r.Race.Splits.length (hD wAE r.Race.Splits)/\Sl φ_ 3 A0p02 c0p02 r.Race.Clocks.length (hD wAB r.Race.Clocks)/\Sl φ_ 4 A0p03 c0p03 r.Race.Readings.length (hD wAA r.Race.Readings)/\MpR es0p1 wBE wBK r.number)):=by
 unfold wCt at hm
 refine Go.KX.Gv.ofM Try.func89 Z Try.ntmps89 Try.results89 (zA Z) (sR (.fx 0 (.fl 1 .nil) .stop) Z ?_)
 let B0:List Value:=[.slice ag p0.Starts.length ak,.slice ah p0.Splits.length am,.slice ai p0.Clocks.length an,.slice aj p0.Readings.length ao]
 refine zu (cs:=B0) rfl rfl rfl rfl rfl rfl (by rfl) hS ?_
 intro W1 b2 oE
 refine oA Z Z (eN (bnK hm fun ip p8 pK=>yO (fun σ_ w_=>∃ (φ_:PHeap) (b6:Nat) (b8:Nat) (af:Nat) (bK:Array MapEntry) (cA:Nat),σ_ 1=.pointer (some ⟨b2,0,none⟩)/\σ_ 3=.pointer (some ⟨b6,0,none⟩)/\PHeap.Le φ φ_/\sW w φ φ_ [.blk b2 28 B0,.blk b6 99 [.pointer (some ⟨b8,0,none⟩)],.blk b8 124 [.slice ag p0.Starts.length ak,.slice ah p0.Splits.length am,.slice ai p0.Clocks.length an,.slice aj p0.Readings.length ao,.map (some af),.slice none 0 0],.obj af (.map bK cA)] w_/\MpR bK wBE wBK ip) ?_ ?_))
 refine bnK p8 fun ae aW pP=>ZE ZF [2,2,2,0,3,3,2,2,0] (.fx 0 (.fx 1 gDk (.fx 2 gDl (.fx 7 gDm .stop))) (.fx 1 (.fx 0 gDk (.fx 2 gDp (.fx 7 gDn .stop))) (.fx 2 (.fx 0 gDl (.fx 1 gDp (.fx 7 gDo .stop))) (.fx 7 (.fx 0 gDm (.fx 1 gDn (.fx 2 gDo .stop))) .stop)))) (by kernel_rfl) ?_
 have aY:=oE.drew
 generalize hw_W51:({ W1 with drawn:=W1.drawn + 1 }:World)=fg at aY ⊢
 refine ZT (s:=.nil) (M:=fun σ_ w_=>∃ (φ_:PHeap) (ci:Nat) (bz:Nat) (a5:Nat) (cK:Array MapEntry) (dB:Nat),σ_ 1=.pointer (some ⟨b2,0,none⟩)/\σ_ 3=.pointer (some ⟨ci,0,none⟩)/\σ_ 12=.agg B0.toArray/\σ_ 13=.map (some a5)/\σ_ 14=.agg #[jV ae.skier,jV ae.mat]/\σ_ 15=.map (some a5)/\σ_ 16=.agg #[.slice ag p0.Starts.length ak,.slice ah p0.Splits.length am,.slice ai p0.Clocks.length an,.slice aj p0.Readings.length ao,.map (some a5),.slice none 0 0]/\σ_ 17=.pointer (some ⟨bz,0,none⟩)/\PHeap.Le φ φ_/\sW w φ φ_ [.blk b2 28 B0,.blk ci 99 [.pointer (some ⟨bz,0,none⟩)],.blk bz 124 [.slice ag p0.Starts.length ak,.slice ah p0.Splits.length am,.slice ai p0.Clocks.length an,.slice aj p0.Readings.length ao,.map (some a5),.slice none 0 0],.obj a5 (.map cK dB)] w_/\MpR cK wBE wBK (wFm ([]:List (wAJ × Int)) ae 0)) ?_ fun qa=>?_
 rintro sP rz ⟨qE,ci,bz,a5,cK,dB,lb,lc,sf,sg,sh,sj,sk,sl,qn,oG,mj⟩
 refine zb ?_
 cases pP
 exact zH ⟨Z,⟨qE,ci,bz,a5,cK,dB,lb,lc,qn,oG,mj⟩⟩
 refine ZT (s:=.fx 8 .nil .stop) (M:=fun σ_ w_=>∃ (φ_:PHeap) (bA:Nat) (aU:Nat) (bM:Array MapEntry) (cC:Nat) (bf:Nat),σ_ 1=.pointer (some ⟨b2,0,none⟩)/\σ_ 3=.pointer (some ⟨bA,0,none⟩)/\σ_ 12=.agg B0.toArray/\σ_ 13=.map (some aU)/\σ_ 14=.agg #[jV ae.skier,jV ae.mat]/\σ_ 15=.map (some aU)/\σ_ 16=.agg #[.slice ag p0.Starts.length ak,.slice ah p0.Splits.length am,.slice ai p0.Clocks.length an,.slice aj p0.Readings.length ao,.map (some aU),.slice none 0 0]/\σ_ 17=.pointer (some ⟨bf,0,none⟩)/\PHeap.Le φ φ_/\sW w φ φ_ [.blk b2 28 B0,.blk bA 99 [.pointer none],.obj aU (.map bM cC),.blk bf 124 [.slice ag p0.Starts.length ak,.slice ah p0.Splits.length am,.slice ai p0.Clocks.length an,.slice aj p0.Readings.length ao,.map (some aU),.slice none 0 0]] w_/\MpR bM wBE wBK (wFm ([]:List (wAJ × Int)) ae 0)) ?_ fun de=>?_
 rintro sQ rA ⟨iN,bA,aU,bM,cC,bf,lf,fU,lg,lh,li,lj,lk,fV,qo,oH,ml⟩
 let B1:List Value:=[.pointer (some ⟨bf,0,none⟩)]
 refine zW (j:=1) (vs:=B1) Z Z Z Z oH Z fU fV Z Try.sizeOf99 (zA Z) Z Z Z ?_
 intro jt oI
 have oJ:sW w φ iN [.blk b2 28 B0,.blk bA 99 B1,.obj aU (.map bM cC),.blk bf 124 [.slice ag p0.Starts.length ak,.slice ah p0.Splits.length am,.slice ai p0.Clocks.length an,.slice aj p0.Readings.length ao,.map (some aU),.slice none 0 0]] jt:=oI
 exact qa _ _ ⟨iN,bA,bf,aU,bM,cC,lf,fU,lg,lh,li,lj,lk,fV,qo,(oJ.pick [0,1,3,2] _ (by decide) rfl),ml⟩
 refine ZT (s:=gBx) (M:=fun σ_ w_=>∃ (φ_:PHeap) (cm:Nat) (a6:Nat) (cL:Array MapEntry) (dC:Nat),σ_ 1=.pointer (some ⟨b2,0,none⟩)/\σ_ 3=.pointer (some ⟨cm,0,none⟩)/\σ_ 12=.agg B0.toArray/\σ_ 13=.map (some a6)/\σ_ 14=.agg #[jV ae.skier,jV ae.mat]/\σ_ 15=.map (some a6)/\σ_ 16=.agg #[.slice ag p0.Starts.length ak,.slice ah p0.Splits.length am,.slice ai p0.Clocks.length an,.slice aj p0.Readings.length ao,.map (some a6),.slice none 0 0]/\PHeap.Le φ φ_/\sW w φ φ_ [.blk b2 28 B0,.blk cm 99 [.pointer none],.obj a6 (.map cL dC)] w_/\MpR cL wBE wBK (wFm ([]:List (wAJ × Int)) ae 0)) ?_ fun ig=>?_
 rintro sS rB ⟨qF,cm,a6,cL,dC,lm,ln,lp,lq,ls,lu,fW,qp,oK,mo⟩
 refine zu (cs:=[.slice ag p0.Starts.length ak,.slice ah p0.Splits.length am,.slice ai p0.Clocks.length an,.slice aj p0.Readings.length ao,.map (some a6),.slice none 0 0]) rfl rfl rfl rfl rfl fW (by rfl) oK ?_
 intro rC jP oO
 exact de _ _ ⟨qF,cm,a6,cL,dC,jP,lm,ln,lp,lq,ls,lu,fW,rfl,qp,(oO.pick [1,2,3,0] _ (by decide) rfl),mo⟩
 refine ZT (s:=gBw) (M:=fun σ_ w_=>∃ (φ_:PHeap) (a7:Nat) (cM:Array MapEntry) (dD:Nat) (cn:Nat),σ_ 1=.pointer (some ⟨b2,0,none⟩)/\σ_ 12=.agg B0.toArray/\σ_ 13=.map (some a7)/\σ_ 14=.agg #[jV ae.skier,jV ae.mat]/\σ_ 15=.map (some a7)/\σ_ 16=.agg #[.slice ag p0.Starts.length ak,.slice ah p0.Splits.length am,.slice ai p0.Clocks.length an,.slice aj p0.Readings.length ao,.map (some a7),.slice none 0 0]/\σ_ 17=.pointer (some ⟨cn,0,none⟩)/\PHeap.Le φ φ_/\sW w φ φ_ [.blk b2 28 B0,.obj a7 (.map cM dD),.blk cn 124 [.slice ag p0.Starts.length ak,.slice ah p0.Splits.length am,.slice ai p0.Clocks.length an,.slice aj p0.Readings.length ao,.map (some a7),.slice none 0 0]] w_/\MpR cM wBE wBK (wFm ([]:List (wAJ × Int)) ae 0)) ?_ fun ii=>?_
 rintro sT rD ⟨qG,a7,cM,dD,cn,lv,lw,lx,ly,lz,lA,lB,qq,oP,mp⟩
 refine zV (cs:=[.pointer none]) Z Z Z Z Z yM Z oP ?_
 intro rE jQ oQ
 exact de _ _ ⟨qG,jQ,a7,cM,dD,cn,lv,rfl,lw,lx,ly,lz,lA,lB,qq,(oQ.pick [1,0,2,3] _ (by decide) rfl),mp⟩
 refine ZT (s:=.fl 5 gBx) (M:=fun σ_ w_=>∃ (φ_:PHeap) (co:Nat) (a8:Nat) (cN:Array MapEntry) (dE:Nat),σ_ 1=.pointer (some ⟨b2,0,none⟩)/\σ_ 3=.pointer (some ⟨co,0,none⟩)/\σ_ 12=.agg B0.toArray/\σ_ 13=.map (some a8)/\σ_ 14=.agg #[jV ae.skier,jV ae.mat]/\σ_ 15=.map (some a8)/\PHeap.Le φ φ_/\sW w φ φ_ [.blk b2 28 B0,.blk co 99 [.pointer none],.obj a8 (.map cN dE)] w_/\MpR cN wBE wBK (wFm ([]:List (wAJ × Int)) ae 0)) ?_ fun ij=>?_
 rintro sU rF ⟨qH,co,a8,cN,dE,lC,lD,fY,lE,lF,fZ,qr,oS,mq⟩
 let B2:List Value:=[.slice ag p0.Starts.length ak,.slice ah p0.Splits.length am,.slice ai p0.Clocks.length an,.slice aj p0.Readings.length ao,.map (some a8),.slice none 0 0]
 refine zg rfl rfl rfl rfl (fun _=>zl (pv:=[(0,.agg B0.toArray),(1,.map (some a8))]) (z:=[.slice none 0 0,.slice none 0 0,.slice none 0 0,.slice none 0 0,.map none,.slice none 0 0]) (cs:=B2) rfl (wAG fY (wAG fZ wAN)) Try.zeroValue124 wFX rfl rfl) (zu (cs:=B2) rfl rfl rfl rfl rfl rfl (by rfl) oS ?_)
 intro rG jR oU
 exact de _ _ ⟨qH,co,a8,cN,dE,jR,lC,lD,fY,lE,lF,fZ,rfl,rfl,qr,(oU.pick [1,2,3,0] _ (by decide) rfl),mq⟩
 refine ZT (s:=gCn) (M:=fun σ_ w_=>∃ (φ_:PHeap) (cp:Nat) (bB:Nat) (cO:Array MapEntry) (dF:Nat),σ_ 1=.pointer (some ⟨b2,0,none⟩)/\σ_ 3=.pointer (some ⟨cp,0,none⟩)/\σ_ 13=.map (some bB)/\σ_ 14=.agg #[jV ae.skier,jV ae.mat]/\σ_ 15=.map (some bB)/\PHeap.Le φ φ_/\sW w φ φ_ [.blk b2 28 B0,.blk cp 99 [.pointer none],.obj bB (.map cO dF)] w_/\MpR cO wBE wBK (wFm ([]:List (wAJ × Int)) ae 0)) ?_ fun qb=>?_
 rintro sV rH ⟨qI,cp,bB,cO,dF,f4,lG,lH,lI,lJ,qs,gU,mr⟩
 exact ZR Z Z Z Z (gU.ldBA (j:=0) Z Z f4 zf zX (vs:=B0) Z Z) (ij _ _ ⟨qI,cp,bB,cO,dF,f4,lG,Z,lH,lI,lJ,qs,gU,mr⟩)
 refine ZT (s:=gCv) (M:=fun σ_ w_=>∃ (φ_:PHeap) (aV:Nat) (bN:Array MapEntry) (cD:Nat),σ_ 1=.pointer (some ⟨b2,0,none⟩)/\σ_ 12=.agg B0.toArray/\σ_ 13=.map (some aV)/\σ_ 14=.agg #[jV ae.skier,jV ae.mat]/\σ_ 15=.map (some aV)/\PHeap.Le φ φ_/\sW w φ φ_ [.blk b2 28 B0,.obj aV (.map bN cD)] w_/\MpR bN wBE wBK (wFm ([]:List (wAJ × Int)) ae 0)) ?_ fun qc=>?_
 rintro sX rI ⟨iO,aV,bN,cD,f6,dM,f7,f8,dN,iu,gV,gI⟩
 let B3:List Value:=[.slice ag p0.Starts.length ak,.slice ah p0.Splits.length am,.slice ai p0.Clocks.length an,.slice aj p0.Readings.length ao,.map (some aV),.slice none 0 0]
 refine oR Z (zl (pv:=[(0,.agg B0.toArray),(1,.map (some aV))]) (z:=[.slice none 0 0,.slice none 0 0,.slice none 0 0,.slice none 0 0,.map none,.slice none 0 0]) (cs:=B3) Z (wAG dM (wAG dN wAN)) Try.zeroValue124 wFX Z Z) (zr ?_ ?_)
 refine zu (cs:=B3) rfl rfl rfl rfl rfl rfl (by rfl) gV ?_
 intro rJ jS oV
 exact ii _ _ ⟨iO,aV,bN,cD,jS,f6,dM,f7,f8,dN,rfl,rfl,iu,(oV.pick [1,2,0] _ (by decide) rfl),gI⟩
 refine zV (cs:=[.pointer none]) Z Z Z Z Z yM Z gV ?_
 intro rK jT oW
 exact ig _ _ ⟨iO,jT,aV,bN,cD,f6,rfl,dM,f7,f8,dN,rfl,iu,(oW.pick [1,0,2] _ (by decide) rfl),gI⟩
 refine ZT (s:=gCm) (M:=fun σ_ w_=>∃ (φ_:PHeap) (cq:Nat) (bg:Nat) (cP:Array MapEntry) (dG:Nat),σ_ 1=.pointer (some ⟨b2,0,none⟩)/\σ_ 3=.pointer (some ⟨cq,0,none⟩)/\σ_ 12=.agg B0.toArray/\σ_ 13=.map (some bg)/\σ_ 14=.agg #[jV ae.skier,jV ae.mat]/\PHeap.Le φ φ_/\sW w φ φ_ [.blk b2 28 B0,.blk cq 99 [.pointer none],.obj bg (.map cP dG)] w_/\MpR cP wBE wBK (wFm ([]:List (wAJ × Int)) ae 0)) ?_ fun qd=>?_
 rintro sY rL ⟨qJ,cq,bg,cP,dG,lK,lL,f9,ga,lM,qt,oX,ms⟩
 refine oM Z ga ?_
 let B4:List Value:=[.slice ag p0.Starts.length ak,.slice ah p0.Splits.length am,.slice ai p0.Clocks.length an,.slice aj p0.Readings.length ao,.map (some bg),.slice none 0 0]
 refine zg rfl rfl rfl rfl (fun _=>zl (pv:=[(0,.agg B0.toArray),(1,.map (some bg))]) (z:=[.slice none 0 0,.slice none 0 0,.slice none 0 0,.slice none 0 0,.map none,.slice none 0 0]) (cs:=B4) rfl (wAG f9 (wAG rfl wAN)) Try.zeroValue124 wFX rfl rfl) (zu (cs:=B4) rfl rfl rfl rfl rfl rfl (by rfl) oX ?_)
 intro rM jU oY
 exact de _ _ ⟨qJ,cq,bg,cP,dG,jU,lK,lL,f9,ga,lM,rfl,rfl,rfl,qt,(oY.pick [1,2,3,0] _ (by decide) rfl),ms⟩
 refine ZT (s:=.fl 4 gCn) (M:=fun σ_ w_=>∃ (φ_:PHeap) (cr:Nat) (ct:Nat) (cQ:Array MapEntry) (dH:Nat),σ_ 1=.pointer (some ⟨b2,0,none⟩)/\σ_ 3=.pointer (some ⟨cr,0,none⟩)/\σ_ 13=.map (some ct)/\σ_ 14=.agg #[jV ae.skier,jV ae.mat]/\PHeap.Le φ φ_/\sW w φ φ_ [.blk b2 28 B0,.blk cr 99 [.pointer none],.obj ct (.map cQ dH)] w_/\MpR cQ wBE wBK (wFm ([]:List (wAJ × Int)) ae 0)) ?_ fun qe=>?_
 rintro sZ rN ⟨qK,cr,ct,cQ,dH,ge,lN,gg,lO,qu,gW,mu⟩
 exact oM Z gg (ZR Z Z Z Z (gW.ldBA (j:=0) Z Z ge zf zX (vs:=B0) Z Z) (ij _ _ ⟨qK,cr,ct,cQ,dH,ge,lN,Z,gg,lO,Z,qu,gW,mu⟩))
 refine ZT (s:=gCw) (M:=fun σ_ w_=>∃ (φ_:PHeap) (bC:Nat) (bD:Nat) (dK:Array MapEntry) (ft:Nat),σ_ 1=.pointer (some ⟨b2,0,none⟩)/\σ_ 3=.pointer (some ⟨bC,0,none⟩)/\σ_ 12=.agg B0.toArray/\σ_ 13=.map (some bD)/\σ_ 14=.agg #[jV ae.skier,jV ae.mat]/\PHeap.Le φ φ_/\sW w φ φ_ [.blk b2 28 B0,.blk bC 99 [.pointer none],.obj bD (.map dK ft)] w_/\MpR dK wBE wBK ([]:List (wAJ × Int))) ?_ fun df=>?_
 rintro s3 rO ⟨iP,bC,bD,dK,ft,lP,lQ,lR,gh,gi,qv,oZ,mw⟩
 refine OKS.mapPut (x:=.tmp 13) (y:=.tmp 14) (j:=2) (mk:=wBE) (mv:=wBK) (a:=ae) (v:=0) rfl rfl rfl (by first | exact .inl rfl | exact .inr rfl) oZ rfl gh gi rfl (wBp ZO) wCz mw rfl ?_
 intro fB fu ju pV o0
 have o3:sW w φ iP [.blk b2 28 B0,.blk bC 99 [.pointer none],.obj bD (.map fB fu)] ju:=o0
 exact qd _ _ ⟨iP,bC,bD,fB,fu,lP,lQ,lR,gh,gi,qv,o3,pV⟩
 refine ZT (s:=.fl 4 gCv) (M:=fun σ_ w_=>∃ (φ_:PHeap) (ba:Nat) (bP:Array MapEntry) (cE:Nat),σ_ 1=.pointer (some ⟨b2,0,none⟩)/\σ_ 12=.agg B0.toArray/\σ_ 13=.map (some ba)/\σ_ 14=.agg #[jV ae.skier,jV ae.mat]/\PHeap.Le φ φ_/\sW w φ φ_ [.blk b2 28 B0,.obj ba (.map bP cE)] w_/\MpR bP wBE wBK (wFm ([]:List (wAJ × Int)) ae 0)) ?_ fun qf=>?_
 rintro s4 rP ⟨iQ,ba,bP,cE,gj,dO,dP,gp,iv,gX,gJ⟩
 refine oM Z dP ?_
 let B5:List Value:=[.slice ag p0.Starts.length ak,.slice ah p0.Splits.length am,.slice ai p0.Clocks.length an,.slice aj p0.Readings.length ao,.map (some ba),.slice none 0 0]
 refine oR Z (zl (pv:=[(0,.agg B0.toArray),(1,.map (some ba))]) (z:=[.slice none 0 0,.slice none 0 0,.slice none 0 0,.slice none 0 0,.map none,.slice none 0 0]) (cs:=B5) Z (wAG dO (wAG Z wAN)) Try.zeroValue124 wFX Z Z) (zr ?_ ?_)
 refine zu (cs:=B5) rfl rfl rfl rfl rfl rfl (by rfl) gX ?_
 intro rQ jW o5
 exact ii _ _ ⟨iQ,ba,bP,cE,jW,gj,dO,dP,gp,rfl,rfl,rfl,iv,(o5.pick [1,2,0] _ (by decide) rfl),gJ⟩
 refine zV (cs:=[.pointer none]) Z Z Z Z Z yM Z gX ?_
 intro rS jX o6
 exact ig _ _ ⟨iQ,jX,ba,bP,cE,gj,rfl,dO,dP,gp,rfl,rfl,iv,(o6.pick [1,0,2] _ (by decide) rfl),gJ⟩
 refine ZT (s:=gDh) (M:=fun σ_ w_=>∃ (φ_:PHeap) (bh:Nat) (bi:Nat) (cR:Array MapEntry) (dI:Nat),σ_ 1=.pointer (some ⟨b2,0,none⟩)/\σ_ 3=.pointer (some ⟨bh,0,none⟩)/\σ_ 13=.map (some bi)/\σ_ 14=.agg #[jV ae.skier,jV ae.mat]/\PHeap.Le φ φ_/\sW w φ φ_ [.blk b2 28 B0,.blk bh 99 [.pointer none],.obj bi (.map cR dI)] w_/\MpR cR wBE wBK ([]:List (wAJ × Int))) ?_ fun eB=>?_
 rintro s5 rT ⟨eK,bh,bi,cR,dI,dQ,gq,dR,dS,iw,en,gK⟩
 refine zr ?_ ?_
 exact ZR Z Z Z Z (en.ldBA (j:=0) Z Z dQ zf zX (vs:=B0) Z Z) (df _ _ ⟨eK,bh,bi,cR,dI,dQ,gq,Z,dR,dS,iw,en,gK⟩)
 refine OKS.mapPut (x:=.tmp 13) (y:=.tmp 14) (j:=2) (mk:=wBE) (mv:=wBK) (a:=ae) (v:=0) rfl rfl rfl (by first | exact .inl rfl | exact .inr rfl) en rfl dR dS rfl (wBp ZO) wCz gK rfl ?_
 intro fC fw jv pW o7
 have o8:sW w φ eK [.blk b2 28 B0,.blk bh 99 [.pointer none],.obj bi (.map fC fw)] jv:=o7
 exact qe _ _ ⟨eK,bh,bi,fC,fw,dQ,gq,dR,dS,iw,o8,pW⟩
 refine ZT (s:=gDg) (M:=fun σ_ w_=>∃ (φ_:PHeap) (bE:Nat) (bQ:Array MapEntry) (cG:Nat),σ_ 1=.pointer (some ⟨b2,0,none⟩)/\σ_ 13=.map (some bE)/\σ_ 14=.agg #[jV ae.skier,jV ae.mat]/\PHeap.Le φ φ_/\sW w φ φ_ [.blk b2 28 B0,.obj bE (.map bQ cG)] w_/\MpR bQ wBE wBK (wFm ([]:List (wAJ × Int)) ae 0)) ?_ fun qh=>?_
 rintro s6 rV ⟨iR,bE,bQ,cG,dT,dU,gt,iy,eo,gL⟩
 refine oM Z dU (zr ?_ ?_)
 exact ZR Z Z Z Z (eo.ldBA (j:=0) Z Z dT zf zX (vs:=B0) Z Z) (qc _ _ ⟨iR,bE,bQ,cG,dT,Z,dU,gt,Z,iy,eo,gL⟩)
 refine zV (cs:=[.pointer none]) Z Z Z Z Z yM Z eo ?_
 intro rW jY o9
 exact qb _ _ ⟨iR,jY,bE,bQ,cG,dT,rfl,dU,gt,rfl,iy,(o9.pick [1,0,2] _ (by decide) rfl),gL⟩
 refine ZT (s:=gDb) (M:=fun σ_ w_=>∃ (φ_:PHeap) (cu:Nat),σ_ 1=.pointer (some ⟨b2,0,none⟩)/\σ_ 3=.pointer (some ⟨cu,0,none⟩)/\σ_ 12=.agg B0.toArray/\σ_ 14=.agg #[jV ae.skier,jV ae.mat]/\PHeap.Le φ φ_/\sW w φ φ_ [.blk b2 28 B0,.blk cu 99 [.pointer none]] w_) ?_ fun eD=>?_
 rintro s7 rX ⟨qL,cu,lS,lT,lU,lV,qw,pd⟩
 refine OKS.makeMap Z Z Z Z Z pd ?_
 intro rY jZ pe
 have pX:=MpR.nil wBE wBK
 exact df _ _ ⟨qL,cu,jZ,#[],0,lS,lT,lU,rfl,lV,qw,(pe.pick [1,2,0] _ (by decide) rfl),pX⟩
 refine ZT (s:=gDa) (M:=fun σ_ w_=>∃ (φ_:PHeap) (bF:Nat) (bG:Nat) (bR:Array MapEntry) (cH:Nat),σ_ 1=.pointer (some ⟨b2,0,none⟩)/\σ_ 3=.pointer (some ⟨bF,0,none⟩)/\σ_ 12=.agg B0.toArray/\σ_ 13=.map (some bG)/\PHeap.Le φ φ_/\sW w φ φ_ [.blk b2 28 B0,.blk bF 99 [.pointer none],.obj bG (.map bR cH)] w_/\MpR bR wBE wBK ([]:List (wAJ × Int))) ?_ fun eE=>?_
 rintro s8 jw ⟨qM,bF,bG,bR,cH,lW,lX,lY,lZ,qx,pf,mx⟩
 refine zF 0 Z Z Z Z (zD Z Z yX zN Z) pf (fun hs=>wBe jw qM hs aW) (.inr Z) ?_
 rintro iS qW sE jx qy pg ⟨rfl,rfl⟩
 have ph:sW w φ iS [.blk b2 28 B0,.blk bF 99 [.pointer none],.obj bG (.map bR cH)] jx:=pg
 exact df _ _ ⟨iS,bF,bG,bR,cH,lW,lX,lY,lZ,Z,(qx.trans qy),ph,mx⟩
 refine ZT (s:=gDf) (M:=fun σ_ w_=>∃ (φ_:PHeap) (bj:Nat) (cS:Array MapEntry) (dJ:Nat),σ_ 1=.pointer (some ⟨b2,0,none⟩)/\σ_ 12=.agg B0.toArray/\σ_ 13=.map (some bj)/\σ_ 14=.agg #[jV ae.skier,jV ae.mat]/\PHeap.Le φ φ_/\sW w φ φ_ [.blk b2 28 B0,.obj bj (.map cS dJ)] w_/\MpR cS wBE wBK ([]:List (wAJ × Int))) ?_ fun eF=>?_
 rintro s9 rZ ⟨eL,bj,cS,dJ,gu,gv,dV,dW,iz,gY,gM⟩
 refine zr ?_ ?_
 refine OKS.mapPut (x:=.tmp 13) (y:=.tmp 14) (j:=1) (mk:=wBE) (mv:=wBK) (a:=ae) (v:=0) rfl rfl rfl (by first | exact .inl rfl | exact .inr rfl) gY rfl dV dW rfl (wBp ZO) wCz gM rfl ?_
 intro fD fy jy pY pj
 have pk:sW w φ eL [.blk b2 28 B0,.obj bj (.map fD fy)] jy:=pj
 exact qf _ _ ⟨eL,bj,fD,fy,gu,gv,dV,dW,iz,pk,pY⟩
 refine zV (cs:=[.pointer none]) Z Z Z Z Z yM Z gY ?_
 intro r6 j0 pm
 exact df _ _ ⟨eL,j0,bj,cS,dJ,gu,rfl,gv,dV,dW,iz,(pm.pick [1,0,2] _ (by decide) rfl),gM⟩
 refine ZT (s:=gDo) (M:=fun σ_ w_=>∃ (φ_:PHeap) (bH:Nat),σ_ 1=.pointer (some ⟨b2,0,none⟩)/\σ_ 3=.pointer (some ⟨bH,0,none⟩)/\σ_ 14=.agg #[jV ae.skier,jV ae.mat]/\PHeap.Le φ φ_/\sW w φ φ_ [.blk b2 28 B0,.blk bH 99 [.pointer none]] w_) ?_ fun ik=>?_
 rintro ta r7 ⟨iT,bH,dX,gw,gx,iA,ep⟩
 refine zr ?_ ?_
 exact ZR Z Z Z Z (ep.ldBA (j:=0) Z Z dX zf zX (vs:=B0) Z Z) (eD _ _ ⟨iT,bH,dX,gw,Z,gx,iA,ep⟩)
 refine OKS.makeMap Z Z Z Z Z ep ?_
 intro r8 j1 pn
 have pZ:=MpR.nil wBE wBK
 exact eB _ _ ⟨iT,bH,j1,#[],0,dX,gw,rfl,gx,iA,(pn.pick [1,2,0] _ (by decide) rfl),pZ⟩
 refine ZT (s:=gDn) (M:=fun σ_ w_=>∃ (φ_:PHeap) (bm:Nat) (bn:Nat) (br:Array MapEntry) (bJ:Nat),σ_ 1=.pointer (some ⟨b2,0,none⟩)/\σ_ 3=.pointer (some ⟨bm,0,none⟩)/\σ_ 13=.map (some bn)/\PHeap.Le φ φ_/\sW w φ φ_ [.blk b2 28 B0,.blk bm 99 [.pointer none],.obj bn (.map br bJ)] w_/\MpR br wBE wBK ([]:List (wAJ × Int))) ?_ fun il=>?_
 rintro tb jz ⟨iU,bm,bn,br,bJ,dY,gy,gz,iB,er,gN⟩
 refine zr ?_ ?_
 exact ZR Z Z Z Z (er.ldBA (j:=0) Z Z dY zf zX (vs:=B0) Z Z) (eE _ _ ⟨iU,bm,bn,br,bJ,dY,gy,Z,gz,iB,er,gN⟩)
 refine zF 0 Z Z Z Z (zD Z Z yX zN Z) er (fun hs=>wBe jz iU hs aW) (.inr Z) ?_
 rintro iV qX sF jA qz po ⟨rfl,rfl⟩
 have pp:sW w φ iV [.blk b2 28 B0,.blk bm 99 [.pointer none],.obj bn (.map br bJ)] jA:=po
 exact eB _ _ ⟨iV,bm,bn,br,bJ,dY,gy,gz,Z,(iB.trans qz),pp,gN⟩
 refine ZT (s:=gDp) (M:=fun σ_ w_=>∃ (φ_:PHeap) (bb:Nat) (bS:Array MapEntry) (cI:Nat),σ_ 1=.pointer (some ⟨b2,0,none⟩)/\σ_ 13=.map (some bb)/\σ_ 14=.agg #[jV ae.skier,jV ae.mat]/\PHeap.Le φ φ_/\sW w φ φ_ [.blk b2 28 B0,.obj bb (.map bS cI)] w_/\MpR bS wBE wBK ([]:List (wAJ × Int))) ?_ fun im=>?_
 rintro tc r9 ⟨dr,bb,bS,cI,cU,cV,cW,eH,db,eh⟩
 refine zr ?_ ?_
 exact ZR Z Z Z Z (db.ldBA (j:=0) Z Z cU zf zX (vs:=B0) Z Z) (eF _ _ ⟨dr,bb,bS,cI,cU,Z,cV,cW,eH,db,eh⟩)
 refine zr ?_ ?_
 refine OKS.mapPut (x:=.tmp 13) (y:=.tmp 14) (j:=1) (mk:=wBE) (mv:=wBK) (a:=ae) (v:=0) rfl rfl rfl (by first | exact .inl rfl | exact .inr rfl) db rfl cV cW rfl (wBp ZO) wCz eh rfl ?_
 intro fE fz jB p6 pq
 have pt:sW w φ dr [.blk b2 28 B0,.obj bb (.map fE fz)] jB:=pq
 exact qh _ _ ⟨dr,bb,fE,fz,cU,cV,cW,eH,pt,p6⟩
 refine zV (cs:=[.pointer none]) Z Z Z Z Z yM Z db ?_
 intro sa j2 pu
 exact eB _ _ ⟨dr,j2,bb,bS,cI,cU,rfl,cV,cW,eH,(pu.pick [1,0,2] _ (by decide) rfl),eh⟩
 refine ZT (s:=gDm) (M:=fun σ_ w_=>∃ (φ_:PHeap) (bo:Nat),σ_ 1=.pointer (some ⟨b2,0,none⟩)/\σ_ 3=.pointer (some ⟨bo,0,none⟩)/\σ_ 12=.agg B0.toArray/\PHeap.Le φ φ_/\sW w φ φ_ [.blk b2 28 B0,.blk bo 99 [.pointer none]] w_) ?_ fun io=>?_
 rintro td jC ⟨iW,bo,gA,gB,gC,iC,gZ⟩
 refine zr ?_ ?_
 refine OKS.makeMap Z Z Z Z Z gZ ?_
 intro sb j3 py
 have p7:=MpR.nil wBE wBK
 exact eE _ _ ⟨iW,bo,j3,#[],0,gA,gB,gC,rfl,iC,(py.pick [1,2,0] _ (by decide) rfl),p7⟩
 refine zF 0 Z Z Z Z (zD Z Z yX zN Z) gZ (fun hs=>wBe jC iW hs aW) (.inr Z) ?_
 rintro iX qY sG jD qA pz ⟨rfl,rfl⟩
 have mB:sW w φ iX [.blk b2 28 B0,.blk bo 99 [.pointer none]] jD:=pz
 exact eD _ _ ⟨iX,bo,gA,gB,gC,Z,(iC.trans qA),mB⟩
 refine ZT (s:=gDl) (M:=fun σ_ w_=>∃ (φ_:PHeap),σ_ 1=.pointer (some ⟨b2,0,none⟩)/\σ_ 12=.agg B0.toArray/\σ_ 14=.agg #[jV ae.skier,jV ae.mat]/\PHeap.Le φ φ_/\sW w φ φ_ [.blk b2 28 B0] w_) ?_ fun ic=>?_
 rintro sK qZ ⟨iG,fG,fH,fI,iq,gO⟩
 refine zr ?_ ?_
 refine OKS.makeMap Z Z Z Z Z gO ?_
 intro q6 jE mC
 have pQ:=MpR.nil wBE wBK
 exact eF _ _ ⟨iG,jE,#[],0,fG,fH,rfl,fI,iq,(mC.pick [1,0] _ (by decide) rfl),pQ⟩
 refine zV (cs:=[.pointer none]) Z Z Z Z Z yM Z gO ?_
 intro q7 jF mD
 exact eD _ _ ⟨iG,jF,fG,rfl,fH,fI,iq,(mD.pick [1,0] _ (by decide) rfl)⟩
 refine ZT (s:=gDk) (M:=fun σ_ w_=>∃ (φ_:PHeap) (be:Nat) (bq:Array MapEntry) (bI:Nat),σ_ 1=.pointer (some ⟨b2,0,none⟩)/\σ_ 12=.agg B0.toArray/\σ_ 13=.map (some be)/\PHeap.Le φ φ_/\sW w φ φ_ [.blk b2 28 B0,.obj be (.map bq bI)] w_/\MpR bq wBE wBK ([]:List (wAJ × Int))) ?_ fun ie=>?_
 rintro sL iZ ⟨iH,be,bq,bI,fJ,fK,fL,ir,gP,gD⟩
 refine zr ?_ ?_
 refine zF 0 Z Z Z Z (zD Z Z yX zN Z) gP (fun hs=>wBe iZ iH hs aW) (.inr Z) ?_
 rintro iI qN su i3 qi mE ⟨rfl,rfl⟩
 have mF:sW w φ iI [.blk b2 28 B0,.obj be (.map bq bI)] i3:=mE
 exact eF _ _ ⟨iI,be,bq,bI,fJ,fK,fL,Z,(ir.trans qi),mF,gD⟩
 refine zV (cs:=[.pointer none]) Z Z Z Z Z yM Z gP ?_
 intro q8 jG mG
 exact eE _ _ ⟨iH,jG,be,bq,bI,fJ,rfl,fK,fL,ir,(mG.pick [1,0,2] _ (by decide) rfl),gD⟩
 refine zr ?_ ?_
 refine ZR Z Z Z Z (aY.ldBA (j:=0) Z Z Z zf zX (vs:=B0) Z Z) (zr ?_ ?_)
 refine OKS.makeMap Z Z Z Z Z aY ?_
 intro q9 jH mH
 have pR:=MpR.nil wBE wBK
 exact ie _ _ ⟨φ,jH,#[],0,rfl,rfl,rfl,(zO _),(mH.pick [1,0] _ (by decide) rfl),pR⟩
 refine zr ?_ ?_
 refine zF 0 Z Z Z Z (zD Z Z yX zN Z) aY (fun hs=>wBe fg φ hs aW) (.inr Z) ?_
 rintro iJ qO sv i4 qj mI ⟨rfl,rfl⟩
 have mJ:sW w φ iJ [.blk b2 28 B0] i4:=mI
 exact ic _ _ ⟨iJ,Z,Z,Z,qj,mJ⟩
 refine zV (cs:=[.pointer none]) Z Z Z Z Z yM Z aY ?_
 intro rc jI mK
 exact io _ _ ⟨φ,jI,rfl,rfl,rfl,(zO _),(mK.pick [1,0] _ (by decide) rfl)⟩
 refine zr ?_ ?_
 refine OKS.makeMap Z Z Z Z Z aY ?_
 intro i5 cf cZ
 have eA:=MpR.nil wBE wBK
 refine zr ?_ ?_
 exact ZR rfl rfl rfl rfl (cZ.ldBA (j:=1) rfl rfl rfl zf zX (vs:=B0) rfl rfl) (ie _ _ ⟨φ,cf,#[],0,rfl,rfl,rfl,(zO _),(cZ.pick [1,0] _ (by decide) rfl),eA⟩)
 refine zr ?_ ?_
 refine zF 0 Z Z Z Z (zD Z Z yX zN Z) cZ (fun hs=>wBe i5 φ hs aW) (.inr Z) ?_
 rintro iK qP sw i6 qk mL ⟨rfl,rfl⟩
 have mM:sW w φ iK [.obj cf (.map #[] 0),.blk b2 28 B0] i6:=mL
 exact im _ _ ⟨iK,cf,#[],0,rfl,rfl,rfl,qk,(mM.pick [1,0] _ (by decide) rfl),eA⟩
 refine zV (cs:=[.pointer none]) Z Z Z Z Z yM Z cZ ?_
 intro rd jJ mN
 exact il _ _ ⟨φ,jJ,cf,#[],0,rfl,rfl,rfl,(zO _),(mN.pick [2,0,1] _ (by decide) rfl),eA⟩
 refine zr ?_ ?_
 refine zF 0 Z Z Z Z (zD Z Z yX zN Z) aY (fun hs=>wBe fg φ hs aW) (.inr Z) ?_
 rintro dp qQ sA i7 eG mO ⟨rfl,rfl⟩
 have c6:sW w φ dp [.blk b2 28 B0] i7:=mO
 refine zr ?_ ?_
 exact ZR Z Z Z Z (c6.ldBA (j:=0) Z Z Z zf zX (vs:=B0) Z Z) (ic _ _ ⟨dp,Z,Z,Z,eG,c6⟩)
 refine zr ?_ ?_
 refine OKS.makeMap Z Z Z Z Z c6 ?_
 intro rf jK mP
 have pS:=MpR.nil wBE wBK
 exact im _ _ ⟨dp,jK,#[],0,rfl,rfl,rfl,eG,(mP.pick [1,0] _ (by decide) rfl),pS⟩
 refine zV (cs:=[.pointer none]) Z Z Z Z Z yM Z c6 ?_
 intro rh jL mQ
 exact ik _ _ ⟨dp,jL,rfl,rfl,rfl,eG,(mQ.pick [1,0] _ (by decide) rfl)⟩
 refine zV (cs:=[.pointer none]) Z Z Z Z Z yM Z aY ?_
 intro i8 cg da
 refine zr ?_ ?_
 exact ZR rfl rfl rfl rfl (da.ldBA (j:=1) rfl rfl rfl zf zX (vs:=B0) rfl rfl) (io _ _ ⟨φ,cg,rfl,rfl,rfl,(zO _),(da.pick [1,0] _ (by decide) rfl)⟩)
 refine zr ?_ ?_
 refine OKS.makeMap Z Z Z Z Z da ?_
 intro ri jM mR
 have pT:=MpR.nil wBE wBK
 exact il _ _ ⟨φ,cg,jM,#[],0,rfl,rfl,rfl,(zO _),(mR.pick [2,1,0] _ (by decide) rfl),pT⟩
 refine zF 0 Z Z Z Z (zD Z Z yX zN Z) da (fun hs=>wBe i8 φ hs aW) (.inr Z) ?_
 rintro iL qR sB i9 qm mS ⟨rfl,rfl⟩
 have mT:sW w φ iL [.blk cg 99 [.pointer none],.blk b2 28 B0] i9:=mS
 exact ik _ _ ⟨iL,cg,rfl,rfl,rfl,qm,(mT.pick [1,0] _ (by decide) rfl)⟩
 rintro sM ja ⟨qD,b6,b8,af,bK,cA,fM,j6,dg,gQ,l4⟩
 refine zL (sR (.fl 0 (.fx 1 .nil .stop)) Z (oL Z (gQ.ldBA (j:=0) Z Z fM zf zX (vs:=B0) Z Z) ?_))
 have gE:=pC.le dg
 have gF:=pD.le dg
 have gG:=pF.le dg
 have gH:=pG.le dg
 have q:=bnd pK
 obtain ⟨⟨⟩,l5,g8⟩:=q
 try dsimp only at g8
 refine zF 0 Z Z Z Z (zD Z Z Try.call81 (zB Z zN) Z) gQ (fun hs=>wFt p0 ag ak ah am ai an aj ao ja qD hs gE gF gG gH l5) (.inr Z) ?_
 rintro iM qS sC jb dh mU ⟨fj,rfl,rfl,l6⟩
 let B6:Res:=.blk b6 99 [.pointer (some ⟨b8,0,none⟩)]
 have mV:sW w φ iM [.blk b2 28 B0,B6,.blk b8 124 [.slice ag p0.Starts.length ak,.slice ah p0.Splits.length am,.slice ai p0.Clocks.length an,.slice aj p0.Readings.length ao,.map (some af),.slice none 0 0],.obj af (.map bK cA)] jb:=mU
 refine eN (zY (ye fun dn dd=>?_))
 have j7:dn 1=.pointer (some ⟨b2,0,none⟩):=(dd 1).trans fM
 have fN:dn 3=.pointer (some ⟨b6,0,none⟩):=(dd 3).trans j6
 have j8:dn 19=.func (.func 105) #[] #[.pointer (some ⟨fj,0,none⟩)]:=(dd 19).trans rfl
 clear dd
 have mW:=mV.nilrow 130 7
 refine bnK g8 fun iE pJ g9=>?_
 have dZ:=gE.le dh
 have d5:=gF.le dh
 have d7:=gG.le dh
 have d9:=gH.le dh
 refine CK.rangeY (S:=(List wAV) × (List (wAJ × Int))) (E:=Empty) (ar:=wKg) (PY:=(fun (s_:(List wAV) × (List (wAJ × Int))) (φ_:PHeap) (L_:List Res)=>match s_ with | (l1591,l1595)=>∃ (bd:Option Addr) (bp:Nat) (aS:Array MapEntry) (aT:Nat),L_=[.blk b2 28 B0,B6,.row bd bp 130 7 (hD wAQ l1591),.blk b8 124 [.slice ag p0.Starts.length ak,.slice ah p0.Splits.length am,.slice ai p0.Clocks.length an,.slice aj p0.Readings.length ao,.map (some af),.slice bd l1591.length bp],.obj af (.map aS aT)]/\MpR aS wBE wBK l1595)) (PE:=(fun (_:Empty) _ _=>False)) (exO:=Empty.elim) (s0:=([],ip)) (rr:=iE) j8 Try.call105 (mW.pick [1,2,0,3,4] _ (by decide) rfl) (by decide) (fun _ _ _ h=>by obtain rfl:=h;rfl) (fun e=>nomatch e) ⟨none,0,bK,cA,rfl,l4⟩ (fun l w1 L1 PY' PE' mA my pB=>wFH PY' PE' _ l _ p0 fj ag ak ah am ai an aj ao w1 L1 iM mA my pB l6 dZ d5 d7 d9 pJ) ?_ ?_
 rintro az ss sm ⟨l1591,l1595⟩ ap sH sr dl qT qC eI aG di mX mz pE g6 dm bt
 obtain ⟨bd,bp,aS,aT,rfl,l7⟩:=mz
 obtain rfl:=pE
 replace bt:∀ t,dm t=upd dn 20 (.agg #[jV ap.Kind,jV ap.Skier,jV ap.Index,.bool ap.Up]) t:=bt
 have j9:dm 20=.agg #[jV ap.Kind,jV ap.Skier,jV ap.Index,.bool ap.Up]:=(bt 20).trans (wEu _ _ _)
 have fO:dm 1=.pointer (some ⟨b2,0,none⟩):=(bt 1).trans ((wFM _ _ (by decide)).trans j7)
 have k5:dm 3=.pointer (some ⟨b6,0,none⟩):=(bt 3).trans ((wFM _ _ (by decide)).trans fN)
 clear bt
 let B7:Res:=.blk b8 124 [.slice ag p0.Starts.length ak,.slice ah p0.Splits.length am,.slice ai p0.Clocks.length an,.slice aj p0.Readings.length ao,.map (some af),.slice bd l1591.length bp]
 let B8:Res:=.row bd bp 130 7 (hD wAQ l1591)
 have mY:St aG dl [.obj az eI,.blk b2 28 B0,B6,B8,B7,.obj af (.map aS aT)] qC:=mX
 try dsimp only at g6
 refine rR gBy Z (zV (cs:=[jV 0,jV 0,jV 0,.bool false]) Z Z Z Z Z Zn Z mY ?_)
 intro rk ay mZ
 let B9:List Value:=[jV ap.Kind,jV ap.Skier,jV ap.Index,.bool ap.Up]
 refine zW (j:=0) (vs:=B9) Z Z Z Z mZ Z Z j9 Z ZN (zA Z) Z Z Z ?_
 intro jc m4
 have m5:St aG dl [.blk ay 78 B9,.obj az eI,.blk b2 28 B0,B6,B8,B7,.obj af (.map aS aT)] jc:=m4
 refine zb ⟨rfl,rfl,_,_,(m5.pick [1,0,2,3,4,5,6] [.obj az eI,.blk ay 78 B9,.blk b2 28 B0,B6,B8,B7,.obj af (.map aS aT)] (by decide) rfl),fun fc aK m6=>?_⟩
 have ej:St aG dl [.obj az aK,.blk ay 78 B9,.blk b2 28 B0,B6,B8,B7,.obj af (.map aS aT)] fc:=m6
 refine zY (sR (.fl 0 (.fl 1 (.fx 2 (wKW (.fx 7 (.fx 8 (.fx 9 (.fx 10 (.fl 11 .nil) .stop) .stop) .stop) .stop)) .stop))) Z (oL Z (ej.ldBA (j:=2) Z Z fO zf zX (vs:=B0) Z Z) (oL Z (ej.ldBA (j:=1) Z Z Z Zp ZN (vs:=B9) Z Z) ?_)))
 have l8:=dZ.le di
 have ma:=d5.le di
 have mb:=d7.le di
 have mc:=d9.le di
 have q:=bnd g6
 obtain ⟨⟨aD,aE,aO⟩,md,ib⟩:=q
 try dsimp only at ib
 refine zF 0 Z Z Z Z (zD Z Z Try.call70 (zB Z (zB Z zN)) Z) ej (fun hs=>wBf p0 ag ak ah am ai an aj ao ap fc dl hs l8 ma mb mc md) (.inr Z) ?_
 rintro bZ qU sD jd so m7 ⟨rfl,rfl⟩
 have m8:St aG bZ [.obj az aK,.blk ay 78 B9,.blk b2 28 B0,B6,B8,B7,.obj af (.map aS aT)] jd:=m7
 refine oM Z Z (oR Z (zU Z Z (v:=.agg #[jV aD.skier,jV aD.mat]) Z) (oR Z (zU Z Z (v:=.agg #[jV aE.skier,jV aE.mat]) Z) (oR Z (zU Z Z (v:=jV aO) Z) ?_)))
 let cd:List Value:=[jV 0,jV 0]
 refine zV (cs:=cd) Z Z Z Z Z zd Z m8 ?_
 intro rn aL m9
 refine zV (cs:=cd) Z Z Z Z Z zd Z m9 ?_
 intro rp aM n3
 let aF:List Value:=[jV aD.skier,jV aD.mat]
 refine zW (j:=1) (vs:=aF) Z Z Z Z n3 Z Z Z Z zI (zA Z) Z Z Z ?_
 intro je n4
 have n5:St aG bZ [.blk aM 104 cd,.blk aL 104 aF,.obj az aK,.blk ay 78 B9,.blk b2 28 B0,B6,B8,B7,.obj af (.map aS aT)] je:=n4
 let aH:List Value:=[jV aE.skier,jV aE.mat]
 refine zW (j:=0) (vs:=aH) Z Z Z Z n5 Z Z Z Z zI (zA Z) Z Z Z ?_
 intro jf n6
 have ek:St aG bZ [.blk aM 104 aH,.blk aL 104 aF,.obj az aK,.blk ay 78 B9,.blk b2 28 B0,B6,B8,B7,.obj af (.map aS aT)] jf:=n6
 refine oA Z Z (eN (zL (sR fL4 Z (oL Z (ek.ldBA (j:=1) Z Z Z zh zI (vs:=aF) Z Z) (oL Z (ek.ldBA (j:=0) Z Z Z zh zI (vs:=aH) Z Z) ?_)))))
 let eO:List Value:=[jV aD.skier,jV aD.mat,jV aE.skier,jV aE.mat]
 refine oR Z (Runs.buildA (pv:=[(0,.agg aF.toArray),(1,.agg aH.toArray)]) (z:=[jV 0,jV 0,jV 0,jV 0]) (cs:=eO) Z (wAG Z (wAG Z wAN)) Try.zeroValue180 Try.runUnderlying180 zI Z Z) (oM Z Z (eN (zY (bnK ib fun ax pH pL=>?_))))
 have q:=wBL pH
 obtain ⟨ew,pI⟩:=q
 replace ew:=zM ew
 refine CK.forN' (fun bX bY σ_ w_=>∃ (φ_:PHeap) (bL:Array MapEntry) (cB:Nat),σ_ 31=jV (↑bX:Int)/\σ_ 1=.pointer (some ⟨b2,0,none⟩)/\σ_ 3=.pointer (some ⟨b6,0,none⟩)/\σ_ 4=.pointer (some ⟨ay,0,none⟩)/\σ_ 5=.pointer (some ⟨aL,0,none⟩)/\σ_ 6=.pointer (some ⟨aM,0,none⟩)/\σ_ 7=jV aO/\σ_ 30=.agg eO.toArray/\PHeap.Le bZ φ_/\St aG φ_ [.blk aM 104 aH,.blk aL 104 aF,.obj az aK,.blk ay 78 B9,.blk b2 28 B0,B6,B8,B7,.obj af (.map bL cB)] w_/\MpR bL wBE wBK bY) pI ?_ ?_ ?_
 exact ⟨bZ,aS,aT,Z,fO,k5,Z,Z,Z,Z,Z,(zO _),ek,l7⟩
 rintro bX bY sI sN rq eu ⟨dq,bL,cB,cX,fP,bU,fQ,fR,fS,fT,dL,it,n7,cY⟩ p9
 have fm:Hid ((↑bX:Int) < 2):=zM (wAs eu)
 replace eu:=zM eu
 have g7:Hid (w64 ((↑bX:Int) + 1)=(↑(bX + 1):Int)):=zM (by have h1:=ew.out;have h2:=fm.out;rw [wAT] <;> omega)
 refine sR fL1 Z (oR Z (zc Z cX Z) (eN (zL (cT Z fm (kN (zL (zY (sR (.fl 0 (.fx 1 (.fx 2 .nil .stop) .stop)) Z (bnK p9 fun bu ef pM=>oR Z (yh (cs:=hD wBi ([aD,aE]:List wAJ)) Z dL cX Try.runUnderlying180 zI (wCG ef) (wCI ef) (wCr zh zI (wHo (sz:=2) (fun _=>Z) _ _ (wAX ef)))) (zV (cs:=cd) Z Z Z Z Z zd Z n7 ?_))))))))))
 intro rv fk n8
 let bv:List Value:=[jV bu.skier,jV bu.mat]
 refine zW (j:=0) (vs:=bv) Z Z Z Z n8 Z Z Z Z zI (zA Z) Z Z Z ?_
 intro dy n9
 have oa:St aG dq [.blk fk 104 bv,.blk aM 104 aH,.blk aL 104 aF,.obj az aK,.blk ay 78 B9,.blk b2 28 B0,B6,B8,B7,.obj af (.map bL cB)] dy:=n9
 refine eN (zL (ZE ZF [1,3,3,1,1,1,3,3,3,3,3] wMw (by kernel_rfl) ?_))
 have bc:=oa.drew
 generalize hw_W1729:({ dy with drawn:=dy.drawn + 1 }:World)=fd at bc ⊢
 refine oL Z (bc.ldB (j:=6) Z Z bU ya (v:=.pointer (some ⟨b8,0,none⟩)) Z) (oR Z (Zd Z Z) (oR Z (zG Z Z ZI Z Zx) (oL Z (bc.ldB (j:=8) Z Z Z yD (v:=.map (some af)) Z) (oL Z (bc.ldBA (j:=0) Z Z Z zh zI (vs:=bv) Z Z) (oL Z (bc.lookup2 (j:=9) (mk:=wBE) (mv:=wBK) (a:=bu) (z:=0) Z Z Z Z (wBp ZO) wCz zz cY) (oM Z Z (oR Z (zU Z Z (v:=jV (wBH bY bu 0)) Z) (oR Z (zU Z Z (v:=.bool (wJh bY bu)) Z) (oA Z Z (oA Z Z (eN (sR fL2 Z (oM Z Z (oR Z (Ze Z Z) (eN (ifc pM ?_ ?_))))))))))))))))
 intro dz pN
 refine zt (nC dz.out) (Zh (zo (zH (rR fL2 Z (oR Z (ZG (za Z cX Z) (congrArg (jV) g7.out)) (oM Z Z (zb ?_)))))))
 cases pN
 exact zH ⟨rfl,⟨dq,bL,cB,rfl,fP,bU,fQ,fR,fS,fT,dL,it,(bc.pick [1,2,3,4,5,6,7,8,9] _ (by decide) rfl),cY⟩⟩
 intro dz pO
 refine ZL (nF (dz.out)) (ZE ZF [1,3,3,1,1,1,3,3,1,1,0] (wKz (.fx 10 .nil .stop)) (by kernel_rfl) ?_)
 have aX:=bc.drew
 generalize hw_W1737:({ fd with drawn:=fd.drawn + 1 }:World)=rx at aX ⊢
 refine ZJ rfl rfl rfl rfl (aX.ldB (j:=6) rfl rfl bU ya (v:=.pointer (some ⟨b8,0,none⟩)) rfl) rfl (zg rfl rfl rfl rfl (fun _=>Zd rfl rfl) (zg rfl rfl rfl rfl (fun _=>zG rfl rfl ZI rfl Zx) (ZJ rfl rfl rfl rfl (aX.ldB (j:=8) rfl rfl rfl yD (v:=.map (some af)) rfl) rfl (ZJ rfl rfl rfl rfl (aX.ldBA (j:=0) rfl rfl rfl zh zI (vs:=bv) rfl rfl) rfl (ZJ rfl rfl rfl rfl (aX.ldB (j:=6) rfl rfl bU ya (v:=.pointer (some ⟨b8,0,none⟩)) rfl) rfl (zg rfl rfl rfl rfl (fun _=>Zd rfl rfl) (zg rfl rfl rfl rfl (fun _=>zG rfl rfl ZI rfl Zx) (ZJ rfl rfl rfl rfl (aX.ldB (j:=8) rfl rfl rfl yD (v:=.map (some af)) rfl) rfl (ZJ rfl rfl rfl rfl (aX.lenM (j:=9) (mk:=wBE) (mv:=wBK) rfl rfl rfl (wBp ZO) cY) rfl (OKS.mapPut (x:=.tmp 48) (y:=.tmp 49) (z:=.tmp 54) (j:=9) (mk:=wBE) (mv:=wBK) (a:=bu) (v:=(↑(bY.length):Int)) rfl rfl rfl (by first | exact .inl rfl | exact .inr rfl) aX rfl rfl rfl rfl (wBp ZO) wCz cY rfl ?_))))))))))
 intro fA fq jg pU oc
 have od:St aG dq [.blk fk 104 bv,.blk aM 104 aH,.blk aL 104 aF,.obj az aK,.blk ay 78 B9,.blk b2 28 B0,B6,B8,B7,.obj af (.map fA fq)] jg:=oc
 refine zb (zo (zH (rR fL2 Z (oR Z (ZG (za Z cX Z) (congrArg (jV) g7.out)) (oM Z Z (zb ?_))))))
 cases pO
 exact zH ⟨rfl,⟨dq,fA,fq,rfl,fP,bU,fQ,fR,fS,fT,dL,it,(od.pick [1,2,3,4,5,6,7,8,9] _ (by decide) rfl),pU⟩⟩
 rintro sO ff ⟨aZ,aR,aQ,l3,sc,bs,k6,k7,k8,k9,sd,sq,oe,bV⟩
 have j4:Hid (¬ ((↑((2:Int) - 0).toNat:Int) < 2)):=zM (wAc)
 refine sR fL1 rfl (zg rfl rfl rfl rfl (fun _=>zc rfl l3 rfl) (eN (zL (cF Z j4 (Za (zi (zi (ZQ (zH (bnK pL fun aP eg ey=>ZE ZF [2,1,3,3,1,1,1,3,3,1,1,1,1,3,3,1,1,1,3,3,2,0,3,3,0] (wNF (.fx 0 (.fx 20 gCo .stop) (.fx 20 (.fx 0 gCo (.fx 21 (.fx 0 gCg .stop) .stop)) .stop))) (by kernel_rfl) ?_))))))))))
 have aJ:=oe.drew
 generalize hw_W1786:({ ff with drawn:=ff.drawn + 1 }:World)=ry at aJ ⊢
 refine oL Z (aJ.ldB (j:=5) Z Z bs ya (v:=.pointer (some ⟨b8,0,none⟩)) Z) (oR Z (Zd Z Z) (oR Z (zG Z Z ZI Z yY) (oL Z (aJ.ldB (j:=7) Z Z Z Try.isAgg122 (v:=.slice bd l1591.length bp) Z) (oL Z (aJ.ldBA (j:=3) Z Z k6 Zp ZN (vs:=B9) Z Z) (oL Z (aJ.ldB (j:=5) Z Z bs ya (v:=.pointer (some ⟨b8,0,none⟩)) Z) (oR Z (Zd Z Z) (oR Z (zG Z Z ZI Z Zx) (oL Z (aJ.ldB (j:=7) Z Z Z yD (v:=.map (some af)) Z) (oL Z (aJ.ldBA (j:=1) Z Z k7 zh zI (vs:=aF) Z Z) (oL Z (aJ.lookup1 (j:=8) (mk:=wBE) (mv:=wBK) (a:=aD) (z:=0) Z Z Z Z (wBp ZO) wCz zz bV) (oL Z (aJ.ldB (j:=5) Z Z bs ya (v:=.pointer (some ⟨b8,0,none⟩)) Z) (oR Z (Zd Z Z) (oR Z (zG Z Z ZI Z Zx) (oL Z (aJ.ldB (j:=7) Z Z Z yD (v:=.map (some af)) Z) (oL Z (aJ.ldBA (j:=0) Z Z k8 zh zI (vs:=aH) Z Z) (oL Z (aJ.lookup1 (j:=8) (mk:=wBE) (mv:=wBK) (a:=aE) (z:=0) Z Z Z Z (wBp ZO) wCz zz bV) (oM Z k9 ?_)))))))))))))))))
 let bw:List Value:=[jV ap.Kind,jV ap.Skier,jV ap.Index,.bool ap.Up,jV (wBH ax aD 0),jV (wBH ax aE 0),jV aO]
 let du:List Value:=[jV 0,jV 0,jV 0,.bool false,jV 0,jV 0,jV 0]
 refine oR Z (zl (pv:=[(0,.agg B9.toArray),(1,jV (wBH ax aD 0)),(2,jV (wBH ax aE 0)),(3,jV aO)]) (z:=du) (cs:=bw) Z (wAG Z (wAG Z (wAG Z (wAG Z wAN)))) Try.zeroValue130 wJy Z Z) (zr ?_ ?_)
 refine ZR Z Z Z Z (aJ.ldB (j:=5) Z Z bs ya (v:=.pointer (some ⟨b8,0,none⟩)) Z) (zm (pv:=[(0,.agg bw.toArray)]) (zs:=du) (cs:=bw) Z Z Z Z Z (wAG Z wAN) yc yd Try.zeroValue130 Z Z Z Z Z aJ ?_)
 intro jh jN og
 let dv:Res:=.row (some ⟨jN,0,none⟩) 1 130 7 (hD wAQ [(⟨ap,(wBH ax aD 0),(wBH ax aE 0),aO⟩:wAV)])
 have gR:St aG aZ [dv,.blk aM 104 aH,.blk aL 104 aF,.obj az aK,.blk ay 78 B9,.blk b2 28 B0,B6,B8,B7,.obj af (.map aR aQ)] jh:=og
 refine Zm (j:=7) (enc:=wAQ) (xs:=l1591) (ys:=[(⟨ap,(wBH ax aD 0),(wBH ax aE 0),aO⟩:wAV)]) (zs:=aP) rfl rfl rfl rfl rfl Try.underlying122 wIU rfl rfl rfl rfl rfl rfl gR rfl rfl rfl (gR.srcR (j:=0) rfl (by decide) (wAD (f:=wAQ) (sz:=7) (fun _=>rfl) [(⟨ap,(wBH ax aD 0),(wBH ax aE 0),aO⟩:wAV)])) (fun _=>rfl) (fun _=>rfl) eg rfl ?_
 intro ca cw ji oh
 let eQ:Res:=.row ca cw 130 7 (hD wAQ aP)
 have oi:St aG aZ [dv,.blk aM 104 aH,.blk aL 104 aF,.obj az aK,.blk ay 78 B9,.blk b2 28 B0,B6,eQ,B7,.obj af (.map aR aQ)] ji:=oh
 refine oR Z (Zd Z Z) (oR Z (zG Z Z ZI Z yY) (zW (j:=8) (vs:=[.slice ca aP.length cw]) Z Z Z Z oi Z Z Z Z yY (zA Z) Z Z Z ?_))
 intro jj oj
 have om:St aG aZ [dv,.blk aM 104 aH,.blk aL 104 aF,.obj az aK,.blk ay 78 B9,.blk b2 28 B0,B6,eQ,.blk b8 124 [.slice ag p0.Starts.length ak,.slice ah p0.Splits.length am,.slice ai p0.Clocks.length an,.slice aj p0.Readings.length ao,.map (some af),.slice ca aP.length cw],.obj af (.map aR aQ)] jj:=oj
 refine zb (zo ?_)
 have q:=nE ey
 obtain rfl:=q
 exact ⟨_,_,(om.pick [3,5,6,7,8,9] _ (by decide) rfl),rfl,⟨ca,cw,aR,aQ,rfl,bV⟩⟩
 refine zm (pv:=[(0,.agg bw.toArray)]) (zs:=du) (cs:=bw) Z Z Z Z Z (wAG Z wAN) yc yd Try.zeroValue130 Z Z Z Z Z aJ ?_
 intro jk jO oq
 let bx:Res:=.row (some ⟨jO,0,none⟩) 1 130 7 (hD wAQ [(⟨ap,(wBH ax aD 0),(wBH ax aE 0),aO⟩:wAV)])
 have bW:St aG aZ [bx,.blk aM 104 aH,.blk aL 104 aF,.obj az aK,.blk ay 78 B9,.blk b2 28 B0,B6,B8,B7,.obj af (.map aR aQ)] jk:=oq
 refine zr ?_ ?_
 refine ZR rfl rfl rfl rfl (bW.ldB (j:=6) rfl rfl bs ya (v:=.pointer (some ⟨b8,0,none⟩)) rfl) (Zm (j:=7) (enc:=wAQ) (xs:=l1591) (ys:=[(⟨ap,(wBH ax aD 0),(wBH ax aE 0),aO⟩:wAV)]) (zs:=aP) rfl rfl rfl rfl rfl Try.underlying122 wIU rfl rfl rfl rfl rfl rfl bW rfl rfl rfl (bW.srcR (j:=0) rfl (by decide) (wAD (f:=wAQ) (sz:=7) (fun _=>rfl) [(⟨ap,(wBH ax aD 0),(wBH ax aE 0),aO⟩:wAV)])) (fun _=>rfl) (fun _=>rfl) eg rfl ?_)
 intro cb cx jl ot
 let eV:Res:=.row cb cx 130 7 (hD wAQ aP)
 have ou:St aG aZ [bx,.blk aM 104 aH,.blk aL 104 aF,.obj az aK,.blk ay 78 B9,.blk b2 28 B0,B6,eV,B7,.obj af (.map aR aQ)] jl:=ot
 refine oR Z (Zd Z Z) (oR Z (zG Z Z ZI Z yY) (zW (j:=8) (vs:=[.slice cb aP.length cx]) Z Z Z Z ou Z Z Z Z yY (zA Z) Z Z Z ?_))
 intro jm ov
 have ow:St aG aZ [bx,.blk aM 104 aH,.blk aL 104 aF,.obj az aK,.blk ay 78 B9,.blk b2 28 B0,B6,eV,.blk b8 124 [.slice ag p0.Starts.length ak,.slice ah p0.Splits.length am,.slice ai p0.Clocks.length an,.slice aj p0.Readings.length ao,.map (some af),.slice cb aP.length cx],.obj af (.map aR aQ)] jm:=ov
 refine zb (zo ?_)
 have q:=nE ey
 obtain rfl:=q
 exact ⟨_,_,(ow.pick [3,5,6,7,8,9] _ (by decide) rfl),rfl,⟨cb,cx,aR,aQ,rfl,bV⟩⟩
 refine Zm (j:=7) (enc:=wAQ) (xs:=l1591) (ys:=[(⟨ap,(wBH ax aD 0),(wBH ax aE 0),aO⟩:wAV)]) (zs:=aP) rfl rfl rfl rfl rfl Try.underlying122 wIU rfl rfl rfl rfl rfl rfl bW rfl rfl rfl (bW.srcR (j:=0) rfl (by decide) (wAD (f:=wAQ) (sz:=7) (fun _=>rfl) [(⟨ap,(wBH ax aD 0),(wBH ax aE 0),aO⟩:wAV)])) (fun _=>rfl) (fun _=>rfl) eg rfl ?_
 intro cc cy jo ox
 let eW:Res:=.row cc cy 130 7 (hD wAQ aP)
 have gS:St aG aZ [bx,.blk aM 104 aH,.blk aL 104 aF,.obj az aK,.blk ay 78 B9,.blk b2 28 B0,B6,eW,B7,.obj af (.map aR aQ)] jo:=ox
 refine ZR Z Z Z Z (gS.ldB (j:=6) Z Z bs ya (v:=.pointer (some ⟨b8,0,none⟩)) Z) (oR Z (Zd Z Z) (oR Z (zG Z Z ZI Z yY) (zW (j:=8) (vs:=[.slice cc aP.length cy]) Z Z Z Z gS Z Z Z Z yY (zA Z) Z Z Z ?_)))
 intro jp oy
 have oz:St aG aZ [bx,.blk aM 104 aH,.blk aL 104 aF,.obj az aK,.blk ay 78 B9,.blk b2 28 B0,B6,eW,.blk b8 124 [.slice ag p0.Starts.length ak,.slice ah p0.Splits.length am,.slice ai p0.Clocks.length an,.slice aj p0.Readings.length ao,.map (some af),.slice cc aP.length cy],.obj af (.map aR aQ)] jp:=oy
 refine zb (zo ?_)
 have q:=nE ey
 obtain rfl:=q
 exact ⟨_,_,(oz.pick [3,5,6,7,8,9] _ (by decide) rfl),rfl,⟨cc,cy,aR,aQ,rfl,bV⟩⟩
 rintro iD eJ qV jq dk oB
 rcases iE with ⟨iF,sJ⟩ | j5
 try dsimp only at g9
 rintro ⟨dt,dA,cJ,cz,rfl,me⟩
 let dw:Res:=.blk b8 124 [.slice ag p0.Starts.length ak,.slice ah p0.Splits.length am,.slice ai p0.Clocks.length an,.slice aj p0.Readings.length ao,.map (some af),.slice dt iF.length dA]
 let dx:Res:=.row dt dA 130 7 (hD wAQ iF)
 have gT:sW w φ eJ [.blk b2 28 B0,B6,dx,dw,.obj af (.map cJ cz),.obj iD (.deferred (some []))] jq:=oB
 refine zo (zH (sR fL2 Z (oL Z (gT.ldB (j:=1) Z Z fN ya (v:=.pointer (some ⟨b8,0,none⟩)) Z) (oA Z Z (eN (zS ?_))))))
 have mf:=dZ.le dk
 have mg:=d5.le dk
 have mh:=d7.le dk
 have mi:=d9.le dk
 refine wLc (by first | exact .inl rfl | exact .inr rfl) (rbs:=[iD]) (L:=[.blk b2 28 B0,B6,dx,dw,.obj af (.map cJ cz)]) gT fun jr oC=>?_
 have oD:sW w φ eJ [.blk b2 28 B0,B6,dx,dw,.obj af (.map cJ cz)] jr:=oC
 cases g9
 exact ⟨_,(ZM rfl),eJ,_,(oD.pick [3,4,2] _ (by decide) rfl),b8,ag,ak,ah,am,ai,an,aj,ao,af,cJ,cz,dt,dA,rfl,rfl,mf,mg,mh,mi,me⟩
 exact j5.elim
end Go.Proofs.Ytlnfbjphfoipaaa
namespace Go.Proofs.Ytlnfbjphfoipaaa
open Go.KL
set_option maxHeartbeats 4000000
theorem wDo (p0:wAC) (ae:Option Addr) (ai:Nat) (af:Option Addr) (aj:Nat) (ag:Option Addr) (ak:Nat) (ah:Option Addr) (am:Nat) (w:World) (φ:PHeap) (hS:St0 w φ []) (aQ:Sl φ 1 ae ai p0.Starts.length (hD KL.encI p0.Starts)) (aR:Sl φ 2 af aj p0.Splits.length (hD wAE p0.Splits)) (aS:Sl φ 3 ag ak p0.Clocks.length (hD wAB p0.Clocks)) (aT:Sl φ 4 ah am p0.Readings.length (hD wAA p0.Readings)) {r:(Option wAW) × Int} (hm:wBv p0=some r):Gv Try.prog 60 [.agg #[.slice ae p0.Starts.length ai,.slice af p0.Splits.length aj,.slice ag p0.Clocks.length ak,.slice ah p0.Readings.length am]] w (wCF w [] φ (fun φ_ L_ v=>match r.1 with | none=>v=.tuple #[.pointer none,jV r.2]/\L_=[] | some d=>∃ (b0:Nat) (A0p00:Option Addr) (c0p00:Nat) (A0p01:Option Addr) (c0p01:Nat) (A0p02:Option Addr) (c0p02:Nat) (A0p03:Option Addr) (c0p03:Nat) (m0p1:Nat) (es0p1:Array MapEntry) (ck0p1:Nat) (A0p2:Option Addr) (c0p2:Nat),v=.tuple #[.pointer (some ⟨b0,0,none⟩),jV r.2]/\L_=[.blk b0 124 [.slice A0p00 d.Race.Starts.length c0p00,.slice A0p01 d.Race.Splits.length c0p01,.slice A0p02 d.Race.Clocks.length c0p02,.slice A0p03 d.Race.Readings.length c0p03,.map (some m0p1),.slice A0p2 d.edges.length c0p2],.obj m0p1 (.map es0p1 ck0p1),.row A0p2 c0p2 130 7 (hD wAQ d.edges)]/\Sl φ_ 1 A0p00 c0p00 d.Race.Starts.length (hD KL.encI d.Race.Starts)/\Sl φ_ 2 A0p01 c0p01 d.Race.Splits.length (hD wAE d.Race.Splits)/\Sl φ_ 3 A0p02 c0p02 d.Race.Clocks.length (hD wAB d.Race.Clocks)/\Sl φ_ 4 A0p03 c0p03 d.Race.Readings.length (hD wAA d.Race.Readings)/\MpR es0p1 wBE wBK d.number)):=by
 unfold wBv at hm
 refine Gv.of Try.func60 Z Try.ntmps60 Try.results60 Z (sR gCh Z ?_)
 let B0:List Value:=[.slice ae p0.Starts.length ai,.slice af p0.Splits.length aj,.slice ag p0.Clocks.length ak,.slice ah p0.Readings.length am]
 refine zu (cs:=B0) rfl rfl rfl rfl rfl rfl (by rfl) hS ?_
 intro W1 b2 aP
 refine oA Z Z (oA Z Z (eN (zL (sR (.fl 0 gBq) Z (oL Z (aP.ldBA (j:=0) Z Z Z zf zX (vs:=B0) Z Z) (bnK hm fun x5 h6 bj=>zF 0 Z Z Z Z (zD Z Z Try.call68 (zB Z zN) Z) aP (fun hs=>wEN p0 ae ai af aj ag ak ah am W1 φ hs aQ aR aS aT h6) (.inr Z) ?_))))))
 rintro ax L9 bp aF an bd ⟨rfl,rfl⟩
 have au:sW w φ ax [.blk b2 28 B0] aF:=bd
 refine oA Z Z (eN (sR fL2 Z (oM Z Z (oR Z (ZZ Z Z Z) (eN (ifc bj ?_ ?_))))))
 intro ap bg
 refine zt (zw (fun h=>h ap.out)) (kN (sR (.fl 0 gCd) Z (oL Z (au.ldBA (j:=0) Z Z Z zf zX (vs:=B0) Z Z) ?_)))
 have aX:=aQ.le an
 have aY:=aR.le an
 have aZ:=aS.le an
 have a5:=aT.le an
 refine bnK bg fun ab a6 bh=>zF 0 Z Z Z Z (zD Z Z Try.call89 (zB Z zN) Z) au (fun hs=>wFZ p0 ae ai af aj ag ak ah am aF ax hs aX aY aZ a5 a6) (.inr Z) ?_
 rintro aU bm bq aW bo be ⟨aI,ay,aJ,az,aK,aD,aL,aE,aM,av,aO,aN,ao,aq,rfl,rfl,a7,a8,a9,ba,bb⟩
 have bf:sW w φ aU [.blk aI 124 [.slice ay ab.Race.Starts.length aJ,.slice az ab.Race.Splits.length aK,.slice aD ab.Race.Clocks.length aL,.slice aE ab.Race.Readings.length aM,.map (some av),.slice ao ab.edges.length aq],.obj av (.map aO aN),.row ao aq 130 7 (hD wAQ ab.edges),.blk b2 28 B0] aW:=be
 refine oA Z Z (oA Z Z (eN (zS ?_)))
 cases bh
 exact ⟨rfl,_,(wDx rfl rfl),aU,_,(bf.pick [0,1,2] _ (by decide) rfl),aI,ay,aJ,az,aK,aD,aL,aE,aM,av,aO,aN,ao,aq,rfl,rfl,a7,a8,a9,ba,bb⟩
 intro ap bi
 refine cT Z ap (sR fL3 Z (oM Z Z (oA Z Z (oA Z Z (eN (zS (zR ?_)))))))
 cases bi
 exact ⟨rfl,_,(wDx rfl rfl),ax,_,(au.pick [] _ (by decide) rfl),rfl,rfl⟩
theorem wGb (p0 p1:Int) (w:World) (φ:PHeap) (hS:St0 w φ []) {r:Int × Int} (hm:wDR p0 p1=some r):Gv Try.prog 107 [.int .u64 p0,.int .u64 p1] w (wCF w [] φ (fun φ_ L_ v=>v=.tuple #[.int .u64 r.1,.int .u64 r.2]/\L_=[])):=by
 unfold wDR at hm
 split at hm
 rename_i h
 cases hm
 obtain ⟨x,rfl⟩:=nI h.1
 obtain ⟨y,rfl⟩:=nI h.2.2.1
 refine (Go.Proofs.Try.bits_Mul x y (by omega) (by omega) w).mono ?_
 rintro e w' ⟨rfl,rfl⟩
 refine ⟨_,Z,φ,[],hS,?_,Z⟩
 simp
 cases hm
theorem wAl (p0:List Int) (ay:Option Addr) (az:Nat) (p1:Int) (w:World) (φ:PHeap) (hS:St0 w φ []) (bz:Sl φ 1 ay az p0.length (hD KL.encI p0)) {r:(List Int)} (hm:wBC p0 p1=some r):Gv Try.prog 88 [.slice ay p0.length az,jV p1] w (wCF w [] φ (fun φ_ L_ v=>∃ (A0:Option Addr) (c0:Nat),v=.slice A0 r.length c0/\L_=[.row A0 c0 3 1 (hD KL.encI r)])):=by
 unfold wBC at hm
 refine Gv.of Try.func88 Z Try.ntmps88 Try.results88 Z (sR fL1 Z (oA Z Z (eN (zL (sR fL2 Z (oM Z Z (oR Z (zc Z Z Z) (eN ?_))))))))
 by_cases c1:p1 < 0
 have aR:=hm;rw [if_pos c1] at aR;replace c1:=zM c1
 refine cT Z c1 (rR gBy Z ?_)
 cases aR
 have aU:=hm;rw [if_neg c1] at aU;replace c1:=zM c1
 refine cF Z c1 (kN (sR (wIJ (.fx 5 (wNK (.nil)) .stop)) Z (oM Z Z (oR Z (zq Z Z zE) (oR Z (Runs.cv64 Z Z yZ Try.runUnderlying177 Z Z) (oM Z Z (oR Z (Runs.cv64 Z Z yZ Try.runUnderlying177 Z Z) ?_)))))))
 have q:=bnd aU
 obtain ⟨⟨x4,x5⟩,h6,aV⟩:=q
 try dsimp only at aV
 refine zF 0 Z Z Z Z (zD Z Z Try.call107 (zB Z (zB Z zN)) Z) hS (fun hs=>wGb (wKb (↑p0.length:Int)) (wKb p1) w φ hs h6) (.inr Z) ?_
 rintro ap L9 cb a9 bR bs ⟨rfl,rfl⟩
 have aL:sW w φ ap [] a9:=bs
 refine oM Z Z (oR Z (zU Z Z (v:=.int .u64 x4) Z) (oR Z (zU Z Z (v:=.int .u64 x5) Z) (oA Z Z (oA Z Z (eN (zL (bnK aV fun bd aZ bH=>yO (fun σ_ w_=>∃ (φ_:PHeap),σ_ 0=.slice ay p0.length az/\σ_ 6=.int .u64 x5/\σ_ 26=.bool bd/\PHeap.Le ap φ_/\sW w φ φ_ [] w_) ?_ ?_)))))))
 refine rR fL6 Z (oM Z Z (oR Z (yb Z Z Z) (oM Z Z ?_)))
 by_cases ac:0 < x4
 have aS:=aZ;rw [if_pos ac] at aS;replace ac:=zM ac
 refine oT Z ac (oT Z ac (oR Z (zP Z (Zj ac.out) Z) (zb ?_)))
 cases aS
 exact zH ⟨Z,⟨ap,Z,Z,Z,(zO _),aL⟩⟩
 have aT:=aZ;rw [if_neg ac] at aT;replace ac:=zM ac
 refine zk Z Z Z (wF Z ac) Z Z (rU Z (wF Z ac) (yb Z Z Z) (oR Z (zZ Z (zw ac.out) Z) (zb ?_)))
 have q:=nE aT
 obtain rfl:=q
 exact zH ⟨Z,⟨ap,Z,Z,Z,(zO _),aL⟩⟩
 rintro cd bX ⟨ao,bf,bg,aJ,bS,bt⟩
 refine ifc bH ?_ ?_
 intro aq bI
 refine ZL (aJ.trans (congrArg nG aq.out)) (rR gBy Z ?_)
 cases bI
 intro aq bJ
 refine zt (aJ.trans (congrArg nG (nH.2 aq.out))) (kN (sR gCp Z (oM Z bg (oR Z (Runs.cvw Z Z Try.runUnderlying177 yZ Z Z) (bnK bJ fun aa bh bK=>OKS.makeSlice (enc:=KL.encI) (z:=(0:Int)) (v:=jV 0) Z Z Z Z Z (wBp zE) wHr Z Z Z Z Z Z bh bt ?_)))))
 intro ba ab bu
 have aM:sW w φ ao [.row (some ⟨ab,0,none⟩) aa.length 3 1 (hD KL.encI aa)] ba:=bu
 refine oA Z Z (eN (sR gCp Z (oM Z Z (oM Z bf ?_))))
 have bi:=bz.le bR
 have bj:=bi.le bS
 refine bnK bK fun aD bm bL=>OKS.copyM (j:=0) (f:=KL.encI) (m:=aa) (ys:=p0) (z:=aD) (a:=0) (n:=aa.length) rfl rfl rfl rfl rfl rfl zE zC aM rfl (fun _=>rfl) (fun _=>rfl) rfl bm rfl (by simp) (.inr (by simp)) rfl (aM.srcS bj) rfl ?_
 intro bb bv aP
 have bw:sW w φ ao [.row (some ⟨ab,0,none⟩) aa.length 3 1 (hD KL.encI aD)] bb:=bv
 refine oA Z Z (eN (zL (zY (CK.iter (fun (ae,af) σ_ w_=>∃ (φ_:PHeap),σ_ 7=.slice (some ⟨ab,0,none⟩) ae.length aa.length/\σ_ 8=jV af/\PHeap.Le ao φ_/\sW w φ φ_ [.row (some ⟨ab,0,none⟩) aa.length 3 1 (hD KL.encI ae)] w_/\ae.length=aa.length) bL ?_ ?_))))
 exact ⟨ao,(Eq.trans (b:=(.slice (some ⟨ab,0,none⟩) aa.length aa.length:Value)) (c:=(.slice (some ⟨ab,0,none⟩) aD.length aa.length:Value)) rfl (by rw [aP])),rfl,(zO _),bw,aP⟩
 rintro ⟨ae,af⟩ cc cf aH ⟨aF,aj,am,bU,aN,bo⟩ ax bE
 try dsimp only at ax
 refine zL (sR fL4 Z (oM Z am (oM Z aj (oR Z (zq Z Z zE) (oR Z (zc Z Z Z) (eN ?_))))))
 by_cases ah:af < (↑ae.length:Int)
 have aW:=ax;rw [if_pos ah] at aW;replace ah:=zM ah
 refine cT Z ah (kN (zY (ZE ZF [3,3,3,3,3,3,3,0,3,3] (wKy gCi) (by kernel_rfl) ?_)))
 have ak:=aN.drew
 generalize hw_W76:({ aH with drawn:=aH.drawn + 1 }:World)=bY at ak ⊢
 refine oM Z am (oM Z aj (oM Z am (bnK aW fun a7 bp bM=>?_)))
 have q:=wHp bp
 obtain ⟨bA,bC,au,bZ,av⟩:=q
 have aX:=ak.rowCap (j:=0) rfl (by decide) (wAD (f:=KL.encI) (sz:=1) (fun _=>rfl) ae)
 refine zg (v:=.slice (if aa.length=(af:Int).toNat then (some ⟨ab,0,none⟩) else Option.map (fun q:Addr=>q.add ((af:Int).toNat * 1)) ((some ⟨ab,0,none⟩):Option Addr)) a7.length (aa.length - (af:Int).toNat)) rfl rfl rfl rfl (fun _=>ZG (Runs.slc (sz:=1) (a:=af) (b:=(↑(ae.length):Int)) rfl rfl (.inl ⟨_,rfl,rfl⟩) (.inr ⟨rfl,rfl⟩) zE zC bA bC au aX) (by rw [av])) (zk rfl rfl rfl rfl rfl aj (zk rfl rfl rfl rfl rfl am (bnK bM fun a8 aK bN=>?_)))
 have q:=wHp aK
 obtain ⟨bB,bD,bF,ca,bQ⟩:=q
 have aY:=ak.rowCap (j:=0) rfl (by decide) (wAD (f:=KL.encI) (sz:=1) (fun _=>rfl) ae)
 refine zg (v:=.slice (if aa.length=(0:Int).toNat then (some ⟨ab,0,none⟩) else Option.map (fun q:Addr=>q.add ((0:Int).toNat * 1)) ((some ⟨ab,0,none⟩):Option Addr)) a8.length (aa.length - (0:Int).toNat)) rfl rfl rfl rfl (fun _=>ZG (Runs.slc (sz:=1) (a:=0) (b:=af) rfl rfl (.inr ⟨rfl,rfl⟩) (.inl ⟨_,rfl,rfl⟩) zE zC bB bD bF aY) (by rw [bQ])) (bnK bN fun aE bq bP=>OKS.copyM (j:=0) (f:=KL.encI) (m:=ae) (ys:=a8) (z:=aE) (a:=af) (n:=a7.length) rfl rfl rfl rfl rfl rfl zE zC ak rfl (fun _=>rfl) (fun _=>rfl) rfl bq rfl (by have:=av;have:=au;omega) (cutA rfl (by have:=av;have:=au;have:=aX;omega)) rfl (ak.srcCut (f:=KL.encI) (j:=0) rfl (fun _=>rfl) rfl aK aY) rfl ?_)
 intro bc bx aO
 have br:sW w φ aF [.row (some ⟨ab,0,none⟩) aa.length 3 1 (hD KL.encI aE)] bc:=bx
 refine oR Z (za Z Z Z) (oA Z Z (zb (zo ?_)))
 have q:=nE bP
 obtain rfl:=q
 exact zH ⟨rfl,_,rfl,⟨aF,(Eq.trans (b:=(.slice (some ⟨ab,0,none⟩) ae.length aa.length:Value)) (c:=(.slice (some ⟨ab,0,none⟩) aE.length aa.length:Value)) aj (by rw [aO])),rfl,bU,br,(aO.trans bo)⟩⟩
 have aQ:=ax;rw [if_neg ah] at aQ;replace ah:=zM ah
 refine cF Z ah (Za (zi ?_))
 have q:=wAZ aQ
 obtain ⟨bV,bG,be⟩:=q
 have q:=bE bV be
 obtain rfl:=q
 refine zi (ZQ (zH (sR fL2 Z (oM Z aj (oA Z Z (eN (zS ?_)))))))
 have hE:=nE bG;first | subst r | cases hE
 exact ⟨Z,_,(ZM Z),aF,_,aN,(some ⟨ab,0,none⟩),aa.length,Z,Z⟩
theorem wBG (p0:wAW) (ag:Nat) (cZ:Option Addr) (dd:Nat) (c6:Option Addr) (de:Nat) (da:Option Addr) (df:Nat) (db:Option Addr) (dg:Nat) (aa:Nat) (ac:Array MapEntry) (ae:Nat) (aV:Option Addr) (aW:Nat) (p1:Int) (p2:Bool) (w:World) (φ:PHeap) (hS:St0 w φ [.blk ag 124 [.slice cZ p0.Race.Starts.length dd,.slice c6 p0.Race.Splits.length de,.slice da p0.Race.Clocks.length df,.slice db p0.Race.Readings.length dg,.map (some aa),.slice aV p0.edges.length aW],.obj aa (.map ac ae)]) (xa:Sl φ 1 cZ dd p0.Race.Starts.length (hD KL.encI p0.Race.Starts)) (xb:Sl φ 2 c6 de p0.Race.Splits.length (hD wAE p0.Race.Splits)) (xc:Sl φ 3 da df p0.Race.Clocks.length (hD wAB p0.Race.Clocks)) (xd:Sl φ 4 db dg p0.Race.Readings.length (hD wAA p0.Race.Readings)) (co:MpR ac wBE wBK p0.number) (uh:Sl φ 7 aV aW p0.edges.length (hD wAQ p0.edges)) {r:wAb × Int × Bool} (hm:wAd p0 p1 p2=some r):Gv Try.prog 57 [.pointer (some ⟨ag,0,none⟩),jV p1,.bool p2] w (wCF w [.blk ag 124 [.slice cZ p0.Race.Starts.length dd,.slice c6 p0.Race.Splits.length de,.slice da p0.Race.Clocks.length df,.slice db p0.Race.Readings.length dg,.map (some aa),.slice aV p0.edges.length aW],.obj aa (.map ac ae)] φ (fun φ_ L_ v=>∃ (fC:Option Addr) (gD:Nat) (fD:Option Addr) (gE:Nat),v=.tuple #[.agg #[.slice fC r.1.far.length gD,.slice fD r.1.by_.length gE],jV r.2.1,.bool r.2.2]/\L_=[.row fC gD 3 1 (hD KL.encI r.1.far),.row fD gE 3 1 (hD KL.encI r.1.by_),.blk ag 124 [.slice cZ p0.Race.Starts.length dd,.slice c6 p0.Race.Splits.length de,.slice da p0.Race.Clocks.length df,.slice db p0.Race.Readings.length dg,.map (some aa),.slice aV p0.edges.length aW],.obj aa (.map ac ae)])):=by
 unfold wAd at hm
 refine Gv.of Try.func57 Z Try.ntmps57 Try.results57 Z (sR gCh Z ?_)
 let B0:List Value:=[.slice none 0 0,.slice none 0 0]
 refine zV (cs:=B0) Z Z Z Z Z Zk Z hS ?_
 intro W3 b4 tD
 refine oA Z Z (oA Z Z (eN ?_))
 have q:=bnd hm
 obtain ⟨⟨l9,a6⟩,vh,jS⟩:=q
 try dsimp only at jS
 let B1:Res:=.blk ag 124 [.slice cZ p0.Race.Starts.length dd,.slice c6 p0.Race.Splits.length de,.slice da p0.Race.Clocks.length df,.slice db p0.Race.Readings.length dg,.map (some aa),.slice aV p0.edges.length aW]
 refine yO (fun σ_ w_=>∃ (φ_:PHeap) (b8:Nat) (am:Option Addr) (an:Nat) (ao:Option Addr) (ap:Nat),σ_ 0=.pointer (some ⟨ag,0,none⟩)/\σ_ 1=jV p1/\σ_ 2=.bool p2/\σ_ 6=.pointer (some ⟨b4,0,none⟩)/\σ_ 9=.pointer (some ⟨b8,0,none⟩)/\PHeap.Le φ φ_/\SW w [B1,.obj aa (.map ac ae)] φ φ_ [.blk b4 118 B0,B1,.obj aa (.map ac ae),.blk b8 118 [.slice am l9.length an,.slice ao a6.length ap],.row am an 3 1 (hD KL.encI l9),.row ao ap 3 1 (hD KL.encI a6)] w_) ?_ ?_
 refine bnK vh fun aq dT vc=>bnK vc fun aG dU vd=>ZE ZF [2,3,3,3,1,1,2,2,3,3,3,1,1,2,3,2,0] (fC1_5 (wIK (.fx 0 (.fx 6 (.fl 12 (.fx 7 gCx (.fx 15 gCq .stop))) (.fx 7 gDi (.fx 15 gDj .stop))) (.fx 7 (.fx 0 gDi (.fx 15 gDc .stop)) (.fx 15 (.fx 0 gDj (.fx 7 gDc .stop)) .stop))))) (by kernel_rfl) ?_
 have bE:=tD.drew
 generalize hw_W74:({ W3 with drawn:=W3.drawn + 1 }:World)=ws at bE ⊢
 refine ZT (s:=.nil) (M:=fun σ_ w_=>∃ (φ_:PHeap) (dC:Nat) (bI:Option Addr) (bX:Nat) (bJ:Option Addr) (bY:Nat) (dZ:Option Addr) (ew:Nat) (d5:Option Addr) (ey:Nat),σ_ 0=.pointer (some ⟨ag,0,none⟩)/\σ_ 1=jV p1/\σ_ 2=.bool p2/\σ_ 6=.pointer (some ⟨b4,0,none⟩)/\σ_ 9=.pointer (some ⟨dC,0,none⟩)/\σ_ 16=.slice dZ ([1125899906842624].length) ew/\σ_ 17=.pointer (some ⟨ag,0,none⟩)/\σ_ 18=.pointer (some ⟨ag,0,none⟩)/\σ_ 19=.pointer (some ⟨ag,4,none⟩)/\σ_ 20=.map (some aa)/\σ_ 21=jV (↑(p0.number.length):Int)/\σ_ 22=.slice bI aq.length bX/\σ_ 23=.slice d5 ([-1].length) ey/\σ_ 24=.pointer (some ⟨ag,0,none⟩)/\σ_ 25=.pointer (some ⟨ag,0,none⟩)/\σ_ 26=.pointer (some ⟨ag,4,none⟩)/\σ_ 27=.map (some aa)/\σ_ 28=jV (↑(p0.number.length):Int)/\σ_ 29=.slice bJ aG.length bY/\σ_ 30=.agg #[.slice bI aq.length bX,.slice bJ aG.length bY]/\PHeap.Le φ φ_/\SW w [B1,.obj aa (.map ac ae)] φ φ_ [.blk b4 118 B0,B1,.obj aa (.map ac ae),.blk dC 118 [.slice bI aq.length bX,.slice bJ aG.length bY],.row bI bX 3 1 (hD KL.encI aq),.row bJ bY 3 1 (hD KL.encI aG)] w_/\Sl φ_ 1 dZ ew [1125899906842624].length (hD KL.encI [1125899906842624])/\Sl φ_ 1 d5 ey [-1].length (hD KL.encI [-1])) ?_ fun j6=>?_
 rintro xH wm ⟨vM,dC,bI,bX,bJ,bY,dZ,ew,d5,ey,ow,ox,oy,oz,oB,wL,wM,wN,wO,wP,wQ,wR,wS,wU,wV,wW,wX,wY,wZ,w5,vu,tB,w8,w9⟩
 refine zb ?_
 cases vd
 exact zH ⟨Z,⟨vM,dC,bI,bX,bJ,bY,ow,ox,oy,oz,oB,vu,tB⟩⟩
 refine ZT (s:=.fx 16 .nil .stop) (M:=fun σ_ w_=>∃ (φ_:PHeap) (cE:Nat) (dk:Option Addr) (dE:Nat) (bj:Option Addr) (bu:Nat) (dl:Option Addr) (dF:Nat) (bm:Option Addr) (bv:Nat),σ_ 0=.pointer (some ⟨ag,0,none⟩)/\σ_ 1=jV p1/\σ_ 2=.bool p2/\σ_ 6=.pointer (some ⟨b4,0,none⟩)/\σ_ 9=.pointer (some ⟨cE,0,none⟩)/\σ_ 16=.slice dk ([1125899906842624].length) dE/\σ_ 17=.pointer (some ⟨ag,0,none⟩)/\σ_ 18=.pointer (some ⟨ag,0,none⟩)/\σ_ 19=.pointer (some ⟨ag,4,none⟩)/\σ_ 20=.map (some aa)/\σ_ 21=jV (↑(p0.number.length):Int)/\σ_ 22=.slice bj aq.length bu/\σ_ 23=.slice dl ([-1].length) dF/\σ_ 24=.pointer (some ⟨ag,0,none⟩)/\σ_ 25=.pointer (some ⟨ag,0,none⟩)/\σ_ 26=.pointer (some ⟨ag,4,none⟩)/\σ_ 27=.map (some aa)/\σ_ 28=jV (↑(p0.number.length):Int)/\σ_ 29=.slice bm aG.length bv/\σ_ 30=.agg #[.slice bj aq.length bu,.slice bm aG.length bv]/\PHeap.Le φ φ_/\SW w [B1,.obj aa (.map ac ae)] φ φ_ [.blk b4 118 B0,B1,.obj aa (.map ac ae),.blk cE 118 B0,.row bj bu 3 1 (hD KL.encI aq),.row bm bv 3 1 (hD KL.encI aG)] w_/\Sl φ_ 1 dk dE [1125899906842624].length (hD KL.encI [1125899906842624])/\Sl φ_ 1 dl dF [-1].length (hD KL.encI [-1])) ?_ fun vi=>?_
 rintro xI wn ⟨lF,cE,dk,dE,bj,bu,dl,dF,bm,bv,oC,oD,oE,oG,iC,oH,oI,oJ,oK,oO,oP,oQ,oS,oU,oV,oW,oX,oY,oZ,iD,vv,tC,rK,rL⟩
 let B2:List Value:=[.slice bj aq.length bu,.slice bm aG.length bv]
 refine zW (j:=3) (vs:=B2) Z Z Z Z tC Z iC iD Z Zy (zA Z) Z Z Z ?_
 intro ma tE
 have tF:SW w [B1,.obj aa (.map ac ae)] φ lF [.blk b4 118 B0,B1,.obj aa (.map ac ae),.blk cE 118 B2,.row bj bu 3 1 (hD KL.encI aq),.row bm bv 3 1 (hD KL.encI aG)] ma:=tE
 exact j6 _ _ ⟨lF,cE,bj,bu,bm,bv,dk,dE,dl,dF,oC,oD,oE,oG,iC,oH,oI,oJ,oK,oO,oP,oQ,oS,oU,oV,oW,oX,oY,oZ,iD,vv,tF,rK,rL⟩
 refine ZT (s:=gBz) (M:=fun σ_ w_=>∃ (φ_:PHeap) (cG:Nat) (dm:Option Addr) (dG:Nat) (bn:Option Addr) (bw:Nat) (dn:Option Addr) (dH:Nat) (bo:Option Addr) (bx:Nat),σ_ 0=.pointer (some ⟨ag,0,none⟩)/\σ_ 1=jV p1/\σ_ 2=.bool p2/\σ_ 6=.pointer (some ⟨b4,0,none⟩)/\σ_ 9=.pointer (some ⟨cG,0,none⟩)/\σ_ 16=.slice dm ([1125899906842624].length) dG/\σ_ 17=.pointer (some ⟨ag,0,none⟩)/\σ_ 18=.pointer (some ⟨ag,0,none⟩)/\σ_ 19=.pointer (some ⟨ag,4,none⟩)/\σ_ 20=.map (some aa)/\σ_ 21=jV (↑(p0.number.length):Int)/\σ_ 22=.slice bn aq.length bw/\σ_ 23=.slice dn ([-1].length) dH/\σ_ 24=.pointer (some ⟨ag,0,none⟩)/\σ_ 25=.pointer (some ⟨ag,0,none⟩)/\σ_ 26=.pointer (some ⟨ag,4,none⟩)/\σ_ 27=.map (some aa)/\σ_ 28=jV (↑(p0.number.length):Int)/\σ_ 29=.slice bo aG.length bx/\PHeap.Le φ φ_/\SW w [B1,.obj aa (.map ac ae)] φ φ_ [.blk b4 118 B0,B1,.obj aa (.map ac ae),.blk cG 118 B0,.row bn bw 3 1 (hD KL.encI aq),.row bo bx 3 1 (hD KL.encI aG)] w_/\Sl φ_ 1 dm dG [1125899906842624].length (hD KL.encI [1125899906842624])/\Sl φ_ 1 dn dH [-1].length (hD KL.encI [-1])) ?_ fun j7=>?_
 rintro xJ wo ⟨lG,cG,dm,dG,bn,bw,dn,dH,bo,bx,o0,o3,o5,o6,iE,o7,o8,o9,pd,pe,pf,iF,pg,ph,pj,pk,pm,pn,iG,vw,tG,rM,rN⟩
 let B3:List Value:=[.slice bn aq.length bw,.slice bo aG.length bx]
 refine oR Z (zl (pv:=[(0,.slice bn aq.length bw),(1,.slice bo aG.length bx)]) (z:=B0) (cs:=B3) Z (wAG iF (wAG iG wAN)) Zk wHq Z Z) (zW (j:=3) (vs:=B3) Z Z Z Z tG Z iE Z Z Zy (zA Z) Z Z Z ?_)
 intro mb tH
 have tI:SW w [B1,.obj aa (.map ac ae)] φ lG [.blk b4 118 B0,B1,.obj aa (.map ac ae),.blk cG 118 B3,.row bn bw 3 1 (hD KL.encI aq),.row bo bx 3 1 (hD KL.encI aG)] mb:=tH
 exact j6 _ _ ⟨lG,cG,bn,bw,bo,bx,dm,dG,dn,dH,o0,o3,o5,o6,iE,o7,o8,o9,pd,pe,pf,iF,pg,ph,pj,pk,pm,pn,iG,Z,vw,tI,rM,rN⟩
 refine ZT (s:=gCk) (M:=fun σ_ w_=>∃ (φ_:PHeap) (bR:Nat) (dp:Option Addr) (dI:Nat) (cq:Option Addr) (cJ:Nat) (cr:Option Addr) (cK:Nat),σ_ 0=.pointer (some ⟨ag,0,none⟩)/\σ_ 1=jV p1/\σ_ 2=.bool p2/\σ_ 6=.pointer (some ⟨b4,0,none⟩)/\σ_ 9=.pointer (some ⟨bR,0,none⟩)/\σ_ 16=.slice dp ([1125899906842624].length) dI/\σ_ 17=.pointer (some ⟨ag,0,none⟩)/\σ_ 18=.pointer (some ⟨ag,0,none⟩)/\σ_ 19=.pointer (some ⟨ag,4,none⟩)/\σ_ 20=.map (some aa)/\σ_ 21=jV (↑(p0.number.length):Int)/\σ_ 22=.slice cq aq.length cJ/\σ_ 23=.slice cr ([-1].length) cK/\σ_ 24=.pointer (some ⟨ag,0,none⟩)/\σ_ 25=.pointer (some ⟨ag,0,none⟩)/\σ_ 26=.pointer (some ⟨ag,4,none⟩)/\σ_ 27=.map (some aa)/\σ_ 28=jV (↑(p0.number.length):Int)/\PHeap.Le φ φ_/\SW w [B1,.obj aa (.map ac ae)] φ φ_ [.blk b4 118 B0,B1,.obj aa (.map ac ae),.blk bR 118 B0,.row cq cJ 3 1 (hD KL.encI aq),.row cr cK 3 1 (hD KL.encI [-1])] w_/\Sl φ_ 1 dp dI [1125899906842624].length (hD KL.encI [1125899906842624])) ?_ fun dW=>?_
 rintro xK gi ⟨xS,bR,dp,dI,cq,cJ,cr,cK,po,pp,pq,pt,pu,py,pz,pB,pC,pD,pE,pF,iH,pG,pH,pI,pJ,iI,vx,tJ,rO⟩
 have q:=tJ.freezeR (k:=5) (n:=[-1].length) rfl (wAD (f:=KL.encI) (sz:=1) (fun _=>rfl) [-1]) (by decide)
 obtain ⟨lH,lf,jX,tK⟩:=q
 let B4:Res:=.row cq cJ 3 1 (hD KL.encI aq)
 have tL:SW w [B1,.obj aa (.map ac ae)] φ lH [.blk b4 118 B0,B1,.obj aa (.map ac ae),.blk bR 118 B0,B4] gi:=tK
 refine zF 0 Z Z Z Z (zD Z Z Try.call88 (zB iH (zB iI zN)) Z) tL (fun hs=>wAl [-1] cr cK (↑(p0.number.length):Int) gi lH hs jX dU) (.inr Z) ?_
 rintro lI vT xl mc fy tM ⟨fI,gL,rfl,rfl⟩
 have tN:SW w [B1,.obj aa (.map ac ae)] φ lI [.row fI gL 3 1 (hD KL.encI aG),.blk b4 118 B0,B1,.obj aa (.map ac ae),.blk bR 118 B0,B4] mc:=tM
 have rP:=rO.le lf
 have rQ:=rP.le fy
 have rS:=jX.le fy
 exact j7 _ _ ⟨lI,bR,dp,dI,cq,cJ,cr,cK,fI,gL,po,pp,pq,pt,pu,py,pz,pB,pC,pD,pE,pF,iH,pG,pH,pI,pJ,iI,rfl,((vx.trans lf).trans fy),(tN.pick [1,2,3,4,5,0] _ (by decide) rfl),rQ,rS⟩
 refine ZT (s:=gCj) (M:=fun σ_ w_=>∃ (φ_:PHeap) (dq:Option Addr) (dJ:Nat) (bK:Option Addr) (bZ:Nat) (dr:Option Addr) (dK:Nat) (bL:Option Addr) (ca:Nat),σ_ 0=.pointer (some ⟨ag,0,none⟩)/\σ_ 1=jV p1/\σ_ 2=.bool p2/\σ_ 6=.pointer (some ⟨b4,0,none⟩)/\σ_ 16=.slice dq ([1125899906842624].length) dJ/\σ_ 17=.pointer (some ⟨ag,0,none⟩)/\σ_ 18=.pointer (some ⟨ag,0,none⟩)/\σ_ 19=.pointer (some ⟨ag,4,none⟩)/\σ_ 20=.map (some aa)/\σ_ 21=jV (↑(p0.number.length):Int)/\σ_ 22=.slice bK aq.length bZ/\σ_ 23=.slice dr ([-1].length) dK/\σ_ 24=.pointer (some ⟨ag,0,none⟩)/\σ_ 25=.pointer (some ⟨ag,0,none⟩)/\σ_ 26=.pointer (some ⟨ag,4,none⟩)/\σ_ 27=.map (some aa)/\σ_ 28=jV (↑(p0.number.length):Int)/\σ_ 29=.slice bL aG.length ca/\PHeap.Le φ φ_/\SW w [B1,.obj aa (.map ac ae)] φ φ_ [.blk b4 118 B0,B1,.obj aa (.map ac ae),.row bK bZ 3 1 (hD KL.encI aq),.row bL ca 3 1 (hD KL.encI aG)] w_/\Sl φ_ 1 dq dJ [1125899906842624].length (hD KL.encI [1125899906842624])/\Sl φ_ 1 dr dK [-1].length (hD KL.encI [-1])) ?_ fun j8=>?_
 rintro xL wp ⟨vN,dq,dJ,bK,bZ,dr,dK,bL,ca,pK,pL,pM,pN,pO,pP,pQ,pR,pS,pT,iJ,pU,pV,pW,pX,pY,pZ,iK,vy,tO,rT,rV⟩
 refine oR Z (zl (pv:=[(0,.slice bK aq.length bZ),(1,.slice bL aG.length ca)]) (z:=B0) (cs:=[.slice bK aq.length bZ,.slice bL aG.length ca]) Z (wAG iJ (wAG iK wAN)) Zk wHq Z Z) (zV (cs:=B0) Z Z Z Z Z Zk Z tO ?_)
 intro wq mp tP
 exact vi _ _ ⟨vN,mp,dq,dJ,bK,bZ,dr,dK,bL,ca,pK,pL,pM,pN,rfl,pO,pP,pQ,pR,pS,pT,iJ,pU,pV,pW,pX,pY,pZ,iK,rfl,vy,(tP.pick [1,2,3,0,4,5] _ (by decide) rfl),rT,rV⟩
 refine ZT (s:=.fl 12 gCk) (M:=fun σ_ w_=>∃ (φ_:PHeap) (bS:Nat) (dt:Option Addr) (dL:Nat) (ct:Option Addr) (cL:Nat) (cu:Option Addr) (cM:Nat),σ_ 0=.pointer (some ⟨ag,0,none⟩)/\σ_ 1=jV p1/\σ_ 2=.bool p2/\σ_ 6=.pointer (some ⟨b4,0,none⟩)/\σ_ 9=.pointer (some ⟨bS,0,none⟩)/\σ_ 16=.slice dt ([1125899906842624].length) dL/\σ_ 17=.pointer (some ⟨ag,0,none⟩)/\σ_ 18=.pointer (some ⟨ag,0,none⟩)/\σ_ 19=.pointer (some ⟨ag,4,none⟩)/\σ_ 20=.map (some aa)/\σ_ 21=jV (↑(p0.number.length):Int)/\σ_ 22=.slice ct aq.length cL/\σ_ 23=.slice cu ([-1].length) cM/\σ_ 24=.pointer (some ⟨ag,0,none⟩)/\σ_ 25=.pointer (some ⟨ag,0,none⟩)/\σ_ 26=.pointer (some ⟨ag,4,none⟩)/\σ_ 27=.map (some aa)/\PHeap.Le φ φ_/\SW w [B1,.obj aa (.map ac ae)] φ φ_ [.blk b4 118 B0,B1,.obj aa (.map ac ae),.blk bS 118 B0,.row ct cL 3 1 (hD KL.encI aq),.row cu cM 3 1 (hD KL.encI [-1])] w_/\Sl φ_ 1 dt dL [1125899906842624].length (hD KL.encI [1125899906842624])) ?_ fun vj=>?_
 rintro xM gj ⟨xT,bS,dt,dL,ct,cL,cu,cM,p6,p7,p8,p9,qa,qb,qc,qd,qe,qf,qh,qi,iL,qj,qk,qm,iM,vz,jH,rW⟩
 refine oL Z (jH.lenM (j:=2) (mk:=wBE) (mv:=wBK) Z Z iM (wBp ZO) co) ?_
 have q:=jH.freezeR (k:=5) (n:=[-1].length) rfl (wAD (f:=KL.encI) (sz:=1) (fun _=>rfl) [-1]) (by decide)
 obtain ⟨lJ,lg,jY,tQ⟩:=q
 let B5:Res:=.row ct cL 3 1 (hD KL.encI aq)
 have tR:SW w [B1,.obj aa (.map ac ae)] φ lJ [.blk b4 118 B0,B1,.obj aa (.map ac ae),.blk bS 118 B0,B5] gj:=tQ
 refine zF 0 Z Z Z Z (zD Z Z Try.call88 (zB iL (zB Z zN)) Z) tR (fun hs=>wAl [-1] cu cM (↑(p0.number.length):Int) gj lJ hs jY dU) (.inr Z) ?_
 rintro lK vU xm md fz tS ⟨fJ,gM,rfl,rfl⟩
 have tT:SW w [B1,.obj aa (.map ac ae)] φ lK [.row fJ gM 3 1 (hD KL.encI aG),.blk b4 118 B0,B1,.obj aa (.map ac ae),.blk bS 118 B0,B5] md:=tS
 have rX:=rW.le lg
 have rY:=rX.le fz
 have rZ:=jY.le fz
 exact j7 _ _ ⟨lK,bS,dt,dL,ct,cL,cu,cM,fJ,gM,p6,p7,p8,p9,qa,qb,qc,qd,qe,qf,qh,qi,iL,qj,qk,qm,iM,rfl,rfl,((vz.trans lg).trans fz),(tT.pick [1,2,3,4,5,0] _ (by decide) rfl),rY,rZ⟩
 refine ZT (s:=.fl 12 gCq) (M:=fun σ_ w_=>∃ (φ_:PHeap) (cH:Nat) (du:Option Addr) (dM:Nat) (cw:Option Addr) (cN:Nat),σ_ 0=.pointer (some ⟨ag,0,none⟩)/\σ_ 1=jV p1/\σ_ 2=.bool p2/\σ_ 6=.pointer (some ⟨b4,0,none⟩)/\σ_ 9=.pointer (some ⟨cH,0,none⟩)/\σ_ 16=.slice du ([1125899906842624].length) dM/\σ_ 17=.pointer (some ⟨ag,0,none⟩)/\σ_ 18=.pointer (some ⟨ag,0,none⟩)/\σ_ 19=.pointer (some ⟨ag,4,none⟩)/\σ_ 20=.map (some aa)/\σ_ 21=jV (↑(p0.number.length):Int)/\σ_ 22=.slice cw aq.length cN/\σ_ 24=.pointer (some ⟨ag,0,none⟩)/\σ_ 25=.pointer (some ⟨ag,0,none⟩)/\σ_ 26=.pointer (some ⟨ag,4,none⟩)/\σ_ 27=.map (some aa)/\PHeap.Le φ φ_/\SW w [B1,.obj aa (.map ac ae)] φ φ_ [.blk b4 118 B0,B1,.obj aa (.map ac ae),.blk cH 118 B0,.row cw cN 3 1 (hD KL.encI aq)] w_/\Sl φ_ 1 du dM [1125899906842624].length (hD KL.encI [1125899906842624])) ?_ fun vk=>?_
 rintro xN wt ⟨lL,cH,du,dM,cw,cN,qn,qo,qp,qq,qr,qs,qt,qu,qv,qw,qx,qy,qz,qA,qB,iN,vA,jI,r6⟩
 refine oL Z (jI.lenM (j:=2) (mk:=wBE) (mv:=wBK) Z Z iN (wBp ZO) co) (zm (pv:=[(0,jV (-1))]) (zs:=[jV 0]) (cs:=[jV (-1)]) Z Z Z Z Z (wAG Z wAN) zE zC zz Z Z Z Z Z jI ?_)
 intro me gB tU
 have tV:SW w [B1,.obj aa (.map ac ae)] φ lL [.row (some ⟨gB,0,none⟩) 1 3 1 (hD KL.encI [-1]),.blk b4 118 B0,B1,.obj aa (.map ac ae),.blk cH 118 B0,.row cw cN 3 1 (hD KL.encI aq)] me:=tU
 exact dW _ _ ⟨lL,cH,du,dM,cw,cN,(some ⟨gB,0,none⟩),1,qn,qo,qp,qq,qr,qs,qt,qu,qv,qw,qx,qy,rfl,qz,qA,qB,iN,rfl,vA,(tV.pick [1,2,3,4,5,0] _ (by decide) rfl),r6⟩
 refine ZT (s:=gCy) (M:=fun σ_ w_=>∃ (φ_:PHeap) (bU:Nat) (cx:Option Addr) (cO:Nat) (cy:Option Addr) (cP:Nat),σ_ 0=.pointer (some ⟨ag,0,none⟩)/\σ_ 1=jV p1/\σ_ 2=.bool p2/\σ_ 6=.pointer (some ⟨b4,0,none⟩)/\σ_ 9=.pointer (some ⟨bU,0,none⟩)/\σ_ 16=.slice cx ([1125899906842624].length) cO/\σ_ 17=.pointer (some ⟨ag,0,none⟩)/\σ_ 18=.pointer (some ⟨ag,0,none⟩)/\σ_ 19=.pointer (some ⟨ag,4,none⟩)/\σ_ 20=.map (some aa)/\σ_ 21=jV (↑(p0.number.length):Int)/\σ_ 23=.slice cy ([-1].length) cP/\σ_ 24=.pointer (some ⟨ag,0,none⟩)/\σ_ 25=.pointer (some ⟨ag,0,none⟩)/\σ_ 26=.pointer (some ⟨ag,4,none⟩)/\σ_ 27=.map (some aa)/\PHeap.Le φ φ_/\SW w [B1,.obj aa (.map ac ae)] φ φ_ [.blk b4 118 B0,B1,.obj aa (.map ac ae),.blk bU 118 B0,.row cx cO 3 1 (hD KL.encI [1125899906842624]),.row cy cP 3 1 (hD KL.encI [-1])] w_) ?_ fun fk=>?_
 rintro xO gp ⟨xU,bU,cx,cO,cy,cP,qC,qD,qE,qF,qG,iO,qH,qI,qJ,qK,iP,qL,qM,qN,qO,qP,vB,tW⟩
 have q:=tW.freezeR (k:=4) (n:=[1125899906842624].length) rfl (wAD (f:=KL.encI) (sz:=1) (fun _=>rfl) [1125899906842624]) (by decide)
 obtain ⟨lM,vC,jZ,tX⟩:=q
 let B6:Res:=.row cy cP 3 1 (hD KL.encI [-1])
 have tY:SW w [B1,.obj aa (.map ac ae)] φ lM [.blk b4 118 B0,B1,.obj aa (.map ac ae),.blk bU 118 B0,B6] gp:=tX
 refine zF 0 Z Z Z Z (zD Z Z Try.call88 (zB iO (zB iP zN)) Z) tY (fun hs=>wAl [1125899906842624] cx cO (↑(p0.number.length):Int) gp lM hs jZ dT) (.inr Z) ?_
 rintro lN vV xn mf lh tZ ⟨fK,gN,rfl,rfl⟩
 have t5:SW w [B1,.obj aa (.map ac ae)] φ lN [.row fK gN 3 1 (hD KL.encI aq),.blk b4 118 B0,B1,.obj aa (.map ac ae),.blk bU 118 B0,B6] mf:=tZ
 have r7:=jZ.le lh
 exact vj _ _ ⟨lN,bU,cx,cO,fK,gN,cy,cP,qC,qD,qE,qF,qG,iO,qH,qI,qJ,qK,iP,rfl,qL,qM,qN,qO,qP,((vB.trans vC).trans lh),(t5.pick [1,2,3,4,0,5] _ (by decide) rfl),r7⟩
 refine ZT (s:=.fl 12 gCx) (M:=fun σ_ w_=>∃ (φ_:PHeap) (cz:Option Addr) (cQ:Nat) (bM:Option Addr) (cb:Nat) (bN:Option Addr) (cc:Nat),σ_ 0=.pointer (some ⟨ag,0,none⟩)/\σ_ 1=jV p1/\σ_ 2=.bool p2/\σ_ 6=.pointer (some ⟨b4,0,none⟩)/\σ_ 16=.slice cz ([1125899906842624].length) cQ/\σ_ 17=.pointer (some ⟨ag,0,none⟩)/\σ_ 18=.pointer (some ⟨ag,0,none⟩)/\σ_ 19=.pointer (some ⟨ag,4,none⟩)/\σ_ 20=.map (some aa)/\σ_ 21=jV (↑(p0.number.length):Int)/\σ_ 22=.slice bM aq.length cb/\σ_ 23=.slice bN ([-1].length) cc/\σ_ 24=.pointer (some ⟨ag,0,none⟩)/\σ_ 25=.pointer (some ⟨ag,0,none⟩)/\σ_ 26=.pointer (some ⟨ag,4,none⟩)/\σ_ 27=.map (some aa)/\PHeap.Le φ φ_/\SW w [B1,.obj aa (.map ac ae)] φ φ_ [.blk b4 118 B0,B1,.obj aa (.map ac ae),.row bM cb 3 1 (hD KL.encI aq),.row bN cc 3 1 (hD KL.encI [-1])] w_/\Sl φ_ 1 cz cQ [1125899906842624].length (hD KL.encI [1125899906842624])) ?_ fun vl=>?_
 rintro xP gq ⟨vO,cz,cQ,bM,cb,bN,cc,iQ,iR,iS,iT,iU,iV,iW,iX,iY,iZ,i3,eH,i4,i5,i6,eI,li,eX,jm⟩
 refine oL Z (eX.lenM (j:=2) (mk:=wBE) (mv:=wBK) Z Z eI (wBp ZO) co) (zr ?_ ?_)
 have q:=eX.freezeR (k:=4) (n:=[-1].length) rfl (wAD (f:=KL.encI) (sz:=1) (fun _=>rfl) [-1]) (by decide)
 obtain ⟨lO,lj,j0,t6⟩:=q
 let B7:Res:=.row bM cb 3 1 (hD KL.encI aq)
 have t7:SW w [B1,.obj aa (.map ac ae)] φ lO [.blk b4 118 B0,B1,.obj aa (.map ac ae),B7] gq:=t6
 refine zF 0 Z Z Z Z (zD Z Z Try.call88 (zB eH (zB Z zN)) Z) t7 (fun hs=>wAl [-1] bN cc (↑(p0.number.length):Int) gq lO hs j0 dU) (.inr Z) ?_
 rintro lP vW xo mg fA t8 ⟨fL,gO,rfl,rfl⟩
 have t9:SW w [B1,.obj aa (.map ac ae)] φ lP [.row fL gO 3 1 (hD KL.encI aG),.blk b4 118 B0,B1,.obj aa (.map ac ae),B7] mg:=t8
 have r8:=jm.le lj
 have r9:=r8.le fA
 have sa:=j0.le fA
 exact j8 _ _ ⟨lP,cz,cQ,bM,cb,bN,cc,fL,gO,iQ,iR,iS,iT,iU,iV,iW,iX,iY,iZ,i3,eH,i4,i5,i6,eI,rfl,rfl,((li.trans lj).trans fA),(t9.pick [1,2,3,4,0] _ (by decide) rfl),r9,sa⟩
 refine zV (cs:=B0) Z Z Z Z Z Zk Z eX ?_
 intro wu mq ua
 exact dW _ _ ⟨vO,mq,cz,cQ,bM,cb,bN,cc,iQ,iR,iS,iT,rfl,iU,iV,iW,iX,iY,iZ,i3,eH,i4,i5,i6,eI,rfl,li,(ua.pick [1,2,3,0,4,5] _ (by decide) rfl),jm⟩
 refine ZT (s:=gDc) (M:=fun σ_ w_=>∃ (φ_:PHeap) (cI:Nat) (cA:Option Addr) (cR:Nat),σ_ 0=.pointer (some ⟨ag,0,none⟩)/\σ_ 1=jV p1/\σ_ 2=.bool p2/\σ_ 6=.pointer (some ⟨b4,0,none⟩)/\σ_ 9=.pointer (some ⟨cI,0,none⟩)/\σ_ 17=.pointer (some ⟨ag,0,none⟩)/\σ_ 18=.pointer (some ⟨ag,0,none⟩)/\σ_ 19=.pointer (some ⟨ag,4,none⟩)/\σ_ 20=.map (some aa)/\σ_ 21=jV (↑(p0.number.length):Int)/\σ_ 23=.slice cA ([-1].length) cR/\σ_ 24=.pointer (some ⟨ag,0,none⟩)/\σ_ 25=.pointer (some ⟨ag,0,none⟩)/\σ_ 26=.pointer (some ⟨ag,4,none⟩)/\σ_ 27=.map (some aa)/\PHeap.Le φ φ_/\SW w [B1,.obj aa (.map ac ae)] φ φ_ [.blk b4 118 B0,B1,.obj aa (.map ac ae),.blk cI 118 B0,.row cA cR 3 1 (hD KL.encI [-1])] w_) ?_ fun j9=>?_
 rintro xQ wv ⟨lQ,cI,cA,cR,qQ,qR,qS,qT,qU,qV,qW,qX,qY,qZ,q6,q7,q8,q9,rc,vD,ub⟩
 refine zm (pv:=[(0,jV 1125899906842624)]) (zs:=[jV 0]) (cs:=[jV 1125899906842624]) Z Z Z Z Z (wAG Z wAN) zE zC zz Z Z Z Z Z ub ?_
 intro mh gC ud
 have ue:SW w [B1,.obj aa (.map ac ae)] φ lQ [.row (some ⟨gC,0,none⟩) 1 3 1 (hD KL.encI [1125899906842624]),.blk b4 118 B0,B1,.obj aa (.map ac ae),.blk cI 118 B0,.row cA cR 3 1 (hD KL.encI [-1])] mh:=ud
 exact fk _ _ ⟨lQ,cI,(some ⟨gC,0,none⟩),1,cA,cR,qQ,qR,qS,qT,qU,rfl,qV,qW,qX,qY,qZ,q6,q7,q8,q9,rc,vD,(ue.pick [1,2,3,4,0,5] _ (by decide) rfl)⟩
 refine ZT (s:=gDj) (M:=fun σ_ w_=>∃ (φ_:PHeap) (bg:Nat) (bp:Option Addr) (bz:Nat),σ_ 0=.pointer (some ⟨ag,0,none⟩)/\σ_ 1=jV p1/\σ_ 2=.bool p2/\σ_ 6=.pointer (some ⟨b4,0,none⟩)/\σ_ 9=.pointer (some ⟨bg,0,none⟩)/\σ_ 16=.slice bp ([1125899906842624].length) bz/\σ_ 17=.pointer (some ⟨ag,0,none⟩)/\σ_ 18=.pointer (some ⟨ag,0,none⟩)/\σ_ 19=.pointer (some ⟨ag,4,none⟩)/\σ_ 20=.map (some aa)/\σ_ 21=jV (↑(p0.number.length):Int)/\σ_ 24=.pointer (some ⟨ag,0,none⟩)/\σ_ 25=.pointer (some ⟨ag,0,none⟩)/\σ_ 26=.pointer (some ⟨ag,4,none⟩)/\σ_ 27=.map (some aa)/\PHeap.Le φ φ_/\SW w [B1,.obj aa (.map ac ae)] φ φ_ [.blk b4 118 B0,B1,.obj aa (.map ac ae),.blk bg 118 B0,.row bp bz 3 1 (hD KL.encI [1125899906842624])] w_) ?_ fun k5=>?_
 rintro xR gt ⟨lR,bg,bp,bz,i7,i8,i9,ja,jb,eJ,jc,jd,je,jf,eK,jg,jh,ji,jj,lk,jJ⟩
 refine zr ?_ ?_
 have q:=jJ.freezeR (k:=4) (n:=[1125899906842624].length) rfl (wAD (f:=KL.encI) (sz:=1) (fun _=>rfl) [1125899906842624]) (by decide)
 obtain ⟨lS,vE,j1,uf⟩:=q
 have ug:SW w [B1,.obj aa (.map ac ae)] φ lS [.blk b4 118 B0,B1,.obj aa (.map ac ae),.blk bg 118 B0] gt:=uf
 refine zF 0 Z Z Z Z (zD Z Z Try.call88 (zB eJ (zB eK zN)) Z) ug (fun hs=>wAl [1125899906842624] bp bz (↑(p0.number.length):Int) gt lS hs j1 dT) (.inr Z) ?_
 rintro lv vP xh lT k6 sd ⟨fE,gF,rfl,rfl⟩
 have sf:SW w [B1,.obj aa (.map ac ae)] φ lv [.row fE gF 3 1 (hD KL.encI aq),.blk b4 118 B0,B1,.obj aa (.map ac ae),.blk bg 118 B0] lT:=sd
 have ri:=j1.le k6
 exact vk _ _ ⟨lv,bg,bp,bz,fE,gF,i7,i8,i9,ja,jb,eJ,jc,jd,je,jf,eK,rfl,jg,jh,ji,jj,((lk.trans vE).trans k6),(sf.pick [1,2,3,4,0] _ (by decide) rfl),ri⟩
 refine zm (pv:=[(0,jV (-1))]) (zs:=[jV 0]) (cs:=[jV (-1)]) Z Z Z Z Z (wAG Z wAN) zE zC zz Z Z Z Z Z jJ ?_
 intro lU gu sg
 have sh:SW w [B1,.obj aa (.map ac ae)] φ lR [.row (some ⟨gu,0,none⟩) 1 3 1 (hD KL.encI [-1]),.blk b4 118 B0,B1,.obj aa (.map ac ae),.blk bg 118 B0,.row bp bz 3 1 (hD KL.encI [1125899906842624])] lU:=sg
 exact fk _ _ ⟨lR,bg,bp,bz,(some ⟨gu,0,none⟩),1,i7,i8,i9,ja,jb,eJ,jc,jd,je,jf,eK,rfl,jg,jh,ji,jj,lk,(sh.pick [1,2,3,4,5,0] _ (by decide) rfl)⟩
 refine ZT (s:=gDi) (M:=fun σ_ w_=>∃ (φ_:PHeap) (bG:Option Addr) (bV:Nat) (bH:Option Addr) (bW:Nat),σ_ 0=.pointer (some ⟨ag,0,none⟩)/\σ_ 1=jV p1/\σ_ 2=.bool p2/\σ_ 6=.pointer (some ⟨b4,0,none⟩)/\σ_ 16=.slice bG ([1125899906842624].length) bV/\σ_ 17=.pointer (some ⟨ag,0,none⟩)/\σ_ 18=.pointer (some ⟨ag,0,none⟩)/\σ_ 19=.pointer (some ⟨ag,4,none⟩)/\σ_ 20=.map (some aa)/\σ_ 21=jV (↑(p0.number.length):Int)/\σ_ 23=.slice bH ([-1].length) bW/\σ_ 24=.pointer (some ⟨ag,0,none⟩)/\σ_ 25=.pointer (some ⟨ag,0,none⟩)/\σ_ 26=.pointer (some ⟨ag,4,none⟩)/\σ_ 27=.map (some aa)/\PHeap.Le φ φ_/\SW w [B1,.obj aa (.map ac ae)] φ φ_ [.blk b4 118 B0,B1,.obj aa (.map ac ae),.row bG bV 3 1 (hD KL.encI [1125899906842624]),.row bH bW 3 1 (hD KL.encI [-1])] w_) ?_ fun j5=>?_
 rintro xv fU ⟨vI,bG,bV,bH,bW,gP,gQ,gR,gS,eA,gT,gU,gV,gW,eB,gX,gY,gZ,g6,g7,k7,jv⟩
 refine zr ?_ ?_
 have q:=jv.freezeR (k:=3) (n:=[1125899906842624].length) rfl (wAD (f:=KL.encI) (sz:=1) (fun _=>rfl) [1125899906842624]) (by decide)
 obtain ⟨lw,vm,jU,sj⟩:=q
 let B8:Res:=.row bH bW 3 1 (hD KL.encI [-1])
 have sk:SW w [B1,.obj aa (.map ac ae)] φ lw [.blk b4 118 B0,B1,.obj aa (.map ac ae),B8] fU:=sj
 refine zF 0 Z Z Z Z (zD Z Z Try.call88 (zB eA (zB eB zN)) Z) sk (fun hs=>wAl [1125899906842624] bG bV (↑(p0.number.length):Int) fU lw hs jU dT) (.inr Z) ?_
 rintro lx vQ xi lV k8 sl ⟨fG,gG,rfl,rfl⟩
 have sm:SW w [B1,.obj aa (.map ac ae)] φ lx [.row fG gG 3 1 (hD KL.encI aq),.blk b4 118 B0,B1,.obj aa (.map ac ae),B8] lV:=sl
 have rk:=jU.le k8
 exact vl _ _ ⟨lx,bG,bV,fG,gG,bH,bW,gP,gQ,gR,gS,eA,gT,gU,gV,gW,eB,rfl,gX,gY,gZ,g6,g7,((k7.trans vm).trans k8),(sm.pick [1,2,3,0,4] _ (by decide) rfl),rk⟩
 refine zV (cs:=B0) Z Z Z Z Z Zk Z jv ?_
 intro vX mi so
 exact fk _ _ ⟨vI,mi,bG,bV,bH,bW,gP,gQ,gR,gS,rfl,eA,gT,gU,gV,gW,eB,gX,gY,gZ,g6,g7,k7,(so.pick [1,2,3,0,4,5] _ (by decide) rfl)⟩
 refine oM Z Z (oR Z (Zd Z Z) (oR Z (zG Z Z ZI Z Zx) (oL Z (bE.ldB (j:=1) Z Z Z yD (v:=.map (some aa)) Z) (oL Z (bE.lenM (j:=2) (mk:=wBE) (mv:=wBK) Z Z Z (wBp ZO) co) (oM Z Z (oR Z (Zd Z Z) (oR Z (zG Z Z ZI Z Zx) (oL Z (bE.ldB (j:=1) Z Z Z yD (v:=.map (some aa)) Z) (zr ?_ ?_)))))))))
 refine zm (pv:=[(0,jV 1125899906842624)]) (zs:=[jV 0]) (cs:=[jV 1125899906842624]) Z Z Z Z Z (wAG Z wAN) zE zC zz Z Z Z Z Z bE ?_
 intro eg bt sq
 let B9:Res:=.row (some ⟨bt,0,none⟩) 1 3 1 (hD KL.encI [1125899906842624])
 have eM:SW w [B1,.obj aa (.map ac ae)] φ φ [B9,.blk b4 118 B0,B1,.obj aa (.map ac ae)] eg:=sq
 refine zr ?_ ?_
 have q:=eM.freezeR (k:=0) (n:=[1125899906842624].length) rfl (wAD (f:=KL.encI) (sz:=1) (fun _=>rfl) [1125899906842624]) (by decide)
 obtain ⟨ly,ft,dV,sr⟩:=q
 have ss:SW w [B1,.obj aa (.map ac ae)] φ ly [.blk b4 118 B0,B1,.obj aa (.map ac ae)] eg:=sr
 refine zF 0 Z Z Z Z (zD Z Z Try.call88 (zB Z (zB Z zN)) Z) ss (fun hs=>wAl [1125899906842624] (some ⟨bt,0,none⟩) 1 (↑(p0.number.length):Int) eg ly hs dV dT) (.inr Z) ?_
 rintro dh vR xj lW cp su ⟨di,dD,rfl,rfl⟩
 let cB:Res:=.row di dD 3 1 (hD KL.encI aq)
 have eO:SW w [B1,.obj aa (.map ac ae)] φ dh [cB,.blk b4 118 B0,B1,.obj aa (.map ac ae)] lW:=su
 refine oL Z (eO.lenM (j:=3) (mk:=wBE) (mv:=wBK) Z Z Z (wBp ZO) co) (zr ?_ ?_)
 refine zm (pv:=[(0,jV (-1))]) (zs:=[jV 0]) (cs:=[jV (-1)]) Z Z Z Z Z (wAG Z wAN) zE zC zz Z Z Z Z Z eO ?_
 intro eh dA sv
 have jw:SW w [B1,.obj aa (.map ac ae)] φ dh [.row (some ⟨dA,0,none⟩) 1 3 1 (hD KL.encI [-1]),cB,.blk b4 118 B0,B1,.obj aa (.map ac ae)] eh:=sv
 refine zr ?_ ?_
 have q:=jw.freezeR (k:=0) (n:=[-1].length) rfl (wAD (f:=KL.encI) (sz:=1) (fun _=>rfl) [-1]) (by decide)
 obtain ⟨lz,k9,jW,sw⟩:=q
 have sA:SW w [B1,.obj aa (.map ac ae)] φ lz [cB,.blk b4 118 B0,B1,.obj aa (.map ac ae)] eh:=sw
 refine zF 0 Z Z Z Z (zD Z Z Try.call88 (zB Z (zB Z zN)) Z) sA (fun hs=>wAl [-1] (some ⟨dA,0,none⟩) 1 (↑(p0.number.length):Int) eh lz hs jW dU) (.inr Z) ?_
 rintro lA vS xk lX fu sB ⟨fH,gH,rfl,rfl⟩
 have sC:SW w [B1,.obj aa (.map ac ae)] φ lA [.row fH gH 3 1 (hD KL.encI aG),cB,.blk b4 118 B0,B1,.obj aa (.map ac ae)] lX:=sB
 have rn:=dV.le cp
 have rp:=rn.le k9
 have rq:=rp.le fu
 have rv:=jW.le fu
 exact j8 _ _ ⟨lA,(some ⟨bt,0,none⟩),1,di,dD,(some ⟨dA,0,none⟩),1,fH,gH,rfl,rfl,rfl,rfl,rfl,rfl,rfl,rfl,rfl,rfl,rfl,rfl,rfl,rfl,rfl,rfl,rfl,rfl,(((ft.trans cp).trans k9).trans fu),(sC.pick [2,3,4,1,0] _ (by decide) rfl),rq,rv⟩
 refine zV (cs:=B0) Z Z Z Z Z Zk Z jw ?_
 intro vY mj sD
 have rx:=dV.le cp
 exact dW _ _ ⟨dh,mj,(some ⟨bt,0,none⟩),1,di,dD,(some ⟨dA,0,none⟩),1,rfl,rfl,rfl,rfl,rfl,rfl,rfl,rfl,rfl,rfl,rfl,rfl,rfl,rfl,rfl,rfl,rfl,rfl,(ft.trans cp),(sD.pick [3,4,5,0,2,1] _ (by decide) rfl),rx⟩
 refine zV (cs:=B0) Z Z Z Z Z Zk Z eO ?_
 intro vZ gv sE
 refine zm (pv:=[(0,jV (-1))]) (zs:=[jV 0]) (cs:=[jV (-1)]) Z Z Z Z Z (wAG Z wAN) zE zC zz Z Z Z Z Z sE ?_
 intro lY gw sF
 have sG:SW w [B1,.obj aa (.map ac ae)] φ dh [.row (some ⟨gw,0,none⟩) 1 3 1 (hD KL.encI [-1]),.blk gv 118 B0,cB,.blk b4 118 B0,B1,.obj aa (.map ac ae)] lY:=sF
 have ry:=dV.le cp
 exact dW _ _ ⟨dh,gv,(some ⟨bt,0,none⟩),1,di,dD,(some ⟨gw,0,none⟩),1,rfl,rfl,rfl,rfl,rfl,rfl,rfl,rfl,rfl,rfl,rfl,rfl,rfl,rfl,rfl,rfl,rfl,rfl,(ft.trans cp),(sG.pick [3,4,5,1,2,0] _ (by decide) rfl),ry⟩
 refine zr ?_ ?_
 refine zm (pv:=[(0,jV (-1))]) (zs:=[jV 0]) (cs:=[jV (-1)]) Z Z Z Z Z (wAG Z wAN) zE zC zz Z Z Z Z Z eM ?_
 intro lZ gx sH
 have sI:SW w [B1,.obj aa (.map ac ae)] φ φ [.row (some ⟨gx,0,none⟩) 1 3 1 (hD KL.encI [-1]),B9,.blk b4 118 B0,B1,.obj aa (.map ac ae)] lZ:=sH
 exact j5 _ _ ⟨φ,(some ⟨bt,0,none⟩),1,(some ⟨gx,0,none⟩),1,rfl,rfl,rfl,rfl,rfl,rfl,rfl,rfl,rfl,rfl,rfl,rfl,rfl,rfl,rfl,(zO _),(sI.pick [2,3,4,1,0] _ (by decide) rfl)⟩
 refine zV (cs:=B0) Z Z Z Z Z Zk Z eM ?_
 intro v3 ml sJ
 exact k5 _ _ ⟨φ,ml,(some ⟨bt,0,none⟩),1,rfl,rfl,rfl,rfl,rfl,rfl,rfl,rfl,rfl,rfl,rfl,rfl,rfl,rfl,rfl,(zO _),(sJ.pick [2,3,4,0,1] _ (by decide) rfl)⟩
 refine zr ?_ ?_
 refine zm (pv:=[(0,jV (-1))]) (zs:=[jV 0]) (cs:=[jV (-1)]) Z Z Z Z Z (wAG Z wAN) zE zC zz Z Z Z Z Z bE ?_
 intro l3 ek sK
 let fM:Res:=.row (some ⟨ek,0,none⟩) 1 3 1 (hD KL.encI [-1])
 have jx:SW w [B1,.obj aa (.map ac ae)] φ φ [fM,.blk b4 118 B0,B1,.obj aa (.map ac ae)] l3:=sK
 refine zr ?_ ?_
 refine zm (pv:=[(0,jV 1125899906842624)]) (zs:=[jV 0]) (cs:=[jV 1125899906842624]) Z Z Z Z Z (wAG Z wAN) zE zC zz Z Z Z Z Z jx ?_
 intro l4 gy sL
 have sM:SW w [B1,.obj aa (.map ac ae)] φ φ [.row (some ⟨gy,0,none⟩) 1 3 1 (hD KL.encI [1125899906842624]),fM,.blk b4 118 B0,B1,.obj aa (.map ac ae)] l4:=sL
 exact j5 _ _ ⟨φ,(some ⟨gy,0,none⟩),1,(some ⟨ek,0,none⟩),1,rfl,rfl,rfl,rfl,rfl,rfl,rfl,rfl,rfl,rfl,rfl,rfl,rfl,rfl,rfl,(zO _),(sM.pick [2,3,4,0,1] _ (by decide) rfl)⟩
 refine zV (cs:=B0) Z Z Z Z Z Zk Z jx ?_
 intro v4 mo sN
 exact j9 _ _ ⟨φ,mo,(some ⟨ek,0,none⟩),1,rfl,rfl,rfl,rfl,rfl,rfl,rfl,rfl,rfl,rfl,rfl,rfl,rfl,rfl,rfl,(zO _),(sN.pick [2,3,4,0,1] _ (by decide) rfl)⟩
 refine zV (cs:=B0) Z Z Z Z Z Zk Z bE ?_
 intro v5 dB jy
 refine zr ?_ ?_
 refine zm (pv:=[(0,jV 1125899906842624)]) (zs:=[jV 0]) (cs:=[jV 1125899906842624]) Z Z Z Z Z (wAG Z wAN) zE zC zz Z Z Z Z Z jy ?_
 intro l5 gz sO
 have sP:SW w [B1,.obj aa (.map ac ae)] φ φ [.row (some ⟨gz,0,none⟩) 1 3 1 (hD KL.encI [1125899906842624]),.blk dB 118 B0,.blk b4 118 B0,B1,.obj aa (.map ac ae)] l5:=sO
 exact k5 _ _ ⟨φ,dB,(some ⟨gz,0,none⟩),1,rfl,rfl,rfl,rfl,rfl,rfl,rfl,rfl,rfl,rfl,rfl,rfl,rfl,rfl,rfl,(zO _),(sP.pick [2,3,4,1,0] _ (by decide) rfl)⟩
 refine zm (pv:=[(0,jV (-1))]) (zs:=[jV 0]) (cs:=[jV (-1)]) Z Z Z Z Z (wAG Z wAN) zE zC zz Z Z Z Z Z jy ?_
 intro l6 gA sQ
 have sS:SW w [B1,.obj aa (.map ac ae)] φ φ [.row (some ⟨gA,0,none⟩) 1 3 1 (hD KL.encI [-1]),.blk dB 118 B0,.blk b4 118 B0,B1,.obj aa (.map ac ae)] l6:=sQ
 exact j9 _ _ ⟨φ,dB,(some ⟨gA,0,none⟩),1,rfl,rfl,rfl,rfl,rfl,rfl,rfl,rfl,rfl,rfl,rfl,rfl,rfl,rfl,rfl,(zO _),(sS.pick [2,3,4,1,0] _ (by decide) rfl)⟩
 rintro xw v7 ⟨lB,b8,am,an,ao,ap,mx,my,mz,mA,g8,vn,jz⟩
 refine zL (sR fL4 Z (oR Z (zG Z g8 ZU Z zy) (oL Z (jz.ldB (j:=3) Z Z Z ZK (v:=.slice am l9.length an) Z) (oR Z (zq Z Z zE) (oM Z Z (eN (zY (bnK jS fun xt uk fj=>?_))))))))
 have q:=wBL uk
 obtain ⟨ff,um⟩:=q
 replace ff:=zM ff
 let bq:Res:=.row ao ap 3 1 (hD KL.encI a6)
 refine CK.forN' (fun aZ aI σ_ w_=>∃ (φ_:PHeap),σ_ 34=jV (↑aZ:Int)/\σ_ 0=.pointer (some ⟨ag,0,none⟩)/\σ_ 1=jV p1/\σ_ 2=.bool p2/\σ_ 6=.pointer (some ⟨b4,0,none⟩)/\σ_ 9=.pointer (some ⟨b8,0,none⟩)/\σ_ 33=jV (↑l9.length:Int)/\PHeap.Le lB φ_/\SW w [B1,.obj aa (.map ac ae)] φ φ_ [.blk b4 118 B0,B1,.obj aa (.map ac ae),.row am an 3 1 (hD KL.encI aI),bq,.blk b8 118 [.slice am aI.length an,.slice ao a6.length ap]] w_/\aI.length=l9.length) um ?_ ?_ ?_
 exact ⟨lB,rfl,mx,my,mz,mA,g8,rfl,(zO _),(jz.pick [0,1,2,4,5,3] _ (by decide) rfl),rfl⟩
 rintro aZ aI xp xx v9 fb ⟨bF,cX,eD,cS,eE,eF,cU,dN,fw,bD,eL⟩ j2
 have gI:Hid ((↑aZ:Int) < (↑l9.length:Int)):=zM (wAs fb)
 replace fb:=zM fb
 have eZ:Hid (w64 ((↑aZ:Int) + 1)=(↑(aZ + 1):Int)):=zM (by have h1:=ff.out;have h2:=gI.out;rw [wAT] <;> omega)
 refine sR fL1 Z (oR Z (zc Z cX dN) (eN (zL (cT Z gI (kN (zL (zY (sR fL2 Z (oM Z cX (oA Z Z (eN (sR fL7 Z (oM Z cS (oR Z (zc Z Z Z) (oM Z Z ?_)))))))))))))))
 by_cases aK:p1 < 0
 have jK:=j2;rw [if_pos aK] at jK;replace aK:=zM aK
 refine oT Z aK (oT Z aK (oT Z aK (oR Z (zP Z (Zj aK.out) Z) (eN (ZL Z (rR (wEI (.fx 4 .nil .stop)) Z (oR Z (zG Z cU ZU Z zy) (oL Z (bD.ldB (j:=5) Z Z Z ZK (v:=.slice am aI.length an) Z) (oM Z Z (bnK jK fun _ dR uM=>?_))))))))))
 obtain ⟨ww,jo⟩:=bD.rowSome (j:=3) rfl (by rw [wAD (f:=KL.encI) (sz:=1) (fun _=>rfl) aI];have hz:=wAY dR;omega)
 refine oR Z (Zc Z Z jo Z zE zC (wAY dR)) ?_
 have uq:=wBr (xs:=aI) (wAY dR)
 refine yk (j:=3) (vs:=[jV 0]) (cs':=hD KL.encI (nD aI aZ 0)) rfl rfl rfl rfl bD rfl jo rfl rfl rfl zC (by rw [wAD (f:=KL.encI) (sz:=1) (fun _=>rfl)];have hz:=wAY dR;show _ + 1 <= _;first | omega | (simp only [nA];omega) | (simp only [hU,hH,hJ];omega)) rfl (wDJ (sz:=1) (fo:=0) (fun _=>rfl) _ _ _ _ uq (by first | omega | (simp only [nA];omega) | (simp only [hU,hH,hJ];omega)) (zA rfl) rfl) rfl ?_
 intro fV sT
 let d7:Res:=.row am an 3 1 (hD KL.encI (nD aI aZ 0))
 have sU:SW w [B1,.obj aa (.map ac ae)] φ bF [.blk b4 118 B0,B1,.obj aa (.map ac ae),d7,bq,.blk b8 118 [.slice am aI.length an,.slice ao a6.length ap]] fV:=sT
 have sV:SW w [B1,.obj aa (.map ac ae)] φ bF [.blk b4 118 B0,B1,.obj aa (.map ac ae),d7,bq,.blk b8 118 [.slice am ((nD aI aZ 0).length) an,.slice ao a6.length ap]] fV:=by simpa only [B0,B1,bq,d7,nB] using sU
 refine zb (zo (zH (rR fL2 Z (oR Z (ZG (za Z cX Z) (congrArg (jV) eZ.out)) (oM Z Z (zb ?_))))))
 cases uM
 exact zH ⟨Z,⟨bF,Z,eD,cS,eE,eF,cU,dN,fw,sV,(nB.trans eL)⟩⟩
 have jL:=j2;rw [if_neg aK] at jL;replace aK:=zM aK
 refine zk Z Z Z (wF Z aK) Z Z (zk Z Z Z (wF Z aK) Z cS (rU Z (wF Z aK) (Zs Z Z Z) (oR Z (zZ Z (zw aK.out) Z) (eN (ifc jL ?_ ?_)))))
 intro en uN
 refine cT Z en (rR (wEI (.fx 4 .nil .stop)) Z (oR Z (zG Z cU ZU Z zy) (oL Z (bD.ldB (j:=5) Z Z Z ZK (v:=.slice am aI.length an) Z) (oM Z Z (bnK uN fun _ dS uO=>?_)))))
 obtain ⟨wx,jp⟩:=bD.rowSome (j:=3) rfl (by rw [wAD (f:=KL.encI) (sz:=1) (fun _=>rfl) aI];have hz:=wAY dS;omega)
 refine oR Z (Zc Z Z jp Z zE zC (wAY dS)) ?_
 have ur:=wBr (xs:=aI) (wAY dS)
 refine yk (j:=3) (vs:=[jV 0]) (cs':=hD KL.encI (nD aI aZ 0)) rfl rfl rfl rfl bD rfl jp rfl rfl rfl zC (by rw [wAD (f:=KL.encI) (sz:=1) (fun _=>rfl)];have hz:=wAY dS;show _ + 1 <= _;first | omega | (simp only [nA];omega) | (simp only [hU,hH,hJ];omega)) rfl (wDJ (sz:=1) (fo:=0) (fun _=>rfl) _ _ _ _ ur (by first | omega | (simp only [nA];omega) | (simp only [hU,hH,hJ];omega)) (zA rfl) rfl) rfl ?_
 intro fW sX
 let d9:Res:=.row am an 3 1 (hD KL.encI (nD aI aZ 0))
 have sY:SW w [B1,.obj aa (.map ac ae)] φ bF [.blk b4 118 B0,B1,.obj aa (.map ac ae),d9,bq,.blk b8 118 [.slice am aI.length an,.slice ao a6.length ap]] fW:=sX
 have sZ:SW w [B1,.obj aa (.map ac ae)] φ bF [.blk b4 118 B0,B1,.obj aa (.map ac ae),d9,bq,.blk b8 118 [.slice am ((nD aI aZ 0).length) an,.slice ao a6.length ap]] fW:=by simpa only [B0,B1,bq,d9,nB] using sY
 refine zb (zo (zH (rR fL2 Z (oR Z (ZG (za Z cX Z) (congrArg (jV) eZ.out)) (oM Z Z (zb ?_))))))
 cases uO
 exact zH ⟨Z,⟨bF,Z,eD,cS,eE,eF,cU,dN,fw,sZ,(nB.trans eL)⟩⟩
 intro en uP
 refine cF Z en (Zh (zo (zH (rR fL2 Z (oR Z (ZG (za Z cX Z) (congrArg (jV) eZ.out)) (oM Z Z (zb ?_)))))))
 cases uP
 exact zH ⟨Z,⟨bF,Z,eD,cS,eE,eF,cU,dN,fw,bD,eL⟩⟩
 rintro xz wa ⟨lC,rd,g9,wG,mB,mC,mD,mE,vo,eQ,rz⟩
 have mr:Hid (¬ ((↑(((↑l9.length:Int):Int) - 0).toNat:Int) < (↑l9.length:Int))):=zM (wAc)
 refine sR fL1 Z (oR Z (zc Z rd mE) (eN (zL (cF Z mr (Za (zi (zi (ZQ (zH (sR fL1 Z (oA Z Z (eN (zL (sR fL7 Z (oM Z g9 (oR Z (Zd Z Z) (oR Z (zG Z Z ZI Z Zx) (oL Z (eQ.ldB (j:=1) Z Z Z yD (v:=.map (some aa)) Z) (oL Z (eQ.lenM (j:=2) (mk:=wBE) (mv:=wBK) Z Z Z (wBp ZO) co) (oR Z (za Z Z Z) (oM Z Z (eN (zY ?_)))))))))))))))))))))))
 have q:=wBa fj
 obtain ⟨xg,eY⟩:=q
 have q:=wBZ eY
 obtain ⟨fg,un⟩:=q
 replace fg:=zM fg
 refine yH (fun a5 (dX,dY,lm) σ_ w_=>∃ (φ_:PHeap),σ_ 55=jV (↑a5:Int)/\σ_ 0=.pointer (some ⟨ag,0,none⟩)/\σ_ 2=.bool p2/\σ_ 6=.pointer (some ⟨b4,0,none⟩)/\σ_ 9=.pointer (some ⟨b8,0,none⟩)/\σ_ 11=jV lm/\σ_ 54=jV (w64 ((↑(p0.number.length):Int) + 1))/\PHeap.Le lC φ_/\SW w [B1,.obj aa (.map ac ae)] φ φ_ [.blk b4 118 B0,B1,.obj aa (.map ac ae),.row am an 3 1 (hD KL.encI dX),.row ao ap 3 1 (hD KL.encI dY),.blk b8 118 [.slice am dX.length an,.slice ao dY.length ap]] w_/\dX.length=l9.length/\dY.length=a6.length) un ?_ ?_ ?_
 exact ⟨lC,Z,g9,mB,mC,mD,Z,Z,(zO _),eQ,rz,Z⟩
 rintro a5 ⟨dX,dY,lm⟩ xq xA wb fc ⟨lD,jk,ib,mF,mG,mH,wH,ic,lb,jA,rA,rB⟩ j3 ui
 try dsimp only at j3
 have gJ:Hid ((↑a5:Int) < (w64 ((↑(p0.number.length):Int) + 1))):=zM (wAs fc)
 replace fc:=zM fc
 have uK:Hid (w64 ((↑a5:Int) + 1)=(↑(a5 + 1):Int)):=zM (by have h1:=fg.out;have h2:=gJ.out;rw [wAT] <;> omega)
 refine sR fL1 Z (oR Z (zc Z jk ic) (eN (zL (cT Z gJ (kN (zL (zY (sR fL1 Z (oA Z Z (eN (zL (sR fL6 Z (oM Z ib (oR Z (Zd Z Z) (oR Z (zG Z Z ZI Z yY) (oL Z (jA.ldB (j:=1) Z Z Z Try.isAgg122 (v:=.slice aV p0.edges.length aW) Z) (oR Z (zq Z Z yc) (oM Z Z (eN (zY ?_))))))))))))))))))))
 have q:=bnd j3
 obtain ⟨⟨lp,lq,xu⟩,uo,jM⟩:=q
 try dsimp only at jM
 have q:=wBL uo
 obtain ⟨fh,up⟩:=q
 replace fh:=zM fh
 refine CK.forN' (fun aE (ak,ax,ln) σ_ w_=>∃ (φ_:PHeap),σ_ 62=jV (↑aE:Int)/\σ_ 0=.pointer (some ⟨ag,0,none⟩)/\σ_ 2=.bool p2/\σ_ 6=.pointer (some ⟨b4,0,none⟩)/\σ_ 9=.pointer (some ⟨b8,0,none⟩)/\σ_ 11=jV ln/\σ_ 54=jV (w64 ((↑(p0.number.length):Int) + 1))/\σ_ 55=jV (↑a5:Int)/\σ_ 60=.slice aV p0.edges.length aW/\σ_ 61=jV (↑p0.edges.length:Int)/\PHeap.Le lD φ_/\SW w [B1,.obj aa (.map ac ae)] φ φ_ [.blk b4 118 B0,B1,.obj aa (.map ac ae),.row am an 3 1 (hD KL.encI ak),.row ao ap 3 1 (hD KL.encI ax),.blk b8 118 [.slice am ak.length an,.slice ao ax.length ap]] w_/\ak.length=l9.length/\ax.length=a6.length) up ?_ ?_ ?_
 exact ⟨lD,Z,ib,mF,mG,mH,Z,ic,jk,Z,Z,(zO _),jA,rA,rB⟩
 rintro aE ⟨ak,ax,ln⟩ xr xB wc fd ⟨aD,bd,cd,bA,cf,aS,dO,cg,ci,bB,bC,lc,jB,cm,cn⟩ j4
 try dsimp only at j4
 have gK:Hid ((↑aE:Int) < (↑p0.edges.length:Int)):=zM (wAs fd)
 replace fd:=zM fd
 have uL:Hid (w64 ((↑aE:Int) + 1)=(↑(aE + 1):Int)):=zM (by have h1:=fh.out;have h2:=gK.out;rw [wAT] <;> omega)
 refine sR fL1 Z (oR Z (zc Z bd bC) (eN (zL (cT Z gK (kN ?_)))))
 have q:=bnd j4
 obtain ⟨⟨fm,fq,vG⟩,ve,jN⟩:=q
 try dsimp only at jN
 refine yO (fun σ_ w_=>∃ (φ_:PHeap),σ_ 0=.pointer (some ⟨ag,0,none⟩)/\σ_ 2=.bool p2/\σ_ 6=.pointer (some ⟨b4,0,none⟩)/\σ_ 9=.pointer (some ⟨b8,0,none⟩)/\σ_ 11=jV vG/\σ_ 54=jV (w64 ((↑(p0.number.length):Int) + 1))/\σ_ 55=jV (↑a5:Int)/\σ_ 60=.slice aV p0.edges.length aW/\σ_ 61=jV (↑p0.edges.length:Int)/\σ_ 62=jV (↑aE:Int)/\PHeap.Le aD φ_/\SW w [B1,.obj aa (.map ac ae)] φ φ_ [.blk b4 118 B0,B1,.obj aa (.map ac ae),.row am an 3 1 (hD KL.encI fm),.row ao ap 3 1 (hD KL.encI fq),.blk b8 118 [.slice am fm.length an,.slice ao fq.length ap]] w_/\fm.length=l9.length/\fq.length=a6.length) ?_ ?_
 refine zY (sR (wCa (.fx 3 (.fl 4 (.fx 5 .nil .stop)) .stop)) Z (oM Z bd (bnK ve fun aj jl uQ=>?_)))
 have rC:=uh.le vn
 have rD:=rC.le vo
 have rE:=rD.le lb
 have rF:=rE.le lc
 have q:=rF.el (fun _=>rfl) (wAX jl)
 obtain ⟨wy,xf,sb,sc⟩:=q
 refine oR Z (Zc Z bB sb bd yc yd (wBQ jl)) (oL Z (jB.ldCA (f:=0) sc Z Z Try.isAgg130 yd (us:=[jV aj.step.Kind,jV aj.step.Skier,jV aj.step.Index,.bool aj.step.Up,jV aj.from_,jV aj.to_,jV aj.count]) Z Z) (zV (cs:=[jV 0,jV 0,jV 0,.bool false,jV 0,jV 0,jV 0]) Z Z Z Z Z Try.zeroValue130 Z jB ?_))
 intro wd aH s3
 refine oA Z Z ?_
 let ay:List Value:=[jV aj.step.Kind,jV aj.step.Skier,jV aj.step.Index,.bool aj.step.Up,jV aj.from_,jV aj.to_,jV aj.count]
 refine zW (j:=0) (vs:=ay) Z Z Z Z s3 Z Z Z Z yd (zA Z) Z Z Z ?_
 intro ej s4
 let aN:Res:=.row ao ap 3 1 (hD KL.encI ax)
 let bc:Res:=.blk b8 118 [.slice am ak.length an,.slice ao ax.length ap]
 have s5:SW w [B1,.obj aa (.map ac ae)] φ aD [.blk aH 130 ay,.blk b4 118 B0,B1,.obj aa (.map ac ae),.row am an 3 1 (hD KL.encI ak),aN,bc] ej:=s4
 refine eN (zL (ZE ZF [3,1,3,1,3,3] fL6 (by kernel_rfl) ?_))
 have cY:=s5.drew
 generalize hw_W1431:({ ej with drawn:=ej.drawn + 1 }:World)=dz at cY ⊢
 refine oR Z (zG Z Z yN Z zC) (oL Z (cY.ldB (j:=0) Z Z Z zJ (v:=jV aj.from_) Z) (oR Z (zG Z Z yN Z zC) (oL Z (cY.ldB (j:=0) Z Z Z zJ (v:=jV aj.to_) Z) (oA Z Z (oA Z Z (eN (zL (sR fL1 Z (oM Z bA (eN (ifc uQ ?_ ?_)))))))))))
 intro eo uR
 refine ZL (congrArg nG eo.out) (rR fL4 rfl (zk rfl rfl rfl rfl rfl rfl (zk rfl rfl rfl rfl rfl rfl (yK rfl rfl rfl rfl rfl rfl (yK rfl rfl rfl rfl rfl rfl (eN (zL (ZE ZF [3,1,3,3,1,3,3,3,1,3,3,1,3,1,3,3,1,3,3,1,3,3] fL22 (by kernel_rfl) ?_))))))))
 have aT:=cY.drew
 generalize hw_W1435:({ dz with drawn:=dz.drawn + 1 }:World)=fY at aT ⊢
 refine oR Z (zG Z aS ZU Z zy) (oL Z (aT.ldB (j:=6) Z Z Z ZK (v:=.slice am ak.length an) Z) (oM Z Z (bnK uR fun _ a8 uS=>?_)))
 obtain ⟨wz,aX⟩:=aT.rowSome (j:=4) rfl (by rw [wAD (f:=KL.encI) (sz:=1) (fun _=>rfl) ak];have hz:=wAY a8;omega)
 refine oR Z (ZY Z Z aX Z zE zC (wBm a8) (wBn a8)) ?_
 have uu:=wBr (xs:=ak) (wAY a8)
 refine ZJ rfl rfl rfl rfl (aT.ldR (j:=4) rfl aX rfl rfl zJ (wAj (sz:=1) (fun _=>rfl) _ _ 0 _ uu (by first | omega | rfl | simp) rfl)) rfl (zg rfl rfl rfl rfl (fun _=>zc rfl rfl rfl) (zk rfl rfl rfl rfl rfl rfl (ifc uS ?_ ?_)))
 intro au uT
 refine rU Z (wT Z au) (zG Z aS ZU Z zy) (ZJ Z Z Z (wT Z au) (aT.ldB (j:=6) Z Z Z ZK (v:=.slice am ak.length an) Z) Z (zk Z Z Z (wT Z au) Z Z (rU Z (wT Z au) (ZY Z Z aX Z zE zC (wBm a8) (wBn a8)) ?_)))
 have uv:=wBr (xs:=ak) (wAY a8)
 refine ZJ rfl rfl rfl (zQ rfl rfl (Zj au.out)) (aT.ldR (j:=4) rfl aX rfl rfl zJ (wAj (sz:=1) (fun _=>rfl) _ _ 0 _ uv (by first | omega | rfl | simp) rfl)) rfl (zg rfl rfl rfl (zQ rfl rfl (Zj au.out)) (fun _=>zG rfl rfl yN rfl zC) (ZJ rfl rfl rfl (zQ rfl rfl (Zj au.out)) (aT.ldB (j:=0) rfl rfl rfl zJ (v:=jV aj.count) rfl) rfl (zg rfl rfl rfl (zQ rfl rfl (Zj au.out)) (fun _=>za rfl rfl rfl) (zg rfl rfl rfl (zQ rfl rfl (Zj au.out)) (fun _=>zG rfl aS ZU rfl zy) (ZJ rfl rfl rfl (zQ rfl rfl (Zj au.out)) (aT.ldB (j:=6) rfl rfl rfl ZK (v:=.slice am ak.length an) rfl) rfl (zk rfl rfl rfl (zQ rfl rfl (Zj au.out)) rfl rfl (bnK uT fun _ be uU=>zg rfl rfl rfl (zQ rfl rfl (Zj au.out)) (fun _=>ZY rfl rfl aX rfl zE zC (wBm be) (wBn be)) ?_)))))))
 have uw:=wBr (xs:=ak) (wAY be)
 refine ZJ rfl rfl rfl (zQ rfl rfl (Zj au.out)) (aT.ldR (j:=4) rfl aX rfl rfl zJ (wAj (sz:=1) (fun _=>rfl) _ _ 0 _ uw (by first | omega | rfl | simp) rfl)) rfl (zg rfl rfl rfl (zQ rfl rfl (Zj au.out)) (fun _=>zc rfl rfl rfl) (zg rfl rfl rfl rfl (fun _=>zP rfl (Zj au.out) rfl) (eN (ifc uU ?_ ?_))))
 intro ep uV
 refine cT Z ep ?_
 have q:=bnd uV
 obtain ⟨⟨⟩,vf,jO⟩:=q
 try dsimp only at jO
 let aO:Res:=.row am an 3 1 (hD KL.encI (nD ak aj.from_.toNat (w64 ((gd ak aj.to_.toNat) + aj.count))))
 let cC:Res:=.blk b8 118 [.slice am ((nD ak aj.from_.toNat (w64 ((gd ak aj.to_.toNat) + aj.count))).length) an,.slice ao ((nD ax aj.from_.toNat (↑aE:Int)).length) ap]
 let br:Res:=.row ao ap 3 1 (hD KL.encI (nD ax aj.from_.toNat (↑aE:Int)))
 refine yO (fun σ_ w_=>∃ (φ_:PHeap),σ_ 0=.pointer (some ⟨ag,0,none⟩)/\σ_ 2=.bool p2/\σ_ 6=.pointer (some ⟨b4,0,none⟩)/\σ_ 9=.pointer (some ⟨b8,0,none⟩)/\σ_ 15=jV aj.from_/\σ_ 54=jV (w64 ((↑(p0.number.length):Int) + 1))/\σ_ 55=jV (↑a5:Int)/\σ_ 60=.slice aV p0.edges.length aW/\σ_ 61=jV (↑p0.edges.length:Int)/\σ_ 62=jV (↑aE:Int)/\PHeap.Le aD φ_/\SW w [B1,.obj aa (.map ac ae)] φ φ_ [.blk aH 130 ay,.blk b4 118 B0,B1,.obj aa (.map ac ae),aO,br,cC] w_) ?_ ?_
 refine ye fun aQ aL=>?_
 have ie:aQ 0=.pointer (some ⟨ag,0,none⟩):=(aL 0).trans cd
 have ig:aQ 2=.bool p2:=(aL 2).trans bA
 have ii:aQ 6=.pointer (some ⟨b4,0,none⟩):=(aL 6).trans cf
 have cV:aQ 9=.pointer (some ⟨b8,0,none⟩):=(aL 9).trans aS
 have mI:aQ 12=jV (↑aE:Int):=(aL 12).trans rfl
 have mJ:aQ 13=.pointer (some ⟨aH,0,none⟩):=(aL 13).trans rfl
 have mK:aQ 14=jV aj.to_:=(aL 14).trans rfl
 have dP:aQ 15=jV aj.from_:=(aL 15).trans rfl
 have ij:aQ 54=jV (w64 ((↑(p0.number.length):Int) + 1)):=(aL 54).trans cg
 have ik:aQ 55=jV (↑a5:Int):=(aL 55).trans ci
 have il:aQ 60=.slice aV p0.edges.length aW:=(aL 60).trans bB
 have im:aQ 61=jV (↑p0.edges.length:Int):=(aL 61).trans bC
 have io:aQ 62=jV (↑aE:Int):=(aL 62).trans bd
 clear aL
 refine bnK vf fun _ a9 jP=>ZE ZF [3,1,3,3,2,3,3,1,3,3,1,3,1,3,3,3,0,3,0] (wEI (wLT gCz)) (by kernel_rfl) ?_
 have bh:=aT.drew
 generalize hw_W1484:({ fY with drawn:=fY.drawn + 1 }:World)=we at bh ⊢
 refine oR Z (zG Z cV ZU Z zy) (oL Z (bh.ldB (j:=6) Z Z Z ZK (v:=.slice am ak.length an) Z) (oM Z dP (oR Z (zG Z cV ZU Z zy) (oM Z dP (oR Z (zG Z cV ZU Z zy) (oL Z (bh.ldB (j:=6) Z Z Z ZK (v:=.slice am ak.length an) Z) (oM Z mK (oR Z (ZY Z Z aX Z zE zC (wBm a8) (wBn a8)) ?_))))))))
 have ux:=wBr (xs:=ak) (wAY a8)
 refine ZJ rfl rfl rfl rfl (bh.ldR (j:=4) rfl aX rfl rfl zJ (wAj (sz:=1) (fun _=>rfl) _ _ 0 _ ux (by first | omega | rfl | simp) rfl)) rfl (zg rfl rfl rfl rfl (fun _=>zG rfl mJ yN rfl zC) (ZJ rfl rfl rfl rfl (bh.ldB (j:=0) rfl rfl rfl zJ (v:=jV aj.count) rfl) rfl (zg rfl rfl rfl rfl (fun _=>za rfl rfl rfl) (zk rfl rfl rfl rfl rfl mI (zg rfl rfl rfl rfl (fun _=>ZY rfl rfl aX rfl zE zC (wBm be) (wBn be)) (zr ?_ ?_))))))
 refine ZR Z Z Z Z (bh.ldB (j:=6) Z Z Z ZK (v:=.slice ao ax.length ap) Z) ?_
 have uy:=wBr (xs:=ak) (wAY be)
 refine yk (j:=4) (vs:=[jV (w64 ((gd ak aj.to_.toNat) + aj.count))]) (cs':=hD KL.encI (nD ak aj.from_.toNat (w64 ((gd ak aj.to_.toNat) + aj.count)))) rfl rfl rfl rfl bh rfl aX rfl rfl rfl zC (by rw [wAD (f:=KL.encI) (sz:=1) (fun _=>rfl)];have hz:=wAY be;show _ + 1 <= _;first | omega | (simp only [nA];omega) | (simp only [hU,hH,hJ];omega)) rfl (wDJ (sz:=1) (fo:=0) (fun _=>rfl) _ _ _ _ uy (by first | omega | (simp only [nA];omega) | (simp only [hU,hH,hJ];omega)) (zA rfl) rfl) rfl ?_
 intro fZ s6
 have s7:SW w [B1,.obj aa (.map ac ae)] φ aD [.blk aH 130 ay,.blk b4 118 B0,B1,.obj aa (.map ac ae),aO,aN,bc] fZ:=s6
 let dv:Res:=.blk b8 118 [.slice am ((nD ak aj.from_.toNat (w64 ((gd ak aj.to_.toNat) + aj.count))).length) an,.slice ao ax.length ap]
 have jC:SW w [B1,.obj aa (.map ac ae)] φ aD [.blk aH 130 ay,.blk b4 118 B0,B1,.obj aa (.map ac ae),aO,aN,dv] fZ:=by simpa only [B0,B1,ay,aN,bc,aO,dv,nB] using s7
 obtain ⟨wA,jq⟩:=jC.rowSome (j:=5) rfl (by rw [wAD (f:=KL.encI) (sz:=1) (fun _=>rfl) ax];have hz:=wAY a9;omega)
 refine oR Z (ZY Z Z jq Z zE zC (wBm a9) (wBn a9)) ?_
 have uz:=wBr (xs:=ax) (wAY a9)
 refine yk (j:=5) (vs:=[jV (↑aE:Int)]) (cs':=hD KL.encI (nD ax aj.from_.toNat (↑aE:Int))) rfl rfl rfl rfl jC rfl jq rfl rfl rfl zC (by rw [wAD (f:=KL.encI) (sz:=1) (fun _=>rfl)];have hz:=wAY a9;show _ + 1 <= _;first | omega | (simp only [nA];omega) | (simp only [hU,hH,hJ];omega)) rfl (wDJ (sz:=1) (fo:=0) (fun _=>rfl) _ _ _ _ uz (by first | omega | (simp only [nA];omega) | (simp only [hU,hH,hJ];omega)) (zA rfl) rfl) rfl ?_
 intro f4 s8
 have s9:SW w [B1,.obj aa (.map ac ae)] φ aD [.blk aH 130 ay,.blk b4 118 B0,B1,.obj aa (.map ac ae),aO,br,dv] f4:=s8
 have ta:SW w [B1,.obj aa (.map ac ae)] φ aD [.blk aH 130 ay,.blk b4 118 B0,B1,.obj aa (.map ac ae),aO,br,cC] f4:=by simpa only [B0,B1,ay,aO,cC,br,dv,nB] using s9
 refine zb ?_
 cases jP
 exact zH ⟨Z,⟨aD,ie,ig,ii,cV,dP,ij,ik,il,im,io,(zO _),ta⟩⟩
 have uA:=wBr (xs:=ak) (wAY be)
 refine yk (j:=4) (vs:=[jV (w64 ((gd ak aj.to_.toNat) + aj.count))]) (cs':=hD KL.encI (nD ak aj.from_.toNat (w64 ((gd ak aj.to_.toNat) + aj.count)))) rfl rfl rfl rfl bh rfl aX rfl rfl rfl zC (by rw [wAD (f:=KL.encI) (sz:=1) (fun _=>rfl)];have hz:=wAY be;show _ + 1 <= _;first | omega | (simp only [nA];omega) | (simp only [hU,hH,hJ];omega)) rfl (wDJ (sz:=1) (fo:=0) (fun _=>rfl) _ _ _ _ uA (by first | omega | (simp only [nA];omega) | (simp only [hU,hH,hJ];omega)) (zA rfl) rfl) rfl ?_
 intro f6 tb
 have tc:SW w [B1,.obj aa (.map ac ae)] φ aD [.blk aH 130 ay,.blk b4 118 B0,B1,.obj aa (.map ac ae),aO,aN,bc] f6:=tb
 let dw:Res:=.blk b8 118 [.slice am ((nD ak aj.from_.toNat (w64 ((gd ak aj.to_.toNat) + aj.count))).length) an,.slice ao ax.length ap]
 have eU:SW w [B1,.obj aa (.map ac ae)] φ aD [.blk aH 130 ay,.blk b4 118 B0,B1,.obj aa (.map ac ae),aO,aN,dw] f6:=by simpa only [B0,B1,ay,aN,bc,aO,dw,nB] using tc
 refine ZR Z Z Z Z (eU.ldB (j:=6) Z Z Z ZK (v:=.slice ao ax.length ap) Z) ?_
 obtain ⟨wB,jr⟩:=eU.rowSome (j:=5) rfl (by rw [wAD (f:=KL.encI) (sz:=1) (fun _=>rfl) ax];have hz:=wAY a9;omega)
 refine oR Z (ZY Z Z jr Z zE zC (wBm a9) (wBn a9)) ?_
 have uB:=wBr (xs:=ax) (wAY a9)
 refine yk (j:=5) (vs:=[jV (↑aE:Int)]) (cs':=hD KL.encI (nD ax aj.from_.toNat (↑aE:Int))) rfl rfl rfl rfl eU rfl jr rfl rfl rfl zC (by rw [wAD (f:=KL.encI) (sz:=1) (fun _=>rfl)];have hz:=wAY a9;show _ + 1 <= _;first | omega | (simp only [nA];omega) | (simp only [hU,hH,hJ];omega)) rfl (wDJ (sz:=1) (fo:=0) (fun _=>rfl) _ _ _ _ uB (by first | omega | (simp only [nA];omega) | (simp only [hU,hH,hJ];omega)) (zA rfl) rfl) rfl ?_
 intro f7 td
 have te:SW w [B1,.obj aa (.map ac ae)] φ aD [.blk aH 130 ay,.blk b4 118 B0,B1,.obj aa (.map ac ae),aO,br,dw] f7:=td
 have tf:SW w [B1,.obj aa (.map ac ae)] φ aD [.blk aH 130 ay,.blk b4 118 B0,B1,.obj aa (.map ac ae),aO,br,cC] f7:=by simpa only [B0,B1,ay,aO,cC,br,dw,nB] using te
 refine zb ?_
 cases jP
 exact zH ⟨Z,⟨aD,ie,ig,ii,cV,dP,ij,ik,il,im,io,(zO _),tf⟩⟩
 rintro xC wg ⟨vJ,mL,mM,mN,mO,mP,mQ,mR,mS,mT,mU,vp,tg⟩
 refine rR fL2 Z (oM Z mP (oA Z Z (zb (zo ?_))))
 cases jO
 exact zH ⟨rfl,⟨vJ,mL,mM,mN,mO,rfl,mQ,mR,mS,mT,mU,vp,(tg.pick [1,2,3,4,5,6] _ (by decide) rfl),(nB.trans cm),(nB.trans cn)⟩⟩
 intro ep uW
 refine cF Z ep (Zh (zo ?_))
 cases uW
 exact zH ⟨rfl,⟨aD,cd,bA,cf,aS,dO,cg,ci,bB,bC,bd,(zO _),(aT.pick [1,2,3,4,5,6] _ (by decide) rfl),cm,cn⟩⟩
 intro au uX
 refine oF Z au (oF Z au (oF Z au (oF Z au (oF Z au (oF Z au (oF Z au (oF Z au (oF Z au (oF Z au (oF Z au (oF Z au (oF Z au (oF Z au (oR Z (zZ Z (zw au.out) Z) (eN (zt Z (Zh (zo ?_))))))))))))))))))
 cases uX
 exact zH ⟨rfl,⟨aD,cd,bA,cf,aS,dO,cg,ci,bB,bC,bd,(zO _),(aT.pick [1,2,3,4,5,6] _ (by decide) rfl),cm,cn⟩⟩
 intro eo uY
 refine zt (congrArg nG (nH.2 eo.out)) (kN (zL (ZE ZF [3,1,3,3,1,3,3,3,1,3,3,1,3,1,3,3,1,3,3,1,3,3] fL22 (by kernel_rfl) ?_)))
 have aU:=cY.drew
 generalize hw_W1538:({ dz with drawn:=dz.drawn + 1 }:World)=f8 at aU ⊢
 refine oR Z (zG Z aS ZU Z zy) (oL Z (aU.ldB (j:=6) Z Z Z ZK (v:=.slice am ak.length an) Z) (oM Z Z (bnK uY fun _ ba uZ=>?_)))
 obtain ⟨wC,aY⟩:=aU.rowSome (j:=4) rfl (by rw [wAD (f:=KL.encI) (sz:=1) (fun _=>rfl) ak];have hz:=wAY ba;omega)
 refine oR Z (ZY Z Z aY Z zE zC (wBm ba) (wBn ba)) ?_
 have uC:=wBr (xs:=ak) (wAY ba)
 refine ZJ rfl rfl rfl rfl (aU.ldR (j:=4) rfl aY rfl rfl zJ (wAj (sz:=1) (fun _=>rfl) _ _ 0 _ uC (by first | omega | rfl | simp) rfl)) rfl (zg rfl rfl rfl rfl (fun _=>zc rfl rfl rfl) (zk rfl rfl rfl rfl rfl rfl (ifc uZ ?_ ?_)))
 intro av u3
 refine rU Z (wT Z av) (zG Z aS ZU Z zy) (ZJ Z Z Z (wT Z av) (aU.ldB (j:=6) Z Z Z ZK (v:=.slice am ak.length an) Z) Z (zk Z Z Z (wT Z av) Z Z (rU Z (wT Z av) (ZY Z Z aY Z zE zC (wBm ba) (wBn ba)) ?_)))
 have uD:=wBr (xs:=ak) (wAY ba)
 refine ZJ rfl rfl rfl (zQ rfl rfl (Zj av.out)) (aU.ldR (j:=4) rfl aY rfl rfl zJ (wAj (sz:=1) (fun _=>rfl) _ _ 0 _ uD (by first | omega | rfl | simp) rfl)) rfl (zg rfl rfl rfl (zQ rfl rfl (Zj av.out)) (fun _=>zG rfl rfl yN rfl zC) (ZJ rfl rfl rfl (zQ rfl rfl (Zj av.out)) (aU.ldB (j:=0) rfl rfl rfl zJ (v:=jV aj.count) rfl) rfl (zg rfl rfl rfl (zQ rfl rfl (Zj av.out)) (fun _=>za rfl rfl rfl) (zg rfl rfl rfl (zQ rfl rfl (Zj av.out)) (fun _=>zG rfl aS ZU rfl zy) (ZJ rfl rfl rfl (zQ rfl rfl (Zj av.out)) (aU.ldB (j:=6) rfl rfl rfl ZK (v:=.slice am ak.length an) rfl) rfl (zk rfl rfl rfl (zQ rfl rfl (Zj av.out)) rfl rfl (bnK u3 fun _ bf u4=>zg rfl rfl rfl (zQ rfl rfl (Zj av.out)) (fun _=>ZY rfl rfl aY rfl zE zC (wBm bf) (wBn bf)) ?_)))))))
 have uE:=wBr (xs:=ak) (wAY bf)
 refine ZJ rfl rfl rfl (zQ rfl rfl (Zj av.out)) (aU.ldR (j:=4) rfl aY rfl rfl zJ (wAj (sz:=1) (fun _=>rfl) _ _ 0 _ uE (by first | omega | rfl | simp) rfl)) rfl (zg rfl rfl rfl (zQ rfl rfl (Zj av.out)) (fun _=>zc rfl rfl rfl) (zg rfl rfl rfl rfl (fun _=>zP rfl (Zj av.out) rfl) (eN (ifc u4 ?_ ?_))))
 intro er u5
 refine cT Z er ?_
 have q:=bnd u5
 obtain ⟨⟨⟩,vg,jQ⟩:=q
 try dsimp only at jQ
 let aP:Res:=.row am an 3 1 (hD KL.encI (nD ak aj.to_.toNat (w64 ((gd ak aj.from_.toNat) + aj.count))))
 let cD:Res:=.blk b8 118 [.slice am ((nD ak aj.to_.toNat (w64 ((gd ak aj.from_.toNat) + aj.count))).length) an,.slice ao ((nD ax aj.to_.toNat (↑aE:Int)).length) ap]
 let bs:Res:=.row ao ap 3 1 (hD KL.encI (nD ax aj.to_.toNat (↑aE:Int)))
 refine yO (fun σ_ w_=>∃ (φ_:PHeap),σ_ 0=.pointer (some ⟨ag,0,none⟩)/\σ_ 2=.bool p2/\σ_ 6=.pointer (some ⟨b4,0,none⟩)/\σ_ 9=.pointer (some ⟨b8,0,none⟩)/\σ_ 15=jV aj.to_/\σ_ 54=jV (w64 ((↑(p0.number.length):Int) + 1))/\σ_ 55=jV (↑a5:Int)/\σ_ 60=.slice aV p0.edges.length aW/\σ_ 61=jV (↑p0.edges.length:Int)/\σ_ 62=jV (↑aE:Int)/\PHeap.Le aD φ_/\SW w [B1,.obj aa (.map ac ae)] φ φ_ [.blk aH 130 ay,.blk b4 118 B0,B1,.obj aa (.map ac ae),aP,bs,cD] w_) ?_ ?_
 refine ye fun aR aM=>?_
 have ip:aR 0=.pointer (some ⟨ag,0,none⟩):=(aM 0).trans cd
 have iq:aR 2=.bool p2:=(aM 2).trans bA
 have ir:aR 6=.pointer (some ⟨b4,0,none⟩):=(aM 6).trans cf
 have cW:aR 9=.pointer (some ⟨b8,0,none⟩):=(aM 9).trans aS
 have mV:aR 12=jV (↑aE:Int):=(aM 12).trans rfl
 have mW:aR 13=.pointer (some ⟨aH,0,none⟩):=(aM 13).trans rfl
 have mX:aR 14=jV aj.from_:=(aM 14).trans rfl
 have dQ:aR 15=jV aj.to_:=(aM 15).trans rfl
 have it:aR 54=jV (w64 ((↑(p0.number.length):Int) + 1)):=(aM 54).trans cg
 have iu:aR 55=jV (↑a5:Int):=(aM 55).trans ci
 have iv:aR 60=.slice aV p0.edges.length aW:=(aM 60).trans bB
 have iw:aR 61=jV (↑p0.edges.length:Int):=(aM 61).trans bC
 have iy:aR 62=jV (↑aE:Int):=(aM 62).trans bd
 clear aM
 refine bnK vg fun _ bb jR=>ZE ZF [3,1,3,3,2,3,3,1,3,3,1,3,1,3,3,3,0,3,0] (wEI (wLT gCz)) (by kernel_rfl) ?_
 have bi:=aU.drew
 generalize hw_W1587:({ f8 with drawn:=f8.drawn + 1 }:World)=wh at bi ⊢
 refine oR Z (zG Z cW ZU Z zy) (oL Z (bi.ldB (j:=6) Z Z Z ZK (v:=.slice am ak.length an) Z) (oM Z dQ (oR Z (zG Z cW ZU Z zy) (oM Z dQ (oR Z (zG Z cW ZU Z zy) (oL Z (bi.ldB (j:=6) Z Z Z ZK (v:=.slice am ak.length an) Z) (oM Z mX (oR Z (ZY Z Z aY Z zE zC (wBm ba) (wBn ba)) ?_))))))))
 have uF:=wBr (xs:=ak) (wAY ba)
 refine ZJ rfl rfl rfl rfl (bi.ldR (j:=4) rfl aY rfl rfl zJ (wAj (sz:=1) (fun _=>rfl) _ _ 0 _ uF (by first | omega | rfl | simp) rfl)) rfl (zg rfl rfl rfl rfl (fun _=>zG rfl mW yN rfl zC) (ZJ rfl rfl rfl rfl (bi.ldB (j:=0) rfl rfl rfl zJ (v:=jV aj.count) rfl) rfl (zg rfl rfl rfl rfl (fun _=>za rfl rfl rfl) (zk rfl rfl rfl rfl rfl mV (zg rfl rfl rfl rfl (fun _=>ZY rfl rfl aY rfl zE zC (wBm bf) (wBn bf)) (zr ?_ ?_))))))
 refine ZR Z Z Z Z (bi.ldB (j:=6) Z Z Z ZK (v:=.slice ao ax.length ap) Z) ?_
 have uG:=wBr (xs:=ak) (wAY bf)
 refine yk (j:=4) (vs:=[jV (w64 ((gd ak aj.from_.toNat) + aj.count))]) (cs':=hD KL.encI (nD ak aj.to_.toNat (w64 ((gd ak aj.from_.toNat) + aj.count)))) rfl rfl rfl rfl bi rfl aY rfl rfl rfl zC (by rw [wAD (f:=KL.encI) (sz:=1) (fun _=>rfl)];have hz:=wAY bf;show _ + 1 <= _;first | omega | (simp only [nA];omega) | (simp only [hU,hH,hJ];omega)) rfl (wDJ (sz:=1) (fo:=0) (fun _=>rfl) _ _ _ _ uG (by first | omega | (simp only [nA];omega) | (simp only [hU,hH,hJ];omega)) (zA rfl) rfl) rfl ?_
 intro f9 th
 have tj:SW w [B1,.obj aa (.map ac ae)] φ aD [.blk aH 130 ay,.blk b4 118 B0,B1,.obj aa (.map ac ae),aP,aN,bc] f9:=th
 let dx:Res:=.blk b8 118 [.slice am ((nD ak aj.to_.toNat (w64 ((gd ak aj.from_.toNat) + aj.count))).length) an,.slice ao ax.length ap]
 have jD:SW w [B1,.obj aa (.map ac ae)] φ aD [.blk aH 130 ay,.blk b4 118 B0,B1,.obj aa (.map ac ae),aP,aN,dx] f9:=by simpa only [B0,B1,ay,aN,bc,aP,dx,nB] using tj
 obtain ⟨wD,jt⟩:=jD.rowSome (j:=5) rfl (by rw [wAD (f:=KL.encI) (sz:=1) (fun _=>rfl) ax];have hz:=wAY bb;omega)
 refine oR Z (ZY Z Z jt Z zE zC (wBm bb) (wBn bb)) ?_
 have uH:=wBr (xs:=ax) (wAY bb)
 refine yk (j:=5) (vs:=[jV (↑aE:Int)]) (cs':=hD KL.encI (nD ax aj.to_.toNat (↑aE:Int))) rfl rfl rfl rfl jD rfl jt rfl rfl rfl zC (by rw [wAD (f:=KL.encI) (sz:=1) (fun _=>rfl)];have hz:=wAY bb;show _ + 1 <= _;first | omega | (simp only [nA];omega) | (simp only [hU,hH,hJ];omega)) rfl (wDJ (sz:=1) (fo:=0) (fun _=>rfl) _ _ _ _ uH (by first | omega | (simp only [nA];omega) | (simp only [hU,hH,hJ];omega)) (zA rfl) rfl) rfl ?_
 intro ga tk
 have tm:SW w [B1,.obj aa (.map ac ae)] φ aD [.blk aH 130 ay,.blk b4 118 B0,B1,.obj aa (.map ac ae),aP,bs,dx] ga:=tk
 have tn:SW w [B1,.obj aa (.map ac ae)] φ aD [.blk aH 130 ay,.blk b4 118 B0,B1,.obj aa (.map ac ae),aP,bs,cD] ga:=by simpa only [B0,B1,ay,aP,cD,bs,dx,nB] using tm
 refine zb ?_
 cases jR
 exact zH ⟨Z,⟨aD,ip,iq,ir,cW,dQ,it,iu,iv,iw,iy,(zO _),tn⟩⟩
 have uI:=wBr (xs:=ak) (wAY bf)
 refine yk (j:=4) (vs:=[jV (w64 ((gd ak aj.from_.toNat) + aj.count))]) (cs':=hD KL.encI (nD ak aj.to_.toNat (w64 ((gd ak aj.from_.toNat) + aj.count)))) rfl rfl rfl rfl bi rfl aY rfl rfl rfl zC (by rw [wAD (f:=KL.encI) (sz:=1) (fun _=>rfl)];have hz:=wAY bf;show _ + 1 <= _;first | omega | (simp only [nA];omega) | (simp only [hU,hH,hJ];omega)) rfl (wDJ (sz:=1) (fo:=0) (fun _=>rfl) _ _ _ _ uI (by first | omega | (simp only [nA];omega) | (simp only [hU,hH,hJ];omega)) (zA rfl) rfl) rfl ?_
 intro ge tp
 have tq:SW w [B1,.obj aa (.map ac ae)] φ aD [.blk aH 130 ay,.blk b4 118 B0,B1,.obj aa (.map ac ae),aP,aN,bc] ge:=tp
 let dy:Res:=.blk b8 118 [.slice am ((nD ak aj.to_.toNat (w64 ((gd ak aj.from_.toNat) + aj.count))).length) an,.slice ao ax.length ap]
 have eV:SW w [B1,.obj aa (.map ac ae)] φ aD [.blk aH 130 ay,.blk b4 118 B0,B1,.obj aa (.map ac ae),aP,aN,dy] ge:=by simpa only [B0,B1,ay,aN,bc,aP,dy,nB] using tq
 refine ZR Z Z Z Z (eV.ldB (j:=6) Z Z Z ZK (v:=.slice ao ax.length ap) Z) ?_
 obtain ⟨wE,ju⟩:=eV.rowSome (j:=5) rfl (by rw [wAD (f:=KL.encI) (sz:=1) (fun _=>rfl) ax];have hz:=wAY bb;omega)
 refine oR Z (ZY Z Z ju Z zE zC (wBm bb) (wBn bb)) ?_
 have uJ:=wBr (xs:=ax) (wAY bb)
 refine yk (j:=5) (vs:=[jV (↑aE:Int)]) (cs':=hD KL.encI (nD ax aj.to_.toNat (↑aE:Int))) rfl rfl rfl rfl eV rfl ju rfl rfl rfl zC (by rw [wAD (f:=KL.encI) (sz:=1) (fun _=>rfl)];have hz:=wAY bb;show _ + 1 <= _;first | omega | (simp only [nA];omega) | (simp only [hU,hH,hJ];omega)) rfl (wDJ (sz:=1) (fo:=0) (fun _=>rfl) _ _ _ _ uJ (by first | omega | (simp only [nA];omega) | (simp only [hU,hH,hJ];omega)) (zA rfl) rfl) rfl ?_
 intro gg tr
 have tu:SW w [B1,.obj aa (.map ac ae)] φ aD [.blk aH 130 ay,.blk b4 118 B0,B1,.obj aa (.map ac ae),aP,bs,dy] gg:=tr
 have tv:SW w [B1,.obj aa (.map ac ae)] φ aD [.blk aH 130 ay,.blk b4 118 B0,B1,.obj aa (.map ac ae),aP,bs,cD] gg:=by simpa only [B0,B1,ay,aP,cD,bs,dy,nB] using tu
 refine zb ?_
 cases jR
 exact zH ⟨Z,⟨aD,ip,iq,ir,cW,dQ,it,iu,iv,iw,iy,(zO _),tv⟩⟩
 rintro xD wi ⟨vK,mY,mZ,m4,m5,m6,m7,m8,m9,n3,n4,vq,tw⟩
 refine rR fL2 Z (oM Z m6 (oA Z Z (zb (zo ?_))))
 cases jQ
 exact zH ⟨rfl,⟨vK,mY,mZ,m4,m5,rfl,m7,m8,m9,n3,n4,vq,(tw.pick [1,2,3,4,5,6] _ (by decide) rfl),(nB.trans cm),(nB.trans cn)⟩⟩
 intro er u6
 refine cF Z er (Zh (zo ?_))
 cases u6
 exact zH ⟨rfl,⟨aD,cd,bA,cf,aS,dO,cg,ci,bB,bC,bd,(zO _),(aU.pick [1,2,3,4,5,6] _ (by decide) rfl),cm,cn⟩⟩
 intro av u7
 refine oF Z av (oF Z av (oF Z av (oF Z av (oF Z av (oF Z av (oF Z av (oF Z av (oF Z av (oF Z av (oF Z av (oF Z av (oF Z av (oF Z av (oR Z (zZ Z (zw av.out) Z) (eN (zt Z (Zh (zo ?_))))))))))))))))))
 cases u7
 exact zH ⟨rfl,⟨aD,cd,bA,cf,aS,dO,cg,ci,bB,bC,bd,(zO _),(aU.pick [1,2,3,4,5,6] _ (by decide) rfl),cm,cn⟩⟩
 rintro xE wj ⟨vL,n5,n6,n7,n8,n9,oa,oc,od,oe,og,vr,tx,rG,rH⟩
 refine rR fL2 Z (oR Z (ZG (za Z og Z) (congrArg (jV) uL.out)) (oM Z Z (zb ?_)))
 cases jN
 exact zH ⟨Z,⟨vL,Z,n5,n6,n7,n8,n9,oa,oc,od,oe,(lc.trans vr),tx,rG,rH⟩⟩
 rintro xF wk ⟨fB,rf,oh,oi,eG,iz,iA,oj,om,wI,oq,vt,eW,rI,rJ⟩
 have ms:Hid (¬ ((↑(((↑p0.edges.length:Int):Int) - 0).toNat:Int) < (↑p0.edges.length:Int))):=zM (wAc)
 refine sR fL1 Z (oR Z (zc Z rf oq) (eN (zL (cF Z ms (Za (zi (zi (ZQ (zH (sR fL2 Z (oM Z iA (oR Z (zc Z Z Z) (eN (ifc jM ?_ ?_))))))))))))))
 intro eu u9
 refine cT Z eu (sR (.fl 0 gCd) Z ?_)
 let bP:List Value:=[.slice am lp.length an,.slice ao lq.length ap]
 refine oL Z (eW.ldBA (j:=5) Z Z iz Try.isAgg118 Zy (vs:=bP) Z Z) (zW (j:=0) (vs:=bP) Z Z Z Z eW Z eG Z Z Zy (zA Z) Z Z Z ?_)
 intro l7 tz
 have jE:SW w [B1,.obj aa (.map ac ae)] φ fB [.blk b4 118 bP,B1,.obj aa (.map ac ae),.row am an 3 1 (hD KL.encI lp),.row ao ap 3 1 (hD KL.encI lq),.blk b8 118 bP] l7:=tz
 refine oA Z Z (oA Z Z (eN (zS (ze (zR ?_)))))
 have q:=wAZ u9
 obtain ⟨vF,va,mw⟩:=q
 have q:=wBI fj eY (ui vF mw)
 obtain rfl:=q
 refine zR (ze (zR ?_))
 cases va
 exact ⟨rfl,_,(wDy (rs:=[.cell 6 118,.tmp 7,.tmp 8]) (vs:=[.agg bP.toArray,jV 0,.bool true]) ⟨⟨_,eG,(wBA Try.isAgg118 Zy (jE.blkAt (k:=0) rfl) (vs:=bP) rfl rfl)⟩,⟨rfl,⟨rfl,trivial⟩⟩⟩ rfl),fB,_,(jE.pick [3,4,1,2] _ (by decide) rfl),am,an,ao,ap,rfl,rfl⟩
 intro eu vb
 refine cF Z eu (Zh (zo (zH (rR fL2 Z (oR Z (ZG (za Z om Z) (congrArg (jV) uK.out)) (oM Z Z (zb ?_)))))))
 have q:=nE vb
 obtain rfl:=q
 exact zH ⟨Z,_,Z,⟨fB,Z,oh,oi,eG,iz,iA,oj,(lb.trans vt),eW,rI,rJ⟩⟩
 rintro ⟨ls,lu,vH⟩ xG wl ⟨lE,rh,wJ,wK,iB,ot,ou,ov,xe,jF,w6,w7⟩ uj
 have jT:=wCO fj eY uj
 try dsimp only at jT
 have mu:Hid (¬ ((↑((w64 ((↑(p0.number.length):Int) + 1):Int) - 0).toNat:Int) < (w64 ((↑(p0.number.length):Int) + 1)))):=zM (wAc)
 refine sR fL1 Z (oR Z (zc Z rh ov) (eN (zL (cF Z mu (Za (zi (zi (ZQ (zH (sR (.fl 0 (.fl 1 (.fx 2 (.fl 3 (.fl 4 .nil)) .stop))) Z ?_))))))))))
 let bQ:List Value:=[.slice am ls.length an,.slice ao lu.length ap]
 refine oL Z (jF.ldBA (j:=5) Z Z ot Try.isAgg118 Zy (vs:=bQ) Z Z) (oM Z ou (zW (j:=0) (vs:=bQ) Z Z Z Z jF Z iB Z Z Zy (zA Z) Z Z Z ?_))
 intro l8 tA
 have jG:SW w [B1,.obj aa (.map ac ae)] φ lE [.blk b4 118 bQ,B1,.obj aa (.map ac ae),.row am an 3 1 (hD KL.encI ls),.row ao ap 3 1 (hD KL.encI lu),.blk b8 118 bQ] l8:=tA
 refine oA Z Z (oA Z Z (eN (zS ?_)))
 cases jT
 exact ⟨rfl,_,(wDy (rs:=[.cell 6 118,.tmp 7,.tmp 8]) (vs:=[.agg bQ.toArray,jV vH,.bool false]) ⟨⟨_,iB,(wBA Try.isAgg118 Zy (jG.blkAt (k:=0) rfl) (vs:=bQ) rfl rfl)⟩,⟨rfl,⟨rfl,trivial⟩⟩⟩ rfl),lE,_,(jG.pick [3,4,1,2] _ (by decide) rfl),am,an,ao,ap,rfl,rfl⟩
end Go.Proofs.Ytlnfbjphfoipaaa
namespace Go.Proofs.Ytlnfbjphfoipaaa
open Go.KL
set_option maxHeartbeats 4000000
theorem wGH (p0:wAW) (aj:Nat) (ao:Option Addr) (au:Nat) (ap:Option Addr) (av:Nat) (aq:Option Addr) (ax:Nat) (aJ:Option Addr) (aM:Nat) (ab:Nat) (ac:Array MapEntry) (ae:Nat) (aK:Option Addr) (aN:Nat) (p1:List Int) (aL:Option Addr) (aO:Nat) (w:World) (φ:PHeap) (hS:St0 w φ [.blk aj 124 [.slice ao p0.Race.Starts.length au,.slice ap p0.Race.Splits.length av,.slice aq p0.Race.Clocks.length ax,.slice aJ p0.Race.Readings.length aM,.map (some ab),.slice aK p0.edges.length aN],.obj ab (.map ac ae)]) (fA:Sl φ 1 ao au p0.Race.Starts.length (hD KL.encI p0.Race.Starts)) (fB:Sl φ 2 ap av p0.Race.Splits.length (hD wAE p0.Race.Splits)) (fC:Sl φ 3 aq ax p0.Race.Clocks.length (hD wAB p0.Race.Clocks)) (fD:Sl φ 4 aJ aM p0.Race.Readings.length (hD wAA p0.Race.Readings)) (cg:MpR ac wBE wBK p0.number) (fE:Sl φ 7 aK aN p0.edges.length (hD wAQ p0.edges)) (bf:Sl φ 1 aL aO p1.length (hD KL.encI p1)) {r:(List (List Int)) × (List Int)} (hm:wCW p0 p1=some r):Gv Try.prog 58 [.pointer (some ⟨aj,0,none⟩),.slice aL p1.length aO] w (wCF w [.blk aj 124 [.slice ao p0.Race.Starts.length au,.slice ap p0.Race.Splits.length av,.slice aq p0.Race.Clocks.length ax,.slice aJ p0.Race.Readings.length aM,.map (some ab),.slice aK p0.edges.length aN],.obj ab (.map ac ae)] φ (fun φ_ L_ v=>∃ (A0:Option Addr) (c0:Nat) (bJ:List Value) (A1:Option Addr) (c1:Nat),v=.tuple #[.slice A0 r.1.length c0,.slice A1 r.2.length c1]/\L_=[.row A0 c0 23 1 bJ,.row A1 c1 3 1 (hD KL.encI r.2),.blk aj 124 [.slice ao p0.Race.Starts.length au,.slice ap p0.Race.Splits.length av,.slice aq p0.Race.Clocks.length ax,.slice aJ p0.Race.Readings.length aM,.map (some ab),.slice aK p0.edges.length aN],.obj ab (.map ac ae)]/\RlL φ_ wIs r.1 bJ)):=by
 unfold wCW at hm
 refine Gv.of Try.func58 Z Try.ntmps58 Try.results58 Z (sR fL2 Z (oA Z Z (oA Z Z (eN (sR fL4 Z (oM Z Z (bnK hm fun x3 h4 eK=>?_)))))))
 have q:=bf.el (fun _=>rfl) (wAX h4)
 obtain ⟨b6,fI,dL,dO⟩:=q
 refine oR Z (Zc Z Z dL Z zE zC (wBQ h4)) (oL Z (hS.ldC (f:=0) dO (v:=jV x3) Z Z zJ Z) (oA Z Z (eN (sR fL1 Z (oA Z Z (eN (zL (sR fL7 Z (oM Z Z (oR Z (Zd Z Z) (oR Z (zG Z Z ZI Z zX) (oR Z (zG Z Z zK Z zy) (oL Z (hS.ldB (j:=0) Z Z Z ZK (v:=.slice ao p0.Race.Starts.length au) Z) (oR Z (zq Z Z zE) (oM Z Z (eN (zY (bnK eK fun fb eo eJ=>?_))))))))))))))))))
 have q:=wBL eo
 obtain ⟨bm,ep⟩:=q
 replace bm:=zM bm
 let B0:Res:=.blk aj 124 [.slice ao p0.Race.Starts.length au,.slice ap p0.Race.Splits.length av,.slice aq p0.Race.Clocks.length ax,.slice aJ p0.Race.Readings.length aM,.map (some ab),.slice aK p0.edges.length aN]
 refine CK.forN' (fun ah aH σ_ w_=>∃ (φ_:PHeap) (aD:Option Addr) (aF:Nat) (aW:List Value),σ_ 22=jV (↑ah:Int)/\σ_ 0=.pointer (some ⟨aj,0,none⟩)/\σ_ 1=.slice aL p1.length aO/\σ_ 6=jV x3/\σ_ 7=.slice aD aH.length aF/\σ_ 21=jV (↑p0.Race.Starts.length:Int)/\PHeap.Le φ φ_/\SW w [B0,.obj ab (.map ac ae)] φ φ_ [B0,.obj ab (.map ac ae),.row aD aF 23 1 aW] w_/\RlL φ_ wIs aH aW) ep ?_ ?_ ?_
 have eh:=hS.nilrow 23 1
 exact ⟨φ,none,0,[],rfl,rfl,rfl,rfl,rfl,rfl,(zO _),(eh.pick [1,2,0] _ (by decide) rfl),RlL.nil⟩
 rintro ah aH fL fS fj bh ⟨cx,aD,aF,aW,a9,bS,di,dk,dl,bU,cq,cf,dI⟩ eU
 have bI:Hid ((↑ah:Int) < (↑p0.Race.Starts.length:Int)):=zM (wAs bh)
 replace bh:=zM bh
 have eA:Hid (w64 ((↑ah:Int) + 1)=(↑(ah + 1):Int)):=zM (by have h1:=bm.out;have h2:=bI.out;rw [wAT] <;> omega)
 refine sR fL1 Z (oR Z (zc Z a9 bU) (eN (zL (cT Z bI (kN (zL (zY (sR fL2 Z (oM Z a9 (oA Z Z (eN (sR fL1 Z (oA Z Z (eN (zL (sR fL8 Z (oM Z bS (oR Z (Zd Z Z) (oR Z (zG Z Z ZI Z zX) (oR Z (zG Z Z zK Z yC) (oL Z (cf.ldB (j:=0) Z Z Z yQ (v:=.slice ap p0.Race.Splits.length av) Z) (oR Z (zq Z Z ZP) (oR Z (za Z Z Z) (oM Z Z (eN (zY (bnK eU fun am er eL=>?_)))))))))))))))))))))))))))
 have q:=wBL er
 obtain ⟨bn,eu⟩:=q
 replace bn:=zM bn
 let B1:Res:=.row aD aF 23 1 aW
 refine CK.forN' (fun ai aI σ_ w_=>∃ (φ_:PHeap) (aR:Option Addr) (aV:Nat),σ_ 32=jV (↑ai:Int)/\σ_ 0=.pointer (some ⟨aj,0,none⟩)/\σ_ 1=.slice aL p1.length aO/\σ_ 6=jV x3/\σ_ 7=.slice aD aH.length aF/\σ_ 8=jV (↑ah:Int)/\σ_ 9=.slice aR aI.length aV/\σ_ 21=jV (↑p0.Race.Starts.length:Int)/\σ_ 22=jV (↑ah:Int)/\σ_ 31=jV (w64 ((↑p0.Race.Splits.length:Int) + 1))/\PHeap.Le cx φ_/\SW w [B0,.obj ab (.map ac ae)] φ φ_ [B0,.obj ab (.map ac ae),B1,.row aR aV 3 1 (hD KL.encI aI)] w_) eu ?_ ?_ ?_
 have ej:=cf.nilrow 3 1
 exact ⟨cx,none,0,rfl,bS,di,dk,dl,rfl,rfl,bU,a9,rfl,(zO _),(ej.pick [1,2,3,0] _ (by decide) rfl)⟩
 rintro ai aI fM fT fk bi ⟨bo,aR,aV,ba,bV,bW,bX,dm,bY,dn,dp,dq,bL,cr,aX⟩ eV
 have bC:Hid ((↑ai:Int) < (w64 ((↑p0.Race.Splits.length:Int) + 1))):=zM (wAs bi)
 replace bi:=zM bi
 have ew:Hid (w64 ((↑ai:Int) + 1)=(↑(ai + 1):Int)):=zM (by have h1:=bn.out;have h2:=bC.out;rw [wAT] <;> omega)
 refine sR fL1 Z (oR Z (zc Z ba bL) (eN (zL (cT Z bC (kN (zL (zY (sR fL2 Z (oM Z ba (oA Z Z (eN (rR (wMz (.fx 14 (.fx 15 (.fl 16 .nil) .stop) .stop)) Z (oM Z dn (oM Z bW (oM Z bV (oR Z (Zd Z Z) (oR Z (zG Z Z ZI Z Zx) (oL Z (aX.ldB (j:=0) Z Z Z yD (v:=.map (some ab)) Z) (oM Z bY (oM Z Z (oR Z (zl (pv:=[(0,jV (↑ah:Int)),(1,jV (↑ai:Int))]) (z:=[jV 0,jV 0]) (cs:=[jV (↑ah:Int),jV (↑ai:Int)]) Z (wAG Z (wAG Z wAN)) zd wBU Z Z) (oL Z (aX.lookup1 (j:=1) (mk:=wBE) (mv:=wBK) (a:=(⟨(↑ah:Int),(↑ai:Int)⟩:wAJ)) (z:=0) Z Z Z Z (wBp ZO) wCz zz cg) (bnK eV fun ay bb eB=>?_)))))))))))))))))))))))
 have dv:=bf.le cq
 have dw:=dv.le cr
 have q:=dw.el (fun _=>rfl) (wAX bb)
 obtain ⟨fm,fG,dJ,dM⟩:=q
 refine oR Z (ZY Z Z dJ Z zE zC (wCG bb) (wCI bb)) (oL Z (aX.ldC (f:=0) dM (v:=jV ay) Z Z zJ Z) (oM Z bX (oR Z (yJ Z Z Z) (zm (pv:=[(0,jV (w64 (ay - x3)))]) (zs:=[jV 0]) (cs:=[jV (w64 (ay - x3))]) Z Z Z Z Z (wAG Z wAN) zE zC zz Z Z Z Z Z aX ?_))))
 intro cz cJ dP
 let B2:Res:=.row (some ⟨cJ,0,none⟩) 1 3 1 (hD KL.encI [w64 (ay - x3)])
 have ca:SW w [B0,.obj ab (.map ac ae)] φ bo [B2,B0,.obj ab (.map ac ae),B1,.row aR aV 3 1 (hD KL.encI aI)] cz:=dP
 refine bnK eB fun ct dx eD=>Zm (j:=4) (enc:=KL.encI) (xs:=aI) (ys:=[w64 (ay - x3)]) (zs:=ct) rfl rfl rfl rfl rfl yf wHr rfl rfl rfl rfl rfl rfl ca rfl rfl rfl (ca.srcR (j:=0) rfl (by decide) (wAD (f:=KL.encI) (sz:=1) (fun _=>rfl) [w64 (ay - x3)])) (fun _=>rfl) (fun _=>rfl) dx rfl ?_
 intro br bD cA dQ
 have dR:SW w [B0,.obj ab (.map ac ae)] φ bo [B2,B0,.obj ab (.map ac ae),B1,.row br bD 3 1 (hD KL.encI ct)] cA:=dQ
 refine oA Z Z (zb (zo (zH (rR fL2 Z (oR Z (ZG (za Z ba Z) (congrArg (jV) ew.out)) (oM Z Z (zb ?_)))))))
 cases eD
 exact zH ⟨rfl,⟨bo,br,bD,rfl,bV,bW,bX,dm,bY,rfl,dp,dq,bL,cr,(dR.pick [1,2,3,4] _ (by decide) rfl)⟩⟩
 rintro fO cB ⟨fU,aZ,a6,dr,cQ,cR,cS,cU,fu,cV,cW,cX,cY,cm,dS⟩
 have cM:Hid (¬ ((↑((w64 ((↑p0.Race.Splits.length:Int) + 1):Int) - 0).toNat:Int) < (w64 ((↑p0.Race.Splits.length:Int) + 1)))):=zM (wAc)
 refine sR fL1 Z (oR Z (zc Z dr cY) (eN (zL (cF Z cM (Za (zi (zi (ZQ (zH (rR (.fl 0 (.fl 1 gCe)) Z (oM Z cU (oM Z cV ?_))))))))))))
 have q:=dS.freezeR (k:=3) (n:=am.length) rfl (wAD (f:=KL.encI) (sz:=1) (fun _=>rfl) am) (by decide)
 obtain ⟨aP,cn,eO,dU⟩:=q
 have dV:SW w [B0,.obj ab (.map ac ae)] φ aP [B0,.obj ab (.map ac ae),B1] cB:=dU
 let B3:List Value:=[.slice aZ am.length a6]
 refine zm (pv:=[(0,.slice aZ am.length a6)]) (zs:=[.slice none 0 0]) (cs:=B3) Z Z Z Z Z (wAG Z wAN) yU zy Try.zeroValue23 Z Z Z Z Z dV ?_
 intro cC cK dT
 have ci:RlL aP wIs [am] B3:=(RlL.cons (R:=wIs) (x:=am) (vs:=B3) ⟨aZ,a6,rfl,eO⟩ RlL.nil)
 let B4:Res:=.row (some ⟨cK,0,none⟩) 1 23 1 B3
 have cb:SW w [B0,.obj ab (.map ac ae)] φ aP [B4,B0,.obj ab (.map ac ae),B1] cC:=dT
 refine bnK eL fun eY dy eE=>?_
 have dz:=dI.le cm
 have dA:=dz.le cn
 refine OKS.appendR (R:=wIs) (j:=3) (xs:=aH) (ys:=[am]) (zs:=eY) rfl rfl rfl rfl rfl Try.underlying29 wLL rfl rfl rfl rfl rfl rfl rfl cb rfl rfl rfl dA ci (cb.srcR (j:=0) rfl (by decide) (RlL.len ci)) dy rfl ?_
 intro bs bE bK cD dW eM
 have dX:SW w [B0,.obj ab (.map ac ae)] φ aP [B4,B0,.obj ab (.map ac ae),.row bs bE 23 1 bK] cD:=dW
 refine oA Z Z (zb (zo (zH (rR fL2 Z (oR Z (ZG (za Z cX Z) (congrArg (jV) eA.out)) (oM Z Z (zb ?_)))))))
 cases eE
 exact zH ⟨rfl,⟨aP,bs,bE,bK,rfl,cQ,cR,cS,rfl,cW,((cq.trans cm).trans cn),(dX.pick [1,2,3] _ (by decide) rfl),eM⟩⟩
 rintro fP fg ⟨cw,a5,a7,bF,dt,bM,cZ,c6,da,db,eW,cc,dB⟩
 have cN:Hid (¬ ((↑(((↑p0.Race.Starts.length:Int):Int) - 0).toNat:Int) < (↑p0.Race.Starts.length:Int))):=zM (wAc)
 refine sR fL1 Z (oR Z (zc Z dt db) (eN (zL (cF Z cN (Za (zi (zi (ZQ (zH (sR fL1 Z (oA Z Z (eN (zL (sR fL7 Z (oM Z bM (oR Z (Zd Z Z) (oR Z (zG Z Z ZI Z zX) (oR Z (zG Z Z zK Z Zl) (oL Z (cc.ldB (j:=0) Z Z Z yE (v:=.slice aq p0.Race.Clocks.length ax) Z) (oR Z (zq Z Z ZV) (oM Z Z (eN (zY (bnK eJ fun fN ek eF=>?_))))))))))))))))))))))))
 have q:=wBL ek
 obtain ⟨bj,en⟩:=q
 replace bj:=zM bj
 let B5:Res:=.row a5 a7 23 1 bF
 refine CK.forN' (fun an aG σ_ w_=>∃ (φ_:PHeap) (aQ:Option Addr) (aU:Nat),σ_ 63=jV (↑an:Int)/\σ_ 0=.pointer (some ⟨aj,0,none⟩)/\σ_ 1=.slice aL p1.length aO/\σ_ 6=jV x3/\σ_ 7=.slice a5 fb.length a7/\σ_ 11=.slice aQ aG.length aU/\σ_ 62=jV (↑p0.Race.Clocks.length:Int)/\PHeap.Le cw φ_/\SW w [B0,.obj ab (.map ac ae)] φ φ_ [B0,.obj ab (.map ac ae),B5,.row aQ aU 3 1 (hD KL.encI aG)] w_) en ?_ ?_ ?_
 have dY:=cc.nilrow 3 1
 exact ⟨cw,none,0,rfl,bM,cZ,c6,da,rfl,rfl,(zO _),(dY.pick [1,2,3,0] _ (by decide) rfl)⟩
 rintro an aG fK fQ bz bg ⟨fc,aQ,aU,a8,bN,bP,bQ,dd,de,bR,co,dZ⟩ eQ
 have bG:Hid ((↑an:Int) < (↑p0.Race.Clocks.length:Int)):=zM (wAs bg)
 replace bg:=zM bg
 have ey:Hid (w64 ((↑an:Int) + 1)=(↑(an + 1):Int)):=zM (by have h1:=bj.out;have h2:=bG.out;rw [wAT] <;> omega)
 refine sR fL1 rfl (zg rfl rfl rfl rfl (fun _=>zc rfl a8 bR) (eN (zL (cT Z bG (kN (zL (zY (sR fL2 rfl (zk rfl rfl rfl rfl rfl a8 (yK rfl rfl rfl rfl rfl rfl (eN (ZE ZF [3,3,3,3,3,3,1,3,2,1,3,1,3,2,0,3] (fC0_7 (.fx 8 (wNL (.fx 13 (.fx 14 (.fl 15 .nil) .stop) .stop)) .stop)) (by kernel_rfl) ?_))))))))))))
 have bd:=dZ.drew
 generalize hw_W242:({ bz with drawn:=bz.drawn + 1 }:World)=cE at bd ⊢
 refine oM Z de (oM Z bQ (oM Z bP (oM Z bN (oR Z (Zd Z Z) (oR Z (zG Z Z ZI Z Zx) (oL Z (bd.ldB (j:=0) Z Z Z yD (v:=.map (some ab)) Z) (oM Z Z (bnK eQ fun eZ dC eG=>zF 0 Z Z Z Z (zD Z Z Try.call82 (zB Z zN) Z) bd (fun hs=>wCi (↑an:Int) cE fc hs dC) (.inr Z) ?_))))))))
 rintro aY ff fJ cG cp d5 ⟨rfl,rfl⟩
 let B6:Res:=.row aQ aU 3 1 (hD KL.encI aG)
 have be:SW w [B0,.obj ab (.map ac ae)] φ aY [B0,.obj ab (.map ac ae),B5,B6] cG:=d5
 refine oL Z (be.lookup1 (j:=1) (mk:=wBE) (mv:=wBK) (a:=eZ) (z:=0) Z Z Z Z (wBp ZO) wCz zz cg) (bnK eG fun az bc eH=>?_)
 have dD:=bf.le eW
 have dE:=dD.le co
 have dF:=dE.le cp
 have q:=dF.el (fun _=>rfl) (wAX bc)
 obtain ⟨fq,fH,dK,dN⟩:=q
 refine oR Z (ZY Z Z dK Z zE zC (wCG bc) (wCI bc)) (oL Z (be.ldC (f:=0) dN (v:=jV az) Z Z zJ Z) (oR Z (yJ Z Z Z) (zm (pv:=[(0,jV (w64 (x3 - az)))]) (zs:=[jV 0]) (cs:=[jV (w64 (x3 - az))]) Z Z Z Z Z (wAG Z wAN) zE zC zz Z Z Z Z Z be ?_)))
 intro cH cL d7
 let B7:Res:=.row (some ⟨cL,0,none⟩) 1 3 1 (hD KL.encI [w64 (x3 - az)])
 have cd:SW w [B0,.obj ab (.map ac ae)] φ aY [B7,B0,.obj ab (.map ac ae),B5,B6] cH:=d7
 refine bnK eH fun cu dG eI=>Zm (j:=4) (enc:=KL.encI) (xs:=aG) (ys:=[w64 (x3 - az)]) (zs:=cu) rfl rfl rfl rfl rfl yf wHr rfl rfl rfl rfl rfl rfl cd rfl rfl rfl (cd.srcR (j:=0) rfl (by decide) (wAD (f:=KL.encI) (sz:=1) (fun _=>rfl) [w64 (x3 - az)])) (fun _=>rfl) (fun _=>rfl) dG rfl ?_
 intro bt bH cI d9
 have ef:SW w [B0,.obj ab (.map ac ae)] φ aY [B7,B0,.obj ab (.map ac ae),B5,.row bt bH 3 1 (hD KL.encI cu)] cI:=d9
 refine oA Z Z (zb (zo (zH (rR fL2 Z (oR Z (ZG (za Z a8 Z) (congrArg (jV) ey.out)) (oM Z Z (zb ?_)))))))
 cases eI
 exact zH ⟨rfl,⟨aY,bt,bH,rfl,bN,bP,bQ,dd,rfl,bR,(co.trans cp),(ef.pick [1,2,3,4] _ (by decide) rfl)⟩⟩
 rintro fR fh ⟨fd,cy,cO,du,fw,fy,fz,df,dg,dh,eX,eg⟩
 have cP:Hid (¬ ((↑(((↑p0.Race.Clocks.length:Int):Int) - 0).toNat:Int) < (↑p0.Race.Clocks.length:Int))):=zM (wAc)
 refine sR fL1 Z (oR Z (zc Z du dh) (eN (zL (cF Z cP (Za (zi (zi (ZQ (zH (sR fL4 Z (oM Z df (oM Z dg (oA Z Z (oA Z Z (eN (zS ?_))))))))))))))))
 have dH:=dB.le eX
 cases eF
 exact ⟨rfl,_,(wDx rfl rfl),fd,_,(eg.pick [2,3,0,1] _ (by decide) rfl),a5,a7,bF,cy,cO,rfl,rfl,dH⟩
theorem wDp (p0:wAC) (aG:Option Addr) (aK:Nat) (aH:Option Addr) (aL:Nat) (aI:Option Addr) (aM:Nat) (aJ:Option Addr) (aN:Nat) (w:World) (φ:PHeap) (hS:St0 w φ []) (cA:Sl φ 1 aG aK p0.Starts.length (hD KL.encI p0.Starts)) (cB:Sl φ 2 aH aL p0.Splits.length (hD wAE p0.Splits)) (cC:Sl φ 3 aI aM p0.Clocks.length (hD wAB p0.Clocks)) (cD:Sl φ 4 aJ aN p0.Readings.length (hD wAA p0.Readings)) {r:(List (List Int)) × (List Int) × Int} (hm:wBF p0=some r):Gv Try.prog 27 [.agg #[.slice aG p0.Starts.length aK,.slice aH p0.Splits.length aL,.slice aI p0.Clocks.length aM,.slice aJ p0.Readings.length aN]] w (wCF w [] φ (fun φ_ L_ v=>∃ (A0:Option Addr) (c0:Nat) (bm:List Value) (A1:Option Addr) (c1:Nat),v=.tuple #[.slice A0 r.1.length c0,.slice A1 r.2.1.length c1,jV r.2.2]/\L_=[.row A0 c0 23 1 bm,.row A1 c1 3 1 (hD KL.encI r.2.1)]/\RlL φ_ wIs r.1 bm)):=by
 unfold wBF at hm
 refine Gv.of Try.func27 Z Try.ntmps27 Try.results27 Z (sR (.fx 0 (fC1_3 (.nil)) .stop) Z ?_)
 let B0:List Value:=[.slice aG p0.Starts.length aK,.slice aH p0.Splits.length aL,.slice aI p0.Clocks.length aM,.slice aJ p0.Readings.length aN]
 refine zu (cs:=B0) rfl rfl rfl rfl rfl rfl (by rfl) hS ?_
 intro W1 b2 bu
 refine oA Z Z (oA Z Z (oA Z Z (eN (sR (.fl 0 (.fx 1 (wFy (.nil)) .stop)) Z (oL Z (bu.ldBA (j:=0) Z Z Z zf zX (vs:=B0) Z Z) ?_)))))
 have q:=bnd hm
 obtain ⟨⟨x5,x6⟩,h7,ap⟩:=q
 try dsimp only at ap
 refine zF 0 Z Z Z Z (zD Z Z Try.call60 (zB Z zN) Z) bu (fun hs=>wDo p0 aG aK aH aL aI aM aJ aN W1 φ hs cA cB cC cD h7) (.inr Z) ?_
 rintro aO cQ cY ax cW bt bs
 rcases x5 with _ | ae
 try dsimp only at ap
 obtain ⟨rfl,rfl⟩:=bs
 have cn:sW w φ aO [.blk b2 28 B0] ax:=bt
 refine oM Z Z (oR Z (zU Z Z (v:=.pointer none) Z) (oR Z (zU Z Z (v:=jV x6) Z) (oA Z Z (oA Z Z (eN (zL (sR fL2 Z (oM Z Z (oR Z (ZZ Z Z Z) (eN (ifc ap ?_ ?_)))))))))))
 intro a7 cH
 refine zt (zw (fun h=>h a7.out)) (kN (sR (.fl 0 (.fx 1 (wKV gCr) .stop)) Z (oM Z Z ?_)))
 cases cH
 intro a7 cI
 refine cT Z a7 (sR fL4 Z (oM Z Z (oA Z Z (oA Z Z (oA Z Z (eN (zS (zR ?_))))))))
 have co:=cn.nilrow 23 1
 have cp:=co.nilrow 3 1
 cases cI
 exact ⟨rfl,_,(res3 rfl rfl rfl),aO,_,(cp.pick [1,0] _ (by decide) rfl),none,0,[],none,0,rfl,rfl,RlL.nil⟩
 try dsimp only at ap
 obtain ⟨az,aR,aY,aS,aZ,aT,a5,aU,a6,ac,ah,ag,av,aE,rfl,rfl,bK,bL,bM,bN,bn⟩:=bs
 let B1:Res:=.blk az 124 [.slice aR ae.Race.Starts.length aY,.slice aS ae.Race.Splits.length aZ,.slice aT ae.Race.Clocks.length a5,.slice aU ae.Race.Readings.length a6,.map (some ac),.slice av ae.edges.length aE]
 have bv:sW w φ aO [B1,.obj ac (.map ah ag),.row av aE 130 7 (hD wAQ ae.edges),.blk b2 28 B0] ax:=bt
 refine oM Z Z (oR Z (zU Z Z (v:=.pointer (some ⟨az,0,none⟩)) Z) (oR Z (zU Z Z (v:=jV x6) Z) (oA Z Z (oA Z Z (eN (zL (sR fL2 Z (oM Z Z (oR Z (ZZ Z Z Z) (eN (ifc ap ?_ ?_)))))))))))
 intro a8 cJ
 refine zt (zw (fun h=>h a8.out)) (kN (sR (.fl 0 (.fx 1 (wKV gCr) .stop)) Z (oM Z Z ?_)))
 have q:=bv.freezeR (k:=2) (n:=ae.edges.length) rfl (wAD (f:=wAQ) (sz:=7) (fun _=>rfl) ae.edges) (by decide)
 obtain ⟨bD,aF,bz,cq⟩:=q
 have cr:sW w φ bD [B1,.obj ac (.map ah ag),.blk b2 28 B0] ax:=cq
 have bo:=bK.le aF
 have bp:=bL.le aF
 have bq:=bM.le aF
 have br:=bN.le aF
 have q:=bnd cJ
 obtain ⟨⟨af,cO,cP⟩,bP,bx⟩:=q
 try dsimp only at bx
 refine zF 2 Z Z Z Z (zD Z Z Try.call57 (zB Z (zB Z (zB Z zN))) Z) cr (fun hs=>wBG ae az aR aY aS aZ aT a5 aU a6 ac ah ag av aE (-1) false ax bD hs bo bp bq br bn bz bP) (.inl Z) ?_
 rintro bc cS cZ bG aq ct ⟨ak,ao,aV,a9,rfl,rfl⟩
 let B2:Res:=.row aV a9 3 1 (hD KL.encI af.by_)
 let B3:Res:=.row ak ao 3 1 (hD KL.encI af.far)
 have cu:sW w φ bc [B3,B2,B1,.obj ac (.map ah ag),.blk b2 28 B0] bG:=ct
 refine oM Z Z (oR Z (zU Z Z (v:=.agg #[.slice ak af.far.length ao,.slice aV af.by_.length a9]) Z) (oR Z (zU Z Z (v:=jV cO) Z) (oR Z (zU Z Z (v:=.bool cP) Z) (zV (cs:=[.slice none 0 0,.slice none 0 0]) Z Z Z Z Z Zk Z cu ?_))))
 intro cU aD cw
 let B4:List Value:=[.slice ak af.far.length ao,.slice aV af.by_.length a9]
 refine zW (j:=0) (vs:=B4) Z Z Z Z cw Z Z Z Z Zy (zA Z) Z Z Z ?_
 intro ay cx
 have bb:sW w φ bc [.blk aD 118 B4,B3,B2,B1,.obj ac (.map ah ag),.blk b2 28 B0] ay:=cx
 refine oA Z Z (oA Z Z (eN (zL (sR fL2 Z (oM Z Z (oR Z (Ze Z Z) (eN (ifc bx ?_ ?_))))))))
 intro ba cK
 refine zt (nC ba.out) (kN (sR (wCa (.fx 3 (wNI (.nil)) .stop)) Z (oM Z Z (oR Z (zG Z Z ZU Z zy) (oL Z (bb.ldB (j:=0) Z Z Z ZK (v:=.slice ak af.far.length ao) Z) ?_)))))
 have q:=bb.freezeR (k:=1) (n:=af.far.length) rfl (wAD (f:=KL.encI) (sz:=1) (fun _=>rfl) af.far) (by decide)
 obtain ⟨bd,au,cL,cy⟩:=q
 have cz:sW w φ bd [.blk aD 118 B4,B2,B1,.obj ac (.map ah ag),.blk b2 28 B0] ay:=cy
 have bR:=bo.le aq
 have bS:=bR.le au
 have bU:=bp.le aq
 have bV:=bU.le au
 have bW:=bq.le aq
 have bX:=bW.le au
 have bY:=br.le aq
 have bZ:=bY.le au
 have ca:=bz.le aq
 have bH:=ca.le au
 have q:=bnd cK
 obtain ⟨⟨cM,bA⟩,bI,bw⟩:=q
 try dsimp only at bw
 have cb:sW w φ bd [B1,.obj ac (.map ah ag),.blk aD 118 B4,B2,.blk b2 28 B0] ay:=cz.pick [2,3,0,1,4] _ (by decide) rfl
 refine zF 2 Z Z Z Z (zD Z Z Try.call58 (zB Z (zB Z zN)) Z) cb (fun hs=>wGH ae az aR aY aS aZ aT a5 aU a6 ac ah ag av aE af.far ak ao ay bd hs bS bV bX bZ bn bH cL bI) (.inl Z) ?_
 rintro bC cR cX bF cV cc ⟨aP,aW,bj,aQ,aX,rfl,rfl,bJ⟩
 have cd:sW w φ bC [.row aP aW 23 1 bj,.row aQ aX 3 1 (hD KL.encI bA),B1,.obj ac (.map ah ag),.blk aD 118 B4,B2,.blk b2 28 B0] bF:=cc
 refine oM Z Z (oR Z (zU Z Z (v:=.slice aP cM.length aW) Z) (oR Z (zU Z Z (v:=.slice aQ bA.length aX) Z) (oA Z Z (oA Z Z (eN (sR fL5 Z (oM Z Z (oM Z Z (oA Z Z (oA Z Z (oA Z Z (eN (zS ?_)))))))))))))
 cases bw
 exact ⟨rfl,_,(res3 rfl rfl rfl),bC,_,(cd.pick [0,1] _ (by decide) rfl),aP,aW,bj,aQ,aX,rfl,rfl,bJ⟩
 intro ba cE
 refine ZL (nF (ba.out)) (sR fL3 Z (oA Z Z (oA Z Z (oA Z Z (eN (zS (zR ?_)))))))
 have cf:=bb.nilrow 23 1
 have cg:=cf.nilrow 3 1
 cases cE
 exact ⟨rfl,_,(res3 rfl rfl rfl),bc,_,(cg.pick [1,0] _ (by decide) rfl),none,0,[],none,0,rfl,rfl,RlL.nil⟩
 intro a8 cG
 refine cT Z a8 (sR fL4 Z (oM Z Z (oA Z Z (oA Z Z (oA Z Z (eN (zS (zR ?_))))))))
 have ci:=bv.nilrow 23 1
 have cm:=ci.nilrow 3 1
 cases cG
 exact ⟨rfl,_,(res3 rfl rfl rfl),aO,_,(cm.pick [1,0] _ (by decide) rfl),none,0,[],none,0,rfl,rfl,RlL.nil⟩
theorem wGy (p0:Int) (p1:Int) (ac:Nat) (w:World) (φ:PHeap) (hS:St0 w φ []) (ae:Cl φ ac 0 [jV p1]) {r:Bool} (hm:wBw p0 p1=some r):Gv Try.prog 62 [jV p0,.pointer (some ⟨ac,0,none⟩)] w (wCF w [] φ (fun φ_ L_ v=>v=.bool r/\L_=[])):=by
 unfold wBw at hm
 refine Gv.of Try.func62 Z Try.ntmps62 Try.results62 Z (sR fL1 Z (oA Z Z (eN (sR fL4 Z (oM Z Z (oL Z (hS.ldC (f:=0) ae (v:=jV p1) Z Z zJ Z) (oR Z (Zs Z Z Z) (oA Z Z (eN (zS ?_))))))))))
 first | (obtain rfl:=nE hm) | cases hm
 exact ⟨Z,_,(ZM Z),φ,_,hS,Z,Z⟩
theorem wFI (n_:Nat):∀ (p0:Int) (p1:wAb) (aq:Nat) (aM:Option Addr) (aR:Nat) (aD:Option Addr) (aF:Nat) (p2:List wAF) (ag:Nat) (ak:Option Addr) (am:Nat) (p3:(Int->Option Bool)) (aE:Nat) (aL:Value) (p4:wAW) (au:Nat) (aK:Nat) (aN:Option Addr) (aS:Nat) (aO:Option Addr) (aT:Nat) (aP:Option Addr) (aU:Nat) (aQ:Option Addr) (aV:Nat) (aW:Nat) (bo:Array MapEntry) (bp:Nat) (aI:Option Addr) (aJ:Nat) (p5:Unit) (av:Nat) (w:World) (φ:PHeap) (hS:St0 w φ [.blk ag 69 [.slice ak p2.length am],.row ak am 78 4 (hD wAP p2)]) (bh:Cl φ aq 0 [.slice aM p1.far.length aR,.slice aD p1.by_.length aF]) (bE:Sl φ 1 aM aR p1.far.length (hD KL.encI p1.far)) (bi:Sl φ 1 aD aF p1.by_.length (hD KL.encI p1.by_)) (bj:Cl φ aE 0 [aL]) (bm:FnOK Try.prog φ aL wMZ wMa p3) (bJ:Cl φ au 0 [.pointer (some ⟨aK,0,none⟩)]) (bK:Cl φ aK 0 [.slice aN p4.Race.Starts.length aS,.slice aO p4.Race.Splits.length aT,.slice aP p4.Race.Clocks.length aU,.slice aQ p4.Race.Readings.length aV,.map (some aW),.slice aI p4.edges.length aJ]) (bL:Sl φ 1 aN aS p4.Race.Starts.length (hD KL.encI p4.Race.Starts)) (bM:Sl φ 2 aO aT p4.Race.Splits.length (hD wAE p4.Race.Splits)) (bN:Sl φ 3 aP aU p4.Race.Clocks.length (hD wAB p4.Race.Clocks)) (bF:Sl φ 4 aQ aV p4.Race.Readings.length (hD wAA p4.Race.Readings)) (bG:MpF φ aW bo bp wBE wBK p4.number) (bH:Sl φ 7 aI aJ p4.edges.length (hD wAQ p4.edges)) (bI:Cl φ av 0 [.func (.func 90) #[] #[.pointer (some ⟨aq,0,none⟩),.pointer (some ⟨ag,0,none⟩),.pointer (some ⟨aE,0,none⟩),.pointer (some ⟨au,0,none⟩),.pointer (some ⟨av,0,none⟩)]]) {r:(List wAF)} (hm:wBz n_ p0 p1 p2 p3 p4 p5=some r),Gv Try.prog 90 [jV p0,.pointer (some ⟨aq,0,none⟩),.pointer (some ⟨ag,0,none⟩),.pointer (some ⟨aE,0,none⟩),.pointer (some ⟨au,0,none⟩),.pointer (some ⟨av,0,none⟩)] w (wCF w [.blk ag 69 [.slice ak p2.length am],.row ak am 78 4 (hD wAP p2)] φ (fun φ_ L_ v=>∃ (bq:Option Addr) (bs:Nat),v=.tuple #[]/\L_=[.row bq bs 78 4 (hD wAP r),.blk ag 69 [.slice bq r.length bs]])):=by
 induction n_ with
 | zero =>
  intros
  rename_i hm
  have cO:(none:Option ((List wAF)))=some _:=hm
  cases cO
 | succ n_ ih =>
  intro p0 p1 aq aM aR aD aF p2 ag ak am p3 aE aL p4 au aK aN aS aO aT aP aU aQ aV aW bo bp aI aJ p5 av w φ hS bh bE bi bj bm bJ bK bL bM bN bF bG bH bI r hm
  have hm:wAy (wBz n_) p0 p1 p2 p3 p4 p5=some r:=hm
  unfold wAy at hm
  refine Gv.of Try.func90 Z Try.ntmps90 Try.results90 Z (zL (bnK hm fun b3 dd cZ=>?_))
  let B0:Res:=.row ak am 78 4 (hD wAP p2)
  let B1:Res:=.blk ag 69 [.slice ak p2.length am]
  refine yO (fun σ_ w_=>∃ (φ_:PHeap),σ_ 0=jV p0/\σ_ 1=.pointer (some ⟨aq,0,none⟩)/\σ_ 2=.pointer (some ⟨ag,0,none⟩)/\σ_ 4=.pointer (some ⟨au,0,none⟩)/\σ_ 5=.pointer (some ⟨av,0,none⟩)/\σ_ 23=.bool b3/\PHeap.Le φ φ_/\SW w [B1,B0] φ φ_ [B0,B1] w_) ?_ ?_
  ·refine rR (wLR (.fx 13 (.fl 14 (.fl 15 .nil)) .stop)) Z (oR Z (zG Z Z ZU Z zy) (oL Z (hS.ldC (f:=1) bh (v:=.slice aD p1.by_.length aF) Z Z ZK Z) (oM Z Z (bnK dd fun x7 h8 db=>?_))))
   have q:=bi.el (fun _=>rfl) (wAX h8)
   obtain ⟨dm,dr,cw,cz⟩:=q
   refine oR Z (ZY Z Z cw Z zE zC (wCG h8) (wCI h8)) (oL Z (hS.ldC (f:=0) cz (v:=jV x7) Z Z zJ Z) (oR Z (zc Z Z Z) (oM Z Z (ifc db ?_ ?_))))
   ·intro ac cQ
    refine oT Z ac (oT Z ac (oT Z ac (oT Z ac (ZD Z Z Z (wAx Z Z Z) (ZD Z Z Z (wAx Z Z Z) (ZB Z Z Z (wAx Z Z Z) (oT Z ac (oR Z (zP Z (Zj ac.out) Z) (zb ?_)))))))))
    cases cQ
    exact zH ⟨rfl,⟨φ,rfl,rfl,rfl,rfl,rfl,rfl,(zO _),(hS.pick [1,0] _ (by decide) rfl)⟩⟩
   ·intro ac cR
    refine ZJ Z Z Z (wF Z ac) (hS.ldB (j:=0) Z Z Z Try.isAgg69 (v:=.slice ak p2.length am) Z) Z (rU Z (wF Z ac) (zq Z Z Zg) (rU Z (wF Z ac) (yb Z Z Z) (zk Z Z Z (wF Z ac) Z Z (ifc cR ?_ ?_))))
    ·intro an cS
     refine ZJ Z Z Z (wT Z an) (hS.ldC (f:=0) bj (v:=aL) Z Z Try.isAgg76 Z) Z (zk Z Z Z (wT Z an) Z Z (bnK cS fun dx cg cU=>OKS.callV (a:=p0) Z Z Z (wT Z an) Z Z (zB Z zN) hS bm Z cg ?_))
     rintro bR di dw bU de cG ⟨rfl,rfl⟩
     have cH:SW w [B1,B0] φ bR [B1,B0] bU:=cG
     refine rU Z (wF Z ac) (zP Z (Zj an.out) Z) (oR Z (zZ Z (zw ac.out) Z) (zb ?_))
     cases cU
     exact zH ⟨rfl,⟨bR,rfl,rfl,rfl,rfl,rfl,rfl,de,(cH.pick [1,0] _ (by decide) rfl)⟩⟩
    ·intro an cV
     refine oF Z an (oF Z an (ZB Z Z Z (zT Z Z (zw an.out) Z) (rU Z (wF Z ac) (zZ Z (zw an.out) Z) (oR Z (zZ Z (zw ac.out) Z) (zb ?_)))))
     cases cV
     exact zH ⟨rfl,⟨φ,rfl,rfl,rfl,rfl,rfl,rfl,(zO _),(hS.pick [1,0] _ (by decide) rfl)⟩⟩
  ·rintro dy br ⟨ax,ca,cb,bt,cc,cd,bu,ae,bC⟩
   refine ifc cZ ?_ ?_
   ·intro ba cW
    refine ZL (bu.trans (congrArg nG ba.out)) (zS (zR ?_))
    have hE:=nE cW;first | subst r | cases hE
    exact ⟨Z,_,(wLD),ax,_,bC,ak,am,Z,Z⟩
   ·intro ba cX
    refine zt (bu.trans (congrArg nG (nH.2 ba.out))) (kN (zL (ZE ZF [1,3,3,1,3,1,3,3,1,3,1,2,0] (wMx (.fx 11 (.fx 12 .nil .stop) .stop)) (by kernel_rfl) ?_)))
    have ap:=bC.drew
    generalize hw_W48:({ br with drawn:=br.drawn + 1 }:World)=dk at ap ⊢
    have bv:=bJ.le ae
    refine oL Z (ap.ldC (f:=0) bv (v:=.pointer (some ⟨aK,0,none⟩)) Z cc ya Z) (oR Z (Zd Z Z) (oR Z (zG Z Z ZI Z yY) ?_))
    have bw:=bK.le ae
    refine oL Z (ap.ldC (f:=5) bw (v:=.slice aI p4.edges.length aJ) Z Z Try.isAgg122 Z) (oR Z (zG Z cb ZU Z zy) ?_)
    have bx:=bh.le ae
    refine oL Z (ap.ldC (f:=1) bx (v:=.slice aD p1.by_.length aF) Z Z ZK Z) (oM Z ca (bnK cX fun df bc cY=>?_))
    have bz:=bi.le ae
    have q:=bz.el (fun _=>rfl) (wAX bc)
    obtain ⟨dn,dt,cx,cA⟩:=q
    refine oR Z (ZY Z Z cx Z zE zC (wCG bc) (wCI bc)) (oL Z (ap.ldC (f:=0) cA (v:=jV df) Z Z zJ Z) (bnK cY fun aa bd c6=>?_))
    have bA:=bH.le ae
    have q:=bA.el (fun _=>rfl) (wAX bd)
    obtain ⟨dp,du,cy,cB⟩:=q
    refine oR Z (ZY Z Z cy Z yc yd (wCG bd) (wCI bd)) (oL Z (ap.ldCA (f:=0) cB Z Z Try.isAgg130 yd (us:=[jV aa.step.Kind,jV aa.step.Skier,jV aa.step.Index,.bool aa.step.Up,jV aa.from_,jV aa.to_,jV aa.count]) Z Z) (zV (cs:=[jV 0,jV 0,jV 0,.bool false,jV 0,jV 0,jV 0]) Z Z Z Z Z Try.zeroValue130 Z ap ?_))
    intro dl ay cI
    let B2:List Value:=[jV aa.step.Kind,jV aa.step.Skier,jV aa.step.Index,.bool aa.step.Up,jV aa.from_,jV aa.to_,jV aa.count]
    refine zW (j:=0) (vs:=B2) Z Z Z Z cI Z Z Z Z yd (zA Z) Z Z Z ?_
    intro bV cJ
    have bf:SW w [B1,B0] φ ax [.blk ay 130 B2,B0,B1] bV:=cJ
    refine eN (sR (wCa (.fx 3 gBu .stop)) Z (oL Z (bf.ldB (j:=2) Z Z bt Try.isAgg69 (v:=.slice ak p2.length am) Z) (oR Z (zG Z Z yN Z ZN) ?_)))
    let B3:List Value:=[jV aa.step.Kind,jV aa.step.Skier,jV aa.step.Index,.bool aa.step.Up]
    refine oL Z (bf.ldBA (j:=0) Z Z Z Zp ZN (vs:=B3) Z Z) (zm (pv:=[(0,.agg B3.toArray)]) (zs:=[jV 0,jV 0,jV 0,.bool false]) (cs:=B3) Z Z Z Z Z (wAG Z wAN) Zg ZN Zn Z Z Z Z Z bf ?_)
    intro bW bZ cK
    let B4:Res:=.row (some ⟨bZ,0,none⟩) 1 78 4 (hD wAP [aa.step])
    have bD:SW w [B1,B0] φ ax [B4,.blk ay 130 B2,B0,B1] bW:=cK
    refine bnK c6 fun aX ci da=>Zm (j:=2) (enc:=wAP) (xs:=p2) (ys:=[aa.step]) (zs:=aX) rfl rfl rfl rfl rfl Try.underlying69 wLM rfl rfl rfl rfl rfl rfl bD rfl rfl rfl (bD.srcR (j:=0) rfl (by decide) (wAD (f:=wAP) (sz:=4) (fun _=>rfl) [aa.step])) (fun _=>rfl) (fun _=>rfl) ci rfl ?_
    intro aZ bb bX cL
    let B5:Res:=.row aZ bb 78 4 (hD wAP aX)
    have cM:SW w [B1,B0] φ ax [B4,.blk ay 130 B2,B5,B1] bX:=cL
    let B6:List Value:=[.slice aZ aX.length bb]
    refine zW (j:=3) (vs:=B6) Z Z Z Z cM Z bt Z Z Try.sizeOf69 (zA Z) Z Z Z ?_
    intro a8 cN
    have bg:SW w [B1,B0] φ ax [B4,.blk ay 130 B2,B5,.blk ag 69 B6] a8:=cN
    refine eN (rR (wCa (.fx 3 .nil .stop)) Z ?_)
    have bB:=bI.le ae
    refine oL Z (bg.ldC (f:=0) bB (v:=.func (.func 90) #[] #[.pointer (some ⟨aq,0,none⟩),.pointer (some ⟨ag,0,none⟩),.pointer (some ⟨aE,0,none⟩),.pointer (some ⟨au,0,none⟩),.pointer (some ⟨av,0,none⟩)]) Z cd Try.isAgg156 Z) (oR Z (zG Z Z yN Z zC) (oL Z (bg.ldB (j:=1) Z Z Z zJ (v:=jV aa.from_) Z) ?_))
    have cm:=bE.le ae
    have cn:=bj.le ae
    have co:=bm.le ae
    have cp:=bL.le ae
    have cq:=bM.le ae
    have cr:=bN.le ae
    have ct:=bF.le ae
    have cu:=bG.le ae
    refine bnK da fun bP cf cP=>?_
    have cC:SW w [B1,B0] φ ax [.blk ag 69 B6,B5,B4,.blk ay 130 B2] a8:=bg.pick [3,2,0,1] _ (by decide) rfl
    refine zF 2 Z Z Z Z (zD Z Z Try.call90 (zB Z zN) Z) cC (fun hs=>ih aa.from_ p1 aq aM aR aD aF aX ag aZ bb p3 aE aL p4 au aK aN aS aO aT aP aU aQ aV aW bo bp aI aJ () av a8 ax hs bx cm bz cn co bv bw cp cq cr ct cu bA bB cf) (.inl Z) ?_
    rintro bQ dh dv bS dq cD ⟨aY,a9,rfl,rfl⟩
    have cE:SW w [B1,B0] φ bQ [.row aY a9 78 4 (hD wAP bP),.blk ag 69 [.slice aY bP.length a9],B4,.blk ay 130 B2] bS:=cD
    refine zb ?_
    have hE:=nE cP;first | subst r | cases hE
    exact ⟨rfl,_,(wLD),bQ,_,(cE.pick [0,1] _ (by decide) rfl),aY,a9,rfl,rfl⟩
end Go.Proofs.Ytlnfbjphfoipaaa
