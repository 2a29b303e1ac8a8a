import Derived.Test.YtlnfbjphfoipaaaZ4
import Derived.Test.YtlnfbjphfoipaaaZ3
set_option linter.all false
open List renaming flatMap->hD,getElem_cons_succ->hH,getElem_cons_zero->hJ,getElem_toArray->nA,length_set->nE,set->nG
open Int renaming toNat_natCast->nB,eq_ofNat_of_zero_le->nH
open Option.some renaming inj->nD
open Go.Value renaming bool->nI
open Bool renaming eq_false_iff->nJ
namespace Go.Proofs.Ytlnfbjphfoipaaa
open Go.KL
def gBw:Sch:=.fx 8 (.fx 9 .nil .stop) .stop
def gBx:Sch:=.fx 4 (.fl 5 .nil) .stop
def gBy:Sch:=.fx 0 (.fl 1 .nil) .stop
def gBz:Sch:=.fx 7 (.fx 8 .nil .stop) .stop
def gCa:Sch:=.fx 6 (.fx 8 .nil .stop) .stop
def gCb:Sch:=.fx 0 (.fx 1 .nil .stop) .stop
def gCc:Sch:=.fl 14 (.fx 16 .nil .stop)
def gCd:Sch:=.fl 17 (.fx 18 .nil .stop)
def gCe:Sch:=.fx 1 (.fl 2 (.fl 3 .nil)) .stop
def gCf:Sch:=.fx 3 gBx .stop
def gCg:Sch:=.fl 0 (.fx 1 (.fx 2 .nil .stop) .stop)
def gCh:Sch:=.fl 22 (.fl 23 (.fx 24 .nil .stop))
def gCi:Sch:=.fx 0 (.fl 1 (.fl 2 .nil)) .stop
def gCj:Sch:=.fl 0 (.fx 1 (.fl 2 .nil) .stop)
def gCk:Sch:=.fx 12 (.fx 13 (.fl 14 .nil) .stop) .stop
def gCl:Sch:=.fl 14 (.fx 15 (.fx 16 .nil .stop) .stop)
def gCm:Sch:=.fx 13 gCc .stop
def gCn:Sch:=.fl 4 (.fl 5 gCa)
def gCo:Sch:=.fx 0 (.fl 5 gCa) .stop
def gCp:Sch:=.fx 21 gCh .stop
def gCq:Sch:=.fl 0 (.fl 1 (.fx 2 (.fl 3 .nil) .stop))
def gCr:Sch:=.fx 11 gCk .stop
def gCs:Sch:=.fx 10 gCk .stop
def gCt:Sch:=.fx 7 gCm .stop
def gCu:Sch:=.fx 0 (.fx 1 (.fx 2 (.fx 3 (.fl 4 .nil) .stop) .stop) .stop) .stop
def gCv:Sch:=.fl 5 (.fx 6 gBz (.fx 7 gCa .stop))
def gCw:Sch:=.fx 3 gCn .stop
def gCx:Sch:=.fx 13 gCl (.fx 15 gCm .stop)
def gCy:Sch:=.fx 6 (.fl 12 gCm) .stop
def gCz:Sch:=.fx 4 (.fx 16 gCd .stop) (.fx 16 (.fx 4 gCd .stop) .stop)
def gDa:Sch:=.fx 2 gCw .stop
def gDb:Sch:=.fx 1 gCw .stop
def gDc:Sch:=.fx 0 gCy .stop
def gDd:Sch:=.fl 1 (.fl 2 (.fx 0 (.fl 3 (.fx 4 (.fx 5 .nil .stop) .stop)) (.fx 4 (.fx 0 (.fl 3 (.fx 5 .nil .stop)) .stop) .stop)))
def gDe:Sch:=.fl 0 (.fl 2 (.fx 1 gCf (.fx 3 (.fx 1 gBx .stop) .stop)))
def gDf:Sch:=.fx 3 (.fl 4 gCv) (.fx 7 gCw .stop)
def gDg:Sch:=.fl 4 (.fx 0 gCv (.fx 7 gCo .stop))
def gDh:Sch:=.fx 0 gCw (.fx 3 (.fl 4 gCo) .stop)
def gDi:Sch:=.fx 6 (.fl 12 gCx) (.fx 15 gCy .stop)
def gDj:Sch:=.fx 6 (.fl 12 gCt) (.fx 7 gCy .stop)
def gDk:Sch:=.fx 2 gDf (.fx 7 gDa .stop)
def gDl:Sch:=.fx 1 gDf (.fx 7 gDb .stop)
def gDm:Sch:=.fx 1 gDa (.fx 2 gDb .stop)
def gDn:Sch:=.fx 0 gDa (.fx 2 gDh .stop)
def gDo:Sch:=.fx 0 gDb (.fx 1 gDh .stop)
def gDp:Sch:=.fx 0 gDf (.fx 3 gDg (.fx 7 gDh .stop))
set_option maxHeartbeats 4000000
theorem wGa (p0:wAC) (ao:Option Addr) (aq:Nat) (ap:Option Addr) (au:Nat) (ag:Option Addr) (ah:Nat) (aj:Option Addr) (ak:Nat) (p1:wAD) (w:World) (U:PHeap) (hS:St0 w U []) (bb:Sl U 1 ao aq p0.Starts.length (hD KL.encI p0.Starts)) (bc:Sl U 2 ap au p0.Splits.length (hD wAG p0.Splits)) (ay:Sl U 3 ag ah p0.Clocks.length (hD wAA p0.Clocks)) (aW:Sl U 4 aj ak p0.Readings.length (hD wAB p0.Readings)) {r:Int × Int} (hm:wDS p0 p1=some r):Gv Try.prog 119 [.agg #[.slice ao p0.Starts.length aq,.slice ap p0.Splits.length au,.slice ag p0.Clocks.length ah,.slice aj p0.Readings.length ak],.agg #[jV p1.Kind,jV p1.Skier,jV p1.Index,.bool p1.Up]] w (wCB w [] U (fun U_ L_ v=>v=.tuple #[jV r.1,jV r.2]/\L_=[])):=by
 unfold wDS at hm
 refine Gv.of Try.func119 Z Try.ntmps119 Try.results119 Z (sR (.fx 0 gCe .stop) Z ?_)
 let B0:List Value:=[.slice ao p0.Starts.length aq,.slice ap p0.Splits.length au,.slice ag p0.Clocks.length ah,.slice aj p0.Readings.length ak]
 refine zu (cs:=B0) rfl rfl rfl rfl rfl rfl (by rfl) hS ?_
 intro W1 b2 aV
 let B1:List Value:=[jV p1.Kind,jV p1.Skier,jV p1.Index,.bool p1.Up]
 refine zu (cs:=B1) rfl rfl rfl rfl rfl rfl (by rfl) aV ?_
 intro W5 b6 ai
 refine oA Z Z (oA Z Z (eN (sR (wFr (.fx 6 (.fx 7 .nil .stop) .stop)) Z (oR Z (zJ Z Z zQ Z Zr) (oL Z (ai.ldB (j:=1) Z Z Z yM (v:=.slice aj p0.Readings.length ak) Z) (oR Z (zJ Z Z zm Z zC) (oL Z (ai.ldB (j:=0) Z Z Z zG (v:=jV p1.Index) Z) (bnK hm fun x9 an aX=>?_))))))))
 have q:=aW.el (fun _=>rfl) (wAW an)
 obtain ⟨a8,bd,aM,aP⟩:=q
 refine oR Z (ZO Z Z aM Z ZX Ze (wBJ an) (wBL an)) (oL Z (ai.ldCA (f:=0) aP Z Z yo Ze (us:=[jV x9.Skier,jV x9.Mat,jV x9.Clock,jV x9.Time]) Z Z) (zT (cs:=[jV 0,jV 0,jV 0,jV 0]) Z Z Z Z Z Zp Z ai ?_))
 intro a5 aJ aS
 let B2:List Value:=[jV x9.Skier,jV x9.Mat,jV x9.Clock,jV x9.Time]
 refine zV (j:=0) (vs:=B2) Z Z Z Z aS Z Z Z Z Ze (zA Z) Z Z Z ?_
 intro am aT
 have aU:sW w U U [.blk aJ 39 B2,.blk b6 78 B1,.blk b2 28 B0] am:=aT
 refine eN (zM (ZA ZB [3,1,3,1,3,1,3,3,1,3,3,1,3,1,3,3,1,3,1,3,3,3] fL22 (by kernel_rfl) ?_))
 have ac:=aU.drew
 generalize hw_W24:({ am with drawn:=am.drawn + 1 }:World)=a6 at ac ⊢
 refine oR Z (zJ Z Z ZM Z zC) (oL Z (ac.ldB (j:=0) Z Z Z zG (v:=jV x9.Time) Z) (oR Z (zJ Z Z zQ Z Zm) (oL Z (ac.ldB (j:=2) Z Z Z yA (v:=.slice ag p0.Clocks.length ah) Z) (oR Z (zJ Z Z ZM Z zC) (oL Z (ac.ldB (j:=0) Z Z Z zG (v:=jV x9.Clock) Z) (bnK aX fun az af aY=>?_))))))
 have q:=ay.el (fun _=>rfl) (wAW af)
 obtain ⟨a9,be,aN,aQ⟩:=q
 refine oR Z (ZO Z Z aN Z ZR Zw (wBJ af) (wBL af)) (oR Z (zJ Z Z Zy Z zC) (oL Z (ac.ldC (f:=2) aQ (v:=jV az.Error) Z Z zG Z) (oR Z (zf Z Z Z) (oR Z (zJ Z Z zQ Z Zm) (oL Z (ac.ldB (j:=2) Z Z Z yA (v:=.slice ag p0.Clocks.length ah) Z) (oR Z (zJ Z Z ZM Z zC) (oL Z (ac.ldB (j:=0) Z Z Z zG (v:=jV x9.Clock) Z) ?_)))))))
 have q:=ay.el (fun _=>rfl) (wAW af)
 obtain ⟨ba,bf,aO,aR⟩:=q
 refine oR Z (ZO Z Z aO Z ZR Zw (wBJ af) (wBL af)) (oR Z (zJ Z Z Zy Z zC) (oL Z (ac.ldC (f:=2) aR (v:=jV az.Error) Z Z zG Z) (oR Z (zJ Z Z ZM Z zC) (oL Z (ac.ldB (j:=0) Z Z Z zG (v:=jV x9.Time) Z) (oR Z (yH Z Z Z) (oA Z Z (oA Z Z (eN (zU ?_)))))))))
 cases aY
 exact ⟨rfl,_,(wDv rfl rfl),U,_,(ac.pick [] _ (by decide) rfl),rfl,rfl⟩
theorem wBG  (w:World) (U:PHeap) (hS:St0 w U [])  {r:Unit} (hm:wAt =some r):Gv Try.prog 103 [] w (wCB w [] U (fun U_ L_ v=>v=.agg #[.func (.func 108) #[] #[],.func (.func 109) #[] #[],.func (.func 110) #[] #[],.func (.func 111) #[] #[],.func (.func 112) #[] #[],.func (.func 113) #[] #[],.func (.func 114) #[] #[],.func (.func 115) #[] #[],.func (.func 116) #[] #[],.func (.func 117) #[] #[],.func (.func 118) #[] #[],.func (.func 119) #[] #[]]/\L_=[])):=by
 unfold wAt at hm
 refine Gv.of Try.func103 Z Try.ntmps103 Try.results103 Z (sR (.fx 0 .nil .stop) Z ?_)
 let B0:List Value:=[.nilFunc,.nilFunc,.nilFunc,.nilFunc,.nilFunc,.nilFunc,.nilFunc,.nilFunc,.nilFunc,.nilFunc,.nilFunc,.nilFunc]
 refine zT (cs:=B0) Z Z Z Z Z Try.zeroValue170 Z hS ?_
 intro W1 b2 am
 refine eN (sR (wGL (.fx 5 .nil .stop)) Z ?_)
 let B1:List Value:=[.nilFunc,.nilFunc,.nilFunc]
 let B2:List Value:=[.func (.func 108) #[] #[],.func (.func 109) #[] #[],.func (.func 110) #[] #[]]
 refine oR Z (zo (pv:=[(0,.func (.func 108) #[] #[]),(1,.func (.func 109) #[] #[]),(2,.func (.func 110) #[] #[])]) (z:=B1) (cs:=B2) Z (wAF Z (wAF Z (wAF Z wAO))) yG wFf Z Z) ?_
 let B3:List Value:=[.func (.func 111) #[] #[],.func (.func 112) #[] #[],.func (.func 113) #[] #[]]
 refine oR Z (zo (pv:=[(0,.func (.func 111) #[] #[]),(1,.func (.func 112) #[] #[]),(2,.func (.func 113) #[] #[])]) (z:=B1) (cs:=B3) Z (wAF Z (wAF Z (wAF Z wAO))) yG wFf Z Z) ?_
 let B4:List Value:=[.func (.func 114) #[] #[],.func (.func 115) #[] #[],.func (.func 116) #[] #[]]
 refine oR Z (zo (pv:=[(0,.func (.func 114) #[] #[]),(1,.func (.func 115) #[] #[]),(2,.func (.func 116) #[] #[])]) (z:=B1) (cs:=B4) Z (wAF Z (wAF Z (wAF Z wAO))) yG wFf Z Z) ?_
 let B5:List Value:=[.func (.func 117) #[] #[],.func (.func 118) #[] #[],.func (.func 119) #[] #[]]
 refine oR Z (zo (pv:=[(0,.func (.func 117) #[] #[]),(1,.func (.func 118) #[] #[]),(2,.func (.func 119) #[] #[])]) (z:=B1) (cs:=B5) Z (wAF Z (wAF Z (wAF Z wAO))) yG wFf Z Z) ?_
 let B6:List Value:=[.func (.func 108) #[] #[],.func (.func 109) #[] #[],.func (.func 110) #[] #[],.func (.func 111) #[] #[],.func (.func 112) #[] #[],.func (.func 113) #[] #[],.func (.func 114) #[] #[],.func (.func 115) #[] #[],.func (.func 116) #[] #[],.func (.func 117) #[] #[],.func (.func 118) #[] #[],.func (.func 119) #[] #[]]
 refine oR Z (Runs.buildA (pv:=[(0,.agg B2.toArray),(1,.agg B3.toArray),(2,.agg B4.toArray),(3,.agg B5.toArray)]) (z:=B0) (cs:=B6) Z (wAF Z (wAF Z (wAF Z (wAF Z wAO)))) Try.zeroValue170 Zu ZZ Z Z) (zV (j:=0) (vs:=B6) Z Z Z Z am Z Z Z Z Try.sizeOf170 (zA Z) Z Z Z ?_)
 intro W5 an
 have ai:sW w U U [.blk b2 170 B6] W5:=an
 refine eN (zU ?_)
 cases hm
 exact ⟨rfl,_,(wGl (v:=.agg B6.toArray) ⟨⟨_,rfl,(wAy Try.isAgg170 Try.sizeOf170 (ai.blkAt (k:=0) rfl) (vs:=B6) rfl rfl)⟩,trivial⟩),U,_,(ai.pick [] _ (by decide) rfl),rfl,rfl⟩
theorem wAm (p0:wAC) (a9:Option Addr) (bd:Nat) (ba:Option Addr) (be:Nat) (bb:Option Addr) (bf:Nat) (bc:Option Addr) (bg:Nat) (p1:wAD) (w:World) (U:PHeap) (hS:St0 w U []) (cg:Sl U 1 a9 bd p0.Starts.length (hD KL.encI p0.Starts)) (ci:Sl U 2 ba be p0.Splits.length (hD wAG p0.Splits)) (cj:Sl U 3 bb bf p0.Clocks.length (hD wAA p0.Clocks)) (cm:Sl U 4 bc bg p0.Readings.length (hD wAB p0.Readings)) {r:wAH × wAH × Int} (hm:wAw p0 p1=some r):Gv Try.prog 70 [.agg #[.slice a9 p0.Starts.length bd,.slice ba p0.Splits.length be,.slice bb p0.Clocks.length bf,.slice bc p0.Readings.length bg],.agg #[jV p1.Kind,jV p1.Skier,jV p1.Index,.bool p1.Up]] w (wCB w [] U (fun U_ L_ v=>v=.tuple #[.agg #[jV r.1.skier,jV r.1.mat],.agg #[jV r.2.1.skier,jV r.2.1.mat],jV r.2.2]/\L_=[])):=by
 unfold wAw at hm
 refine Gv.of Try.func70 Z Try.ntmps70 Try.results70 Z ?_
 by_cases c1:p1.Kind=0
 have fh:=hm;rw [if_pos c1] at fh
 refine sR gCu Z ?_
 let B0:List Value:=[.slice a9 p0.Starts.length bd,.slice ba p0.Splits.length be,.slice bb p0.Clocks.length bf,.slice bc p0.Readings.length bg]
 refine zu (cs:=B0) rfl rfl rfl rfl rfl rfl (by rfl) hS ?_
 intro W6 b7 ma
 let B1:List Value:=[jV p1.Kind,jV p1.Skier,jV p1.Index,.bool p1.Up]
 refine zu (cs:=B1) rfl rfl rfl rfl rfl rfl (by rfl) ma ?_
 intro mQ aO i4
 let B2:List Value:=[jV 0,jV 0]
 refine zT (cs:=B2) Z Z Z Z Z za Z i4 ?_
 intro mS ax je
 refine zT (cs:=B2) Z Z Z Z Z za Z je ?_
 intro dD aJ jl
 refine oA Z Z (eN ?_)
 have q:=bnd fh
 obtain ⟨⟨⟩,ml,eW⟩:=q
 try dsimp only at eW
 let B3:List Value:=[.func (.func 108) #[] #[],.func (.func 109) #[] #[],.func (.func 110) #[] #[]]
 refine yN (fun σ_ w_=>∃ (U_:PHeap) (bi:Nat),σ_ 2=.pointer (some ⟨b7,0,none⟩)/\σ_ 3=.pointer (some ⟨aO,0,none⟩)/\σ_ 4=.pointer (some ⟨ax,0,none⟩)/\σ_ 5=.pointer (some ⟨aJ,0,none⟩)/\σ_ 7=.pointer (some ⟨bi,0,none⟩)/\PHeap.Le U U_/\sW w U U_ [.blk aJ 104 B2,.blk ax 104 B2,.blk aO 78 B1,.blk b7 28 B0,.blk bi 169 B3] w_) ?_ ?_
 have q:=bnd ml
 obtain ⟨⟨⟩,eh,dt⟩:=q
 try dsimp only at dt
 refine ZA ZB [2,3,1,3,2,0] gDd (by kernel_rfl) ?_
 have bZ:=jl.drew
 generalize hw_W45:({ dD with drawn:=dD.drawn + 1 }:World)=gC at bZ ⊢
 refine oR Z (zJ Z Z zm Z yQ) (oL Z (bZ.ldB (j:=2) Z Z Z yV (v:=jV p1.Kind) Z) (zk ?_ ?_))
 refine zE 0 Z Z Z Z (zD Z Z yW zK Z) bZ (fun hs=>wBG gC U hs eh) (.inr Z) ?_
 rintro cM mH oO gJ ms lm ⟨rfl,rfl⟩
 have ln:sW w U cM [.blk aJ 104 B2,.blk ax 104 B2,.blk aO 78 B1,.blk b7 28 B0] gJ:=lm
 refine zY rfl rfl rfl rfl (fun _=>(yj (i:=0) rfl rfl (congrArg (jV) c1) Zu ZZ (by decide) (by decide) (wCr yf ZZ rfl))) (zT (cs:=[.nilFunc,.nilFunc,.nilFunc]) rfl rfl rfl rfl rfl yG rfl ln ?_)
 intro n6 dN lz
 refine zV (j:=0) (vs:=B3) Z Z Z Z lz Z Z Z Z ZZ (zA Z) Z Z Z ?_
 intro gR lE
 have lI:sW w U cM [.blk dN 169 B3,.blk aJ 104 B2,.blk ax 104 B2,.blk aO 78 B1,.blk b7 28 B0] gR:=lE
 refine zg ?_
 cases dt
 exact zL ⟨rfl,⟨cM,dN,rfl,rfl,rfl,rfl,rfl,ms,(lI.pick [1,2,3,4,0] _ (by decide) rfl)⟩⟩
 refine zT (cs:=[.nilFunc,.nilFunc,.nilFunc]) Z Z Z Z Z yG Z bZ ?_
 intro gW cY lU
 refine zE 0 Z Z Z Z (zD Z Z yW zK Z) lU (fun hs=>wBG gW U hs eh) (.inr Z) ?_
 rintro cP mM oW ic mx l5 ⟨rfl,rfl⟩
 have l6:sW w U cP [.blk cY 169 [.nilFunc,.nilFunc,.nilFunc],.blk aJ 104 B2,.blk ax 104 B2,.blk aO 78 B1,.blk b7 28 B0] ic:=l5
 refine zY rfl rfl rfl rfl (fun _=>(yj (i:=0) rfl rfl (congrArg (jV) c1) Zu ZZ (by decide) (by decide) (wCr yf ZZ rfl))) (zV (j:=0) (vs:=B3) rfl rfl rfl rfl l6 rfl rfl rfl rfl ZZ (zA rfl) rfl rfl rfl ?_)
 intro ie l7
 have l8:sW w U cP [.blk cY 169 B3,.blk aJ 104 B2,.blk ax 104 B2,.blk aO 78 B1,.blk b7 28 B0] ie:=l7
 refine zg ?_
 cases dt
 exact zL ⟨rfl,⟨cP,cY,rfl,rfl,rfl,rfl,rfl,mx,(l8.pick [1,2,3,4,0] _ (by decide) rfl)⟩⟩
 rintro pd ig ⟨fQ,bi,dY,df,bx,bt,dZ,cw,cf⟩
 refine sR (wDe (.fx 4 (wLB gBw) .stop)) Z (oR Z (zJ Z dZ Zz Z Try.sizeOf166) (oL Z (cf.ldB (j:=4) Z Z Z Try.isAgg166 (v:=.func (.func 109) #[] #[]) Z) (oL Z (cf.ldBA (j:=3) Z Z dY ze zZ (vs:=B0) Z Z) (oL Z (cf.ldBA (j:=2) Z Z df Zt ZU (vs:=B1) Z Z) ?_))))
 have eD:=cg.le cw
 have eE:=ci.le cw
 have eG:=cj.le cw
 have eH:=cm.le cw
 have q:=bnd eW
 obtain ⟨⟨cD,cE⟩,iW,fu⟩:=q
 try dsimp only at fu
 refine zE 0 Z Z Z Z (zD Z Z Try.call109 (zB Z (zB Z zK)) Z) cf (fun hs=>wGt p0 a9 bd ba be bb bf bc bg p1 ig fQ hs eD eE eG eH iW) (.inr Z) ?_
 rintro bP mP oY ii cn iX ⟨rfl,rfl⟩
 have iY:sW w U bP [.blk aJ 104 B2,.blk ax 104 B2,.blk aO 78 B1,.blk b7 28 B0,.blk bi 169 B3] ii:=iX
 refine oM Z Z (oR Z (zP Z Z (v:=.agg #[jV cD.skier,jV cD.mat]) Z) (oR Z (zP Z Z (v:=.agg #[jV cE.skier,jV cE.mat]) Z) ?_))
 let B4:List Value:=[jV cD.skier,jV cD.mat]
 refine zV (j:=1) (vs:=B4) Z Z Z Z iY Z bx Z Z zI (zA Z) Z Z Z ?_
 intro fR iZ
 have i2:sW w U bP [.blk aJ 104 B2,.blk ax 104 B4,.blk aO 78 B1,.blk b7 28 B0,.blk bi 169 B3] fR:=iZ
 let B5:List Value:=[jV cE.skier,jV cE.mat]
 refine zV (j:=0) (vs:=B5) Z Z Z Z i2 Z bt Z Z zI (zA Z) Z Z Z ?_
 intro dB i3
 have bR:sW w U bP [.blk aJ 104 B5,.blk ax 104 B4,.blk aO 78 B1,.blk b7 28 B0,.blk bi 169 B3] dB:=i3
 refine eN (sR (wDe (.fx 4 (wGi (.nil)) .stop)) Z (oR Z (zJ Z dZ Zz Z Try.sizeOf167) (oL Z (bR.ldB (j:=4) Z Z Z Try.isAgg167 (v:=.func (.func 110) #[] #[]) Z) (oL Z (bR.ldBA (j:=3) Z Z dY ze zZ (vs:=B0) Z Z) (oL Z (bR.ldBA (j:=2) Z Z df Zt ZU (vs:=B1) Z Z) ?_)))))
 have iz:=eD.le cn
 have iA:=eE.le cn
 have iB:=eG.le cn
 have iC:=eH.le cn
 have q:=bnd fu
 obtain ⟨⟨dw,fB⟩,iD,eM⟩:=q
 try dsimp only at eM
 refine zE 0 Z Z Z Z (zD Z Z Try.call110 (zB Z (zB Z zK)) Z) bR (fun hs=>wGu p0 a9 bd ba be bb bf bc bg p1 dB bP hs iz iA iB iC iD) (.inr Z) ?_
 rintro bm my oB cQ oj i5 ⟨rfl,rfl⟩
 have bD:sW w U bm [.blk aJ 104 B5,.blk ax 104 B4,.blk aO 78 B1,.blk b7 28 B0,.blk bi 169 B3] cQ:=i5
 refine oM Z Z (oR Z (zP Z Z (v:=jV dw) Z) (oR Z (zP Z Z (v:=jV fB) Z) (oA Z Z (oA Z Z (eN (zM (sR fL3 Z (oR Z (zJ Z df zm Z yC) (oL Z (bD.ldB (j:=2) Z Z Z yK (v:=.bool p1.Up) Z) (oR Z (ZT Z Z) (eN (ifc eM ?_ ?_))))))))))))
 intro cZ mb
 refine zn (nC cZ.out) (kN ?_)
 have q:=bnd mb
 obtain ⟨⟨⟩,fw,eO⟩:=q
 try dsimp only at eO
 refine yN (fun σ_ w_=>∃ (U_:PHeap),σ_ 4=.pointer (some ⟨ax,0,none⟩)/\σ_ 5=.pointer (some ⟨aJ,0,none⟩)/\σ_ 6=jV dw/\PHeap.Le bm U_/\sW w U U_ [.blk aJ 104 B5,.blk ax 104 B4,.blk aO 78 B1,.blk b7 28 B0,.blk bi 169 B3] w_) ?_ ?_
 refine ZA ZB [1,2,3,0,0,3] gDe (by kernel_rfl) ?_
 have bE:=bD.drew
 generalize hw_W136:({ cQ with drawn:=cQ.drawn + 1 }:World)=mR at bE ⊢
 refine oL Z (bE.ldBA (j:=1) Z Z bx zi zI (vs:=B4) Z Z) (oM Z Z (zk ?_ ?_))
 refine ZY Z Z Z Z (bE.ldBA (j:=0) Z Z bt zi zI (vs:=B5) Z Z) (zV (j:=1) (vs:=B4) Z Z Z Z bE Z bx Z Z zI (zA Z) Z Z Z ?_)
 intro fS i6
 have i7:sW w U bm [.blk aJ 104 B5,.blk ax 104 B4,.blk aO 78 B1,.blk b7 28 B0,.blk bi 169 B3] fS:=i6
 refine zV (j:=0) (vs:=B5) Z Z Z Z i7 Z bt Z Z zI (zA Z) Z Z Z ?_
 intro fT i8
 have i9:sW w U bm [.blk aJ 104 B5,.blk ax 104 B4,.blk aO 78 B1,.blk b7 28 B0,.blk bi 169 B3] fT:=i8
 refine oA Z Z (zg ?_)
 cases fw
 exact zL ⟨Z,⟨bm,bx,bt,Z,(zW _),i9⟩⟩
 refine zV (j:=1) (vs:=B4) Z Z Z Z bE Z bx Z Z zI (zA Z) Z Z Z ?_
 intro fU ja
 have eI:sW w U bm [.blk aJ 104 B5,.blk ax 104 B4,.blk aO 78 B1,.blk b7 28 B0,.blk bi 169 B3] fU:=ja
 refine ZY Z Z Z Z (eI.ldBA (j:=0) Z Z bt zi zI (vs:=B5) Z Z) (zV (j:=0) (vs:=B5) Z Z Z Z eI Z bt Z Z zI (zA Z) Z Z Z ?_)
 intro fW jb
 have jc:sW w U bm [.blk aJ 104 B5,.blk ax 104 B4,.blk aO 78 B1,.blk b7 28 B0,.blk bi 169 B3] fW:=jb
 refine oA Z Z (zg ?_)
 cases fw
 exact zL ⟨Z,⟨bm,bx,bt,Z,(zW _),jc⟩⟩
 rintro oZ mT ⟨fH,ik,il,im,om,dg⟩
 refine zU ?_
 cases eO
 exact ⟨rfl,_,(wCT (rs:=[.cell 4 104,.cell 5 104,.tmp 6]) (vs:=[.agg B4.toArray,.agg B5.toArray,jV dw]) ⟨⟨_,ik,(wAy zi zI (dg.blkAt (k:=1) rfl) (vs:=B4) rfl rfl)⟩,⟨⟨_,il,(wAy zi zI (dg.blkAt (k:=0) rfl) (vs:=B5) rfl rfl)⟩,⟨im,trivial⟩⟩⟩ rfl),fH,_,(dg.pick [] _ (by decide) rfl),rfl,rfl⟩
 intro cZ mc
 refine ZD (nF (cZ.out)) (sR (wCa gCf) Z (oL Z (bD.ldBA (j:=0) Z Z bt zi zI (vs:=B5) Z Z) (oL Z (bD.ldBA (j:=1) Z Z bx zi zI (vs:=B4) Z Z) (oM Z Z (zV (j:=1) (vs:=B5) Z Z Z Z bD Z bx Z Z zI (zA Z) Z Z Z ?_)))))
 intro fY jd
 have jf:sW w U bm [.blk aJ 104 B5,.blk ax 104 B5,.blk aO 78 B1,.blk b7 28 B0,.blk bi 169 B3] fY:=jd
 refine zV (j:=0) (vs:=B4) Z Z Z Z jf Z bt Z Z zI (zA Z) Z Z Z ?_
 intro fZ jg
 have dh:sW w U bm [.blk aJ 104 B4,.blk ax 104 B5,.blk aO 78 B1,.blk b7 28 B0,.blk bi 169 B3] fZ:=jg
 refine oA Z Z (eN (zU (zN ?_)))
 cases mc
 exact ⟨rfl,_,(wCT (rs:=[.cell 4 104,.cell 5 104,.tmp 6]) (vs:=[.agg B5.toArray,.agg B4.toArray,jV fB]) ⟨⟨_,bx,(wAy zi zI (dh.blkAt (k:=1) rfl) (vs:=B5) rfl rfl)⟩,⟨⟨_,bt,(wAy zi zI (dh.blkAt (k:=0) rfl) (vs:=B4) rfl rfl)⟩,⟨rfl,trivial⟩⟩⟩ rfl),bm,_,(dh.pick [] _ (by decide) rfl),rfl,rfl⟩
 by_cases c2:p1.Kind=1
 have eQ:=hm;rw [if_neg c1,if_pos c2] at eQ
 refine sR gCu Z ?_
 let B6:List Value:=[.slice a9 p0.Starts.length bd,.slice ba p0.Splits.length be,.slice bb p0.Clocks.length bf,.slice bc p0.Readings.length bg]
 refine zu (cs:=B6) rfl rfl rfl rfl rfl rfl (by rfl) hS ?_
 intro mU aP jh
 let B7:List Value:=[jV p1.Kind,jV p1.Skier,jV p1.Index,.bool p1.Up]
 refine zu (cs:=B7) rfl rfl rfl rfl rfl rfl (by rfl) jh ?_
 intro mV aQ ji
 let B8:List Value:=[jV 0,jV 0]
 refine zT (cs:=B8) Z Z Z Z Z za Z ji ?_
 intro mW ay jj
 refine zT (cs:=B8) Z Z Z Z Z za Z jj ?_
 intro dC az jk
 refine oA Z Z (eN ?_)
 have q:=bnd eQ
 obtain ⟨⟨⟩,mj,eU⟩:=q
 try dsimp only at eU
 let B9:List Value:=[.func (.func 111) #[] #[],.func (.func 112) #[] #[],.func (.func 113) #[] #[]]
 refine yN (fun σ_ w_=>∃ (U_:PHeap) (bh:Nat),σ_ 2=.pointer (some ⟨aP,0,none⟩)/\σ_ 3=.pointer (some ⟨aQ,0,none⟩)/\σ_ 4=.pointer (some ⟨ay,0,none⟩)/\σ_ 5=.pointer (some ⟨az,0,none⟩)/\σ_ 7=.pointer (some ⟨bh,0,none⟩)/\PHeap.Le U U_/\sW w U U_ [.blk az 104 B8,.blk ay 104 B8,.blk aQ 78 B7,.blk aP 28 B6,.blk bh 169 B9] w_) ?_ ?_
 have q:=bnd mj
 obtain ⟨⟨⟩,d7,dq⟩:=q
 try dsimp only at dq
 refine ZA ZB [2,3,1,3,2,0] gDd (by kernel_rfl) ?_
 have bS:=jk.drew
 generalize hw_W204:({ dC with drawn:=dC.drawn + 1 }:World)=f4 at bS ⊢
 refine oR Z (zJ Z Z zm Z yQ) (oL Z (bS.ldB (j:=2) Z Z Z yV (v:=jV p1.Kind) Z) (zk ?_ ?_))
 refine zE 0 Z Z Z Z (zD Z Z yW zK Z) bS (fun hs=>wBG f4 U hs d7) (.inr Z) ?_
 rintro cI mz oC f5 mo jm ⟨rfl,rfl⟩
 have jo:sW w U cI [.blk az 104 B8,.blk ay 104 B8,.blk aQ 78 B7,.blk aP 28 B6] f5:=jm
 refine zY rfl rfl rfl rfl (fun _=>(yj (i:=1) rfl rfl (congrArg (jV) c2) Zu ZZ (by decide) (by decide) (wCr yf ZZ rfl))) (zT (cs:=[.nilFunc,.nilFunc,.nilFunc]) rfl rfl rfl rfl rfl yG rfl jo ?_)
 intro mX dK jp
 refine zV (j:=0) (vs:=B9) Z Z Z Z jp Z Z Z Z ZZ (zA Z) Z Z Z ?_
 intro f6 jq
 have jr:sW w U cI [.blk dK 169 B9,.blk az 104 B8,.blk ay 104 B8,.blk aQ 78 B7,.blk aP 28 B6] f6:=jq
 refine zg ?_
 cases dq
 exact zL ⟨rfl,⟨cI,dK,rfl,rfl,rfl,rfl,rfl,mo,(jr.pick [1,2,3,4,0] _ (by decide) rfl)⟩⟩
 refine zT (cs:=[.nilFunc,.nilFunc,.nilFunc]) Z Z Z Z Z yG Z bS ?_
 intro f8 cV jt
 refine zE 0 Z Z Z Z (zD Z Z yW zK Z) jt (fun hs=>wBG f8 U hs d7) (.inr Z) ?_
 rintro cJ mA oD f9 mp ju ⟨rfl,rfl⟩
 have jv:sW w U cJ [.blk cV 169 [.nilFunc,.nilFunc,.nilFunc],.blk az 104 B8,.blk ay 104 B8,.blk aQ 78 B7,.blk aP 28 B6] f9:=ju
 refine zY rfl rfl rfl rfl (fun _=>(yj (i:=1) rfl rfl (congrArg (jV) c2) Zu ZZ (by decide) (by decide) (wCr yf ZZ rfl))) (zV (j:=0) (vs:=B9) rfl rfl rfl rfl jv rfl rfl rfl rfl ZZ (zA rfl) rfl rfl rfl ?_)
 intro ga jw
 have jx:sW w U cJ [.blk cV 169 B9,.blk az 104 B8,.blk ay 104 B8,.blk aQ 78 B7,.blk aP 28 B6] ga:=jw
 refine zg ?_
 cases dq
 exact zL ⟨rfl,⟨cJ,cV,rfl,rfl,rfl,rfl,rfl,mp,(jx.pick [1,2,3,4,0] _ (by decide) rfl)⟩⟩
 rintro o3 gb ⟨fI,bh,dS,db,bu,bq,dT,co,bU⟩
 refine sR (wDe (.fx 4 (wLB gBw) .stop)) Z (oR Z (zJ Z dT Zz Z Try.sizeOf166) (oL Z (bU.ldB (j:=4) Z Z Z Try.isAgg166 (v:=.func (.func 112) #[] #[]) Z) (oL Z (bU.ldBA (j:=3) Z Z dS ze zZ (vs:=B6) Z Z) (oL Z (bU.ldBA (j:=2) Z Z db Zt ZU (vs:=B7) Z Z) ?_))))
 have d9:=cg.le co
 have ec:=ci.le co
 have ef:=cj.le co
 have eg:=cm.le co
 have q:=bnd eU
 obtain ⟨⟨cx,cy⟩,iE,eV⟩:=q
 try dsimp only at eV
 refine zE 0 Z Z Z Z (zD Z Z Try.call112 (zB Z (zB Z zK)) Z) bU (fun hs=>wGw p0 a9 bd ba be bb bf bc bg p1 gb fI hs d9 ec ef eg iE) (.inr Z) ?_
 rintro bL mB oE ge cp jy ⟨rfl,rfl⟩
 have jz:sW w U bL [.blk az 104 B8,.blk ay 104 B8,.blk aQ 78 B7,.blk aP 28 B6,.blk bh 169 B9] ge:=jy
 refine oM Z Z (oR Z (zP Z Z (v:=.agg #[jV cx.skier,jV cx.mat]) Z) (oR Z (zP Z Z (v:=.agg #[jV cy.skier,jV cy.mat]) Z) ?_))
 let aj:List Value:=[jV cx.skier,jV cx.mat]
 refine zV (j:=1) (vs:=aj) Z Z Z Z jz Z bu Z Z zI (zA Z) Z Z Z ?_
 intro gf jA
 have jB:sW w U bL [.blk az 104 B8,.blk ay 104 aj,.blk aQ 78 B7,.blk aP 28 B6,.blk bh 169 B9] gf:=jA
 let ac:List Value:=[jV cy.skier,jV cy.mat]
 refine zV (j:=0) (vs:=ac) Z Z Z Z jB Z bq Z Z zI (zA Z) Z Z Z ?_
 intro dE jC
 have bV:sW w U bL [.blk az 104 ac,.blk ay 104 aj,.blk aQ 78 B7,.blk aP 28 B6,.blk bh 169 B9] dE:=jC
 refine eN (sR (wDe (.fx 4 (wGi (.nil)) .stop)) Z (oR Z (zJ Z dT Zz Z Try.sizeOf167) (oL Z (bV.ldB (j:=4) Z Z Z Try.isAgg167 (v:=.func (.func 113) #[] #[]) Z) (oL Z (bV.ldBA (j:=3) Z Z dS ze zZ (vs:=B6) Z Z) (oL Z (bV.ldBA (j:=2) Z Z db Zt ZU (vs:=B7) Z Z) ?_)))))
 have iF:=d9.le cp
 have iG:=ec.le cp
 have iH:=ef.le cp
 have iI:=eg.le cp
 have q:=bnd eV
 obtain ⟨⟨dx,fC⟩,iJ,eX⟩:=q
 try dsimp only at eX
 refine zE 0 Z Z Z Z (zD Z Z Try.call113 (zB Z (zB Z zK)) Z) bV (fun hs=>wGx p0 a9 bd ba be bb bf bc bg p1 dE bL hs iF iG iH iI iJ) (.inr Z) ?_
 rintro bn mC oG cR oq jD ⟨rfl,rfl⟩
 have bF:sW w U bn [.blk az 104 ac,.blk ay 104 aj,.blk aQ 78 B7,.blk aP 28 B6,.blk bh 169 B9] cR:=jD
 refine oM Z Z (oR Z (zP Z Z (v:=jV dx) Z) (oR Z (zP Z Z (v:=jV fC) Z) (oA Z Z (oA Z Z (eN (zM (sR fL3 Z (oR Z (zJ Z db zm Z yC) (oL Z (bF.ldB (j:=2) Z Z Z yK (v:=.bool p1.Up) Z) (oR Z (ZT Z Z) (eN (ifc eX ?_ ?_))))))))))))
 intro c6 md
 refine zn (nC c6.out) (kN ?_)
 have q:=bnd md
 obtain ⟨⟨⟩,fy,eY⟩:=q
 try dsimp only at eY
 refine yN (fun σ_ w_=>∃ (U_:PHeap),σ_ 4=.pointer (some ⟨ay,0,none⟩)/\σ_ 5=.pointer (some ⟨az,0,none⟩)/\σ_ 6=jV dx/\PHeap.Le bn U_/\sW w U U_ [.blk az 104 ac,.blk ay 104 aj,.blk aQ 78 B7,.blk aP 28 B6,.blk bh 169 B9] w_) ?_ ?_
 refine ZA ZB [1,2,3,0,0,3] gDe (by kernel_rfl) ?_
 have bG:=bF.drew
 generalize hw_W295:({ cR with drawn:=cR.drawn + 1 }:World)=mY at bG ⊢
 refine oL Z (bG.ldBA (j:=1) Z Z bu zi zI (vs:=aj) Z Z) (oM Z Z (zk ?_ ?_))
 refine ZY Z Z Z Z (bG.ldBA (j:=0) Z Z bq zi zI (vs:=ac) Z Z) (zV (j:=1) (vs:=aj) Z Z Z Z bG Z bu Z Z zI (zA Z) Z Z Z ?_)
 intro gg jE
 have jF:sW w U bn [.blk az 104 ac,.blk ay 104 aj,.blk aQ 78 B7,.blk aP 28 B6,.blk bh 169 B9] gg:=jE
 refine zV (j:=0) (vs:=ac) Z Z Z Z jF Z bq Z Z zI (zA Z) Z Z Z ?_
 intro gh jG
 have jH:sW w U bn [.blk az 104 ac,.blk ay 104 aj,.blk aQ 78 B7,.blk aP 28 B6,.blk bh 169 B9] gh:=jG
 refine oA Z Z (zg ?_)
 cases fy
 exact zL ⟨Z,⟨bn,bu,bq,Z,(zW _),jH⟩⟩
 refine zV (j:=1) (vs:=aj) Z Z Z Z bG Z bu Z Z zI (zA Z) Z Z Z ?_
 intro gi jI
 have eJ:sW w U bn [.blk az 104 ac,.blk ay 104 aj,.blk aQ 78 B7,.blk aP 28 B6,.blk bh 169 B9] gi:=jI
 refine ZY Z Z Z Z (eJ.ldBA (j:=0) Z Z bq zi zI (vs:=ac) Z Z) (zV (j:=0) (vs:=ac) Z Z Z Z eJ Z bq Z Z zI (zA Z) Z Z Z ?_)
 intro gj jJ
 have jK:sW w U bn [.blk az 104 ac,.blk ay 104 aj,.blk aQ 78 B7,.blk aP 28 B6,.blk bh 169 B9] gj:=jJ
 refine oA Z Z (zg ?_)
 cases fy
 exact zL ⟨Z,⟨bn,bu,bq,Z,(zW _),jK⟩⟩
 rintro o5 mZ ⟨fJ,io,ip,iq,ot,di⟩
 refine zU ?_
 cases eY
 exact ⟨rfl,_,(wCT (rs:=[.cell 4 104,.cell 5 104,.tmp 6]) (vs:=[.agg aj.toArray,.agg ac.toArray,jV dx]) ⟨⟨_,io,(wAy zi zI (di.blkAt (k:=1) rfl) (vs:=aj) rfl rfl)⟩,⟨⟨_,ip,(wAy zi zI (di.blkAt (k:=0) rfl) (vs:=ac) rfl rfl)⟩,⟨iq,trivial⟩⟩⟩ rfl),fJ,_,(di.pick [] _ (by decide) rfl),rfl,rfl⟩
 intro c6 me
 refine ZD (nF (c6.out)) (sR (wCa gCf) Z (oL Z (bF.ldBA (j:=0) Z Z bq zi zI (vs:=ac) Z Z) (oL Z (bF.ldBA (j:=1) Z Z bu zi zI (vs:=aj) Z Z) (oM Z Z (zV (j:=1) (vs:=ac) Z Z Z Z bF Z bu Z Z zI (zA Z) Z Z Z ?_)))))
 intro gp jL
 have jM:sW w U bn [.blk az 104 ac,.blk ay 104 ac,.blk aQ 78 B7,.blk aP 28 B6,.blk bh 169 B9] gp:=jL
 refine zV (j:=0) (vs:=aj) Z Z Z Z jM Z bq Z Z zI (zA Z) Z Z Z ?_
 intro gq jN
 have dk:sW w U bn [.blk az 104 aj,.blk ay 104 ac,.blk aQ 78 B7,.blk aP 28 B6,.blk bh 169 B9] gq:=jN
 refine oA Z Z (eN (zU (zN ?_)))
 cases me
 exact ⟨rfl,_,(wCT (rs:=[.cell 4 104,.cell 5 104,.tmp 6]) (vs:=[.agg ac.toArray,.agg aj.toArray,jV fC]) ⟨⟨_,bu,(wAy zi zI (dk.blkAt (k:=1) rfl) (vs:=ac) rfl rfl)⟩,⟨⟨_,bq,(wAy zi zI (dk.blkAt (k:=0) rfl) (vs:=aj) rfl rfl)⟩,⟨rfl,trivial⟩⟩⟩ rfl),bn,_,(dk.pick [] _ (by decide) rfl),rfl,rfl⟩
 by_cases c3:p1.Kind=2
 have eZ:=hm;rw [if_neg c1,if_neg c2,if_pos c3] at eZ
 refine sR gCu Z ?_
 let ak:List Value:=[.slice a9 p0.Starts.length bd,.slice ba p0.Splits.length be,.slice bb p0.Clocks.length bf,.slice bc p0.Readings.length bg]
 refine zu (cs:=ak) rfl rfl rfl rfl rfl rfl (by rfl) hS ?_
 intro m4 aR jO
 let am:List Value:=[jV p1.Kind,jV p1.Skier,jV p1.Index,.bool p1.Up]
 refine zu (cs:=am) rfl rfl rfl rfl rfl rfl (by rfl) jO ?_
 intro m5 aS jP
 let a5:List Value:=[jV 0,jV 0]
 refine zT (cs:=a5) Z Z Z Z Z za Z jP ?_
 intro m6 aK jQ
 refine zT (cs:=a5) Z Z Z Z Z za Z jQ ?_
 intro dF aL jR
 refine oA Z Z (eN ?_)
 have q:=bnd eZ
 obtain ⟨⟨⟩,mm,fb⟩:=q
 try dsimp only at fb
 let aW:List Value:=[.func (.func 114) #[] #[],.func (.func 115) #[] #[],.func (.func 116) #[] #[]]
 refine yN (fun σ_ w_=>∃ (U_:PHeap) (bj:Nat),σ_ 2=.pointer (some ⟨aR,0,none⟩)/\σ_ 3=.pointer (some ⟨aS,0,none⟩)/\σ_ 4=.pointer (some ⟨aK,0,none⟩)/\σ_ 5=.pointer (some ⟨aL,0,none⟩)/\σ_ 7=.pointer (some ⟨bj,0,none⟩)/\PHeap.Le U U_/\sW w U U_ [.blk aL 104 a5,.blk aK 104 a5,.blk aS 78 am,.blk aR 28 ak,.blk bj 169 aW] w_) ?_ ?_
 have q:=bnd mm
 obtain ⟨⟨⟩,ej,dr⟩:=q
 try dsimp only at dr
 refine ZA ZB [2,3,1,3,2,0] gDd (by kernel_rfl) ?_
 have bW:=jR.drew
 generalize hw_W363:({ dF with drawn:=dF.drawn + 1 }:World)=gt at bW ⊢
 refine oR Z (zJ Z Z zm Z yQ) (oL Z (bW.ldB (j:=2) Z Z Z yV (v:=jV p1.Kind) Z) (zk ?_ ?_))
 refine zE 0 Z Z Z Z (zD Z Z yW zK Z) bW (fun hs=>wBG gt U hs ej) (.inr Z) ?_
 rintro cK mD oH gu mq jS ⟨rfl,rfl⟩
 have jT:sW w U cK [.blk aL 104 a5,.blk aK 104 a5,.blk aS 78 am,.blk aR 28 ak] gu:=jS
 refine zY rfl rfl rfl rfl (fun _=>(yj (i:=2) rfl rfl (congrArg (jV) c3) Zu ZZ (by decide) (by decide) (wCr yf ZZ rfl))) (zT (cs:=[.nilFunc,.nilFunc,.nilFunc]) rfl rfl rfl rfl rfl yG rfl jT ?_)
 intro m7 dL jU
 refine zV (j:=0) (vs:=aW) Z Z Z Z jU Z Z Z Z ZZ (zA Z) Z Z Z ?_
 intro gv jW
 have jX:sW w U cK [.blk dL 169 aW,.blk aL 104 a5,.blk aK 104 a5,.blk aS 78 am,.blk aR 28 ak] gv:=jW
 refine zg ?_
 cases dr
 exact zL ⟨rfl,⟨cK,dL,rfl,rfl,rfl,rfl,rfl,mq,(jX.pick [1,2,3,4,0] _ (by decide) rfl)⟩⟩
 refine zT (cs:=[.nilFunc,.nilFunc,.nilFunc]) Z Z Z Z Z yG Z bW ?_
 intro gw cW jY
 refine zE 0 Z Z Z Z (zD Z Z yW zK Z) jY (fun hs=>wBG gw U hs ej) (.inr Z) ?_
 rintro cL mE oI gx mr jZ ⟨rfl,rfl⟩
 have j0:sW w U cL [.blk cW 169 [.nilFunc,.nilFunc,.nilFunc],.blk aL 104 a5,.blk aK 104 a5,.blk aS 78 am,.blk aR 28 ak] gx:=jZ
 refine zY rfl rfl rfl rfl (fun _=>(yj (i:=2) rfl rfl (congrArg (jV) c3) Zu ZZ (by decide) (by decide) (wCr yf ZZ rfl))) (zV (j:=0) (vs:=aW) rfl rfl rfl rfl j0 rfl rfl rfl rfl ZZ (zA rfl) rfl rfl rfl ?_)
 intro gy j1
 have j2:sW w U cL [.blk cW 169 aW,.blk aL 104 a5,.blk aK 104 a5,.blk aS 78 am,.blk aR 28 ak] gy:=j1
 refine zg ?_
 cases dr
 exact zL ⟨rfl,⟨cL,cW,rfl,rfl,rfl,rfl,rfl,mr,(j2.pick [1,2,3,4,0] _ (by decide) rfl)⟩⟩
 rintro o6 gz ⟨fK,bj,dU,dd,bv,br,dV,cq,bX⟩
 refine sR (wDe (.fx 4 (wLB gBw) .stop)) Z (oR Z (zJ Z dV Zz Z Try.sizeOf166) (oL Z (bX.ldB (j:=4) Z Z Z Try.isAgg166 (v:=.func (.func 115) #[] #[]) Z) (oL Z (bX.ldBA (j:=3) Z Z dU ze zZ (vs:=ak) Z Z) (oL Z (bX.ldBA (j:=2) Z Z dd Zt ZU (vs:=am) Z Z) ?_))))
 have ek:=cg.le cq
 have en:=ci.le cq
 have eo:=cj.le cq
 have ep:=cm.le cq
 have q:=bnd fb
 obtain ⟨⟨cz,cA⟩,iK,fc⟩:=q
 try dsimp only at fc
 refine zE 0 Z Z Z Z (zD Z Z Try.call115 (zB Z (zB Z zK)) Z) bX (fun hs=>wGz p0 a9 bd ba be bb bf bc bg p1 gz fK hs ek en eo ep iK) (.inr Z) ?_
 rintro bM mF oJ gA cr j3 ⟨rfl,rfl⟩
 have j4:sW w U bM [.blk aL 104 a5,.blk aK 104 a5,.blk aS 78 am,.blk aR 28 ak,.blk bj 169 aW] gA:=j3
 refine oM Z Z (oR Z (zP Z Z (v:=.agg #[jV cz.skier,jV cz.mat]) Z) (oR Z (zP Z Z (v:=.agg #[jV cA.skier,jV cA.mat]) Z) ?_))
 let an:List Value:=[jV cz.skier,jV cz.mat]
 refine zV (j:=1) (vs:=an) Z Z Z Z j4 Z bv Z Z zI (zA Z) Z Z Z ?_
 intro gB j5
 have j6:sW w U bM [.blk aL 104 a5,.blk aK 104 an,.blk aS 78 am,.blk aR 28 ak,.blk bj 169 aW] gB:=j5
 let ae:List Value:=[jV cA.skier,jV cA.mat]
 refine zV (j:=0) (vs:=ae) Z Z Z Z j6 Z br Z Z zI (zA Z) Z Z Z ?_
 intro dG j7
 have bY:sW w U bM [.blk aL 104 ae,.blk aK 104 an,.blk aS 78 am,.blk aR 28 ak,.blk bj 169 aW] dG:=j7
 refine eN (sR (wDe (.fx 4 (wGi (.nil)) .stop)) Z (oR Z (zJ Z dV Zz Z Try.sizeOf167) (oL Z (bY.ldB (j:=4) Z Z Z Try.isAgg167 (v:=.func (.func 116) #[] #[]) Z) (oL Z (bY.ldBA (j:=3) Z Z dU ze zZ (vs:=ak) Z Z) (oL Z (bY.ldBA (j:=2) Z Z dd Zt ZU (vs:=am) Z Z) ?_)))))
 have iL:=ek.le cr
 have iM:=en.le cr
 have iN:=eo.le cr
 have iO:=ep.le cr
 have q:=bnd fc
 obtain ⟨⟨dz,fD⟩,iP,fd⟩:=q
 try dsimp only at fd
 refine zE 0 Z Z Z Z (zD Z Z Try.call116 (zB Z (zB Z zK)) Z) bY (fun hs=>wHA p0 a9 bd ba be bb bf bc bg p1 dG bM hs iL iM iN iO iP) (.inr Z) ?_
 rintro bo mG oK cS ou j8 ⟨rfl,rfl⟩
 have bH:sW w U bo [.blk aL 104 ae,.blk aK 104 an,.blk aS 78 am,.blk aR 28 ak,.blk bj 169 aW] cS:=j8
 refine oM Z Z (oR Z (zP Z Z (v:=jV dz) Z) (oR Z (zP Z Z (v:=jV fD) Z) (oA Z Z (oA Z Z (eN (zM (sR fL3 Z (oR Z (zJ Z dd zm Z yC) (oL Z (bH.ldB (j:=2) Z Z Z yK (v:=.bool p1.Up) Z) (oR Z (ZT Z Z) (eN (ifc fd ?_ ?_))))))))))))
 intro c8 mf
 refine zn (nC c8.out) (kN ?_)
 have q:=bnd mf
 obtain ⟨⟨⟩,fz,ff⟩:=q
 try dsimp only at ff
 refine yN (fun σ_ w_=>∃ (U_:PHeap),σ_ 4=.pointer (some ⟨aK,0,none⟩)/\σ_ 5=.pointer (some ⟨aL,0,none⟩)/\σ_ 6=jV dz/\PHeap.Le bo U_/\sW w U U_ [.blk aL 104 ae,.blk aK 104 an,.blk aS 78 am,.blk aR 28 ak,.blk bj 169 aW] w_) ?_ ?_
 refine ZA ZB [1,2,3,0,0,3] gDe (by kernel_rfl) ?_
 have bI:=bH.drew
 generalize hw_W454:({ cS with drawn:=cS.drawn + 1 }:World)=m8 at bI ⊢
 refine oL Z (bI.ldBA (j:=1) Z Z bv zi zI (vs:=an) Z Z) (oM Z Z (zk ?_ ?_))
 refine ZY Z Z Z Z (bI.ldBA (j:=0) Z Z br zi zI (vs:=ae) Z Z) (zV (j:=1) (vs:=an) Z Z Z Z bI Z bv Z Z zI (zA Z) Z Z Z ?_)
 intro gD j9
 have k3:sW w U bo [.blk aL 104 ae,.blk aK 104 an,.blk aS 78 am,.blk aR 28 ak,.blk bj 169 aW] gD:=j9
 refine zV (j:=0) (vs:=ae) Z Z Z Z k3 Z br Z Z zI (zA Z) Z Z Z ?_
 intro gE k5
 have k6:sW w U bo [.blk aL 104 ae,.blk aK 104 an,.blk aS 78 am,.blk aR 28 ak,.blk bj 169 aW] gE:=k5
 refine oA Z Z (zg ?_)
 cases fz
 exact zL ⟨Z,⟨bo,bv,br,Z,(zW _),k6⟩⟩
 refine zV (j:=1) (vs:=an) Z Z Z Z bI Z bv Z Z zI (zA Z) Z Z Z ?_
 intro gF k7
 have eK:sW w U bo [.blk aL 104 ae,.blk aK 104 an,.blk aS 78 am,.blk aR 28 ak,.blk bj 169 aW] gF:=k7
 refine ZY Z Z Z Z (eK.ldBA (j:=0) Z Z br zi zI (vs:=ae) Z Z) (zV (j:=0) (vs:=ae) Z Z Z Z eK Z br Z Z zI (zA Z) Z Z Z ?_)
 intro gG k8
 have k9:sW w U bo [.blk aL 104 ae,.blk aK 104 an,.blk aS 78 am,.blk aR 28 ak,.blk bj 169 aW] gG:=k8
 refine oA Z Z (zg ?_)
 cases fz
 exact zL ⟨Z,⟨bo,bv,br,Z,(zW _),k9⟩⟩
 rintro o7 m9 ⟨fL,ir,it,iu,ov,dl⟩
 refine zU ?_
 cases ff
 exact ⟨rfl,_,(wCT (rs:=[.cell 4 104,.cell 5 104,.tmp 6]) (vs:=[.agg an.toArray,.agg ae.toArray,jV dz]) ⟨⟨_,ir,(wAy zi zI (dl.blkAt (k:=1) rfl) (vs:=an) rfl rfl)⟩,⟨⟨_,it,(wAy zi zI (dl.blkAt (k:=0) rfl) (vs:=ae) rfl rfl)⟩,⟨iu,trivial⟩⟩⟩ rfl),fL,_,(dl.pick [] _ (by decide) rfl),rfl,rfl⟩
 intro c8 mg
 refine ZD (nF (c8.out)) (sR (wCa gCf) Z (oL Z (bH.ldBA (j:=0) Z Z br zi zI (vs:=ae) Z Z) (oL Z (bH.ldBA (j:=1) Z Z bv zi zI (vs:=an) Z Z) (oM Z Z (zV (j:=1) (vs:=ae) Z Z Z Z bH Z bv Z Z zI (zA Z) Z Z Z ?_)))))
 intro gH lc
 have lf:sW w U bo [.blk aL 104 ae,.blk aK 104 ae,.blk aS 78 am,.blk aR 28 ak,.blk bj 169 aW] gH:=lc
 refine zV (j:=0) (vs:=an) Z Z Z Z lf Z br Z Z zI (zA Z) Z Z Z ?_
 intro gI lg
 have dm:sW w U bo [.blk aL 104 an,.blk aK 104 ae,.blk aS 78 am,.blk aR 28 ak,.blk bj 169 aW] gI:=lg
 refine oA Z Z (eN (zU (zN ?_)))
 cases mg
 exact ⟨rfl,_,(wCT (rs:=[.cell 4 104,.cell 5 104,.tmp 6]) (vs:=[.agg ae.toArray,.agg an.toArray,jV fD]) ⟨⟨_,bv,(wAy zi zI (dm.blkAt (k:=1) rfl) (vs:=ae) rfl rfl)⟩,⟨⟨_,br,(wAy zi zI (dm.blkAt (k:=0) rfl) (vs:=an) rfl rfl)⟩,⟨rfl,trivial⟩⟩⟩ rfl),bo,_,(dm.pick [] _ (by decide) rfl),rfl,rfl⟩
 by_cases c4:p1.Kind=3
 have fg:=hm;rw [if_neg c1,if_neg c2,if_neg c3,if_pos c4] at fg
 refine sR gCu Z ?_
 let ao:List Value:=[.slice a9 p0.Starts.length bd,.slice ba p0.Splits.length be,.slice bb p0.Clocks.length bf,.slice bc p0.Readings.length bg]
 refine zu (cs:=ao) rfl rfl rfl rfl rfl rfl (by rfl) hS ?_
 intro n3 aT lh
 let ap:List Value:=[jV p1.Kind,jV p1.Skier,jV p1.Index,.bool p1.Up]
 refine zu (cs:=ap) rfl rfl rfl rfl rfl rfl (by rfl) lh ?_
 intro n4 aU li
 let a7:List Value:=[jV 0,jV 0]
 refine zT (cs:=a7) Z Z Z Z Z za Z li ?_
 intro n5 aM lj
 refine zT (cs:=a7) Z Z Z Z Z za Z lj ?_
 intro dH aN lk
 refine oA Z Z (eN ?_)
 have q:=bnd fg
 obtain ⟨⟨⟩,mn,fj⟩:=q
 try dsimp only at fj
 let aX:List Value:=[.func (.func 117) #[] #[],.func (.func 118) #[] #[],.func (.func 119) #[] #[]]
 refine yN (fun σ_ w_=>∃ (U_:PHeap) (bk:Nat),σ_ 2=.pointer (some ⟨aT,0,none⟩)/\σ_ 3=.pointer (some ⟨aU,0,none⟩)/\σ_ 4=.pointer (some ⟨aM,0,none⟩)/\σ_ 5=.pointer (some ⟨aN,0,none⟩)/\σ_ 7=.pointer (some ⟨bk,0,none⟩)/\PHeap.Le U U_/\sW w U U_ [.blk aN 104 a7,.blk aM 104 a7,.blk aU 78 ap,.blk aT 28 ao,.blk bk 169 aX] w_) ?_ ?_
 have q:=bnd mn
 obtain ⟨⟨⟩,er,du⟩:=q
 try dsimp only at du
 refine ZA ZB [2,3,1,3,2,0] gDd (by kernel_rfl) ?_
 have ca:=lk.drew
 generalize hw_W522:({ dH with drawn:=dH.drawn + 1 }:World)=gK at ca ⊢
 refine oR Z (zJ Z Z zm Z yQ) (oL Z (ca.ldB (j:=2) Z Z Z yV (v:=jV p1.Kind) Z) (zk ?_ ?_))
 refine zE 0 Z Z Z Z (zD Z Z yW zK Z) ca (fun hs=>wBG gK U hs er) (.inr Z) ?_
 rintro cN mI oP gL mu lp ⟨rfl,rfl⟩
 have lq:sW w U cN [.blk aN 104 a7,.blk aM 104 a7,.blk aU 78 ap,.blk aT 28 ao] gL:=lp
 refine zY rfl rfl rfl rfl (fun _=>(yj (i:=3) rfl rfl (congrArg (jV) c4) Zu ZZ (by decide) (by decide) (wCr yf ZZ rfl))) (zT (cs:=[.nilFunc,.nilFunc,.nilFunc]) rfl rfl rfl rfl rfl yG rfl lq ?_)
 intro n7 dM ls
 refine zV (j:=0) (vs:=aX) Z Z Z Z ls Z Z Z Z ZZ (zA Z) Z Z Z ?_
 intro gM lu
 have lv:sW w U cN [.blk dM 169 aX,.blk aN 104 a7,.blk aM 104 a7,.blk aU 78 ap,.blk aT 28 ao] gM:=lu
 refine zg ?_
 cases du
 exact zL ⟨rfl,⟨cN,dM,rfl,rfl,rfl,rfl,rfl,mu,(lv.pick [1,2,3,4,0] _ (by decide) rfl)⟩⟩
 refine zT (cs:=[.nilFunc,.nilFunc,.nilFunc]) Z Z Z Z Z yG Z ca ?_
 intro gN cX lw
 refine zE 0 Z Z Z Z (zD Z Z yW zK Z) lw (fun hs=>wBG gN U hs er) (.inr Z) ?_
 rintro cO mJ oQ gO mw lx ⟨rfl,rfl⟩
 have ly:sW w U cO [.blk cX 169 [.nilFunc,.nilFunc,.nilFunc],.blk aN 104 a7,.blk aM 104 a7,.blk aU 78 ap,.blk aT 28 ao] gO:=lx
 refine zY rfl rfl rfl rfl (fun _=>(yj (i:=3) rfl rfl (congrArg (jV) c4) Zu ZZ (by decide) (by decide) (wCr yf ZZ rfl))) (zV (j:=0) (vs:=aX) rfl rfl rfl rfl ly rfl rfl rfl rfl ZZ (zA rfl) rfl rfl rfl ?_)
 intro gP lA
 have lB:sW w U cO [.blk cX 169 aX,.blk aN 104 a7,.blk aM 104 a7,.blk aU 78 ap,.blk aT 28 ao] gP:=lA
 refine zg ?_
 cases du
 exact zL ⟨rfl,⟨cO,cX,rfl,rfl,rfl,rfl,rfl,mw,(lB.pick [1,2,3,4,0] _ (by decide) rfl)⟩⟩
 rintro o8 gQ ⟨fM,bk,dW,de,bw,bs,dX,ct,cb⟩
 refine sR (wDe (.fx 4 (wLB gBw) .stop)) Z (oR Z (zJ Z dX Zz Z Try.sizeOf166) (oL Z (cb.ldB (j:=4) Z Z Z Try.isAgg166 (v:=.func (.func 118) #[] #[]) Z) (oL Z (cb.ldBA (j:=3) Z Z dW ze zZ (vs:=ao) Z Z) (oL Z (cb.ldBA (j:=2) Z Z de Zt ZU (vs:=ap) Z Z) ?_))))
 have eu:=cg.le ct
 have ew:=ci.le ct
 have ey:=cj.le ct
 have eA:=cm.le ct
 have q:=bnd fj
 obtain ⟨⟨cB,cC⟩,iQ,fk⟩:=q
 try dsimp only at fk
 refine zE 0 Z Z Z Z (zD Z Z Try.call118 (zB Z (zB Z zK)) Z) cb (fun hs=>wGZ p0 a9 bd ba be bb bf bc bg p1 gQ fM hs eu ew ey eA iQ) (.inr Z) ?_
 rintro bN mK oS gS cu lC ⟨rfl,rfl⟩
 have lD:sW w U bN [.blk aN 104 a7,.blk aM 104 a7,.blk aU 78 ap,.blk aT 28 ao,.blk bk 169 aX] gS:=lC
 refine oM Z Z (oR Z (zP Z Z (v:=.agg #[jV cB.skier,jV cB.mat]) Z) (oR Z (zP Z Z (v:=.agg #[jV cC.skier,jV cC.mat]) Z) ?_))
 let aq:List Value:=[jV cB.skier,jV cB.mat]
 refine zV (j:=1) (vs:=aq) Z Z Z Z lD Z bw Z Z zI (zA Z) Z Z Z ?_
 intro gT lF
 have lG:sW w U bN [.blk aN 104 a7,.blk aM 104 aq,.blk aU 78 ap,.blk aT 28 ao,.blk bk 169 aX] gT:=lF
 let af:List Value:=[jV cC.skier,jV cC.mat]
 refine zV (j:=0) (vs:=af) Z Z Z Z lG Z bs Z Z zI (zA Z) Z Z Z ?_
 intro dI lH
 have cc:sW w U bN [.blk aN 104 af,.blk aM 104 aq,.blk aU 78 ap,.blk aT 28 ao,.blk bk 169 aX] dI:=lH
 refine eN (sR (wDe (.fx 4 (wGi (.nil)) .stop)) Z (oR Z (zJ Z dX Zz Z Try.sizeOf167) (oL Z (cc.ldB (j:=4) Z Z Z Try.isAgg167 (v:=.func (.func 119) #[] #[]) Z) (oL Z (cc.ldBA (j:=3) Z Z dW ze zZ (vs:=ao) Z Z) (oL Z (cc.ldBA (j:=2) Z Z de Zt ZU (vs:=ap) Z Z) ?_)))))
 have iR:=eu.le cu
 have iS:=ew.le cu
 have iT:=ey.le cu
 have iU:=eA.le cu
 have q:=bnd fk
 obtain ⟨⟨dA,fG⟩,iV,fm⟩:=q
 try dsimp only at fm
 refine zE 0 Z Z Z Z (zD Z Z Try.call119 (zB Z (zB Z zK)) Z) cc (fun hs=>wGa p0 a9 bd ba be bb bf bc bg p1 dI bN hs iR iS iT iU iV) (.inr Z) ?_
 rintro bp mL oU cU ow lJ ⟨rfl,rfl⟩
 have bJ:sW w U bp [.blk aN 104 af,.blk aM 104 aq,.blk aU 78 ap,.blk aT 28 ao,.blk bk 169 aX] cU:=lJ
 refine oM Z Z (oR Z (zP Z Z (v:=jV dA) Z) (oR Z (zP Z Z (v:=jV fG) Z) (oA Z Z (oA Z Z (eN (zM (sR fL3 Z (oR Z (zJ Z de zm Z yC) (oL Z (bJ.ldB (j:=2) Z Z Z yK (v:=.bool p1.Up) Z) (oR Z (ZT Z Z) (eN (ifc fm ?_ ?_))))))))))))
 intro da mh
 refine zn (nC da.out) (kN ?_)
 have q:=bnd mh
 obtain ⟨⟨⟩,fA,fq⟩:=q
 try dsimp only at fq
 refine yN (fun σ_ w_=>∃ (U_:PHeap),σ_ 4=.pointer (some ⟨aM,0,none⟩)/\σ_ 5=.pointer (some ⟨aN,0,none⟩)/\σ_ 6=jV dA/\PHeap.Le bp U_/\sW w U U_ [.blk aN 104 af,.blk aM 104 aq,.blk aU 78 ap,.blk aT 28 ao,.blk bk 169 aX] w_) ?_ ?_
 refine ZA ZB [1,2,3,0,0,3] gDe (by kernel_rfl) ?_
 have bK:=bJ.drew
 generalize hw_W613:({ cU with drawn:=cU.drawn + 1 }:World)=n9 at bK ⊢
 refine oL Z (bK.ldBA (j:=1) Z Z bw zi zI (vs:=aq) Z Z) (oM Z Z (zk ?_ ?_))
 refine ZY Z Z Z Z (bK.ldBA (j:=0) Z Z bs zi zI (vs:=af) Z Z) (zV (j:=1) (vs:=aq) Z Z Z Z bK Z bw Z Z zI (zA Z) Z Z Z ?_)
 intro gU lK
 have lL:sW w U bp [.blk aN 104 af,.blk aM 104 aq,.blk aU 78 ap,.blk aT 28 ao,.blk bk 169 aX] gU:=lK
 refine zV (j:=0) (vs:=af) Z Z Z Z lL Z bs Z Z zI (zA Z) Z Z Z ?_
 intro gV lM
 have lN:sW w U bp [.blk aN 104 af,.blk aM 104 aq,.blk aU 78 ap,.blk aT 28 ao,.blk bk 169 aX] gV:=lM
 refine oA Z Z (zg ?_)
 cases fA
 exact zL ⟨Z,⟨bp,bw,bs,Z,(zW _),lN⟩⟩
 refine zV (j:=1) (vs:=aq) Z Z Z Z bK Z bw Z Z zI (zA Z) Z Z Z ?_
 intro gX lO
 have eL:sW w U bp [.blk aN 104 af,.blk aM 104 aq,.blk aU 78 ap,.blk aT 28 ao,.blk bk 169 aX] gX:=lO
 refine ZY Z Z Z Z (eL.ldBA (j:=0) Z Z bs zi zI (vs:=af) Z Z) (zV (j:=0) (vs:=af) Z Z Z Z eL Z bs Z Z zI (zA Z) Z Z Z ?_)
 intro gY lP
 have lQ:sW w U bp [.blk aN 104 af,.blk aM 104 aq,.blk aU 78 ap,.blk aT 28 ao,.blk bk 169 aX] gY:=lP
 refine oA Z Z (zg ?_)
 cases fA
 exact zL ⟨Z,⟨bp,bw,bs,Z,(zW _),lQ⟩⟩
 rintro o9 oc ⟨fN,iv,iw,iy,ox,dn⟩
 refine zU ?_
 cases fq
 exact ⟨rfl,_,(wCT (rs:=[.cell 4 104,.cell 5 104,.tmp 6]) (vs:=[.agg aq.toArray,.agg af.toArray,jV dA]) ⟨⟨_,iv,(wAy zi zI (dn.blkAt (k:=1) rfl) (vs:=aq) rfl rfl)⟩,⟨⟨_,iw,(wAy zi zI (dn.blkAt (k:=0) rfl) (vs:=af) rfl rfl)⟩,⟨iy,trivial⟩⟩⟩ rfl),fN,_,(dn.pick [] _ (by decide) rfl),rfl,rfl⟩
 intro da mi
 refine ZD (nF (da.out)) (sR (wCa gCf) Z (oL Z (bJ.ldBA (j:=0) Z Z bs zi zI (vs:=af) Z Z) (oL Z (bJ.ldBA (j:=1) Z Z bw zi zI (vs:=aq) Z Z) (oM Z Z (zV (j:=1) (vs:=af) Z Z Z Z bJ Z bw Z Z zI (zA Z) Z Z Z ?_)))))
 intro gZ lR
 have lS:sW w U bp [.blk aN 104 af,.blk aM 104 af,.blk aU 78 ap,.blk aT 28 ao,.blk bk 169 aX] gZ:=lR
 refine zV (j:=0) (vs:=aq) Z Z Z Z lS Z bs Z Z zI (zA Z) Z Z Z ?_
 intro g6 lT
 have dp:sW w U bp [.blk aN 104 aq,.blk aM 104 af,.blk aU 78 ap,.blk aT 28 ao,.blk bk 169 aX] g6:=lT
 refine oA Z Z (eN (zU (zN ?_)))
 cases mi
 exact ⟨rfl,_,(wCT (rs:=[.cell 4 104,.cell 5 104,.tmp 6]) (vs:=[.agg af.toArray,.agg aq.toArray,jV fG]) ⟨⟨_,bw,(wAy zi zI (dp.blkAt (k:=1) rfl) (vs:=af) rfl rfl)⟩,⟨⟨_,bs,(wAy zi zI (dp.blkAt (k:=0) rfl) (vs:=aq) rfl rfl)⟩,⟨rfl,trivial⟩⟩⟩ rfl),bp,_,(dp.pick [] _ (by decide) rfl),rfl,rfl⟩
 have ft:=hm;rw [if_neg c1,if_neg c2,if_neg c3,if_neg c4] at ft
 refine sR gCu Z ?_
 let cG:List Value:=[.slice a9 p0.Starts.length bd,.slice ba p0.Splits.length be,.slice bb p0.Clocks.length bf,.slice bc p0.Readings.length bg]
 refine zu (cs:=cG) rfl rfl rfl rfl rfl rfl (by rfl) hS ?_
 intro od dO lV
 let cH:List Value:=[jV p1.Kind,jV p1.Skier,jV p1.Index,.bool p1.Up]
 refine zu (cs:=cH) rfl rfl rfl rfl rfl rfl (by rfl) lV ?_
 intro oe dP lW
 let bA:List Value:=[jV 0,jV 0]
 refine zT (cs:=bA) Z Z Z Z Z za Z lW ?_
 intro og dQ lX
 refine zT (cs:=bA) Z Z Z Z Z za Z lX ?_
 intro dJ dR lY
 refine oA Z Z (eN (zM ?_))
 have q:=bnd ft
 obtain ⟨⟨⟩,eB,dv⟩:=q
 try dsimp only at dv
 refine ZA ZB [2,3,1,3,2,0] gDd (by kernel_rfl) ?_
 have cd:=lY.drew
 generalize hw_W669:({ dJ with drawn:=dJ.drawn + 1 }:World)=g7 at cd ⊢
 refine oR Z (zJ Z Z zm Z yQ) (oL Z (cd.ldB (j:=2) Z Z Z yV (v:=jV p1.Kind) Z) (zk ?_ ?_))
 refine zE 0 Z Z Z Z (zD Z Z yW zK Z) cd (fun hs=>wBG g7 U hs eB) (.inr Z) ?_
 rintro fO mN oV g8 oy lZ ⟨rfl,rfl⟩
 have oh:sW w U fO [.blk dR 104 bA,.blk dQ 104 bA,.blk dP 78 cH,.blk dO 28 cG] g8:=lZ
 cases dv
 refine zT (cs:=[.nilFunc,.nilFunc,.nilFunc]) Z Z Z Z Z yG Z cd ?_
 intro g9 ij l3
 refine zE 0 Z Z Z Z (zD Z Z yW zK Z) l3 (fun hs=>wBG g9 U hs eB) (.inr Z) ?_
 rintro fP mO oX ib oz l4 ⟨rfl,rfl⟩
 have oi:sW w U fP [.blk ij 169 [.nilFunc,.nilFunc,.nilFunc],.blk dR 104 bA,.blk dQ 104 bA,.blk dP 78 cH,.blk dO 28 cG] ib:=l4
 cases dv
end Go.Proofs.Ytlnfbjphfoipaaa
namespace Go.Proofs.Ytlnfbjphfoipaaa
open Go.KL
set_option maxHeartbeats 4000000
theorem wFg (p0:wAC) (ag:Option Addr) (ak:Nat) (ah:Option Addr) (am:Nat) (ai:Option Addr) (an:Nat) (aj:Option Addr) (ao:Nat) (w:World) (U:PHeap) (hS:St0 w U []) (pQ:Sl U 1 ag ak p0.Starts.length (hD KL.encI p0.Starts)) (pR:Sl U 2 ah am p0.Splits.length (hD wAG p0.Splits)) (pT:Sl U 3 ai an p0.Clocks.length (hD wAA p0.Clocks)) (pU:Sl U 4 aj ao p0.Readings.length (hD wAB p0.Readings)) {r:wAY} (hm:wCs p0=some r):Gv Try.prog 89 [.agg #[.slice ag p0.Starts.length ak,.slice ah p0.Splits.length am,.slice ai p0.Clocks.length an,.slice aj p0.Readings.length ao]] w (wCB w [] U (fun U_ L_ v=>∃ (b0:Nat) (A0p00:Option Addr) (c0p00:Nat) (A0p01:Option Addr) (c0p01:Nat) (A0p02:Option Addr) (c0p02:Nat) (A0p03:Option Addr) (c0p03:Nat) (m0p1:Nat) (es0p1:Array MapEntry) (ck0p1:Nat) (A0p2:Option Addr) (c0p2:Nat),v=.pointer (some ⟨b0,0,none⟩)/\L_=[.blk b0 124 [.slice A0p00 r.Race.Starts.length c0p00,.slice A0p01 r.Race.Splits.length c0p01,.slice A0p02 r.Race.Clocks.length c0p02,.slice A0p03 r.Race.Readings.length c0p03,.map (some m0p1),.slice A0p2 r.edges.length c0p2],.obj m0p1 (.map es0p1 ck0p1),.row A0p2 c0p2 130 7 (hD wAP r.edges)]/\Sl U_ 1 A0p00 c0p00 r.Race.Starts.length (hD KL.encI r.Race.Starts)/\Sl U_ 2 A0p01 c0p01 r.Race.Splits.length (hD wAG r.Race.Splits)/\Sl U_ 3 A0p02 c0p02 r.Race.Clocks.length (hD wAA r.Race.Clocks)/\Sl U_ 4 A0p03 c0p03 r.Race.Readings.length (hD wAB r.Race.Readings)/\MpR es0p1 wBB wBC r.number)):=by
 unfold wCs at hm
 refine Go.KX.Gv.ofM Try.func89 Z Try.ntmps89 Try.results89 (zA Z) (sR gBy Z ?_)
 let B0:List Value:=[.slice ag p0.Starts.length ak,.slice ah p0.Splits.length am,.slice ai p0.Clocks.length an,.slice aj p0.Readings.length ao]
 refine zu (cs:=B0) rfl rfl rfl rfl rfl rfl (by rfl) hS ?_
 intro W1 b2 oW
 refine oA Z Z (eN (bnK hm fun iN qo pY=>yN (fun σ_ w_=>∃ (U_:PHeap) (b6:Nat) (b8:Nat) (af:Nat) (bQ:Array MapEntry) (cH:Nat),σ_ 1=.pointer (some ⟨b2,0,none⟩)/\σ_ 3=.pointer (some ⟨b6,0,none⟩)/\PHeap.Le U U_/\sW w U U_ [.blk b2 28 B0,.blk b6 99 [.pointer (some ⟨b8,0,none⟩)],.blk b8 124 [.slice ag p0.Starts.length ak,.slice ah p0.Splits.length am,.slice ai p0.Clocks.length an,.slice aj p0.Readings.length ao,.map (some af),.slice none 0 0],.obj af (.map bQ cH)] w_/\MpR bQ wBB wBC iN) ?_ ?_))
 refine bnK qo fun ae a7 p9=>ZA ZB [2,2,2,0,3,3,2,2,0] (.fx 0 (.fx 1 gDk (.fx 2 gDl (.fx 7 gDm .stop))) (.fx 1 (.fx 0 gDk (.fx 2 gDp (.fx 7 gDn .stop))) (.fx 2 (.fx 0 gDl (.fx 1 gDp (.fx 7 gDo .stop))) (.fx 7 (.fx 0 gDm (.fx 1 gDn (.fx 2 gDo .stop))) .stop)))) (by kernel_rfl) ?_
 have a9:=oW.drew
 generalize hw_W51:({ W1 with drawn:=W1.drawn + 1 }:World)=fN at a9 ⊢
 refine ZP (s:=.nil) (M:=fun σ_ w_=>∃ (U_:PHeap) (cr:Nat) (bE:Nat) (ba:Nat) (cQ:Array MapEntry) (dH:Nat),σ_ 1=.pointer (some ⟨b2,0,none⟩)/\σ_ 3=.pointer (some ⟨cr,0,none⟩)/\σ_ 12=.agg B0.toArray/\σ_ 13=.map (some ba)/\σ_ 14=.agg #[jV ae.skier,jV ae.mat]/\σ_ 15=.map (some ba)/\σ_ 16=.agg #[.slice ag p0.Starts.length ak,.slice ah p0.Splits.length am,.slice ai p0.Clocks.length an,.slice aj p0.Readings.length ao,.map (some ba),.slice none 0 0]/\σ_ 17=.pointer (some ⟨bE,0,none⟩)/\PHeap.Le U U_/\sW w U U_ [.blk b2 28 B0,.blk cr 99 [.pointer (some ⟨bE,0,none⟩)],.blk bE 124 [.slice ag p0.Starts.length ak,.slice ah p0.Splits.length am,.slice ai p0.Clocks.length an,.slice aj p0.Readings.length ao,.map (some ba),.slice none 0 0],.obj ba (.map cQ dH)] w_/\MpR cQ wBB wBC (wFv ([]:List (wAH × Int)) ae 0)) ?_ fun qq=>?_
 rintro sT rz ⟨i6,cr,bE,ba,cQ,dH,lu,lv,sh,sj,sk,sl,sm,sn,qB,oX,mz⟩
 refine zg ?_
 cases p9
 exact zL ⟨Z,⟨i6,cr,bE,ba,cQ,dH,lu,lv,qB,oX,mz⟩⟩
 refine ZP (s:=.fx 8 .nil .stop) (M:=fun σ_ w_=>∃ (U_:PHeap) (bF:Nat) (aZ:Nat) (bS:Array MapEntry) (cJ:Nat) (bk:Nat),σ_ 1=.pointer (some ⟨b2,0,none⟩)/\σ_ 3=.pointer (some ⟨bF,0,none⟩)/\σ_ 12=.agg B0.toArray/\σ_ 13=.map (some aZ)/\σ_ 14=.agg #[jV ae.skier,jV ae.mat]/\σ_ 15=.map (some aZ)/\σ_ 16=.agg #[.slice ag p0.Starts.length ak,.slice ah p0.Splits.length am,.slice ai p0.Clocks.length an,.slice aj p0.Readings.length ao,.map (some aZ),.slice none 0 0]/\σ_ 17=.pointer (some ⟨bk,0,none⟩)/\PHeap.Le U U_/\sW w U U_ [.blk b2 28 B0,.blk bF 99 [.pointer none],.obj aZ (.map bS cJ),.blk bk 124 [.slice ag p0.Starts.length ak,.slice ah p0.Splits.length am,.slice ai p0.Clocks.length an,.slice aj p0.Readings.length ao,.map (some aZ),.slice none 0 0]] w_/\MpR bS wBB wBC (wFv ([]:List (wAH × Int)) ae 0)) ?_ fun dk=>?_
 rintro sU rA ⟨fu,bF,aZ,bS,cJ,bk,lw,gx,lx,ly,lz,lA,lB,gy,qC,oY,mA⟩
 let B1:List Value:=[.pointer (some ⟨bk,0,none⟩)]
 refine zV (j:=1) (vs:=B1) Z Z Z Z oY Z gx gy Z Try.sizeOf99 (zA Z) Z Z Z ?_
 intro jG oZ
 have o3:sW w U fu [.blk b2 28 B0,.blk bF 99 B1,.obj aZ (.map bS cJ),.blk bk 124 [.slice ag p0.Starts.length ak,.slice ah p0.Splits.length am,.slice ai p0.Clocks.length an,.slice aj p0.Readings.length ao,.map (some aZ),.slice none 0 0]] jG:=oZ
 exact qq _ _ ⟨fu,bF,bk,aZ,bS,cJ,lw,gx,lx,ly,lz,lA,lB,gy,qC,(o3.pick [0,1,3,2] _ (by decide) rfl),mA⟩
 refine ZP (s:=gCa) (M:=fun σ_ w_=>∃ (U_:PHeap) (ct:Nat) (bb:Nat) (cR:Array MapEntry) (dI:Nat),σ_ 1=.pointer (some ⟨b2,0,none⟩)/\σ_ 3=.pointer (some ⟨ct,0,none⟩)/\σ_ 12=.agg B0.toArray/\σ_ 13=.map (some bb)/\σ_ 14=.agg #[jV ae.skier,jV ae.mat]/\σ_ 15=.map (some bb)/\σ_ 16=.agg #[.slice ag p0.Starts.length ak,.slice ah p0.Splits.length am,.slice ai p0.Clocks.length an,.slice aj p0.Readings.length ao,.map (some bb),.slice none 0 0]/\PHeap.Le U U_/\sW w U U_ [.blk b2 28 B0,.blk ct 99 [.pointer none],.obj bb (.map cR dI)] w_/\MpR cR wBB wBC (wFv ([]:List (wAH × Int)) ae 0)) ?_ fun iG=>?_
 rintro sV rB ⟨i7,ct,bb,cR,dI,lC,lD,lE,lF,lG,lH,gz,qD,o5,mB⟩
 refine zu (cs:=[.slice ag p0.Starts.length ak,.slice ah p0.Splits.length am,.slice ai p0.Clocks.length an,.slice aj p0.Readings.length ao,.map (some bb),.slice none 0 0]) rfl rfl rfl rfl rfl gz (by rfl) o5 ?_
 intro rC j3 o6
 exact dk _ _ ⟨i7,ct,bb,cR,dI,j3,lC,lD,lE,lF,lG,lH,gz,rfl,qD,(o6.pick [1,2,3,0] _ (by decide) rfl),mB⟩
 refine ZP (s:=gBz) (M:=fun σ_ w_=>∃ (U_:PHeap) (bc:Nat) (cS:Array MapEntry) (dJ:Nat) (cu:Nat),σ_ 1=.pointer (some ⟨b2,0,none⟩)/\σ_ 12=.agg B0.toArray/\σ_ 13=.map (some bc)/\σ_ 14=.agg #[jV ae.skier,jV ae.mat]/\σ_ 15=.map (some bc)/\σ_ 16=.agg #[.slice ag p0.Starts.length ak,.slice ah p0.Splits.length am,.slice ai p0.Clocks.length an,.slice aj p0.Readings.length ao,.map (some bc),.slice none 0 0]/\σ_ 17=.pointer (some ⟨cu,0,none⟩)/\PHeap.Le U U_/\sW w U U_ [.blk b2 28 B0,.obj bc (.map cS dJ),.blk cu 124 [.slice ag p0.Starts.length ak,.slice ah p0.Splits.length am,.slice ai p0.Clocks.length an,.slice aj p0.Readings.length ao,.map (some bc),.slice none 0 0]] w_/\MpR cS wBB wBC (wFv ([]:List (wAH × Int)) ae 0)) ?_ fun iH=>?_
 rintro sX rD ⟨i8,bc,cS,dJ,cu,lI,lJ,lK,lL,lM,lN,lO,qE,o7,mC⟩
 refine zT (cs:=[.pointer none]) Z Z Z Z Z yF Z o7 ?_
 intro rE j4 o8
 exact dk _ _ ⟨i8,j4,bc,cS,dJ,cu,lI,rfl,lJ,lK,lL,lM,lN,lO,qE,(o8.pick [1,0,2,3] _ (by decide) rfl),mC⟩
 refine ZP (s:=.fl 5 gCa) (M:=fun σ_ w_=>∃ (U_:PHeap) (cw:Nat) (bd:Nat) (cU:Array MapEntry) (dK:Nat),σ_ 1=.pointer (some ⟨b2,0,none⟩)/\σ_ 3=.pointer (some ⟨cw,0,none⟩)/\σ_ 12=.agg B0.toArray/\σ_ 13=.map (some bd)/\σ_ 14=.agg #[jV ae.skier,jV ae.mat]/\σ_ 15=.map (some bd)/\PHeap.Le U U_/\sW w U U_ [.blk b2 28 B0,.blk cw 99 [.pointer none],.obj bd (.map cU dK)] w_/\MpR cU wBB wBC (wFv ([]:List (wAH × Int)) ae 0)) ?_ fun iI=>?_
 rintro sY rF ⟨i9,cw,bd,cU,dK,lP,lQ,gA,lR,lS,gB,qF,o9,mD⟩
 let B2:List Value:=[.slice ag p0.Starts.length ak,.slice ah p0.Splits.length am,.slice ai p0.Clocks.length an,.slice aj p0.Readings.length ao,.map (some bd),.slice none 0 0]
 refine zY rfl rfl rfl rfl (fun _=>zo (pv:=[(0,.agg B0.toArray),(1,.map (some bd))]) (z:=[.slice none 0 0,.slice none 0 0,.slice none 0 0,.slice none 0 0,.map none,.slice none 0 0]) (cs:=B2) rfl (wAF gA (wAF gB wAO)) Try.zeroValue124 wFe rfl rfl) (zu (cs:=B2) rfl rfl rfl rfl rfl rfl (by rfl) o9 ?_)
 intro rG j5 pd
 exact dk _ _ ⟨i9,cw,bd,cU,dK,j5,lP,lQ,gA,lR,lS,gB,rfl,rfl,qF,(pd.pick [1,2,3,0] _ (by decide) rfl),mD⟩
 refine ZP (s:=gCo) (M:=fun σ_ w_=>∃ (U_:PHeap) (cx:Nat) (bG:Nat) (cV:Array MapEntry) (dL:Nat),σ_ 1=.pointer (some ⟨b2,0,none⟩)/\σ_ 3=.pointer (some ⟨cx,0,none⟩)/\σ_ 13=.map (some bG)/\σ_ 14=.agg #[jV ae.skier,jV ae.mat]/\σ_ 15=.map (some bG)/\PHeap.Le U U_/\sW w U U_ [.blk b2 28 B0,.blk cx 99 [.pointer none],.obj bG (.map cV dL)] w_/\MpR cV wBB wBC (wFv ([]:List (wAH × Int)) ae 0)) ?_ fun qr=>?_
 rintro sZ rH ⟨ja,cx,bG,cV,dL,gC,lT,lU,lV,lW,qG,ir,mE⟩
 exact ZY Z Z Z Z (ir.ldBA (j:=0) Z Z gC ze zZ (vs:=B0) Z Z) (iI _ _ ⟨ja,cx,bG,cV,dL,gC,lT,Z,lU,lV,lW,qG,ir,mE⟩)
 refine ZP (s:=gCv) (M:=fun σ_ w_=>∃ (U_:PHeap) (a6:Nat) (bU:Array MapEntry) (cK:Nat),σ_ 1=.pointer (some ⟨b2,0,none⟩)/\σ_ 12=.agg B0.toArray/\σ_ 13=.map (some a6)/\σ_ 14=.agg #[jV ae.skier,jV ae.mat]/\σ_ 15=.map (some a6)/\PHeap.Le U U_/\sW w U U_ [.blk b2 28 B0,.obj a6 (.map bU cK)] w_/\MpR bU wBB wBC (wFv ([]:List (wAH × Int)) ae 0)) ?_ fun qs=>?_
 rintro s3 rI ⟨fw,a6,bU,cK,gD,dS,gE,gF,dT,iR,it,ib⟩
 let B3:List Value:=[.slice ag p0.Starts.length ak,.slice ah p0.Splits.length am,.slice ai p0.Clocks.length an,.slice aj p0.Readings.length ao,.map (some a6),.slice none 0 0]
 refine oR Z (zo (pv:=[(0,.agg B0.toArray),(1,.map (some a6))]) (z:=[.slice none 0 0,.slice none 0 0,.slice none 0 0,.slice none 0 0,.map none,.slice none 0 0]) (cs:=B3) Z (wAF dS (wAF dT wAO)) Try.zeroValue124 wFe Z Z) (zk ?_ ?_)
 refine zu (cs:=B3) rfl rfl rfl rfl rfl rfl (by rfl) it ?_
 intro rJ j6 pe
 exact iH _ _ ⟨fw,a6,bU,cK,j6,gD,dS,gE,gF,dT,rfl,rfl,iR,(pe.pick [1,2,0] _ (by decide) rfl),ib⟩
 refine zT (cs:=[.pointer none]) Z Z Z Z Z yF Z it ?_
 intro rK j7 pf
 exact iG _ _ ⟨fw,j7,a6,bU,cK,gD,rfl,dS,gE,gF,dT,rfl,iR,(pf.pick [1,0,2] _ (by decide) rfl),ib⟩
 refine ZP (s:=gCn) (M:=fun σ_ w_=>∃ (U_:PHeap) (cy:Nat) (bm:Nat) (cW:Array MapEntry) (dM:Nat),σ_ 1=.pointer (some ⟨b2,0,none⟩)/\σ_ 3=.pointer (some ⟨cy,0,none⟩)/\σ_ 12=.agg B0.toArray/\σ_ 13=.map (some bm)/\σ_ 14=.agg #[jV ae.skier,jV ae.mat]/\PHeap.Le U U_/\sW w U U_ [.blk b2 28 B0,.blk cy 99 [.pointer none],.obj bm (.map cW dM)] w_/\MpR cW wBB wBC (wFv ([]:List (wAH × Int)) ae 0)) ?_ fun qt=>?_
 rintro s4 rL ⟨jb,cy,bm,cW,dM,lX,lY,gG,gH,lZ,qH,pg,mF⟩
 refine oM Z gH ?_
 let B4:List Value:=[.slice ag p0.Starts.length ak,.slice ah p0.Splits.length am,.slice ai p0.Clocks.length an,.slice aj p0.Readings.length ao,.map (some bm),.slice none 0 0]
 refine zY rfl rfl rfl rfl (fun _=>zo (pv:=[(0,.agg B0.toArray),(1,.map (some bm))]) (z:=[.slice none 0 0,.slice none 0 0,.slice none 0 0,.slice none 0 0,.map none,.slice none 0 0]) (cs:=B4) rfl (wAF gG (wAF rfl wAO)) Try.zeroValue124 wFe rfl rfl) (zu (cs:=B4) rfl rfl rfl rfl rfl rfl (by rfl) pg ?_)
 intro rM j8 ph
 exact dk _ _ ⟨jb,cy,bm,cW,dM,j8,lX,lY,gG,gH,lZ,rfl,rfl,rfl,qH,(ph.pick [1,2,3,0] _ (by decide) rfl),mF⟩
 refine ZP (s:=.fl 4 gCo) (M:=fun σ_ w_=>∃ (U_:PHeap) (cz:Nat) (cA:Nat) (cX:Array MapEntry) (dN:Nat),σ_ 1=.pointer (some ⟨b2,0,none⟩)/\σ_ 3=.pointer (some ⟨cz,0,none⟩)/\σ_ 13=.map (some cA)/\σ_ 14=.agg #[jV ae.skier,jV ae.mat]/\PHeap.Le U U_/\sW w U U_ [.blk b2 28 B0,.blk cz 99 [.pointer none],.obj cA (.map cX dN)] w_/\MpR cX wBB wBC (wFv ([]:List (wAH × Int)) ae 0)) ?_ fun qu=>?_
 rintro s5 rN ⟨jc,cz,cA,cX,dN,gI,l3,gJ,l4,qI,iu,mG⟩
 exact oM Z gJ (ZY Z Z Z Z (iu.ldBA (j:=0) Z Z gI ze zZ (vs:=B0) Z Z) (iI _ _ ⟨jc,cz,cA,cX,dN,gI,l3,Z,gJ,l4,Z,qI,iu,mG⟩))
 refine ZP (s:=gCw) (M:=fun σ_ w_=>∃ (U_:PHeap) (bH:Nat) (bI:Nat) (dQ:Array MapEntry) (fT:Nat),σ_ 1=.pointer (some ⟨b2,0,none⟩)/\σ_ 3=.pointer (some ⟨bH,0,none⟩)/\σ_ 12=.agg B0.toArray/\σ_ 13=.map (some bI)/\σ_ 14=.agg #[jV ae.skier,jV ae.mat]/\PHeap.Le U U_/\sW w U U_ [.blk b2 28 B0,.blk bH 99 [.pointer none],.obj bI (.map dQ fT)] w_/\MpR dQ wBB wBC ([]:List (wAH × Int))) ?_ fun dl=>?_
 rintro s6 rO ⟨fy,bH,bI,dQ,fT,l5,l6,l7,gK,gL,qJ,pj,mH⟩
 refine OKS.mapPut (x:=.tmp 13) (y:=.tmp 14) (j:=2) (mk:=wBB) (mv:=wBC) (a:=ae) (v:=0) rfl rfl rfl (by first | exact .inl rfl | exact .inr rfl) pj rfl gK gL rfl (wBV ZI) wCH mH rfl ?_
 intro f5 fU jH qf pk
 have pm:sW w U fy [.blk b2 28 B0,.blk bH 99 [.pointer none],.obj bI (.map f5 fU)] jH:=pk
 exact qt _ _ ⟨fy,bH,bI,f5,fU,l5,l6,l7,gK,gL,qJ,pm,qf⟩
 refine ZP (s:=.fl 4 gCv) (M:=fun σ_ w_=>∃ (U_:PHeap) (bf:Nat) (bV:Array MapEntry) (cL:Nat),σ_ 1=.pointer (some ⟨b2,0,none⟩)/\σ_ 12=.agg B0.toArray/\σ_ 13=.map (some bf)/\σ_ 14=.agg #[jV ae.skier,jV ae.mat]/\PHeap.Le U U_/\sW w U U_ [.blk b2 28 B0,.obj bf (.map bV cL)] w_/\MpR bV wBB wBC (wFv ([]:List (wAH × Int)) ae 0)) ?_ fun qv=>?_
 rintro s7 rP ⟨fz,bf,bV,cL,gM,dU,dV,gN,iS,iv,ic⟩
 refine oM Z dV ?_
 let B5:List Value:=[.slice ag p0.Starts.length ak,.slice ah p0.Splits.length am,.slice ai p0.Clocks.length an,.slice aj p0.Readings.length ao,.map (some bf),.slice none 0 0]
 refine oR Z (zo (pv:=[(0,.agg B0.toArray),(1,.map (some bf))]) (z:=[.slice none 0 0,.slice none 0 0,.slice none 0 0,.slice none 0 0,.map none,.slice none 0 0]) (cs:=B5) Z (wAF dU (wAF Z wAO)) Try.zeroValue124 wFe Z Z) (zk ?_ ?_)
 refine zu (cs:=B5) rfl rfl rfl rfl rfl rfl (by rfl) iv ?_
 intro rQ j9 pn
 exact iH _ _ ⟨fz,bf,bV,cL,j9,gM,dU,dV,gN,rfl,rfl,rfl,iS,(pn.pick [1,2,0] _ (by decide) rfl),ic⟩
 refine zT (cs:=[.pointer none]) Z Z Z Z Z yF Z iv ?_
 intro rS k3 po
 exact iG _ _ ⟨fz,k3,bf,bV,cL,gM,rfl,dU,dV,gN,rfl,rfl,iS,(po.pick [1,0,2] _ (by decide) rfl),ic⟩
 refine ZP (s:=gDh) (M:=fun σ_ w_=>∃ (U_:PHeap) (bn:Nat) (bo:Nat) (cY:Array MapEntry) (dO:Nat),σ_ 1=.pointer (some ⟨b2,0,none⟩)/\σ_ 3=.pointer (some ⟨bn,0,none⟩)/\σ_ 13=.map (some bo)/\σ_ 14=.agg #[jV ae.skier,jV ae.mat]/\PHeap.Le U U_/\sW w U U_ [.blk b2 28 B0,.blk bn 99 [.pointer none],.obj bo (.map cY dO)] w_/\MpR cY wBB wBC ([]:List (wAH × Int))) ?_ fun eJ=>?_
 rintro s8 rT ⟨dC,bn,bo,cY,dO,dW,gO,dX,dY,iT,ey,ie⟩
 refine zk ?_ ?_
 exact ZY Z Z Z Z (ey.ldBA (j:=0) Z Z dW ze zZ (vs:=B0) Z Z) (dl _ _ ⟨dC,bn,bo,cY,dO,dW,gO,Z,dX,dY,iT,ey,ie⟩)
 refine OKS.mapPut (x:=.tmp 13) (y:=.tmp 14) (j:=2) (mk:=wBB) (mv:=wBC) (a:=ae) (v:=0) rfl rfl rfl (by first | exact .inl rfl | exact .inr rfl) ey rfl dX dY rfl (wBV ZI) wCH ie rfl ?_
 intro f6 fW jI qh pp
 have pq:sW w U dC [.blk b2 28 B0,.blk bn 99 [.pointer none],.obj bo (.map f6 fW)] jI:=pp
 exact qu _ _ ⟨dC,bn,bo,f6,fW,dW,gO,dX,dY,iT,pq,qh⟩
 refine ZP (s:=gDg) (M:=fun σ_ w_=>∃ (U_:PHeap) (bJ:Nat) (bW:Array MapEntry) (cM:Nat),σ_ 1=.pointer (some ⟨b2,0,none⟩)/\σ_ 13=.map (some bJ)/\σ_ 14=.agg #[jV ae.skier,jV ae.mat]/\PHeap.Le U U_/\sW w U U_ [.blk b2 28 B0,.obj bJ (.map bW cM)] w_/\MpR bW wBB wBC (wFv ([]:List (wAH × Int)) ae 0)) ?_ fun qw=>?_
 rintro s9 rV ⟨fA,bJ,bW,cM,dZ,d7,gP,iU,eA,ig⟩
 refine oM Z d7 (zk ?_ ?_)
 exact ZY Z Z Z Z (eA.ldBA (j:=0) Z Z dZ ze zZ (vs:=B0) Z Z) (qs _ _ ⟨fA,bJ,bW,cM,dZ,Z,d7,gP,Z,iU,eA,ig⟩)
 refine zT (cs:=[.pointer none]) Z Z Z Z Z yF Z eA ?_
 intro rW k5 pu
 exact qr _ _ ⟨fA,k5,bJ,bW,cM,dZ,rfl,d7,gP,rfl,iU,(pu.pick [1,0,2] _ (by decide) rfl),ig⟩
 refine ZP (s:=gDb) (M:=fun σ_ w_=>∃ (U_:PHeap) (cB:Nat),σ_ 1=.pointer (some ⟨b2,0,none⟩)/\σ_ 3=.pointer (some ⟨cB,0,none⟩)/\σ_ 12=.agg B0.toArray/\σ_ 14=.agg #[jV ae.skier,jV ae.mat]/\PHeap.Le U U_/\sW w U U_ [.blk b2 28 B0,.blk cB 99 [.pointer none]] w_) ?_ fun eK=>?_
 rintro ta rX ⟨jd,cB,l8,ma,mb,mc,qK,py⟩
 refine OKS.makeMap Z Z Z Z Z py ?_
 intro rY k6 pz
 have qi:=MpR.nil wBB wBC
 exact dl _ _ ⟨jd,cB,k6,#[],0,l8,ma,mb,rfl,mc,qK,(pz.pick [1,2,0] _ (by decide) rfl),qi⟩
 refine ZP (s:=gDa) (M:=fun σ_ w_=>∃ (U_:PHeap) (bK:Nat) (bL:Nat) (bX:Array MapEntry) (cN:Nat),σ_ 1=.pointer (some ⟨b2,0,none⟩)/\σ_ 3=.pointer (some ⟨bK,0,none⟩)/\σ_ 12=.agg B0.toArray/\σ_ 13=.map (some bL)/\PHeap.Le U U_/\sW w U U_ [.blk b2 28 B0,.blk bK 99 [.pointer none],.obj bL (.map bX cN)] w_/\MpR bX wBB wBC ([]:List (wAH × Int))) ?_ fun eL=>?_
 rintro tb jJ ⟨je,bK,bL,bX,cN,md,me,mf,mg,qL,pB,mI⟩
 refine zE 0 Z Z Z Z (zD Z Z yY zK Z) pB (fun hs=>wBK jJ je hs a7) (.inr Z) ?_
 rintro fB q5 sH jK qM pC ⟨rfl,rfl⟩
 have pD:sW w U fB [.blk b2 28 B0,.blk bK 99 [.pointer none],.obj bL (.map bX cN)] jK:=pC
 exact dl _ _ ⟨fB,bK,bL,bX,cN,md,me,mf,mg,Z,(qL.trans qM),pD,mI⟩
 refine ZP (s:=gDf) (M:=fun σ_ w_=>∃ (U_:PHeap) (bp:Nat) (cZ:Array MapEntry) (dP:Nat),σ_ 1=.pointer (some ⟨b2,0,none⟩)/\σ_ 12=.agg B0.toArray/\σ_ 13=.map (some bp)/\σ_ 14=.agg #[jV ae.skier,jV ae.mat]/\PHeap.Le U U_/\sW w U U_ [.blk b2 28 B0,.obj bp (.map cZ dP)] w_/\MpR cZ wBB wBC ([]:List (wAH × Int))) ?_ fun eM=>?_
 rintro tc rZ ⟨dD,bp,cZ,dP,gQ,gR,d9,ec,iV,iw,ii⟩
 refine zk ?_ ?_
 refine OKS.mapPut (x:=.tmp 13) (y:=.tmp 14) (j:=1) (mk:=wBB) (mv:=wBC) (a:=ae) (v:=0) rfl rfl rfl (by first | exact .inl rfl | exact .inr rfl) iw rfl d9 ec rfl (wBV ZI) wCH ii rfl ?_
 intro f8 fY jL qj pE
 have pF:sW w U dD [.blk b2 28 B0,.obj bp (.map f8 fY)] jL:=pE
 exact qv _ _ ⟨dD,bp,f8,fY,gQ,gR,d9,ec,iV,pF,qj⟩
 refine zT (cs:=[.pointer none]) Z Z Z Z Z yF Z iw ?_
 intro r6 k7 pG
 exact dl _ _ ⟨dD,k7,bp,cZ,dP,gQ,rfl,gR,d9,ec,iV,(pG.pick [1,0,2] _ (by decide) rfl),ii⟩
 refine ZP (s:=gDo) (M:=fun σ_ w_=>∃ (U_:PHeap) (bM:Nat),σ_ 1=.pointer (some ⟨b2,0,none⟩)/\σ_ 3=.pointer (some ⟨bM,0,none⟩)/\σ_ 14=.agg #[jV ae.skier,jV ae.mat]/\PHeap.Le U U_/\sW w U U_ [.blk b2 28 B0,.blk bM 99 [.pointer none]] w_) ?_ fun iJ=>?_
 rintro td r7 ⟨fC,bM,ef,gS,gT,iW,eB⟩
 refine zk ?_ ?_
 exact ZY Z Z Z Z (eB.ldBA (j:=0) Z Z ef ze zZ (vs:=B0) Z Z) (eK _ _ ⟨fC,bM,ef,gS,Z,gT,iW,eB⟩)
 refine OKS.makeMap Z Z Z Z Z eB ?_
 intro r8 k8 pH
 have qk:=MpR.nil wBB wBC
 exact eJ _ _ ⟨fC,bM,k8,#[],0,ef,gS,rfl,gT,iW,(pH.pick [1,2,0] _ (by decide) rfl),qk⟩
 refine ZP (s:=gDn) (M:=fun σ_ w_=>∃ (U_:PHeap) (bq:Nat) (br:Nat) (bv:Array MapEntry) (bP:Nat),σ_ 1=.pointer (some ⟨b2,0,none⟩)/\σ_ 3=.pointer (some ⟨bq,0,none⟩)/\σ_ 13=.map (some br)/\PHeap.Le U U_/\sW w U U_ [.blk b2 28 B0,.blk bq 99 [.pointer none],.obj br (.map bv bP)] w_/\MpR bv wBB wBC ([]:List (wAH × Int))) ?_ fun iK=>?_
 rintro te jM ⟨fD,bq,br,bv,bP,eg,gU,gV,iX,eD,ij⟩
 refine zk ?_ ?_
 exact ZY Z Z Z Z (eD.ldBA (j:=0) Z Z eg ze zZ (vs:=B0) Z Z) (eL _ _ ⟨fD,bq,br,bv,bP,eg,gU,Z,gV,iX,eD,ij⟩)
 refine zE 0 Z Z Z Z (zD Z Z yY zK Z) eD (fun hs=>wBK jM fD hs a7) (.inr Z) ?_
 rintro fG q6 sI jN qN pI ⟨rfl,rfl⟩
 have pJ:sW w U fG [.blk b2 28 B0,.blk bq 99 [.pointer none],.obj br (.map bv bP)] jN:=pI
 exact eJ _ _ ⟨fG,bq,br,bv,bP,eg,gU,gV,Z,(iX.trans qN),pJ,ij⟩
 refine ZP (s:=gDp) (M:=fun σ_ w_=>∃ (U_:PHeap) (bg:Nat) (bY:Array MapEntry) (cO:Nat),σ_ 1=.pointer (some ⟨b2,0,none⟩)/\σ_ 13=.map (some bg)/\σ_ 14=.agg #[jV ae.skier,jV ae.mat]/\PHeap.Le U U_/\sW w U U_ [.blk b2 28 B0,.obj bg (.map bY cO)] w_/\MpR bY wBB wBC ([]:List (wAH × Int))) ?_ fun iL=>?_
 rintro tf r9 ⟨co,bg,bY,cO,c6,c8,da,eQ,dh,er⟩
 refine zk ?_ ?_
 exact ZY Z Z Z Z (dh.ldBA (j:=0) Z Z c6 ze zZ (vs:=B0) Z Z) (eM _ _ ⟨co,bg,bY,cO,c6,Z,c8,da,eQ,dh,er⟩)
 refine zk ?_ ?_
 refine OKS.mapPut (x:=.tmp 13) (y:=.tmp 14) (j:=1) (mk:=wBB) (mv:=wBC) (a:=ae) (v:=0) rfl rfl rfl (by first | exact .inl rfl | exact .inr rfl) dh rfl c8 da rfl (wBV ZI) wCH er rfl ?_
 intro f9 fZ jO qm pK
 have pL:sW w U co [.blk b2 28 B0,.obj bg (.map f9 fZ)] jO:=pK
 exact qw _ _ ⟨co,bg,f9,fZ,c6,c8,da,eQ,pL,qm⟩
 refine zT (cs:=[.pointer none]) Z Z Z Z Z yF Z dh ?_
 intro sc k9 pM
 exact eJ _ _ ⟨co,k9,bg,bY,cO,c6,rfl,c8,da,eQ,(pM.pick [1,0,2] _ (by decide) rfl),er⟩
 refine ZP (s:=gDm) (M:=fun σ_ w_=>∃ (U_:PHeap) (bs:Nat),σ_ 1=.pointer (some ⟨b2,0,none⟩)/\σ_ 3=.pointer (some ⟨bs,0,none⟩)/\σ_ 12=.agg B0.toArray/\PHeap.Le U U_/\sW w U U_ [.blk b2 28 B0,.blk bs 99 [.pointer none]] w_) ?_ fun iM=>?_
 rintro tg jP ⟨fH,bs,gW,gX,gY,iY,iy⟩
 refine zk ?_ ?_
 refine OKS.makeMap Z Z Z Z Z iy ?_
 intro sd lc pN
 have qn:=MpR.nil wBB wBC
 exact eL _ _ ⟨fH,bs,lc,#[],0,gW,gX,gY,rfl,iY,(pN.pick [1,2,0] _ (by decide) rfl),qn⟩
 refine zE 0 Z Z Z Z (zD Z Z yY zK Z) iy (fun hs=>wBK jP fH hs a7) (.inr Z) ?_
 rintro fI q7 sJ jQ qO pO ⟨rfl,rfl⟩
 have mM:sW w U fI [.blk b2 28 B0,.blk bs 99 [.pointer none]] jQ:=pO
 exact eK _ _ ⟨fI,bs,gW,gX,gY,Z,(iY.trans qO),mM⟩
 refine ZP (s:=gDl) (M:=fun σ_ w_=>∃ (U_:PHeap),σ_ 1=.pointer (some ⟨b2,0,none⟩)/\σ_ 12=.agg B0.toArray/\σ_ 14=.agg #[jV ae.skier,jV ae.mat]/\PHeap.Le U U_/\sW w U U_ [.blk b2 28 B0] w_) ?_ fun iE=>?_
 rintro sN q8 ⟨fg,ga,gb,ge,iO,ik⟩
 refine zk ?_ ?_
 refine OKS.makeMap Z Z Z Z Z ik ?_
 intro q9 jR mN
 have qa:=MpR.nil wBB wBC
 exact eM _ _ ⟨fg,jR,#[],0,ga,gb,rfl,ge,iO,(mN.pick [1,0] _ (by decide) rfl),qa⟩
 refine zT (cs:=[.pointer none]) Z Z Z Z Z yF Z ik ?_
 intro rc jS mO
 exact eK _ _ ⟨fg,jS,ga,rfl,gb,ge,iO,(mO.pick [1,0] _ (by decide) rfl)⟩
 refine ZP (s:=gDk) (M:=fun σ_ w_=>∃ (U_:PHeap) (bj:Nat) (bu:Array MapEntry) (bN:Nat),σ_ 1=.pointer (some ⟨b2,0,none⟩)/\σ_ 12=.agg B0.toArray/\σ_ 13=.map (some bj)/\PHeap.Le U U_/\sW w U U_ [.blk b2 28 B0,.obj bj (.map bu bN)] w_/\MpR bu wBB wBC ([]:List (wAH × Int))) ?_ fun iF=>?_
 rintro sO jf ⟨fh,bj,bu,bN,gf,gg,gh,iP,il,gZ⟩
 refine zk ?_ ?_
 refine zE 0 Z Z Z Z (zD Z Z yY zK Z) il (fun hs=>wBK jf fh hs a7) (.inr Z) ?_
 rintro fj qR sA jg qx mP ⟨rfl,rfl⟩
 have mQ:sW w U fj [.blk b2 28 B0,.obj bj (.map bu bN)] jg:=mP
 exact eM _ _ ⟨fj,bj,bu,bN,gf,gg,gh,Z,(iP.trans qx),mQ,gZ⟩
 refine zT (cs:=[.pointer none]) Z Z Z Z Z yF Z il ?_
 intro rd jT mR
 exact eL _ _ ⟨fh,jT,bj,bu,bN,gf,rfl,gg,gh,iP,(mR.pick [1,0,2] _ (by decide) rfl),gZ⟩
 refine zk ?_ ?_
 refine ZY Z Z Z Z (a9.ldBA (j:=0) Z Z Z ze zZ (vs:=B0) Z Z) (zk ?_ ?_)
 refine OKS.makeMap Z Z Z Z Z a9 ?_
 intro re jU mS
 have qb:=MpR.nil wBB wBC
 exact iF _ _ ⟨U,jU,#[],0,rfl,rfl,rfl,(zW _),(mS.pick [1,0] _ (by decide) rfl),qb⟩
 refine zk ?_ ?_
 refine zE 0 Z Z Z Z (zD Z Z yY zK Z) a9 (fun hs=>wBK fN U hs a7) (.inr Z) ?_
 rintro fk qS sB jh qy mT ⟨rfl,rfl⟩
 have mU:sW w U fk [.blk b2 28 B0] jh:=mT
 exact iE _ _ ⟨fk,Z,Z,Z,qy,mU⟩
 refine zT (cs:=[.pointer none]) Z Z Z Z Z yF Z a9 ?_
 intro rf jW mV
 exact iM _ _ ⟨U,jW,rfl,rfl,rfl,(zW _),(mV.pick [1,0] _ (by decide) rfl)⟩
 refine zk ?_ ?_
 refine OKS.makeMap Z Z Z Z Z a9 ?_
 intro ji cp de
 have eI:=MpR.nil wBB wBC
 refine zk ?_ ?_
 exact ZY rfl rfl rfl rfl (de.ldBA (j:=1) rfl rfl rfl ze zZ (vs:=B0) rfl rfl) (iF _ _ ⟨U,cp,#[],0,rfl,rfl,rfl,(zW _),(de.pick [1,0] _ (by decide) rfl),eI⟩)
 refine zk ?_ ?_
 refine zE 0 Z Z Z Z (zD Z Z yY zK Z) de (fun hs=>wBK ji U hs a7) (.inr Z) ?_
 rintro fm qT sC jj qz mW ⟨rfl,rfl⟩
 have mX:sW w U fm [.obj cp (.map #[] 0),.blk b2 28 B0] jj:=mW
 exact iL _ _ ⟨fm,cp,#[],0,rfl,rfl,rfl,qz,(mX.pick [1,0] _ (by decide) rfl),eI⟩
 refine zT (cs:=[.pointer none]) Z Z Z Z Z yF Z de ?_
 intro rh jX mY
 exact iK _ _ ⟨U,jX,cp,#[],0,rfl,rfl,rfl,(zW _),(mY.pick [2,0,1] _ (by decide) rfl),eI⟩
 refine zk ?_ ?_
 refine zE 0 Z Z Z Z (zD Z Z yY zK Z) a9 (fun hs=>wBK fN U hs a7) (.inr Z) ?_
 rintro cm qU sD jk eO mZ ⟨rfl,rfl⟩
 have df:sW w U cm [.blk b2 28 B0] jk:=mZ
 refine zk ?_ ?_
 exact ZY Z Z Z Z (df.ldBA (j:=0) Z Z Z ze zZ (vs:=B0) Z Z) (iE _ _ ⟨cm,Z,Z,Z,eO,df⟩)
 refine zk ?_ ?_
 refine OKS.makeMap Z Z Z Z Z df ?_
 intro ri jY m4
 have qc:=MpR.nil wBB wBC
 exact iL _ _ ⟨cm,jY,#[],0,rfl,rfl,rfl,eO,(m4.pick [1,0] _ (by decide) rfl),qc⟩
 refine zT (cs:=[.pointer none]) Z Z Z Z Z yF Z df ?_
 intro rj jZ m5
 exact iJ _ _ ⟨cm,jZ,rfl,rfl,rfl,eO,(m5.pick [1,0] _ (by decide) rfl)⟩
 refine zT (cs:=[.pointer none]) Z Z Z Z Z yF Z a9 ?_
 intro jl cq dg
 refine zk ?_ ?_
 exact ZY rfl rfl rfl rfl (dg.ldBA (j:=1) rfl rfl rfl ze zZ (vs:=B0) rfl rfl) (iM _ _ ⟨U,cq,rfl,rfl,rfl,(zW _),(dg.pick [1,0] _ (by decide) rfl)⟩)
 refine zk ?_ ?_
 refine OKS.makeMap Z Z Z Z Z dg ?_
 intro rk j0 m6
 have qd:=MpR.nil wBB wBC
 exact iK _ _ ⟨U,cq,j0,#[],0,rfl,rfl,rfl,(zW _),(m6.pick [2,1,0] _ (by decide) rfl),qd⟩
 refine zE 0 Z Z Z Z (zD Z Z yY zK Z) dg (fun hs=>wBK jl U hs a7) (.inr Z) ?_
 rintro fq qV sE jm qA m7 ⟨rfl,rfl⟩
 have m8:sW w U fq [.blk cq 99 [.pointer none],.blk b2 28 B0] jm:=m7
 exact iJ _ _ ⟨fq,cq,rfl,rfl,rfl,qA,(m8.pick [1,0] _ (by decide) rfl)⟩
 rintro sP jo ⟨i5,b6,b8,af,bQ,cH,gi,lh,dm,im,mi⟩
 refine zM (sR (.fl 0 (.fx 1 .nil .stop)) Z (oL Z (im.ldBA (j:=0) Z Z gi ze zZ (vs:=B0) Z Z) ?_))
 have g6:=pQ.le dm
 have g7:=pR.le dm
 have g8:=pT.le dm
 have g9:=pU.le dm
 have q:=bnd pY
 obtain ⟨⟨⟩,mj,iB⟩:=q
 try dsimp only at iB
 refine zE 0 Z Z Z Z (zD Z Z Try.call81 (zB Z zK) Z) im (fun hs=>wEZ p0 ag ak ah am ai an aj ao jo i5 hs g6 g7 g8 g9 mj) (.inr Z) ?_
 rintro ft qW sF jp dn m9 ⟨fP,rfl,rfl,ml⟩
 let B6:Res:=.blk b6 99 [.pointer (some ⟨b8,0,none⟩)]
 have n3:sW w U ft [.blk b2 28 B0,B6,.blk b8 124 [.slice ag p0.Starts.length ak,.slice ah p0.Splits.length am,.slice ai p0.Clocks.length an,.slice aj p0.Readings.length ao,.map (some af),.slice none 0 0],.obj af (.map bQ cH)] jp:=m9
 refine eN (zc (yX fun du di=>?_))
 have li:du 1=.pointer (some ⟨b2,0,none⟩):=(di 1).trans gi
 have gj:du 3=.pointer (some ⟨b6,0,none⟩):=(di 3).trans lh
 have lj:du 19=.func (.func 105) #[] #[.pointer (some ⟨fP,0,none⟩)]:=(di 19).trans rfl
 clear di
 have n4:=n3.nilrow 130 7
 refine bnK iB fun i2 pX iC=>?_
 have eh:=g6.le dn
 have ej:=g7.le dn
 have ek:=g8.le dn
 have en:=g9.le dn
 refine CK.rangeY (S:=(List wAX) × (List (wAH × Int))) (E:=Empty) (ar:=wKD) (PY:=(fun (s_:(List wAX) × (List (wAH × Int))) (U_:PHeap) (L_:List Res)=>match s_ with | (l1591,l1595)=>∃ (bi:Option Addr) (bt:Nat) (aX:Array MapEntry) (aY:Nat),L_=[.blk b2 28 B0,B6,.row bi bt 130 7 (hD wAP l1591),.blk b8 124 [.slice ag p0.Starts.length ak,.slice ah p0.Splits.length am,.slice ai p0.Clocks.length an,.slice aj p0.Readings.length ao,.map (some af),.slice bi l1591.length bt],.obj af (.map aX aY)]/\MpR aX wBB wBC l1595)) (PE:=(fun (_:Empty) _ _=>False)) (exO:=Empty.elim) (s0:=([],iN)) (rr:=i2) lj Try.call105 (n4.pick [1,2,0,3,4] _ (by decide) rfl) (by decide) (fun _ _ _ h=>by obtain rfl:=h;rfl) (fun e=>nomatch e) ⟨none,0,bQ,cH,rfl,mi⟩ (fun l w1 L1 PY' PE' mL mJ pP=>wEH PY' PE' _ l _ p0 fP ag ak ah am ai an aj ao w1 L1 ft mL mJ pP ml eh ej ek en pX) ?_ ?_
 rintro ay sw sq ⟨l1591,l1595⟩ ap sK sv dr qX qQ eU aL dp n5 mK pS iz dt bx
 obtain ⟨bi,bt,aX,aY,rfl,mm⟩:=mK
 obtain rfl:=pS
 replace bx:∀ t,dt t=upd du 20 (.agg #[jV ap.Kind,jV ap.Skier,jV ap.Index,.bool ap.Up]) t:=bx
 have lk:dt 20=.agg #[jV ap.Kind,jV ap.Skier,jV ap.Index,.bool ap.Up]:=(bx 20).trans (wEf _ _ _)
 have gp:dt 1=.pointer (some ⟨b2,0,none⟩):=(bx 1).trans ((wEV _ _ (by decide)).trans li)
 have lm:dt 3=.pointer (some ⟨b6,0,none⟩):=(bx 3).trans ((wEV _ _ (by decide)).trans gj)
 clear bx
 let B7:Res:=.blk b8 124 [.slice ag p0.Starts.length ak,.slice ah p0.Splits.length am,.slice ai p0.Clocks.length an,.slice aj p0.Readings.length ao,.map (some af),.slice bi l1591.length bt]
 let B8:Res:=.row bi bt 130 7 (hD wAP l1591)
 have n6:St aL dr [.obj ay eU,.blk b2 28 B0,B6,B8,B7,.obj af (.map aX aY)] qQ:=n5
 try dsimp only at iz
 refine rR gCb Z (zT (cs:=[jV 0,jV 0,jV 0,.bool false]) Z Z Z Z Z Zv Z n6 ?_)
 intro rn ax n7
 let B9:List Value:=[jV ap.Kind,jV ap.Skier,jV ap.Index,.bool ap.Up]
 refine zV (j:=0) (vs:=B9) Z Z Z Z n7 Z Z lk Z ZU (zA Z) Z Z Z ?_
 intro jq n8
 have n9:St aL dr [.blk ax 78 B9,.obj ay eU,.blk b2 28 B0,B6,B8,B7,.obj af (.map aX aY)] jq:=n8
 refine zg ⟨rfl,rfl,_,_,(n9.pick [1,0,2,3,4,5,6] [.obj ay eU,.blk ax 78 B9,.blk b2 28 B0,B6,B8,B7,.obj af (.map aX aY)] (by decide) rfl),fun fK aP oc=>?_⟩
 have eu:St aL dr [.obj ay aP,.blk ax 78 B9,.blk b2 28 B0,B6,B8,B7,.obj af (.map aX aY)] fK:=oc
 refine zc (sR (.fl 0 (.fl 1 (.fx 2 (wIS (.fx 7 (.fx 8 (.fx 9 (.fx 10 (.fl 11 .nil) .stop) .stop) .stop) .stop)) .stop))) Z (oL Z (eu.ldBA (j:=2) Z Z gp ze zZ (vs:=B0) Z Z) (oL Z (eu.ldBA (j:=1) Z Z Z Zt ZU (vs:=B9) Z Z) ?_)))
 have mn:=eh.le dp
 have mo:=ej.le dp
 have mp:=ek.le dp
 have mq:=en.le dp
 have q:=bnd iz
 obtain ⟨⟨az,aJ,aT⟩,mr,iD⟩:=q
 try dsimp only at iD
 refine zE 0 Z Z Z Z (zD Z Z yk (zB Z (zB Z zK)) Z) eu (fun hs=>wAm p0 ag ak ah am ai an aj ao ap fK dr hs mn mo mp mq mr) (.inr Z) ?_
 rintro bD qY sG jr ss od ⟨rfl,rfl⟩
 have oe:St aL bD [.obj ay aP,.blk ax 78 B9,.blk b2 28 B0,B6,B8,B7,.obj af (.map aX aY)] jr:=od
 refine oM Z Z (oR Z (zP Z Z (v:=.agg #[jV az.skier,jV az.mat]) Z) (oR Z (zP Z Z (v:=.agg #[jV aJ.skier,jV aJ.mat]) Z) (oR Z (zP Z Z (v:=jV aT) Z) ?_)))
 let cj:List Value:=[jV 0,jV 0]
 refine zT (cs:=cj) Z Z Z Z Z za Z oe ?_
 intro ro aQ og
 refine zT (cs:=cj) Z Z Z Z Z za Z og ?_
 intro rp aR oh
 let aK:List Value:=[jV az.skier,jV az.mat]
 refine zV (j:=1) (vs:=aK) Z Z Z Z oh Z Z Z Z zI (zA Z) Z Z Z ?_
 intro jt oi
 have oj:St aL bD [.blk aR 104 cj,.blk aQ 104 aK,.obj ay aP,.blk ax 78 B9,.blk b2 28 B0,B6,B8,B7,.obj af (.map aX aY)] jt:=oi
 let aM:List Value:=[jV aJ.skier,jV aJ.mat]
 refine zV (j:=0) (vs:=aM) Z Z Z Z oj Z Z Z Z zI (zA Z) Z Z Z ?_
 intro ju om
 have ew:St aL bD [.blk aR 104 aM,.blk aQ 104 aK,.obj ay aP,.blk ax 78 B9,.blk b2 28 B0,B6,B8,B7,.obj af (.map aX aY)] ju:=om
 refine oA Z Z (eN (zM (sR fL4 Z (oL Z (ew.ldBA (j:=1) Z Z Z zi zI (vs:=aK) Z Z) (oL Z (ew.ldBA (j:=0) Z Z Z zi zI (vs:=aM) Z Z) ?_)))))
 let eW:List Value:=[jV az.skier,jV az.mat,jV aJ.skier,jV aJ.mat]
 refine oR Z (Runs.buildA (pv:=[(0,.agg aK.toArray),(1,.agg aM.toArray)]) (z:=[jV 0,jV 0,jV 0,jV 0]) (cs:=eW) Z (wAF Z (wAF Z wAO)) Try.zeroValue180 Try.runUnderlying180 zI Z Z) (oM Z Z (eN (zc (bnK iD fun aw pV pZ=>?_))))
 have q:=wBn pV
 obtain ⟨eG,pW⟩:=q
 replace eG:=zS eG
 refine CK.forN' (fun cc cd σ_ w_=>∃ (U_:PHeap) (bR:Array MapEntry) (cI:Nat),σ_ 31=jV (↑cc:Int)/\σ_ 1=.pointer (some ⟨b2,0,none⟩)/\σ_ 3=.pointer (some ⟨b6,0,none⟩)/\σ_ 4=.pointer (some ⟨ax,0,none⟩)/\σ_ 5=.pointer (some ⟨aQ,0,none⟩)/\σ_ 6=.pointer (some ⟨aR,0,none⟩)/\σ_ 7=jV aT/\σ_ 30=.agg eW.toArray/\PHeap.Le bD U_/\St aL U_ [.blk aR 104 aM,.blk aQ 104 aK,.obj ay aP,.blk ax 78 B9,.blk b2 28 B0,B6,B8,B7,.obj af (.map bR cI)] w_/\MpR bR wBB wBC cd) pW ?_ ?_ ?_
 exact ⟨bD,aX,aY,Z,gp,lm,Z,Z,Z,Z,Z,(zW _),ew,mm⟩
 rintro cc cd sL sQ rq eE ⟨cn,bR,cI,db,gq,bZ,gt,gu,gv,gw,dR,iQ,oq,dd⟩ qp
 have fR:Hid ((↑cc:Int) < 2):=zS (wBD eE)
 replace eE:=zS eE
 have iA:Hid (w64 ((↑cc:Int) + 1)=(↑(cc + 1):Int)):=zS (by have h1:=eG.out;have h2:=fR.out;rw [wAU] <;> omega)
 refine sR fL1 Z (oR Z (zh Z db Z) (eN (zM (cT Z fR (kN (zM (zc (sR gCg Z (bnK qp fun bz eo p6=>oR Z (yj (cs:=hD wBZ ([az,aJ]:List wAH)) Z dR db Try.runUnderlying180 zI (wBJ eo) (wBL eo) (wCr zi zI (wHw (sz:=2) (fun _=>Z) _ _ (wAW eo)))) (zT (cs:=cj) Z Z Z Z Z za Z oq ?_))))))))))
 intro rv fQ ot
 let bA:List Value:=[jV bz.skier,jV bz.mat]
 refine zV (j:=0) (vs:=bA) Z Z Z Z ot Z Z Z Z zI (zA Z) Z Z Z ?_
 intro dE ou
 have ov:St aL cn [.blk fQ 104 bA,.blk aR 104 aM,.blk aQ 104 aK,.obj ay aP,.blk ax 78 B9,.blk b2 28 B0,B6,B8,B7,.obj af (.map bR cI)] dE:=ou
 refine eN (zM (ZA ZB [1,3,3,1,1,1,3,3,3,3,3] wMQ (by kernel_rfl) ?_))
 have bh:=ov.drew
 generalize hw_W1729:({ dE with drawn:=dE.drawn + 1 }:World)=fL at bh ⊢
 refine oL Z (bh.ldB (j:=6) Z Z bZ ya (v:=.pointer (some ⟨b8,0,none⟩)) Z) (oR Z (Za Z Z) (oR Z (zJ Z Z ZF Z Zs) (oL Z (bh.ldB (j:=8) Z Z Z Zx (v:=.map (some af)) Z) (oL Z (bh.ldBA (j:=0) Z Z Z zi zI (vs:=bA) Z Z) (oL Z (bh.lookup2 (j:=9) (mk:=wBB) (mv:=wBC) (a:=bz) (z:=0) Z Z Z Z (wBV ZI) wCH zw dd) (oM Z Z (oR Z (zP Z Z (v:=jV (wAr cd bz 0)) Z) (oR Z (zP Z Z (v:=.bool (wJl cd bz)) Z) (oA Z Z (oA Z Z (eN (sR fL2 Z (oM Z Z (oR Z (ZT Z Z) (eN (ifc p6 ?_ ?_))))))))))))))))
 intro dF p7
 refine zn (nC dF.out) (Zl (ZH (zL (rR fL2 Z (oR Z (ZS (zf Z db Z) (congrArg (jV) iA.out)) (oM Z Z (zg ?_)))))))
 cases p7
 exact zL ⟨rfl,⟨cn,bR,cI,rfl,gq,bZ,gt,gu,gv,gw,dR,iQ,(bh.pick [1,2,3,4,5,6,7,8,9] _ (by decide) rfl),dd⟩⟩
 intro dF p8
 refine ZD (nF (dF.out)) (ZA ZB [1,3,3,1,1,1,3,3,1,1,0] (wME (.fx 10 .nil .stop)) (by kernel_rfl) ?_)
 have a8:=bh.drew
 generalize hw_W1737:({ fL with drawn:=fL.drawn + 1 }:World)=rx at a8 ⊢
 refine zl rfl rfl rfl rfl (a8.ldB (j:=6) rfl rfl bZ ya (v:=.pointer (some ⟨b8,0,none⟩)) rfl) rfl (zY rfl rfl rfl rfl (fun _=>Za rfl rfl) (zY rfl rfl rfl rfl (fun _=>zJ rfl rfl ZF rfl Zs) (zl rfl rfl rfl rfl (a8.ldB (j:=8) rfl rfl rfl Zx (v:=.map (some af)) rfl) rfl (zl rfl rfl rfl rfl (a8.ldBA (j:=0) rfl rfl rfl zi zI (vs:=bA) rfl rfl) rfl (zl rfl rfl rfl rfl (a8.ldB (j:=6) rfl rfl bZ ya (v:=.pointer (some ⟨b8,0,none⟩)) rfl) rfl (zY rfl rfl rfl rfl (fun _=>Za rfl rfl) (zY rfl rfl rfl rfl (fun _=>zJ rfl rfl ZF rfl Zs) (zl rfl rfl rfl rfl (a8.ldB (j:=8) rfl rfl rfl Zx (v:=.map (some af)) rfl) rfl (zl rfl rfl rfl rfl (a8.lenM (j:=9) (mk:=wBB) (mv:=wBC) rfl rfl rfl (wBV ZI) dd) rfl (OKS.mapPut (x:=.tmp 48) (y:=.tmp 49) (z:=.tmp 54) (j:=9) (mk:=wBB) (mv:=wBC) (a:=bz) (v:=(↑(cd.length):Int)) rfl rfl rfl (by first | exact .inl rfl | exact .inr rfl) a8 rfl rfl rfl rfl (wBV ZI) wCH dd rfl ?_))))))))))
 intro f4 fS jv qe ow
 have ox:St aL cn [.blk fQ 104 bA,.blk aR 104 aM,.blk aQ 104 aK,.obj ay aP,.blk ax 78 B9,.blk b2 28 B0,B6,B8,B7,.obj af (.map f4 fS)] jv:=ow
 refine zg (ZH (zL (rR fL2 Z (oR Z (ZS (zf Z db Z) (congrArg (jV) iA.out)) (oM Z Z (zg ?_))))))
 cases p8
 exact zL ⟨rfl,⟨cn,f4,fS,rfl,gq,bZ,gt,gu,gv,gw,dR,iQ,(ox.pick [1,2,3,4,5,6,7,8,9] _ (by decide) rfl),qe⟩⟩
 rintro sS fM ⟨a5,aW,aV,mh,sf,bw,ln,lp,lq,ls,sg,su,oy,ca⟩
 have lf:Hid (¬ ((↑((2:Int) - 0).toNat:Int) < 2)):=zS (wAh)
 refine sR fL1 rfl (zY rfl rfl rfl rfl (fun _=>zh rfl mh rfl) (eN (zM (cF Z lf (Zf (zx (zx (Zc (zL (bnK pZ fun aU ep eH=>ZA ZB [2,1,3,3,1,1,1,3,3,1,1,1,1,3,3,1,1,1,3,3,2,0,3,3,0] (wNJ (.fx 0 (.fx 20 gCp .stop) (.fx 20 (.fx 0 gCp (.fx 21 (.fx 0 gCh .stop) .stop)) .stop))) (by kernel_rfl) ?_))))))))))
 have aO:=oy.drew
 generalize hw_W1786:({ fM with drawn:=fM.drawn + 1 }:World)=ry at aO ⊢
 refine oL Z (aO.ldB (j:=5) Z Z bw ya (v:=.pointer (some ⟨b8,0,none⟩)) Z) (oR Z (Za Z Z) (oR Z (zJ Z Z ZF Z yh) (oL Z (aO.ldB (j:=7) Z Z Z Try.isAgg122 (v:=.slice bi l1591.length bt) Z) (oL Z (aO.ldBA (j:=3) Z Z ln Zt ZU (vs:=B9) Z Z) (oL Z (aO.ldB (j:=5) Z Z bw ya (v:=.pointer (some ⟨b8,0,none⟩)) Z) (oR Z (Za Z Z) (oR Z (zJ Z Z ZF Z Zs) (oL Z (aO.ldB (j:=7) Z Z Z Zx (v:=.map (some af)) Z) (oL Z (aO.ldBA (j:=1) Z Z lp zi zI (vs:=aK) Z Z) (oL Z (aO.lookup1 (j:=8) (mk:=wBB) (mv:=wBC) (a:=az) (z:=0) Z Z Z Z (wBV ZI) wCH zw ca) (oL Z (aO.ldB (j:=5) Z Z bw ya (v:=.pointer (some ⟨b8,0,none⟩)) Z) (oR Z (Za Z Z) (oR Z (zJ Z Z ZF Z Zs) (oL Z (aO.ldB (j:=7) Z Z Z Zx (v:=.map (some af)) Z) (oL Z (aO.ldBA (j:=0) Z Z lq zi zI (vs:=aM) Z Z) (oL Z (aO.lookup1 (j:=8) (mk:=wBB) (mv:=wBC) (a:=aJ) (z:=0) Z Z Z Z (wBV ZI) wCH zw ca) (oM Z ls ?_)))))))))))))))))
 let bB:List Value:=[jV ap.Kind,jV ap.Skier,jV ap.Index,.bool ap.Up,jV (wAr aw az 0),jV (wAr aw aJ 0),jV aT]
 let dw:List Value:=[jV 0,jV 0,jV 0,.bool false,jV 0,jV 0,jV 0]
 refine oR Z (zo (pv:=[(0,.agg B9.toArray),(1,jV (wAr aw az 0)),(2,jV (wAr aw aJ 0)),(3,jV aT)]) (z:=dw) (cs:=bB) Z (wAF Z (wAF Z (wAF Z (wAF Z wAO)))) Try.zeroValue130 wKG Z Z) (zk ?_ ?_)
 refine ZY Z Z Z Z (aO.ldB (j:=5) Z Z bw ya (v:=.pointer (some ⟨b8,0,none⟩)) Z) (ZE (pv:=[(0,.agg bB.toArray)]) (zs:=dw) (cs:=bB) Z Z Z Z Z (wAF Z wAO) yl ym Try.zeroValue130 Z Z Z Z Z aO ?_)
 intro jw j1 oz
 let dx:Res:=.row (some ⟨j1,0,none⟩) 1 130 7 (hD wAP [(⟨ap,(wAr aw az 0),(wAr aw aJ 0),aT⟩:wAX)])
 have io:St aL a5 [dx,.blk aR 104 aM,.blk aQ 104 aK,.obj ay aP,.blk ax 78 B9,.blk b2 28 B0,B6,B8,B7,.obj af (.map aW aV)] jw:=oz
 refine yP (j:=7) (enc:=wAP) (xs:=l1591) (ys:=[(⟨ap,(wAr aw az 0),(wAr aw aJ 0),aT⟩:wAX)]) (zs:=aU) rfl rfl rfl rfl rfl Try.underlying122 wIf rfl rfl rfl rfl rfl rfl io rfl rfl rfl (io.srcR (j:=0) rfl (by decide) (wAE (f:=wAP) (sz:=7) (fun _=>rfl) [(⟨ap,(wAr aw az 0),(wAr aw aJ 0),aT⟩:wAX)])) (fun _=>rfl) (fun _=>rfl) ep rfl ?_
 intro cf cC jx oB
 let eX:Res:=.row cf cC 130 7 (hD wAP aU)
 have oC:St aL a5 [dx,.blk aR 104 aM,.blk aQ 104 aK,.obj ay aP,.blk ax 78 B9,.blk b2 28 B0,B6,eX,B7,.obj af (.map aW aV)] jx:=oB
 refine oR Z (Za Z Z) (oR Z (zJ Z Z ZF Z yh) (zV (j:=8) (vs:=[.slice cf aU.length cC]) Z Z Z Z oC Z Z Z Z yh (zA Z) Z Z Z ?_))
 intro jy oD
 have oE:St aL a5 [dx,.blk aR 104 aM,.blk aQ 104 aK,.obj ay aP,.blk ax 78 B9,.blk b2 28 B0,B6,eX,.blk b8 124 [.slice ag p0.Starts.length ak,.slice ah p0.Splits.length am,.slice ai p0.Clocks.length an,.slice aj p0.Readings.length ao,.map (some af),.slice cf aU.length cC],.obj af (.map aW aV)] jy:=oD
 refine zg (ZH ?_)
 obtain rfl:=nD eH
 exact ⟨_,_,(oE.pick [3,5,6,7,8,9] _ (by decide) rfl),rfl,⟨cf,cC,aW,aV,rfl,ca⟩⟩
 refine ZE (pv:=[(0,.agg bB.toArray)]) (zs:=dw) (cs:=bB) Z Z Z Z Z (wAF Z wAO) yl ym Try.zeroValue130 Z Z Z Z Z aO ?_
 intro jz j2 oG
 let bC:Res:=.row (some ⟨j2,0,none⟩) 1 130 7 (hD wAP [(⟨ap,(wAr aw az 0),(wAr aw aJ 0),aT⟩:wAX)])
 have cb:St aL a5 [bC,.blk aR 104 aM,.blk aQ 104 aK,.obj ay aP,.blk ax 78 B9,.blk b2 28 B0,B6,B8,B7,.obj af (.map aW aV)] jz:=oG
 refine zk ?_ ?_
 refine ZY rfl rfl rfl rfl (cb.ldB (j:=6) rfl rfl bw ya (v:=.pointer (some ⟨b8,0,none⟩)) rfl) (yP (j:=7) (enc:=wAP) (xs:=l1591) (ys:=[(⟨ap,(wAr aw az 0),(wAr aw aJ 0),aT⟩:wAX)]) (zs:=aU) rfl rfl rfl rfl rfl Try.underlying122 wIf rfl rfl rfl rfl rfl rfl cb rfl rfl rfl (cb.srcR (j:=0) rfl (by decide) (wAE (f:=wAP) (sz:=7) (fun _=>rfl) [(⟨ap,(wAr aw az 0),(wAr aw aJ 0),aT⟩:wAX)])) (fun _=>rfl) (fun _=>rfl) ep rfl ?_)
 intro cg cD jA oH
 let eZ:Res:=.row cg cD 130 7 (hD wAP aU)
 have oI:St aL a5 [bC,.blk aR 104 aM,.blk aQ 104 aK,.obj ay aP,.blk ax 78 B9,.blk b2 28 B0,B6,eZ,B7,.obj af (.map aW aV)] jA:=oH
 refine oR Z (Za Z Z) (oR Z (zJ Z Z ZF Z yh) (zV (j:=8) (vs:=[.slice cg aU.length cD]) Z Z Z Z oI Z Z Z Z yh (zA Z) Z Z Z ?_))
 intro jB oJ
 have oK:St aL a5 [bC,.blk aR 104 aM,.blk aQ 104 aK,.obj ay aP,.blk ax 78 B9,.blk b2 28 B0,B6,eZ,.blk b8 124 [.slice ag p0.Starts.length ak,.slice ah p0.Splits.length am,.slice ai p0.Clocks.length an,.slice aj p0.Readings.length ao,.map (some af),.slice cg aU.length cD],.obj af (.map aW aV)] jB:=oJ
 refine zg (ZH ?_)
 obtain rfl:=nD eH
 exact ⟨_,_,(oK.pick [3,5,6,7,8,9] _ (by decide) rfl),rfl,⟨cg,cD,aW,aV,rfl,ca⟩⟩
 refine yP (j:=7) (enc:=wAP) (xs:=l1591) (ys:=[(⟨ap,(wAr aw az 0),(wAr aw aJ 0),aT⟩:wAX)]) (zs:=aU) rfl rfl rfl rfl rfl Try.underlying122 wIf rfl rfl rfl rfl rfl rfl cb rfl rfl rfl (cb.srcR (j:=0) rfl (by decide) (wAE (f:=wAP) (sz:=7) (fun _=>rfl) [(⟨ap,(wAr aw az 0),(wAr aw aJ 0),aT⟩:wAX)])) (fun _=>rfl) (fun _=>rfl) ep rfl ?_
 intro ci cE jC oO
 let fb:Res:=.row ci cE 130 7 (hD wAP aU)
 have ip:St aL a5 [bC,.blk aR 104 aM,.blk aQ 104 aK,.obj ay aP,.blk ax 78 B9,.blk b2 28 B0,B6,fb,B7,.obj af (.map aW aV)] jC:=oO
 refine ZY Z Z Z Z (ip.ldB (j:=6) Z Z bw ya (v:=.pointer (some ⟨b8,0,none⟩)) Z) (oR Z (Za Z Z) (oR Z (zJ Z Z ZF Z yh) (zV (j:=8) (vs:=[.slice ci aU.length cE]) Z Z Z Z ip Z Z Z Z yh (zA Z) Z Z Z ?_)))
 intro jD oP
 have oQ:St aL a5 [bC,.blk aR 104 aM,.blk aQ 104 aK,.obj ay aP,.blk ax 78 B9,.blk b2 28 B0,B6,fb,.blk b8 124 [.slice ag p0.Starts.length ak,.slice ah p0.Splits.length am,.slice ai p0.Clocks.length an,.slice aj p0.Readings.length ao,.map (some af),.slice ci aU.length cE],.obj af (.map aW aV)] jD:=oP
 refine zg (ZH ?_)
 obtain rfl:=nD eH
 exact ⟨_,_,(oQ.pick [3,5,6,7,8,9] _ (by decide) rfl),rfl,⟨ci,cE,aW,aV,rfl,ca⟩⟩
 rintro iZ dB qZ jE dq oS
 rcases i2 with ⟨i3,sM⟩ | lg
 try dsimp only at iC
 rintro ⟨dv,dG,cP,cG,rfl,ms⟩
 let dz:Res:=.blk b8 124 [.slice ag p0.Starts.length ak,.slice ah p0.Splits.length am,.slice ai p0.Clocks.length an,.slice aj p0.Readings.length ao,.map (some af),.slice dv i3.length dG]
 let dA:Res:=.row dv dG 130 7 (hD wAP i3)
 have iq:sW w U dB [.blk b2 28 B0,B6,dA,dz,.obj af (.map cP cG),.obj iZ (.deferred (some []))] jE:=oS
 refine ZH (zL (sR fL2 Z (oL Z (iq.ldB (j:=1) Z Z gj ya (v:=.pointer (some ⟨b8,0,none⟩)) Z) (oA Z Z (eN (zU ?_))))))
 have mu:=eh.le dq
 have mw:=ej.le dq
 have mx:=ek.le dq
 have my:=en.le dq
 refine wDG (by first | exact .inl rfl | exact .inr rfl) (rbs:=[iZ]) (L:=[.blk b2 28 B0,B6,dA,dz,.obj af (.map cP cG)]) iq fun jF oU=>?_
 have oV:sW w U dB [.blk b2 28 B0,B6,dA,dz,.obj af (.map cP cG)] jF:=oU
 cases iC
 exact ⟨_,(ZL rfl),dB,_,(oV.pick [3,4,2] _ (by decide) rfl),b8,ag,ak,ah,am,ai,an,aj,ao,af,cP,cG,dv,dG,rfl,rfl,mu,mw,mx,my,ms⟩
 exact lg.elim
end Go.Proofs.Ytlnfbjphfoipaaa
namespace Go.Proofs.Ytlnfbjphfoipaaa
open Go.KL
set_option maxHeartbeats 4000000
theorem wDK (p0:wAC) (ae:Option Addr) (ai:Nat) (af:Option Addr) (aj:Nat) (ag:Option Addr) (ak:Nat) (ah:Option Addr) (am:Nat) (w:World) (U:PHeap) (hS:St0 w U []) (aW:Sl U 1 ae ai p0.Starts.length (hD KL.encI p0.Starts)) (aX:Sl U 2 af aj p0.Splits.length (hD wAG p0.Splits)) (aY:Sl U 3 ag ak p0.Clocks.length (hD wAA p0.Clocks)) (aZ:Sl U 4 ah am p0.Readings.length (hD wAB p0.Readings)) {r:(Option wAY) × Int} (hm:wBj p0=some r):Gv Try.prog 60 [.agg #[.slice ae p0.Starts.length ai,.slice af p0.Splits.length aj,.slice ag p0.Clocks.length ak,.slice ah p0.Readings.length am]] w (wCB w [] U (fun U_ L_ v=>match r.1 with | none=>v=.tuple #[.pointer none,jV r.2]/\L_=[] | some d=>∃ (b0:Nat) (A0p00:Option Addr) (c0p00:Nat) (A0p01:Option Addr) (c0p01:Nat) (A0p02:Option Addr) (c0p02:Nat) (A0p03:Option Addr) (c0p03:Nat) (m0p1:Nat) (es0p1:Array MapEntry) (ck0p1:Nat) (A0p2:Option Addr) (c0p2:Nat),v=.tuple #[.pointer (some ⟨b0,0,none⟩),jV r.2]/\L_=[.blk b0 124 [.slice A0p00 d.Race.Starts.length c0p00,.slice A0p01 d.Race.Splits.length c0p01,.slice A0p02 d.Race.Clocks.length c0p02,.slice A0p03 d.Race.Readings.length c0p03,.map (some m0p1),.slice A0p2 d.edges.length c0p2],.obj m0p1 (.map es0p1 ck0p1),.row A0p2 c0p2 130 7 (hD wAP d.edges)]/\Sl U_ 1 A0p00 c0p00 d.Race.Starts.length (hD KL.encI d.Race.Starts)/\Sl U_ 2 A0p01 c0p01 d.Race.Splits.length (hD wAG d.Race.Splits)/\Sl U_ 3 A0p02 c0p02 d.Race.Clocks.length (hD wAA d.Race.Clocks)/\Sl U_ 4 A0p03 c0p03 d.Race.Readings.length (hD wAB d.Race.Readings)/\MpR es0p1 wBB wBC d.number)):=by
 unfold wBj at hm
 refine Gv.of Try.func60 Z Try.ntmps60 Try.results60 Z (sR gCi Z ?_)
 let B0:List Value:=[.slice ae p0.Starts.length ai,.slice af p0.Splits.length aj,.slice ag p0.Clocks.length ak,.slice ah p0.Readings.length am]
 refine zu (cs:=B0) rfl rfl rfl rfl rfl rfl (by rfl) hS ?_
 intro W1 b2 aV
 refine oA Z Z (oA Z Z (eN (zM (sR gCj Z (oL Z (aV.ldBA (j:=0) Z Z Z ze zZ (vs:=B0) Z Z) (bnK hm fun x5 h6 bp=>zE 0 Z Z Z Z (zD Z Z Try.call68 (zB Z zK) Z) aV (fun hs=>wDt p0 ae ai af aj ag ak ah am W1 U hs aW aX aY aZ h6) (.inr Z) ?_))))))
 rintro U8 L9 bt aL an bi ⟨rfl,rfl⟩
 have av:sW w U U8 [.blk b2 28 B0] aL:=bi
 refine oA Z Z (eN (sR fL2 Z (oM Z Z (oR Z (ZN Z Z Z) (eN (ifc bp ?_ ?_))))))
 intro aq bm
 refine zn (zd (fun h=>h aq.out)) (kN (sR (.fl 0 gCe) Z (oL Z (av.ldBA (j:=0) Z Z Z ze zZ (vs:=B0) Z Z) ?_)))
 have a7:=aW.le an
 have a8:=aX.le an
 have a9:=aY.le an
 have ba:=aZ.le an
 refine bnK bm fun ab bb bn=>zE 0 Z Z Z Z (zD Z Z Try.call89 (zB Z zK) Z) av (fun hs=>wFg p0 ae ai af aj ag ak ah am aL U8 hs a7 a8 a9 ba bb) (.inr Z) ?_
 rintro aK bq bu a6 bs bj ⟨aO,ax,aP,ay,aQ,az,aR,aJ,aS,aw,aU,aT,ao,au,rfl,rfl,bc,bd,be,bf,bg⟩
 have bk:sW w U aK [.blk aO 124 [.slice ax ab.Race.Starts.length aP,.slice ay ab.Race.Splits.length aQ,.slice az ab.Race.Clocks.length aR,.slice aJ ab.Race.Readings.length aS,.map (some aw),.slice ao ab.edges.length au],.obj aw (.map aU aT),.row ao au 130 7 (hD wAP ab.edges),.blk b2 28 B0] a6:=bj
 refine oA Z Z (oA Z Z (eN (zU ?_)))
 cases bn
 exact ⟨rfl,_,(wDv rfl rfl),aK,_,(bk.pick [0,1,2] _ (by decide) rfl),aO,ax,aP,ay,aQ,az,aR,aJ,aS,aw,aU,aT,ao,au,rfl,rfl,bc,bd,be,bf,bg⟩
 intro aq bo
 refine cT Z aq (sR fL3 Z (oM Z Z (oA Z Z (oA Z Z (eN (zU (zN ?_)))))))
 cases bo
 exact ⟨rfl,_,(wDv rfl rfl),U8,_,(av.pick [] _ (by decide) rfl),rfl,rfl⟩
theorem wEA (p0:Int) (w:World) (U:PHeap) (hS:St0 w U [])  {r:Bool} (hm:wAc p0=some r):Gv Try.prog 74 [jV p0] w (wCB w [] U (fun U_ L_ v=>v=.bool r/\L_=[])):=by
 unfold wAc at hm
 refine Gv.of Try.func74 Z Try.ntmps74 Try.results74 Z (sR fL1 Z (oA Z Z (eN (sR gCj Z (oM Z Z (bnK hm fun x1 h2 ah=>zE 0 Z Z Z Z (zD Z Z yJ (zB Z (zB Z (zB Z zK))) Z) hS (fun hs=>wBb p0 (-100000000) 100000000 w U hs h2) (.inr Z) ?_))))))
 rintro U4 L5 v6 W7 aj ag ⟨rfl,rfl⟩
 have af:sW w U U4 [] W7:=ag
 refine oA Z Z (eN (zU ?_))
 have hE:=nD ah;first | subst r | cases hE
 exact ⟨Z,_,(ZL Z),U4,_,af,Z,Z⟩
theorem wFh (p0:List Int) (af:Option Addr) (ak:Nat) (p1:wAC) (aj:Nat) (ag:Option Addr) (am:Nat) (ac:Option Addr) (ae:Nat) (ah:Option Addr) (an:Nat) (ai:Option Addr) (ao:Nat) (w:World) (U:PHeap) (hS:St0 w U []) (aq:Sl U 1 af ak p0.length (hD KL.encI p0)) (ap:Cl U aj 0 [.slice ag p1.Starts.length am,.slice ac p1.Splits.length ae,.slice ah p1.Clocks.length an,.slice ai p1.Readings.length ao]) (au:Sl U 1 ag am p1.Starts.length (hD KL.encI p1.Starts)) (av:Sl U 2 ac ae p1.Splits.length (hD wAG p1.Splits)) (aw:Sl U 3 ah an p1.Clocks.length (hD wAA p1.Clocks)) (ax:Sl U 4 ai ao p1.Readings.length (hD wAB p1.Readings)) {r:Bool} (hm:wBs p0 p1=some r):Gv Try.prog 77 [.slice af p0.length ak,.pointer (some ⟨aj,0,none⟩)] w (wCB w [] U (fun U_ L_ v=>v=.bool r/\L_=[])):=by
 unfold wBs at hm
 refine Gv.of Try.func77 Z Try.ntmps77 Try.results77 Z (sR fL1 Z (oA Z Z (eN (sR fL8 Z (oM Z Z (oR Z (zz Z Z zH) (oR Z (zJ Z Z zQ Z yE) (oL Z (hS.ldC (f:=1) ap (v:=.slice ac p1.Splits.length ae) Z Z yS Z) (oR Z (zz Z Z ZQ) (oR Z (zf Z Z Z) (oR Z (yO Z Z Z) (oA Z Z (eN (zU ?_))))))))))))))
 first | (obtain rfl:=nD hm) | cases hm
 exact ⟨Z,_,(ZL Z),U,_,hS,Z,Z⟩
theorem wCU (p0:List (List Int)) (am:Option Addr) (ao:Nat) (p1:((List Int)->Option Bool)) (aq:Value) (w:World) (U:PHeap) (hS:St0 w U []) (a8:SlR U wHb am ao p0) (a9:FnOK Try.prog U aq wKE wKF p1) {r:Bool} (hm:wAz p0 p1=some r):Gv Try.prog 76 [.slice am p0.length ao,aq] w (wCB w [] U (fun U_ L_ v=>v=.bool r/\L_=[])):=by
 unfold wAz at hm
 refine Gv.of Try.func76 Z Try.ntmps76 Try.results76 Z (sR fL1 Z (oA Z Z (eN (zM (sR fL3 Z (oM Z Z (oR Z (zz Z Z Zg) (oM Z Z (eN (zc ?_))))))))))
 have q:=wBg hm
 obtain ⟨r3,ah⟩:=q
 have q:=wBf ah
 obtain ⟨aj,bc⟩:=q
 replace aj:=zS aj
 refine yL (fun k2 _ σ_ w_=>∃ (U_:PHeap),σ_ 9=jV (↑k2:Int)/\σ_ 1=aq/\σ_ 7=.slice am p0.length ao/\σ_ 8=jV (↑p0.length:Int)/\PHeap.Le U U_/\sW w U U_ [] w_) bc ?_ ?_ ?_
 exact ⟨U,Z,Z,Z,Z,(zW _),hS⟩
 rintro k2 ⟨⟩ bz bB W8 ai ⟨aO,af,aw,ax,ay,ak,aJ⟩ aM ba
 try dsimp only at aM
 have av:Hid ((↑k2:Int) < (↑p0.length:Int)):=zS (wBD ai)
 replace ai:=zS ai
 have bd:Hid (w64 ((↑k2:Int) + 1)=(↑(k2 + 1):Int)):=zS (by have h1:=aj.out;have h2:=av.out;rw [wAU] <;> omega)
 refine sR fL1 Z (oR Z (zh Z af ay) (eN (zM (cT Z av (kN (zM (zc (sR fL3 Z (bnK aM fun au az be=>?_)))))))))
 have aW:=a8.le ak
 have q:=aW.el (wAW az)
 obtain ⟨aR,bm,bw,a5,ag,bj⟩:=q
 obtain ⟨an,ap,rfl,aX⟩:=bj
 replace ag:Cl aO aR (bm + k2 * 1) [.slice an au.length ap]:=ag
 refine oR Z (Zi Z ax a5 af Zg zq (wBi az)) (oL Z (aJ.ldC (f:=0) ag (v:=.slice an au.length ap) Z Z zy Z) (oA Z Z (eN (sR gCq Z (oM Z aw (oM Z Z (bnK be fun bx aY bf=>?_)))))))
 have aZ:=a9.le ak
 refine yv (a:=au) Z Z Z Z Z Z (zB Z zK) aJ aZ ⟨an,ap,Z,aX⟩ aY ?_
 rintro ac bo bv aQ bk a6 ⟨rfl,rfl⟩
 have aK:sW w U ac [] aQ:=a6
 refine oR Z (ZT Z Z) (eN (ifc bf ?_ ?_))
 intro ae bg
 refine zn (nC ae.out) (Zl (ZH (zL (rR fL2 Z (oR Z (ZS (zf Z af Z) (congrArg (jV) bd.out)) (oM Z Z (zg ?_)))))))
 obtain rfl:=nD bg
 exact zL ⟨Z,_,Z,⟨ac,Z,aw,ax,ay,(ak.trans bk),aK⟩⟩
 intro ae bh
 refine ZD (nF (ae.out)) (sR fL1 Z (oA Z Z (eN (zU (zX (zN ?_))))))
 have q:=wAV bh
 obtain ⟨bn,bi,aT⟩:=q
 obtain rfl:=wAk hm ah (ba bn aT)
 refine zN (zX (zN ?_))
 have hE:=nD bi;first | subst r | cases hE
 exact ⟨Z,_,(ZL Z),ac,_,aK,Z,Z⟩
 rintro ⟨⟩ bA bp ⟨aP,aV,br,bs,aU,bt,a7⟩ bb
 have aL:=wCV hm ah bb
 try dsimp only at aL
 have aS:Hid (¬ ((↑(((↑p0.length:Int):Int) - 0).toNat:Int) < (↑p0.length:Int))):=zS (wAh)
 refine sR fL1 Z (oR Z (zh Z aV aU) (eN (zM (cF Z aS (Zf (zx (zx (Zc (zL (sR fL1 Z (oA Z Z (eN (zU ?_)))))))))))))
 have hE:=nD aL;first | subst r | cases hE
 exact ⟨Z,_,(ZL Z),aP,_,a7,Z,Z⟩
theorem wFi (p0:List Int) (ae:Option Addr) (af:Nat) (p1:(Int->Option Bool)) (ah:Nat) (ab:Value) (w:World) (U:PHeap) (hS:St0 w U []) (an:Sl U 1 ae af p0.length (hD KL.encI p0)) (ao:Cl U ah 0 [ab]) (ap:FnOK Try.prog U ab wKB wKC p1) {r:Bool} (hm:wBt p0 p1=some r):Gv Try.prog 78 [.slice ae p0.length af,.pointer (some ⟨ah,0,none⟩)] w (wCB w [] U (fun U_ L_ v=>v=.bool r/\L_=[])):=by
 unfold wBt at hm
 refine Gv.of Try.func78 Z Try.ntmps78 Try.results78 Z (sR fL1 Z (oA Z Z (eN (sR gCq Z (oM Z Z (oL Z (hS.ldC (f:=0) ao (v:=ab) Z Z Try.isAgg76 Z) (bnK hm fun x1 h2 aq=>zE 0 Z Z Z Z (zD Z Z Try.call79 (zB Z (zB Z zK)) Z) hS (fun hs=>wCv p0 ae af p1 ab w U hs an ap h2) (.inr Z) ?_)))))))
 rintro U4 L5 v6 W7 av am ⟨rfl,rfl⟩
 have ak:sW w U U4 [] W7:=am
 refine oA Z Z (eN (zU ?_))
 have hE:=nD aq;first | subst r | cases hE
 exact ⟨Z,_,(ZL Z),U4,_,ak,Z,Z⟩
theorem wFj (p0:wAH) (p1:List Int) (aK:Nat) (av:Option Addr) (ax:Nat) (p2:List (List Int)) (aL:Nat) (aw:Option Addr) (ay:Nat) (w:World) (U:PHeap) (hS:St0 w U []) (a9:Cl U aK 0 [.slice av p1.length ax]) (ba:Sl U 1 av ax p1.length (hD KL.encI p1)) (bb:Cl U aL 0 [.slice aw p2.length ay]) (bc:SlR U wHb aw ay p2) {r:Int} (hm:wCt p0 p1 p2=some r):Gv Try.prog 80 [.agg #[jV p0.skier,jV p0.mat],.pointer (some ⟨aK,0,none⟩),.pointer (some ⟨aL,0,none⟩)] w (wCB w [] U (fun U_ L_ v=>v=jV r/\L_=[])):=by
 unfold wCt at hm
 refine Gv.of Try.func80 Z Try.ntmps80 Try.results80 Z (sR gBy Z ?_)
 let B0:List Value:=[jV p0.skier,jV p0.mat]
 refine zu (cs:=B0) rfl rfl rfl rfl rfl rfl (by rfl) hS ?_
 intro W1 b2 a8
 refine yD rfl rfl rfl rfl rfl rfl (eN (zM (zc (zM (ZA ZB [1,2,3,3] (.fl 0 gCe) (by kernel_rfl) ?_)))))
 have au:=a8.drew
 generalize hw_W6:({ W1 with drawn:=W1.drawn + 1 }:World)=W6 at au ⊢
 refine oL Z (au.ldBA (j:=0) Z Z Z zi zI (vs:=B0) Z Z) (bnK hm fun x7 h8 bk=>zE 0 Z Z Z Z (zD Z Z yY zK Z) au (fun hs=>wBK W6 U hs h8) (.inr Z) ?_)
 rintro ae br bx aj ag a7 ⟨rfl,rfl⟩
 have ab:sW w U ae [.blk b2 104 B0] aj:=a7
 refine oR Z (Runs.eqS (enc:=wBZ) (a:=p0) (b:=x7) Z Z Z wJK wJJ) (oA Z Z (eN (ifc bk ?_ ?_)))
 intro ak bd
 refine cT Z ak (sR fL1 Z (oA Z Z (eN (zU (zX (zN ?_))))))
 cases bd
 exact ⟨rfl,_,(ZL rfl),ae,_,(ab.pick [] _ (by decide) rfl),rfl,rfl⟩
 intro ak be
 refine cF Z ak (sR fL4 Z (oR Z (zJ Z Z Try.runUnderlying104 Z zC) (oL Z (ab.ldB (j:=0) Z Z Z zG (v:=jV p0.skier) Z) (oR Z (zh Z Z Z) (oA Z Z (eN (ifc be ?_ ?_)))))))
 intro am bf
 refine cT Z am (sR fL8 Z ?_)
 have aR:=a9.le ag
 refine oL Z (ab.ldC (f:=0) aR (v:=.slice av p1.length ax) Z Z zy Z) (oR Z (zJ Z Z Try.runUnderlying104 Z zC) (oL Z (ab.ldB (j:=0) Z Z Z zG (v:=jV p0.mat) Z) (oR Z (yH Z Z Z) (bnK bf fun bo an bg=>?_))))
 have aS:=ba.le ag
 have q:=aS.el (fun _=>rfl) (wAW an)
 obtain ⟨bt,bv,aX,a5⟩:=q
 refine oR Z (ZO Z Z aX Z zH zC (wBJ an) (wBL an)) (oL Z (ab.ldC (f:=0) a5 (v:=jV bo) Z Z zG Z) (oR Z (Runs.negw Z Z) (oA Z Z (eN (zU (zX (zN ?_)))))))
 cases bg
 exact ⟨rfl,_,(ZL rfl),ae,_,(ab.pick [] _ (by decide) rfl),rfl,rfl⟩
 intro am bh
 refine cF Z am (Zl (ZH (zL (zM (ZA ZB [1,3,1,3,1,3,1,3,1,3] fL10 (by kernel_rfl) ?_)))))
 have ac:=ab.drew
 generalize hw_W33:({ aj with drawn:=aj.drawn + 1 }:World)=bs at ac ⊢
 have aT:=bb.le ag
 refine oL Z (ac.ldC (f:=0) aT (v:=.slice aw p2.length ay) Z Z Try.isAgg29 Z) (oR Z (zJ Z Z Try.runUnderlying104 Z zC) (oL Z (ac.ldB (j:=0) Z Z Z zG (v:=jV p0.skier) Z) (bnK bh fun aN ao bi=>?_)))
 have aU:=bc.le ag
 have q:=aU.el (wAW ao)
 obtain ⟨aQ,bn,bz,aY,aq,bm⟩:=q
 obtain ⟨aJ,aM,rfl,aV⟩:=bm
 replace aq:Cl ae aQ (bn + p0.skier.toNat * 1) [.slice aJ aN.length aM]:=aq
 refine oR Z (ZO Z Z aY Z Zg zq (wBJ ao) (wBL ao)) (oL Z (ac.ldC (f:=0) aq (v:=.slice aJ aN.length aM) Z Z zy Z) (oR Z (zJ Z Z Try.runUnderlying104 Z zC) (oL Z (ac.ldB (j:=0) Z Z Z zG (v:=jV p0.mat) Z) (bnK bi fun bp ap bj=>?_))))
 have q:=aV.el (fun _=>rfl) (wAW ap)
 obtain ⟨bu,bw,aZ,a6⟩:=q
 refine oR Z (ZO Z Z aZ Z zH zC (wBJ ap) (wBL ap)) (oL Z (ac.ldC (f:=0) a6 (v:=jV bp) Z Z zG Z) (oA Z Z (eN (zU ?_))))
 have hE:=nD bj;first | subst r | cases hE
 exact ⟨rfl,_,(ZL rfl),ae,_,(ac.pick [] _ (by decide) rfl),rfl,rfl⟩
theorem wIg (p0:wAC) (bI:Option Addr) (bK:Nat) (cA:Option Addr) (cC:Nat) (bJ:Option Addr) (bL:Nat) (cB:Option Addr) (cD:Nat) (p1:List (List Int)) (aV:Option Addr) (aW:Nat) (p2:List Int) (a7:Option Addr) (a8:Nat) (w:World) (U:PHeap) (hS:St0 w U []) (qS:Sl U 1 bI bK p0.Starts.length (hD KL.encI p0.Starts)) (qT:Sl U 2 cA cC p0.Splits.length (hD wAG p0.Splits)) (qV:Sl U 3 bJ bL p0.Clocks.length (hD wAA p0.Clocks)) (qW:Sl U 4 cB cD p0.Readings.length (hD wAB p0.Readings)) (gu:SlR U wHb aV aW p1) (gv:Sl U 1 a7 a8 p2.length (hD KL.encI p2)) {r:Bool × Int} (hm:wEF p0 p1 p2=some r):Gv Try.prog 37 [.agg #[.slice bI p0.Starts.length bK,.slice cA p0.Splits.length cC,.slice bJ p0.Clocks.length bL,.slice cB p0.Readings.length cD],.slice aV p1.length aW,.slice a7 p2.length a8] w (wCB w [] U (fun U_ L_ v=>v=.tuple #[.bool r.1,jV r.2]/\L_=[])):=by
 unfold wEF at hm
 refine Go.KX.Gv.ofM Try.func37 Z Try.ntmps37 Try.results37 (zA Z) (sR (.fx 0 (.fx 1 (.fx 2 (.fx 3 (.fx 4 .nil .stop) .stop) .stop) .stop) .stop) Z ?_)
 let B0:List Value:=[.slice bI p0.Starts.length bK,.slice cA p0.Splits.length cC,.slice bJ p0.Clocks.length bL,.slice cB p0.Readings.length cD]
 refine zu (cs:=B0) rfl rfl rfl rfl rfl rfl (by rfl) hS ?_
 intro W1 b2 qz
 have q:=qz.freeze (k:=0) rfl
 obtain ⟨U5,bH,cQ,qL⟩:=q
 replace cQ:=Cl.of cQ
 have qQ:sW w U U5 [] W1:=qL
 replace cQ:Cl U5 b2 0 B0:=cQ
 refine zu (cs:=[.slice aV p1.length aW]) rfl rfl rfl rfl rfl rfl (by rfl) qQ ?_
 intro gI bk m6
 have q:=m6.freeze (k:=0) rfl
 obtain ⟨fh,bs,cp,pH⟩:=q
 replace cp:=Cl.of cp
 have pK:sW w U fh [] gI:=pH
 replace cp:Cl fh bk 0 [.slice aV p1.length aW]:=cp
 refine zu (cs:=[.slice a7 p2.length a8]) rfl rfl rfl rfl rfl rfl (by rfl) pK ?_
 intro iN bn p6
 have q:=p6.freeze (k:=0) rfl
 obtain ⟨dM,bd,cq,qu⟩:=q
 replace cq:=Cl.of cq
 have qx:sW w U dM [] iN:=qu
 replace cq:Cl dM bn 0 [.slice a7 p2.length a8]:=cq
 refine zT (cs:=[.bool false]) Z Z Z Z Z Try.zeroValue4 Z qx ?_
 intro sD bC qA
 refine zT (cs:=[jV 0]) Z Z Z Z Z Try.zeroValue47 Z qA ?_
 intro i7 aP gp
 refine eN (sR (.fl 0 (.fx 1 (fC2_4 (.fx 5 (.fx 6 (.fl 7 .nil) .stop) .stop)) .stop)) Z ?_)
 have lT:=cQ.le bs
 have eh:=lT.le bd
 refine oL Z (gp.ldCA (f:=0) eh Z Z ze zZ (us:=B0) Z Z) ?_
 have mb:=qS.le bH
 have md:=mb.le bs
 have ej:=md.le bd
 have me:=qT.le bH
 have mf:=me.le bs
 have ek:=mf.le bd
 have mg:=qV.le bH
 have mh:=mg.le bs
 have en:=mh.le bd
 have mi:=qW.le bH
 have mj:=mi.le bs
 have eo:=mj.le bd
 have q:=bnd hm
 obtain ⟨⟨rT,bM⟩,ml,cR⟩:=q
 try dsimp only at cR
 refine zE 0 Z Z Z Z (zD Z Z Try.call60 (zB Z zK) Z) gp (fun hs=>wDK p0 bI bK cA cC bJ bL cB cD i7 dM hs ej ek en eo ml) (.inr Z) ?_
 rintro au sl s8 fA aR gt gb
 rcases rT with _ | aQ
 try dsimp only at cR
 obtain ⟨rfl,rfl⟩:=gb
 let B1:Res:=.blk bC 4 [.bool false]
 let B2:Res:=.blk aP 47 [jV 0]
 have qJ:sW w U au [B2,B1] fA:=gt
 refine oM Z Z (oR Z (zP Z Z (v:=.pointer none) Z) (oR Z (zP Z Z (v:=jV bM) Z) (zT (cs:=[.pointer none]) Z Z Z Z Z yF Z qJ ?_)))
 intro sF fD qK
 refine zV (j:=0) (vs:=[.pointer none]) Z Z Z Z qK Z Z Z Z Try.sizeOf99 (zA Z) Z Z Z ?_
 intro ja qM
 let B3:Res:=.blk fD 99 [.pointer none]
 have qN:sW w U au [B3,B2,B1] ja:=qM
 refine oA Z Z (eN (sR gCb Z (zT (cs:=[.nilFunc]) Z Z Z Z Z Try.zeroValue76 Z qN ?_)))
 intro sG az qO
 let B4:List Value:=[.func (.func 74) #[] #[]]
 refine zV (j:=0) (vs:=B4) Z Z Z Z qO Z Z Z Z Try.sizeOf76 (zA Z) Z Z Z ?_
 intro fB qP
 have cy:sW w U au [.blk az 76 B4,B3,B2,B1] fB:=qP
 refine eN (zM (zc (sR fL3 Z (oM Z Z (oR Z (ZN Z Z Z) (oA Z Z (eN (ifc cR ?_ ?_))))))))
 intro ec rJ
 refine zn (zd (fun h=>h ec.out)) (sR (wMD (.fx 9 (wKZ (.nil)) .stop)) Z ?_)
 have mm:=cp.le bd
 have ep:=mm.le aR
 refine oL Z (cy.ldC (f:=0) ep (v:=.slice aV p1.length aW) Z Z Try.isAgg29 Z) (oR Z (zz Z Z Zg) (oR Z (zJ Z Z zQ Z zq) ?_))
 have er:=eh.le aR
 refine oL Z (cy.ldC (f:=0) er (v:=.slice bI p0.Starts.length bK) Z Z zy Z) (oR Z (zz Z Z zH) (oR Z (ZN Z Z Z) (oM Z Z (ifc rJ ?_ ?_))))
 intro bc rK
 refine zl Z Z Z (zF Z Z (zd (fun h=>h bc.out))) (cy.ldC (f:=0) ep (v:=.slice aV p1.length aW) Z Z Try.isAgg29 Z) Z (zY Z Z Z (zF Z Z (zd (fun h=>h bc.out))) (fun _=>yc Z zK (zB Z zK)) ?_)
 have mn:=gu.le bH
 have mo:=mn.le bs
 have jm:=mo.le bd
 have fO:=jm.le aR
 have jo:=ej.le aR
 have jp:=ek.le aR
 have jq:=en.le aR
 have jr:=eo.le aR
 have mp:FnOK Try.prog au (.func (.func 77) #[] #[.pointer (some ⟨b2,0,none⟩)]) wKE wKF (fun x=>wBs x p0):=⟨77,[],[.pointer (some ⟨b2,0,none⟩)],rfl,Try.call77,fun U1 w1 x y vs le hs ha hm=>by obtain ⟨pA_0,pc_0,rfl,hq0_0⟩:=ha;exact wFh x pA_0 pc_0 p0 b2 bI bK cA cC bJ bL cB cD w1 U1 hs hq0_0 (er.le le) (jo.le le) (jp.le le) (jq.le le) (jr.le le) hm⟩
 refine bnK rK fun ta jt qY=>zE 0 Z Z Z (zF Z Z (zd (fun h=>h bc.out))) (zD Z Z Try.call76 (zB Z (zB Z zK)) Z) cy (fun hs=>wCU p1 aV aW (fun x=>wBs x p0) (.func (.func 77) #[] #[.pointer (some ⟨b2,0,none⟩)]) fB au hs fO mp jt) (.inr Z) ?_
 rintro bi rW sP dO cS mQ ⟨rfl,rfl⟩
 have ct:sW w U bi [.blk az 76 B4,B3,B2,B1] dO:=mQ
 refine zY Z Z Z (zF Z Z (zd (fun h=>h bc.out))) (fun _=>ZT Z Z) (oR Z (zb Z (zd (fun h=>h bc.out)) Z) (oM Z Z (ifc qY ?_ ?_)))
 intro aY qZ
 have jC:=cq.le aR
 have fP:=jC.le cS
 refine zl Z Z Z (zF Z Z (nC aY.out)) (ct.ldC (f:=0) fP (v:=.slice a7 p2.length a8) Z Z zy Z) Z (zY Z Z Z (zF Z Z (nC aY.out)) (fun _=>zz Z Z zH) (zY Z Z Z (zF Z Z (nC aY.out)) (fun _=>zJ Z Z zQ Z Zm) ?_))
 have jD:=er.le cS
 refine zl Z Z Z (zF Z Z (nC aY.out)) (ct.ldC (f:=2) jD (v:=.slice bJ p0.Clocks.length bL) Z Z yA Z) Z (zY Z Z Z (zF Z Z (nC aY.out)) (fun _=>zz Z Z ZR) (zY Z Z Z (zF Z Z (nC aY.out)) (fun _=>ZN Z Z Z) (oR Z (zb Z (nC aY.out) Z) (oA Z Z (eN (ifc qZ ?_ ?_))))))
 intro dW q5
 refine zn (zd (fun h=>h dW.out)) (zM (yX fun cH bY=>?_))
 have fG:cH 4=.pointer (some ⟨bk,0,none⟩):=(bY 4).trans rfl
 have fH:cH 5=.pointer (some ⟨bn,0,none⟩):=(bY 5).trans rfl
 have dd:cH 6=.pointer (some ⟨bC,0,none⟩):=(bY 6).trans rfl
 have de:cH 7=.pointer (some ⟨aP,0,none⟩):=(bY 7).trans rfl
 have jd:cH 8=.pointer (some ⟨fD,0,none⟩):=(bY 8).trans rfl
 have fI:cH 10=.pointer (some ⟨az,0,none⟩):=(bY 10).trans rfl
 clear bY
 refine rR (.fl 0 (.fl 1 (.fx 2 (wIS (.fx 7 (wJY (.nil)) .stop)) .stop))) Z ?_
 have jQ:=ep.le cS
 refine oL Z (ct.ldC (f:=0) jQ (v:=.slice aV p1.length aW) Z fG Try.isAgg29 Z) ?_
 have q:=ct.freeze (k:=0) rfl
 obtain ⟨cK,eQ,co,oB⟩:=q
 replace co:=Cl.of co
 have oD:sW w U cK [B3,B2,B1] dO:=oB
 replace co:Cl cK az 0 B4:=co
 refine oR Z (yc Z zK (zB fI zK)) ?_
 have k7:=fO.le cS
 have k8:=k7.le eQ
 have mq:FnOK Try.prog cK (.func (.func 74) #[] #[]) wKB wKC wAc:=⟨74,[],[],rfl,Try.call74,fun U1 w1 x y vs le hs ha hm=>by obtain rfl:=ha;exact wEA x w1 U1 hs  hm⟩
 have mr:FnOK Try.prog cK (.func (.func 78) #[] #[.pointer (some ⟨az,0,none⟩)]) wKE wKF (fun x=>wBt x wAc):=⟨78,[],[.pointer (some ⟨az,0,none⟩)],rfl,Try.call78,fun U1 w1 x y vs le hs ha hm=>by obtain ⟨pA_0,pc_0,rfl,hq0_0⟩:=ha;exact wFi x pA_0 pc_0 wAc az (.func (.func 74) #[] #[]) w1 U1 hs hq0_0 (co.le le) (mq.le le) hm⟩
 refine bnK q5 fun td k9 rh=>zE 0 Z Z Z Z (zD Z Z Try.call76 (zB Z (zB Z zK)) Z) oD (fun hs=>wCU p1 aV aW (fun x=>wBt x wAc) (.func (.func 78) #[] #[.pointer (some ⟨az,0,none⟩)]) dO cK hs k8 mr k9) (.inr Z) ?_
 rintro bP sd sZ fu eU pG ⟨rfl,rfl⟩
 have dh:sW w U bP [B3,B2,B1] fu:=pG
 refine oR Z (ZT Z Z) (oM Z Z (ifc rh ?_ ?_))
 intro a9 rk
 have lc:=fP.le eQ
 have lf:=lc.le eU
 refine zl Z Z Z (zF Z Z (nC a9.out)) (dh.ldC (f:=0) lf (v:=.slice a7 p2.length a8) Z fH zy Z) Z ?_
 have lg:=co.le eU
 refine zl Z Z Z (zF Z Z (nC a9.out)) (dh.ldC (f:=0) lg (v:=.func (.func 74) #[] #[]) Z fI Try.isAgg76 Z) Z ?_
 have lh:=gv.le bH
 have li:=lh.le bs
 have lj:=li.le bd
 have lk:=lj.le aR
 have lm:=lk.le cS
 have ln:=lm.le eQ
 have lp:=ln.le eU
 have ms:FnOK Try.prog bP (.func (.func 74) #[] #[]) wKB wKC wAc:=⟨74,[],[],rfl,Try.call74,fun U1 w1 x y vs le hs ha hm=>by obtain rfl:=ha;exact wEA x w1 U1 hs  hm⟩
 refine bnK rk fun te lq rn=>zE 0 Z Z Z (zF Z Z (nC a9.out)) (zD Z Z Try.call79 (zB Z (zB Z zK)) Z) dh (fun hs=>wCv p2 a7 a8 wAc (.func (.func 74) #[] #[]) fu bP hs lp ms lq) (.inr Z) ?_
 rintro cc sf s3 iJ sM pI ⟨rfl,rfl⟩
 have gj:sW w U cc [B3,B2,B1] iJ:=pI
 refine zY Z Z Z (zF Z Z (nC a9.out)) (fun _=>ZT Z Z) (oR Z (zb Z (nC a9.out) Z) (oA Z Z (eN (ifc rn ?_ ?_))))
 intro dY ro
 refine zn (nC dY.out) (Zl (ZH (zL (sR gCg Z (oR Z (yc Z zK (zB fH (zB fG zK))) (zT (cs:=[.nilFunc]) Z Z Z Z Z Try.zeroValue145 Z gj ?_))))))
 intro sA jb pJ
 let B5:List Value:=[.func (.func 80) #[] #[.pointer (some ⟨bn,0,none⟩),.pointer (some ⟨bk,0,none⟩)]]
 refine zV (j:=0) (vs:=B5) Z Z Z Z pJ Z Z Z Z Try.sizeOf145 (zA Z) Z Z Z ?_
 intro iK pL
 have pM:sW w U cc [.blk jb 145 B5,B3,B2,B1] iK:=pL
 refine eN (zM (sR (wDe (.fx 4 .nil .stop)) Z (oL Z (pM.ldB (j:=1) Z Z jd ya (v:=.pointer none) Z) ?_)))
 cases ro
 intro dY rp
 refine ZD (nF (dY.out)) (sR gCb Z (zV (j:=2) (vs:=[.bool false]) Z Z Z Z gj Z dd Z Z yC (zA Z) Z Z Z ?_))
 intro iL pN
 have pO:sW w U cc [B3,B2,B1] iL:=pN
 refine zV (j:=1) (vs:=[jV 3]) Z Z Z Z pO Z de Z Z yU (zA Z) Z Z Z ?_
 intro iM pP
 let B6:Res:=.blk aP 47 [jV 3]
 have pQ:sW w U cc [B3,B6,B1] iM:=pP
 refine eN (zU (zX (zN (wDG (by first | exact .inl rfl | exact .inr rfl) (rbs:=[]) (L:=[B3,B6,B1]) pQ fun iO pR=>?_))))
 have eH:sW w U cc [B3,B6,B1] iO:=pR
 cases rp
 exact ⟨_,(wCT (rs:=[.cell 6 4,.cell 7 47]) (vs:=[.bool false,jV 3]) ⟨⟨_,dd,(wDW yK (eH.blkAt (k:=2) rfl) rfl)⟩,⟨⟨_,de,(wDW yb (eH.blkAt (k:=1) rfl) rfl)⟩,trivial⟩⟩ rfl),cc,_,(eH.pick [] _ (by decide) rfl),rfl,rfl⟩
 intro a9 rq
 refine zt Z Z Z (zO Z Z (nF (a9.out)) Z) (zt Z Z Z (zO Z Z (nF (a9.out)) Z) (ZG Z Z Z (zO Z Z (nF (a9.out)) Z) (zt Z Z Z (zO Z Z (nF (a9.out)) Z) (oR Z (zR Z (nF (a9.out)) Z) (oA Z Z (eN (ZD Z (sR gCb Z (zV (j:=2) (vs:=[.bool false]) Z Z Z Z dh Z dd Z Z yC (zA Z) Z Z Z ?_)))))))))
 intro iP pS
 have pT:sW w U bP [B3,B2,B1] iP:=pS
 refine zV (j:=1) (vs:=[jV 3]) Z Z Z Z pT Z de Z Z yU (zA Z) Z Z Z ?_
 intro iQ pU
 let B7:Res:=.blk aP 47 [jV 3]
 have pV:sW w U bP [B3,B7,B1] iQ:=pU
 refine eN (zU (zX (zN (wDG (by first | exact .inl rfl | exact .inr rfl) (rbs:=[]) (L:=[B3,B7,B1]) pV fun iR pW=>?_))))
 have eI:sW w U bP [B3,B7,B1] iR:=pW
 cases rq
 exact ⟨_,(wCT (rs:=[.cell 6 4,.cell 7 47]) (vs:=[.bool false,jV 3]) ⟨⟨_,dd,(wDW yK (eI.blkAt (k:=2) rfl) rfl)⟩,⟨⟨_,de,(wDW yb (eI.blkAt (k:=1) rfl) rfl)⟩,trivial⟩⟩ rfl),bP,_,(eI.pick [] _ (by decide) rfl),rfl,rfl⟩
 intro dW rv
 refine cT Z dW (sR gCb Z (zV (j:=3) (vs:=[.bool false]) Z Z Z Z ct Z Z Z Z yC (zA Z) Z Z Z ?_))
 intro iS pX
 have pY:sW w U bi [.blk az 76 B4,B3,B2,B1] iS:=pX
 refine zV (j:=2) (vs:=[jV 2]) Z Z Z Z pY Z Z Z Z yU (zA Z) Z Z Z ?_
 intro iT pZ
 let B8:Res:=.blk aP 47 [jV 2]
 have p7:sW w U bi [.blk az 76 B4,B3,B8,B1] iT:=pZ
 refine eN (zU (zX (zN (wDG (by first | exact .inl rfl | exact .inr rfl) (rbs:=[]) (L:=[.blk az 76 B4,B3,B8,B1]) p7 fun iU p8=>?_))))
 have eJ:sW w U bi [.blk az 76 B4,B3,B8,B1] iU:=p8
 cases rv
 exact ⟨_,(wCT (rs:=[.cell 6 4,.cell 7 47]) (vs:=[.bool false,jV 2]) ⟨⟨_,rfl,(wDW yK (eJ.blkAt (k:=3) rfl) rfl)⟩,⟨⟨_,rfl,(wDW yb (eJ.blkAt (k:=2) rfl) rfl)⟩,trivial⟩⟩ rfl),bi,_,(eJ.pick [] _ (by decide) rfl),rfl,rfl⟩
 intro aY rx
 refine zt Z Z Z (zO Z Z (nF (aY.out)) Z) (zt Z Z Z (zO Z Z (nF (aY.out)) Z) (zt Z Z Z (zO Z Z (nF (aY.out)) Z) (zt Z Z Z (zO Z Z (nF (aY.out)) Z) (zt Z Z Z (zO Z Z (nF (aY.out)) Z) (zt Z Z Z (zO Z Z (nF (aY.out)) Z) (oR Z (zR Z (nF (aY.out)) Z) (oA Z Z (eN (ZD Z (sR gCb Z (zV (j:=3) (vs:=[.bool false]) Z Z Z Z ct Z Z Z Z yC (zA Z) Z Z Z ?_)))))))))))
 intro iV p9
 have qa:sW w U bi [.blk az 76 B4,B3,B2,B1] iV:=p9
 refine zV (j:=2) (vs:=[jV 2]) Z Z Z Z qa Z Z Z Z yU (zA Z) Z Z Z ?_
 intro iW qb
 let B9:Res:=.blk aP 47 [jV 2]
 have qc:sW w U bi [.blk az 76 B4,B3,B9,B1] iW:=qb
 refine eN (zU (zX (zN (wDG (by first | exact .inl rfl | exact .inr rfl) (rbs:=[]) (L:=[.blk az 76 B4,B3,B9,B1]) qc fun iX qd=>?_))))
 have eK:sW w U bi [.blk az 76 B4,B3,B9,B1] iX:=qd
 cases rx
 exact ⟨_,(wCT (rs:=[.cell 6 4,.cell 7 47]) (vs:=[.bool false,jV 2]) ⟨⟨_,rfl,(wDW yK (eK.blkAt (k:=3) rfl) rfl)⟩,⟨⟨_,rfl,(wDW yb (eK.blkAt (k:=2) rfl) rfl)⟩,trivial⟩⟩ rfl),bi,_,(eK.pick [] _ (by decide) rfl),rfl,rfl⟩
 intro bc ry
 refine oT Z bc (oT Z bc (ZG Z Z Z (zO Z Z (Zh bc.out) Z) (oT Z bc (oR Z (zR Z (Zh bc.out) Z) (oM Z Z (oN Z (oN Z (oN Z (oN Z (oN Z (oN Z (oR Z (zR Z Z Z) (oA Z Z (eN (ZD Z (sR gCb Z (zV (j:=3) (vs:=[.bool false]) Z Z Z Z cy Z Z Z Z yC (zA Z) Z Z Z ?_)))))))))))))))))
 intro iY qe
 have qf:sW w U au [.blk az 76 B4,B3,B2,B1] iY:=qe
 refine zV (j:=2) (vs:=[jV 2]) Z Z Z Z qf Z Z Z Z yU (zA Z) Z Z Z ?_
 intro iZ qh
 let dp:Res:=.blk aP 47 [jV 2]
 have qi:sW w U au [.blk az 76 B4,B3,dp,B1] iZ:=qh
 refine eN (zU (zX (zN (wDG (by first | exact .inl rfl | exact .inr rfl) (rbs:=[]) (L:=[.blk az 76 B4,B3,dp,B1]) qi fun i2 qj=>?_))))
 have eL:sW w U au [.blk az 76 B4,B3,dp,B1] i2:=qj
 cases ry
 exact ⟨_,(wCT (rs:=[.cell 6 4,.cell 7 47]) (vs:=[.bool false,jV 2]) ⟨⟨_,rfl,(wDW yK (eL.blkAt (k:=3) rfl) rfl)⟩,⟨⟨_,rfl,(wDW yb (eL.blkAt (k:=2) rfl) rfl)⟩,trivial⟩⟩ rfl),au,_,(eL.pick [] _ (by decide) rfl),rfl,rfl⟩
 intro ec rz
 refine cT Z ec (sR gCg Z (oM Z Z (zV (j:=3) (vs:=[.bool false]) Z Z Z Z cy Z Z Z Z yC (zA Z) Z Z Z ?_)))
 intro i3 qk
 have qm:sW w U au [.blk az 76 B4,B3,B2,B1] i3:=qk
 refine zV (j:=2) (vs:=[jV bM]) Z Z Z Z qm Z Z Z Z yU (zA Z) Z Z Z ?_
 intro i4 qn
 let dq:Res:=.blk aP 47 [jV bM]
 have qo:sW w U au [.blk az 76 B4,B3,dq,B1] i4:=qn
 refine eN (zU (zX (zN (wDG (by first | exact .inl rfl | exact .inr rfl) (rbs:=[]) (L:=[.blk az 76 B4,B3,dq,B1]) qo fun i5 qp=>?_))))
 have eM:sW w U au [.blk az 76 B4,B3,dq,B1] i5:=qp
 cases rz
 exact ⟨_,(wCT (rs:=[.cell 6 4,.cell 7 47]) (vs:=[.bool false,jV bM]) ⟨⟨_,rfl,(wDW yK (eM.blkAt (k:=3) rfl) rfl)⟩,⟨⟨_,rfl,(wDW yb (eM.blkAt (k:=2) rfl) rfl)⟩,trivial⟩⟩ rfl),au,_,(eM.pick [] _ (by decide) rfl),rfl,rfl⟩
 try dsimp only at cR
 obtain ⟨cM,be,bo,bf,bp,bg,bq,bh,br,ab,ag,af,cV,db,rfl,rfl,ls,lu,lv,lw,sJ⟩:=gb
 let ac:Res:=.blk cM 124 [.slice be aQ.Race.Starts.length bo,.slice bf aQ.Race.Splits.length bp,.slice bg aQ.Race.Clocks.length bq,.slice bh aQ.Race.Readings.length br,.map (some ab),.slice cV aQ.edges.length db]
 let ah:Res:=.row cV db 130 7 (hD wAP aQ.edges)
 let ai:Res:=.blk bC 4 [.bool false]
 let aj:Res:=.blk aP 47 [jV 0]
 have qq:sW w U au [ac,.obj ab (.map ag af),ah,aj,ai] fA:=gt
 refine oM Z Z (oR Z (zP Z Z (v:=.pointer (some ⟨cM,0,none⟩)) Z) (oR Z (zP Z Z (v:=jV bM) Z) (zT (cs:=[.pointer none]) Z Z Z Z Z yF Z qq ?_)))
 intro sB aa qr
 let ae:List Value:=[.pointer (some ⟨cM,0,none⟩)]
 refine zV (j:=0) (vs:=ae) Z Z Z Z qr Z Z Z Z Try.sizeOf99 (zA Z) Z Z Z ?_
 intro i6 qs
 have qt:sW w U au [.blk aa 99 ae,ac,.obj ab (.map ag af),ah,aj,ai] i6:=qs
 refine oA Z Z (eN (sR gCb Z (zT (cs:=[.nilFunc]) Z Z Z Z Z Try.zeroValue76 Z qt ?_)))
 intro sC ay qv
 let aN:List Value:=[.func (.func 74) #[] #[]]
 refine zV (j:=0) (vs:=aN) Z Z Z Z qv Z Z Z Z Try.sizeOf76 (zA Z) Z Z Z ?_
 intro fw qw
 have cw:sW w U au [.blk ay 76 aN,.blk aa 99 ae,ac,.obj ab (.map ag af),ah,aj,ai] fw:=qw
 refine eN (zM (zc (sR fL3 Z (oM Z Z (oR Z (ZN Z Z Z) (oA Z Z (eN (ifc cR ?_ ?_))))))))
 intro dZ rA
 refine zn (zd (fun h=>h dZ.out)) (sR (wMD (.fx 9 (wKZ (.nil)) .stop)) Z ?_)
 have lx:=cp.le bd
 have ef:=lx.le aR
 refine oL Z (cw.ldC (f:=0) ef (v:=.slice aV p1.length aW) Z Z Try.isAgg29 Z) (oR Z (zz Z Z Zg) (oR Z (zJ Z Z zQ Z zq) ?_))
 have eg:=eh.le aR
 refine oL Z (cw.ldC (f:=0) eg (v:=.slice bI p0.Starts.length bK) Z Z zy Z) (oR Z (zz Z Z zH) (oR Z (ZN Z Z Z) (oM Z Z (ifc rA ?_ ?_))))
 intro ba rB
 refine zl Z Z Z (zF Z Z (zd (fun h=>h ba.out))) (cw.ldC (f:=0) ef (v:=.slice aV p1.length aW) Z Z Try.isAgg29 Z) Z (zY Z Z Z (zF Z Z (zd (fun h=>h ba.out))) (fun _=>yc Z zK (zB Z zK)) ?_)
 have ly:=gu.le bH
 have lz:=ly.le bs
 have lA:=lz.le bd
 have fU:=lA.le aR
 have lB:=ej.le aR
 have lC:=ek.le aR
 have lD:=en.le aR
 have lE:=eo.le aR
 have mu:FnOK Try.prog au (.func (.func 77) #[] #[.pointer (some ⟨b2,0,none⟩)]) wKE wKF (fun x=>wBs x p0):=⟨77,[],[.pointer (some ⟨b2,0,none⟩)],rfl,Try.call77,fun U1 w1 x y vs le hs ha hm=>by obtain ⟨pA_0,pc_0,rfl,hq0_0⟩:=ha;exact wFh x pA_0 pc_0 p0 b2 bI bK cA cC bJ bL cB cD w1 U1 hs hq0_0 (eg.le le) (lB.le le) (lC.le le) (lD.le le) (lE.le le) hm⟩
 refine bnK rB fun tf lF rC=>zE 0 Z Z Z (zF Z Z (zd (fun h=>h ba.out))) (zD Z Z Try.call76 (zB Z (zB Z zK)) Z) cw (fun hs=>wCU p1 aV aW (fun x=>wBs x p0) (.func (.func 77) #[] #[.pointer (some ⟨b2,0,none⟩)]) fw au hs fU mu lF) (.inr Z) ?_
 rintro bj sg s4 dP bt qy ⟨rfl,rfl⟩
 have cx:sW w U bj [.blk ay 76 aN,.blk aa 99 ae,ac,.obj ab (.map ag af),ah,aj,ai] dP:=qy
 refine zY Z Z Z (zF Z Z (zd (fun h=>h ba.out))) (fun _=>ZT Z Z) (oR Z (zb Z (zd (fun h=>h ba.out)) Z) (oM Z Z (ifc rC ?_ ?_)))
 intro aZ rD
 have lG:=cq.le aR
 have fW:=lG.le bt
 refine zl Z Z Z (zF Z Z (nC aZ.out)) (cx.ldC (f:=0) fW (v:=.slice a7 p2.length a8) Z Z zy Z) Z (zY Z Z Z (zF Z Z (nC aZ.out)) (fun _=>zz Z Z zH) (zY Z Z Z (zF Z Z (nC aZ.out)) (fun _=>zJ Z Z zQ Z Zm) ?_))
 have lH:=eg.le bt
 refine zl Z Z Z (zF Z Z (nC aZ.out)) (cx.ldC (f:=2) lH (v:=.slice bJ p0.Clocks.length bL) Z Z yA Z) Z (zY Z Z Z (zF Z Z (nC aZ.out)) (fun _=>zz Z Z ZR) (zY Z Z Z (zF Z Z (nC aZ.out)) (fun _=>ZN Z Z Z) (oR Z (zb Z (nC aZ.out) Z) (oA Z Z (eN (ifc rD ?_ ?_))))))
 intro d7 rE
 refine zn (zd (fun h=>h d7.out)) (zM (yX fun cI bZ=>?_))
 have fK:cI 4=.pointer (some ⟨bk,0,none⟩):=(bZ 4).trans rfl
 have fL:cI 5=.pointer (some ⟨bn,0,none⟩):=(bZ 5).trans rfl
 have cN:cI 6=.pointer (some ⟨bC,0,none⟩):=(bZ 6).trans rfl
 have cO:cI 7=.pointer (some ⟨aP,0,none⟩):=(bZ 7).trans rfl
 have fM:cI 8=.pointer (some ⟨aa,0,none⟩):=(bZ 8).trans rfl
 have fN:cI 10=.pointer (some ⟨ay,0,none⟩):=(bZ 10).trans rfl
 clear bZ
 refine rR (.fl 0 (.fl 1 (.fx 2 (wIS (.fx 7 (wJY (.nil)) .stop)) .stop))) Z ?_
 have fY:=ef.le bt
 refine oL Z (cx.ldC (f:=0) fY (v:=.slice aV p1.length aW) Z fK Try.isAgg29 Z) ?_
 have q:=cx.freeze (k:=0) rfl
 obtain ⟨cL,bE,cr,qB⟩:=q
 replace cr:=Cl.of cr
 have qC:sW w U cL [.blk aa 99 ae,ac,.obj ab (.map ag af),ah,aj,ai] dP:=qB
 replace cr:Cl cL ay 0 aN:=cr
 refine oR Z (yc Z zK (zB fN zK)) ?_
 have lI:=fU.le bt
 have fZ:=lI.le bE
 have mw:FnOK Try.prog cL (.func (.func 74) #[] #[]) wKB wKC wAc:=⟨74,[],[],rfl,Try.call74,fun U1 w1 x y vs le hs ha hm=>by obtain rfl:=ha;exact wEA x w1 U1 hs  hm⟩
 have mx:FnOK Try.prog cL (.func (.func 78) #[] #[.pointer (some ⟨ay,0,none⟩)]) wKE wKF (fun x=>wBt x wAc):=⟨78,[],[.pointer (some ⟨ay,0,none⟩)],rfl,Try.call78,fun U1 w1 x y vs le hs ha hm=>by obtain ⟨pA_0,pc_0,rfl,hq0_0⟩:=ha;exact wFi x pA_0 pc_0 wAc ay (.func (.func 74) #[] #[]) w1 U1 hs hq0_0 (cr.le le) (mw.le le) hm⟩
 refine bnK rE fun tg lJ rF=>zE 0 Z Z Z Z (zD Z Z Try.call76 (zB Z (zB Z zK)) Z) qC (fun hs=>wCU p1 aV aW (fun x=>wBt x wAc) (.func (.func 78) #[] #[.pointer (some ⟨ay,0,none⟩)]) dP cL hs fZ mx lJ) (.inr Z) ?_
 rintro bQ sh s5 fy bu qD ⟨rfl,rfl⟩
 have di:sW w U bQ [.blk aa 99 ae,ac,.obj ab (.map ag af),ah,aj,ai] fy:=qD
 refine oR Z (ZT Z Z) (oM Z Z (ifc rF ?_ ?_))
 intro bb rG
 have lK:=fW.le bE
 have f4:=lK.le bu
 refine zl Z Z Z (zF Z Z (nC bb.out)) (di.ldC (f:=0) f4 (v:=.slice a7 p2.length a8) Z fL zy Z) Z ?_
 have lL:=cr.le bu
 refine zl Z Z Z (zF Z Z (nC bb.out)) (di.ldC (f:=0) lL (v:=.func (.func 74) #[] #[]) Z fN Try.isAgg76 Z) Z ?_
 have lM:=gv.le bH
 have lN:=lM.le bs
 have lO:=lN.le bd
 have lP:=lO.le aR
 have lQ:=lP.le bt
 have lR:=lQ.le bE
 have f5:=lR.le bu
 have my:FnOK Try.prog bQ (.func (.func 74) #[] #[]) wKB wKC wAc:=⟨74,[],[],rfl,Try.call74,fun U1 w1 x y vs le hs ha hm=>by obtain rfl:=ha;exact wEA x w1 U1 hs  hm⟩
 refine bnK rG fun th lS rH=>zE 0 Z Z Z (zF Z Z (nC bb.out)) (zD Z Z Try.call79 (zB Z (zB Z zK)) Z) di (fun hs=>wCv p2 a7 a8 wAc (.func (.func 74) #[] #[]) fy bQ hs f5 my lS) (.inr Z) ?_
 rintro bR sj s6 i8 bF qE ⟨rfl,rfl⟩
 have gq:sW w U bR [.blk aa 99 ae,ac,.obj ab (.map ag af),ah,aj,ai] i8:=qE
 refine zY Z Z Z (zF Z Z (nC bb.out)) (fun _=>ZT Z Z) (oR Z (zb Z (nC bb.out) Z) (oA Z Z (eN (ifc rH ?_ ?_))))
 intro d9 rI
 refine zn (nC d9.out) (Zl (ZH (zL (sR gCg Z (oR Z (yc Z zK (zB fL (zB fK zK))) (zT (cs:=[.nilFunc]) Z Z Z Z Z Try.zeroValue145 Z gq ?_))))))
 intro sE ak qF
 let am:List Value:=[.func (.func 80) #[] #[.pointer (some ⟨bn,0,none⟩),.pointer (some ⟨bk,0,none⟩)]]
 refine zV (j:=0) (vs:=am) Z Z Z Z qF Z Z Z Z Try.sizeOf145 (zA Z) Z Z Z ?_
 intro fz qG
 have eO:sW w U bR [.blk ak 145 am,.blk aa 99 ae,ac,.obj ab (.map ag af),ah,aj,ai] fz:=qG
 refine eN (zM (sR (wDe (.fx 4 .nil .stop)) Z (oL Z (eO.ldB (j:=1) Z Z fM ya (v:=.pointer (some ⟨cM,0,none⟩)) Z) (oR Z (Za Z Z) (oR Z (zJ Z Z ZF Z zZ) ?_)))))
 let eW:List Value:=[.slice be aQ.Race.Starts.length bo,.slice bf aQ.Race.Splits.length bp,.slice bg aQ.Race.Clocks.length bq,.slice bh aQ.Race.Readings.length br]
 refine oL Z (eO.ldBA (j:=2) Z Z Z ze zZ (vs:=eW) Z Z) ?_
 have lU:=ls.le bt
 have lV:=lU.le bE
 have lW:=lV.le bu
 have f6:=lW.le bF
 have lX:=lu.le bt
 have lY:=lX.le bE
 have lZ:=lY.le bu
 have f8:=lZ.le bF
 have l3:=lv.le bt
 have l4:=l3.le bE
 have l5:=l4.le bu
 have f9:=l5.le bF
 have l6:=lw.le bt
 have l7:=l6.le bE
 have l8:=l7.le bu
 have ga:=l8.le bF
 have q:=bnd rI
 obtain ⟨⟨⟩,ma,gy⟩:=q
 try dsimp only at gy
 refine zE 0 Z Z Z Z (zD Z Z Try.call81 (zB Z zK) Z) eO (fun hs=>wEZ aQ.Race be bo bf bp bg bq bh br fz bR hs f6 f8 f9 ga ma) (.inr Z) ?_
 rintro fj sk s7 i9 bG qH ⟨fC,rfl,rfl,mc⟩
 have qI:sW w U fj [.blk ak 145 am,.blk aa 99 ae,ac,.obj ab (.map ag af),ah,aj,ai] i9:=qH
 refine eN (zc (yX fun cJ cz=>?_))
 have df:cJ 6=.pointer (some ⟨bC,0,none⟩):=(cz 6).trans cN
 have dg:cJ 7=.pointer (some ⟨aP,0,none⟩):=(cz 7).trans cO
 have jj:cJ 8=.pointer (some ⟨aa,0,none⟩):=(cz 8).trans fM
 have jk:cJ 11=.pointer (some ⟨ak,0,none⟩):=(cz 11).trans rfl
 have jl:cJ 62=.func (.func 105) #[] #[.pointer (some ⟨fC,0,none⟩)]:=(cz 62).trans rfl
 clear cz
 refine bnK gy fun gA qX dk=>?_
 have ci:=f6.le bG
 have cj:=f8.le bG
 have cm:=f9.le bG
 have cn:=ga.le bG
 refine CK.rangeY (S:=Unit) (E:=Unit) (ar:=wKD) (PY:=(fun (_:Unit) (U_:PHeap) (L_:List Res)=>L_=[.blk ak 145 am,.blk aa 99 ae,.row cV db 130 7 (hD wAP aQ.edges),ac,.obj ab (.map ag af),aj,ai])) (PE:=(fun (_:Unit) (U_:PHeap) (L_:List Res)=>L_=[.blk ak 145 am,.blk aa 99 ae,.row cV db 130 7 (hD wAP aQ.edges),ac,.obj ab (.map ag af),aj,ai])) (exO:=(fun _=>.ret)) (s0:=()) (rr:=gA) jl Try.call105 (qI.pick [0,1,4,2,3,5,6] _ (by decide) rfl) (by decide) (fun _ _ _ h=>by obtain rfl:=h;rfl) (fun _=>.inl rfl) rfl (fun l w1 L1 PY' PE' mB mz qR=>wEH PY' PE' _ l _ aQ.Race fC be bo bf bp bg bq bh br w1 L1 fj mB mz qR mc ci cj cm cn qX) ?_ ?_
 rintro av sO sI ⟨⟩ aU s9 sN bv rV rQ eV aw aJ mC mA qU gw cG bD
 obtain rfl:=mA
 obtain rfl:=qU
 replace bD:∀ t,cG t=upd cJ 63 (.agg #[jV aU.Kind,jV aU.Skier,jV aU.Index,.bool aU.Up]) t:=bD
 have jc:cG 63=.agg #[jV aU.Kind,jV aU.Skier,jV aU.Index,.bool aU.Up]:=(bD 63).trans (wEf _ _ _)
 have cd:cG 6=.pointer (some ⟨bC,0,none⟩):=(bD 6).trans ((wEV _ _ (by decide)).trans df)
 have cf:cG 7=.pointer (some ⟨aP,0,none⟩):=(bD 7).trans ((wEV _ _ (by decide)).trans dg)
 have bV:cG 8=.pointer (some ⟨aa,0,none⟩):=(bD 8).trans ((wEV _ _ (by decide)).trans jj)
 have cg:cG 11=.pointer (some ⟨ak,0,none⟩):=(bD 11).trans ((wEV _ _ (by decide)).trans jk)
 clear bD
 have mD:St aw bv [.obj av eV,.blk ak 145 am,.blk aa 99 ae,ah,ac,.obj ab (.map ag af),aj,ai] rQ:=mC
 try dsimp only at gw
 refine rR gCb Z (zT (cs:=[jV 0,jV 0,jV 0,.bool false]) Z Z Z Z Z Zv Z mD ?_)
 intro sm ax mE
 let aq:List Value:=[jV aU.Kind,jV aU.Skier,jV aU.Index,.bool aU.Up]
 refine zV (j:=0) (vs:=aq) Z Z Z Z mE Z Z jc Z ZU (zA Z) Z Z Z ?_
 intro gJ mF
 have mG:St aw bv [.blk ax 78 aq,.obj av eV,.blk ak 145 am,.blk aa 99 ae,ah,ac,.obj ab (.map ag af),aj,ai] gJ:=mF
 refine zg ⟨rfl,rfl,_,_,(mG.pick [1,0,2,3,4,5,6,7,8] [.obj av eV,.blk ax 78 aq,.blk ak 145 am,.blk aa 99 ae,ah,ac,.obj ab (.map ag af),aj,ai] (by decide) rfl),fun dN aK mH=>?_⟩
 have mI:St aw bv [.obj av aK,.blk ax 78 aq,.blk ak 145 am,.blk aa 99 ae,ah,ac,.obj ab (.map ag af),aj,ai] dN:=mH
 refine zc ?_
 have q:=bnd gw
 obtain ⟨⟨gB,gC,gD,gE,rS⟩,rL,gx⟩:=q
 try dsimp only at gx
 let ca:List Value:=[jV gB,jV gC]
 let cb:List Value:=[jV gD,jV gE]
 refine yN (fun σ_ w_=>∃ (U_:PHeap) (bS:Nat) (bU:Nat),σ_ 6=.pointer (some ⟨bC,0,none⟩)/\σ_ 7=.pointer (some ⟨aP,0,none⟩)/\σ_ 8=.pointer (some ⟨aa,0,none⟩)/\σ_ 11=.pointer (some ⟨ak,0,none⟩)/\σ_ 13=.pointer (some ⟨bS,0,none⟩)/\σ_ 14=.pointer (some ⟨bU,0,none⟩)/\σ_ 15=jV rS/\PHeap.Le bv U_/\St aw U_ [.obj av aK,.blk ax 78 aq,.blk ak 145 am,.blk aa 99 ae,ah,ac,.obj ab (.map ag af),aj,ai,.blk bS 104 ca,.blk bU 104 cb] w_) ?_ ?_
 have q:=bnd rL
 obtain ⟨⟨aL,aM,cU⟩,cP,bX⟩:=q
 try dsimp only at bX
 refine ZA ZB [1,3,3,1,1,2,3,3,3,3,2,2,0,0,3] (wGL (.fx 5 (wKY (.fx 10 gCr (.fx 11 gCs .stop))) (.fx 10 (.fx 5 (wKY gCr) (.fx 11 (.fx 5 (wKY gCk) (.stop)) (.stop))) (.fx 11 (.fx 5 (wKY gCs) (.fx 10 (.fx 5 (wKY gCk) (.stop)) (.stop))) (.stop))))) (by kernel_rfl) ?_
 have bW:=mI.drew
 generalize hw_W1113:({ dN with drawn:=dN.drawn + 1 }:World)=gK at bW ⊢
 refine oL Z (bW.ldB (j:=3) Z Z bV ya (v:=.pointer (some ⟨cM,0,none⟩)) Z) (oR Z (Za Z Z) (oR Z (zJ Z Z ZF Z zZ) (oL Z (bW.ldBA (j:=5) Z Z Z ze zZ (vs:=eW) Z Z) (oL Z (bW.ldBA (j:=1) Z Z Z Zt ZU (vs:=aq) Z Z) (zk ?_ ?_)))))
 have ju:=ci.le aJ
 have jv:=cj.le aJ
 have jw:=cm.le aJ
 have jx:=cn.le aJ
 refine zE 0 Z Z Z Z (zD Z Z yk (zB Z (zB Z zK)) Z) bW (fun hs=>wAm aQ.Race be bo bf bp bg bq bh br aU gK bv hs ju jv jw jx cP) (.inr Z) ?_
 rintro bN rX sQ gL gz mJ ⟨rfl,rfl⟩
 have ge:St aw bN [.obj av aK,.blk ax 78 aq,.blk ak 145 am,.blk aa 99 ae,ah,ac,.obj ab (.map ag af),aj,ai] gL:=mJ
 refine oM Z Z (oR Z (zP Z Z (v:=.agg #[jV aL.skier,jV aL.mat]) Z) (oR Z (zP Z Z (v:=.agg #[jV aM.skier,jV aM.mat]) Z) (oR Z (zP Z Z (v:=jV cU) Z) (zk ?_ ?_))))
 let dr:List Value:=[jV 0,jV 0]
 refine zT (cs:=dr) Z Z Z Z Z za Z ge ?_
 intro sn dQ mK
 refine zT (cs:=dr) Z Z Z Z Z za Z mK ?_
 intro sq dR mL
 let dt:List Value:=[jV aL.skier,jV aL.mat]
 refine zV (j:=1) (vs:=dt) Z Z Z Z mL Z Z Z Z zI (zA Z) Z Z Z ?_
 intro gM mM
 have mN:St aw bN [.blk dR 104 dr,.blk dQ 104 dt,.obj av aK,.blk ax 78 aq,.blk ak 145 am,.blk aa 99 ae,ah,ac,.obj ab (.map ag af),aj,ai] gM:=mM
 let eX:List Value:=[jV aM.skier,jV aM.mat]
 refine zV (j:=0) (vs:=eX) Z Z Z Z mN Z Z Z Z zI (zA Z) Z Z Z ?_
 intro gN mO
 have mP:St aw bN [.blk dR 104 eX,.blk dQ 104 dt,.obj av aK,.blk ax 78 aq,.blk ak 145 am,.blk aa 99 ae,ah,ac,.obj ab (.map ag af),aj,ai] gN:=mO
 refine oA Z Z (zg ?_)
 cases bX
 exact zL ⟨rfl,⟨bN,dQ,dR,cd,cf,bV,cg,rfl,rfl,rfl,gz,(mP.pick [2,3,4,5,6,7,8,9,10,1,0] _ (by decide) rfl)⟩⟩
 let du:List Value:=[jV 0,jV 0]
 refine zT (cs:=du) Z Z Z Z Z za Z ge ?_
 intro ss dS mR
 refine zT (cs:=du) Z Z Z Z Z za Z mR ?_
 intro su dT mS
 let dv:List Value:=[jV aL.skier,jV aL.mat]
 refine zV (j:=0) (vs:=dv) Z Z Z Z mS Z Z Z Z zI (zA Z) Z Z Z ?_
 intro gO mT
 have mU:St aw bN [.blk dT 104 dv,.blk dS 104 du,.obj av aK,.blk ax 78 aq,.blk ak 145 am,.blk aa 99 ae,ah,ac,.obj ab (.map ag af),aj,ai] gO:=mT
 let eY:List Value:=[jV aM.skier,jV aM.mat]
 refine zV (j:=1) (vs:=eY) Z Z Z Z mU Z Z Z Z zI (zA Z) Z Z Z ?_
 intro gP mV
 have mW:St aw bN [.blk dT 104 dv,.blk dS 104 eY,.obj av aK,.blk ax 78 aq,.blk ak 145 am,.blk aa 99 ae,ah,ac,.obj ab (.map ag af),aj,ai] gP:=mV
 refine oA Z Z (zg ?_)
 cases bX
 exact zL ⟨rfl,⟨bN,dT,dS,cd,cf,bV,cg,rfl,rfl,rfl,gz,(mW.pick [2,3,4,5,6,7,8,9,10,0,1] _ (by decide) rfl)⟩⟩
 refine zk ?_ ?_
 let bw:List Value:=[jV 0,jV 0]
 refine zT (cs:=bw) Z Z Z Z Z za Z bW ?_
 intro gQ bA gf
 refine zk ?_ ?_
 have jy:=ci.le aJ
 have jz:=cj.le aJ
 have jA:=cm.le aJ
 have jB:=cn.le aJ
 refine zE 0 Z Z Z Z (zD Z Z yk (zB Z (zB Z zK)) Z) gf (fun hs=>wAm aQ.Race be bo bf bp bg bq bh br aU gQ bv hs jy jz jA jB cP) (.inr Z) ?_
 rintro cX rY sS gR rM mX ⟨rfl,rfl⟩
 have mY:St aw cX [.blk bA 104 bw,.obj av aK,.blk ax 78 aq,.blk ak 145 am,.blk aa 99 ae,ah,ac,.obj ab (.map ag af),aj,ai] gR:=mX
 refine oM Z Z (oR Z (zP Z Z (v:=.agg #[jV aL.skier,jV aL.mat]) Z) (oR Z (zP Z Z (v:=.agg #[jV aM.skier,jV aM.mat]) Z) (oR Z (zP Z Z (v:=jV cU) Z) (zT (cs:=bw) Z Z Z Z Z za Z mY ?_))))
 intro sv dU mZ
 let dw:List Value:=[jV aL.skier,jV aL.mat]
 refine zV (j:=1) (vs:=dw) Z Z Z Z mZ Z Z Z Z zI (zA Z) Z Z Z ?_
 intro gS m4
 have m5:St aw cX [.blk dU 104 bw,.blk bA 104 dw,.obj av aK,.blk ax 78 aq,.blk ak 145 am,.blk aa 99 ae,ah,ac,.obj ab (.map ag af),aj,ai] gS:=m4
 let eZ:List Value:=[jV aM.skier,jV aM.mat]
 refine zV (j:=0) (vs:=eZ) Z Z Z Z m5 Z Z Z Z zI (zA Z) Z Z Z ?_
 intro gT m7
 have m8:St aw cX [.blk dU 104 eZ,.blk bA 104 dw,.obj av aK,.blk ax 78 aq,.blk ak 145 am,.blk aa 99 ae,ah,ac,.obj ab (.map ag af),aj,ai] gT:=m7
 refine oA Z Z (zg ?_)
 cases bX
 exact zL ⟨rfl,⟨cX,bA,dU,cd,cf,bV,cg,rfl,rfl,rfl,rM,(m8.pick [2,3,4,5,6,7,8,9,10,1,0] _ (by decide) rfl)⟩⟩
 refine zT (cs:=bw) Z Z Z Z Z za Z gf ?_
 intro gU c8 m9
 have jE:=ci.le aJ
 have jF:=cj.le aJ
 have jG:=cm.le aJ
 have jH:=cn.le aJ
 refine zE 0 Z Z Z Z (zD Z Z yk (zB Z (zB Z zK)) Z) m9 (fun hs=>wAm aQ.Race be bo bf bp bg bq bh br aU gU bv hs jE jF jG jH cP) (.inr Z) ?_
 rintro cY rZ sT gV rN n3 ⟨rfl,rfl⟩
 have n4:St aw cY [.blk c8 104 bw,.blk bA 104 bw,.obj av aK,.blk ax 78 aq,.blk ak 145 am,.blk aa 99 ae,ah,ac,.obj ab (.map ag af),aj,ai] gV:=n3
 refine oM Z Z (oR Z (zP Z Z (v:=.agg #[jV aL.skier,jV aL.mat]) Z) (oR Z (zP Z Z (v:=.agg #[jV aM.skier,jV aM.mat]) Z) (oR Z (zP Z Z (v:=jV cU) Z) ?_)))
 let dx:List Value:=[jV aL.skier,jV aL.mat]
 refine zV (j:=1) (vs:=dx) Z Z Z Z n4 Z Z Z Z zI (zA Z) Z Z Z ?_
 intro gW n5
 have n6:St aw cY [.blk c8 104 bw,.blk bA 104 dx,.obj av aK,.blk ax 78 aq,.blk ak 145 am,.blk aa 99 ae,ah,ac,.obj ab (.map ag af),aj,ai] gW:=n5
 let fb:List Value:=[jV aM.skier,jV aM.mat]
 refine zV (j:=0) (vs:=fb) Z Z Z Z n6 Z Z Z Z zI (zA Z) Z Z Z ?_
 intro gX n7
 have n8:St aw cY [.blk c8 104 fb,.blk bA 104 dx,.obj av aK,.blk ax 78 aq,.blk ak 145 am,.blk aa 99 ae,ah,ac,.obj ab (.map ag af),aj,ai] gX:=n7
 refine oA Z Z (zg ?_)
 cases bX
 exact zL ⟨rfl,⟨cY,bA,c8,cd,cf,bV,cg,rfl,rfl,rfl,rN,(n8.pick [2,3,4,5,6,7,8,9,10,1,0] _ (by decide) rfl)⟩⟩
 let bx:List Value:=[jV 0,jV 0]
 refine zT (cs:=bx) Z Z Z Z Z za Z bW ?_
 intro gY bB gg
 refine zk ?_ ?_
 have jI:=ci.le aJ
 have jJ:=cj.le aJ
 have jK:=cm.le aJ
 have jL:=cn.le aJ
 refine zE 0 Z Z Z Z (zD Z Z yk (zB Z (zB Z zK)) Z) gg (fun hs=>wAm aQ.Race be bo bf bp bg bq bh br aU gY bv hs jI jJ jK jL cP) (.inr Z) ?_
 rintro cZ r6 sU gZ rO n9 ⟨rfl,rfl⟩
 have oc:St aw cZ [.blk bB 104 bx,.obj av aK,.blk ax 78 aq,.blk ak 145 am,.blk aa 99 ae,ah,ac,.obj ab (.map ag af),aj,ai] gZ:=n9
 refine oM Z Z (oR Z (zP Z Z (v:=.agg #[jV aL.skier,jV aL.mat]) Z) (oR Z (zP Z Z (v:=.agg #[jV aM.skier,jV aM.mat]) Z) (oR Z (zP Z Z (v:=jV cU) Z) (zT (cs:=bx) Z Z Z Z Z za Z oc ?_))))
 intro sw dV od
 let dz:List Value:=[jV aL.skier,jV aL.mat]
 refine zV (j:=0) (vs:=dz) Z Z Z Z od Z Z Z Z zI (zA Z) Z Z Z ?_
 intro g6 oe
 have og:St aw cZ [.blk dV 104 dz,.blk bB 104 bx,.obj av aK,.blk ax 78 aq,.blk ak 145 am,.blk aa 99 ae,ah,ac,.obj ab (.map ag af),aj,ai] g6:=oe
 let fc:List Value:=[jV aM.skier,jV aM.mat]
 refine zV (j:=1) (vs:=fc) Z Z Z Z og Z Z Z Z zI (zA Z) Z Z Z ?_
 intro g7 oh
 have oi:St aw cZ [.blk dV 104 dz,.blk bB 104 fc,.obj av aK,.blk ax 78 aq,.blk ak 145 am,.blk aa 99 ae,ah,ac,.obj ab (.map ag af),aj,ai] g7:=oh
 refine oA Z Z (zg ?_)
 cases bX
 exact zL ⟨rfl,⟨cZ,dV,bB,cd,cf,bV,cg,rfl,rfl,rfl,rO,(oi.pick [2,3,4,5,6,7,8,9,10,0,1] _ (by decide) rfl)⟩⟩
 refine zT (cs:=bx) Z Z Z Z Z za Z gg ?_
 intro g8 da oj
 have jM:=ci.le aJ
 have jN:=cj.le aJ
 have jO:=cm.le aJ
 have jP:=cn.le aJ
 refine zE 0 Z Z Z Z (zD Z Z yk (zB Z (zB Z zK)) Z) oj (fun hs=>wAm aQ.Race be bo bf bp bg bq bh br aU g8 bv hs jM jN jO jP cP) (.inr Z) ?_
 rintro c6 r7 sV g9 rP om ⟨rfl,rfl⟩
 have oq:St aw c6 [.blk da 104 bx,.blk bB 104 bx,.obj av aK,.blk ax 78 aq,.blk ak 145 am,.blk aa 99 ae,ah,ac,.obj ab (.map ag af),aj,ai] g9:=om
 refine oM Z Z (oR Z (zP Z Z (v:=.agg #[jV aL.skier,jV aL.mat]) Z) (oR Z (zP Z Z (v:=.agg #[jV aM.skier,jV aM.mat]) Z) (oR Z (zP Z Z (v:=jV cU) Z) ?_)))
 let dA:List Value:=[jV aL.skier,jV aL.mat]
 refine zV (j:=0) (vs:=dA) Z Z Z Z oq Z Z Z Z zI (zA Z) Z Z Z ?_
 intro ib ot
 have ou:St aw c6 [.blk da 104 dA,.blk bB 104 bx,.obj av aK,.blk ax 78 aq,.blk ak 145 am,.blk aa 99 ae,ah,ac,.obj ab (.map ag af),aj,ai] ib:=ot
 let fd:List Value:=[jV aM.skier,jV aM.mat]
 refine zV (j:=1) (vs:=fd) Z Z Z Z ou Z Z Z Z zI (zA Z) Z Z Z ?_
 intro ic ov
 have ow:St aw c6 [.blk da 104 dA,.blk bB 104 fd,.obj av aK,.blk ax 78 aq,.blk ak 145 am,.blk aa 99 ae,ah,ac,.obj ab (.map ag af),aj,ai] ic:=ov
 refine oA Z Z (zg ?_)
 cases bX
 exact zL ⟨rfl,⟨c6,da,bB,cd,cf,bV,cg,rfl,rfl,rfl,rP,(ow.pick [2,3,4,5,6,7,8,9,10,0,1] _ (by decide) rfl)⟩⟩
 rintro tj fm ⟨gG,bS,bU,je,jf,sH,fJ,jg,jh,ji,dl,ox⟩
 refine zM (ZA ZB [1,1,2,1,1,2,3,3,3] (.fl 0 (.fl 1 (.fl 3 (.fl 4 (.fl 6 (.fx 2 (.fx 5 (.fl 7 (.fl 8 .nil)) .stop) .stop)))))) (by kernel_rfl) ?_)
 have cu:=ox.drew
 generalize hw_W1327:({ fm with drawn:=fm.drawn + 1 }:World)=ie at cu ⊢
 refine oL Z (cu.ldB (j:=2) Z Z fJ Try.isAgg145 (v:=.func (.func 80) #[] #[.pointer (some ⟨bn,0,none⟩),.pointer (some ⟨bk,0,none⟩)]) Z) (oL Z (cu.ldBA (j:=10) Z Z jh zi zI (vs:=cb) Z Z) (oL Z (cu.ldB (j:=2) Z Z fJ Try.isAgg145 (v:=.func (.func 80) #[] #[.pointer (some ⟨bn,0,none⟩),.pointer (some ⟨bk,0,none⟩)]) Z) (oL Z (cu.ldBA (j:=9) Z Z jg zi zI (vs:=ca) Z Z) (oM Z ji ?_))))
 have jR:=f4.le bF
 have jS:=jR.le bG
 have jT:=jS.le aJ
 have fQ:=jT.le dl
 have jU:=f5.le bF
 have jW:=jU.le bG
 have jX:=jW.le aJ
 have fR:=jX.le dl
 have jY:=fY.le bE
 have jZ:=jY.le bu
 have j0:=jZ.le bF
 have j1:=j0.le bG
 have j2:=j1.le aJ
 have fS:=j2.le dl
 have j3:=fZ.le bu
 have j4:=j3.le bF
 have j5:=j4.le bG
 have j6:=j5.le aJ
 have fT:=j6.le dl
 refine bnK gx fun tb j7 q6=>zE 0 Z Z Z Z (zD Z Z Try.call80 (zB Z zK) Z) cu (fun hs=>wFj (⟨gD,gE⟩:wAH) p2 bn a7 a8 p1 bk aV aW ie gG hs fQ fR fS fT j7) (.inr Z) ?_
 rintro fg r8 sX fq dm oy ⟨rfl,rfl⟩
 have oz:St aw fg [.obj av aK,.blk ax 78 aq,.blk ak 145 am,.blk aa 99 ae,ah,ac,.obj ab (.map ag af),aj,ai,.blk bS 104 ca,.blk bU 104 cb] fq:=oy
 have j8:=fQ.le dm
 have j9:=fR.le dm
 have k3:=fS.le dm
 have k5:=fT.le dm
 refine bnK q6 fun tc k6 q7=>zE 0 Z Z Z Z (zD Z Z Try.call80 (zB Z zK) Z) oz (fun hs=>wFj (⟨gB,gC⟩:wAH) p2 bn a7 a8 p1 bk aV aW fq fg hs j8 j9 k3 k5 k6) (.inr Z) ?_
 rintro dL r9 sY ig sK oC ⟨rfl,rfl⟩
 have gh:St aw dL [.obj av aK,.blk ax 78 aq,.blk ak 145 am,.blk aa 99 ae,ah,ac,.obj ab (.map ag af),aj,ai,.blk bS 104 ca,.blk bU 104 cb] ig:=oC
 refine oR Z (zf Z Z Z) (oR Z (yn Z Z Z) (eN (ifc q7 ?_ ?_)))
 intro dX q8
 refine cT Z dX (sR gCb Z (zV (j:=8) (vs:=[.bool false]) Z Z Z Z gh Z je Z Z yC (zA Z) Z Z Z ?_))
 intro ii oE
 have oG:St aw dL [.obj av aK,.blk ax 78 aq,.blk ak 145 am,.blk aa 99 ae,ah,ac,.obj ab (.map ag af),aj,ai,.blk bS 104 ca,.blk bU 104 cb] ii:=oE
 refine zV (j:=7) (vs:=[jV 0]) Z Z Z Z oG Z jf Z Z yU (zA Z) Z Z Z ?_
 intro ij oH
 have oI:St aw dL [.obj av aK,.blk ax 78 aq,.blk ak 145 am,.blk aa 99 ae,ah,ac,.obj ab (.map ag af),aj,ai,.blk bS 104 ca,.blk bU 104 cb] ij:=oH
 refine eN (zU (zX ?_))
 obtain rfl:=nD q8
 exact ⟨_,_,(oI.pick [0,2,3,4,5,6,7,8] _ (by decide) rfl),rfl,rfl⟩
 intro dX q9
 refine cF Z dX (Zl (ZH ?_))
 obtain rfl:=nD q9
 exact ⟨_,_,(gh.pick [0,2,3,4,5,6,7,8] _ (by decide) rfl),rfl,rfl⟩
 rintro cE bz sc ft sL gi
 rcases gA with ⟨⟩ | ⟨⟩
 try dsimp only at dk
 rintro rfl
 have oJ:sW w U bz [.blk ak 145 am,.blk aa 99 ae,ah,ac,.obj ab (.map ag af),aj,ai,.obj cE (.deferred (some []))] ft:=gi
 refine ZH (zL (sR gCb Z (zV (j:=6) (vs:=[.bool true]) Z Z Z Z oJ Z df Z Z yC (zA Z) Z Z Z ?_)))
 intro ik oK
 let cW:Res:=.blk bC 4 [.bool true]
 have oO:sW w U bz [.blk ak 145 am,.blk aa 99 ae,ah,ac,.obj ab (.map ag af),aj,cW,.obj cE (.deferred (some []))] ik:=oK
 refine zV (j:=5) (vs:=[jV 0]) Z Z Z Z oO Z dg Z Z yU (zA Z) Z Z Z ?_
 intro il oP
 have oQ:sW w U bz [.blk ak 145 am,.blk aa 99 ae,ah,ac,.obj ab (.map ag af),aj,cW,.obj cE (.deferred (some []))] il:=oP
 refine eN (zU (wDG (by first | exact .inl rfl | exact .inr rfl) (rbs:=[cE]) (L:=[.blk ak 145 am,.blk aa 99 ae,ah,ac,.obj ab (.map ag af),aj,cW]) oQ fun im oS=>?_))
 have eu:sW w U bz [.blk ak 145 am,.blk aa 99 ae,ah,ac,.obj ab (.map ag af),aj,cW] im:=oS
 cases dk
 exact ⟨_,(wCT (rs:=[.cell 6 4,.cell 7 47]) (vs:=[.bool true,jV 0]) ⟨⟨_,df,(wDW yK (eu.blkAt (k:=6) rfl) rfl)⟩,⟨⟨_,dg,(wDW yb (eu.blkAt (k:=5) rfl) rfl)⟩,trivial⟩⟩ rfl),bz,_,(eu.pick [] _ (by decide) rfl),rfl,rfl⟩
 try dsimp only at dk
 rintro rfl
 have oU:sW w U bz [.blk ak 145 am,.blk aa 99 ae,ah,ac,.obj ab (.map ag af),aj,ai,.obj cE (.deferred (some []))] ft:=gi
 refine zX (zN (wDG (by first | exact .inl rfl | exact .inr rfl) (rbs:=[cE]) (L:=[.blk ak 145 am,.blk aa 99 ae,ah,ac,.obj ab (.map ag af),aj,ai]) oU fun io oV=>?_))
 have ew:sW w U bz [.blk ak 145 am,.blk aa 99 ae,ah,ac,.obj ab (.map ag af),aj,ai] io:=oV
 cases dk
 exact ⟨_,(wCT (rs:=[.cell 6 4,.cell 7 47]) (vs:=[.bool false,jV 0]) ⟨⟨_,df,(wDW yK (ew.blkAt (k:=6) rfl) rfl)⟩,⟨⟨_,dg,(wDW yb (ew.blkAt (k:=5) rfl) rfl)⟩,trivial⟩⟩ rfl),bz,_,(ew.pick [] _ (by decide) rfl),rfl,rfl⟩
 intro d9 rc
 refine ZD (nF (d9.out)) (sR gCb Z (zV (j:=5) (vs:=[.bool false]) Z Z Z Z gq Z cN Z Z yC (zA Z) Z Z Z ?_))
 intro ip oW
 have oX:sW w U bR [.blk aa 99 ae,ac,.obj ab (.map ag af),ah,aj,ai] ip:=oW
 refine zV (j:=4) (vs:=[jV 3]) Z Z Z Z oX Z cO Z Z yU (zA Z) Z Z Z ?_
 intro iq oY
 let dB:Res:=.blk aP 47 [jV 3]
 have oZ:sW w U bR [.blk aa 99 ae,ac,.obj ab (.map ag af),ah,dB,ai] iq:=oY
 refine eN (zU (zX (zN (wDG (by first | exact .inl rfl | exact .inr rfl) (rbs:=[]) (L:=[.blk aa 99 ae,ac,.obj ab (.map ag af),ah,dB,ai]) oZ fun ir o3=>?_))))
 have ey:sW w U bR [.blk aa 99 ae,ac,.obj ab (.map ag af),ah,dB,ai] ir:=o3
 cases rc
 exact ⟨_,(wCT (rs:=[.cell 6 4,.cell 7 47]) (vs:=[.bool false,jV 3]) ⟨⟨_,cN,(wDW yK (ey.blkAt (k:=5) rfl) rfl)⟩,⟨⟨_,cO,(wDW yb (ey.blkAt (k:=4) rfl) rfl)⟩,trivial⟩⟩ rfl),bR,_,(ey.pick [] _ (by decide) rfl),rfl,rfl⟩
 intro bb rd
 refine zt Z Z Z (zO Z Z (nF (bb.out)) Z) (zt Z Z Z (zO Z Z (nF (bb.out)) Z) (ZG Z Z Z (zO Z Z (nF (bb.out)) Z) (zt Z Z Z (zO Z Z (nF (bb.out)) Z) (oR Z (zR Z (nF (bb.out)) Z) (oA Z Z (eN (ZD Z (sR gCb Z (zV (j:=5) (vs:=[.bool false]) Z Z Z Z di Z cN Z Z yC (zA Z) Z Z Z ?_)))))))))
 intro it o5
 have o6:sW w U bQ [.blk aa 99 ae,ac,.obj ab (.map ag af),ah,aj,ai] it:=o5
 refine zV (j:=4) (vs:=[jV 3]) Z Z Z Z o6 Z cO Z Z yU (zA Z) Z Z Z ?_
 intro iu o7
 let dC:Res:=.blk aP 47 [jV 3]
 have o8:sW w U bQ [.blk aa 99 ae,ac,.obj ab (.map ag af),ah,dC,ai] iu:=o7
 refine eN (zU (zX (zN (wDG (by first | exact .inl rfl | exact .inr rfl) (rbs:=[]) (L:=[.blk aa 99 ae,ac,.obj ab (.map ag af),ah,dC,ai]) o8 fun iv o9=>?_))))
 have eA:sW w U bQ [.blk aa 99 ae,ac,.obj ab (.map ag af),ah,dC,ai] iv:=o9
 cases rd
 exact ⟨_,(wCT (rs:=[.cell 6 4,.cell 7 47]) (vs:=[.bool false,jV 3]) ⟨⟨_,cN,(wDW yK (eA.blkAt (k:=5) rfl) rfl)⟩,⟨⟨_,cO,(wDW yb (eA.blkAt (k:=4) rfl) rfl)⟩,trivial⟩⟩ rfl),bQ,_,(eA.pick [] _ (by decide) rfl),rfl,rfl⟩
 intro d7 re
 refine cT Z d7 (sR gCb Z (zV (j:=6) (vs:=[.bool false]) Z Z Z Z cx Z Z Z Z yC (zA Z) Z Z Z ?_))
 intro iw pd
 have pe:sW w U bj [.blk ay 76 aN,.blk aa 99 ae,ac,.obj ab (.map ag af),ah,aj,ai] iw:=pd
 refine zV (j:=5) (vs:=[jV 2]) Z Z Z Z pe Z Z Z Z yU (zA Z) Z Z Z ?_
 intro iy pf
 let dD:Res:=.blk aP 47 [jV 2]
 have pg:sW w U bj [.blk ay 76 aN,.blk aa 99 ae,ac,.obj ab (.map ag af),ah,dD,ai] iy:=pf
 refine eN (zU (zX (zN (wDG (by first | exact .inl rfl | exact .inr rfl) (rbs:=[]) (L:=[.blk ay 76 aN,.blk aa 99 ae,ac,.obj ab (.map ag af),ah,dD,ai]) pg fun iz ph=>?_))))
 have eB:sW w U bj [.blk ay 76 aN,.blk aa 99 ae,ac,.obj ab (.map ag af),ah,dD,ai] iz:=ph
 cases re
 exact ⟨_,(wCT (rs:=[.cell 6 4,.cell 7 47]) (vs:=[.bool false,jV 2]) ⟨⟨_,rfl,(wDW yK (eB.blkAt (k:=6) rfl) rfl)⟩,⟨⟨_,rfl,(wDW yb (eB.blkAt (k:=5) rfl) rfl)⟩,trivial⟩⟩ rfl),bj,_,(eB.pick [] _ (by decide) rfl),rfl,rfl⟩
 intro aZ rf
 refine zt Z Z Z (zO Z Z (nF (aZ.out)) Z) (zt Z Z Z (zO Z Z (nF (aZ.out)) Z) (zt Z Z Z (zO Z Z (nF (aZ.out)) Z) (zt Z Z Z (zO Z Z (nF (aZ.out)) Z) (zt Z Z Z (zO Z Z (nF (aZ.out)) Z) (zt Z Z Z (zO Z Z (nF (aZ.out)) Z) (oR Z (zR Z (nF (aZ.out)) Z) (oA Z Z (eN (ZD Z (sR gCb Z (zV (j:=6) (vs:=[.bool false]) Z Z Z Z cx Z Z Z Z yC (zA Z) Z Z Z ?_)))))))))))
 intro iA pj
 have pk:sW w U bj [.blk ay 76 aN,.blk aa 99 ae,ac,.obj ab (.map ag af),ah,aj,ai] iA:=pj
 refine zV (j:=5) (vs:=[jV 2]) Z Z Z Z pk Z Z Z Z yU (zA Z) Z Z Z ?_
 intro iB pm
 let dE:Res:=.blk aP 47 [jV 2]
 have pn:sW w U bj [.blk ay 76 aN,.blk aa 99 ae,ac,.obj ab (.map ag af),ah,dE,ai] iB:=pm
 refine eN (zU (zX (zN (wDG (by first | exact .inl rfl | exact .inr rfl) (rbs:=[]) (L:=[.blk ay 76 aN,.blk aa 99 ae,ac,.obj ab (.map ag af),ah,dE,ai]) pn fun iC po=>?_))))
 have eD:sW w U bj [.blk ay 76 aN,.blk aa 99 ae,ac,.obj ab (.map ag af),ah,dE,ai] iC:=po
 cases rf
 exact ⟨_,(wCT (rs:=[.cell 6 4,.cell 7 47]) (vs:=[.bool false,jV 2]) ⟨⟨_,rfl,(wDW yK (eD.blkAt (k:=6) rfl) rfl)⟩,⟨⟨_,rfl,(wDW yb (eD.blkAt (k:=5) rfl) rfl)⟩,trivial⟩⟩ rfl),bj,_,(eD.pick [] _ (by decide) rfl),rfl,rfl⟩
 intro ba ri
 refine oT Z ba (oT Z ba (ZG Z Z Z (zO Z Z (Zh ba.out) Z) (oT Z ba (oR Z (zR Z (Zh ba.out) Z) (oM Z Z (oN Z (oN Z (oN Z (oN Z (oN Z (oN Z (oR Z (zR Z Z Z) (oA Z Z (eN (ZD Z (sR gCb Z (zV (j:=6) (vs:=[.bool false]) Z Z Z Z cw Z Z Z Z yC (zA Z) Z Z Z ?_)))))))))))))))))
 intro iD pp
 have pq:sW w U au [.blk ay 76 aN,.blk aa 99 ae,ac,.obj ab (.map ag af),ah,aj,ai] iD:=pp
 refine zV (j:=5) (vs:=[jV 2]) Z Z Z Z pq Z Z Z Z yU (zA Z) Z Z Z ?_
 intro iE pu
 let dF:Res:=.blk aP 47 [jV 2]
 have py:sW w U au [.blk ay 76 aN,.blk aa 99 ae,ac,.obj ab (.map ag af),ah,dF,ai] iE:=pu
 refine eN (zU (zX (zN (wDG (by first | exact .inl rfl | exact .inr rfl) (rbs:=[]) (L:=[.blk ay 76 aN,.blk aa 99 ae,ac,.obj ab (.map ag af),ah,dF,ai]) py fun iF pz=>?_))))
 have eE:sW w U au [.blk ay 76 aN,.blk aa 99 ae,ac,.obj ab (.map ag af),ah,dF,ai] iF:=pz
 cases ri
 exact ⟨_,(wCT (rs:=[.cell 6 4,.cell 7 47]) (vs:=[.bool false,jV 2]) ⟨⟨_,rfl,(wDW yK (eE.blkAt (k:=6) rfl) rfl)⟩,⟨⟨_,rfl,(wDW yb (eE.blkAt (k:=5) rfl) rfl)⟩,trivial⟩⟩ rfl),au,_,(eE.pick [] _ (by decide) rfl),rfl,rfl⟩
 intro dZ rj
 refine cT Z dZ (sR gCg Z (oM Z Z (zV (j:=6) (vs:=[.bool false]) Z Z Z Z cw Z Z Z Z yC (zA Z) Z Z Z ?_)))
 intro iG pB
 have pC:sW w U au [.blk ay 76 aN,.blk aa 99 ae,ac,.obj ab (.map ag af),ah,aj,ai] iG:=pB
 refine zV (j:=5) (vs:=[jV bM]) Z Z Z Z pC Z Z Z Z yU (zA Z) Z Z Z ?_
 intro iH pD
 let dG:Res:=.blk aP 47 [jV bM]
 have pE:sW w U au [.blk ay 76 aN,.blk aa 99 ae,ac,.obj ab (.map ag af),ah,dG,ai] iH:=pD
 refine eN (zU (zX (zN (wDG (by first | exact .inl rfl | exact .inr rfl) (rbs:=[]) (L:=[.blk ay 76 aN,.blk aa 99 ae,ac,.obj ab (.map ag af),ah,dG,ai]) pE fun iI pF=>?_))))
 have eG:sW w U au [.blk ay 76 aN,.blk aa 99 ae,ac,.obj ab (.map ag af),ah,dG,ai] iI:=pF
 cases rj
 exact ⟨_,(wCT (rs:=[.cell 6 4,.cell 7 47]) (vs:=[.bool false,jV bM]) ⟨⟨_,rfl,(wDW yK (eG.blkAt (k:=6) rfl) rfl)⟩,⟨⟨_,rfl,(wDW yb (eG.blkAt (k:=5) rfl) rfl)⟩,trivial⟩⟩ rfl),au,_,(eG.pick [] _ (by decide) rfl),rfl,rfl⟩
end Go.Proofs.Ytlnfbjphfoipaaa
namespace Go.Proofs.Ytlnfbjphfoipaaa
open Go.KL
set_option maxHeartbeats 4000000
theorem wGb (p0 p1:Int) (w:World) (U:PHeap) (hS:St0 w U []) {r:Int × Int} (hm:wDT p0 p1=some r):Gv Try.prog 107 [.int .u64 p0,.int .u64 p1] w (wCB w [] U (fun U_ L_ v=>v=.tuple #[.int .u64 r.1,.int .u64 r.2]/\L_=[])):=by
 unfold wDT at hm
 split at hm
 rename_i h
 cases hm
 obtain ⟨x,rfl⟩:=nH h.1
 obtain ⟨y,rfl⟩:=nH h.2.2.1
 refine (Go.Proofs.Try.bits_Mul x y (by omega) (by omega) w).mono ?_
 rintro e w' ⟨rfl,rfl⟩
 refine ⟨_,Z,U,[],hS,?_,Z⟩
 simp
 cases hm
theorem wAn (p0:List Int) (ay:Option Addr) (az:Nat) (p1:Int) (w:World) (U:PHeap) (hS:St0 w U []) (bD:Sl U 1 ay az p0.length (hD KL.encI p0)) {r:(List Int)} (hm:wBH p0 p1=some r):Gv Try.prog 88 [.slice ay p0.length az,jV p1] w (wCB w [] U (fun U_ L_ v=>∃ (A0:Option Addr) (c0:Nat),v=.slice A0 r.length c0/\L_=[.row A0 c0 3 1 (hD KL.encI r)])):=by
 unfold wBH at hm
 refine Gv.of Try.func88 Z Try.ntmps88 Try.results88 Z (sR fL1 Z (oA Z Z (eN (zM (sR fL2 Z (oM Z Z (oR Z (zh Z Z Z) (eN ?_))))))))
 by_cases c1:p1 < 0
 have aW:=hm;rw [if_pos c1] at aW;replace c1:=zS c1
 refine cT Z c1 (rR gCb Z ?_)
 cases aW
 have aZ:=hm;rw [if_neg c1] at aZ;replace c1:=zS c1
 refine cF Z c1 (kN (sR (wGL (.fx 5 (wNM (.nil)) .stop)) Z (oM Z Z (oR Z (zz Z Z zH) (oR Z (Runs.cv64 Z Z yi Try.runUnderlying177 Z Z) (oM Z Z (oR Z (Runs.cv64 Z Z yi Try.runUnderlying177 Z Z) ?_)))))))
 have q:=bnd aZ
 obtain ⟨⟨x4,x5⟩,h6,a5⟩:=q
 try dsimp only at a5
 refine zE 0 Z Z Z Z (zD Z Z Try.call107 (zB Z (zB Z zK)) Z) hS (fun hs=>wGb (wKd (↑p0.length:Int)) (wKd p1) w U hs h6) (.inr Z) ?_
 rintro U8 L9 cg be bW bw ⟨rfl,rfl⟩
 have aQ:sW w U U8 [] be:=bw
 refine oM Z Z (oR Z (zP Z Z (v:=.int .u64 x4) Z) (oR Z (zP Z Z (v:=.int .u64 x5) Z) (oA Z Z (oA Z Z (eN (zM (bnK a5 fun bi a9 bL=>yN (fun σ_ w_=>∃ (U_:PHeap),σ_ 0=.slice ay p0.length az/\σ_ 6=.int .u64 x5/\σ_ 26=.bool bi/\PHeap.Le U8 U_/\sW w U U_ [] w_) ?_ ?_)))))))
 refine rR fL6 Z (oM Z Z (oR Z (yn Z Z Z) (oM Z Z ?_)))
 by_cases ac:0 < x4
 have aX:=a9;rw [if_pos ac] at aX;replace ac:=zS ac
 refine oT Z ac (oT Z ac (oR Z (zR Z (Zh ac.out) Z) (zg ?_)))
 cases aX
 exact zL ⟨Z,⟨U8,Z,Z,Z,(zW _),aQ⟩⟩
 have aY:=a9;rw [if_neg ac] at aY;replace ac:=zS ac
 refine zr Z Z Z (wF Z ac) Z Z (rU Z (wF Z ac) (yn Z Z Z) (oR Z (zb Z (zd ac.out) Z) (zg ?_)))
 obtain rfl:=nD aY
 exact zL ⟨Z,⟨U8,Z,Z,Z,(zW _),aQ⟩⟩
 rintro cj cb ⟨am,bk,bm,aO,bX,bx⟩
 refine ifc bL ?_ ?_
 intro au bM
 refine ZD (aO.trans (congrArg nI au.out)) (rR gCb Z ?_)
 cases bM
 intro au bN
 refine zn (aO.trans (congrArg nI (nJ.2 au.out))) (kN (sR gCq Z (oM Z bm (oR Z (Runs.cvw Z Z Try.runUnderlying177 yi Z Z) (bnK bN fun aa bn bP=>OKS.makeSlice (enc:=KL.encI) (z:=(0:Int)) (v:=jV 0) Z Z Z Z Z (wBV zH) wIe Z Z Z Z Z Z bn bx ?_)))))
 intro bf ab bz
 have aR:sW w U am [.row (some ⟨ab,0,none⟩) aa.length 3 1 (hD KL.encI aa)] bf:=bz
 refine oA Z Z (eN (sR gCq Z (oM Z Z (oM Z bk ?_))))
 have bo:=bD.le bW
 have bp:=bo.le bX
 refine bnK bP fun aJ bq bQ=>OKS.copyM (j:=0) (f:=KL.encI) (m:=aa) (ys:=p0) (z:=aJ) (a:=0) (n:=aa.length) rfl rfl rfl rfl rfl rfl zH zC aR rfl (fun _=>rfl) (fun _=>rfl) rfl bq rfl (by simp) (.inr (by simp)) rfl (aR.srcS bp) rfl ?_
 intro bg bA aU
 have bB:sW w U am [.row (some ⟨ab,0,none⟩) aa.length 3 1 (hD KL.encI aJ)] bg:=bA
 refine oA Z Z (eN (zM (zc (CK.iter (fun (ae,af) σ_ w_=>∃ (U_:PHeap),σ_ 7=.slice (some ⟨ab,0,none⟩) ae.length aa.length/\σ_ 8=jV af/\PHeap.Le am U_/\sW w U U_ [.row (some ⟨ab,0,none⟩) aa.length 3 1 (hD KL.encI ae)] w_/\ae.length=aa.length) bQ ?_ ?_))))
 exact ⟨am,(Eq.trans (b:=(.slice (some ⟨ab,0,none⟩) aa.length aa.length:Value)) (c:=(.slice (some ⟨ab,0,none⟩) aJ.length aa.length:Value)) rfl (by rw [aU])),rfl,(zW _),bB,aU⟩
 rintro ⟨ae,af⟩ ci cm aM ⟨aq,aj,ao,bY,aS,bs⟩ ax bI
 try dsimp only at ax
 refine zM (sR fL4 Z (oM Z ao (oM Z aj (oR Z (zz Z Z zH) (oR Z (zh Z Z Z) (eN ?_))))))
 by_cases ah:af < (↑ae.length:Int)
 have a6:=ax;rw [if_pos ah] at a6;replace ah:=zS ah
 refine cT Z ah (kN (zc (ZA ZB [3,3,3,3,3,3,3,0,3,3] (wLA (.fx 7 (.fl 8 (.fl 9 .nil)) .stop)) (by kernel_rfl) ?_)))
 have ak:=aS.drew
 generalize hw_W76:({ aM with drawn:=aM.drawn + 1 }:World)=cc at ak ⊢
 refine oM Z ao (oM Z aj (oM Z ao (bnK a6 fun bc bt bR=>?_)))
 have q:=wHx bt
 obtain ⟨bE,bG,av,cd,aw⟩:=q
 have a7:=ak.rowCap (j:=0) rfl (by decide) (wAE (f:=KL.encI) (sz:=1) (fun _=>rfl) ae)
 refine zY (v:=.slice (if aa.length=(af:Int).toNat then (some ⟨ab,0,none⟩) else Option.map (fun q:Addr=>q.add ((af:Int).toNat * 1)) ((some ⟨ab,0,none⟩):Option Addr)) bc.length (aa.length - (af:Int).toNat)) rfl rfl rfl rfl (fun _=>ZS (Runs.slc (sz:=1) (a:=af) (b:=(↑(ae.length):Int)) rfl rfl (.inl ⟨_,rfl,rfl⟩) (.inr ⟨rfl,rfl⟩) zH zC bE bG av a7) (by rw [aw])) (zr rfl rfl rfl rfl rfl aj (zr rfl rfl rfl rfl rfl ao (bnK bR fun bd aP bS=>?_)))
 have q:=wHx aP
 obtain ⟨bF,bH,bJ,cf,bV⟩:=q
 have a8:=ak.rowCap (j:=0) rfl (by decide) (wAE (f:=KL.encI) (sz:=1) (fun _=>rfl) ae)
 refine zY (v:=.slice (if aa.length=(0:Int).toNat then (some ⟨ab,0,none⟩) else Option.map (fun q:Addr=>q.add ((0:Int).toNat * 1)) ((some ⟨ab,0,none⟩):Option Addr)) bd.length (aa.length - (0:Int).toNat)) rfl rfl rfl rfl (fun _=>ZS (Runs.slc (sz:=1) (a:=0) (b:=af) rfl rfl (.inr ⟨rfl,rfl⟩) (.inl ⟨_,rfl,rfl⟩) zH zC bF bH bJ a8) (by rw [bV])) (bnK bS fun aK bu bU=>OKS.copyM (j:=0) (f:=KL.encI) (m:=ae) (ys:=bd) (z:=aK) (a:=af) (n:=bc.length) rfl rfl rfl rfl rfl rfl zH zC ak rfl (fun _=>rfl) (fun _=>rfl) rfl bu rfl (by have:=aw;have:=av;omega) (cutA rfl (by have:=aw;have:=av;have:=a7;omega)) rfl (ak.srcCut (f:=KL.encI) (j:=0) rfl (fun _=>rfl) rfl aP a8) rfl ?_)
 intro bh bC aT
 have bv:sW w U aq [.row (some ⟨ab,0,none⟩) aa.length 3 1 (hD KL.encI aK)] bh:=bC
 refine oR Z (zf Z Z Z) (oA Z Z (zg (ZH ?_)))
 obtain rfl:=nD bU
 exact zL ⟨rfl,_,rfl,⟨aq,(Eq.trans (b:=(.slice (some ⟨ab,0,none⟩) ae.length aa.length:Value)) (c:=(.slice (some ⟨ab,0,none⟩) aK.length aa.length:Value)) aj (by rw [aT])),rfl,bY,bv,(aT.trans bs)⟩⟩
 have aV:=ax;rw [if_neg ah] at aV;replace ah:=zS ah
 refine cF Z ah (Zf (zx ?_))
 have q:=wAV aV
 obtain ⟨bZ,bK,bj⟩:=q
 obtain rfl:=bI bZ bj
 refine zx (Zc (zL (sR fL2 Z (oM Z aj (oA Z Z (eN (zU ?_)))))))
 have hE:=nD bK;first | subst r | cases hE
 exact ⟨Z,_,(ZL Z),aq,_,aS,(some ⟨ab,0,none⟩),aa.length,Z,Z⟩
theorem wAb (p0:wAY) (ag:Nat) (db:Option Addr) (dg:Nat) (dd:Option Addr) (dh:Nat) (de:Option Addr) (di:Nat) (df:Option Addr) (dk:Nat) (aa:Nat) (ac:Array MapEntry) (ae:Nat) (a5:Option Addr) (a6:Nat) (p1:Int) (p2:Bool) (w:World) (U:PHeap) (hS:St0 w U [.blk ag 124 [.slice db p0.Race.Starts.length dg,.slice dd p0.Race.Splits.length dh,.slice de p0.Race.Clocks.length di,.slice df p0.Race.Readings.length dk,.map (some aa),.slice a5 p0.edges.length a6],.obj aa (.map ac ae)]) (xh:Sl U 1 db dg p0.Race.Starts.length (hD KL.encI p0.Race.Starts)) (xi:Sl U 2 dd dh p0.Race.Splits.length (hD wAG p0.Race.Splits)) (xj:Sl U 3 de di p0.Race.Clocks.length (hD wAA p0.Race.Clocks)) (xk:Sl U 4 df dk p0.Race.Readings.length (hD wAB p0.Race.Readings)) (cr:MpR ac wBB wBC p0.number) (uv:Sl U 7 a5 a6 p0.edges.length (hD wAP p0.edges)) {r:wAe × Int × Bool} (hm:wAZ p0 p1 p2=some r):Gv Try.prog 57 [.pointer (some ⟨ag,0,none⟩),jV p1,.bool p2] w (wCB w [.blk ag 124 [.slice db p0.Race.Starts.length dg,.slice dd p0.Race.Splits.length dh,.slice de p0.Race.Clocks.length di,.slice df p0.Race.Readings.length dk,.map (some aa),.slice a5 p0.edges.length a6],.obj aa (.map ac ae)] U (fun U_ L_ v=>∃ (fI:Option Addr) (ic:Nat) (fJ:Option Addr) (ie:Nat),v=.tuple #[.agg #[.slice fI r.1.far.length ic,.slice fJ r.1.by_.length ie],jV r.2.1,.bool r.2.2]/\L_=[.row fI ic 3 1 (hD KL.encI r.1.far),.row fJ ie 3 1 (hD KL.encI r.1.by_),.blk ag 124 [.slice db p0.Race.Starts.length dg,.slice dd p0.Race.Splits.length dh,.slice de p0.Race.Clocks.length di,.slice df p0.Race.Readings.length dk,.map (some aa),.slice a5 p0.edges.length a6],.obj aa (.map ac ae)])):=by
 unfold wAZ at hm
 refine Gv.of Try.func57 Z Try.ntmps57 Try.results57 Z (sR gCi Z ?_)
 let B0:List Value:=[.slice none 0 0,.slice none 0 0]
 refine zT (cs:=B0) Z Z Z Z Z Zd Z hS ?_
 intro W3 b4 tO
 refine oA Z Z (oA Z Z (eN ?_))
 have q:=bnd hm
 obtain ⟨⟨l9,bb⟩,vt,li⟩:=q
 try dsimp only at li
 let B1:Res:=.blk ag 124 [.slice db p0.Race.Starts.length dg,.slice dd p0.Race.Splits.length dh,.slice de p0.Race.Clocks.length di,.slice df p0.Race.Readings.length dk,.map (some aa),.slice a5 p0.edges.length a6]
 refine yN (fun σ_ w_=>∃ (U_:PHeap) (b8:Nat) (am:Option Addr) (an:Nat) (ao:Option Addr) (ap:Nat),σ_ 0=.pointer (some ⟨ag,0,none⟩)/\σ_ 1=jV p1/\σ_ 2=.bool p2/\σ_ 6=.pointer (some ⟨b4,0,none⟩)/\σ_ 9=.pointer (some ⟨b8,0,none⟩)/\PHeap.Le U U_/\SW w [B1,.obj aa (.map ac ae)] U U_ [.blk b4 118 B0,B1,.obj aa (.map ac ae),.blk b8 118 [.slice am l9.length an,.slice ao bb.length ap],.row am an 3 1 (hD KL.encI l9),.row ao ap 3 1 (hD KL.encI bb)] w_) ?_ ?_
 refine bnK vt fun aq dW vn=>bnK vn fun aL dX vo=>ZA ZB [2,3,3,3,1,1,2,2,3,3,3,1,1,2,3,2,0] (fC1_5 (wIT (.fx 0 (.fx 6 (.fl 12 (.fx 7 gCx (.fx 15 gCt .stop))) (.fx 7 gDi (.fx 15 gDj .stop))) (.fx 7 (.fx 0 gDi (.fx 15 gDc .stop)) (.fx 15 (.fx 0 gDj (.fx 7 gDc .stop)) .stop))))) (by kernel_rfl) ?_
 have bJ:=tO.drew
 generalize hw_W74:({ W3 with drawn:=W3.drawn + 1 }:World)=wz at bJ ⊢
 refine ZP (s:=.nil) (M:=fun σ_ w_=>∃ (U_:PHeap) (dF:Nat) (bM:Option Addr) (cb:Nat) (bN:Option Addr) (cc:Nat) (ec:Option Addr) (eD:Nat) (ef:Option Addr) (eE:Nat),σ_ 0=.pointer (some ⟨ag,0,none⟩)/\σ_ 1=jV p1/\σ_ 2=.bool p2/\σ_ 6=.pointer (some ⟨b4,0,none⟩)/\σ_ 9=.pointer (some ⟨dF,0,none⟩)/\σ_ 16=.slice ec ([1125899906842624].length) eD/\σ_ 17=.pointer (some ⟨ag,0,none⟩)/\σ_ 18=.pointer (some ⟨ag,0,none⟩)/\σ_ 19=.pointer (some ⟨ag,4,none⟩)/\σ_ 20=.map (some aa)/\σ_ 21=jV (↑(p0.number.length):Int)/\σ_ 22=.slice bM aq.length cb/\σ_ 23=.slice ef ([-1].length) eE/\σ_ 24=.pointer (some ⟨ag,0,none⟩)/\σ_ 25=.pointer (some ⟨ag,0,none⟩)/\σ_ 26=.pointer (some ⟨ag,4,none⟩)/\σ_ 27=.map (some aa)/\σ_ 28=jV (↑(p0.number.length):Int)/\σ_ 29=.slice bN aL.length cc/\σ_ 30=.agg #[.slice bM aq.length cb,.slice bN aL.length cc]/\PHeap.Le U U_/\SW w [B1,.obj aa (.map ac ae)] U U_ [.blk b4 118 B0,B1,.obj aa (.map ac ae),.blk dF 118 [.slice bM aq.length cb,.slice bN aL.length cc],.row bM cb 3 1 (hD KL.encI aq),.row bN cc 3 1 (hD KL.encI aL)] w_/\Sl U_ 1 ec eD [1125899906842624].length (hD KL.encI [1125899906842624])/\Sl U_ 1 ef eE [-1].length (hD KL.encI [-1])) ?_ fun lz=>?_
 rintro xO wu ⟨l3,dF,bM,cb,bN,cc,ec,eD,ef,eE,oH,oI,oJ,oK,oO,wS,wU,wV,wW,wX,wY,wZ,w5,w6,w7,w8,w9,xa,xb,xc,vF,tM,xf,xg⟩
 refine zg ?_
 cases vo
 exact zL ⟨Z,⟨l3,dF,bM,cb,bN,cc,oH,oI,oJ,oK,oO,vF,tM⟩⟩
 refine ZP (s:=.fx 16 .nil .stop) (M:=fun σ_ w_=>∃ (U_:PHeap) (cJ:Nat) (dm:Option Addr) (dH:Nat) (bp:Option Addr) (bA:Nat) (dn:Option Addr) (dI:Nat) (bq:Option Addr) (bB:Nat),σ_ 0=.pointer (some ⟨ag,0,none⟩)/\σ_ 1=jV p1/\σ_ 2=.bool p2/\σ_ 6=.pointer (some ⟨b4,0,none⟩)/\σ_ 9=.pointer (some ⟨cJ,0,none⟩)/\σ_ 16=.slice dm ([1125899906842624].length) dH/\σ_ 17=.pointer (some ⟨ag,0,none⟩)/\σ_ 18=.pointer (some ⟨ag,0,none⟩)/\σ_ 19=.pointer (some ⟨ag,4,none⟩)/\σ_ 20=.map (some aa)/\σ_ 21=jV (↑(p0.number.length):Int)/\σ_ 22=.slice bp aq.length bA/\σ_ 23=.slice dn ([-1].length) dI/\σ_ 24=.pointer (some ⟨ag,0,none⟩)/\σ_ 25=.pointer (some ⟨ag,0,none⟩)/\σ_ 26=.pointer (some ⟨ag,4,none⟩)/\σ_ 27=.map (some aa)/\σ_ 28=jV (↑(p0.number.length):Int)/\σ_ 29=.slice bq aL.length bB/\σ_ 30=.agg #[.slice bp aq.length bA,.slice bq aL.length bB]/\PHeap.Le U U_/\SW w [B1,.obj aa (.map ac ae)] U U_ [.blk b4 118 B0,B1,.obj aa (.map ac ae),.blk cJ 118 B0,.row bp bA 3 1 (hD KL.encI aq),.row bq bB 3 1 (hD KL.encI aL)] w_/\Sl U_ 1 dm dH [1125899906842624].length (hD KL.encI [1125899906842624])/\Sl U_ 1 dn dI [-1].length (hD KL.encI [-1])) ?_ fun vu=>?_
 rintro xP wv ⟨gi,cJ,dm,dH,bp,bA,dn,dI,bq,bB,oP,oQ,oS,oU,i6,oV,oW,oX,oY,oZ,o3,o5,o6,o7,o8,o9,pd,pe,pf,i7,vG,tN,rS,rT⟩
 let B2:List Value:=[.slice bp aq.length bA,.slice bq aL.length bB]
 refine zV (j:=3) (vs:=B2) Z Z Z Z tN Z i6 i7 Z Zj (zA Z) Z Z Z ?_
 intro ml tP
 have tQ:SW w [B1,.obj aa (.map ac ae)] U gi [.blk b4 118 B0,B1,.obj aa (.map ac ae),.blk cJ 118 B2,.row bp bA 3 1 (hD KL.encI aq),.row bq bB 3 1 (hD KL.encI aL)] ml:=tP
 exact lz _ _ ⟨gi,cJ,bp,bA,bq,bB,dm,dH,dn,dI,oP,oQ,oS,oU,i6,oV,oW,oX,oY,oZ,o3,o5,o6,o7,o8,o9,pd,pe,pf,i7,vG,tQ,rS,rT⟩
 refine ZP (s:=gCc) (M:=fun σ_ w_=>∃ (U_:PHeap) (cK:Nat) (dp:Option Addr) (dJ:Nat) (br:Option Addr) (bC:Nat) (dq:Option Addr) (dK:Nat) (bs:Option Addr) (bD:Nat),σ_ 0=.pointer (some ⟨ag,0,none⟩)/\σ_ 1=jV p1/\σ_ 2=.bool p2/\σ_ 6=.pointer (some ⟨b4,0,none⟩)/\σ_ 9=.pointer (some ⟨cK,0,none⟩)/\σ_ 16=.slice dp ([1125899906842624].length) dJ/\σ_ 17=.pointer (some ⟨ag,0,none⟩)/\σ_ 18=.pointer (some ⟨ag,0,none⟩)/\σ_ 19=.pointer (some ⟨ag,4,none⟩)/\σ_ 20=.map (some aa)/\σ_ 21=jV (↑(p0.number.length):Int)/\σ_ 22=.slice br aq.length bC/\σ_ 23=.slice dq ([-1].length) dK/\σ_ 24=.pointer (some ⟨ag,0,none⟩)/\σ_ 25=.pointer (some ⟨ag,0,none⟩)/\σ_ 26=.pointer (some ⟨ag,4,none⟩)/\σ_ 27=.map (some aa)/\σ_ 28=jV (↑(p0.number.length):Int)/\σ_ 29=.slice bs aL.length bD/\PHeap.Le U U_/\SW w [B1,.obj aa (.map ac ae)] U U_ [.blk b4 118 B0,B1,.obj aa (.map ac ae),.blk cK 118 B0,.row br bC 3 1 (hD KL.encI aq),.row bs bD 3 1 (hD KL.encI aL)] w_/\Sl U_ 1 dp dJ [1125899906842624].length (hD KL.encI [1125899906842624])/\Sl U_ 1 dq dK [-1].length (hD KL.encI [-1])) ?_ fun lA=>?_
 rintro xQ ww ⟨gj,cK,dp,dJ,br,bC,dq,dK,bs,bD,pg,ph,pj,pk,i8,pm,pn,po,pp,pq,pu,i9,py,pz,pB,pC,pD,pE,ja,vH,tR,rV,rW⟩
 let B3:List Value:=[.slice br aq.length bC,.slice bs aL.length bD]
 refine oR Z (zo (pv:=[(0,.slice br aq.length bC),(1,.slice bs aL.length bD)]) (z:=B0) (cs:=B3) Z (wAF i9 (wAF ja wAO)) Zd wHz Z Z) (zV (j:=3) (vs:=B3) Z Z Z Z tR Z i8 Z Z Zj (zA Z) Z Z Z ?_)
 intro mm tS
 have tT:SW w [B1,.obj aa (.map ac ae)] U gj [.blk b4 118 B0,B1,.obj aa (.map ac ae),.blk cK 118 B3,.row br bC 3 1 (hD KL.encI aq),.row bs bD 3 1 (hD KL.encI aL)] mm:=tS
 exact lz _ _ ⟨gj,cK,br,bC,bs,bD,dp,dJ,dq,dK,pg,ph,pj,pk,i8,pm,pn,po,pp,pq,pu,i9,py,pz,pB,pC,pD,pE,ja,Z,vH,tT,rV,rW⟩
 refine ZP (s:=gCm) (M:=fun σ_ w_=>∃ (U_:PHeap) (bW:Nat) (dr:Option Addr) (dL:Nat) (cu:Option Addr) (cN:Nat) (cw:Option Addr) (cO:Nat),σ_ 0=.pointer (some ⟨ag,0,none⟩)/\σ_ 1=jV p1/\σ_ 2=.bool p2/\σ_ 6=.pointer (some ⟨b4,0,none⟩)/\σ_ 9=.pointer (some ⟨bW,0,none⟩)/\σ_ 16=.slice dr ([1125899906842624].length) dL/\σ_ 17=.pointer (some ⟨ag,0,none⟩)/\σ_ 18=.pointer (some ⟨ag,0,none⟩)/\σ_ 19=.pointer (some ⟨ag,4,none⟩)/\σ_ 20=.map (some aa)/\σ_ 21=jV (↑(p0.number.length):Int)/\σ_ 22=.slice cu aq.length cN/\σ_ 23=.slice cw ([-1].length) cO/\σ_ 24=.pointer (some ⟨ag,0,none⟩)/\σ_ 25=.pointer (some ⟨ag,0,none⟩)/\σ_ 26=.pointer (some ⟨ag,4,none⟩)/\σ_ 27=.map (some aa)/\σ_ 28=jV (↑(p0.number.length):Int)/\PHeap.Le U U_/\SW w [B1,.obj aa (.map ac ae)] U U_ [.blk b4 118 B0,B1,.obj aa (.map ac ae),.blk bW 118 B0,.row cu cN 3 1 (hD KL.encI aq),.row cw cO 3 1 (hD KL.encI [-1])] w_/\Sl U_ 1 dr dL [1125899906842624].length (hD KL.encI [1125899906842624])) ?_ fun dZ=>?_
 rintro xR gR ⟨v3,bW,dr,dL,cu,cN,cw,cO,pF,pG,pH,pI,pJ,pK,pL,pM,pN,pO,pP,pQ,jb,pR,pS,pT,pU,jc,vI,tU,rX⟩
 have q:=tU.freezeR (k:=5) (n:=[-1].length) rfl (wAE (f:=KL.encI) (sz:=1) (fun _=>rfl) [-1]) (by decide)
 obtain ⟨gp,lK,ln,tV⟩:=q
 let B4:Res:=.row cu cN 3 1 (hD KL.encI aq)
 have tW:SW w [B1,.obj aa (.map ac ae)] U gp [.blk b4 118 B0,B1,.obj aa (.map ac ae),.blk bW 118 B0,B4] gR:=tV
 refine zE 0 Z Z Z Z (zD Z Z Try.call88 (zB jb (zB jc zK)) Z) tW (fun hs=>wAn [-1] cw cO (↑(p0.number.length):Int) gR gp hs ln dX) (.inr Z) ?_
 rintro gq vX xt mn fD tX ⟨fN,io,rfl,rfl⟩
 have tY:SW w [B1,.obj aa (.map ac ae)] U gq [.row fN io 3 1 (hD KL.encI aL),.blk b4 118 B0,B1,.obj aa (.map ac ae),.blk bW 118 B0,B4] mn:=tX
 have rY:=rX.le lK
 have rZ:=rY.le fD
 have r6:=ln.le fD
 exact lA _ _ ⟨gq,bW,dr,dL,cu,cN,cw,cO,fN,io,pF,pG,pH,pI,pJ,pK,pL,pM,pN,pO,pP,pQ,jb,pR,pS,pT,pU,jc,rfl,((vI.trans lK).trans fD),(tY.pick [1,2,3,4,5,0] _ (by decide) rfl),rZ,r6⟩
 refine ZP (s:=gCl) (M:=fun σ_ w_=>∃ (U_:PHeap) (dt:Option Addr) (dM:Nat) (bP:Option Addr) (cd:Nat) (du:Option Addr) (dN:Nat) (bQ:Option Addr) (cf:Nat),σ_ 0=.pointer (some ⟨ag,0,none⟩)/\σ_ 1=jV p1/\σ_ 2=.bool p2/\σ_ 6=.pointer (some ⟨b4,0,none⟩)/\σ_ 16=.slice dt ([1125899906842624].length) dM/\σ_ 17=.pointer (some ⟨ag,0,none⟩)/\σ_ 18=.pointer (some ⟨ag,0,none⟩)/\σ_ 19=.pointer (some ⟨ag,4,none⟩)/\σ_ 20=.map (some aa)/\σ_ 21=jV (↑(p0.number.length):Int)/\σ_ 22=.slice bP aq.length cd/\σ_ 23=.slice du ([-1].length) dN/\σ_ 24=.pointer (some ⟨ag,0,none⟩)/\σ_ 25=.pointer (some ⟨ag,0,none⟩)/\σ_ 26=.pointer (some ⟨ag,4,none⟩)/\σ_ 27=.map (some aa)/\σ_ 28=jV (↑(p0.number.length):Int)/\σ_ 29=.slice bQ aL.length cf/\PHeap.Le U U_/\SW w [B1,.obj aa (.map ac ae)] U U_ [.blk b4 118 B0,B1,.obj aa (.map ac ae),.row bP cd 3 1 (hD KL.encI aq),.row bQ cf 3 1 (hD KL.encI aL)] w_/\Sl U_ 1 dt dM [1125899906842624].length (hD KL.encI [1125899906842624])/\Sl U_ 1 du dN [-1].length (hD KL.encI [-1])) ?_ fun lB=>?_
 rintro xS wx ⟨l4,dt,dM,bP,cd,du,dN,bQ,cf,pV,pW,pX,pY,pZ,p6,p7,p8,p9,qa,jd,qb,qc,qd,qe,qf,qh,je,vJ,tZ,r7,r8⟩
 refine oR Z (zo (pv:=[(0,.slice bP aq.length cd),(1,.slice bQ aL.length cf)]) (z:=B0) (cs:=[.slice bP aq.length cd,.slice bQ aL.length cf]) Z (wAF jd (wAF je wAO)) Zd wHz Z Z) (zT (cs:=B0) Z Z Z Z Z Zd Z tZ ?_)
 intro wy mz t5
 exact vu _ _ ⟨l4,mz,dt,dM,bP,cd,du,dN,bQ,cf,pV,pW,pX,pY,rfl,pZ,p6,p7,p8,p9,qa,jd,qb,qc,qd,qe,qf,qh,je,rfl,vJ,(t5.pick [1,2,3,0,4,5] _ (by decide) rfl),r7,r8⟩
 refine ZP (s:=.fl 12 gCm) (M:=fun σ_ w_=>∃ (U_:PHeap) (bX:Nat) (dv:Option Addr) (dO:Nat) (cx:Option Addr) (cP:Nat) (cy:Option Addr) (cQ:Nat),σ_ 0=.pointer (some ⟨ag,0,none⟩)/\σ_ 1=jV p1/\σ_ 2=.bool p2/\σ_ 6=.pointer (some ⟨b4,0,none⟩)/\σ_ 9=.pointer (some ⟨bX,0,none⟩)/\σ_ 16=.slice dv ([1125899906842624].length) dO/\σ_ 17=.pointer (some ⟨ag,0,none⟩)/\σ_ 18=.pointer (some ⟨ag,0,none⟩)/\σ_ 19=.pointer (some ⟨ag,4,none⟩)/\σ_ 20=.map (some aa)/\σ_ 21=jV (↑(p0.number.length):Int)/\σ_ 22=.slice cx aq.length cP/\σ_ 23=.slice cy ([-1].length) cQ/\σ_ 24=.pointer (some ⟨ag,0,none⟩)/\σ_ 25=.pointer (some ⟨ag,0,none⟩)/\σ_ 26=.pointer (some ⟨ag,4,none⟩)/\σ_ 27=.map (some aa)/\PHeap.Le U U_/\SW w [B1,.obj aa (.map ac ae)] U U_ [.blk b4 118 B0,B1,.obj aa (.map ac ae),.blk bX 118 B0,.row cx cP 3 1 (hD KL.encI aq),.row cy cQ 3 1 (hD KL.encI [-1])] w_/\Sl U_ 1 dv dO [1125899906842624].length (hD KL.encI [1125899906842624])) ?_ fun vv=>?_
 rintro xT gS ⟨v4,bX,dv,dO,cx,cP,cy,cQ,qi,qj,qk,qm,qn,qo,qp,qq,qr,qs,qt,qu,jf,qv,qw,qx,jg,vK,j9,r9⟩
 refine oL Z (j9.lenM (j:=2) (mk:=wBB) (mv:=wBC) Z Z jg (wBV ZI) cr) ?_
 have q:=j9.freezeR (k:=5) (n:=[-1].length) rfl (wAE (f:=KL.encI) (sz:=1) (fun _=>rfl) [-1]) (by decide)
 obtain ⟨gt,lL,lp,t6⟩:=q
 let B5:Res:=.row cx cP 3 1 (hD KL.encI aq)
 have t7:SW w [B1,.obj aa (.map ac ae)] U gt [.blk b4 118 B0,B1,.obj aa (.map ac ae),.blk bX 118 B0,B5] gS:=t6
 refine zE 0 Z Z Z Z (zD Z Z Try.call88 (zB jf (zB Z zK)) Z) t7 (fun hs=>wAn [-1] cy cQ (↑(p0.number.length):Int) gS gt hs lp dX) (.inr Z) ?_
 rintro gu vY xu mo fG t8 ⟨fO,ip,rfl,rfl⟩
 have t9:SW w [B1,.obj aa (.map ac ae)] U gu [.row fO ip 3 1 (hD KL.encI aL),.blk b4 118 B0,B1,.obj aa (.map ac ae),.blk bX 118 B0,B5] mo:=t8
 have sc:=r9.le lL
 have sd:=sc.le fG
 have sf:=lp.le fG
 exact lA _ _ ⟨gu,bX,dv,dO,cx,cP,cy,cQ,fO,ip,qi,qj,qk,qm,qn,qo,qp,qq,qr,qs,qt,qu,jf,qv,qw,qx,jg,rfl,rfl,((vK.trans lL).trans fG),(t9.pick [1,2,3,4,5,0] _ (by decide) rfl),sd,sf⟩
 refine ZP (s:=.fl 12 gCt) (M:=fun σ_ w_=>∃ (U_:PHeap) (cL:Nat) (dw:Option Addr) (dP:Nat) (cz:Option Addr) (cR:Nat),σ_ 0=.pointer (some ⟨ag,0,none⟩)/\σ_ 1=jV p1/\σ_ 2=.bool p2/\σ_ 6=.pointer (some ⟨b4,0,none⟩)/\σ_ 9=.pointer (some ⟨cL,0,none⟩)/\σ_ 16=.slice dw ([1125899906842624].length) dP/\σ_ 17=.pointer (some ⟨ag,0,none⟩)/\σ_ 18=.pointer (some ⟨ag,0,none⟩)/\σ_ 19=.pointer (some ⟨ag,4,none⟩)/\σ_ 20=.map (some aa)/\σ_ 21=jV (↑(p0.number.length):Int)/\σ_ 22=.slice cz aq.length cR/\σ_ 24=.pointer (some ⟨ag,0,none⟩)/\σ_ 25=.pointer (some ⟨ag,0,none⟩)/\σ_ 26=.pointer (some ⟨ag,4,none⟩)/\σ_ 27=.map (some aa)/\PHeap.Le U U_/\SW w [B1,.obj aa (.map ac ae)] U U_ [.blk b4 118 B0,B1,.obj aa (.map ac ae),.blk cL 118 B0,.row cz cR 3 1 (hD KL.encI aq)] w_/\Sl U_ 1 dw dP [1125899906842624].length (hD KL.encI [1125899906842624])) ?_ fun vw=>?_
 rintro xU wA ⟨gv,cL,dw,dP,cz,cR,qy,qz,qA,qB,qC,qD,qE,qF,qG,qH,qI,qJ,qK,qL,qM,jh,vL,k3,sg⟩
 refine oL Z (k3.lenM (j:=2) (mk:=wBB) (mv:=wBC) Z Z jh (wBV ZI) cr) (ZE (pv:=[(0,jV (-1))]) (zs:=[jV 0]) (cs:=[jV (-1)]) Z Z Z Z Z (wAF Z wAO) zH zC zw Z Z Z Z Z k3 ?_)
 intro mp g9 ua
 have ub:SW w [B1,.obj aa (.map ac ae)] U gv [.row (some ⟨g9,0,none⟩) 1 3 1 (hD KL.encI [-1]),.blk b4 118 B0,B1,.obj aa (.map ac ae),.blk cL 118 B0,.row cz cR 3 1 (hD KL.encI aq)] mp:=ua
 exact dZ _ _ ⟨gv,cL,dw,dP,cz,cR,(some ⟨g9,0,none⟩),1,qy,qz,qA,qB,qC,qD,qE,qF,qG,qH,qI,qJ,rfl,qK,qL,qM,jh,rfl,vL,(ub.pick [1,2,3,4,5,0] _ (by decide) rfl),sg⟩
 refine ZP (s:=gCy) (M:=fun σ_ w_=>∃ (U_:PHeap) (bY:Nat) (cA:Option Addr) (cS:Nat) (cB:Option Addr) (cU:Nat),σ_ 0=.pointer (some ⟨ag,0,none⟩)/\σ_ 1=jV p1/\σ_ 2=.bool p2/\σ_ 6=.pointer (some ⟨b4,0,none⟩)/\σ_ 9=.pointer (some ⟨bY,0,none⟩)/\σ_ 16=.slice cA ([1125899906842624].length) cS/\σ_ 17=.pointer (some ⟨ag,0,none⟩)/\σ_ 18=.pointer (some ⟨ag,0,none⟩)/\σ_ 19=.pointer (some ⟨ag,4,none⟩)/\σ_ 20=.map (some aa)/\σ_ 21=jV (↑(p0.number.length):Int)/\σ_ 23=.slice cB ([-1].length) cU/\σ_ 24=.pointer (some ⟨ag,0,none⟩)/\σ_ 25=.pointer (some ⟨ag,0,none⟩)/\σ_ 26=.pointer (some ⟨ag,4,none⟩)/\σ_ 27=.map (some aa)/\PHeap.Le U U_/\SW w [B1,.obj aa (.map ac ae)] U U_ [.blk b4 118 B0,B1,.obj aa (.map ac ae),.blk bY 118 B0,.row cA cS 3 1 (hD KL.encI [1125899906842624]),.row cB cU 3 1 (hD KL.encI [-1])] w_) ?_ fun fw=>?_
 rintro xV gT ⟨v5,bY,cA,cS,cB,cU,qN,qO,qP,qQ,qR,ji,qS,qT,qU,qV,jj,qW,qX,qY,qZ,q5,vM,ud⟩
 have q:=ud.freezeR (k:=4) (n:=[1125899906842624].length) rfl (wAE (f:=KL.encI) (sz:=1) (fun _=>rfl) [1125899906842624]) (by decide)
 obtain ⟨gw,vN,lq,ue⟩:=q
 let B6:Res:=.row cB cU 3 1 (hD KL.encI [-1])
 have uf:SW w [B1,.obj aa (.map ac ae)] U gw [.blk b4 118 B0,B1,.obj aa (.map ac ae),.blk bY 118 B0,B6] gT:=ue
 refine zE 0 Z Z Z Z (zD Z Z Try.call88 (zB ji (zB jj zK)) Z) uf (fun hs=>wAn [1125899906842624] cA cS (↑(p0.number.length):Int) gT gw hs lq dW) (.inr Z) ?_
 rintro gx vZ xv mq lM ug ⟨fP,iq,rfl,rfl⟩
 have uh:SW w [B1,.obj aa (.map ac ae)] U gx [.row fP iq 3 1 (hD KL.encI aq),.blk b4 118 B0,B1,.obj aa (.map ac ae),.blk bY 118 B0,B6] mq:=ug
 have sh:=lq.le lM
 exact vv _ _ ⟨gx,bY,cA,cS,fP,iq,cB,cU,qN,qO,qP,qQ,qR,ji,qS,qT,qU,qV,jj,rfl,qW,qX,qY,qZ,q5,((vM.trans vN).trans lM),(uh.pick [1,2,3,4,0,5] _ (by decide) rfl),sh⟩
 refine ZP (s:=.fl 12 gCx) (M:=fun σ_ w_=>∃ (U_:PHeap) (cC:Option Addr) (cV:Nat) (bR:Option Addr) (cg:Nat) (bS:Option Addr) (ci:Nat),σ_ 0=.pointer (some ⟨ag,0,none⟩)/\σ_ 1=jV p1/\σ_ 2=.bool p2/\σ_ 6=.pointer (some ⟨b4,0,none⟩)/\σ_ 16=.slice cC ([1125899906842624].length) cV/\σ_ 17=.pointer (some ⟨ag,0,none⟩)/\σ_ 18=.pointer (some ⟨ag,0,none⟩)/\σ_ 19=.pointer (some ⟨ag,4,none⟩)/\σ_ 20=.map (some aa)/\σ_ 21=jV (↑(p0.number.length):Int)/\σ_ 22=.slice bR aq.length cg/\σ_ 23=.slice bS ([-1].length) ci/\σ_ 24=.pointer (some ⟨ag,0,none⟩)/\σ_ 25=.pointer (some ⟨ag,0,none⟩)/\σ_ 26=.pointer (some ⟨ag,4,none⟩)/\σ_ 27=.map (some aa)/\PHeap.Le U U_/\SW w [B1,.obj aa (.map ac ae)] U U_ [.blk b4 118 B0,B1,.obj aa (.map ac ae),.row bR cg 3 1 (hD KL.encI aq),.row bS ci 3 1 (hD KL.encI [-1])] w_/\Sl U_ 1 cC cV [1125899906842624].length (hD KL.encI [1125899906842624])) ?_ fun vx=>?_
 rintro xW gU ⟨l5,cC,cV,bR,cg,bS,ci,jk,jl,jm,jo,jp,jq,jr,jt,ju,jv,jw,eM,jx,jy,jz,eO,lN,fd,jP⟩
 refine oL Z (fd.lenM (j:=2) (mk:=wBB) (mv:=wBC) Z Z eO (wBV ZI) cr) (zk ?_ ?_)
 have q:=fd.freezeR (k:=4) (n:=[-1].length) rfl (wAE (f:=KL.encI) (sz:=1) (fun _=>rfl) [-1]) (by decide)
 obtain ⟨gy,lO,ls,ui⟩:=q
 let B7:Res:=.row bR cg 3 1 (hD KL.encI aq)
 have uj:SW w [B1,.obj aa (.map ac ae)] U gy [.blk b4 118 B0,B1,.obj aa (.map ac ae),B7] gU:=ui
 refine zE 0 Z Z Z Z (zD Z Z Try.call88 (zB eM (zB Z zK)) Z) uj (fun hs=>wAn [-1] bS ci (↑(p0.number.length):Int) gU gy hs ls dX) (.inr Z) ?_
 rintro gz v2 xw mr fH uk ⟨fQ,ir,rfl,rfl⟩
 have ul:SW w [B1,.obj aa (.map ac ae)] U gz [.row fQ ir 3 1 (hD KL.encI aL),.blk b4 118 B0,B1,.obj aa (.map ac ae),B7] mr:=uk
 have sj:=jP.le lO
 have sk:=sj.le fH
 have sl:=ls.le fH
 exact lB _ _ ⟨gz,cC,cV,bR,cg,bS,ci,fQ,ir,jk,jl,jm,jo,jp,jq,jr,jt,ju,jv,jw,eM,jx,jy,jz,eO,rfl,rfl,((lN.trans lO).trans fH),(ul.pick [1,2,3,4,0] _ (by decide) rfl),sk,sl⟩
 refine zT (cs:=B0) Z Z Z Z Z Zd Z fd ?_
 intro wB mA um
 exact dZ _ _ ⟨l5,mA,cC,cV,bR,cg,bS,ci,jk,jl,jm,jo,rfl,jp,jq,jr,jt,ju,jv,jw,eM,jx,jy,jz,eO,rfl,lN,(um.pick [1,2,3,0,4,5] _ (by decide) rfl),jP⟩
 refine ZP (s:=gDc) (M:=fun σ_ w_=>∃ (U_:PHeap) (cM:Nat) (cD:Option Addr) (cW:Nat),σ_ 0=.pointer (some ⟨ag,0,none⟩)/\σ_ 1=jV p1/\σ_ 2=.bool p2/\σ_ 6=.pointer (some ⟨b4,0,none⟩)/\σ_ 9=.pointer (some ⟨cM,0,none⟩)/\σ_ 17=.pointer (some ⟨ag,0,none⟩)/\σ_ 18=.pointer (some ⟨ag,0,none⟩)/\σ_ 19=.pointer (some ⟨ag,4,none⟩)/\σ_ 20=.map (some aa)/\σ_ 21=jV (↑(p0.number.length):Int)/\σ_ 23=.slice cD ([-1].length) cW/\σ_ 24=.pointer (some ⟨ag,0,none⟩)/\σ_ 25=.pointer (some ⟨ag,0,none⟩)/\σ_ 26=.pointer (some ⟨ag,4,none⟩)/\σ_ 27=.map (some aa)/\PHeap.Le U U_/\SW w [B1,.obj aa (.map ac ae)] U U_ [.blk b4 118 B0,B1,.obj aa (.map ac ae),.blk cM 118 B0,.row cD cW 3 1 (hD KL.encI [-1])] w_) ?_ fun lC=>?_
 rintro xX wC ⟨gA,cM,cD,cW,q6,q7,q8,q9,rc,rd,re,rf,rh,ri,rj,rk,rn,ro,rp,vO,un⟩
 refine ZE (pv:=[(0,jV 1125899906842624)]) (zs:=[jV 0]) (cs:=[jV 1125899906842624]) Z Z Z Z Z (wAF Z wAO) zH zC zw Z Z Z Z Z un ?_
 intro ms ib uo
 have uq:SW w [B1,.obj aa (.map ac ae)] U gA [.row (some ⟨ib,0,none⟩) 1 3 1 (hD KL.encI [1125899906842624]),.blk b4 118 B0,B1,.obj aa (.map ac ae),.blk cM 118 B0,.row cD cW 3 1 (hD KL.encI [-1])] ms:=uo
 exact fw _ _ ⟨gA,cM,(some ⟨ib,0,none⟩),1,cD,cW,q6,q7,q8,q9,rc,rfl,rd,re,rf,rh,ri,rj,rk,rn,ro,rp,vO,(uq.pick [1,2,3,4,0,5] _ (by decide) rfl)⟩
 refine ZP (s:=gDj) (M:=fun σ_ w_=>∃ (U_:PHeap) (bm:Nat) (bt:Option Addr) (bE:Nat),σ_ 0=.pointer (some ⟨ag,0,none⟩)/\σ_ 1=jV p1/\σ_ 2=.bool p2/\σ_ 6=.pointer (some ⟨b4,0,none⟩)/\σ_ 9=.pointer (some ⟨bm,0,none⟩)/\σ_ 16=.slice bt ([1125899906842624].length) bE/\σ_ 17=.pointer (some ⟨ag,0,none⟩)/\σ_ 18=.pointer (some ⟨ag,0,none⟩)/\σ_ 19=.pointer (some ⟨ag,4,none⟩)/\σ_ 20=.map (some aa)/\σ_ 21=jV (↑(p0.number.length):Int)/\σ_ 24=.pointer (some ⟨ag,0,none⟩)/\σ_ 25=.pointer (some ⟨ag,0,none⟩)/\σ_ 26=.pointer (some ⟨ag,4,none⟩)/\σ_ 27=.map (some aa)/\PHeap.Le U U_/\SW w [B1,.obj aa (.map ac ae)] U U_ [.blk b4 118 B0,B1,.obj aa (.map ac ae),.blk bm 118 B0,.row bt bE 3 1 (hD KL.encI [1125899906842624])] w_) ?_ fun lD=>?_
 rintro xY gV ⟨gB,bm,bt,bE,jA,jB,jC,jD,jE,eQ,jF,jG,jH,jI,eU,jJ,jK,jL,jM,lP,k5⟩
 refine zk ?_ ?_
 have q:=k5.freezeR (k:=4) (n:=[1125899906842624].length) rfl (wAE (f:=KL.encI) (sz:=1) (fun _=>rfl) [1125899906842624]) (by decide)
 obtain ⟨gC,vP,lu,ur⟩:=q
 have uu:SW w [B1,.obj aa (.map ac ae)] U gC [.blk b4 118 B0,B1,.obj aa (.map ac ae),.blk bm 118 B0] gV:=ur
 refine zE 0 Z Z Z Z (zD Z Z Try.call88 (zB eQ (zB eU zK)) Z) uu (fun hs=>wAn [1125899906842624] bt bE (↑(p0.number.length):Int) gV gC hs lu dW) (.inr Z) ?_
 rintro f5 vT xo l6 lE sq ⟨fK,ig,rfl,rfl⟩
 have ss:SW w [B1,.obj aa (.map ac ae)] U f5 [.row fK ig 3 1 (hD KL.encI aq),.blk b4 118 B0,B1,.obj aa (.map ac ae),.blk bm 118 B0] l6:=sq
 have ry:=lu.le lE
 exact vw _ _ ⟨f5,bm,bt,bE,fK,ig,jA,jB,jC,jD,jE,eQ,jF,jG,jH,jI,eU,rfl,jJ,jK,jL,jM,((lP.trans vP).trans lE),(ss.pick [1,2,3,4,0] _ (by decide) rfl),ry⟩
 refine ZE (pv:=[(0,jV (-1))]) (zs:=[jV 0]) (cs:=[jV (-1)]) Z Z Z Z Z (wAF Z wAO) zH zC zw Z Z Z Z Z k5 ?_
 intro l7 gW su
 have sv:SW w [B1,.obj aa (.map ac ae)] U gB [.row (some ⟨gW,0,none⟩) 1 3 1 (hD KL.encI [-1]),.blk b4 118 B0,B1,.obj aa (.map ac ae),.blk bm 118 B0,.row bt bE 3 1 (hD KL.encI [1125899906842624])] l7:=su
 exact fw _ _ ⟨gB,bm,bt,bE,(some ⟨gW,0,none⟩),1,jA,jB,jC,jD,jE,eQ,jF,jG,jH,jI,eU,rfl,jJ,jK,jL,jM,lP,(sv.pick [1,2,3,4,5,0] _ (by decide) rfl)⟩
 refine ZP (s:=gDi) (M:=fun σ_ w_=>∃ (U_:PHeap) (bK:Option Addr) (bZ:Nat) (bL:Option Addr) (ca:Nat),σ_ 0=.pointer (some ⟨ag,0,none⟩)/\σ_ 1=jV p1/\σ_ 2=.bool p2/\σ_ 6=.pointer (some ⟨b4,0,none⟩)/\σ_ 16=.slice bK ([1125899906842624].length) bZ/\σ_ 17=.pointer (some ⟨ag,0,none⟩)/\σ_ 18=.pointer (some ⟨ag,0,none⟩)/\σ_ 19=.pointer (some ⟨ag,4,none⟩)/\σ_ 20=.map (some aa)/\σ_ 21=jV (↑(p0.number.length):Int)/\σ_ 23=.slice bL ([-1].length) ca/\σ_ 24=.pointer (some ⟨ag,0,none⟩)/\σ_ 25=.pointer (some ⟨ag,0,none⟩)/\σ_ 26=.pointer (some ⟨ag,4,none⟩)/\σ_ 27=.map (some aa)/\PHeap.Le U U_/\SW w [B1,.obj aa (.map ac ae)] U U_ [.blk b4 118 B0,B1,.obj aa (.map ac ae),.row bK bZ 3 1 (hD KL.encI [1125899906842624]),.row bL ca 3 1 (hD KL.encI [-1])] w_) ?_ fun ly=>?_
 rintro xD gD ⟨lW,bK,bZ,bL,ca,it,iu,iv,iw,eG,iy,iz,iA,iB,eH,iC,iD,iE,iF,iG,lF,jX⟩
 refine zk ?_ ?_
 have q:=jX.freezeR (k:=3) (n:=[1125899906842624].length) rfl (wAE (f:=KL.encI) (sz:=1) (fun _=>rfl) [1125899906842624]) (by decide)
 obtain ⟨f6,vy,lk,sw⟩:=q
 let B8:Res:=.row bL ca 3 1 (hD KL.encI [-1])
 have sA:SW w [B1,.obj aa (.map ac ae)] U f6 [.blk b4 118 B0,B1,.obj aa (.map ac ae),B8] gD:=sw
 refine zE 0 Z Z Z Z (zD Z Z Try.call88 (zB eG (zB eH zK)) Z) sA (fun hs=>wAn [1125899906842624] bK bZ (↑(p0.number.length):Int) gD f6 hs lk dW) (.inr Z) ?_
 rintro f8 vU xp l8 lG sB ⟨fL,ii,rfl,rfl⟩
 have sC:SW w [B1,.obj aa (.map ac ae)] U f8 [.row fL ii 3 1 (hD KL.encI aq),.blk b4 118 B0,B1,.obj aa (.map ac ae),B8] l8:=sB
 have rz:=lk.le lG
 exact vx _ _ ⟨f8,bK,bZ,fL,ii,bL,ca,it,iu,iv,iw,eG,iy,iz,iA,iB,eH,rfl,iC,iD,iE,iF,iG,((lF.trans vy).trans lG),(sC.pick [1,2,3,0,4] _ (by decide) rfl),rz⟩
 refine zT (cs:=B0) Z Z Z Z Z Zd Z jX ?_
 intro v7 mu sD
 exact fw _ _ ⟨lW,mu,bK,bZ,bL,ca,it,iu,iv,iw,rfl,eG,iy,iz,iA,iB,eH,iC,iD,iE,iF,iG,lF,(sD.pick [1,2,3,0,4,5] _ (by decide) rfl)⟩
 refine oM Z Z (oR Z (Za Z Z) (oR Z (zJ Z Z ZF Z Zs) (oL Z (bJ.ldB (j:=1) Z Z Z Zx (v:=.map (some aa)) Z) (oL Z (bJ.lenM (j:=2) (mk:=wBB) (mv:=wBC) Z Z Z (wBV ZI) cr) (oM Z Z (oR Z (Za Z Z) (oR Z (zJ Z Z ZF Z Zs) (oL Z (bJ.ldB (j:=1) Z Z Z Zx (v:=.map (some aa)) Z) (zk ?_ ?_)))))))))
 refine ZE (pv:=[(0,jV 1125899906842624)]) (zs:=[jV 0]) (cs:=[jV 1125899906842624]) Z Z Z Z Z (wAF Z wAO) zH zC zw Z Z Z Z Z bJ ?_
 intro en bz sE
 let B9:Res:=.row (some ⟨bz,0,none⟩) 1 3 1 (hD KL.encI [1125899906842624])
 have eW:SW w [B1,.obj aa (.map ac ae)] U U [B9,.blk b4 118 B0,B1,.obj aa (.map ac ae)] en:=sE
 refine zk ?_ ?_
 have q:=eW.freezeR (k:=0) (n:=[1125899906842624].length) rfl (wAE (f:=KL.encI) (sz:=1) (fun _=>rfl) [1125899906842624]) (by decide)
 obtain ⟨f9,fA,dY,sF⟩:=q
 have sG:SW w [B1,.obj aa (.map ac ae)] U f9 [.blk b4 118 B0,B1,.obj aa (.map ac ae)] en:=sF
 refine zE 0 Z Z Z Z (zD Z Z Try.call88 (zB Z (zB Z zK)) Z) sG (fun hs=>wAn [1125899906842624] (some ⟨bz,0,none⟩) 1 (↑(p0.number.length):Int) en f9 hs dY dW) (.inr Z) ?_
 rintro cI vV xq ma ct sH ⟨dl,dG,rfl,rfl⟩
 let cE:Res:=.row dl dG 3 1 (hD KL.encI aq)
 have eX:SW w [B1,.obj aa (.map ac ae)] U cI [cE,.blk b4 118 B0,B1,.obj aa (.map ac ae)] ma:=sH
 refine oL Z (eX.lenM (j:=3) (mk:=wBB) (mv:=wBC) Z Z Z (wBV ZI) cr) (zk ?_ ?_)
 refine ZE (pv:=[(0,jV (-1))]) (zs:=[jV 0]) (cs:=[jV (-1)]) Z Z Z Z Z (wAF Z wAO) zH zC zw Z Z Z Z Z eX ?_
 intro eo dD sI
 have jY:SW w [B1,.obj aa (.map ac ae)] U cI [.row (some ⟨dD,0,none⟩) 1 3 1 (hD KL.encI [-1]),cE,.blk b4 118 B0,B1,.obj aa (.map ac ae)] eo:=sI
 refine zk ?_ ?_
 have q:=jY.freezeR (k:=0) (n:=[-1].length) rfl (wAE (f:=KL.encI) (sz:=1) (fun _=>rfl) [-1]) (by decide)
 obtain ⟨ga,lH,lm,sJ⟩:=q
 have sK:SW w [B1,.obj aa (.map ac ae)] U ga [cE,.blk b4 118 B0,B1,.obj aa (.map ac ae)] eo:=sJ
 refine zE 0 Z Z Z Z (zD Z Z Try.call88 (zB Z (zB Z zK)) Z) sK (fun hs=>wAn [-1] (some ⟨dD,0,none⟩) 1 (↑(p0.number.length):Int) eo ga hs lm dX) (.inr Z) ?_
 rintro gb vW xr mb fB sL ⟨fM,ij,rfl,rfl⟩
 have sM:SW w [B1,.obj aa (.map ac ae)] U gb [.row fM ij 3 1 (hD KL.encI aL),cE,.blk b4 118 B0,B1,.obj aa (.map ac ae)] mb:=sL
 have rA:=dY.le ct
 have rB:=rA.le lH
 have rC:=rB.le fB
 have rD:=lm.le fB
 exact lB _ _ ⟨gb,(some ⟨bz,0,none⟩),1,dl,dG,(some ⟨dD,0,none⟩),1,fM,ij,rfl,rfl,rfl,rfl,rfl,rfl,rfl,rfl,rfl,rfl,rfl,rfl,rfl,rfl,rfl,rfl,rfl,rfl,(((fA.trans ct).trans lH).trans fB),(sM.pick [2,3,4,1,0] _ (by decide) rfl),rC,rD⟩
 refine zT (cs:=B0) Z Z Z Z Z Zd Z jY ?_
 intro v9 mw sN
 have rE:=dY.le ct
 exact dZ _ _ ⟨cI,mw,(some ⟨bz,0,none⟩),1,dl,dG,(some ⟨dD,0,none⟩),1,rfl,rfl,rfl,rfl,rfl,rfl,rfl,rfl,rfl,rfl,rfl,rfl,rfl,rfl,rfl,rfl,rfl,rfl,(fA.trans ct),(sN.pick [3,4,5,0,2,1] _ (by decide) rfl),rE⟩
 refine zT (cs:=B0) Z Z Z Z Z Zd Z eX ?_
 intro wc gX sO
 refine ZE (pv:=[(0,jV (-1))]) (zs:=[jV 0]) (cs:=[jV (-1)]) Z Z Z Z Z (wAF Z wAO) zH zC zw Z Z Z Z Z sO ?_
 intro mc gY sP
 have sQ:SW w [B1,.obj aa (.map ac ae)] U cI [.row (some ⟨gY,0,none⟩) 1 3 1 (hD KL.encI [-1]),.blk gX 118 B0,cE,.blk b4 118 B0,B1,.obj aa (.map ac ae)] mc:=sP
 have rF:=dY.le ct
 exact dZ _ _ ⟨cI,gX,(some ⟨bz,0,none⟩),1,dl,dG,(some ⟨gY,0,none⟩),1,rfl,rfl,rfl,rfl,rfl,rfl,rfl,rfl,rfl,rfl,rfl,rfl,rfl,rfl,rfl,rfl,rfl,rfl,(fA.trans ct),(sQ.pick [3,4,5,1,2,0] _ (by decide) rfl),rF⟩
 refine zk ?_ ?_
 refine ZE (pv:=[(0,jV (-1))]) (zs:=[jV 0]) (cs:=[jV (-1)]) Z Z Z Z Z (wAF Z wAO) zH zC zw Z Z Z Z Z eW ?_
 intro md gZ sS
 have sT:SW w [B1,.obj aa (.map ac ae)] U U [.row (some ⟨gZ,0,none⟩) 1 3 1 (hD KL.encI [-1]),B9,.blk b4 118 B0,B1,.obj aa (.map ac ae)] md:=sS
 exact ly _ _ ⟨U,(some ⟨bz,0,none⟩),1,(some ⟨gZ,0,none⟩),1,rfl,rfl,rfl,rfl,rfl,rfl,rfl,rfl,rfl,rfl,rfl,rfl,rfl,rfl,rfl,(zW _),(sT.pick [2,3,4,1,0] _ (by decide) rfl)⟩
 refine zT (cs:=B0) Z Z Z Z Z Zd Z eW ?_
 intro wd mx sU
 exact lD _ _ ⟨U,mx,(some ⟨bz,0,none⟩),1,rfl,rfl,rfl,rfl,rfl,rfl,rfl,rfl,rfl,rfl,rfl,rfl,rfl,rfl,rfl,(zW _),(sU.pick [2,3,4,0,1] _ (by decide) rfl)⟩
 refine zk ?_ ?_
 refine ZE (pv:=[(0,jV (-1))]) (zs:=[jV 0]) (cs:=[jV (-1)]) Z Z Z Z Z (wAF Z wAO) zH zC zw Z Z Z Z Z bJ ?_
 intro me er sV
 let fR:Res:=.row (some ⟨er,0,none⟩) 1 3 1 (hD KL.encI [-1])
 have jZ:SW w [B1,.obj aa (.map ac ae)] U U [fR,.blk b4 118 B0,B1,.obj aa (.map ac ae)] me:=sV
 refine zk ?_ ?_
 refine ZE (pv:=[(0,jV 1125899906842624)]) (zs:=[jV 0]) (cs:=[jV 1125899906842624]) Z Z Z Z Z (wAF Z wAO) zH zC zw Z Z Z Z Z jZ ?_
 intro mf g6 sX
 have sY:SW w [B1,.obj aa (.map ac ae)] U U [.row (some ⟨g6,0,none⟩) 1 3 1 (hD KL.encI [1125899906842624]),fR,.blk b4 118 B0,B1,.obj aa (.map ac ae)] mf:=sX
 exact ly _ _ ⟨U,(some ⟨g6,0,none⟩),1,(some ⟨er,0,none⟩),1,rfl,rfl,rfl,rfl,rfl,rfl,rfl,rfl,rfl,rfl,rfl,rfl,rfl,rfl,rfl,(zW _),(sY.pick [2,3,4,0,1] _ (by decide) rfl)⟩
 refine zT (cs:=B0) Z Z Z Z Z Zd Z jZ ?_
 intro we my sZ
 exact lC _ _ ⟨U,my,(some ⟨er,0,none⟩),1,rfl,rfl,rfl,rfl,rfl,rfl,rfl,rfl,rfl,rfl,rfl,rfl,rfl,rfl,rfl,(zW _),(sZ.pick [2,3,4,0,1] _ (by decide) rfl)⟩
 refine zT (cs:=B0) Z Z Z Z Z Zd Z bJ ?_
 intro wg dE j0
 refine zk ?_ ?_
 refine ZE (pv:=[(0,jV 1125899906842624)]) (zs:=[jV 0]) (cs:=[jV 1125899906842624]) Z Z Z Z Z (wAF Z wAO) zH zC zw Z Z Z Z Z j0 ?_
 intro mg g7 s3
 have s4:SW w [B1,.obj aa (.map ac ae)] U U [.row (some ⟨g7,0,none⟩) 1 3 1 (hD KL.encI [1125899906842624]),.blk dE 118 B0,.blk b4 118 B0,B1,.obj aa (.map ac ae)] mg:=s3
 exact lD _ _ ⟨U,dE,(some ⟨g7,0,none⟩),1,rfl,rfl,rfl,rfl,rfl,rfl,rfl,rfl,rfl,rfl,rfl,rfl,rfl,rfl,rfl,(zW _),(s4.pick [2,3,4,1,0] _ (by decide) rfl)⟩
 refine ZE (pv:=[(0,jV (-1))]) (zs:=[jV 0]) (cs:=[jV (-1)]) Z Z Z Z Z (wAF Z wAO) zH zC zw Z Z Z Z Z j0 ?_
 intro mh g8 s5
 have s6:SW w [B1,.obj aa (.map ac ae)] U U [.row (some ⟨g8,0,none⟩) 1 3 1 (hD KL.encI [-1]),.blk dE 118 B0,.blk b4 118 B0,B1,.obj aa (.map ac ae)] mh:=s5
 exact lC _ _ ⟨U,dE,(some ⟨g8,0,none⟩),1,rfl,rfl,rfl,rfl,rfl,rfl,rfl,rfl,rfl,rfl,rfl,rfl,rfl,rfl,rfl,(zW _),(s6.pick [2,3,4,1,0] _ (by decide) rfl)⟩
 rintro xE wh ⟨ge,b8,am,an,ao,ap,mF,mG,mH,mI,iH,vz,j1⟩
 refine zM (sR fL4 Z (oR Z (zJ Z iH ZV Z zq) (oL Z (j1.ldB (j:=3) Z Z Z zy (v:=.slice am l9.length an) Z) (oR Z (zz Z Z zH) (oM Z Z (eN (zc (bnK li fun xB uy fu=>?_))))))))
 have q:=wBn uy
 obtain ⟨fm,uz⟩:=q
 replace fm:=zS fm
 let bu:Res:=.row ao ap 3 1 (hD KL.encI bb)
 refine CK.forN' (fun a9 aN σ_ w_=>∃ (U_:PHeap),σ_ 34=jV (↑a9:Int)/\σ_ 0=.pointer (some ⟨ag,0,none⟩)/\σ_ 1=jV p1/\σ_ 2=.bool p2/\σ_ 6=.pointer (some ⟨b4,0,none⟩)/\σ_ 9=.pointer (some ⟨b8,0,none⟩)/\σ_ 33=jV (↑l9.length:Int)/\PHeap.Le ge U_/\SW w [B1,.obj aa (.map ac ae)] U U_ [.blk b4 118 B0,B1,.obj aa (.map ac ae),.row am an 3 1 (hD KL.encI aN),bu,.blk b8 118 [.slice am aN.length an,.slice ao bb.length ap]] w_/\aN.length=l9.length) uz ?_ ?_ ?_
 exact ⟨ge,rfl,mF,mG,mH,mI,iH,rfl,(zW _),(j1.pick [0,1,2,4,5,3] _ (by decide) rfl),rfl⟩
 rintro a9 aN xx xF wi fh ⟨bx,c8,eI,cX,eJ,eK,cY,dQ,fC,bI,eV⟩ lv
 have ik:Hid ((↑a9:Int) < (↑l9.length:Int)):=zS (wBD fh)
 replace fh:=zS fh
 have fg:Hid (w64 ((↑a9:Int) + 1)=(↑(a9 + 1):Int)):=zS (by have h1:=fm.out;have h2:=ik.out;rw [wAU] <;> omega)
 refine sR fL1 Z (oR Z (zh Z c8 dQ) (eN (zM (cT Z ik (kN (zM (zc (sR fL2 Z (oM Z c8 (oA Z Z (eN (sR fL7 Z (oM Z cX (oR Z (zh Z Z Z) (oM Z Z ?_)))))))))))))))
 by_cases aP:p1 < 0
 have k6:=lv;rw [if_pos aP] at k6;replace aP:=zS aP
 refine oT Z aP (oT Z aP (oT Z aP (oR Z (zR Z (Zh aP.out) Z) (eN (ZD Z (rR (wDe (.fx 4 .nil .stop)) Z (oR Z (zJ Z cY ZV Z zq) (oL Z (bI.ldB (j:=5) Z Z Z zy (v:=.slice am aN.length an) Z) (oM Z Z (bnK k6 fun _ dU uX=>?_))))))))))
 obtain ⟨wD,jQ⟩:=bI.rowSome (j:=3) rfl (by rw [wAE (f:=KL.encI) (sz:=1) (fun _=>rfl) aN];have hz:=wAa dU;omega)
 refine oR Z (Zi Z Z jQ Z zH zC (wAa dU)) ?_
 have uD:=wBy (xs:=aN) (wAa dU)
 refine yu (j:=3) (vs:=[jV 0]) (cs':=hD KL.encI (nG aN a9 0)) rfl rfl rfl rfl bI rfl jQ rfl rfl rfl zC (by rw [wAE (f:=KL.encI) (sz:=1) (fun _=>rfl)];have hz:=wAa dU;show _ + 1 <= _;first | omega | (simp only [nB];omega) | (simp only [nA,hH,hJ];omega)) rfl (wDP (sz:=1) (fo:=0) (fun _=>rfl) _ _ _ _ uD (by first | omega | (simp only [nB];omega) | (simp only [nA,hH,hJ];omega)) (zA rfl) rfl) rfl ?_
 intro gE s7
 let eg:Res:=.row am an 3 1 (hD KL.encI (nG aN a9 0))
 have s8:SW w [B1,.obj aa (.map ac ae)] U bx [.blk b4 118 B0,B1,.obj aa (.map ac ae),eg,bu,.blk b8 118 [.slice am aN.length an,.slice ao bb.length ap]] gE:=s7
 have s9:SW w [B1,.obj aa (.map ac ae)] U bx [.blk b4 118 B0,B1,.obj aa (.map ac ae),eg,bu,.blk b8 118 [.slice am ((nG aN a9 0).length) an,.slice ao bb.length ap]] gE:=by simpa only [B0,B1,bu,eg,nE] using s8
 refine zg (ZH (zL (rR fL2 Z (oR Z (ZS (zf Z c8 Z) (congrArg (jV) fg.out)) (oM Z Z (zg ?_))))))
 cases uX
 exact zL ⟨Z,⟨bx,Z,eI,cX,eJ,eK,cY,dQ,fC,s9,(nE.trans eV)⟩⟩
 have k7:=lv;rw [if_neg aP] at k7;replace aP:=zS aP
 refine zr Z Z Z (wF Z aP) Z Z (zr Z Z Z (wF Z aP) Z cX (rU Z (wF Z aP) (yO Z Z Z) (oR Z (zb Z (zd aP.out) Z) (eN (ifc k7 ?_ ?_)))))
 intro eu uY
 refine cT Z eu (rR (wDe (.fx 4 .nil .stop)) Z (oR Z (zJ Z cY ZV Z zq) (oL Z (bI.ldB (j:=5) Z Z Z zy (v:=.slice am aN.length an) Z) (oM Z Z (bnK uY fun _ dV uZ=>?_)))))
 obtain ⟨wE,jR⟩:=bI.rowSome (j:=3) rfl (by rw [wAE (f:=KL.encI) (sz:=1) (fun _=>rfl) aN];have hz:=wAa dV;omega)
 refine oR Z (Zi Z Z jR Z zH zC (wAa dV)) ?_
 have uE:=wBy (xs:=aN) (wAa dV)
 refine yu (j:=3) (vs:=[jV 0]) (cs':=hD KL.encI (nG aN a9 0)) rfl rfl rfl rfl bI rfl jR rfl rfl rfl zC (by rw [wAE (f:=KL.encI) (sz:=1) (fun _=>rfl)];have hz:=wAa dV;show _ + 1 <= _;first | omega | (simp only [nB];omega) | (simp only [nA,hH,hJ];omega)) rfl (wDP (sz:=1) (fo:=0) (fun _=>rfl) _ _ _ _ uE (by first | omega | (simp only [nB];omega) | (simp only [nA,hH,hJ];omega)) (zA rfl) rfl) rfl ?_
 intro gF ta
 let eh:Res:=.row am an 3 1 (hD KL.encI (nG aN a9 0))
 have tb:SW w [B1,.obj aa (.map ac ae)] U bx [.blk b4 118 B0,B1,.obj aa (.map ac ae),eh,bu,.blk b8 118 [.slice am aN.length an,.slice ao bb.length ap]] gF:=ta
 have tc:SW w [B1,.obj aa (.map ac ae)] U bx [.blk b4 118 B0,B1,.obj aa (.map ac ae),eh,bu,.blk b8 118 [.slice am ((nG aN a9 0).length) an,.slice ao bb.length ap]] gF:=by simpa only [B0,B1,bu,eh,nE] using tb
 refine zg (ZH (zL (rR fL2 Z (oR Z (ZS (zf Z c8 Z) (congrArg (jV) fg.out)) (oM Z Z (zg ?_))))))
 cases uZ
 exact zL ⟨Z,⟨bx,Z,eI,cX,eJ,eK,cY,dQ,fC,tc,(nE.trans eV)⟩⟩
 intro eu u3
 refine cF Z eu (Zl (ZH (zL (rR fL2 Z (oR Z (ZS (zf Z c8 Z) (congrArg (jV) fg.out)) (oM Z Z (zg ?_)))))))
 cases u3
 exact zL ⟨Z,⟨bx,Z,eI,cX,eJ,eK,cY,dQ,fC,bI,eV⟩⟩
 rintro xG wj ⟨gf,rq,iI,wN,mJ,mK,mL,mM,vA,eY,rG⟩
 have mB:Hid (¬ ((↑(((↑l9.length:Int):Int) - 0).toNat:Int) < (↑l9.length:Int))):=zS (wAh)
 refine sR fL1 Z (oR Z (zh Z rq mM) (eN (zM (cF Z mB (Zf (zx (zx (Zc (zL (sR fL1 Z (oA Z Z (eN (zM (sR fL7 Z (oM Z iI (oR Z (Za Z Z) (oR Z (zJ Z Z ZF Z Zs) (oL Z (eY.ldB (j:=1) Z Z Z Zx (v:=.map (some aa)) Z) (oL Z (eY.lenM (j:=2) (mk:=wBB) (mv:=wBC) Z Z Z (wBV ZI) cr) (oR Z (zf Z Z Z) (oM Z Z (eN (zc ?_)))))))))))))))))))))))
 have q:=wBg fu
 obtain ⟨xn,ff⟩:=q
 have q:=wBf ff
 obtain ⟨fq,uA⟩:=q
 replace fq:=zS fq
 refine yL (fun ba (d7,d9,lQ) σ_ w_=>∃ (U_:PHeap),σ_ 55=jV (↑ba:Int)/\σ_ 0=.pointer (some ⟨ag,0,none⟩)/\σ_ 2=.bool p2/\σ_ 6=.pointer (some ⟨b4,0,none⟩)/\σ_ 9=.pointer (some ⟨b8,0,none⟩)/\σ_ 11=jV lQ/\σ_ 54=jV (w64 ((↑(p0.number.length):Int) + 1))/\PHeap.Le gf U_/\SW w [B1,.obj aa (.map ac ae)] U U_ [.blk b4 118 B0,B1,.obj aa (.map ac ae),.row am an 3 1 (hD KL.encI d7),.row ao ap 3 1 (hD KL.encI d9),.blk b8 118 [.slice am d7.length an,.slice ao d9.length ap]] w_/\d7.length=l9.length/\d9.length=bb.length) uA ?_ ?_ ?_
 exact ⟨gf,Z,iI,mJ,mK,mL,Z,Z,(zW _),eY,rG,Z⟩
 rintro ba ⟨d7,d9,lQ⟩ xz xH wk fj ⟨gg,jN,iJ,mN,mO,mP,wO,iK,lI,j2,rH,rI⟩ lw uw
 try dsimp only at lw
 have il:Hid ((↑ba:Int) < (w64 ((↑(p0.number.length):Int) + 1))):=zS (wBD fj)
 replace fj:=zS fj
 have uV:Hid (w64 ((↑ba:Int) + 1)=(↑(ba + 1):Int)):=zS (by have h1:=fq.out;have h2:=il.out;rw [wAU] <;> omega)
 refine sR fL1 Z (oR Z (zh Z jN iK) (eN (zM (cT Z il (kN (zM (zc (sR fL1 Z (oA Z Z (eN (zM (sR fL6 Z (oM Z iJ (oR Z (Za Z Z) (oR Z (zJ Z Z ZF Z yh) (oL Z (j2.ldB (j:=1) Z Z Z Try.isAgg122 (v:=.slice a5 p0.edges.length a6) Z) (oR Z (zz Z Z yl) (oM Z Z (eN (zc ?_))))))))))))))))))))
 have q:=bnd lw
 obtain ⟨⟨lS,lT,xC⟩,uB,k8⟩:=q
 try dsimp only at k8
 have q:=wBn uB
 obtain ⟨ft,uC⟩:=q
 replace ft:=zS ft
 refine CK.forN' (fun aJ (ak,aw,lR) σ_ w_=>∃ (U_:PHeap),σ_ 62=jV (↑aJ:Int)/\σ_ 0=.pointer (some ⟨ag,0,none⟩)/\σ_ 2=.bool p2/\σ_ 6=.pointer (some ⟨b4,0,none⟩)/\σ_ 9=.pointer (some ⟨b8,0,none⟩)/\σ_ 11=jV lR/\σ_ 54=jV (w64 ((↑(p0.number.length):Int) + 1))/\σ_ 55=jV (↑ba:Int)/\σ_ 60=.slice a5 p0.edges.length a6/\σ_ 61=jV (↑p0.edges.length:Int)/\PHeap.Le gg U_/\SW w [B1,.obj aa (.map ac ae)] U U_ [.blk b4 118 B0,B1,.obj aa (.map ac ae),.row am an 3 1 (hD KL.encI ak),.row ao ap 3 1 (hD KL.encI aw),.blk b8 118 [.slice am ak.length an,.slice ao aw.length ap]] w_/\ak.length=l9.length/\aw.length=bb.length) uC ?_ ?_ ?_
 exact ⟨gg,Z,iJ,mN,mO,mP,Z,iK,jN,Z,Z,(zW _),j2,rH,rI⟩
 rintro aJ ⟨ak,aw,lR⟩ xA xI wl fk ⟨ay,bi,cj,bF,cm,aX,dR,cn,co,bG,bH,lJ,j3,cp,cq⟩ lx
 try dsimp only at lx
 have im:Hid ((↑aJ:Int) < (↑p0.edges.length:Int)):=zS (wBD fk)
 replace fk:=zS fk
 have uW:Hid (w64 ((↑aJ:Int) + 1)=(↑(aJ + 1):Int)):=zS (by have h1:=ft.out;have h2:=im.out;rw [wAU] <;> omega)
 refine sR fL1 Z (oR Z (zh Z bi bH) (eN (zM (cT Z im (kN ?_)))))
 have q:=bnd lx
 obtain ⟨⟨fy,fz,vR⟩,vp,k9⟩:=q
 try dsimp only at k9
 refine yN (fun σ_ w_=>∃ (U_:PHeap),σ_ 0=.pointer (some ⟨ag,0,none⟩)/\σ_ 2=.bool p2/\σ_ 6=.pointer (some ⟨b4,0,none⟩)/\σ_ 9=.pointer (some ⟨b8,0,none⟩)/\σ_ 11=jV vR/\σ_ 54=jV (w64 ((↑(p0.number.length):Int) + 1))/\σ_ 55=jV (↑ba:Int)/\σ_ 60=.slice a5 p0.edges.length a6/\σ_ 61=jV (↑p0.edges.length:Int)/\σ_ 62=jV (↑aJ:Int)/\PHeap.Le ay U_/\SW w [B1,.obj aa (.map ac ae)] U U_ [.blk b4 118 B0,B1,.obj aa (.map ac ae),.row am an 3 1 (hD KL.encI fy),.row ao ap 3 1 (hD KL.encI fz),.blk b8 118 [.slice am fy.length an,.slice ao fz.length ap]] w_/\fy.length=l9.length/\fz.length=bb.length) ?_ ?_
 refine zc (sR (wCa (.fx 3 (.fl 4 (.fx 5 .nil .stop)) .stop)) Z (oM Z bi (bnK vp fun aj jO u4=>?_)))
 have rJ:=uv.le vz
 have rK:=rJ.le vA
 have rL:=rK.le lI
 have rM:=rL.le lJ
 have q:=rM.el (fun _=>rfl) (wAW jO)
 obtain ⟨wG,xm,sm,sn⟩:=q
 refine oR Z (Zi Z bG sm bi yl ym (wBi jO)) (oL Z (j3.ldCA (f:=0) sn Z Z Try.isAgg130 ym (us:=[jV aj.step.Kind,jV aj.step.Skier,jV aj.step.Index,.bool aj.step.Up,jV aj.from_,jV aj.to_,jV aj.count]) Z Z) (zT (cs:=[jV 0,jV 0,jV 0,.bool false,jV 0,jV 0,jV 0]) Z Z Z Z Z Try.zeroValue130 Z j3 ?_))
 intro wm aM td
 refine oA Z Z ?_
 let ax:List Value:=[jV aj.step.Kind,jV aj.step.Skier,jV aj.step.Index,.bool aj.step.Up,jV aj.from_,jV aj.to_,jV aj.count]
 refine zV (j:=0) (vs:=ax) Z Z Z Z td Z Z Z Z ym (zA Z) Z Z Z ?_
 intro ep te
 let aS:Res:=.row ao ap 3 1 (hD KL.encI aw)
 let bh:Res:=.blk b8 118 [.slice am ak.length an,.slice ao aw.length ap]
 have tf:SW w [B1,.obj aa (.map ac ae)] U ay [.blk aM 130 ax,.blk b4 118 B0,B1,.obj aa (.map ac ae),.row am an 3 1 (hD KL.encI ak),aS,bh] ep:=te
 refine eN (zM (ZA ZB [3,1,3,1,3,3] fL6 (by kernel_rfl) ?_))
 have da:=tf.drew
 generalize hw_W1431:({ ep with drawn:=ep.drawn + 1 }:World)=dC at da ⊢
 refine oR Z (zJ Z Z yR Z zC) (oL Z (da.ldB (j:=0) Z Z Z zG (v:=jV aj.from_) Z) (oR Z (zJ Z Z yR Z zC) (oL Z (da.ldB (j:=0) Z Z Z zG (v:=jV aj.to_) Z) (oA Z Z (oA Z Z (eN (zM (sR fL1 Z (oM Z bF (eN (ifc u4 ?_ ?_)))))))))))
 intro ew u5
 refine ZD (congrArg nI ew.out) (rR fL4 rfl (zr rfl rfl rfl rfl rfl rfl (zr rfl rfl rfl rfl rfl rfl (yD rfl rfl rfl rfl rfl rfl (yD rfl rfl rfl rfl rfl rfl (eN (zM (ZA ZB [3,1,3,3,1,3,3,3,1,3,3,1,3,1,3,3,1,3,3,1,3,3] fL22 (by kernel_rfl) ?_))))))))
 have aY:=da.drew
 generalize hw_W1435:({ dC with drawn:=dC.drawn + 1 }:World)=gG at aY ⊢
 refine oR Z (zJ Z aX ZV Z zq) (oL Z (aY.ldB (j:=6) Z Z Z zy (v:=.slice am ak.length an) Z) (oM Z Z (bnK u5 fun _ bd u6=>?_)))
 obtain ⟨wH,a7⟩:=aY.rowSome (j:=4) rfl (by rw [wAE (f:=KL.encI) (sz:=1) (fun _=>rfl) ak];have hz:=wAa bd;omega)
 refine oR Z (ZO Z Z a7 Z zH zC (wBl bd) (wBm bd)) ?_
 have uF:=wBy (xs:=ak) (wAa bd)
 refine zl rfl rfl rfl rfl (aY.ldR (j:=4) rfl a7 rfl rfl zG (wAj (sz:=1) (fun _=>rfl) _ _ 0 _ uF (by first | omega | rfl | simp) rfl)) rfl (zY rfl rfl rfl rfl (fun _=>zh rfl rfl rfl) (zr rfl rfl rfl rfl rfl rfl (ifc u6 ?_ ?_)))
 intro au u7
 refine rU Z (wT Z au) (zJ Z aX ZV Z zq) (zl Z Z Z (wT Z au) (aY.ldB (j:=6) Z Z Z zy (v:=.slice am ak.length an) Z) Z (zr Z Z Z (wT Z au) Z Z (rU Z (wT Z au) (ZO Z Z a7 Z zH zC (wBl bd) (wBm bd)) ?_)))
 have uG:=wBy (xs:=ak) (wAa bd)
 refine zl rfl rfl rfl (zF rfl rfl (Zh au.out)) (aY.ldR (j:=4) rfl a7 rfl rfl zG (wAj (sz:=1) (fun _=>rfl) _ _ 0 _ uG (by first | omega | rfl | simp) rfl)) rfl (zY rfl rfl rfl (zF rfl rfl (Zh au.out)) (fun _=>zJ rfl rfl yR rfl zC) (zl rfl rfl rfl (zF rfl rfl (Zh au.out)) (aY.ldB (j:=0) rfl rfl rfl zG (v:=jV aj.count) rfl) rfl (zY rfl rfl rfl (zF rfl rfl (Zh au.out)) (fun _=>zf rfl rfl rfl) (zY rfl rfl rfl (zF rfl rfl (Zh au.out)) (fun _=>zJ rfl aX ZV rfl zq) (zl rfl rfl rfl (zF rfl rfl (Zh au.out)) (aY.ldB (j:=6) rfl rfl rfl zy (v:=.slice am ak.length an) rfl) rfl (zr rfl rfl rfl (zF rfl rfl (Zh au.out)) rfl rfl (bnK u7 fun _ bj u9=>zY rfl rfl rfl (zF rfl rfl (Zh au.out)) (fun _=>ZO rfl rfl a7 rfl zH zC (wBl bj) (wBm bj)) ?_)))))))
 have uH:=wBy (xs:=ak) (wAa bj)
 refine zl rfl rfl rfl (zF rfl rfl (Zh au.out)) (aY.ldR (j:=4) rfl a7 rfl rfl zG (wAj (sz:=1) (fun _=>rfl) _ _ 0 _ uH (by first | omega | rfl | simp) rfl)) rfl (zY rfl rfl rfl (zF rfl rfl (Zh au.out)) (fun _=>zh rfl rfl rfl) (zY rfl rfl rfl rfl (fun _=>zR rfl (Zh au.out) rfl) (eN (ifc u9 ?_ ?_))))
 intro ey va
 refine cT Z ey ?_
 have q:=bnd va
 obtain ⟨⟨⟩,vq,lc⟩:=q
 try dsimp only at lc
 let aT:Res:=.row am an 3 1 (hD KL.encI (nG ak aj.from_.toNat (w64 ((gd ak aj.to_.toNat) + aj.count))))
 let cG:Res:=.blk b8 118 [.slice am ((nG ak aj.from_.toNat (w64 ((gd ak aj.to_.toNat) + aj.count))).length) an,.slice ao ((nG aw aj.from_.toNat (↑aJ:Int)).length) ap]
 let bv:Res:=.row ao ap 3 1 (hD KL.encI (nG aw aj.from_.toNat (↑aJ:Int)))
 refine yN (fun σ_ w_=>∃ (U_:PHeap),σ_ 0=.pointer (some ⟨ag,0,none⟩)/\σ_ 2=.bool p2/\σ_ 6=.pointer (some ⟨b4,0,none⟩)/\σ_ 9=.pointer (some ⟨b8,0,none⟩)/\σ_ 15=jV aj.from_/\σ_ 54=jV (w64 ((↑(p0.number.length):Int) + 1))/\σ_ 55=jV (↑ba:Int)/\σ_ 60=.slice a5 p0.edges.length a6/\σ_ 61=jV (↑p0.edges.length:Int)/\σ_ 62=jV (↑aJ:Int)/\PHeap.Le ay U_/\SW w [B1,.obj aa (.map ac ae)] U U_ [.blk aM 130 ax,.blk b4 118 B0,B1,.obj aa (.map ac ae),aT,bv,cG] w_) ?_ ?_
 refine yX fun aV aQ=>?_
 have iL:aV 0=.pointer (some ⟨ag,0,none⟩):=(aQ 0).trans cj
 have iM:aV 2=.bool p2:=(aQ 2).trans bF
 have iN:aV 6=.pointer (some ⟨b4,0,none⟩):=(aQ 6).trans cm
 have cZ:aV 9=.pointer (some ⟨b8,0,none⟩):=(aQ 9).trans aX
 have mQ:aV 12=jV (↑aJ:Int):=(aQ 12).trans rfl
 have mR:aV 13=.pointer (some ⟨aM,0,none⟩):=(aQ 13).trans rfl
 have mS:aV 14=jV aj.to_:=(aQ 14).trans rfl
 have dS:aV 15=jV aj.from_:=(aQ 15).trans rfl
 have iO:aV 54=jV (w64 ((↑(p0.number.length):Int) + 1)):=(aQ 54).trans cn
 have iP:aV 55=jV (↑ba:Int):=(aQ 55).trans co
 have iQ:aV 60=.slice a5 p0.edges.length a6:=(aQ 60).trans bG
 have iR:aV 61=jV (↑p0.edges.length:Int):=(aQ 61).trans bH
 have iS:aV 62=jV (↑aJ:Int):=(aQ 62).trans bi
 clear aQ
 refine bnK vq fun _ be lf=>ZA ZB [3,1,3,3,2,3,3,1,3,3,1,3,1,3,3,3,0,3,0] (wDe (wLV gCz)) (by kernel_rfl) ?_
 have bn:=aY.drew
 generalize hw_W1484:({ gG with drawn:=gG.drawn + 1 }:World)=wn at bn ⊢
 refine oR Z (zJ Z cZ ZV Z zq) (oL Z (bn.ldB (j:=6) Z Z Z zy (v:=.slice am ak.length an) Z) (oM Z dS (oR Z (zJ Z cZ ZV Z zq) (oM Z dS (oR Z (zJ Z cZ ZV Z zq) (oL Z (bn.ldB (j:=6) Z Z Z zy (v:=.slice am ak.length an) Z) (oM Z mS (oR Z (ZO Z Z a7 Z zH zC (wBl bd) (wBm bd)) ?_))))))))
 have uI:=wBy (xs:=ak) (wAa bd)
 refine zl rfl rfl rfl rfl (bn.ldR (j:=4) rfl a7 rfl rfl zG (wAj (sz:=1) (fun _=>rfl) _ _ 0 _ uI (by first | omega | rfl | simp) rfl)) rfl (zY rfl rfl rfl rfl (fun _=>zJ rfl mR yR rfl zC) (zl rfl rfl rfl rfl (bn.ldB (j:=0) rfl rfl rfl zG (v:=jV aj.count) rfl) rfl (zY rfl rfl rfl rfl (fun _=>zf rfl rfl rfl) (zr rfl rfl rfl rfl rfl mQ (zY rfl rfl rfl rfl (fun _=>ZO rfl rfl a7 rfl zH zC (wBl bj) (wBm bj)) (zk ?_ ?_))))))
 refine ZY Z Z Z Z (bn.ldB (j:=6) Z Z Z zy (v:=.slice ao aw.length ap) Z) ?_
 have uJ:=wBy (xs:=ak) (wAa bj)
 refine yu (j:=4) (vs:=[jV (w64 ((gd ak aj.to_.toNat) + aj.count))]) (cs':=hD KL.encI (nG ak aj.from_.toNat (w64 ((gd ak aj.to_.toNat) + aj.count)))) rfl rfl rfl rfl bn rfl a7 rfl rfl rfl zC (by rw [wAE (f:=KL.encI) (sz:=1) (fun _=>rfl)];have hz:=wAa bj;show _ + 1 <= _;first | omega | (simp only [nB];omega) | (simp only [nA,hH,hJ];omega)) rfl (wDP (sz:=1) (fo:=0) (fun _=>rfl) _ _ _ _ uJ (by first | omega | (simp only [nB];omega) | (simp only [nA,hH,hJ];omega)) (zA rfl) rfl) rfl ?_
 intro gH tg
 have th:SW w [B1,.obj aa (.map ac ae)] U ay [.blk aM 130 ax,.blk b4 118 B0,B1,.obj aa (.map ac ae),aT,aS,bh] gH:=tg
 let dx:Res:=.blk b8 118 [.slice am ((nG ak aj.from_.toNat (w64 ((gd ak aj.to_.toNat) + aj.count))).length) an,.slice ao aw.length ap]
 have j4:SW w [B1,.obj aa (.map ac ae)] U ay [.blk aM 130 ax,.blk b4 118 B0,B1,.obj aa (.map ac ae),aT,aS,dx] gH:=by simpa only [B0,B1,ax,aS,bh,aT,dx,nE] using th
 obtain ⟨wI,jS⟩:=j4.rowSome (j:=5) rfl (by rw [wAE (f:=KL.encI) (sz:=1) (fun _=>rfl) aw];have hz:=wAa be;omega)
 refine oR Z (ZO Z Z jS Z zH zC (wBl be) (wBm be)) ?_
 have uK:=wBy (xs:=aw) (wAa be)
 refine yu (j:=5) (vs:=[jV (↑aJ:Int)]) (cs':=hD KL.encI (nG aw aj.from_.toNat (↑aJ:Int))) rfl rfl rfl rfl j4 rfl jS rfl rfl rfl zC (by rw [wAE (f:=KL.encI) (sz:=1) (fun _=>rfl)];have hz:=wAa be;show _ + 1 <= _;first | omega | (simp only [nB];omega) | (simp only [nA,hH,hJ];omega)) rfl (wDP (sz:=1) (fo:=0) (fun _=>rfl) _ _ _ _ uK (by first | omega | (simp only [nB];omega) | (simp only [nA,hH,hJ];omega)) (zA rfl) rfl) rfl ?_
 intro gI tj
 have tk:SW w [B1,.obj aa (.map ac ae)] U ay [.blk aM 130 ax,.blk b4 118 B0,B1,.obj aa (.map ac ae),aT,bv,dx] gI:=tj
 have tm:SW w [B1,.obj aa (.map ac ae)] U ay [.blk aM 130 ax,.blk b4 118 B0,B1,.obj aa (.map ac ae),aT,bv,cG] gI:=by simpa only [B0,B1,ax,aT,cG,bv,dx,nE] using tk
 refine zg ?_
 cases lf
 exact zL ⟨Z,⟨ay,iL,iM,iN,cZ,dS,iO,iP,iQ,iR,iS,(zW _),tm⟩⟩
 have uL:=wBy (xs:=ak) (wAa bj)
 refine yu (j:=4) (vs:=[jV (w64 ((gd ak aj.to_.toNat) + aj.count))]) (cs':=hD KL.encI (nG ak aj.from_.toNat (w64 ((gd ak aj.to_.toNat) + aj.count)))) rfl rfl rfl rfl bn rfl a7 rfl rfl rfl zC (by rw [wAE (f:=KL.encI) (sz:=1) (fun _=>rfl)];have hz:=wAa bj;show _ + 1 <= _;first | omega | (simp only [nB];omega) | (simp only [nA,hH,hJ];omega)) rfl (wDP (sz:=1) (fo:=0) (fun _=>rfl) _ _ _ _ uL (by first | omega | (simp only [nB];omega) | (simp only [nA,hH,hJ];omega)) (zA rfl) rfl) rfl ?_
 intro gJ tn
 have tp:SW w [B1,.obj aa (.map ac ae)] U ay [.blk aM 130 ax,.blk b4 118 B0,B1,.obj aa (.map ac ae),aT,aS,bh] gJ:=tn
 let dz:Res:=.blk b8 118 [.slice am ((nG ak aj.from_.toNat (w64 ((gd ak aj.to_.toNat) + aj.count))).length) an,.slice ao aw.length ap]
 have eZ:SW w [B1,.obj aa (.map ac ae)] U ay [.blk aM 130 ax,.blk b4 118 B0,B1,.obj aa (.map ac ae),aT,aS,dz] gJ:=by simpa only [B0,B1,ax,aS,bh,aT,dz,nE] using tp
 refine ZY Z Z Z Z (eZ.ldB (j:=6) Z Z Z zy (v:=.slice ao aw.length ap) Z) ?_
 obtain ⟨wJ,jT⟩:=eZ.rowSome (j:=5) rfl (by rw [wAE (f:=KL.encI) (sz:=1) (fun _=>rfl) aw];have hz:=wAa be;omega)
 refine oR Z (ZO Z Z jT Z zH zC (wBl be) (wBm be)) ?_
 have uM:=wBy (xs:=aw) (wAa be)
 refine yu (j:=5) (vs:=[jV (↑aJ:Int)]) (cs':=hD KL.encI (nG aw aj.from_.toNat (↑aJ:Int))) rfl rfl rfl rfl eZ rfl jT rfl rfl rfl zC (by rw [wAE (f:=KL.encI) (sz:=1) (fun _=>rfl)];have hz:=wAa be;show _ + 1 <= _;first | omega | (simp only [nB];omega) | (simp only [nA,hH,hJ];omega)) rfl (wDP (sz:=1) (fo:=0) (fun _=>rfl) _ _ _ _ uM (by first | omega | (simp only [nB];omega) | (simp only [nA,hH,hJ];omega)) (zA rfl) rfl) rfl ?_
 intro gK tq
 have tu:SW w [B1,.obj aa (.map ac ae)] U ay [.blk aM 130 ax,.blk b4 118 B0,B1,.obj aa (.map ac ae),aT,bv,dz] gK:=tq
 have tv:SW w [B1,.obj aa (.map ac ae)] U ay [.blk aM 130 ax,.blk b4 118 B0,B1,.obj aa (.map ac ae),aT,bv,cG] gK:=by simpa only [B0,B1,ax,aT,cG,bv,dz,nE] using tu
 refine zg ?_
 cases lf
 exact zL ⟨Z,⟨ay,iL,iM,iN,cZ,dS,iO,iP,iQ,iR,iS,(zW _),tv⟩⟩
 rintro xJ wo ⟨lX,mT,mU,mV,mW,mX,mY,mZ,m4,m5,m6,vB,tw⟩
 refine rR fL2 Z (oM Z mX (oA Z Z (zg (ZH ?_))))
 cases lc
 exact zL ⟨rfl,⟨lX,mT,mU,mV,mW,rfl,mY,mZ,m4,m5,m6,vB,(tw.pick [1,2,3,4,5,6] _ (by decide) rfl),(nE.trans cp),(nE.trans cq)⟩⟩
 intro ey vb
 refine cF Z ey (Zl (ZH ?_))
 cases vb
 exact zL ⟨rfl,⟨ay,cj,bF,cm,aX,dR,cn,co,bG,bH,bi,(zW _),(aY.pick [1,2,3,4,5,6] _ (by decide) rfl),cp,cq⟩⟩
 intro au vc
 refine oF Z au (oF Z au (oF Z au (oF Z au (oF Z au (oF Z au (oF Z au (oF Z au (oF Z au (oF Z au (oF Z au (oF Z au (oF Z au (oF Z au (oR Z (zb Z (zd au.out) Z) (eN (zn Z (Zl (ZH ?_))))))))))))))))))
 cases vc
 exact zL ⟨rfl,⟨ay,cj,bF,cm,aX,dR,cn,co,bG,bH,bi,(zW _),(aY.pick [1,2,3,4,5,6] _ (by decide) rfl),cp,cq⟩⟩
 intro ew vd
 refine zn (congrArg nI (nJ.2 ew.out)) (kN (zM (ZA ZB [3,1,3,3,1,3,3,3,1,3,3,1,3,1,3,3,1,3,3,1,3,3] fL22 (by kernel_rfl) ?_)))
 have aZ:=da.drew
 generalize hw_W1538:({ dC with drawn:=dC.drawn + 1 }:World)=gL at aZ ⊢
 refine oR Z (zJ Z aX ZV Z zq) (oL Z (aZ.ldB (j:=6) Z Z Z zy (v:=.slice am ak.length an) Z) (oM Z Z (bnK vd fun _ bf ve=>?_)))
 obtain ⟨wK,a8⟩:=aZ.rowSome (j:=4) rfl (by rw [wAE (f:=KL.encI) (sz:=1) (fun _=>rfl) ak];have hz:=wAa bf;omega)
 refine oR Z (ZO Z Z a8 Z zH zC (wBl bf) (wBm bf)) ?_
 have uN:=wBy (xs:=ak) (wAa bf)
 refine zl rfl rfl rfl rfl (aZ.ldR (j:=4) rfl a8 rfl rfl zG (wAj (sz:=1) (fun _=>rfl) _ _ 0 _ uN (by first | omega | rfl | simp) rfl)) rfl (zY rfl rfl rfl rfl (fun _=>zh rfl rfl rfl) (zr rfl rfl rfl rfl rfl rfl (ifc ve ?_ ?_)))
 intro av vf
 refine rU Z (wT Z av) (zJ Z aX ZV Z zq) (zl Z Z Z (wT Z av) (aZ.ldB (j:=6) Z Z Z zy (v:=.slice am ak.length an) Z) Z (zr Z Z Z (wT Z av) Z Z (rU Z (wT Z av) (ZO Z Z a8 Z zH zC (wBl bf) (wBm bf)) ?_)))
 have uO:=wBy (xs:=ak) (wAa bf)
 refine zl rfl rfl rfl (zF rfl rfl (Zh av.out)) (aZ.ldR (j:=4) rfl a8 rfl rfl zG (wAj (sz:=1) (fun _=>rfl) _ _ 0 _ uO (by first | omega | rfl | simp) rfl)) rfl (zY rfl rfl rfl (zF rfl rfl (Zh av.out)) (fun _=>zJ rfl rfl yR rfl zC) (zl rfl rfl rfl (zF rfl rfl (Zh av.out)) (aZ.ldB (j:=0) rfl rfl rfl zG (v:=jV aj.count) rfl) rfl (zY rfl rfl rfl (zF rfl rfl (Zh av.out)) (fun _=>zf rfl rfl rfl) (zY rfl rfl rfl (zF rfl rfl (Zh av.out)) (fun _=>zJ rfl aX ZV rfl zq) (zl rfl rfl rfl (zF rfl rfl (Zh av.out)) (aZ.ldB (j:=6) rfl rfl rfl zy (v:=.slice am ak.length an) rfl) rfl (zr rfl rfl rfl (zF rfl rfl (Zh av.out)) rfl rfl (bnK vf fun _ bk vg=>zY rfl rfl rfl (zF rfl rfl (Zh av.out)) (fun _=>ZO rfl rfl a8 rfl zH zC (wBl bk) (wBm bk)) ?_)))))))
 have uP:=wBy (xs:=ak) (wAa bk)
 refine zl rfl rfl rfl (zF rfl rfl (Zh av.out)) (aZ.ldR (j:=4) rfl a8 rfl rfl zG (wAj (sz:=1) (fun _=>rfl) _ _ 0 _ uP (by first | omega | rfl | simp) rfl)) rfl (zY rfl rfl rfl (zF rfl rfl (Zh av.out)) (fun _=>zh rfl rfl rfl) (zY rfl rfl rfl rfl (fun _=>zR rfl (Zh av.out) rfl) (eN (ifc vg ?_ ?_))))
 intro eA vh
 refine cT Z eA ?_
 have q:=bnd vh
 obtain ⟨⟨⟩,vr,lg⟩:=q
 try dsimp only at lg
 let aU:Res:=.row am an 3 1 (hD KL.encI (nG ak aj.to_.toNat (w64 ((gd ak aj.from_.toNat) + aj.count))))
 let cH:Res:=.blk b8 118 [.slice am ((nG ak aj.to_.toNat (w64 ((gd ak aj.from_.toNat) + aj.count))).length) an,.slice ao ((nG aw aj.to_.toNat (↑aJ:Int)).length) ap]
 let bw:Res:=.row ao ap 3 1 (hD KL.encI (nG aw aj.to_.toNat (↑aJ:Int)))
 refine yN (fun σ_ w_=>∃ (U_:PHeap),σ_ 0=.pointer (some ⟨ag,0,none⟩)/\σ_ 2=.bool p2/\σ_ 6=.pointer (some ⟨b4,0,none⟩)/\σ_ 9=.pointer (some ⟨b8,0,none⟩)/\σ_ 15=jV aj.to_/\σ_ 54=jV (w64 ((↑(p0.number.length):Int) + 1))/\σ_ 55=jV (↑ba:Int)/\σ_ 60=.slice a5 p0.edges.length a6/\σ_ 61=jV (↑p0.edges.length:Int)/\σ_ 62=jV (↑aJ:Int)/\PHeap.Le ay U_/\SW w [B1,.obj aa (.map ac ae)] U U_ [.blk aM 130 ax,.blk b4 118 B0,B1,.obj aa (.map ac ae),aU,bw,cH] w_) ?_ ?_
 refine yX fun aW aR=>?_
 have iT:aW 0=.pointer (some ⟨ag,0,none⟩):=(aR 0).trans cj
 have iU:aW 2=.bool p2:=(aR 2).trans bF
 have iV:aW 6=.pointer (some ⟨b4,0,none⟩):=(aR 6).trans cm
 have c6:aW 9=.pointer (some ⟨b8,0,none⟩):=(aR 9).trans aX
 have m7:aW 12=jV (↑aJ:Int):=(aR 12).trans rfl
 have m8:aW 13=.pointer (some ⟨aM,0,none⟩):=(aR 13).trans rfl
 have m9:aW 14=jV aj.from_:=(aR 14).trans rfl
 have dT:aW 15=jV aj.to_:=(aR 15).trans rfl
 have iW:aW 54=jV (w64 ((↑(p0.number.length):Int) + 1)):=(aR 54).trans cn
 have iX:aW 55=jV (↑ba:Int):=(aR 55).trans co
 have iY:aW 60=.slice a5 p0.edges.length a6:=(aR 60).trans bG
 have iZ:aW 61=jV (↑p0.edges.length:Int):=(aR 61).trans bH
 have i2:aW 62=jV (↑aJ:Int):=(aR 62).trans bi
 clear aR
 refine bnK vr fun _ bg lh=>ZA ZB [3,1,3,3,2,3,3,1,3,3,1,3,1,3,3,3,0,3,0] (wDe (wLV gCz)) (by kernel_rfl) ?_
 have bo:=aZ.drew
 generalize hw_W1587:({ gL with drawn:=gL.drawn + 1 }:World)=wp at bo ⊢
 refine oR Z (zJ Z c6 ZV Z zq) (oL Z (bo.ldB (j:=6) Z Z Z zy (v:=.slice am ak.length an) Z) (oM Z dT (oR Z (zJ Z c6 ZV Z zq) (oM Z dT (oR Z (zJ Z c6 ZV Z zq) (oL Z (bo.ldB (j:=6) Z Z Z zy (v:=.slice am ak.length an) Z) (oM Z m9 (oR Z (ZO Z Z a8 Z zH zC (wBl bf) (wBm bf)) ?_))))))))
 have uQ:=wBy (xs:=ak) (wAa bf)
 refine zl rfl rfl rfl rfl (bo.ldR (j:=4) rfl a8 rfl rfl zG (wAj (sz:=1) (fun _=>rfl) _ _ 0 _ uQ (by first | omega | rfl | simp) rfl)) rfl (zY rfl rfl rfl rfl (fun _=>zJ rfl m8 yR rfl zC) (zl rfl rfl rfl rfl (bo.ldB (j:=0) rfl rfl rfl zG (v:=jV aj.count) rfl) rfl (zY rfl rfl rfl rfl (fun _=>zf rfl rfl rfl) (zr rfl rfl rfl rfl rfl m7 (zY rfl rfl rfl rfl (fun _=>ZO rfl rfl a8 rfl zH zC (wBl bk) (wBm bk)) (zk ?_ ?_))))))
 refine ZY Z Z Z Z (bo.ldB (j:=6) Z Z Z zy (v:=.slice ao aw.length ap) Z) ?_
 have uR:=wBy (xs:=ak) (wAa bk)
 refine yu (j:=4) (vs:=[jV (w64 ((gd ak aj.from_.toNat) + aj.count))]) (cs':=hD KL.encI (nG ak aj.to_.toNat (w64 ((gd ak aj.from_.toNat) + aj.count)))) rfl rfl rfl rfl bo rfl a8 rfl rfl rfl zC (by rw [wAE (f:=KL.encI) (sz:=1) (fun _=>rfl)];have hz:=wAa bk;show _ + 1 <= _;first | omega | (simp only [nB];omega) | (simp only [nA,hH,hJ];omega)) rfl (wDP (sz:=1) (fo:=0) (fun _=>rfl) _ _ _ _ uR (by first | omega | (simp only [nB];omega) | (simp only [nA,hH,hJ];omega)) (zA rfl) rfl) rfl ?_
 intro gM tx
 have tz:SW w [B1,.obj aa (.map ac ae)] U ay [.blk aM 130 ax,.blk b4 118 B0,B1,.obj aa (.map ac ae),aU,aS,bh] gM:=tx
 let dA:Res:=.blk b8 118 [.slice am ((nG ak aj.to_.toNat (w64 ((gd ak aj.from_.toNat) + aj.count))).length) an,.slice ao aw.length ap]
 have j5:SW w [B1,.obj aa (.map ac ae)] U ay [.blk aM 130 ax,.blk b4 118 B0,B1,.obj aa (.map ac ae),aU,aS,dA] gM:=by simpa only [B0,B1,ax,aS,bh,aU,dA,nE] using tz
 obtain ⟨wL,jU⟩:=j5.rowSome (j:=5) rfl (by rw [wAE (f:=KL.encI) (sz:=1) (fun _=>rfl) aw];have hz:=wAa bg;omega)
 refine oR Z (ZO Z Z jU Z zH zC (wBl bg) (wBm bg)) ?_
 have uS:=wBy (xs:=aw) (wAa bg)
 refine yu (j:=5) (vs:=[jV (↑aJ:Int)]) (cs':=hD KL.encI (nG aw aj.to_.toNat (↑aJ:Int))) rfl rfl rfl rfl j5 rfl jU rfl rfl rfl zC (by rw [wAE (f:=KL.encI) (sz:=1) (fun _=>rfl)];have hz:=wAa bg;show _ + 1 <= _;first | omega | (simp only [nB];omega) | (simp only [nA,hH,hJ];omega)) rfl (wDP (sz:=1) (fo:=0) (fun _=>rfl) _ _ _ _ uS (by first | omega | (simp only [nB];omega) | (simp only [nA,hH,hJ];omega)) (zA rfl) rfl) rfl ?_
 intro gN tA
 have tB:SW w [B1,.obj aa (.map ac ae)] U ay [.blk aM 130 ax,.blk b4 118 B0,B1,.obj aa (.map ac ae),aU,bw,dA] gN:=tA
 have tC:SW w [B1,.obj aa (.map ac ae)] U ay [.blk aM 130 ax,.blk b4 118 B0,B1,.obj aa (.map ac ae),aU,bw,cH] gN:=by simpa only [B0,B1,ax,aU,cH,bw,dA,nE] using tB
 refine zg ?_
 cases lh
 exact zL ⟨Z,⟨ay,iT,iU,iV,c6,dT,iW,iX,iY,iZ,i2,(zW _),tC⟩⟩
 have uT:=wBy (xs:=ak) (wAa bk)
 refine yu (j:=4) (vs:=[jV (w64 ((gd ak aj.from_.toNat) + aj.count))]) (cs':=hD KL.encI (nG ak aj.to_.toNat (w64 ((gd ak aj.from_.toNat) + aj.count)))) rfl rfl rfl rfl bo rfl a8 rfl rfl rfl zC (by rw [wAE (f:=KL.encI) (sz:=1) (fun _=>rfl)];have hz:=wAa bk;show _ + 1 <= _;first | omega | (simp only [nB];omega) | (simp only [nA,hH,hJ];omega)) rfl (wDP (sz:=1) (fo:=0) (fun _=>rfl) _ _ _ _ uT (by first | omega | (simp only [nB];omega) | (simp only [nA,hH,hJ];omega)) (zA rfl) rfl) rfl ?_
 intro gO tD
 have tE:SW w [B1,.obj aa (.map ac ae)] U ay [.blk aM 130 ax,.blk b4 118 B0,B1,.obj aa (.map ac ae),aU,aS,bh] gO:=tD
 let dB:Res:=.blk b8 118 [.slice am ((nG ak aj.to_.toNat (w64 ((gd ak aj.from_.toNat) + aj.count))).length) an,.slice ao aw.length ap]
 have fb:SW w [B1,.obj aa (.map ac ae)] U ay [.blk aM 130 ax,.blk b4 118 B0,B1,.obj aa (.map ac ae),aU,aS,dB] gO:=by simpa only [B0,B1,ax,aS,bh,aU,dB,nE] using tE
 refine ZY Z Z Z Z (fb.ldB (j:=6) Z Z Z zy (v:=.slice ao aw.length ap) Z) ?_
 obtain ⟨wM,jW⟩:=fb.rowSome (j:=5) rfl (by rw [wAE (f:=KL.encI) (sz:=1) (fun _=>rfl) aw];have hz:=wAa bg;omega)
 refine oR Z (ZO Z Z jW Z zH zC (wBl bg) (wBm bg)) ?_
 have uU:=wBy (xs:=aw) (wAa bg)
 refine yu (j:=5) (vs:=[jV (↑aJ:Int)]) (cs':=hD KL.encI (nG aw aj.to_.toNat (↑aJ:Int))) rfl rfl rfl rfl fb rfl jW rfl rfl rfl zC (by rw [wAE (f:=KL.encI) (sz:=1) (fun _=>rfl)];have hz:=wAa bg;show _ + 1 <= _;first | omega | (simp only [nB];omega) | (simp only [nA,hH,hJ];omega)) rfl (wDP (sz:=1) (fo:=0) (fun _=>rfl) _ _ _ _ uU (by first | omega | (simp only [nB];omega) | (simp only [nA,hH,hJ];omega)) (zA rfl) rfl) rfl ?_
 intro gP tF
 have tG:SW w [B1,.obj aa (.map ac ae)] U ay [.blk aM 130 ax,.blk b4 118 B0,B1,.obj aa (.map ac ae),aU,bw,dB] gP:=tF
 have tH:SW w [B1,.obj aa (.map ac ae)] U ay [.blk aM 130 ax,.blk b4 118 B0,B1,.obj aa (.map ac ae),aU,bw,cH] gP:=by simpa only [B0,B1,ax,aU,cH,bw,dB,nE] using tG
 refine zg ?_
 cases lh
 exact zL ⟨Z,⟨ay,iT,iU,iV,c6,dT,iW,iX,iY,iZ,i2,(zW _),tH⟩⟩
 rintro xK wq ⟨lY,n3,n4,n5,n6,n7,n8,n9,oc,od,oe,vC,tI⟩
 refine rR fL2 Z (oM Z n7 (oA Z Z (zg (ZH ?_))))
 cases lg
 exact zL ⟨rfl,⟨lY,n3,n4,n5,n6,rfl,n8,n9,oc,od,oe,vC,(tI.pick [1,2,3,4,5,6] _ (by decide) rfl),(nE.trans cp),(nE.trans cq)⟩⟩
 intro eA vi
 refine cF Z eA (Zl (ZH ?_))
 cases vi
 exact zL ⟨rfl,⟨ay,cj,bF,cm,aX,dR,cn,co,bG,bH,bi,(zW _),(aZ.pick [1,2,3,4,5,6] _ (by decide) rfl),cp,cq⟩⟩
 intro av vj
 refine oF Z av (oF Z av (oF Z av (oF Z av (oF Z av (oF Z av (oF Z av (oF Z av (oF Z av (oF Z av (oF Z av (oF Z av (oF Z av (oF Z av (oR Z (zb Z (zd av.out) Z) (eN (zn Z (Zl (ZH ?_))))))))))))))))))
 cases vj
 exact zL ⟨rfl,⟨ay,cj,bF,cm,aX,dR,cn,co,bG,bH,bi,(zW _),(aZ.pick [1,2,3,4,5,6] _ (by decide) rfl),cp,cq⟩⟩
 rintro xL wr ⟨lZ,og,oh,oi,oj,om,oq,ot,ou,ov,ow,vD,tJ,rN,rO⟩
 refine rR fL2 Z (oR Z (ZS (zf Z ow Z) (congrArg (jV) uW.out)) (oM Z Z (zg ?_)))
 cases k9
 exact zL ⟨Z,⟨lZ,Z,og,oh,oi,oj,om,oq,ot,ou,ov,(lJ.trans vD),tJ,rN,rO⟩⟩
 rintro xM ws ⟨ek,rv,ox,oy,eL,i3,i4,oz,oB,wP,oC,vE,fc,rP,rQ⟩
 have mC:Hid (¬ ((↑(((↑p0.edges.length:Int):Int) - 0).toNat:Int) < (↑p0.edges.length:Int))):=zS (wAh)
 refine sR fL1 Z (oR Z (zh Z rv oC) (eN (zM (cF Z mC (Zf (zx (zx (Zc (zL (sR fL2 Z (oM Z i4 (oR Z (zh Z Z Z) (eN (ifc k8 ?_ ?_))))))))))))))
 intro eB vk
 refine cT Z eB (sR (.fl 0 gCe) Z ?_)
 let bU:List Value:=[.slice am lS.length an,.slice ao lT.length ap]
 refine oL Z (fc.ldBA (j:=5) Z Z i3 Try.isAgg118 Zj (vs:=bU) Z Z) (zV (j:=0) (vs:=bU) Z Z Z Z fc Z eL Z Z Zj (zA Z) Z Z Z ?_)
 intro mi tK
 have j6:SW w [B1,.obj aa (.map ac ae)] U ek [.blk b4 118 bU,B1,.obj aa (.map ac ae),.row am an 3 1 (hD KL.encI lS),.row ao ap 3 1 (hD KL.encI lT),.blk b8 118 bU] mi:=tK
 refine oA Z Z (oA Z Z (eN (zU (zX (zN ?_)))))
 have q:=wAV vk
 obtain ⟨vQ,vl,mE⟩:=q
 obtain rfl:=wAk fu ff (uw vQ mE)
 refine zN (zX (zN ?_))
 cases vl
 exact ⟨rfl,_,(wCT (rs:=[.cell 6 118,.tmp 7,.tmp 8]) (vs:=[.agg bU.toArray,jV 0,.bool true]) ⟨⟨_,eL,(wAy Try.isAgg118 Zj (j6.blkAt (k:=0) rfl) (vs:=bU) rfl rfl)⟩,⟨rfl,⟨rfl,trivial⟩⟩⟩ rfl),ek,_,(j6.pick [3,4,1,2] _ (by decide) rfl),am,an,ao,ap,rfl,rfl⟩
 intro eB vm
 refine cF Z eB (Zl (ZH (zL (rR fL2 Z (oR Z (ZS (zf Z oB Z) (congrArg (jV) uV.out)) (oM Z Z (zg ?_)))))))
 obtain rfl:=nD vm
 exact zL ⟨Z,_,Z,⟨ek,Z,ox,oy,eL,i3,i4,oz,(lI.trans vE),fc,rP,rQ⟩⟩
 rintro ⟨lU,lV,vS⟩ xN wt ⟨gh,rx,wQ,wR,i5,oD,oE,oG,xl,j7,xd,xe⟩ ux
 have lj:=wCV fu ff ux
 try dsimp only at lj
 have mD:Hid (¬ ((↑((w64 ((↑(p0.number.length):Int) + 1):Int) - 0).toNat:Int) < (w64 ((↑(p0.number.length):Int) + 1)))):=zS (wAh)
 refine sR fL1 Z (oR Z (zh Z rx oG) (eN (zM (cF Z mD (Zf (zx (zx (Zc (zL (sR (.fl 0 (.fl 1 (.fx 2 (.fl 3 (.fl 4 .nil)) .stop))) Z ?_))))))))))
 let bV:List Value:=[.slice am lU.length an,.slice ao lV.length ap]
 refine oL Z (j7.ldBA (j:=5) Z Z oD Try.isAgg118 Zj (vs:=bV) Z Z) (oM Z oE (zV (j:=0) (vs:=bV) Z Z Z Z j7 Z i5 Z Z Zj (zA Z) Z Z Z ?_))
 intro mj tL
 have j8:SW w [B1,.obj aa (.map ac ae)] U gh [.blk b4 118 bV,B1,.obj aa (.map ac ae),.row am an 3 1 (hD KL.encI lU),.row ao ap 3 1 (hD KL.encI lV),.blk b8 118 bV] mj:=tL
 refine oA Z Z (oA Z Z (eN (zU ?_)))
 cases lj
 exact ⟨rfl,_,(wCT (rs:=[.cell 6 118,.tmp 7,.tmp 8]) (vs:=[.agg bV.toArray,jV vS,.bool false]) ⟨⟨_,i5,(wAy Try.isAgg118 Zj (j8.blkAt (k:=0) rfl) (vs:=bV) rfl rfl)⟩,⟨rfl,⟨rfl,trivial⟩⟩⟩ rfl),gh,_,(j8.pick [3,4,1,2] _ (by decide) rfl),am,an,ao,ap,rfl,rfl⟩
end Go.Proofs.Ytlnfbjphfoipaaa
