import Derived.Test.YtlnfbjphfoipaaaY7
import Derived.Test.YtlnfbjphfoipaaaY6
set_option linter.all false
open List renaming flatMap->hH,getElem_cons_succ->nA,getElem_cons_zero->nB,getElem_toArray->nD,length_set->nG,set->nH
open Int renaming toNat_natCast->nE,eq_ofNat_of_zero_le->nJ
open Option.some renaming inj->nI
open Go.Value renaming bool->nK
open Bool renaming eq_false_iff->nL
namespace Go.Proofs.Ytlnfbjphfoipaaa
open Go.KL
def gBt:Sch:=.fx 8 (.fx 9 .nil .stop) .stop
def gBu:Sch:=.fx 4 (.fl 5 .nil) .stop
def gBv:Sch:=.fx 7 (.fx 8 .nil .stop) .stop
def gBw:Sch:=.fx 6 (.fx 8 .nil .stop) .stop
def gBx:Sch:=.fl 0 (.fx 1 .nil .stop)
def gBy:Sch:=.fx 0 (.fx 1 .nil .stop) .stop
def gBz:Sch:=.fl 14 (.fx 16 .nil .stop)
def gCa:Sch:=.fl 17 (.fx 18 .nil .stop)
def gCb:Sch:=.fx 1 (.fl 2 (.fl 3 .nil)) .stop
def gCc:Sch:=.fx 2 (.fx 3 (.fl 4 .nil) .stop) .stop
def gCd:Sch:=.fx 3 gBu .stop
def gCe:Sch:=.fl 0 (.fx 1 (.fx 2 .nil .stop) .stop)
def gCf:Sch:=.fl 22 (.fl 23 (.fx 24 .nil .stop))
def gCg:Sch:=.fx 0 (.fl 1 (.fl 2 .nil)) .stop
def gCh:Sch:=.fx 7 (.fl 8 (.fl 9 .nil)) .stop
def gCi:Sch:=.fl 14 (.fx 15 (.fx 16 .nil .stop) .stop)
def gCj:Sch:=.fx 13 gBz .stop
def gCk:Sch:=.fx 3 (.fl 4 (.fl 5 .nil)) .stop
def gCl:Sch:=.fl 4 (.fl 5 gBw)
def gCm:Sch:=.fx 0 (.fl 5 gBw) .stop
def gCn:Sch:=.fx 21 gCf .stop
def gCo:Sch:=.fl 0 gCb
def gCp:Sch:=.fl 0 (.fl 1 (.fx 2 (.fl 3 .nil) .stop))
def gCq:Sch:=.fx 7 gCj .stop
def gCr:Sch:=.fx 0 (.fx 1 gCc .stop) .stop
def gCs:Sch:=.fl 5 (.fx 6 gBv (.fx 7 gBw .stop))
def gCt:Sch:=.fx 3 gCl .stop
def gCu:Sch:=.fx 13 gCi (.fx 15 gCj .stop)
def gCv:Sch:=.fx 6 (.fl 12 gCj) .stop
def gCw:Sch:=.fx 4 (.fx 16 gCa .stop) (.fx 16 (.fx 4 gCa .stop) .stop)
def gCx:Sch:=.fl 0 (.fl 1 (.fx 2 (.fx 3 (.fx 4 .nil .stop) .stop) .stop))
def gCy:Sch:=.fx 2 gCt .stop
def gCz:Sch:=.fx 1 gCt .stop
def gDa:Sch:=.fx 0 gCv .stop
def gDb:Sch:=.fl 1 (.fl 2 (.fx 0 (.fl 3 (.fx 4 (.fx 5 .nil .stop) .stop)) (.fx 4 (.fx 0 (.fl 3 (.fx 5 .nil .stop)) .stop) .stop)))
def gDc:Sch:=.fl 0 (.fl 2 (.fx 1 gCd (.fx 3 (.fx 1 gBu .stop) .stop)))
def gDd:Sch:=.fx 3 (.fl 4 gCs) (.fx 7 gCt .stop)
def gDe:Sch:=.fl 4 (.fx 0 gCs (.fx 7 gCm .stop))
def gDf:Sch:=.fx 0 gCt (.fx 3 (.fl 4 gCm) .stop)
def gDg:Sch:=.fx 6 (.fl 12 gCu) (.fx 15 gCv .stop)
def gDh:Sch:=.fx 6 (.fl 12 gCq) (.fx 7 gCv .stop)
def gDi:Sch:=.fx 2 gDd (.fx 7 gCy .stop)
def gDj:Sch:=.fx 1 gDd (.fx 7 gCz .stop)
def gDk:Sch:=.fx 1 gCy (.fx 2 gCz .stop)
def gDl:Sch:=.fx 0 gCy (.fx 2 gDf .stop)
def gDm:Sch:=.fx 0 gCz (.fx 1 gDf .stop)
def gDn:Sch:=.fx 0 gDd (.fx 3 gDe (.fx 7 gDf .stop))
set_option maxHeartbeats 4000000
theorem wHE (p0:wAB) (az:Option Addr) (aX:Nat) (aW:Option Addr) (aY:Nat) (aj:Option Addr) (ak:Nat) (ap:Option Addr) (aq:Nat) (p1:wAK) (w:World) (U:PHeap) (hS:St0 w U []) (bE:Sl U 1 az aX p0.Starts.length (hH KL.encI p0.Starts)) (bF:Sl U 2 aW aY p0.Splits.length (hH wAJ p0.Splits)) (bd:Sl U 3 aj ak p0.Clocks.length (hH wAA p0.Clocks)) (bs:Sl U 4 ap aq p0.Readings.length (hH wAH p0.Readings)) {r:Int × Int} (hm:wCm p0 p1=some r):Gv Try.prog 119 [.agg #[.slice az p0.Starts.length aX,.slice aW p0.Splits.length aY,.slice aj p0.Clocks.length ak,.slice ap p0.Readings.length aq],.agg #[jV p1.Kind,jV p1.Skier,jV p1.Index,.bool p1.Up]] w (wCh w [] U (fun U_ L_ v=>v=.tuple #[jV r.1,jV r.2]/\L_=[])):=by
 unfold wCm at hm
 refine Gv.of Try.func119 Z Try.ntmps119 Try.results119 Z (sR (.fx 0 gCb .stop) Z ?_)
 let B0:List Value:=[.slice az p0.Starts.length aX,.slice aW p0.Splits.length aY,.slice aj p0.Clocks.length ak,.slice ap p0.Readings.length aq]
 refine ZN (cs:=B0) rfl rfl rfl rfl rfl rfl (by rfl) hS ?_
 intro W1 b2 br
 let B1:List Value:=[jV p1.Kind,jV p1.Skier,jV p1.Index,.bool p1.Up]
 refine ZN (cs:=B1) rfl rfl rfl rfl rfl rfl (by rfl) br ?_
 intro W5 b6 am
 refine oA Z Z (oA Z Z (eN (sR (wHf (.fx 6 (.fx 7 .nil .stop) .stop)) Z (oR Z (zF Z Z zN Z yK) (oL Z (am.ldB (j:=1) Z Z Z Try.isAgg26 (v:=.slice ap p0.Readings.length aq) Z) (oR Z (zF Z Z ZJ Z zB) (oL Z (am.ldB (j:=0) Z Z Z zE (v:=jV p1.Index) Z) (bnK hm fun x9 av bt=>?_))))))))
 have q:=bs.el (fun _=>rfl) (wAW av)
 obtain ⟨bB,bG,bh,bk⟩:=q
 refine oR Z (ZQ Z Z bh Z Zx Zj (wBM av) (wBP av)) (oL Z (am.ldCA (f:=0) bk Z Z Try.isAgg39 Zj (us:=[jV x9.Skier,jV x9.Mat,jV x9.Clock,jV x9.Time]) Z Z) (zS (cs:=[jV 0,jV 0,jV 0,jV 0]) Z Z Z Z Z Zr Z am ?_))
 intro bw be bo
 let B2:List Value:=[jV x9.Skier,jV x9.Mat,jV x9.Clock,jV x9.Time]
 refine zV (j:=0) (vs:=B2) Z Z Z Z bo Z Z Z Z Zj (zA Z) Z Z Z ?_
 intro au bp
 have bq:sW w U U [.blk be 39 B2,.blk b6 78 B1,.blk b2 28 B0] au:=bp
 refine eN (zK (ZA ZB [3,1,3,1,3,1,3,3,1,3,3,1,3,1,3,3,1,3,1,3,3,3] fL22 (by kernel_rfl) ?_))
 have ae:=bq.drew
 generalize hw_W24:({ au with drawn:=au.drawn + 1 }:World)=bz at ae ⊢
 refine oR Z (zF Z Z zx Z zB) (oL Z (ae.ldB (j:=0) Z Z Z zE (v:=jV x9.Time) Z) (oR Z (zF Z Z zN Z Ze) (oL Z (ae.ldB (j:=2) Z Z Z Zw (v:=.slice aj p0.Clocks.length ak) Z) (oR Z (zF Z Z zx Z zB) (oL Z (ae.ldB (j:=0) Z Z Z zE (v:=jV x9.Clock) Z) (bnK bt fun x25 ai bu=>?_))))))
 have q:=bd.el (fun _=>rfl) (wAW ai)
 obtain ⟨bC,bH,bi,bm⟩:=q
 refine oR Z (ZQ Z Z bi Z ZO Zh (wBM ai) (wBP ai)) (oR Z (zF Z Z Zf Z zB) (oL Z (ae.ldC (f:=2) bm (v:=jV x25.Error) Z Z zE Z) (oR Z (zW Z Z Z) (oR Z (zF Z Z zN Z Ze) (oL Z (ae.ldB (j:=2) Z Z Z Zw (v:=.slice aj p0.Clocks.length ak) Z) (oR Z (zF Z Z zx Z zB) (oL Z (ae.ldB (j:=0) Z Z Z zE (v:=jV x9.Clock) Z) ?_)))))))
 have q:=bd.el (fun _=>rfl) (wAW ai)
 obtain ⟨bD,bI,bj,bn⟩:=q
 refine oR Z (ZQ Z Z bj Z ZO Zh (wBM ai) (wBP ai)) (oR Z (zF Z Z Zf Z zB) (oL Z (ae.ldC (f:=2) bn (v:=jV x25.Error) Z Z zE Z) (oR Z (zF Z Z zx Z zB) (oL Z (ae.ldB (j:=0) Z Z Z zE (v:=jV x9.Time) Z) (oR Z (yN Z Z Z) (oA Z Z (oA Z Z (eN (zU ?_)))))))))
 cases bu
 exact ⟨rfl,_,(wHL rfl rfl),U,_,(ae.pick [] _ (by decide) rfl),rfl,rfl⟩
theorem wBS  (w:World) (U:PHeap) (hS:St0 w U [])  {r:Unit} (hm:wBs =some r):Gv Try.prog 103 [] w (wCh w [] U (fun U_ L_ v=>v=.agg #[.func (.func 108) #[] #[],.func (.func 109) #[] #[],.func (.func 110) #[] #[],.func (.func 111) #[] #[],.func (.func 112) #[] #[],.func (.func 113) #[] #[],.func (.func 114) #[] #[],.func (.func 115) #[] #[],.func (.func 116) #[] #[],.func (.func 117) #[] #[],.func (.func 118) #[] #[],.func (.func 119) #[] #[]]/\L_=[])):=by
 unfold wBs at hm
 refine Gv.of Try.func103 Z Try.ntmps103 Try.results103 Z (sR (.fx 0 .nil .stop) Z ?_)
 let B0:List Value:=[.nilFunc,.nilFunc,.nilFunc,.nilFunc,.nilFunc,.nilFunc,.nilFunc,.nilFunc,.nilFunc,.nilFunc,.nilFunc,.nilFunc]
 refine zS (cs:=B0) Z Z Z Z Z Try.zeroValue170 Z hS ?_
 intro W1 b2 au
 refine eN (sR (wKS (.fx 5 .nil .stop)) Z ?_)
 let B1:List Value:=[.nilFunc,.nilFunc,.nilFunc]
 let B2:List Value:=[.func (.func 108) #[] #[],.func (.func 109) #[] #[],.func (.func 110) #[] #[]]
 refine oR Z (zy (pv:=[(0,.func (.func 108) #[] #[]),(1,.func (.func 109) #[] #[]),(2,.func (.func 110) #[] #[])]) (z:=B1) (cs:=B2) Z (wAD Z (wAD Z (wAD Z wAO))) Zm wFY Z Z) ?_
 let B3:List Value:=[.func (.func 111) #[] #[],.func (.func 112) #[] #[],.func (.func 113) #[] #[]]
 refine oR Z (zy (pv:=[(0,.func (.func 111) #[] #[]),(1,.func (.func 112) #[] #[]),(2,.func (.func 113) #[] #[])]) (z:=B1) (cs:=B3) Z (wAD Z (wAD Z (wAD Z wAO))) Zm wFY Z Z) ?_
 let B4:List Value:=[.func (.func 114) #[] #[],.func (.func 115) #[] #[],.func (.func 116) #[] #[]]
 refine oR Z (zy (pv:=[(0,.func (.func 114) #[] #[]),(1,.func (.func 115) #[] #[]),(2,.func (.func 116) #[] #[])]) (z:=B1) (cs:=B4) Z (wAD Z (wAD Z (wAD Z wAO))) Zm wFY Z Z) ?_
 let B5:List Value:=[.func (.func 117) #[] #[],.func (.func 118) #[] #[],.func (.func 119) #[] #[]]
 refine oR Z (zy (pv:=[(0,.func (.func 117) #[] #[]),(1,.func (.func 118) #[] #[]),(2,.func (.func 119) #[] #[])]) (z:=B1) (cs:=B5) Z (wAD Z (wAD Z (wAD Z wAO))) Zm wFY Z Z) ?_
 let B6:List Value:=[.func (.func 108) #[] #[],.func (.func 109) #[] #[],.func (.func 110) #[] #[],.func (.func 111) #[] #[],.func (.func 112) #[] #[],.func (.func 113) #[] #[],.func (.func 114) #[] #[],.func (.func 115) #[] #[],.func (.func 116) #[] #[],.func (.func 117) #[] #[],.func (.func 118) #[] #[],.func (.func 119) #[] #[]]
 refine oR Z (Runs.buildA (pv:=[(0,.agg B2.toArray),(1,.agg B3.toArray),(2,.agg B4.toArray),(3,.agg B5.toArray)]) (z:=B0) (cs:=B6) Z (wAD Z (wAD Z (wAD Z (wAD Z wAO)))) Try.zeroValue170 Zu ZY Z Z) (zV (j:=0) (vs:=B6) Z Z Z Z au Z Z Z Z Try.sizeOf170 (zA Z) Z Z Z ?_)
 intro W5 av
 have am:sW w U U [.blk b2 170 B6] W5:=av
 refine eN (zU ?_)
 cases hm
 exact ⟨rfl,_,(wIl (v:=.agg B6.toArray) ⟨⟨_,rfl,(wBB Try.isAgg170 Try.sizeOf170 (am.blkAt (k:=0) rfl) (vs:=B6) rfl rfl)⟩,trivial⟩),U,_,(am.pick [] _ (by decide) rfl),rfl,rfl⟩
theorem wFq (p0:wAB) (bD:Option Addr) (bH:Nat) (bE:Option Addr) (bI:Nat) (bF:Option Addr) (bJ:Nat) (bG:Option Addr) (bK:Nat) (p1:wAK) (w:World) (U:PHeap) (hS:St0 w U []) (cS:Sl U 1 bD bH p0.Starts.length (hH KL.encI p0.Starts)) (cU:Sl U 2 bE bI p0.Splits.length (hH wAJ p0.Splits)) (cV:Sl U 3 bF bJ p0.Clocks.length (hH wAA p0.Clocks)) (cW:Sl U 4 bG bK p0.Readings.length (hH wAH p0.Readings)) {r:wAC × wAC × Int} (hm:wBT p0 p1=some r):Gv Try.prog 70 [.agg #[.slice bD p0.Starts.length bH,.slice bE p0.Splits.length bI,.slice bF p0.Clocks.length bJ,.slice bG p0.Readings.length bK],.agg #[jV p1.Kind,jV p1.Skier,jV p1.Index,.bool p1.Up]] w (wCh w [] U (fun U_ L_ v=>v=.tuple #[.agg #[jV r.1.skier,jV r.1.mat],.agg #[jV r.2.1.skier,jV r.2.1.mat],jV r.2.2]/\L_=[])):=by
 unfold wBT at hm
 refine Gv.of Try.func70 Z Try.ntmps70 Try.results70 Z ?_
 by_cases c1:p1.Kind=0
 have gt:=hm;rw [if_pos c1] at gt
 refine sR gCr Z ?_
 let B0:List Value:=[.slice bD p0.Starts.length bH,.slice bE p0.Splits.length bI,.slice bF p0.Clocks.length bJ,.slice bG p0.Readings.length bK]
 refine ZN (cs:=B0) rfl rfl rfl rfl rfl rfl (by rfl) hS ?_
 intro W6 b7 oi
 let B1:List Value:=[jV p1.Kind,jV p1.Skier,jV p1.Index,.bool p1.Up]
 refine ZN (cs:=B1) rfl rfl rfl rfl rfl rfl (by rfl) oi ?_
 intro pu bk jY
 let B2:List Value:=[jV 0,jV 0]
 refine zS (cs:=B2) Z Z Z Z Z zf Z jY ?_
 intro pz bb k9
 refine zS (cs:=B2) Z Z Z Z Z zf Z k9 ?_
 intro eD bf lm
 refine oA Z Z (eN ?_)
 have q:=bnd gt
 obtain ⟨⟨⟩,oB,gb⟩:=q
 try dsimp only at gb
 let B3:List Value:=[.func (.func 108) #[] #[],.func (.func 109) #[] #[],.func (.func 110) #[] #[]]
 refine yD (fun σ_ w_=>∃ (U_:PHeap) (bM:Nat),σ_ 2=.pointer (some ⟨b7,0,none⟩)/\σ_ 3=.pointer (some ⟨bk,0,none⟩)/\σ_ 4=.pointer (some ⟨bb,0,none⟩)/\σ_ 5=.pointer (some ⟨bf,0,none⟩)/\σ_ 7=.pointer (some ⟨bM,0,none⟩)/\PHeap.Le U U_/\sW w U U_ [.blk bf 104 B2,.blk bb 104 B2,.blk bk 78 B1,.blk b7 28 B0,.blk bM 169 B3] w_) ?_ ?_
 have q:=bnd oB
 obtain ⟨⟨⟩,fy,d9⟩:=q
 try dsimp only at d9
 refine ZA ZB [2,3,1,3,2,0] gDb (by kernel_rfl) ?_
 have cM:=lm.drew
 generalize hw_W45:({ eD with drawn:=eD.drawn + 1 }:World)=iB at cM ⊢
 refine oR Z (zF Z Z ZJ Z Try.sizeOf74) (oL Z (cM.ldB (j:=2) Z Z Z Try.isAgg74 (v:=jV p1.Kind) Z) (zh ?_ ?_))
 refine zM 0 Z Z Z Z (zL Z Z yP zQ Z) cM (fun hs=>wBS iB U hs fy) (.inr Z) ?_
 rintro dy pg qt iI oU mA ⟨rfl,rfl⟩
 have mB:sW w U dy [.blk bf 104 B2,.blk bb 104 B2,.blk bk 78 B1,.blk b7 28 B0] iI:=mA
 refine zg rfl rfl rfl rfl (fun _=>(Runs.ixA (i:=0) rfl rfl (congrArg (jV) c1) Zu ZY (by decide) (by decide) (wCS yX ZY rfl))) (zS (cs:=[.nilFunc,.nilFunc,.nilFunc]) rfl rfl rfl rfl rfl Zm rfl mB ?_)
 intro pR eQ mK
 refine zV (j:=0) (vs:=B3) Z Z Z Z mK Z Z Z Z ZY (zA Z) Z Z Z ?_
 intro iQ mP
 have mT:sW w U dy [.blk eQ 169 B3,.blk bf 104 B2,.blk bb 104 B2,.blk bk 78 B1,.blk b7 28 B0] iQ:=mP
 refine zi ?_
 cases d9
 exact zH ⟨rfl,⟨dy,eQ,rfl,rfl,rfl,rfl,rfl,oU,(mT.pick [1,2,3,4,0] _ (by decide) rfl)⟩⟩
 refine zS (cs:=[.nilFunc,.nilFunc,.nilFunc]) Z Z Z Z Z Zm Z cM ?_
 intro iW dJ m9
 refine zM 0 Z Z Z Z (zL Z Z yP zQ Z) m9 (fun hs=>wBS iW U hs fy) (.inr Z) ?_
 rintro dB pn qz i8 oY od ⟨rfl,rfl⟩
 have oe:sW w U dB [.blk dJ 169 [.nilFunc,.nilFunc,.nilFunc],.blk bf 104 B2,.blk bb 104 B2,.blk bk 78 B1,.blk b7 28 B0] i8:=od
 refine zg rfl rfl rfl rfl (fun _=>(Runs.ixA (i:=0) rfl rfl (congrArg (jV) c1) Zu ZY (by decide) (by decide) (wCS yX ZY rfl))) (zV (j:=0) (vs:=B3) rfl rfl rfl rfl oe rfl rfl rfl rfl ZY (zA rfl) rfl rfl rfl ?_)
 intro i9 og
 have oh:sW w U dB [.blk dJ 169 B3,.blk bf 104 B2,.blk bb 104 B2,.blk bk 78 B1,.blk b7 28 B0] i9:=og
 refine zi ?_
 cases d9
 exact zH ⟨rfl,⟨dB,dJ,rfl,rfl,rfl,rfl,rfl,oY,(oh.pick [1,2,3,4,0] _ (by decide) rfl)⟩⟩
 rintro qJ ja ⟨gQ,bM,fh,dR,cf,bY,fj,dg,cR⟩
 refine sR (wEi (.fx 4 (wOq gBt) .stop)) Z (oR Z (zF Z fj yA Z Try.sizeOf166) (oL Z (cR.ldB (j:=4) Z Z Z Try.isAgg166 (v:=.func (.func 109) #[] #[]) Z) (oL Z (cR.ldBA (j:=3) Z Z fh ZK zm (vs:=B0) Z Z) (oL Z (cR.ldBA (j:=2) Z Z dR yQ yF (vs:=B1) Z Z) ?_))))
 have fM:=cS.le dg
 have fN:=cU.le dg
 have fO:=cV.le dg
 have fP:=cW.le dg
 have q:=bnd gb
 obtain ⟨⟨x92,x93⟩,jQ,gz⟩:=q
 try dsimp only at gz
 refine zM 0 Z Z Z Z (zL Z Z Try.call109 (zC Z (zC Z zQ)) Z) cR (fun hs=>wHV p0 bD bH bE bI bF bJ bG bK p1 ja gQ hs fM fN fO fP jQ) (.inr Z) ?_
 rintro cC pq qB jb cX jR ⟨rfl,rfl⟩
 have jS:sW w U cC [.blk bf 104 B2,.blk bb 104 B2,.blk bk 78 B1,.blk b7 28 B0,.blk bM 169 B3] jb:=jR
 refine oM Z Z (oR Z (zX Z Z (v:=.agg #[jV x92.skier,jV x92.mat]) Z) (oR Z (zX Z Z (v:=.agg #[jV x93.skier,jV x93.mat]) Z) ?_))
 let B4:List Value:=[jV x92.skier,jV x92.mat]
 refine zV (j:=1) (vs:=B4) Z Z Z Z jS Z cf Z Z zG (zA Z) Z Z Z ?_
 intro gR jU
 have jW:sW w U cC [.blk bf 104 B2,.blk bb 104 B4,.blk bk 78 B1,.blk b7 28 B0,.blk bM 169 B3] gR:=jU
 let B5:List Value:=[jV x93.skier,jV x93.mat]
 refine zV (j:=0) (vs:=B5) Z Z Z Z jW Z bY Z Z zG (zA Z) Z Z Z ?_
 intro eu jX
 have cE:sW w U cC [.blk bf 104 B5,.blk bb 104 B4,.blk bk 78 B1,.blk b7 28 B0,.blk bM 169 B3] eu:=jX
 refine eN (sR (wEi (.fx 4 (wLu (.nil)) .stop)) Z (oR Z (zF Z fj yA Z Try.sizeOf167) (oL Z (cE.ldB (j:=4) Z Z Z Try.isAgg167 (v:=.func (.func 110) #[] #[]) Z) (oL Z (cE.ldBA (j:=3) Z Z fh ZK zm (vs:=B0) Z Z) (oL Z (cE.ldBA (j:=2) Z Z dR yQ yF (vs:=B1) Z Z) ?_)))))
 have jq:=fM.le cX
 have jr:=fN.le cX
 have jt:=fO.le cX
 have ju:=fP.le cX
 have q:=bnd gz
 obtain ⟨⟨x113,x114⟩,jv,fU⟩:=q
 try dsimp only at fU
 refine zM 0 Z Z Z Z (zL Z Z Try.call110 (zC Z (zC Z zQ)) Z) cE (fun hs=>wHW p0 bD bH bE bI bF bJ bG bK p1 eu cC hs jq jr jt ju jv) (.inr Z) ?_
 rintro bQ o0 qi dC p7 jZ ⟨rfl,rfl⟩
 have cn:sW w U bQ [.blk bf 104 B5,.blk bb 104 B4,.blk bk 78 B1,.blk b7 28 B0,.blk bM 169 B3] dC:=jZ
 refine oM Z Z (oR Z (zX Z Z (v:=jV x113) Z) (oR Z (zX Z Z (v:=jV x114) Z) (oA Z Z (oA Z Z (eN (zK (sR fL3 Z (oR Z (zF Z dR ZJ Z Try.sizeOf4) (oL Z (cn.ldB (j:=2) Z Z Z Try.isAgg4 (v:=.bool p1.Up) Z) (oR Z (Zc Z Z) (eN (ifc fU ?_ ?_))))))))))))
 intro dK oj
 refine ZU (nC dK.out) (kN ?_)
 have q:=bnd oj
 obtain ⟨⟨⟩,gA,fV⟩:=q
 try dsimp only at fV
 refine yD (fun σ_ w_=>∃ (U_:PHeap),σ_ 4=.pointer (some ⟨bb,0,none⟩)/\σ_ 5=.pointer (some ⟨bf,0,none⟩)/\σ_ 6=jV x113/\PHeap.Le bQ U_/\sW w U U_ [.blk bf 104 B5,.blk bb 104 B4,.blk bk 78 B1,.blk b7 28 B0,.blk bM 169 B3] w_) ?_ ?_
 refine ZA ZB [1,2,3,0,0,3] gDc (by kernel_rfl) ?_
 have cp:=cn.drew
 generalize hw_W136:({ dC with drawn:=dC.drawn + 1 }:World)=py at cp ⊢
 refine oL Z (cp.ldBA (j:=1) Z Z cf ze zG (vs:=B4) Z Z) (oM Z Z (zh ?_ ?_))
 refine ZD Z Z Z Z (cp.ldBA (j:=0) Z Z bY ze zG (vs:=B5) Z Z) (zV (j:=1) (vs:=B4) Z Z Z Z cp Z cf Z Z zG (zA Z) Z Z Z ?_)
 intro gS j0
 have j3:sW w U bQ [.blk bf 104 B5,.blk bb 104 B4,.blk bk 78 B1,.blk b7 28 B0,.blk bM 169 B3] gS:=j0
 refine zV (j:=0) (vs:=B5) Z Z Z Z j3 Z bY Z Z zG (zA Z) Z Z Z ?_
 intro gT j4
 have j5:sW w U bQ [.blk bf 104 B5,.blk bb 104 B4,.blk bk 78 B1,.blk b7 28 B0,.blk bM 169 B3] gT:=j4
 refine oA Z Z (zi ?_)
 cases gA
 exact zH ⟨Z,⟨bQ,cf,bY,Z,(zO _),j5⟩⟩
 refine zV (j:=1) (vs:=B4) Z Z Z Z cp Z cf Z Z zG (zA Z) Z Z Z ?_
 intro gU j6
 have fQ:sW w U bQ [.blk bf 104 B5,.blk bb 104 B4,.blk bk 78 B1,.blk b7 28 B0,.blk bM 169 B3] gU:=j6
 refine ZD Z Z Z Z (fQ.ldBA (j:=0) Z Z bY ze zG (vs:=B5) Z Z) (zV (j:=0) (vs:=B5) Z Z Z Z fQ Z bY Z Z zG (zA Z) Z Z Z ?_)
 intro gW j7
 have j8:sW w U bQ [.blk bf 104 B5,.blk bb 104 B4,.blk bk 78 B1,.blk b7 28 B0,.blk bM 169 B3] gW:=j7
 refine oA Z Z (zi ?_)
 cases gA
 exact zH ⟨Z,⟨bQ,cf,bY,Z,(zO _),j8⟩⟩
 rintro qC pB ⟨gH,jd,je,jf,p8,dS⟩
 refine zU ?_
 cases fV
 exact ⟨rfl,_,(wDt (rs:=[.cell 4 104,.cell 5 104,.tmp 6]) (vs:=[.agg B4.toArray,.agg B5.toArray,jV x113]) ⟨⟨_,jd,(wBB ze zG (dS.blkAt (k:=1) rfl) (vs:=B4) rfl rfl)⟩,⟨⟨_,je,(wBB ze zG (dS.blkAt (k:=0) rfl) (vs:=B5) rfl rfl)⟩,⟨jf,trivial⟩⟩⟩ rfl),gH,_,(dS.pick [] _ (by decide) rfl),rfl,rfl⟩
 intro dK om
 refine ZP (nF (dK.out)) (sR (wCz gCd) Z (oL Z (cn.ldBA (j:=0) Z Z bY ze zG (vs:=B5) Z Z) (oL Z (cn.ldBA (j:=1) Z Z cf ze zG (vs:=B4) Z Z) (oM Z Z (zV (j:=1) (vs:=B5) Z Z Z Z cn Z cf Z Z zG (zA Z) Z Z Z ?_)))))
 intro gX j9
 have lc:sW w U bQ [.blk bf 104 B5,.blk bb 104 B5,.blk bk 78 B1,.blk b7 28 B0,.blk bM 169 B3] gX:=j9
 refine zV (j:=0) (vs:=B4) Z Z Z Z lc Z bY Z Z zG (zA Z) Z Z Z ?_
 intro gZ lf
 have dT:sW w U bQ [.blk bf 104 B4,.blk bb 104 B5,.blk bk 78 B1,.blk b7 28 B0,.blk bM 169 B3] gZ:=lf
 refine oA Z Z (eN (zU (zJ ?_)))
 cases om
 exact ⟨rfl,_,(wDt (rs:=[.cell 4 104,.cell 5 104,.tmp 6]) (vs:=[.agg B5.toArray,.agg B4.toArray,jV x114]) ⟨⟨_,cf,(wBB ze zG (dT.blkAt (k:=1) rfl) (vs:=B5) rfl rfl)⟩,⟨⟨_,bY,(wBB ze zG (dT.blkAt (k:=0) rfl) (vs:=B4) rfl rfl)⟩,⟨rfl,trivial⟩⟩⟩ rfl),bQ,_,(dT.pick [] _ (by decide) rfl),rfl,rfl⟩
 by_cases c2:p1.Kind=1
 have fW:=hm;rw [if_neg c1,if_pos c2] at fW
 refine sR gCr Z ?_
 let B6:List Value:=[.slice bD p0.Starts.length bH,.slice bE p0.Splits.length bI,.slice bF p0.Clocks.length bJ,.slice bG p0.Readings.length bK]
 refine ZN (cs:=B6) rfl rfl rfl rfl rfl rfl (by rfl) hS ?_
 intro pC bm lg
 let B7:List Value:=[jV p1.Kind,jV p1.Skier,jV p1.Index,.bool p1.Up]
 refine ZN (cs:=B7) rfl rfl rfl rfl rfl rfl (by rfl) lg ?_
 intro pD bn lh
 let B8:List Value:=[jV 0,jV 0]
 refine zS (cs:=B8) Z Z Z Z Z zf Z lh ?_
 intro pE bd li
 refine zS (cs:=B8) Z Z Z Z Z zf Z li ?_
 intro ey be lj
 refine oA Z Z (eN ?_)
 have q:=bnd fW
 obtain ⟨⟨⟩,oz,fY⟩:=q
 try dsimp only at fY
 let B9:List Value:=[.func (.func 111) #[] #[],.func (.func 112) #[] #[],.func (.func 113) #[] #[]]
 refine yD (fun σ_ w_=>∃ (U_:PHeap) (bL:Nat),σ_ 2=.pointer (some ⟨bm,0,none⟩)/\σ_ 3=.pointer (some ⟨bn,0,none⟩)/\σ_ 4=.pointer (some ⟨bd,0,none⟩)/\σ_ 5=.pointer (some ⟨be,0,none⟩)/\σ_ 7=.pointer (some ⟨bL,0,none⟩)/\PHeap.Le U U_/\sW w U U_ [.blk be 104 B8,.blk bd 104 B8,.blk bn 78 B7,.blk bm 28 B6,.blk bL 169 B9] w_) ?_ ?_
 have q:=bnd oz
 obtain ⟨⟨⟩,fm,d5⟩:=q
 try dsimp only at d5
 refine ZA ZB [2,3,1,3,2,0] gDb (by kernel_rfl) ?_
 have cG:=lj.drew
 generalize hw_W204:({ ey with drawn:=ey.drawn + 1 }:World)=g6 at cG ⊢
 refine oR Z (zF Z Z ZJ Z Try.sizeOf74) (oL Z (cG.ldB (j:=2) Z Z Z Try.isAgg74 (v:=jV p1.Kind) Z) (zh ?_ ?_))
 refine zM 0 Z Z Z Z (zL Z Z yP zQ Z) cG (fun hs=>wBS g6 U hs fm) (.inr Z) ?_
 rintro du o3 qj g7 oI ln ⟨rfl,rfl⟩
 have lp:sW w U du [.blk be 104 B8,.blk bd 104 B8,.blk bn 78 B7,.blk bm 28 B6] g7:=ln
 refine zg rfl rfl rfl rfl (fun _=>(Runs.ixA (i:=1) rfl rfl (congrArg (jV) c2) Zu ZY (by decide) (by decide) (wCS yX ZY rfl))) (zS (cs:=[.nilFunc,.nilFunc,.nilFunc]) rfl rfl rfl rfl rfl Zm rfl lp ?_)
 intro pF eL lq
 refine zV (j:=0) (vs:=B9) Z Z Z Z lq Z Z Z Z ZY (zA Z) Z Z Z ?_
 intro g8 ls
 have lu:sW w U du [.blk eL 169 B9,.blk be 104 B8,.blk bd 104 B8,.blk bn 78 B7,.blk bm 28 B6] g8:=ls
 refine zi ?_
 cases d5
 exact zH ⟨rfl,⟨du,eL,rfl,rfl,rfl,rfl,rfl,oI,(lu.pick [1,2,3,4,0] _ (by decide) rfl)⟩⟩
 refine zS (cs:=[.nilFunc,.nilFunc,.nilFunc]) Z Z Z Z Z Zm Z cG ?_
 intro g9 dG lv
 refine zM 0 Z Z Z Z (zL Z Z yP zQ Z) lv (fun hs=>wBS g9 U hs fm) (.inr Z) ?_
 rintro dv o5 qk ib oK lw ⟨rfl,rfl⟩
 have lx:sW w U dv [.blk dG 169 [.nilFunc,.nilFunc,.nilFunc],.blk be 104 B8,.blk bd 104 B8,.blk bn 78 B7,.blk bm 28 B6] ib:=lw
 refine zg rfl rfl rfl rfl (fun _=>(Runs.ixA (i:=1) rfl rfl (congrArg (jV) c2) Zu ZY (by decide) (by decide) (wCS yX ZY rfl))) (zV (j:=0) (vs:=B9) rfl rfl rfl rfl lx rfl rfl rfl rfl ZY (zA rfl) rfl rfl rfl ?_)
 intro ic ly
 have lz:sW w U dv [.blk dG 169 B9,.blk be 104 B8,.blk bd 104 B8,.blk bn 78 B7,.blk bm 28 B6] ic:=ly
 refine zi ?_
 cases d5
 exact zH ⟨rfl,⟨dv,dG,rfl,rfl,rfl,rfl,rfl,oK,(lz.pick [1,2,3,4,0] _ (by decide) rfl)⟩⟩
 rintro qD ie ⟨gI,bL,eZ,dO,bZ,bV,fb,cY,cH⟩
 refine sR (wEi (.fx 4 (wOq gBt) .stop)) Z (oR Z (zF Z fb yA Z Try.sizeOf166) (oL Z (cH.ldB (j:=4) Z Z Z Try.isAgg166 (v:=.func (.func 112) #[] #[]) Z) (oL Z (cH.ldBA (j:=3) Z Z eZ ZK zm (vs:=B6) Z Z) (oL Z (cH.ldBA (j:=2) Z Z dO yQ yF (vs:=B7) Z Z) ?_))))
 have fq:=cS.le cY
 have ft:=cU.le cY
 have fu:=cV.le cY
 have fw:=cW.le cY
 have q:=bnd fY
 obtain ⟨⟨dh,dk⟩,jw,fZ⟩:=q
 try dsimp only at fZ
 refine zM 0 Z Z Z Z (zL Z Z Try.call112 (zC Z (zC Z zQ)) Z) cH (fun hs=>wHX p0 bD bH bE bI bF bJ bG bK p1 ie gI hs fq ft fu fw jw) (.inr Z) ?_
 rintro cy o6 qm ig cZ lD ⟨rfl,rfl⟩
 have lE:sW w U cy [.blk be 104 B8,.blk bd 104 B8,.blk bn 78 B7,.blk bm 28 B6,.blk bL 169 B9] ig:=lD
 refine oM Z Z (oR Z (zX Z Z (v:=.agg #[jV dh.skier,jV dh.mat]) Z) (oR Z (zX Z Z (v:=.agg #[jV dk.skier,jV dk.mat]) Z) ?_))
 let ap:List Value:=[jV dh.skier,jV dh.mat]
 refine zV (j:=1) (vs:=ap) Z Z Z Z lE Z bZ Z Z zG (zA Z) Z Z Z ?_
 intro ii lF
 have lG:sW w U cy [.blk be 104 B8,.blk bd 104 ap,.blk bn 78 B7,.blk bm 28 B6,.blk bL 169 B9] ii:=lF
 let ae:List Value:=[jV dk.skier,jV dk.mat]
 refine zV (j:=0) (vs:=ae) Z Z Z Z lG Z bV Z Z zG (zA Z) Z Z Z ?_
 intro eE lH
 have cI:sW w U cy [.blk be 104 ae,.blk bd 104 ap,.blk bn 78 B7,.blk bm 28 B6,.blk bL 169 B9] eE:=lH
 refine eN (sR (wEi (.fx 4 (wLu (.nil)) .stop)) Z (oR Z (zF Z fb yA Z Try.sizeOf167) (oL Z (cI.ldB (j:=4) Z Z Z Try.isAgg167 (v:=.func (.func 113) #[] #[]) Z) (oL Z (cI.ldBA (j:=3) Z Z eZ ZK zm (vs:=B6) Z Z) (oL Z (cI.ldBA (j:=2) Z Z dO yQ yF (vs:=B7) Z Z) ?_)))))
 have jx:=fq.le cZ
 have jy:=ft.le cZ
 have jz:=fu.le cZ
 have jA:=fw.le cZ
 have q:=bnd fZ
 obtain ⟨⟨eg,gE⟩,jB,ge⟩:=q
 try dsimp only at ge
 refine zM 0 Z Z Z Z (zL Z Z Try.call113 (zC Z (zC Z zQ)) Z) cI (fun hs=>wHY p0 bD bH bE bI bF bJ bG bK p1 eE cy hs jx jy jz jA jB) (.inr Z) ?_
 rintro bR o7 qn dD p9 lI ⟨rfl,rfl⟩
 have cq:sW w U bR [.blk be 104 ae,.blk bd 104 ap,.blk bn 78 B7,.blk bm 28 B6,.blk bL 169 B9] dD:=lI
 refine oM Z Z (oR Z (zX Z Z (v:=jV eg) Z) (oR Z (zX Z Z (v:=jV gE) Z) (oA Z Z (oA Z Z (eN (zK (sR fL3 Z (oR Z (zF Z dO ZJ Z Try.sizeOf4) (oL Z (cq.ldB (j:=2) Z Z Z Try.isAgg4 (v:=.bool p1.Up) Z) (oR Z (Zc Z Z) (eN (ifc ge ?_ ?_))))))))))))
 intro dL oq
 refine ZU (nC dL.out) (kN ?_)
 have q:=bnd oq
 obtain ⟨⟨⟩,gB,gf⟩:=q
 try dsimp only at gf
 refine yD (fun σ_ w_=>∃ (U_:PHeap),σ_ 4=.pointer (some ⟨bd,0,none⟩)/\σ_ 5=.pointer (some ⟨be,0,none⟩)/\σ_ 6=jV eg/\PHeap.Le bR U_/\sW w U U_ [.blk be 104 ae,.blk bd 104 ap,.blk bn 78 B7,.blk bm 28 B6,.blk bL 169 B9] w_) ?_ ?_
 refine ZA ZB [1,2,3,0,0,3] gDc (by kernel_rfl) ?_
 have cr:=cq.drew
 generalize hw_W295:({ dD with drawn:=dD.drawn + 1 }:World)=pG at cr ⊢
 refine oL Z (cr.ldBA (j:=1) Z Z bZ ze zG (vs:=ap) Z Z) (oM Z Z (zh ?_ ?_))
 refine ZD Z Z Z Z (cr.ldBA (j:=0) Z Z bV ze zG (vs:=ae) Z Z) (zV (j:=1) (vs:=ap) Z Z Z Z cr Z bZ Z Z zG (zA Z) Z Z Z ?_)
 intro ij lJ
 have lK:sW w U bR [.blk be 104 ae,.blk bd 104 ap,.blk bn 78 B7,.blk bm 28 B6,.blk bL 169 B9] ij:=lJ
 refine zV (j:=0) (vs:=ae) Z Z Z Z lK Z bV Z Z zG (zA Z) Z Z Z ?_
 intro ik lL
 have lM:sW w U bR [.blk be 104 ae,.blk bd 104 ap,.blk bn 78 B7,.blk bm 28 B6,.blk bL 169 B9] ik:=lL
 refine oA Z Z (zi ?_)
 cases gB
 exact zH ⟨Z,⟨bR,bZ,bV,Z,(zO _),lM⟩⟩
 refine zV (j:=1) (vs:=ap) Z Z Z Z cr Z bZ Z Z zG (zA Z) Z Z Z ?_
 intro il lN
 have fR:sW w U bR [.blk be 104 ae,.blk bd 104 ap,.blk bn 78 B7,.blk bm 28 B6,.blk bL 169 B9] il:=lN
 refine ZD Z Z Z Z (fR.ldBA (j:=0) Z Z bV ze zG (vs:=ae) Z Z) (zV (j:=0) (vs:=ae) Z Z Z Z fR Z bV Z Z zG (zA Z) Z Z Z ?_)
 intro im lO
 have lP:sW w U bR [.blk be 104 ae,.blk bd 104 ap,.blk bn 78 B7,.blk bm 28 B6,.blk bL 169 B9] im:=lO
 refine oA Z Z (zi ?_)
 cases gB
 exact zH ⟨Z,⟨bR,bZ,bV,Z,(zO _),lP⟩⟩
 rintro qE pH ⟨gJ,jg,jh,ji,qa,dU⟩
 refine zU ?_
 cases gf
 exact ⟨rfl,_,(wDt (rs:=[.cell 4 104,.cell 5 104,.tmp 6]) (vs:=[.agg ap.toArray,.agg ae.toArray,jV eg]) ⟨⟨_,jg,(wBB ze zG (dU.blkAt (k:=1) rfl) (vs:=ap) rfl rfl)⟩,⟨⟨_,jh,(wBB ze zG (dU.blkAt (k:=0) rfl) (vs:=ae) rfl rfl)⟩,⟨ji,trivial⟩⟩⟩ rfl),gJ,_,(dU.pick [] _ (by decide) rfl),rfl,rfl⟩
 intro dL ot
 refine ZP (nF (dL.out)) (sR (wCz gCd) Z (oL Z (cq.ldBA (j:=0) Z Z bV ze zG (vs:=ae) Z Z) (oL Z (cq.ldBA (j:=1) Z Z bZ ze zG (vs:=ap) Z Z) (oM Z Z (zV (j:=1) (vs:=ae) Z Z Z Z cq Z bZ Z Z zG (zA Z) Z Z Z ?_)))))
 intro io lQ
 have lR:sW w U bR [.blk be 104 ae,.blk bd 104 ae,.blk bn 78 B7,.blk bm 28 B6,.blk bL 169 B9] io:=lQ
 refine zV (j:=0) (vs:=ap) Z Z Z Z lR Z bV Z Z zG (zA Z) Z Z Z ?_
 intro ip lS
 have dV:sW w U bR [.blk be 104 ap,.blk bd 104 ae,.blk bn 78 B7,.blk bm 28 B6,.blk bL 169 B9] ip:=lS
 refine oA Z Z (eN (zU (zJ ?_)))
 cases ot
 exact ⟨rfl,_,(wDt (rs:=[.cell 4 104,.cell 5 104,.tmp 6]) (vs:=[.agg ae.toArray,.agg ap.toArray,jV gE]) ⟨⟨_,bZ,(wBB ze zG (dV.blkAt (k:=1) rfl) (vs:=ae) rfl rfl)⟩,⟨⟨_,bV,(wBB ze zG (dV.blkAt (k:=0) rfl) (vs:=ap) rfl rfl)⟩,⟨rfl,trivial⟩⟩⟩ rfl),bR,_,(dV.pick [] _ (by decide) rfl),rfl,rfl⟩
 by_cases c3:p1.Kind=2
 have gg:=hm;rw [if_neg c1,if_neg c2,if_pos c3] at gg
 refine sR gCr Z ?_
 let aq:List Value:=[.slice bD p0.Starts.length bH,.slice bE p0.Splits.length bI,.slice bF p0.Clocks.length bJ,.slice bG p0.Readings.length bK]
 refine ZN (cs:=aq) rfl rfl rfl rfl rfl rfl (by rfl) hS ?_
 intro pI bo lT
 let au:List Value:=[jV p1.Kind,jV p1.Skier,jV p1.Index,.bool p1.Up]
 refine ZN (cs:=au) rfl rfl rfl rfl rfl rfl (by rfl) lT ?_
 intro pJ bp lU
 let bz:List Value:=[jV 0,jV 0]
 refine zS (cs:=bz) Z Z Z Z Z zf Z lU ?_
 intro pK bg lV
 refine zS (cs:=bz) Z Z Z Z Z zf Z lV ?_
 intro eG bh lW
 refine oA Z Z (eN ?_)
 have q:=bnd gg
 obtain ⟨⟨⟩,oG,gh⟩:=q
 try dsimp only at gh
 let bt:List Value:=[.func (.func 114) #[] #[],.func (.func 115) #[] #[],.func (.func 116) #[] #[]]
 refine yD (fun σ_ w_=>∃ (U_:PHeap) (bN:Nat),σ_ 2=.pointer (some ⟨bo,0,none⟩)/\σ_ 3=.pointer (some ⟨bp,0,none⟩)/\σ_ 4=.pointer (some ⟨bg,0,none⟩)/\σ_ 5=.pointer (some ⟨bh,0,none⟩)/\σ_ 7=.pointer (some ⟨bN,0,none⟩)/\PHeap.Le U U_/\sW w U U_ [.blk bh 104 bz,.blk bg 104 bz,.blk bp 78 au,.blk bo 28 aq,.blk bN 169 bt] w_) ?_ ?_
 have q:=bnd oG
 obtain ⟨⟨⟩,fz,d7⟩:=q
 try dsimp only at d7
 refine ZA ZB [2,3,1,3,2,0] gDb (by kernel_rfl) ?_
 have cJ:=lW.drew
 generalize hw_W363:({ eG with drawn:=eG.drawn + 1 }:World)=iq at cJ ⊢
 refine oR Z (zF Z Z ZJ Z Try.sizeOf74) (oL Z (cJ.ldB (j:=2) Z Z Z Try.isAgg74 (v:=jV p1.Kind) Z) (zh ?_ ?_))
 refine zM 0 Z Z Z Z (zL Z Z yP zQ Z) cJ (fun hs=>wBS iq U hs fz) (.inr Z) ?_
 rintro dw o8 qo ir oO lX ⟨rfl,rfl⟩
 have lY:sW w U dw [.blk bh 104 bz,.blk bg 104 bz,.blk bp 78 au,.blk bo 28 aq] ir:=lX
 refine zg rfl rfl rfl rfl (fun _=>(Runs.ixA (i:=2) rfl rfl (congrArg (jV) c3) Zu ZY (by decide) (by decide) (wCS yX ZY rfl))) (zS (cs:=[.nilFunc,.nilFunc,.nilFunc]) rfl rfl rfl rfl rfl Zm rfl lY ?_)
 intro pL eM lZ
 refine zV (j:=0) (vs:=bt) Z Z Z Z lZ Z Z Z Z ZY (zA Z) Z Z Z ?_
 intro it l3
 have l4:sW w U dw [.blk eM 169 bt,.blk bh 104 bz,.blk bg 104 bz,.blk bp 78 au,.blk bo 28 aq] it:=l3
 refine zi ?_
 cases d7
 exact zH ⟨rfl,⟨dw,eM,rfl,rfl,rfl,rfl,rfl,oO,(l4.pick [1,2,3,4,0] _ (by decide) rfl)⟩⟩
 refine zS (cs:=[.nilFunc,.nilFunc,.nilFunc]) Z Z Z Z Z Zm Z cJ ?_
 intro iu dH l5
 refine zM 0 Z Z Z Z (zL Z Z yP zQ Z) l5 (fun hs=>wBS iu U hs fz) (.inr Z) ?_
 rintro dx o9 qp iv oP l6 ⟨rfl,rfl⟩
 have l7:sW w U dx [.blk dH 169 [.nilFunc,.nilFunc,.nilFunc],.blk bh 104 bz,.blk bg 104 bz,.blk bp 78 au,.blk bo 28 aq] iv:=l6
 refine zg rfl rfl rfl rfl (fun _=>(Runs.ixA (i:=2) rfl rfl (congrArg (jV) c3) Zu ZY (by decide) (by decide) (wCS yX ZY rfl))) (zV (j:=0) (vs:=bt) rfl rfl rfl rfl l7 rfl rfl rfl rfl ZY (zA rfl) rfl rfl rfl ?_)
 intro iw l8
 have ma:sW w U dx [.blk dH 169 bt,.blk bh 104 bz,.blk bg 104 bz,.blk bp 78 au,.blk bo 28 aq] iw:=l8
 refine zi ?_
 cases d7
 exact zH ⟨rfl,⟨dx,dH,rfl,rfl,rfl,rfl,rfl,oP,(ma.pick [1,2,3,4,0] _ (by decide) rfl)⟩⟩
 rintro qF iy ⟨gK,bN,fc,dP,cb,bW,fd,da,cK⟩
 refine sR (wEi (.fx 4 (wOq gBt) .stop)) Z (oR Z (zF Z fd yA Z Try.sizeOf166) (oL Z (cK.ldB (j:=4) Z Z Z Try.isAgg166 (v:=.func (.func 115) #[] #[]) Z) (oL Z (cK.ldBA (j:=3) Z Z fc ZK zm (vs:=aq) Z Z) (oL Z (cK.ldBA (j:=2) Z Z dP yQ yF (vs:=au) Z Z) ?_))))
 have fA:=cS.le da
 have fB:=cU.le da
 have fC:=cV.le da
 have fD:=cW.le da
 have q:=bnd gh
 obtain ⟨⟨dl,dm⟩,jC,gi⟩:=q
 try dsimp only at gi
 refine zM 0 Z Z Z Z (zL Z Z Try.call115 (zC Z (zC Z zQ)) Z) cK (fun hs=>wHZ p0 bD bH bE bI bF bJ bG bK p1 iy gK hs fA fB fC fD jC) (.inr Z) ?_
 rintro cz pe qq iz db mb ⟨rfl,rfl⟩
 have mc:sW w U cz [.blk bh 104 bz,.blk bg 104 bz,.blk bp 78 au,.blk bo 28 aq,.blk bN 169 bt] iz:=mb
 refine oM Z Z (oR Z (zX Z Z (v:=.agg #[jV dl.skier,jV dl.mat]) Z) (oR Z (zX Z Z (v:=.agg #[jV dm.skier,jV dm.mat]) Z) ?_))
 let av:List Value:=[jV dl.skier,jV dl.mat]
 refine zV (j:=1) (vs:=av) Z Z Z Z mc Z cb Z Z zG (zA Z) Z Z Z ?_
 intro iA md
 have me:sW w U cz [.blk bh 104 bz,.blk bg 104 av,.blk bp 78 au,.blk bo 28 aq,.blk bN 169 bt] iA:=md
 let ah:List Value:=[jV dm.skier,jV dm.mat]
 refine zV (j:=0) (vs:=ah) Z Z Z Z me Z bW Z Z zG (zA Z) Z Z Z ?_
 intro eH mf
 have cL:sW w U cz [.blk bh 104 ah,.blk bg 104 av,.blk bp 78 au,.blk bo 28 aq,.blk bN 169 bt] eH:=mf
 refine eN (sR (wEi (.fx 4 (wLu (.nil)) .stop)) Z (oR Z (zF Z fd yA Z Try.sizeOf167) (oL Z (cL.ldB (j:=4) Z Z Z Try.isAgg167 (v:=.func (.func 116) #[] #[]) Z) (oL Z (cL.ldBA (j:=3) Z Z fc ZK zm (vs:=aq) Z Z) (oL Z (cL.ldBA (j:=2) Z Z dP yQ yF (vs:=au) Z Z) ?_)))))
 have jD:=fA.le db
 have jE:=fB.le db
 have jG:=fC.le db
 have jH:=fD.le db
 have q:=bnd gi
 obtain ⟨⟨eh,gF⟩,jJ,gj⟩:=q
 try dsimp only at gj
 refine zM 0 Z Z Z Z (zL Z Z Try.call116 (zC Z (zC Z zQ)) Z) cL (fun hs=>wHa p0 bD bH bE bI bF bJ bG bK p1 eH cz hs jD jE jG jH jJ) (.inr Z) ?_
 rintro bS pf qr dE qb mg ⟨rfl,rfl⟩
 have ct:sW w U bS [.blk bh 104 ah,.blk bg 104 av,.blk bp 78 au,.blk bo 28 aq,.blk bN 169 bt] dE:=mg
 refine oM Z Z (oR Z (zX Z Z (v:=jV eh) Z) (oR Z (zX Z Z (v:=jV gF) Z) (oA Z Z (oA Z Z (eN (zK (sR fL3 Z (oR Z (zF Z dP ZJ Z Try.sizeOf4) (oL Z (ct.ldB (j:=2) Z Z Z Try.isAgg4 (v:=.bool p1.Up) Z) (oR Z (Zc Z Z) (eN (ifc gj ?_ ?_))))))))))))
 intro dM ou
 refine ZU (nC dM.out) (kN ?_)
 have q:=bnd ou
 obtain ⟨⟨⟩,gC,gm⟩:=q
 try dsimp only at gm
 refine yD (fun σ_ w_=>∃ (U_:PHeap),σ_ 4=.pointer (some ⟨bg,0,none⟩)/\σ_ 5=.pointer (some ⟨bh,0,none⟩)/\σ_ 6=jV eh/\PHeap.Le bS U_/\sW w U U_ [.blk bh 104 ah,.blk bg 104 av,.blk bp 78 au,.blk bo 28 aq,.blk bN 169 bt] w_) ?_ ?_
 refine ZA ZB [1,2,3,0,0,3] gDc (by kernel_rfl) ?_
 have cu:=ct.drew
 generalize hw_W454:({ dE with drawn:=dE.drawn + 1 }:World)=pM at cu ⊢
 refine oL Z (cu.ldBA (j:=1) Z Z cb ze zG (vs:=av) Z Z) (oM Z Z (zh ?_ ?_))
 refine ZD Z Z Z Z (cu.ldBA (j:=0) Z Z bW ze zG (vs:=ah) Z Z) (zV (j:=1) (vs:=av) Z Z Z Z cu Z cb Z Z zG (zA Z) Z Z Z ?_)
 intro iC mh
 have mi:sW w U bS [.blk bh 104 ah,.blk bg 104 av,.blk bp 78 au,.blk bo 28 aq,.blk bN 169 bt] iC:=mh
 refine zV (j:=0) (vs:=ah) Z Z Z Z mi Z bW Z Z zG (zA Z) Z Z Z ?_
 intro iD mj
 have ml:sW w U bS [.blk bh 104 ah,.blk bg 104 av,.blk bp 78 au,.blk bo 28 aq,.blk bN 169 bt] iD:=mj
 refine oA Z Z (zi ?_)
 cases gC
 exact zH ⟨Z,⟨bS,cb,bW,Z,(zO _),ml⟩⟩
 refine zV (j:=1) (vs:=av) Z Z Z Z cu Z cb Z Z zG (zA Z) Z Z Z ?_
 intro iE mn
 have fS:sW w U bS [.blk bh 104 ah,.blk bg 104 av,.blk bp 78 au,.blk bo 28 aq,.blk bN 169 bt] iE:=mn
 refine ZD Z Z Z Z (fS.ldBA (j:=0) Z Z bW ze zG (vs:=ah) Z Z) (zV (j:=0) (vs:=ah) Z Z Z Z fS Z bW Z Z zG (zA Z) Z Z Z ?_)
 intro iF mo
 have mp:sW w U bS [.blk bh 104 ah,.blk bg 104 av,.blk bp 78 au,.blk bo 28 aq,.blk bN 169 bt] iF:=mo
 refine oA Z Z (zi ?_)
 cases gC
 exact zH ⟨Z,⟨bS,cb,bW,Z,(zO _),mp⟩⟩
 rintro qG pN ⟨gL,jj,jk,jl,qc,dW⟩
 refine zU ?_
 cases gm
 exact ⟨rfl,_,(wDt (rs:=[.cell 4 104,.cell 5 104,.tmp 6]) (vs:=[.agg av.toArray,.agg ah.toArray,jV eh]) ⟨⟨_,jj,(wBB ze zG (dW.blkAt (k:=1) rfl) (vs:=av) rfl rfl)⟩,⟨⟨_,jk,(wBB ze zG (dW.blkAt (k:=0) rfl) (vs:=ah) rfl rfl)⟩,⟨jl,trivial⟩⟩⟩ rfl),gL,_,(dW.pick [] _ (by decide) rfl),rfl,rfl⟩
 intro dM ow
 refine ZP (nF (dM.out)) (sR (wCz gCd) Z (oL Z (ct.ldBA (j:=0) Z Z bW ze zG (vs:=ah) Z Z) (oL Z (ct.ldBA (j:=1) Z Z cb ze zG (vs:=av) Z Z) (oM Z Z (zV (j:=1) (vs:=ah) Z Z Z Z ct Z cb Z Z zG (zA Z) Z Z Z ?_)))))
 intro iG mq
 have mr:sW w U bS [.blk bh 104 ah,.blk bg 104 ah,.blk bp 78 au,.blk bo 28 aq,.blk bN 169 bt] iG:=mq
 refine zV (j:=0) (vs:=av) Z Z Z Z mr Z bW Z Z zG (zA Z) Z Z Z ?_
 intro iH ms
 have dX:sW w U bS [.blk bh 104 av,.blk bg 104 ah,.blk bp 78 au,.blk bo 28 aq,.blk bN 169 bt] iH:=ms
 refine oA Z Z (eN (zU (zJ ?_)))
 cases ow
 exact ⟨rfl,_,(wDt (rs:=[.cell 4 104,.cell 5 104,.tmp 6]) (vs:=[.agg ah.toArray,.agg av.toArray,jV gF]) ⟨⟨_,cb,(wBB ze zG (dX.blkAt (k:=1) rfl) (vs:=ah) rfl rfl)⟩,⟨⟨_,bW,(wBB ze zG (dX.blkAt (k:=0) rfl) (vs:=av) rfl rfl)⟩,⟨rfl,trivial⟩⟩⟩ rfl),bS,_,(dX.pick [] _ (by decide) rfl),rfl,rfl⟩
 by_cases c4:p1.Kind=3
 have gq:=hm;rw [if_neg c1,if_neg c2,if_neg c3,if_pos c4] at gq
 refine sR gCr Z ?_
 let az:List Value:=[.slice bD p0.Starts.length bH,.slice bE p0.Splits.length bI,.slice bF p0.Clocks.length bJ,.slice bG p0.Readings.length bK]
 refine ZN (cs:=az) rfl rfl rfl rfl rfl rfl (by rfl) hS ?_
 intro pO bq mu
 let aW:List Value:=[jV p1.Kind,jV p1.Skier,jV p1.Index,.bool p1.Up]
 refine ZN (cs:=aW) rfl rfl rfl rfl rfl rfl (by rfl) mu ?_
 intro pP br mw
 let bB:List Value:=[jV 0,jV 0]
 refine zS (cs:=bB) Z Z Z Z Z zf Z mw ?_
 intro pQ bi my
 refine zS (cs:=bB) Z Z Z Z Z zf Z my ?_
 intro eI bj mz
 refine oA Z Z (eN ?_)
 have q:=bnd gq
 obtain ⟨⟨⟩,oH,gu⟩:=q
 try dsimp only at gu
 let bu:List Value:=[.func (.func 117) #[] #[],.func (.func 118) #[] #[],.func (.func 119) #[] #[]]
 refine yD (fun σ_ w_=>∃ (U_:PHeap) (bP:Nat),σ_ 2=.pointer (some ⟨bq,0,none⟩)/\σ_ 3=.pointer (some ⟨br,0,none⟩)/\σ_ 4=.pointer (some ⟨bi,0,none⟩)/\σ_ 5=.pointer (some ⟨bj,0,none⟩)/\σ_ 7=.pointer (some ⟨bP,0,none⟩)/\PHeap.Le U U_/\sW w U U_ [.blk bj 104 bB,.blk bi 104 bB,.blk br 78 aW,.blk bq 28 az,.blk bP 169 bu] w_) ?_ ?_
 have q:=bnd oH
 obtain ⟨⟨⟩,fE,ec⟩:=q
 try dsimp only at ec
 refine ZA ZB [2,3,1,3,2,0] gDb (by kernel_rfl) ?_
 have cN:=mz.drew
 generalize hw_W522:({ eI with drawn:=eI.drawn + 1 }:World)=iJ at cN ⊢
 refine oR Z (zF Z Z ZJ Z Try.sizeOf74) (oL Z (cN.ldB (j:=2) Z Z Z Try.isAgg74 (v:=jV p1.Kind) Z) (zh ?_ ?_))
 refine zM 0 Z Z Z Z (zL Z Z yP zQ Z) cN (fun hs=>wBS iJ U hs fE) (.inr Z) ?_
 rintro dz ph qu iK oW mC ⟨rfl,rfl⟩
 have mD:sW w U dz [.blk bj 104 bB,.blk bi 104 bB,.blk br 78 aW,.blk bq 28 az] iK:=mC
 refine zg rfl rfl rfl rfl (fun _=>(Runs.ixA (i:=3) rfl rfl (congrArg (jV) c4) Zu ZY (by decide) (by decide) (wCS yX ZY rfl))) (zS (cs:=[.nilFunc,.nilFunc,.nilFunc]) rfl rfl rfl rfl rfl Zm rfl mD ?_)
 intro pS eO mE
 refine zV (j:=0) (vs:=bu) Z Z Z Z mE Z Z Z Z ZY (zA Z) Z Z Z ?_
 intro iL mF
 have mG:sW w U dz [.blk eO 169 bu,.blk bj 104 bB,.blk bi 104 bB,.blk br 78 aW,.blk bq 28 az] iL:=mF
 refine zi ?_
 cases ec
 exact zH ⟨rfl,⟨dz,eO,rfl,rfl,rfl,rfl,rfl,oW,(mG.pick [1,2,3,4,0] _ (by decide) rfl)⟩⟩
 refine zS (cs:=[.nilFunc,.nilFunc,.nilFunc]) Z Z Z Z Z Zm Z cN ?_
 intro iM dI mH
 refine zM 0 Z Z Z Z (zL Z Z yP zQ Z) mH (fun hs=>wBS iM U hs fE) (.inr Z) ?_
 rintro dA pj qv iN oX mI ⟨rfl,rfl⟩
 have mJ:sW w U dA [.blk dI 169 [.nilFunc,.nilFunc,.nilFunc],.blk bj 104 bB,.blk bi 104 bB,.blk br 78 aW,.blk bq 28 az] iN:=mI
 refine zg rfl rfl rfl rfl (fun _=>(Runs.ixA (i:=3) rfl rfl (congrArg (jV) c4) Zu ZY (by decide) (by decide) (wCS yX ZY rfl))) (zV (j:=0) (vs:=bu) rfl rfl rfl rfl mJ rfl rfl rfl rfl ZY (zA rfl) rfl rfl rfl ?_)
 intro iO mL
 have mM:sW w U dA [.blk dI 169 bu,.blk bj 104 bB,.blk bi 104 bB,.blk br 78 aW,.blk bq 28 az] iO:=mL
 refine zi ?_
 cases ec
 exact zH ⟨rfl,⟨dA,dI,rfl,rfl,rfl,rfl,rfl,oX,(mM.pick [1,2,3,4,0] _ (by decide) rfl)⟩⟩
 rintro qH iP ⟨gM,bP,ff,dQ,cd,bX,fg,de,cO⟩
 refine sR (wEi (.fx 4 (wOq gBt) .stop)) Z (oR Z (zF Z fg yA Z Try.sizeOf166) (oL Z (cO.ldB (j:=4) Z Z Z Try.isAgg166 (v:=.func (.func 118) #[] #[]) Z) (oL Z (cO.ldBA (j:=3) Z Z ff ZK zm (vs:=az) Z Z) (oL Z (cO.ldBA (j:=2) Z Z dQ yQ yF (vs:=aW) Z Z) ?_))))
 have fG:=cS.le de
 have fH:=cU.le de
 have fJ:=cV.le de
 have fK:=cW.le de
 have q:=bnd gu
 obtain ⟨⟨dp,dq⟩,jK,gv⟩:=q
 try dsimp only at gv
 refine zM 0 Z Z Z Z (zL Z Z Try.call118 (zC Z (zC Z zQ)) Z) cO (fun hs=>wHD p0 bD bH bE bI bF bJ bG bK p1 iP gM hs fG fH fJ fK jK) (.inr Z) ?_
 rintro cB pk qw iR df mN ⟨rfl,rfl⟩
 have mO:sW w U cB [.blk bj 104 bB,.blk bi 104 bB,.blk br 78 aW,.blk bq 28 az,.blk bP 169 bu] iR:=mN
 refine oM Z Z (oR Z (zX Z Z (v:=.agg #[jV dp.skier,jV dp.mat]) Z) (oR Z (zX Z Z (v:=.agg #[jV dq.skier,jV dq.mat]) Z) ?_))
 let aX:List Value:=[jV dp.skier,jV dp.mat]
 refine zV (j:=1) (vs:=aX) Z Z Z Z mO Z cd Z Z zG (zA Z) Z Z Z ?_
 intro iT mQ
 have mR:sW w U cB [.blk bj 104 bB,.blk bi 104 aX,.blk br 78 aW,.blk bq 28 az,.blk bP 169 bu] iT:=mQ
 let ai:List Value:=[jV dq.skier,jV dq.mat]
 refine zV (j:=0) (vs:=ai) Z Z Z Z mR Z bX Z Z zG (zA Z) Z Z Z ?_
 intro eJ mS
 have cP:sW w U cB [.blk bj 104 ai,.blk bi 104 aX,.blk br 78 aW,.blk bq 28 az,.blk bP 169 bu] eJ:=mS
 refine eN (sR (wEi (.fx 4 (wLu (.nil)) .stop)) Z (oR Z (zF Z fg yA Z Try.sizeOf167) (oL Z (cP.ldB (j:=4) Z Z Z Try.isAgg167 (v:=.func (.func 119) #[] #[]) Z) (oL Z (cP.ldBA (j:=3) Z Z ff ZK zm (vs:=az) Z Z) (oL Z (cP.ldBA (j:=2) Z Z dQ yQ yF (vs:=aW) Z Z) ?_)))))
 have jL:=fG.le df
 have jM:=fH.le df
 have jN:=fJ.le df
 have jO:=fK.le df
 have q:=bnd gv
 obtain ⟨⟨en,gG⟩,jP,gw⟩:=q
 try dsimp only at gw
 refine zM 0 Z Z Z Z (zL Z Z Try.call119 (zC Z (zC Z zQ)) Z) cP (fun hs=>wHE p0 bD bH bE bI bF bJ bG bK p1 eJ cB hs jL jM jN jO jP) (.inr Z) ?_
 rintro bU pm qx dF qd mU ⟨rfl,rfl⟩
 have cw:sW w U bU [.blk bj 104 ai,.blk bi 104 aX,.blk br 78 aW,.blk bq 28 az,.blk bP 169 bu] dF:=mU
 refine oM Z Z (oR Z (zX Z Z (v:=jV en) Z) (oR Z (zX Z Z (v:=jV gG) Z) (oA Z Z (oA Z Z (eN (zK (sR fL3 Z (oR Z (zF Z dQ ZJ Z Try.sizeOf4) (oL Z (cw.ldB (j:=2) Z Z Z Try.isAgg4 (v:=.bool p1.Up) Z) (oR Z (Zc Z Z) (eN (ifc gw ?_ ?_))))))))))))
 intro dN ox
 refine ZU (nC dN.out) (kN ?_)
 have q:=bnd ox
 obtain ⟨⟨⟩,gD,gx⟩:=q
 try dsimp only at gx
 refine yD (fun σ_ w_=>∃ (U_:PHeap),σ_ 4=.pointer (some ⟨bi,0,none⟩)/\σ_ 5=.pointer (some ⟨bj,0,none⟩)/\σ_ 6=jV en/\PHeap.Le bU U_/\sW w U U_ [.blk bj 104 ai,.blk bi 104 aX,.blk br 78 aW,.blk bq 28 az,.blk bP 169 bu] w_) ?_ ?_
 refine ZA ZB [1,2,3,0,0,3] gDc (by kernel_rfl) ?_
 have cx:=cw.drew
 generalize hw_W613:({ dF with drawn:=dF.drawn + 1 }:World)=pU at cx ⊢
 refine oL Z (cx.ldBA (j:=1) Z Z cd ze zG (vs:=aX) Z Z) (oM Z Z (zh ?_ ?_))
 refine ZD Z Z Z Z (cx.ldBA (j:=0) Z Z bX ze zG (vs:=ai) Z Z) (zV (j:=1) (vs:=aX) Z Z Z Z cx Z cd Z Z zG (zA Z) Z Z Z ?_)
 intro iU mV
 have mW:sW w U bU [.blk bj 104 ai,.blk bi 104 aX,.blk br 78 aW,.blk bq 28 az,.blk bP 169 bu] iU:=mV
 refine zV (j:=0) (vs:=ai) Z Z Z Z mW Z bX Z Z zG (zA Z) Z Z Z ?_
 intro iV mX
 have mY:sW w U bU [.blk bj 104 ai,.blk bi 104 aX,.blk br 78 aW,.blk bq 28 az,.blk bP 169 bu] iV:=mX
 refine oA Z Z (zi ?_)
 cases gD
 exact zH ⟨Z,⟨bU,cd,bX,Z,(zO _),mY⟩⟩
 refine zV (j:=1) (vs:=aX) Z Z Z Z cx Z cd Z Z zG (zA Z) Z Z Z ?_
 intro iX mZ
 have fT:sW w U bU [.blk bj 104 ai,.blk bi 104 aX,.blk br 78 aW,.blk bq 28 az,.blk bP 169 bu] iX:=mZ
 refine ZD Z Z Z Z (fT.ldBA (j:=0) Z Z bX ze zG (vs:=ai) Z Z) (zV (j:=0) (vs:=ai) Z Z Z Z fT Z bX Z Z zG (zA Z) Z Z Z ?_)
 intro iY m4
 have m5:sW w U bU [.blk bj 104 ai,.blk bi 104 aX,.blk br 78 aW,.blk bq 28 az,.blk bP 169 bu] iY:=m4
 refine oA Z Z (zi ?_)
 cases gD
 exact zH ⟨Z,⟨bU,cd,bX,Z,(zO _),m5⟩⟩
 rintro qI pV ⟨gN,jm,jo,jp,qe,dY⟩
 refine zU ?_
 cases gx
 exact ⟨rfl,_,(wDt (rs:=[.cell 4 104,.cell 5 104,.tmp 6]) (vs:=[.agg aX.toArray,.agg ai.toArray,jV en]) ⟨⟨_,jm,(wBB ze zG (dY.blkAt (k:=1) rfl) (vs:=aX) rfl rfl)⟩,⟨⟨_,jo,(wBB ze zG (dY.blkAt (k:=0) rfl) (vs:=ai) rfl rfl)⟩,⟨jp,trivial⟩⟩⟩ rfl),gN,_,(dY.pick [] _ (by decide) rfl),rfl,rfl⟩
 intro dN oy
 refine ZP (nF (dN.out)) (sR (wCz gCd) Z (oL Z (cw.ldBA (j:=0) Z Z bX ze zG (vs:=ai) Z Z) (oL Z (cw.ldBA (j:=1) Z Z cd ze zG (vs:=aX) Z Z) (oM Z Z (zV (j:=1) (vs:=ai) Z Z Z Z cw Z cd Z Z zG (zA Z) Z Z Z ?_)))))
 intro iZ m6
 have m7:sW w U bU [.blk bj 104 ai,.blk bi 104 ai,.blk br 78 aW,.blk bq 28 az,.blk bP 169 bu] iZ:=m6
 refine zV (j:=0) (vs:=aX) Z Z Z Z m7 Z bX Z Z zG (zA Z) Z Z Z ?_
 intro i3 m8
 have dZ:sW w U bU [.blk bj 104 aX,.blk bi 104 ai,.blk br 78 aW,.blk bq 28 az,.blk bP 169 bu] i3:=m8
 refine oA Z Z (eN (zU (zJ ?_)))
 cases oy
 exact ⟨rfl,_,(wDt (rs:=[.cell 4 104,.cell 5 104,.tmp 6]) (vs:=[.agg ai.toArray,.agg aX.toArray,jV gG]) ⟨⟨_,cd,(wBB ze zG (dZ.blkAt (k:=1) rfl) (vs:=ai) rfl rfl)⟩,⟨⟨_,bX,(wBB ze zG (dZ.blkAt (k:=0) rfl) (vs:=aX) rfl rfl)⟩,⟨rfl,trivial⟩⟩⟩ rfl),bU,_,(dZ.pick [] _ (by decide) rfl),rfl,rfl⟩
 have gy:=hm;rw [if_neg c1,if_neg c2,if_neg c3,if_neg c4] at gy
 refine sR gCr Z ?_
 let dr:List Value:=[.slice bD p0.Starts.length bH,.slice bE p0.Splits.length bI,.slice bF p0.Clocks.length bJ,.slice bG p0.Readings.length bK]
 refine ZN (cs:=dr) rfl rfl rfl rfl rfl rfl (by rfl) hS ?_
 intro pW eU n5
 let dt:List Value:=[jV p1.Kind,jV p1.Skier,jV p1.Index,.bool p1.Up]
 refine ZN (cs:=dt) rfl rfl rfl rfl rfl rfl (by rfl) n5 ?_
 intro pX eV n6
 let ci:List Value:=[jV 0,jV 0]
 refine zS (cs:=ci) Z Z Z Z Z zf Z n6 ?_
 intro pY eW n7
 refine zS (cs:=ci) Z Z Z Z Z zf Z n7 ?_
 intro eK eX n8
 refine oA Z Z (eN (zK ?_))
 have q:=bnd gy
 obtain ⟨⟨⟩,fL,ef⟩:=q
 try dsimp only at ef
 refine ZA ZB [2,3,1,3,2,0] gDb (by kernel_rfl) ?_
 have cQ:=n8.drew
 generalize hw_W669:({ eK with drawn:=eK.drawn + 1 }:World)=i4 at cQ ⊢
 refine oR Z (zF Z Z ZJ Z Try.sizeOf74) (oL Z (cQ.ldB (j:=2) Z Z Z Try.isAgg74 (v:=jV p1.Kind) Z) (zh ?_ ?_))
 refine zM 0 Z Z Z Z (zL Z Z yP zQ Z) cQ (fun hs=>wBS i4 U hs fL) (.inr Z) ?_
 rintro gO po qy i5 qf n9 ⟨rfl,rfl⟩
 have pZ:sW w U gO [.blk eX 104 ci,.blk eW 104 ci,.blk eV 78 dt,.blk eU 28 dr] i5:=n9
 cases ef
 refine zS (cs:=[.nilFunc,.nilFunc,.nilFunc]) Z Z Z Z Z Zm Z cQ ?_
 intro i6 jc oa
 refine zM 0 Z Z Z Z (zL Z Z yP zQ Z) oa (fun hs=>wBS i6 U hs fL) (.inr Z) ?_
 rintro gP pp qA i7 qh oc ⟨rfl,rfl⟩
 have p6:sW w U gP [.blk jc 169 [.nilFunc,.nilFunc,.nilFunc],.blk eX 104 ci,.blk eW 104 ci,.blk eV 78 dt,.blk eU 28 dr] i7:=oc
 cases ef
end Go.Proofs.Ytlnfbjphfoipaaa
namespace Go.Proofs.Ytlnfbjphfoipaaa
open Go.KL
set_option maxHeartbeats 4000000
theorem wIV (p0:wAB) (aj:Option Addr) (aq:Nat) (ak:Option Addr) (au:Nat) (am:Option Addr) (av:Nat) (ap:Option Addr) (az:Nat) (w:World) (U:PHeap) (hS:St0 w U []) (rG:Sl U 1 aj aq p0.Starts.length (hH KL.encI p0.Starts)) (rH:Sl U 2 ak au p0.Splits.length (hH wAJ p0.Splits)) (rJ:Sl U 3 am av p0.Clocks.length (hH wAA p0.Clocks)) (rK:Sl U 4 ap az p0.Readings.length (hH wAH p0.Readings)) {r:wAb} (hm:wCn p0=some r):Gv Try.prog 89 [.agg #[.slice aj p0.Starts.length aq,.slice ak p0.Splits.length au,.slice am p0.Clocks.length av,.slice ap p0.Readings.length az]] w (wCh w [] U (fun U_ L_ v=>∃ (b0:Nat) (A0p00:Option Addr) (c0p00:Nat) (A0p01:Option Addr) (c0p01:Nat) (A0p02:Option Addr) (c0p02:Nat) (A0p03:Option Addr) (c0p03:Nat) (m0p1:Nat) (es0p1:Array MapEntry) (ck0p1:Nat) (A0p2:Option Addr) (c0p2:Nat),v=.pointer (some ⟨b0,0,none⟩)/\L_=[.blk b0 124 [.slice A0p00 r.Race.Starts.length c0p00,.slice A0p01 r.Race.Splits.length c0p01,.slice A0p02 r.Race.Clocks.length c0p02,.slice A0p03 r.Race.Readings.length c0p03,.map (some m0p1),.slice A0p2 r.edges.length c0p2],.obj m0p1 (.map es0p1 ck0p1),.row A0p2 c0p2 130 7 (hH wAS r.edges)]/\Sl U_ 1 A0p00 c0p00 r.Race.Starts.length (hH KL.encI r.Race.Starts)/\Sl U_ 2 A0p01 c0p01 r.Race.Splits.length (hH wAJ r.Race.Splits)/\Sl U_ 3 A0p02 c0p02 r.Race.Clocks.length (hH wAA r.Race.Clocks)/\Sl U_ 4 A0p03 c0p03 r.Race.Readings.length (hH wAH r.Race.Readings)/\MpR es0p1 wAu wAv r.number)):=by
 unfold wCn at hm
 refine Go.KX.Gv.ofM Try.func89 Z Try.ntmps89 Try.results89 (zA Z) (sR (.fx 0 (.fl 1 .nil) .stop) Z ?_)
 let B0:List Value:=[.slice aj p0.Starts.length aq,.slice ak p0.Splits.length au,.slice am p0.Clocks.length av,.slice ap p0.Readings.length az]
 refine ZN (cs:=B0) rfl rfl rfl rfl rfl rfl (by rfl) hS ?_
 intro W1 b2 qD
 refine oA Z Z (eN (bnK hm fun jL sh rO=>yD (fun σ_ w_=>∃ (U_:PHeap) (b6:Nat) (b8:Nat) (ai:Nat) (cD:Array MapEntry) (dv:Nat),σ_ 1=.pointer (some ⟨b2,0,none⟩)/\σ_ 3=.pointer (some ⟨b6,0,none⟩)/\PHeap.Le U U_/\sW w U U_ [.blk b2 28 B0,.blk b6 99 [.pointer (some ⟨b8,0,none⟩)],.blk b8 124 [.slice aj p0.Starts.length aq,.slice ak p0.Splits.length au,.slice am p0.Clocks.length av,.slice ap p0.Readings.length az,.map (some ai),.slice none 0 0],.obj ai (.map cD dv)] w_/\MpR cD wAu wAv jL) ?_ ?_))
 refine bnK sh fun ah bB rV=>ZA ZB [2,2,2,0,3,3,2,2,0] (.fx 0 (.fx 1 gDi (.fx 2 gDj (.fx 7 gDk .stop))) (.fx 1 (.fx 0 gDi (.fx 2 gDn (.fx 7 gDl .stop))) (.fx 2 (.fx 0 gDj (.fx 1 gDn (.fx 7 gDm .stop))) (.fx 7 (.fx 0 gDk (.fx 1 gDl (.fx 2 gDm .stop))) .stop)))) (by kernel_rfl) ?_
 have bD:=qD.drew
 generalize hw_W51:({ W1 with drawn:=W1.drawn + 1 }:World)=gR at bD ⊢
 refine ZF (s:=.nil) (M:=fun σ_ w_=>∃ (U_:PHeap) (db:Nat) (cp:Nat) (bE:Nat) (dE:Array MapEntry) (eL:Nat),σ_ 1=.pointer (some ⟨b2,0,none⟩)/\σ_ 3=.pointer (some ⟨db,0,none⟩)/\σ_ 12=.agg B0.toArray/\σ_ 13=.map (some bE)/\σ_ 14=.agg #[jV ah.skier,jV ah.mat]/\σ_ 15=.map (some bE)/\σ_ 16=.agg #[.slice aj p0.Starts.length aq,.slice ak p0.Splits.length au,.slice am p0.Clocks.length av,.slice ap p0.Readings.length az,.map (some bE),.slice none 0 0]/\σ_ 17=.pointer (some ⟨cp,0,none⟩)/\PHeap.Le U U_/\sW w U U_ [.blk b2 28 B0,.blk db 99 [.pointer (some ⟨cp,0,none⟩)],.blk cp 124 [.slice aj p0.Starts.length aq,.slice ak p0.Splits.length au,.slice am p0.Clocks.length av,.slice ap p0.Readings.length az,.map (some bE),.slice none 0 0],.obj bE (.map dE eL)] w_/\MpR dE wAu wAv (mput ([]:List (wAC × Int)) ah 0)) ?_ fun sk=>?_
 rintro uQ tD ⟨j6,db,cp,bE,dE,eL,mJ,mK,uj,uk,ul,um,uo,uq,sC,qE,o8⟩
 refine zi ?_
 cases rV
 exact zH ⟨Z,⟨j6,db,cp,bE,dE,eL,mJ,mK,sC,qE,o8⟩⟩
 refine ZF (s:=.fx 8 .nil .stop) (M:=fun σ_ w_=>∃ (U_:PHeap) (cq:Nat) (bw:Nat) (cG:Array MapEntry) (dx:Nat) (bP:Nat),σ_ 1=.pointer (some ⟨b2,0,none⟩)/\σ_ 3=.pointer (some ⟨cq,0,none⟩)/\σ_ 12=.agg B0.toArray/\σ_ 13=.map (some bw)/\σ_ 14=.agg #[jV ah.skier,jV ah.mat]/\σ_ 15=.map (some bw)/\σ_ 16=.agg #[.slice aj p0.Starts.length aq,.slice ak p0.Splits.length au,.slice am p0.Clocks.length av,.slice ap p0.Readings.length az,.map (some bw),.slice none 0 0]/\σ_ 17=.pointer (some ⟨bP,0,none⟩)/\PHeap.Le U U_/\sW w U U_ [.blk b2 28 B0,.blk cq 99 [.pointer none],.obj bw (.map cG dx),.blk bP 124 [.slice aj p0.Starts.length aq,.slice ak p0.Splits.length au,.slice am p0.Clocks.length av,.slice ap p0.Readings.length az,.map (some bw),.slice none 0 0]] w_/\MpR cG wAu wAv (mput ([]:List (wAC × Int)) ah 0)) ?_ fun dX=>?_
 rintro uR tE ⟨gC,cq,bw,cG,dx,bP,mL,iA,mM,mN,mO,mP,mQ,iB,sD,qF,o9⟩
 let B1:List Value:=[.pointer (some ⟨bP,0,none⟩)]
 refine zV (j:=1) (vs:=B1) Z Z Z Z qF Z iA iB Z Try.sizeOf99 (zA Z) Z Z Z ?_
 intro lP qG
 have qH:sW w U gC [.blk b2 28 B0,.blk cq 99 B1,.obj bw (.map cG dx),.blk bP 124 [.slice aj p0.Starts.length aq,.slice ak p0.Splits.length au,.slice am p0.Clocks.length av,.slice ap p0.Readings.length az,.map (some bw),.slice none 0 0]] lP:=qG
 exact sk _ _ ⟨gC,cq,bP,bw,cG,dx,mL,iA,mM,mN,mO,mP,mQ,iB,sD,(qH.pick [0,1,3,2] _ (by decide) rfl),o9⟩
 refine ZF (s:=gBw) (M:=fun σ_ w_=>∃ (U_:PHeap) (de:Nat) (bF:Nat) (dF:Array MapEntry) (eM:Nat),σ_ 1=.pointer (some ⟨b2,0,none⟩)/\σ_ 3=.pointer (some ⟨de,0,none⟩)/\σ_ 12=.agg B0.toArray/\σ_ 13=.map (some bF)/\σ_ 14=.agg #[jV ah.skier,jV ah.mat]/\σ_ 15=.map (some bF)/\σ_ 16=.agg #[.slice aj p0.Starts.length aq,.slice ak p0.Splits.length au,.slice am p0.Clocks.length av,.slice ap p0.Readings.length az,.map (some bF),.slice none 0 0]/\PHeap.Le U U_/\sW w U U_ [.blk b2 28 B0,.blk de 99 [.pointer none],.obj bF (.map dF eM)] w_/\MpR dF wAu wAv (mput ([]:List (wAC × Int)) ah 0)) ?_ fun jC=>?_
 rintro uS tF ⟨j7,de,bF,dF,eM,mR,mS,mT,mU,mV,mW,iC,sE,qI,pe⟩
 refine ZN (cs:=[.slice aj p0.Starts.length aq,.slice ak p0.Splits.length au,.slice am p0.Clocks.length av,.slice ap p0.Readings.length az,.map (some bF),.slice none 0 0]) rfl rfl rfl rfl rfl iC (by rfl) qI ?_
 intro tG mf qJ
 exact dX _ _ ⟨j7,de,bF,dF,eM,mf,mR,mS,mT,mU,mV,mW,iC,rfl,sE,(qJ.pick [1,2,3,0] _ (by decide) rfl),pe⟩
 refine ZF (s:=gBv) (M:=fun σ_ w_=>∃ (U_:PHeap) (bG:Nat) (dG:Array MapEntry) (eO:Nat) (df:Nat),σ_ 1=.pointer (some ⟨b2,0,none⟩)/\σ_ 12=.agg B0.toArray/\σ_ 13=.map (some bG)/\σ_ 14=.agg #[jV ah.skier,jV ah.mat]/\σ_ 15=.map (some bG)/\σ_ 16=.agg #[.slice aj p0.Starts.length aq,.slice ak p0.Splits.length au,.slice am p0.Clocks.length av,.slice ap p0.Readings.length az,.map (some bG),.slice none 0 0]/\σ_ 17=.pointer (some ⟨df,0,none⟩)/\PHeap.Le U U_/\sW w U U_ [.blk b2 28 B0,.obj bG (.map dG eO),.blk df 124 [.slice aj p0.Starts.length aq,.slice ak p0.Splits.length au,.slice am p0.Clocks.length av,.slice ap p0.Readings.length az,.map (some bG),.slice none 0 0]] w_/\MpR dG wAu wAv (mput ([]:List (wAC × Int)) ah 0)) ?_ fun jD=>?_
 rintro uT tH ⟨j8,bG,dG,eO,df,mX,mY,mZ,m4,m5,m6,m7,sF,qK,pf⟩
 refine zS (cs:=[.pointer none]) Z Z Z Z Z Zv Z qK ?_
 intro tI mg qL
 exact dX _ _ ⟨j8,mg,bG,dG,eO,df,mX,rfl,mY,mZ,m4,m5,m6,m7,sF,(qL.pick [1,0,2,3] _ (by decide) rfl),pf⟩
 refine ZF (s:=.fl 5 gBw) (M:=fun σ_ w_=>∃ (U_:PHeap) (dg:Nat) (bH:Nat) (dH:Array MapEntry) (eQ:Nat),σ_ 1=.pointer (some ⟨b2,0,none⟩)/\σ_ 3=.pointer (some ⟨dg,0,none⟩)/\σ_ 12=.agg B0.toArray/\σ_ 13=.map (some bH)/\σ_ 14=.agg #[jV ah.skier,jV ah.mat]/\σ_ 15=.map (some bH)/\PHeap.Le U U_/\sW w U U_ [.blk b2 28 B0,.blk dg 99 [.pointer none],.obj bH (.map dH eQ)] w_/\MpR dH wAu wAv (mput ([]:List (wAC × Int)) ah 0)) ?_ fun jE=>?_
 rintro uU tJ ⟨j9,dg,bH,dH,eQ,m8,m9,iD,n5,n6,iE,sG,qM,pg⟩
 let B2:List Value:=[.slice aj p0.Starts.length aq,.slice ak p0.Splits.length au,.slice am p0.Clocks.length av,.slice ap p0.Readings.length az,.map (some bH),.slice none 0 0]
 refine zg rfl rfl rfl rfl (fun _=>zy (pv:=[(0,.agg B0.toArray),(1,.map (some bH))]) (z:=[.slice none 0 0,.slice none 0 0,.slice none 0 0,.slice none 0 0,.map none,.slice none 0 0]) (cs:=B2) rfl (wAD iD (wAD iE wAO)) Try.zeroValue124 wFX rfl rfl) (ZN (cs:=B2) rfl rfl rfl rfl rfl rfl (by rfl) qM ?_)
 intro tK mh qN
 exact dX _ _ ⟨j9,dg,bH,dH,eQ,mh,m8,m9,iD,n5,n6,iE,rfl,rfl,sG,(qN.pick [1,2,3,0] _ (by decide) rfl),pg⟩
 refine ZF (s:=gCm) (M:=fun σ_ w_=>∃ (U_:PHeap) (dh:Nat) (cr:Nat) (dI:Array MapEntry) (eU:Nat),σ_ 1=.pointer (some ⟨b2,0,none⟩)/\σ_ 3=.pointer (some ⟨dh,0,none⟩)/\σ_ 13=.map (some cr)/\σ_ 14=.agg #[jV ah.skier,jV ah.mat]/\σ_ 15=.map (some cr)/\PHeap.Le U U_/\sW w U U_ [.blk b2 28 B0,.blk dh 99 [.pointer none],.obj cr (.map dI eU)] w_/\MpR dI wAu wAv (mput ([]:List (wAC × Int)) ah 0)) ?_ fun sm=>?_
 rintro uV tL ⟨k9,dh,cr,dI,eU,iF,n7,n8,n9,oa,sH,jo,ph⟩
 exact ZD Z Z Z Z (jo.ldBA (j:=0) Z Z iF ZK zm (vs:=B0) Z Z) (jE _ _ ⟨k9,dh,cr,dI,eU,iF,n7,Z,n8,n9,oa,sH,jo,ph⟩)
 refine ZF (s:=gCs) (M:=fun σ_ w_=>∃ (U_:PHeap) (bA:Nat) (cH:Array MapEntry) (dy:Nat),σ_ 1=.pointer (some ⟨b2,0,none⟩)/\σ_ 12=.agg B0.toArray/\σ_ 13=.map (some bA)/\σ_ 14=.agg #[jV ah.skier,jV ah.mat]/\σ_ 15=.map (some bA)/\PHeap.Le U U_/\sW w U U_ [.blk b2 28 B0,.obj bA (.map cH dy)] w_/\MpR cH wAu wAv (mput ([]:List (wAC × Int)) ah 0)) ?_ fun sn=>?_
 rintro uW tM ⟨gD,bA,cH,dy,iG,fd,iH,iI,ff,jP,jp,jb⟩
 let B3:List Value:=[.slice aj p0.Starts.length aq,.slice ak p0.Splits.length au,.slice am p0.Clocks.length av,.slice ap p0.Readings.length az,.map (some bA),.slice none 0 0]
 refine oR Z (zy (pv:=[(0,.agg B0.toArray),(1,.map (some bA))]) (z:=[.slice none 0 0,.slice none 0 0,.slice none 0 0,.slice none 0 0,.map none,.slice none 0 0]) (cs:=B3) Z (wAD fd (wAD ff wAO)) Try.zeroValue124 wFX Z Z) (zh ?_ ?_)
 refine ZN (cs:=B3) rfl rfl rfl rfl rfl rfl (by rfl) jp ?_
 intro tO mi qO
 exact jD _ _ ⟨gD,bA,cH,dy,mi,iG,fd,iH,iI,ff,rfl,rfl,jP,(qO.pick [1,2,0] _ (by decide) rfl),jb⟩
 refine zS (cs:=[.pointer none]) Z Z Z Z Z Zv Z jp ?_
 intro tP mj qP
 exact jC _ _ ⟨gD,mj,bA,cH,dy,iG,rfl,fd,iH,iI,ff,rfl,jP,(qP.pick [1,0,2] _ (by decide) rfl),jb⟩
 refine ZF (s:=gCl) (M:=fun σ_ w_=>∃ (U_:PHeap) (dk:Nat) (bQ:Nat) (dJ:Array MapEntry) (eV:Nat),σ_ 1=.pointer (some ⟨b2,0,none⟩)/\σ_ 3=.pointer (some ⟨dk,0,none⟩)/\σ_ 12=.agg B0.toArray/\σ_ 13=.map (some bQ)/\σ_ 14=.agg #[jV ah.skier,jV ah.mat]/\PHeap.Le U U_/\sW w U U_ [.blk b2 28 B0,.blk dk 99 [.pointer none],.obj bQ (.map dJ eV)] w_/\MpR dJ wAu wAv (mput ([]:List (wAC × Int)) ah 0)) ?_ fun so=>?_
 rintro uX tQ ⟨lc,dk,bQ,dJ,eV,oc,od,iJ,iK,oe,sI,qQ,pj⟩
 refine oM Z iK ?_
 let B4:List Value:=[.slice aj p0.Starts.length aq,.slice ak p0.Splits.length au,.slice am p0.Clocks.length av,.slice ap p0.Readings.length az,.map (some bQ),.slice none 0 0]
 refine zg rfl rfl rfl rfl (fun _=>zy (pv:=[(0,.agg B0.toArray),(1,.map (some bQ))]) (z:=[.slice none 0 0,.slice none 0 0,.slice none 0 0,.slice none 0 0,.map none,.slice none 0 0]) (cs:=B4) rfl (wAD iJ (wAD rfl wAO)) Try.zeroValue124 wFX rfl rfl) (ZN (cs:=B4) rfl rfl rfl rfl rfl rfl (by rfl) qQ ?_)
 intro tR ml qR
 exact dX _ _ ⟨lc,dk,bQ,dJ,eV,ml,oc,od,iJ,iK,oe,rfl,rfl,rfl,sI,(qR.pick [1,2,3,0] _ (by decide) rfl),pj⟩
 refine ZF (s:=.fl 4 gCm) (M:=fun σ_ w_=>∃ (U_:PHeap) (dl:Nat) (dm:Nat) (dK:Array MapEntry) (eW:Nat),σ_ 1=.pointer (some ⟨b2,0,none⟩)/\σ_ 3=.pointer (some ⟨dl,0,none⟩)/\σ_ 13=.map (some dm)/\σ_ 14=.agg #[jV ah.skier,jV ah.mat]/\PHeap.Le U U_/\sW w U U_ [.blk b2 28 B0,.blk dl 99 [.pointer none],.obj dm (.map dK eW)] w_/\MpR dK wAu wAv (mput ([]:List (wAC × Int)) ah 0)) ?_ fun sq=>?_
 rintro uY tS ⟨lf,dl,dm,dK,eW,iL,og,iM,oh,sJ,jq,pk⟩
 exact oM Z iM (ZD Z Z Z Z (jq.ldBA (j:=0) Z Z iL ZK zm (vs:=B0) Z Z) (jE _ _ ⟨lf,dl,dm,dK,eW,iL,og,Z,iM,oh,Z,sJ,jq,pk⟩))
 refine ZF (s:=gCt) (M:=fun σ_ w_=>∃ (U_:PHeap) (ct:Nat) (cu:Nat) (fb:Array MapEntry) (gZ:Nat),σ_ 1=.pointer (some ⟨b2,0,none⟩)/\σ_ 3=.pointer (some ⟨ct,0,none⟩)/\σ_ 12=.agg B0.toArray/\σ_ 13=.map (some cu)/\σ_ 14=.agg #[jV ah.skier,jV ah.mat]/\PHeap.Le U U_/\sW w U U_ [.blk b2 28 B0,.blk ct 99 [.pointer none],.obj cu (.map fb gZ)] w_/\MpR fb wAu wAv ([]:List (wAC × Int))) ?_ fun dY=>?_
 rintro uZ tT ⟨gE,ct,cu,fb,gZ,oi,oj,om,iN,iO,sK,qS,pm⟩
 refine OKS.mapPut (x:=.tmp 13) (y:=.tmp 14) (j:=2) (mk:=wAu) (mv:=wAv) (a:=ah) (v:=0) rfl rfl rfl (by first | exact .inl rfl | exact .inr rfl) qS rfl iN iO rfl (wBh zw) wCD pm rfl ?_
 intro ic g6 lQ r7 qT
 have qU:sW w U gE [.blk b2 28 B0,.blk ct 99 [.pointer none],.obj cu (.map ic g6)] lQ:=qT
 exact so _ _ ⟨gE,ct,cu,ic,g6,oi,oj,om,iN,iO,sK,qU,r7⟩
 refine ZF (s:=.fl 4 gCs) (M:=fun σ_ w_=>∃ (U_:PHeap) (bJ:Nat) (cI:Array MapEntry) (dz:Nat),σ_ 1=.pointer (some ⟨b2,0,none⟩)/\σ_ 12=.agg B0.toArray/\σ_ 13=.map (some bJ)/\σ_ 14=.agg #[jV ah.skier,jV ah.mat]/\PHeap.Le U U_/\sW w U U_ [.blk b2 28 B0,.obj bJ (.map cI dz)] w_/\MpR cI wAu wAv (mput ([]:List (wAC × Int)) ah 0)) ?_ fun ss=>?_
 rintro u0 tU ⟨gF,bJ,cI,dz,iP,fg,fh,iQ,jQ,jr,jc⟩
 refine oM Z fh ?_
 let B5:List Value:=[.slice aj p0.Starts.length aq,.slice ak p0.Splits.length au,.slice am p0.Clocks.length av,.slice ap p0.Readings.length az,.map (some bJ),.slice none 0 0]
 refine oR Z (zy (pv:=[(0,.agg B0.toArray),(1,.map (some bJ))]) (z:=[.slice none 0 0,.slice none 0 0,.slice none 0 0,.slice none 0 0,.map none,.slice none 0 0]) (cs:=B5) Z (wAD fg (wAD Z wAO)) Try.zeroValue124 wFX Z Z) (zh ?_ ?_)
 refine ZN (cs:=B5) rfl rfl rfl rfl rfl rfl (by rfl) jr ?_
 intro tV mn qV
 exact jD _ _ ⟨gF,bJ,cI,dz,mn,iP,fg,fh,iQ,rfl,rfl,rfl,jQ,(qV.pick [1,2,0] _ (by decide) rfl),jc⟩
 refine zS (cs:=[.pointer none]) Z Z Z Z Z Zv Z jr ?_
 intro tW mo qW
 exact jC _ _ ⟨gF,mo,bJ,cI,dz,iP,rfl,fg,fh,iQ,rfl,rfl,jQ,(qW.pick [1,0,2] _ (by decide) rfl),jc⟩
 refine ZF (s:=gDf) (M:=fun σ_ w_=>∃ (U_:PHeap) (bR:Nat) (bS:Nat) (dL:Array MapEntry) (eX:Nat),σ_ 1=.pointer (some ⟨b2,0,none⟩)/\σ_ 3=.pointer (some ⟨bR,0,none⟩)/\σ_ 13=.map (some bS)/\σ_ 14=.agg #[jV ah.skier,jV ah.mat]/\PHeap.Le U U_/\sW w U U_ [.blk b2 28 B0,.blk bR 99 [.pointer none],.obj bS (.map dL eX)] w_/\MpR dL wAu wAv ([]:List (wAC × Int))) ?_ fun fU=>?_
 rintro u3 tX ⟨eG,bR,bS,dL,eX,fj,iR,fm,fq,jR,fM,jd⟩
 refine zh ?_ ?_
 exact ZD Z Z Z Z (fM.ldBA (j:=0) Z Z fj ZK zm (vs:=B0) Z Z) (dY _ _ ⟨eG,bR,bS,dL,eX,fj,iR,Z,fm,fq,jR,fM,jd⟩)
 refine OKS.mapPut (x:=.tmp 13) (y:=.tmp 14) (j:=2) (mk:=wAu) (mv:=wAv) (a:=ah) (v:=0) rfl rfl rfl (by first | exact .inl rfl | exact .inr rfl) fM rfl fm fq rfl (wBh zw) wCD jd rfl ?_
 intro ie g7 lR r8 qX
 have qY:sW w U eG [.blk b2 28 B0,.blk bR 99 [.pointer none],.obj bS (.map ie g7)] lR:=qX
 exact sq _ _ ⟨eG,bR,bS,ie,g7,fj,iR,fm,fq,jR,qY,r8⟩
 refine ZF (s:=gDe) (M:=fun σ_ w_=>∃ (U_:PHeap) (cw:Nat) (cJ:Array MapEntry) (dA:Nat),σ_ 1=.pointer (some ⟨b2,0,none⟩)/\σ_ 13=.map (some cw)/\σ_ 14=.agg #[jV ah.skier,jV ah.mat]/\PHeap.Le U U_/\sW w U U_ [.blk b2 28 B0,.obj cw (.map cJ dA)] w_/\MpR cJ wAu wAv (mput ([]:List (wAC × Int)) ah 0)) ?_ fun su=>?_
 rintro u4 tY ⟨gG,cw,cJ,dA,ft,fu,iT,jS,fN,je⟩
 refine oM Z fu (zh ?_ ?_)
 exact ZD Z Z Z Z (fN.ldBA (j:=0) Z Z ft ZK zm (vs:=B0) Z Z) (sn _ _ ⟨gG,cw,cJ,dA,ft,Z,fu,iT,Z,jS,fN,je⟩)
 refine zS (cs:=[.pointer none]) Z Z Z Z Z Zv Z fN ?_
 intro tZ mp qZ
 exact sm _ _ ⟨gG,mp,cw,cJ,dA,ft,rfl,fu,iT,rfl,jS,(qZ.pick [1,0,2] _ (by decide) rfl),je⟩
 refine ZF (s:=gCz) (M:=fun σ_ w_=>∃ (U_:PHeap) (dp:Nat),σ_ 1=.pointer (some ⟨b2,0,none⟩)/\σ_ 3=.pointer (some ⟨dp,0,none⟩)/\σ_ 12=.agg B0.toArray/\σ_ 14=.agg #[jV ah.skier,jV ah.mat]/\PHeap.Le U U_/\sW w U U_ [.blk b2 28 B0,.blk dp 99 [.pointer none]] w_) ?_ fun fV=>?_
 rintro u5 t7 ⟨lg,dp,oq,ot,ou,ow,sL,rc⟩
 refine OKS.makeMap Z Z Z Z Z rc ?_
 intro t8 mq re
 have r9:=MpR.nil wAu wAv
 exact dY _ _ ⟨lg,dp,mq,#[],0,oq,ot,ou,rfl,ow,sL,(re.pick [1,2,0] _ (by decide) rfl),r9⟩
 refine ZF (s:=gCy) (M:=fun σ_ w_=>∃ (U_:PHeap) (cx:Nat) (cy:Nat) (cK:Array MapEntry) (dB:Nat),σ_ 1=.pointer (some ⟨b2,0,none⟩)/\σ_ 3=.pointer (some ⟨cx,0,none⟩)/\σ_ 12=.agg B0.toArray/\σ_ 13=.map (some cy)/\PHeap.Le U U_/\sW w U U_ [.blk b2 28 B0,.blk cx 99 [.pointer none],.obj cy (.map cK dB)] w_/\MpR cK wAu wAv ([]:List (wAC × Int))) ?_ fun fW=>?_
 rintro u6 lS ⟨lh,cx,cy,cK,dB,ox,oy,oz,oB,sM,ri,pn⟩
 refine zM 0 Z Z Z Z (zL Z Z yO zQ Z) ri (fun hs=>wBa lS lh hs bB) (.inr Z) ?_
 rintro gH s8 uF lT sN rj ⟨rfl,rfl⟩
 have rk:sW w U gH [.blk b2 28 B0,.blk cx 99 [.pointer none],.obj cy (.map cK dB)] lT:=rj
 exact dY _ _ ⟨gH,cx,cy,cK,dB,ox,oy,oz,oB,Z,(sM.trans sN),rk,pn⟩
 refine ZF (s:=gDd) (M:=fun σ_ w_=>∃ (U_:PHeap) (bU:Nat) (dM:Array MapEntry) (eZ:Nat),σ_ 1=.pointer (some ⟨b2,0,none⟩)/\σ_ 12=.agg B0.toArray/\σ_ 13=.map (some bU)/\σ_ 14=.agg #[jV ah.skier,jV ah.mat]/\PHeap.Le U U_/\sW w U U_ [.blk b2 28 B0,.obj bU (.map dM eZ)] w_/\MpR dM wAu wAv ([]:List (wAC × Int))) ?_ fun fY=>?_
 rintro u7 t9 ⟨eH,bU,dM,eZ,iU,iV,fw,fy,jU,jt,jf⟩
 refine zh ?_ ?_
 refine OKS.mapPut (x:=.tmp 13) (y:=.tmp 14) (j:=1) (mk:=wAu) (mv:=wAv) (a:=ah) (v:=0) rfl rfl rfl (by first | exact .inl rfl | exact .inr rfl) jt rfl fw fy rfl (wBh zw) wCD jf rfl ?_
 intro ig g8 lU sc rn
 have ro:sW w U eH [.blk b2 28 B0,.obj bU (.map ig g8)] lU:=rn
 exact ss _ _ ⟨eH,bU,ig,g8,iU,iV,fw,fy,jU,ro,sc⟩
 refine zS (cs:=[.pointer none]) Z Z Z Z Z Zv Z jt ?_
 intro ua mr rp
 exact dY _ _ ⟨eH,mr,bU,dM,eZ,iU,rfl,iV,fw,fy,jU,(rp.pick [1,0,2] _ (by decide) rfl),jf⟩
 refine ZF (s:=gDm) (M:=fun σ_ w_=>∃ (U_:PHeap) (cz:Nat),σ_ 1=.pointer (some ⟨b2,0,none⟩)/\σ_ 3=.pointer (some ⟨cz,0,none⟩)/\σ_ 14=.agg #[jV ah.skier,jV ah.mat]/\PHeap.Le U U_/\sW w U U_ [.blk b2 28 B0,.blk cz 99 [.pointer none]] w_) ?_ fun jG=>?_
 rintro u9 ub ⟨gI,cz,fz,iW,iX,jW,fO⟩
 refine zh ?_ ?_
 exact ZD Z Z Z Z (fO.ldBA (j:=0) Z Z fz ZK zm (vs:=B0) Z Z) (fV _ _ ⟨gI,cz,fz,iW,Z,iX,jW,fO⟩)
 refine OKS.makeMap Z Z Z Z Z fO ?_
 intro ud ms rq
 have sd:=MpR.nil wAu wAv
 exact fU _ _ ⟨gI,cz,ms,#[],0,fz,iW,rfl,iX,jW,(rq.pick [1,2,0] _ (by decide) rfl),sd⟩
 refine ZF (s:=gDl) (M:=fun σ_ w_=>∃ (U_:PHeap) (bV:Nat) (bW:Nat) (cb:Array MapEntry) (cC:Nat),σ_ 1=.pointer (some ⟨b2,0,none⟩)/\σ_ 3=.pointer (some ⟨bV,0,none⟩)/\σ_ 13=.map (some bW)/\PHeap.Le U U_/\sW w U U_ [.blk b2 28 B0,.blk bV 99 [.pointer none],.obj bW (.map cb cC)] w_/\MpR cb wAu wAv ([]:List (wAC × Int))) ?_ fun jH=>?_
 rintro va lV ⟨gJ,bV,bW,cb,cC,fA,iY,iZ,jX,fP,jg⟩
 refine zh ?_ ?_
 exact ZD Z Z Z Z (fP.ldBA (j:=0) Z Z fA ZK zm (vs:=B0) Z Z) (fW _ _ ⟨gJ,bV,bW,cb,cC,fA,iY,Z,iZ,jX,fP,jg⟩)
 refine zM 0 Z Z Z Z (zL Z Z yO zQ Z) fP (fun hs=>wBa lV gJ hs bB) (.inr Z) ?_
 rintro gK s9 uG lW sO rx ⟨rfl,rfl⟩
 have ry:sW w U gK [.blk b2 28 B0,.blk bV 99 [.pointer none],.obj bW (.map cb cC)] lW:=rx
 exact fU _ _ ⟨gK,bV,bW,cb,cC,fA,iY,iZ,Z,(jX.trans sO),ry,jg⟩
 refine ZF (s:=gDn) (M:=fun σ_ w_=>∃ (U_:PHeap) (bK:Nat) (cL:Array MapEntry) (dC:Nat),σ_ 1=.pointer (some ⟨b2,0,none⟩)/\σ_ 13=.map (some bK)/\σ_ 14=.agg #[jV ah.skier,jV ah.mat]/\PHeap.Le U U_/\sW w U U_ [.blk b2 28 B0,.obj bK (.map cL dC)] w_/\MpR cL wAu wAv ([]:List (wAC × Int))) ?_ fun jJ=>?_
 rintro vb ue ⟨cY,bK,cL,dC,dN,dO,dP,gb,dV,fJ⟩
 refine zh ?_ ?_
 exact ZD Z Z Z Z (dV.ldBA (j:=0) Z Z dN ZK zm (vs:=B0) Z Z) (fY _ _ ⟨cY,bK,cL,dC,dN,Z,dO,dP,gb,dV,fJ⟩)
 refine zh ?_ ?_
 refine OKS.mapPut (x:=.tmp 13) (y:=.tmp 14) (j:=1) (mk:=wAu) (mv:=wAv) (a:=ah) (v:=0) rfl rfl rfl (by first | exact .inl rfl | exact .inr rfl) dV rfl dO dP rfl (wBh zw) wCD fJ rfl ?_
 intro ii g9 lX sf rA
 have rB:sW w U cY [.blk b2 28 B0,.obj bK (.map ii g9)] lX:=rA
 exact su _ _ ⟨cY,bK,ii,g9,dN,dO,dP,gb,rB,sf⟩
 refine zS (cs:=[.pointer none]) Z Z Z Z Z Zv Z dV ?_
 intro uf mu rC
 exact fU _ _ ⟨cY,mu,bK,cL,dC,dN,rfl,dO,dP,gb,(rC.pick [1,0,2] _ (by decide) rfl),fJ⟩
 refine ZF (s:=gDk) (M:=fun σ_ w_=>∃ (U_:PHeap) (bX:Nat),σ_ 1=.pointer (some ⟨b2,0,none⟩)/\σ_ 3=.pointer (some ⟨bX,0,none⟩)/\σ_ 12=.agg B0.toArray/\PHeap.Le U U_/\sW w U U_ [.blk b2 28 B0,.blk bX 99 [.pointer none]] w_) ?_ fun jK=>?_
 rintro vc lY ⟨gL,bX,i3,i4,i5,jY,ju⟩
 refine zh ?_ ?_
 refine OKS.makeMap Z Z Z Z Z ju ?_
 intro ug mw rD
 have sg:=MpR.nil wAu wAv
 exact fW _ _ ⟨gL,bX,mw,#[],0,i3,i4,i5,rfl,jY,(rD.pick [1,2,0] _ (by decide) rfl),sg⟩
 refine zM 0 Z Z Z Z (zL Z Z yO zQ Z) ju (fun hs=>wBa lY gL hs bB) (.inr Z) ?_
 rintro gM tc uH lZ sP rE ⟨rfl,rfl⟩
 have pu:sW w U gM [.blk b2 28 B0,.blk bX 99 [.pointer none]] lZ:=rE
 exact fV _ _ ⟨gM,bX,i3,i4,i5,Z,(jY.trans sP),pu⟩
 refine ZF (s:=gDj) (M:=fun σ_ w_=>∃ (U_:PHeap),σ_ 1=.pointer (some ⟨b2,0,none⟩)/\σ_ 12=.agg B0.toArray/\σ_ 14=.agg #[jV ah.skier,jV ah.mat]/\PHeap.Le U U_/\sW w U U_ [.blk b2 28 B0] w_) ?_ fun jA=>?_
 rintro uL td ⟨gv,ij,ik,il,jM,jh⟩
 refine zh ?_ ?_
 refine OKS.makeMap Z Z Z Z Z jh ?_
 intro te l3 py
 have rW:=MpR.nil wAu wAv
 exact fY _ _ ⟨gv,l3,#[],0,ij,ik,rfl,il,jM,(py.pick [1,0] _ (by decide) rfl),rW⟩
 refine zS (cs:=[.pointer none]) Z Z Z Z Z Zv Z jh ?_
 intro tf l4 pz
 exact fV _ _ ⟨gv,l4,ij,rfl,ik,il,jM,(pz.pick [1,0] _ (by decide) rfl)⟩
 refine ZF (s:=gDi) (M:=fun σ_ w_=>∃ (U_:PHeap) (bN:Nat) (bZ:Array MapEntry) (cB:Nat),σ_ 1=.pointer (some ⟨b2,0,none⟩)/\σ_ 12=.agg B0.toArray/\σ_ 13=.map (some bN)/\PHeap.Le U U_/\sW w U U_ [.blk b2 28 B0,.obj bN (.map bZ cB)] w_/\MpR bZ wAu wAv ([]:List (wAC × Int))) ?_ fun jB=>?_
 rintro uM li ⟨gw,bN,bZ,cB,im,io,ip,jN,ji,i6⟩
 refine zh ?_ ?_
 refine zM 0 Z Z Z Z (zL Z Z yO zQ Z) ji (fun hs=>wBa li gw hs bB) (.inr Z) ?_
 rintro gx sT uy lj sv pB ⟨rfl,rfl⟩
 have pC:sW w U gx [.blk b2 28 B0,.obj bN (.map bZ cB)] lj:=pB
 exact fY _ _ ⟨gx,bN,bZ,cB,im,io,ip,Z,(jN.trans sv),pC,i6⟩
 refine zS (cs:=[.pointer none]) Z Z Z Z Z Zv Z ji ?_
 intro tg l5 pD
 exact fW _ _ ⟨gw,l5,bN,bZ,cB,im,rfl,io,ip,jN,(pD.pick [1,0,2] _ (by decide) rfl),i6⟩
 refine zh ?_ ?_
 refine ZD Z Z Z Z (bD.ldBA (j:=0) Z Z Z ZK zm (vs:=B0) Z Z) (zh ?_ ?_)
 refine OKS.makeMap Z Z Z Z Z bD ?_
 intro th l6 pE
 have rX:=MpR.nil wAu wAv
 exact jB _ _ ⟨U,l6,#[],0,rfl,rfl,rfl,(zO _),(pE.pick [1,0] _ (by decide) rfl),rX⟩
 refine zh ?_ ?_
 refine zM 0 Z Z Z Z (zL Z Z yO zQ Z) bD (fun hs=>wBa gR U hs bB) (.inr Z) ?_
 rintro gy sU uz lm sw pF ⟨rfl,rfl⟩
 have pG:sW w U gy [.blk b2 28 B0] lm:=pF
 exact jA _ _ ⟨gy,Z,Z,Z,sw,pG⟩
 refine zS (cs:=[.pointer none]) Z Z Z Z Z Zv Z bD ?_
 intro tm l7 pH
 exact jK _ _ ⟨U,l7,rfl,rfl,rfl,(zO _),(pH.pick [1,0] _ (by decide) rfl)⟩
 refine zh ?_ ?_
 refine OKS.makeMap Z Z Z Z Z bD ?_
 intro ln cZ dS
 have fT:=MpR.nil wAu wAv
 refine zh ?_ ?_
 exact ZD rfl rfl rfl rfl (dS.ldBA (j:=1) rfl rfl rfl ZK zm (vs:=B0) rfl rfl) (jB _ _ ⟨U,cZ,#[],0,rfl,rfl,rfl,(zO _),(dS.pick [1,0] _ (by decide) rfl),fT⟩)
 refine zh ?_ ?_
 refine zM 0 Z Z Z Z (zL Z Z yO zQ Z) dS (fun hs=>wBa ln U hs bB) (.inr Z) ?_
 rintro gz sV uA lp sA pI ⟨rfl,rfl⟩
 have pJ:sW w U gz [.obj cZ (.map #[] 0),.blk b2 28 B0] lp:=pI
 exact jJ _ _ ⟨gz,cZ,#[],0,rfl,rfl,rfl,sA,(pJ.pick [1,0] _ (by decide) rfl),fT⟩
 refine zS (cs:=[.pointer none]) Z Z Z Z Z Zv Z dS ?_
 intro tn l8 pK
 exact jH _ _ ⟨U,l8,cZ,#[],0,rfl,rfl,rfl,(zO _),(pK.pick [2,0,1] _ (by decide) rfl),fT⟩
 refine zh ?_ ?_
 refine zM 0 Z Z Z Z (zL Z Z yO zQ Z) bD (fun hs=>wBa gR U hs bB) (.inr Z) ?_
 rintro cW sX uB lq fZ pL ⟨rfl,rfl⟩
 have dT:sW w U cW [.blk b2 28 B0] lq:=pL
 refine zh ?_ ?_
 exact ZD Z Z Z Z (dT.ldBA (j:=0) Z Z Z ZK zm (vs:=B0) Z Z) (jA _ _ ⟨cW,Z,Z,Z,fZ,dT⟩)
 refine zh ?_ ?_
 refine OKS.makeMap Z Z Z Z Z dT ?_
 intro tp ma pM
 have rY:=MpR.nil wAu wAv
 exact jJ _ _ ⟨cW,ma,#[],0,rfl,rfl,rfl,fZ,(pM.pick [1,0] _ (by decide) rfl),rY⟩
 refine zS (cs:=[.pointer none]) Z Z Z Z Z Zv Z dT ?_
 intro tq mb pN
 exact jG _ _ ⟨cW,mb,rfl,rfl,rfl,fZ,(pN.pick [1,0] _ (by decide) rfl)⟩
 refine zS (cs:=[.pointer none]) Z Z Z Z Z Zv Z bD ?_
 intro ls da dU
 refine zh ?_ ?_
 exact ZD rfl rfl rfl rfl (dU.ldBA (j:=1) rfl rfl rfl ZK zm (vs:=B0) rfl rfl) (jK _ _ ⟨U,da,rfl,rfl,rfl,(zO _),(dU.pick [1,0] _ (by decide) rfl)⟩)
 refine zh ?_ ?_
 refine OKS.makeMap Z Z Z Z Z dU ?_
 intro tr mc pO
 have rZ:=MpR.nil wAu wAv
 exact jH _ _ ⟨U,da,mc,#[],0,rfl,rfl,rfl,(zO _),(pO.pick [2,1,0] _ (by decide) rfl),rZ⟩
 refine zM 0 Z Z Z Z (zL Z Z yO zQ Z) dU (fun hs=>wBa ls U hs bB) (.inr Z) ?_
 rintro gA sY uC lu sB pP ⟨rfl,rfl⟩
 have pQ:sW w U gA [.blk da 99 [.pointer none],.blk b2 28 B0] lu:=pP
 exact jG _ _ ⟨gA,da,rfl,rfl,rfl,sB,(pQ.pick [1,0] _ (by decide) rfl)⟩
 rintro uN lv ⟨j5,b6,b8,ai,cD,dv,iq,mA,dZ,jj,oH⟩
 refine zK (sR gBx Z (oL Z (jj.ldBA (j:=0) Z Z iq ZK zm (vs:=B0) Z Z) ?_))
 have i7:=rG.le dZ
 have i8:=rH.le dZ
 have i9:=rJ.le dZ
 have ja:=rK.le dZ
 have q:=bnd rO
 obtain ⟨⟨⟩,oI,jx⟩:=q
 try dsimp only at jx
 refine zM 0 Z Z Z Z (zL Z Z Try.call81 (zC Z zQ) Z) jj (fun hs=>wFp p0 aj aq ak au am av ap az lv j5 hs i7 i8 i9 ja oI) (.inr Z) ?_
 rintro gB sZ uD lw d5 pR ⟨gT,rfl,rfl,oK⟩
 let B6:Res:=.blk b6 99 [.pointer (some ⟨b8,0,none⟩)]
 have pS:sW w U gB [.blk b2 28 B0,B6,.blk b8 124 [.slice aj p0.Starts.length aq,.slice ak p0.Splits.length au,.slice am p0.Clocks.length av,.slice ap p0.Readings.length az,.map (some ai),.slice none 0 0],.obj ai (.map cD dv)] lw:=pR
 refine eN (zd (yU fun eg dW=>?_))
 have mB:eg 1=.pointer (some ⟨b2,0,none⟩):=(dW 1).trans iq
 have ir:eg 3=.pointer (some ⟨b6,0,none⟩):=(dW 3).trans mA
 have mC:eg 19=.func (.func 105) #[] #[.pointer (some ⟨gT,0,none⟩)]:=(dW 19).trans rfl
 clear dW
 have pT:=pS.nilrow 130 7
 refine bnK jx fun j0 rN jy=>?_
 have fB:=i7.le d5
 have fC:=i8.le d5
 have fD:=i9.le d5
 have fE:=ja.le d5
 refine CK.rangeY (S:=(List wAZ) × (List (wAC × Int))) (E:=Empty) (ar:=wSE) (PY:=(fun (s_:(List wAZ) × (List (wAC × Int))) (U_:PHeap) (L_:List Res)=>match s_ with | (l1591,l1595)=>∃ (bM:Option Addr) (bY:Nat) (bu:Array MapEntry) (bv:Nat),L_=[.blk b2 28 B0,B6,.row bM bY 130 7 (hH wAS l1591),.blk b8 124 [.slice aj p0.Starts.length aq,.slice ak p0.Splits.length au,.slice am p0.Clocks.length av,.slice ap p0.Readings.length az,.map (some ai),.slice bM l1591.length bY],.obj ai (.map bu bv)]/\MpR bu wAu wAv l1595)) (PE:=(fun (_:Empty) _ _=>False)) (exO:=Empty.elim) (s0:=([],jL)) (rr:=j0) mC Try.call105 (pT.pick [1,2,0,3,4] _ (by decide) rfl) (by decide) (fun _ _ _ h=>by obtain rfl:=h;rfl) (fun e=>nomatch e) ⟨none,0,cD,dv,rfl,oH⟩ (fun l w1 L1 PY' PE' pq po rF=>wFD PY' PE' _ l _ p0 gT aj aq ak au am av ap az w1 L1 gB pq po rF oK fB fC fD fE rN) ?_ ?_
 rintro bd ux ur ⟨l1591,l1595⟩ aW uI uw ec s5 sS ge bh d7 pU pp rI jv ef cf
 obtain ⟨bM,bY,bu,bv,rfl,oO⟩:=pp
 obtain rfl:=rI
 replace cf:∀ t,ef t=upd eg 20 (.agg #[jV aW.Kind,jV aW.Skier,jV aW.Index,.bool aW.Up]) t:=cf
 have mD:ef 20=.agg #[jV aW.Kind,jV aW.Skier,jV aW.Index,.bool aW.Up]:=(cf 20).trans (wCe _ _ _)
 have it:ef 1=.pointer (some ⟨b2,0,none⟩):=(cf 1).trans ((wDV _ _ (by decide)).trans mB)
 have mE:ef 3=.pointer (some ⟨b6,0,none⟩):=(cf 3).trans ((wDV _ _ (by decide)).trans ir)
 clear cf
 let B7:Res:=.blk b8 124 [.slice aj p0.Starts.length aq,.slice ak p0.Splits.length au,.slice am p0.Clocks.length av,.slice ap p0.Readings.length az,.map (some ai),.slice bM l1591.length bY]
 let B8:Res:=.row bM bY 130 7 (hH wAS l1591)
 have pV:St bh ec [.obj bd ge,.blk b2 28 B0,B6,B8,B7,.obj ai (.map bu bv)] sS:=pU
 try dsimp only at jv
 refine rR gBy Z (zS (cs:=[jV 0,jV 0,jV 0,.bool false]) Z Z Z Z Z Try.zeroValue78 Z pV ?_)
 intro tu bb pW
 let B9:List Value:=[jV aW.Kind,jV aW.Skier,jV aW.Index,.bool aW.Up]
 refine zV (j:=0) (vs:=B9) Z Z Z Z pW Z Z mD Z yF (zA Z) Z Z Z ?_
 intro lx pX
 have pY:St bh ec [.blk bb 78 B9,.obj bd ge,.blk b2 28 B0,B6,B8,B7,.obj ai (.map bu bv)] lx:=pX
 refine zi ⟨rfl,rfl,_,_,(pY.pick [1,0,2,3,4,5,6] [.obj bd ge,.blk bb 78 B9,.blk b2 28 B0,B6,B8,B7,.obj ai (.map bu bv)] (by decide) rfl),fun gO bm pZ=>?_⟩
 have fK:St bh ec [.obj bd bm,.blk bb 78 B9,.blk b2 28 B0,B6,B8,B7,.obj ai (.map bu bv)] gO:=pZ
 refine zd (sR (.fl 0 (.fl 1 (.fx 2 (wQt (.fx 7 (.fx 8 (.fx 9 (.fx 10 (.fl 11 .nil) .stop) .stop) .stop) .stop)) .stop))) Z (oL Z (fK.ldBA (j:=2) Z Z it ZK zm (vs:=B0) Z Z) (oL Z (fK.ldBA (j:=1) Z Z Z yQ yF (vs:=B9) Z Z) ?_)))
 have oP:=fB.le d7
 have oU:=fC.le d7
 have oW:=fD.le d7
 have oX:=fE.le d7
 have q:=bnd jv
 obtain ⟨⟨be,bf,bq⟩,oY,jz⟩:=q
 try dsimp only at jz
 refine zM 0 Z Z Z Z (zL Z Z Try.call70 (zC Z (zC Z zQ)) Z) fK (fun hs=>wFq p0 aj aq ak au am av ap az aW gO ec hs oP oU oW oX oY) (.inr Z) ?_
 rintro cn s6 uE ly uu p6 ⟨rfl,rfl⟩
 have p7:St bh cn [.obj bd bm,.blk bb 78 B9,.blk b2 28 B0,B6,B8,B7,.obj ai (.map bu bv)] ly:=p6
 refine oM Z Z (oR Z (zX Z Z (v:=.agg #[jV be.skier,jV be.mat]) Z) (oR Z (zX Z Z (v:=.agg #[jV bf.skier,jV bf.mat]) Z) (oR Z (zX Z Z (v:=jV bq) Z) ?_)))
 let cV:List Value:=[jV 0,jV 0]
 refine zS (cs:=cV) Z Z Z Z Z zf Z p7 ?_
 intro tv bn p8
 refine zS (cs:=cV) Z Z Z Z Z zf Z p8 ?_
 intro tw bo p9
 let bg:List Value:=[jV be.skier,jV be.mat]
 refine zV (j:=1) (vs:=bg) Z Z Z Z p9 Z Z Z Z zG (zA Z) Z Z Z ?_
 intro lz qa
 have qb:St bh cn [.blk bo 104 cV,.blk bn 104 bg,.obj bd bm,.blk bb 78 B9,.blk b2 28 B0,B6,B8,B7,.obj ai (.map bu bv)] lz:=qa
 let bi:List Value:=[jV bf.skier,jV bf.mat]
 refine zV (j:=0) (vs:=bi) Z Z Z Z qb Z Z Z Z zG (zA Z) Z Z Z ?_
 intro lD qc
 have fL:St bh cn [.blk bo 104 bi,.blk bn 104 bg,.obj bd bm,.blk bb 78 B9,.blk b2 28 B0,B6,B8,B7,.obj ai (.map bu bv)] lD:=qc
 refine oA Z Z (eN (zK (sR fL4 Z (oL Z (fL.ldBA (j:=1) Z Z Z ze zG (vs:=bg) Z Z) (oL Z (fL.ldBA (j:=0) Z Z Z ze zG (vs:=bi) Z Z) ?_)))))
 let gg:List Value:=[jV be.skier,jV be.mat,jV bf.skier,jV bf.mat]
 refine oR Z (Runs.buildA (pv:=[(0,.agg bg.toArray),(1,.agg bi.toArray)]) (z:=[jV 0,jV 0,jV 0,jV 0]) (cs:=gg) Z (wAD Z (wAD Z wAO)) Try.zeroValue180 Try.runUnderlying180 zG Z Z) (oM Z Z (eN (zd (bnK jz fun ba rL rP=>?_))))
 have q:=wBH rL
 obtain ⟨fR,rM⟩:=q
 replace fR:=zI fR
 refine CK.forN' (fun cP cQ σ_ w_=>∃ (U_:PHeap) (cE:Array MapEntry) (dw:Nat),σ_ 31=jV (↑cP:Int)/\σ_ 1=.pointer (some ⟨b2,0,none⟩)/\σ_ 3=.pointer (some ⟨b6,0,none⟩)/\σ_ 4=.pointer (some ⟨bb,0,none⟩)/\σ_ 5=.pointer (some ⟨bn,0,none⟩)/\σ_ 6=.pointer (some ⟨bo,0,none⟩)/\σ_ 7=jV bq/\σ_ 30=.agg gg.toArray/\PHeap.Le cn U_/\St bh U_ [.blk bo 104 bi,.blk bn 104 bg,.obj bd bm,.blk bb 78 B9,.blk b2 28 B0,B6,B8,B7,.obj ai (.map cE dw)] w_/\MpR cE wAu wAv cQ) rM ?_ ?_ ?_
 exact ⟨cn,bu,bv,Z,it,mE,Z,Z,Z,Z,Z,(zO _),fL,oO⟩
 rintro cP cQ uJ uO tz fQ ⟨cX,cE,dw,dQ,iu,cM,iv,iw,iy,iz,fc,jO,qd,dR⟩ sj
 have gW:Hid ((↑cP:Int) < 2):=zI (wAy fQ)
 replace fQ:=zI fQ
 have jw:Hid (w64 ((↑cP:Int) + 1)=(↑(cP + 1):Int)):=zI (by have h1:=fR.out;have h2:=gW.out;rw [wAV] <;> omega)
 refine sR fL1 Z (oR Z (zY Z dQ Z) (eN (zK (cT Z gW (kN (zK (zd (sR gCe Z (bnK sj fun cg fG rQ=>oR Z (Runs.ixA (cs:=hH wHB ([be,bf]:List wAC)) Z fc dQ Try.runUnderlying180 zG (wBM fG) (wBP fG) (wCS ze zG (wIm (sz:=2) (fun _=>Z) _ _ (wAW fG)))) (zS (cs:=cV) Z Z Z Z Z zf Z qd ?_))))))))))
 intro tA gU qe
 let ci:List Value:=[jV cg.skier,jV cg.mat]
 refine zV (j:=0) (vs:=ci) Z Z Z Z qe Z Z Z Z zG (zA Z) Z Z Z ?_
 intro eI qf
 have qh:St bh cX [.blk gU 104 ci,.blk bo 104 bi,.blk bn 104 bg,.obj bd bm,.blk bb 78 B9,.blk b2 28 B0,B6,B8,B7,.obj ai (.map cE dw)] eI:=qf
 refine eN (zK (ZA ZB [1,3,3,1,1,1,3,3,3,3,3] wSR (by kernel_rfl) ?_))
 have bL:=qh.drew
 generalize hw_W1729:({ eI with drawn:=eI.drawn + 1 }:World)=gP at bL ⊢
 refine oL Z (bL.ldB (j:=6) Z Z cM yR (v:=.pointer (some ⟨b8,0,none⟩)) Z) (oR Z (ZT Z Z) (oR Z (zF Z Z zo Z Zk) (oL Z (bL.ldB (j:=8) Z Z Z Zo (v:=.map (some ai)) Z) (oL Z (bL.ldBA (j:=0) Z Z Z ze zG (vs:=ci) Z Z) (oL Z (bL.lookup2 (j:=9) (mk:=wAu) (mv:=wAv) (a:=cg) (z:=0) Z Z Z Z (wBh zw) wCD ZE dR) (oM Z Z (oR Z (zX Z Z (v:=jV (wAg cQ cg 0)) Z) (oR Z (zX Z Z (v:=.bool (wIC cQ cg)) Z) (oA Z Z (oA Z Z (eN (sR fL2 Z (oM Z Z (oR Z (Zc Z Z) (eN (ifc rQ ?_ ?_))))))))))))))))
 intro eJ rS
 refine ZU (nC eJ.out) (Zq (zu (zH (rR fL2 Z (oR Z (ZR (zW Z dQ Z) (congrArg (jV) jw.out)) (oM Z Z (zi ?_)))))))
 cases rS
 exact zH ⟨rfl,⟨cX,cE,dw,rfl,iu,cM,iv,iw,iy,iz,fc,jO,(bL.pick [1,2,3,4,5,6,7,8,9] _ (by decide) rfl),dR⟩⟩
 intro eJ rT
 refine ZP (nF (eJ.out)) (ZA ZB [1,3,3,1,1,1,3,3,1,1,0] (fC0_9 (.fx 10 .nil .stop)) (by kernel_rfl) ?_)
 have bC:=bL.drew
 generalize hw_W1737:({ gP with drawn:=gP.drawn + 1 }:World)=tB at bC ⊢
 refine ZG rfl rfl rfl rfl (bC.ldB (j:=6) rfl rfl cM yR (v:=.pointer (some ⟨b8,0,none⟩)) rfl) rfl (zg rfl rfl rfl rfl (fun _=>ZT rfl rfl) (zg rfl rfl rfl rfl (fun _=>zF rfl rfl zo rfl Zk) (ZG rfl rfl rfl rfl (bC.ldB (j:=8) rfl rfl rfl Zo (v:=.map (some ai)) rfl) rfl (ZG rfl rfl rfl rfl (bC.ldBA (j:=0) rfl rfl rfl ze zG (vs:=ci) rfl rfl) rfl (ZG rfl rfl rfl rfl (bC.ldB (j:=6) rfl rfl cM yR (v:=.pointer (some ⟨b8,0,none⟩)) rfl) rfl (zg rfl rfl rfl rfl (fun _=>ZT rfl rfl) (zg rfl rfl rfl rfl (fun _=>zF rfl rfl zo rfl Zk) (ZG rfl rfl rfl rfl (bC.ldB (j:=8) rfl rfl rfl Zo (v:=.map (some ai)) rfl) rfl (ZG rfl rfl rfl rfl (bC.lenM (j:=9) (mk:=wAu) (mv:=wAv) rfl rfl rfl (wBh zw) dR) rfl (OKS.mapPut (x:=.tmp 48) (y:=.tmp 49) (z:=.tmp 54) (j:=9) (mk:=wAu) (mv:=wAv) (a:=cg) (v:=(↑(cQ.length):Int)) rfl rfl rfl (by first | exact .inl rfl | exact .inr rfl) bC rfl rfl rfl rfl (wBh zw) wCD dR rfl ?_))))))))))
 intro ib gX lE r6 qi
 have qj:St bh cX [.blk gU 104 ci,.blk bo 104 bi,.blk bn 104 bg,.obj bd bm,.blk bb 78 B9,.blk b2 28 B0,B6,B8,B7,.obj ai (.map ib gX)] lE:=qi
 refine zi (zu (zH (rR fL2 Z (oR Z (ZR (zW Z dQ Z) (congrArg (jV) jw.out)) (oM Z Z (zi ?_))))))
 cases rT
 exact zH ⟨rfl,⟨cX,ib,gX,rfl,iu,cM,iv,iw,iy,iz,fc,jO,(qj.pick [1,2,3,4,5,6,7,8,9] _ (by decide) rfl),r6⟩⟩
 rintro uP gQ ⟨bz,bt,bs,oG,uh,cd,mF,mG,mH,mI,ui,uv,qk,cN⟩
 have my:Hid (¬ ((↑((2:Int) - 0).toNat:Int) < 2)):=zI (wAi)
 refine sR fL1 rfl (zg rfl rfl rfl rfl (fun _=>zY rfl oG rfl) (eN (zK (cF Z my (Zb (zl (zl (ZX (zH (bnK rP fun br fH fS=>ZA ZB [2,1,3,3,1,1,1,3,3,1,1,1,1,3,3,1,1,1,3,3,2,0,3,3,0] (wSY (.fx 0 (.fx 20 gCn .stop) (.fx 20 (.fx 0 gCn (.fx 21 (.fx 0 gCf .stop) .stop)) .stop))) (by kernel_rfl) ?_))))))))))
 have bk:=qk.drew
 generalize hw_W1786:({ gQ with drawn:=gQ.drawn + 1 }:World)=tC at bk ⊢
 refine oL Z (bk.ldB (j:=5) Z Z cd yR (v:=.pointer (some ⟨b8,0,none⟩)) Z) (oR Z (ZT Z Z) (oR Z (zF Z Z zo Z yS) (oL Z (bk.ldB (j:=7) Z Z Z Try.isAgg122 (v:=.slice bM l1591.length bY) Z) (oL Z (bk.ldBA (j:=3) Z Z mF yQ yF (vs:=B9) Z Z) (oL Z (bk.ldB (j:=5) Z Z cd yR (v:=.pointer (some ⟨b8,0,none⟩)) Z) (oR Z (ZT Z Z) (oR Z (zF Z Z zo Z Zk) (oL Z (bk.ldB (j:=7) Z Z Z Zo (v:=.map (some ai)) Z) (oL Z (bk.ldBA (j:=1) Z Z mG ze zG (vs:=bg) Z Z) (oL Z (bk.lookup1 (j:=8) (mk:=wAu) (mv:=wAv) (a:=be) (z:=0) Z Z Z Z (wBh zw) wCD ZE cN) (oL Z (bk.ldB (j:=5) Z Z cd yR (v:=.pointer (some ⟨b8,0,none⟩)) Z) (oR Z (ZT Z Z) (oR Z (zF Z Z zo Z Zk) (oL Z (bk.ldB (j:=7) Z Z Z Zo (v:=.map (some ai)) Z) (oL Z (bk.ldBA (j:=0) Z Z mH ze zG (vs:=bi) Z Z) (oL Z (bk.lookup1 (j:=8) (mk:=wAu) (mv:=wAv) (a:=bf) (z:=0) Z Z Z Z (wBh zw) wCD ZE cN) (oM Z mI ?_)))))))))))))))))
 let cj:List Value:=[jV aW.Kind,jV aW.Skier,jV aW.Index,.bool aW.Up,jV (wAg ba be 0),jV (wAg ba bf 0),jV bq]
 let en:List Value:=[jV 0,jV 0,jV 0,.bool false,jV 0,jV 0,jV 0]
 refine oR Z (zy (pv:=[(0,.agg B9.toArray),(1,jV (wAg ba be 0)),(2,jV (wAg ba bf 0)),(3,jV bq)]) (z:=en) (cs:=cj) Z (wAD Z (wAD Z (wAD Z (wAD Z wAO)))) Try.zeroValue130 wNf Z Z) (zh ?_ ?_)
 refine ZD Z Z Z Z (bk.ldB (j:=5) Z Z cd yR (v:=.pointer (some ⟨b8,0,none⟩)) Z) (ZC (pv:=[(0,.agg cj.toArray)]) (zs:=en) (cs:=cj) Z Z Z Z Z (wAD Z wAO) Try.runUnderlying122 Try.sizeOf130 Try.zeroValue130 Z Z Z Z Z bk ?_)
 intro lF md qm
 let eu:Res:=.row (some ⟨md,0,none⟩) 1 130 7 (hH wAS [(⟨aW,(wAg ba be 0),(wAg ba bf 0),bq⟩:wAZ)])
 have jk:St bh bz [eu,.blk bo 104 bi,.blk bn 104 bg,.obj bd bm,.blk bb 78 B9,.blk b2 28 B0,B6,B8,B7,.obj ai (.map bt bs)] lF:=qm
 refine Zz (j:=7) (enc:=wAS) (xs:=l1591) (ys:=[(⟨aW,(wAg ba be 0),(wAg ba bf 0),bq⟩:wAZ)]) (zs:=br) rfl rfl rfl rfl rfl Try.underlying122 wKG rfl rfl rfl rfl rfl rfl jk rfl rfl rfl (jk.srcR (j:=0) rfl (by decide) (wAG (f:=wAS) (sz:=7) (fun _=>rfl) [(⟨aW,(wAg ba be 0),(wAg ba bf 0),bq⟩:wAZ)])) (fun _=>rfl) (fun _=>rfl) fH rfl ?_
 intro cR dq lG qn
 let gh:Res:=.row cR dq 130 7 (hH wAS br)
 have qo:St bh bz [eu,.blk bo 104 bi,.blk bn 104 bg,.obj bd bm,.blk bb 78 B9,.blk b2 28 B0,B6,gh,B7,.obj ai (.map bt bs)] lG:=qn
 refine oR Z (ZT Z Z) (oR Z (zF Z Z zo Z yS) (zV (j:=8) (vs:=[.slice cR br.length dq]) Z Z Z Z qo Z Z Z Z yS (zA Z) Z Z Z ?_))
 intro lH qp
 have qq:St bh bz [eu,.blk bo 104 bi,.blk bn 104 bg,.obj bd bm,.blk bb 78 B9,.blk b2 28 B0,B6,gh,.blk b8 124 [.slice aj p0.Starts.length aq,.slice ak p0.Splits.length au,.slice am p0.Clocks.length av,.slice ap p0.Readings.length az,.map (some ai),.slice cR br.length dq],.obj ai (.map bt bs)] lH:=qp
 refine zi (zu ?_)
 obtain rfl:=nI fS
 exact ⟨_,_,(qq.pick [3,5,6,7,8,9] _ (by decide) rfl),rfl,⟨cR,dq,bt,bs,rfl,cN⟩⟩
 refine ZC (pv:=[(0,.agg cj.toArray)]) (zs:=en) (cs:=cj) Z Z Z Z Z (wAD Z wAO) Try.runUnderlying122 Try.sizeOf130 Try.zeroValue130 Z Z Z Z Z bk ?_
 intro lI me qr
 let cm:Res:=.row (some ⟨me,0,none⟩) 1 130 7 (hH wAS [(⟨aW,(wAg ba be 0),(wAg ba bf 0),bq⟩:wAZ)])
 have cO:St bh bz [cm,.blk bo 104 bi,.blk bn 104 bg,.obj bd bm,.blk bb 78 B9,.blk b2 28 B0,B6,B8,B7,.obj ai (.map bt bs)] lI:=qr
 refine zh ?_ ?_
 refine ZD rfl rfl rfl rfl (cO.ldB (j:=6) rfl rfl cd yR (v:=.pointer (some ⟨b8,0,none⟩)) rfl) (Zz (j:=7) (enc:=wAS) (xs:=l1591) (ys:=[(⟨aW,(wAg ba be 0),(wAg ba bf 0),bq⟩:wAZ)]) (zs:=br) rfl rfl rfl rfl rfl Try.underlying122 wKG rfl rfl rfl rfl rfl rfl cO rfl rfl rfl (cO.srcR (j:=0) rfl (by decide) (wAG (f:=wAS) (sz:=7) (fun _=>rfl) [(⟨aW,(wAg ba be 0),(wAg ba bf 0),bq⟩:wAZ)])) (fun _=>rfl) (fun _=>rfl) fH rfl ?_)
 intro cS dr lJ qt
 let gj:Res:=.row cS dr 130 7 (hH wAS br)
 have qu:St bh bz [cm,.blk bo 104 bi,.blk bn 104 bg,.obj bd bm,.blk bb 78 B9,.blk b2 28 B0,B6,gj,B7,.obj ai (.map bt bs)] lJ:=qt
 refine oR Z (ZT Z Z) (oR Z (zF Z Z zo Z yS) (zV (j:=8) (vs:=[.slice cS br.length dr]) Z Z Z Z qu Z Z Z Z yS (zA Z) Z Z Z ?_))
 intro lK qv
 have qw:St bh bz [cm,.blk bo 104 bi,.blk bn 104 bg,.obj bd bm,.blk bb 78 B9,.blk b2 28 B0,B6,gj,.blk b8 124 [.slice aj p0.Starts.length aq,.slice ak p0.Splits.length au,.slice am p0.Clocks.length av,.slice ap p0.Readings.length az,.map (some ai),.slice cS br.length dr],.obj ai (.map bt bs)] lK:=qv
 refine zi (zu ?_)
 obtain rfl:=nI fS
 exact ⟨_,_,(qw.pick [3,5,6,7,8,9] _ (by decide) rfl),rfl,⟨cS,dr,bt,bs,rfl,cN⟩⟩
 refine Zz (j:=7) (enc:=wAS) (xs:=l1591) (ys:=[(⟨aW,(wAg ba be 0),(wAg ba bf 0),bq⟩:wAZ)]) (zs:=br) rfl rfl rfl rfl rfl Try.underlying122 wKG rfl rfl rfl rfl rfl rfl cO rfl rfl rfl (cO.srcR (j:=0) rfl (by decide) (wAG (f:=wAS) (sz:=7) (fun _=>rfl) [(⟨aW,(wAg ba be 0),(wAg ba bf 0),bq⟩:wAZ)])) (fun _=>rfl) (fun _=>rfl) fH rfl ?_
 intro cU dt lL qx
 let gm:Res:=.row cU dt 130 7 (hH wAS br)
 have jl:St bh bz [cm,.blk bo 104 bi,.blk bn 104 bg,.obj bd bm,.blk bb 78 B9,.blk b2 28 B0,B6,gm,B7,.obj ai (.map bt bs)] lL:=qx
 refine ZD Z Z Z Z (jl.ldB (j:=6) Z Z cd yR (v:=.pointer (some ⟨b8,0,none⟩)) Z) (oR Z (ZT Z Z) (oR Z (zF Z Z zo Z yS) (zV (j:=8) (vs:=[.slice cU br.length dt]) Z Z Z Z jl Z Z Z Z yS (zA Z) Z Z Z ?_)))
 intro lM qy
 have qz:St bh bz [cm,.blk bo 104 bi,.blk bn 104 bg,.obj bd bm,.blk bb 78 B9,.blk b2 28 B0,B6,gm,.blk b8 124 [.slice aj p0.Starts.length aq,.slice ak p0.Splits.length au,.slice am p0.Clocks.length av,.slice ap p0.Readings.length az,.map (some ai),.slice cU br.length dt],.obj ai (.map bt bs)] lM:=qy
 refine zi (zu ?_)
 obtain rfl:=nI fS
 exact ⟨_,_,(qz.pick [3,5,6,7,8,9] _ (by decide) rfl),rfl,⟨cU,dt,bt,bs,rfl,cN⟩⟩
 rintro jZ eE s7 lN d9 qA
 rcases j0 with ⟨j3,uK⟩ | mz
 try dsimp only at jy
 rintro ⟨eh,eK,dD,du,rfl,o0⟩
 let ey:Res:=.blk b8 124 [.slice aj p0.Starts.length aq,.slice ak p0.Splits.length au,.slice am p0.Clocks.length av,.slice ap p0.Readings.length az,.map (some ai),.slice eh j3.length eK]
 let eD:Res:=.row eh eK 130 7 (hH wAS j3)
 have jm:sW w U eE [.blk b2 28 B0,B6,eD,ey,.obj ai (.map dD du),.obj jZ (.deferred (some []))] lN:=qA
 refine zu (zH (sR fL2 Z (oL Z (jm.ldB (j:=1) Z Z ir yR (v:=.pointer (some ⟨b8,0,none⟩)) Z) (oA Z Z (eN (zU ?_))))))
 have o3:=fB.le d9
 have o5:=fC.le d9
 have o6:=fD.le d9
 have o7:=fE.le d9
 refine wPi (by first | exact .inl rfl | exact .inr rfl) (rbs:=[jZ]) (L:=[.blk b2 28 B0,B6,eD,ey,.obj ai (.map dD du)]) jm fun lO qB=>?_
 have qC:sW w U eE [.blk b2 28 B0,B6,eD,ey,.obj ai (.map dD du)] lO:=qB
 cases jy
 exact ⟨_,(ZW rfl),eE,_,(qC.pick [3,4,2] _ (by decide) rfl),b8,aj,aq,ak,au,am,av,ap,az,ai,dD,du,eh,eK,rfl,rfl,o3,o5,o6,o7,o0⟩
 exact mz.elim
end Go.Proofs.Ytlnfbjphfoipaaa
namespace Go.Proofs.Ytlnfbjphfoipaaa
open Go.KL
set_option maxHeartbeats 4000000
theorem wJE (p0:wAB) (ah:Option Addr) (am:Nat) (ai:Option Addr) (ap:Nat) (aj:Option Addr) (aq:Nat) (ak:Option Addr) (au:Nat) (w:World) (U:PHeap) (hS:St0 w U []) (bt:Sl U 1 ah am p0.Starts.length (hH KL.encI p0.Starts)) (bu:Sl U 2 ai ap p0.Splits.length (hH wAJ p0.Splits)) (bv:Sl U 3 aj aq p0.Clocks.length (hH wAA p0.Clocks)) (bw:Sl U 4 ak au p0.Readings.length (hH wAH p0.Readings)) {r:(Option wAb) × Int} (hm:wCb p0=some r):Gv Try.prog 60 [.agg #[.slice ah p0.Starts.length am,.slice ai p0.Splits.length ap,.slice aj p0.Clocks.length aq,.slice ak p0.Readings.length au]] w (wCh w [] U (fun U_ L_ v=>match r.1 with | none=>v=.tuple #[.pointer none,jV r.2]/\L_=[] | some d=>∃ (b0:Nat) (A0p00:Option Addr) (c0p00:Nat) (A0p01:Option Addr) (c0p01:Nat) (A0p02:Option Addr) (c0p02:Nat) (A0p03:Option Addr) (c0p03:Nat) (m0p1:Nat) (es0p1:Array MapEntry) (ck0p1:Nat) (A0p2:Option Addr) (c0p2:Nat),v=.tuple #[.pointer (some ⟨b0,0,none⟩),jV r.2]/\L_=[.blk b0 124 [.slice A0p00 d.Race.Starts.length c0p00,.slice A0p01 d.Race.Splits.length c0p01,.slice A0p02 d.Race.Clocks.length c0p02,.slice A0p03 d.Race.Readings.length c0p03,.map (some m0p1),.slice A0p2 d.edges.length c0p2],.obj m0p1 (.map es0p1 ck0p1),.row A0p2 c0p2 130 7 (hH wAS d.edges)]/\Sl U_ 1 A0p00 c0p00 d.Race.Starts.length (hH KL.encI d.Race.Starts)/\Sl U_ 2 A0p01 c0p01 d.Race.Splits.length (hH wAJ d.Race.Splits)/\Sl U_ 3 A0p02 c0p02 d.Race.Clocks.length (hH wAA d.Race.Clocks)/\Sl U_ 4 A0p03 c0p03 d.Race.Readings.length (hH wAH d.Race.Readings)/\MpR es0p1 wAu wAv d.number)):=by
 unfold wCb at hm
 refine Gv.of Try.func60 Z Try.ntmps60 Try.results60 Z (sR gCg Z ?_)
 let B0:List Value:=[.slice ah p0.Starts.length am,.slice ai p0.Splits.length ap,.slice aj p0.Clocks.length aq,.slice ak p0.Readings.length au]
 refine ZN (cs:=B0) rfl rfl rfl rfl rfl rfl (by rfl) hS ?_
 intro W1 b2 bs
 refine oA Z Z (oA Z Z (eN (zK (sR (.fl 0 (.fx 1 (.fl 2 .nil) .stop)) Z (oL Z (bs.ldBA (j:=0) Z Z Z ZK zm (vs:=B0) Z Z) (bnK hm fun x5 h6 bU=>zM 0 Z Z Z Z (zL Z Z Try.call68 (zC Z zQ) Z) bs (fun hs=>wJD p0 ah am ai ap aj aq ak au W1 U hs bt bu bv bw h6) (.inr Z) ?_))))))
 rintro U8 L9 bY bh av bM ⟨rfl,rfl⟩
 have aZ:sW w U U8 [.blk b2 28 B0] bh:=bM
 refine oA Z Z (eN (sR fL2 Z (oM Z Z (oR Z (Zs Z Z Z) (eN (ifc bU ?_ ?_))))))
 intro aX bQ
 refine ZU (ZS (fun h=>h aX.out)) (kN (sR gCo Z (oL Z (aZ.ldBA (j:=0) Z Z Z ZK zm (vs:=B0) Z Z) ?_)))
 have bB:=bt.le av
 have bC:=bu.le av
 have bD:=bv.le av
 have bE:=bw.le av
 refine bnK bQ fun ab bF bR=>zM 0 Z Z Z Z (zL Z Z Try.call89 (zC Z zQ) Z) aZ (fun hs=>wIV p0 ah am ai ap aj aq ak au bh U8 hs bB bC bD bE bF) (.inr Z) ?_
 rintro bg bV bZ bA bX bN ⟨bk,bb,bm,bd,bn,be,bo,bf,bp,ba,br,bq,az,aY,rfl,rfl,bG,bH,bI,bJ,bK⟩
 have bP:sW w U bg [.blk bk 124 [.slice bb ab.Race.Starts.length bm,.slice bd ab.Race.Splits.length bn,.slice be ab.Race.Clocks.length bo,.slice bf ab.Race.Readings.length bp,.map (some ba),.slice az ab.edges.length aY],.obj ba (.map br bq),.row az aY 130 7 (hH wAS ab.edges),.blk b2 28 B0] bA:=bN
 refine oA Z Z (oA Z Z (eN (zU ?_)))
 cases bR
 exact ⟨rfl,_,(wHL rfl rfl),bg,_,(bP.pick [0,1,2] _ (by decide) rfl),bk,bb,bm,bd,bn,be,bo,bf,bp,ba,br,bq,az,aY,rfl,rfl,bG,bH,bI,bJ,bK⟩
 intro aX bS
 refine cT Z aX (sR fL3 Z (oM Z Z (oA Z Z (oA Z Z (eN (zU (zJ ?_)))))))
 cases bS
 exact ⟨rfl,_,(wHL rfl rfl),U8,_,(aZ.pick [] _ (by decide) rfl),rfl,rfl⟩
theorem wCq (p0:List wAQ) (av:Option Addr) (az:Nat) (p1:(wAQ->Option Bool)) (aW:Value) (w:World) (U:PHeap) (hS:St0 w U []) (bE:Sl U 2 av az p0.length (hH wBR p0)) (bF:FnOK Try.prog U aW wQa wQb p1) {r:Bool} (hm:wAq p0 p1=some r):Gv Try.prog 85 [.slice av p0.length az,aW] w (wCh w [] U (fun U_ L_ v=>v=.bool r/\L_=[])):=by
 unfold wAq at hm
 refine Gv.of Try.func85 Z Try.ntmps85 Try.results85 Z (sR fL1 Z (oA Z Z (eN (zK (sR fL3 Z (oM Z Z (oR Z (zt Z Z Try.runUnderlying112) (oM Z Z (eN (zd ?_))))))))))
 have q:=wBm hm
 obtain ⟨r3,am⟩:=q
 have q:=wBl am
 obtain ⟨aq,bI⟩:=q
 replace aq:=zI aq
 refine yC (fun k2 _ σ_ w_=>∃ (U_:PHeap),σ_ 9=jV (↑k2:Int)/\σ_ 1=aW/\σ_ 7=.slice av p0.length az/\σ_ 8=jV (↑p0.length:Int)/\PHeap.Le U U_/\sW w U U_ [] w_) bI ?_ ?_ ?_
 exact ⟨U,Z,Z,Z,Z,(zO _),hS⟩
 rintro k2 ⟨⟩ cj cn W8 ap ⟨bk,ak,aZ,ba,bb,au,be⟩ bi bG
 try dsimp only at bi
 have aY:Hid ((↑k2:Int) < (↑p0.length:Int)):=zI (wAy ap)
 replace ap:=zI ap
 have bJ:Hid (w64 ((↑k2:Int) + 1)=(↑(k2 + 1):Int)):=zI (by have h1:=aq.out;have h2:=aY.out;rw [wAV] <;> omega)
 refine sR fL1 Z (oR Z (zY Z ak bb) (eN (zK (cT Z aY (kN (zK (zd (sR (.fl 0 (.fl 1 (.fx 2 (.fx 3 .nil .stop) .stop))) Z (bnK bi fun ae bd bK=>?_)))))))))
 have bt:=bE.le au
 have q:=bt.el (fun _=>rfl) (wAW bd)
 obtain ⟨bX,cd,bw,bz⟩:=q
 refine oR Z (ZV Z ba bw ak Try.runUnderlying112 Zp (wBd bd)) (oL Z (be.ldCA (f:=0) bz Z Z yI Zp (us:=[jV ae.Skier,jV ae.Mat]) Z Z) (zS (cs:=[jV 0,jV 0]) Z Z Z Z Z yL Z be ?_))
 intro bU aX bA
 let B0:List Value:=[jV ae.Skier,jV ae.Mat]
 refine zV (j:=0) (vs:=B0) Z Z Z Z bA Z Z Z Z Zp (zA Z) Z Z Z ?_
 intro bn bB
 have bf:sW w U bk [.blk aX 45 B0] bn:=bB
 refine eN (sR gCp Z (oM Z aZ (oL Z (bf.ldBA (j:=0) Z Z Z yI Zp (vs:=B0) Z Z) (bnK bK fun ci bu bL=>?_))))
 have bv:=bF.le au
 refine OKS.callV (a:=ae) Z Z Z Z Z Z (zC Z zQ) bf bv Z bu ?_
 rintro ai bS cg bo bQ bC ⟨rfl,rfl⟩
 have bg:sW w U ai [.blk aX 45 B0] bo:=bC
 refine oR Z (Zc Z Z) (eN (ifc bL ?_ ?_))
 intro aj bM
 refine ZU (nC aj.out) (Zq (zu (zH (rR fL2 Z (oR Z (ZR (zW Z ak Z) (congrArg (jV) bJ.out)) (oM Z Z (zi ?_)))))))
 obtain rfl:=nI bM
 exact zH ⟨rfl,_,rfl,⟨ai,rfl,aZ,ba,bb,(au.trans bQ),(bg.pick [] _ (by decide) rfl)⟩⟩
 intro aj bN
 refine ZP (nF (aj.out)) (sR fL1 Z (oA Z Z (eN (zU (zP (zJ ?_))))))
 have q:=wAT bN
 obtain ⟨bR,bP,bq⟩:=q
 obtain rfl:=wAh hm am (bG bR bq)
 refine zJ (zP (zJ ?_))
 have hE:=nI bP;first | subst r | cases hE
 exact ⟨rfl,_,(ZW rfl),ai,_,(bg.pick [] _ (by decide) rfl),rfl,rfl⟩
 rintro ⟨⟩ cm bV ⟨bm,bs,bY,bZ,br,cb,bD⟩ bH
 have bh:=wCZ hm am bH
 try dsimp only at bh
 have bp:Hid (¬ ((↑(((↑p0.length:Int):Int) - 0).toNat:Int) < (↑p0.length:Int))):=zI (wAi)
 refine sR fL1 Z (oR Z (zY Z bs br) (eN (zK (cF Z bp (Zb (zl (zl (ZX (zH (sR fL1 Z (oA Z Z (eN (zU ?_)))))))))))))
 have hE:=nI bh;first | subst r | cases hE
 exact ⟨Z,_,(ZW Z),bm,_,bD,Z,Z⟩
theorem wHF (p0 p1:Int) (w:World) (U:PHeap) (hS:St0 w U []) {r:Int × Int} (hm:wCo p0 p1=some r):Gv Try.prog 107 [.int .u64 p0,.int .u64 p1] w (wCh w [] U (fun U_ L_ v=>v=.tuple #[.int .u64 r.1,.int .u64 r.2]/\L_=[])):=by
 unfold wCo at hm
 split at hm
 rename_i h
 cases hm
 obtain ⟨x,rfl⟩:=nJ h.1
 obtain ⟨y,rfl⟩:=nJ h.2.2.1
 refine (Go.Proofs.Try.bits_Mul x y (by omega) (by omega) w).mono ?_
 rintro e w' ⟨rfl,rfl⟩
 refine ⟨_,Z,U,[],hS,?_,Z⟩
 simp
 cases hm
theorem wAe (p0:List Int) (bd:Option Addr) (be:Nat) (p1:Int) (w:World) (U:PHeap) (hS:St0 w U []) (cj:Sl U 1 bd be p0.length (hH KL.encI p0)) {r:(List Int)} (hm:wAr p0 p1=some r):Gv Try.prog 88 [.slice bd p0.length be,jV p1] w (wCh w [] U (fun U_ L_ v=>∃ (A0:Option Addr) (c0:Nat),v=.slice A0 r.length c0/\L_=[.row A0 c0 3 1 (hH KL.encI r)])):=by
 unfold wAr at hm
 refine Gv.of Try.func88 Z Try.ntmps88 Try.results88 Z (sR fL1 Z (oA Z Z (eN (zK (sR fL2 Z (oM Z Z (oR Z (zY Z Z Z) (eN ?_))))))))
 by_cases c1:p1 < 0
 have bs:=hm;rw [if_pos c1] at bs;replace c1:=zI c1
 refine cT Z c1 (rR gBy Z ?_)
 cases bs
 have bv:=hm;rw [if_neg c1] at bv;replace c1:=zI c1
 refine cF Z c1 (kN (sR (wKS (.fx 5 (wSb (.nil)) .stop)) Z (oM Z Z (oR Z (zt Z Z zD) (oR Z (Runs.cv64 Z Z yG Try.runUnderlying177 Z Z) (oM Z Z (oR Z (Runs.cv64 Z Z yG Try.runUnderlying177 Z Z) ?_)))))))
 have q:=bnd bv
 obtain ⟨⟨x4,x5⟩,h6,bw⟩:=q
 try dsimp only at bw
 refine zM 0 Z Z Z Z (zL Z Z Try.call107 (zC Z (zC Z zQ)) Z) hS (fun hs=>wHF (wOM (↑p0.length:Int)) (wOM p1) w U hs h6) (.inr Z) ?_
 rintro U8 L9 cQ bG cH bZ ⟨rfl,rfl⟩
 have bm:sW w U U8 [] bG:=bZ
 refine oM Z Z (oR Z (zX Z Z (v:=.int .u64 x4) Z) (oR Z (zX Z Z (v:=.int .u64 x5) Z) (oA Z Z (oA Z Z (eN (zK (bnK bw fun bK bC cw=>yD (fun σ_ w_=>∃ (U_:PHeap),σ_ 0=.slice bd p0.length be/\σ_ 6=.int .u64 x5/\σ_ 26=.bool bK/\PHeap.Le U8 U_/\sW w U U_ [] w_) ?_ ?_)))))))
 refine rR fL6 Z (oM Z Z (oR Z (yW Z Z Z) (oM Z Z ?_)))
 by_cases ae:0 < x4
 have bt:=bC;rw [if_pos ae] at bt;replace ae:=zI ae
 refine oT Z ae (oT Z ae (oR Z (zz Z (Zn ae.out) Z) (zi ?_)))
 cases bt
 exact zH ⟨Z,⟨U8,Z,Z,Z,(zO _),bm⟩⟩
 have bu:=bC;rw [if_neg ae] at bu;replace ae:=zI ae
 refine zk Z Z Z (wF Z ae) Z Z (rU Z (wF Z ae) (yW Z Z Z) (oR Z (ZM Z (ZS ae.out) Z) (zi ?_)))
 obtain rfl:=nI bu
 exact zH ⟨Z,⟨U8,Z,Z,Z,(zO _),bm⟩⟩
 rintro cS cM ⟨au,bM,bN,bj,cI,cb⟩
 refine ifc cw ?_ ?_
 intro aY cx
 refine ZP (bj.trans (congrArg nK aY.out)) (rR gBy Z ?_)
 cases cx
 intro aY cy
 refine ZU (bj.trans (congrArg nK (nL.2 aY.out))) (kN (sR gCp Z (oM Z bN (oR Z (Runs.cvw Z Z Try.runUnderlying177 yG Z Z) (bnK cy fun aa bP cz=>OKS.makeSlice (enc:=KL.encI) (z:=(0:Int)) (v:=jV 0) Z Z Z Z Z (wBh zD) wKF Z Z Z Z Z Z bP cb ?_)))))
 intro bH ab cd
 have bn:sW w U au [.row (some ⟨ab,0,none⟩) aa.length 3 1 (hH KL.encI aa)] bH:=cd
 refine oA Z Z (eN (sR gCp Z (oM Z Z (oM Z bM ?_))))
 have bQ:=cj.le cH
 have bR:=bQ.le cI
 refine bnK cz fun bf bS cB=>OKS.copyM (j:=0) (f:=KL.encI) (m:=aa) (ys:=p0) (z:=bf) (a:=0) (n:=aa.length) rfl rfl rfl rfl rfl rfl zD zB bn rfl (fun _=>rfl) (fun _=>rfl) rfl bS rfl (by simp) (.inr (by simp)) rfl (bn.srcS bR) rfl ?_
 intro bI cf bq
 have cg:sW w U au [.row (some ⟨ab,0,none⟩) aa.length 3 1 (hH KL.encI bf)] bI:=cf
 refine oA Z Z (eN (zK (zd (CK.iter (fun (ah,ai) σ_ w_=>∃ (U_:PHeap),σ_ 7=.slice (some ⟨ab,0,none⟩) ah.length aa.length/\σ_ 8=jV ai/\PHeap.Le au U_/\sW w U U_ [.row (some ⟨ab,0,none⟩) aa.length 3 1 (hH KL.encI ah)] w_/\ah.length=aa.length) cB ?_ ?_))))
 exact ⟨au,(Eq.trans (b:=(.slice (some ⟨ab,0,none⟩) aa.length aa.length:Value)) (c:=(.slice (some ⟨ab,0,none⟩) bf.length aa.length:Value)) rfl (by rw [bq])),rfl,(zO _),cg,bq⟩
 rintro ⟨ah,ai⟩ cR cU bh ⟨aX,ap,az,cJ,bo,bV⟩ bb cr
 try dsimp only at bb
 refine zK (sR fL4 Z (oM Z az (oM Z ap (oR Z (zt Z Z zD) (oR Z (zY Z Z Z) (eN ?_))))))
 by_cases ak:ai < (↑ah.length:Int)
 have bz:=bb;rw [if_pos ak] at bz;replace ak:=zI ak
 refine cT Z ak (kN (zd (ZA ZB [3,3,3,3,3,3,3,0,3,3] (wLt gCh) (by kernel_rfl) ?_)))
 have aq:=bo.drew
 generalize hw_W76:({ bh with drawn:=bh.drawn + 1 }:World)=cN at aq ⊢
 refine oM Z az (oM Z ap (oM Z az (bnK bz fun bF bW cC=>?_)))
 have q:=wMG bW
 obtain ⟨cm,cp,aZ,cO,ba⟩:=q
 have bA:=aq.rowCap (j:=0) rfl (by decide) (wAG (f:=KL.encI) (sz:=1) (fun _=>rfl) ah)
 refine zg (v:=.slice (if aa.length=(ai:Int).toNat then (some ⟨ab,0,none⟩) else Option.map (fun q:Addr=>q.add ((ai:Int).toNat * 1)) ((some ⟨ab,0,none⟩):Option Addr)) bF.length (aa.length - (ai:Int).toNat)) rfl rfl rfl rfl (fun _=>ZR (Runs.slc (sz:=1) (a:=ai) (b:=(↑(ah.length):Int)) rfl rfl (.inl ⟨_,rfl,rfl⟩) (.inr ⟨rfl,rfl⟩) zD zB cm cp aZ bA) (by rw [ba])) (zk rfl rfl rfl rfl rfl ap (zk rfl rfl rfl rfl rfl az (bnK cC fun x86 bk cD=>?_)))
 have q:=wMG bk
 obtain ⟨cn,cq,ct,cP,cG⟩:=q
 have bB:=aq.rowCap (j:=0) rfl (by decide) (wAG (f:=KL.encI) (sz:=1) (fun _=>rfl) ah)
 refine zg (v:=.slice (if aa.length=(0:Int).toNat then (some ⟨ab,0,none⟩) else Option.map (fun q:Addr=>q.add ((0:Int).toNat * 1)) ((some ⟨ab,0,none⟩):Option Addr)) x86.length (aa.length - (0:Int).toNat)) rfl rfl rfl rfl (fun _=>ZR (Runs.slc (sz:=1) (a:=0) (b:=ai) rfl rfl (.inr ⟨rfl,rfl⟩) (.inl ⟨_,rfl,rfl⟩) zD zB cn cq ct bB) (by rw [cG])) (bnK cD fun x95 bX cE=>OKS.copyM (j:=0) (f:=KL.encI) (m:=ah) (ys:=x86) (z:=x95) (a:=ai) (n:=bF.length) rfl rfl rfl rfl rfl rfl zD zB aq rfl (fun _=>rfl) (fun _=>rfl) rfl bX rfl (by have:=ba;have:=aZ;omega) (cutA rfl (by have:=ba;have:=aZ;have:=bA;omega)) rfl (aq.srcCut (f:=KL.encI) (j:=0) rfl (fun _=>rfl) rfl bk bB) rfl ?_)
 intro bJ ci bp
 have bY:sW w U aX [.row (some ⟨ab,0,none⟩) aa.length 3 1 (hH KL.encI x95)] bJ:=ci
 refine oR Z (zW Z Z Z) (oA Z Z (zi (zu ?_)))
 obtain rfl:=nI cE
 exact zH ⟨rfl,_,rfl,⟨aX,(Eq.trans (b:=(.slice (some ⟨ab,0,none⟩) ah.length aa.length:Value)) (c:=(.slice (some ⟨ab,0,none⟩) x95.length aa.length:Value)) ap (by rw [bp])),rfl,cJ,bY,(bp.trans bV)⟩⟩
 have br:=bb;rw [if_neg ak] at br;replace ak:=zI ak
 refine cF Z ak (Zb (zl ?_))
 have q:=wAT br
 obtain ⟨cK,cu,bL⟩:=q
 obtain rfl:=cr cK bL
 refine zl (ZX (zH (sR fL2 Z (oM Z ap (oA Z Z (eN (zU ?_)))))))
 have hE:=nI cu;first | subst r | cases hE
 exact ⟨Z,_,(ZW Z),aX,_,bo,(some ⟨ab,0,none⟩),aa.length,Z,Z⟩
theorem wAm (p0:wAb) (aj:Nat) (dP:Option Addr) (dT:Nat) (dQ:Option Addr) (dU:Nat) (dR:Option Addr) (dV:Nat) (dS:Option Addr) (dW:Nat) (aa:Nat) (ae:Array MapEntry) (ah:Nat) (bw:Option Addr) (bz:Nat) (p1:Int) (p2:Bool) (w:World) (U:PHeap) (hS:St0 w U [.blk aj 124 [.slice dP p0.Race.Starts.length dT,.slice dQ p0.Race.Splits.length dU,.slice dR p0.Race.Clocks.length dV,.slice dS p0.Race.Readings.length dW,.map (some aa),.slice bw p0.edges.length bz],.obj aa (.map ae ah)]) (AG:Sl U 1 dP dT p0.Race.Starts.length (hH KL.encI p0.Race.Starts)) (AI:Sl U 2 dQ dU p0.Race.Splits.length (hH wAJ p0.Race.Splits)) (AJ:Sl U 3 dR dV p0.Race.Clocks.length (hH wAA p0.Race.Clocks)) (AL:Sl U 4 dS dW p0.Race.Readings.length (hH wAH p0.Race.Readings)) (da:MpR ae wAu wAv p0.number) (wn:Sl U 7 bw bz p0.edges.length (hH wAS p0.edges)) {r:wCa × Int × Bool} (hm:wAa p0 p1 p2=some r):Gv Try.prog 57 [.pointer (some ⟨aj,0,none⟩),jV p1,.bool p2] w (wCh w [.blk aj 124 [.slice dP p0.Race.Starts.length dT,.slice dQ p0.Race.Splits.length dU,.slice dR p0.Race.Clocks.length dV,.slice dS p0.Race.Readings.length dW,.map (some aa),.slice bw p0.edges.length bz],.obj aa (.map ae ah)] U (fun U_ L_ v=>∃ (gL:Option Addr) (jb:Nat) (gM:Option Addr) (jc:Nat),v=.tuple #[.agg #[.slice gL r.1.far.length jb,.slice gM r.1.by_.length jc],jV r.2.1,.bool r.2.2]/\L_=[.row gL jb 3 1 (hH KL.encI r.1.far),.row gM jc 3 1 (hH KL.encI r.1.by_),.blk aj 124 [.slice dP p0.Race.Starts.length dT,.slice dQ p0.Race.Splits.length dU,.slice dR p0.Race.Clocks.length dV,.slice dS p0.Race.Readings.length dW,.map (some aa),.slice bw p0.edges.length bz],.obj aa (.map ae ah)])):=by
 unfold wAa at hm
 refine Gv.of Try.func57 Z Try.ntmps57 Try.results57 Z (sR gCg Z ?_)
 let B0:List Value:=[.slice none 0 0,.slice none 0 0]
 refine zS (cs:=B0) Z Z Z Z Z Za Z hS ?_
 intro W3 b4 vE
 refine oA Z Z (oA Z Z (eN ?_))
 have q:=bnd hm
 obtain ⟨⟨l9,bE⟩,xp,mA⟩:=q
 try dsimp only at mA
 let B1:Res:=.blk aj 124 [.slice dP p0.Race.Starts.length dT,.slice dQ p0.Race.Splits.length dU,.slice dR p0.Race.Clocks.length dV,.slice dS p0.Race.Readings.length dW,.map (some aa),.slice bw p0.edges.length bz]
 refine yD (fun σ_ w_=>∃ (U_:PHeap) (b8:Nat) (au:Option Addr) (av:Nat) (az:Option Addr) (aW:Nat),σ_ 0=.pointer (some ⟨aj,0,none⟩)/\σ_ 1=jV p1/\σ_ 2=.bool p2/\σ_ 6=.pointer (some ⟨b4,0,none⟩)/\σ_ 9=.pointer (some ⟨b8,0,none⟩)/\PHeap.Le U U_/\SW w [B1,.obj aa (.map ae ah)] U U_ [.blk b4 118 B0,B1,.obj aa (.map ae ah),.blk b8 118 [.slice au l9.length av,.slice az bE.length aW],.row au av 3 1 (hH KL.encI l9),.row az aW 3 1 (hH KL.encI bE)] w_) ?_ ?_
 refine bnK xp fun aX fh xk=>bnK xk fun x51 fj xl=>ZA ZB [2,3,3,3,1,1,2,2,3,3,3,1,1,2,3,2,0] (fC1_5 (wJR (.fx 0 (.fx 6 (.fl 12 (.fx 7 gCu (.fx 15 gCq .stop))) (.fx 7 gDg (.fx 15 gDh .stop))) (.fx 7 (.fx 0 gDg (.fx 15 gDa .stop)) (.fx 15 (.fx 0 gDh (.fx 7 gDa .stop)) .stop))))) (by kernel_rfl) ?_
 have cu:=vE.drew
 generalize hw_W74:({ W3 with drawn:=W3.drawn + 1 }:World)=y7 at cu ⊢
 refine ZF (s:=.nil) (M:=fun σ_ w_=>∃ (U_:PHeap) (eI:Nat) (cy:Option Addr) (cN:Nat) (cz:Option Addr) (cO:Nat) (fw:Option Addr) (fO:Nat) (fy:Option Addr) (fP:Nat),σ_ 0=.pointer (some ⟨aj,0,none⟩)/\σ_ 1=jV p1/\σ_ 2=.bool p2/\σ_ 6=.pointer (some ⟨b4,0,none⟩)/\σ_ 9=.pointer (some ⟨eI,0,none⟩)/\σ_ 16=.slice fw ([1125899906842624].length) fO/\σ_ 17=.pointer (some ⟨aj,0,none⟩)/\σ_ 18=.pointer (some ⟨aj,0,none⟩)/\σ_ 19=.pointer (some ⟨aj,4,none⟩)/\σ_ 20=.map (some aa)/\σ_ 21=jV (↑(p0.number.length):Int)/\σ_ 22=.slice cy aX.length cN/\σ_ 23=.slice fy ([-1].length) fP/\σ_ 24=.pointer (some ⟨aj,0,none⟩)/\σ_ 25=.pointer (some ⟨aj,0,none⟩)/\σ_ 26=.pointer (some ⟨aj,4,none⟩)/\σ_ 27=.map (some aa)/\σ_ 28=jV (↑(p0.number.length):Int)/\σ_ 29=.slice cz x51.length cO/\σ_ 30=.agg #[.slice cy aX.length cN,.slice cz x51.length cO]/\PHeap.Le U U_/\SW w [B1,.obj aa (.map ae ah)] U U_ [.blk b4 118 B0,B1,.obj aa (.map ae ah),.blk eI 118 [.slice cy aX.length cN,.slice cz x51.length cO],.row cy cN 3 1 (hH KL.encI aX),.row cz cO 3 1 (hH KL.encI x51)] w_/\Sl U_ 1 fw fO [1125899906842624].length (hH KL.encI [1125899906842624])/\Sl U_ 1 fy fP [-1].length (hH KL.encI [-1])) ?_ fun mN=>?_
 rintro Bj yy ⟨oe,eI,cy,cN,cz,cO,fw,fO,fy,fP,qr,qt,qu,qv,qw,Aj,Ak,Al,Am,An,Ao,Ap,Aq,Ar,As,Au,Av,Aw,Ax,Ay,xE,vC,AD,AE⟩
 refine zi ?_
 cases xl
 exact zH ⟨Z,⟨oe,eI,cy,cN,cz,cO,qr,qt,qu,qv,qw,xE,vC⟩⟩
 refine ZF (s:=.fx 16 .nil .stop) (M:=fun σ_ w_=>∃ (U_:PHeap) (dw:Nat) (dY:Option Addr) (eK:Nat) (bS:Option Addr) (cg:Nat) (dZ:Option Addr) (eL:Nat) (bU:Option Addr) (ci:Nat),σ_ 0=.pointer (some ⟨aj,0,none⟩)/\σ_ 1=jV p1/\σ_ 2=.bool p2/\σ_ 6=.pointer (some ⟨b4,0,none⟩)/\σ_ 9=.pointer (some ⟨dw,0,none⟩)/\σ_ 16=.slice dY ([1125899906842624].length) eK/\σ_ 17=.pointer (some ⟨aj,0,none⟩)/\σ_ 18=.pointer (some ⟨aj,0,none⟩)/\σ_ 19=.pointer (some ⟨aj,4,none⟩)/\σ_ 20=.map (some aa)/\σ_ 21=jV (↑(p0.number.length):Int)/\σ_ 22=.slice bS aX.length cg/\σ_ 23=.slice dZ ([-1].length) eL/\σ_ 24=.pointer (some ⟨aj,0,none⟩)/\σ_ 25=.pointer (some ⟨aj,0,none⟩)/\σ_ 26=.pointer (some ⟨aj,4,none⟩)/\σ_ 27=.map (some aa)/\σ_ 28=jV (↑(p0.number.length):Int)/\σ_ 29=.slice bU x51.length ci/\σ_ 30=.agg #[.slice bS aX.length cg,.slice bU x51.length ci]/\PHeap.Le U U_/\SW w [B1,.obj aa (.map ae ah)] U U_ [.blk b4 118 B0,B1,.obj aa (.map ae ah),.blk dw 118 B0,.row bS cg 3 1 (hH KL.encI aX),.row bU ci 3 1 (hH KL.encI x51)] w_/\Sl U_ 1 dY eK [1125899906842624].length (hH KL.encI [1125899906842624])/\Sl U_ 1 dZ eL [-1].length (hH KL.encI [-1])) ?_ fun xq=>?_
 rintro Bk yz ⟨ip,dw,dY,eK,bS,cg,dZ,eL,bU,ci,qx,qy,qz,qA,j5,qB,qC,qD,qE,qF,qG,qH,qI,qJ,qK,qL,qM,qN,qO,j6,xF,vD,tV,tW⟩
 let B2:List Value:=[.slice bS aX.length cg,.slice bU x51.length ci]
 refine zV (j:=3) (vs:=B2) Z Z Z Z vD Z j5 j6 Z Zl (zA Z) Z Z Z ?_
 intro oI vG
 have vH:SW w [B1,.obj aa (.map ae ah)] U ip [.blk b4 118 B0,B1,.obj aa (.map ae ah),.blk dw 118 B2,.row bS cg 3 1 (hH KL.encI aX),.row bU ci 3 1 (hH KL.encI x51)] oI:=vG
 exact mN _ _ ⟨ip,dw,bS,cg,bU,ci,dY,eK,dZ,eL,qx,qy,qz,qA,j5,qB,qC,qD,qE,qF,qG,qH,qI,qJ,qK,qL,qM,qN,qO,j6,xF,vH,tV,tW⟩
 refine ZF (s:=gBz) (M:=fun σ_ w_=>∃ (U_:PHeap) (dx:Nat) (d5:Option Addr) (eM:Nat) (bV:Option Addr) (cj:Nat) (d7:Option Addr) (eO:Nat) (bW:Option Addr) (cm:Nat),σ_ 0=.pointer (some ⟨aj,0,none⟩)/\σ_ 1=jV p1/\σ_ 2=.bool p2/\σ_ 6=.pointer (some ⟨b4,0,none⟩)/\σ_ 9=.pointer (some ⟨dx,0,none⟩)/\σ_ 16=.slice d5 ([1125899906842624].length) eM/\σ_ 17=.pointer (some ⟨aj,0,none⟩)/\σ_ 18=.pointer (some ⟨aj,0,none⟩)/\σ_ 19=.pointer (some ⟨aj,4,none⟩)/\σ_ 20=.map (some aa)/\σ_ 21=jV (↑(p0.number.length):Int)/\σ_ 22=.slice bV aX.length cj/\σ_ 23=.slice d7 ([-1].length) eO/\σ_ 24=.pointer (some ⟨aj,0,none⟩)/\σ_ 25=.pointer (some ⟨aj,0,none⟩)/\σ_ 26=.pointer (some ⟨aj,4,none⟩)/\σ_ 27=.map (some aa)/\σ_ 28=jV (↑(p0.number.length):Int)/\σ_ 29=.slice bW x51.length cm/\PHeap.Le U U_/\SW w [B1,.obj aa (.map ae ah)] U U_ [.blk b4 118 B0,B1,.obj aa (.map ae ah),.blk dx 118 B0,.row bV cj 3 1 (hH KL.encI aX),.row bW cm 3 1 (hH KL.encI x51)] w_/\Sl U_ 1 d5 eM [1125899906842624].length (hH KL.encI [1125899906842624])/\Sl U_ 1 d7 eO [-1].length (hH KL.encI [-1])) ?_ fun mO=>?_
 rintro Bl y4 ⟨iq,dx,d5,eM,bV,cj,d7,eO,bW,cm,qP,qQ,qR,qS,j7,qT,qU,qV,qW,qX,qY,j8,qZ,rc,re,ri,rj,rk,j9,xG,vJ,tX,tY⟩
 let B3:List Value:=[.slice bV aX.length cj,.slice bW x51.length cm]
 refine oR Z (zy (pv:=[(0,.slice bV aX.length cj),(1,.slice bW x51.length cm)]) (z:=B0) (cs:=B3) Z (wAD j8 (wAD j9 wAO)) Za wJC Z Z) (zV (j:=3) (vs:=B3) Z Z Z Z vJ Z j7 Z Z Zl (zA Z) Z Z Z ?_)
 intro oK vK
 have vL:SW w [B1,.obj aa (.map ae ah)] U iq [.blk b4 118 B0,B1,.obj aa (.map ae ah),.blk dx 118 B3,.row bV cj 3 1 (hH KL.encI aX),.row bW cm 3 1 (hH KL.encI x51)] oK:=vK
 exact mN _ _ ⟨iq,dx,bV,cj,bW,cm,d5,eM,d7,eO,qP,qQ,qR,qS,j7,qT,qU,qV,qW,qX,qY,j8,qZ,rc,re,ri,rj,rk,j9,Z,xG,vL,tX,tY⟩
 refine ZF (s:=gCj) (M:=fun σ_ w_=>∃ (U_:PHeap) (cI:Nat) (d9:Option Addr) (eQ:Nat) (de:Option Addr) (dA:Nat) (df:Option Addr) (dB:Nat),σ_ 0=.pointer (some ⟨aj,0,none⟩)/\σ_ 1=jV p1/\σ_ 2=.bool p2/\σ_ 6=.pointer (some ⟨b4,0,none⟩)/\σ_ 9=.pointer (some ⟨cI,0,none⟩)/\σ_ 16=.slice d9 ([1125899906842624].length) eQ/\σ_ 17=.pointer (some ⟨aj,0,none⟩)/\σ_ 18=.pointer (some ⟨aj,0,none⟩)/\σ_ 19=.pointer (some ⟨aj,4,none⟩)/\σ_ 20=.map (some aa)/\σ_ 21=jV (↑(p0.number.length):Int)/\σ_ 22=.slice de aX.length dA/\σ_ 23=.slice df ([-1].length) dB/\σ_ 24=.pointer (some ⟨aj,0,none⟩)/\σ_ 25=.pointer (some ⟨aj,0,none⟩)/\σ_ 26=.pointer (some ⟨aj,4,none⟩)/\σ_ 27=.map (some aa)/\σ_ 28=jV (↑(p0.number.length):Int)/\PHeap.Le U U_/\SW w [B1,.obj aa (.map ae ah)] U U_ [.blk b4 118 B0,B1,.obj aa (.map ae ah),.blk cI 118 B0,.row de dA 3 1 (hH KL.encI aX),.row df dB 3 1 (hH KL.encI [-1])] w_/\Sl U_ 1 d9 eQ [1125899906842624].length (hH KL.encI [1125899906842624])) ?_ fun fq=>?_
 rintro Bm iU ⟨ya,cI,d9,eQ,de,dA,df,dB,rn,ro,rp,rq,rx,ry,rA,rB,rC,rD,rE,rF,k9,rG,rH,rI,rJ,lc,xH,vM,tZ⟩
 have q:=vM.freezeR (k:=5) (n:=[-1].length) rfl (wAG (f:=KL.encI) (sz:=1) (fun _=>rfl) [-1]) (by decide)
 obtain ⟨ir,mY,mE,vN⟩:=q
 let B4:Res:=.row de dA 3 1 (hH KL.encI aX)
 have vO:SW w [B1,.obj aa (.map ae ah)] U ir [.blk b4 118 B0,B1,.obj aa (.map ae ah),.blk cI 118 B0,B4] iU:=vN
 refine zM 0 Z Z Z Z (zL Z Z Try.call88 (zC k9 (zC lc zQ)) Z) vO (fun hs=>wAe [-1] df dB (↑(p0.number.length):Int) iU ir hs mE fj) (.inr Z) ?_
 rintro it xX AW oO gI vP ⟨gQ,jj,rfl,rfl⟩
 have vQ:SW w [B1,.obj aa (.map ae ah)] U it [.row gQ jj 3 1 (hH KL.encI x51),.blk b4 118 B0,B1,.obj aa (.map ae ah),.blk cI 118 B0,B4] oO:=vP
 have t7:=tZ.le mY
 have t8:=t7.le gI
 have t9:=mE.le gI
 exact mO _ _ ⟨it,cI,d9,eQ,de,dA,df,dB,gQ,jj,rn,ro,rp,rq,rx,ry,rA,rB,rC,rD,rE,rF,k9,rG,rH,rI,rJ,lc,rfl,((xH.trans mY).trans gI),(vQ.pick [1,2,3,4,5,0] _ (by decide) rfl),t8,t9⟩
 refine ZF (s:=gCi) (M:=fun σ_ w_=>∃ (U_:PHeap) (ec:Option Addr) (eU:Nat) (cB:Option Addr) (cP:Nat) (ef:Option Addr) (eV:Nat) (cC:Option Addr) (cQ:Nat),σ_ 0=.pointer (some ⟨aj,0,none⟩)/\σ_ 1=jV p1/\σ_ 2=.bool p2/\σ_ 6=.pointer (some ⟨b4,0,none⟩)/\σ_ 16=.slice ec ([1125899906842624].length) eU/\σ_ 17=.pointer (some ⟨aj,0,none⟩)/\σ_ 18=.pointer (some ⟨aj,0,none⟩)/\σ_ 19=.pointer (some ⟨aj,4,none⟩)/\σ_ 20=.map (some aa)/\σ_ 21=jV (↑(p0.number.length):Int)/\σ_ 22=.slice cB aX.length cP/\σ_ 23=.slice ef ([-1].length) eV/\σ_ 24=.pointer (some ⟨aj,0,none⟩)/\σ_ 25=.pointer (some ⟨aj,0,none⟩)/\σ_ 26=.pointer (some ⟨aj,4,none⟩)/\σ_ 27=.map (some aa)/\σ_ 28=jV (↑(p0.number.length):Int)/\σ_ 29=.slice cC x51.length cQ/\PHeap.Le U U_/\SW w [B1,.obj aa (.map ae ah)] U U_ [.blk b4 118 B0,B1,.obj aa (.map ae ah),.row cB cP 3 1 (hH KL.encI aX),.row cC cQ 3 1 (hH KL.encI x51)] w_/\Sl U_ 1 ec eU [1125899906842624].length (hH KL.encI [1125899906842624])/\Sl U_ 1 ef eV [-1].length (hH KL.encI [-1])) ?_ fun mP=>?_
 rintro Bn y5 ⟨og,ec,eU,cB,cP,ef,eV,cC,cQ,rK,rL,rM,rN,rO,rP,rQ,rS,rT,rV,lf,rW,rX,rY,rZ,r6,r7,lg,xI,vR,ua,ub⟩
 refine oR Z (zy (pv:=[(0,.slice cB aX.length cP),(1,.slice cC x51.length cQ)]) (z:=B0) (cs:=[.slice cB aX.length cP,.slice cC x51.length cQ]) Z (wAD lf (wAD lg wAO)) Za wJC Z Z) (zS (cs:=B0) Z Z Z Z Z Za Z vR ?_)
 intro y6 o7 vS
 exact xq _ _ ⟨og,o7,ec,eU,cB,cP,ef,eV,cC,cQ,rK,rL,rM,rN,rfl,rO,rP,rQ,rS,rT,rV,lf,rW,rX,rY,rZ,r6,r7,lg,rfl,xI,(vS.pick [1,2,3,0,4,5] _ (by decide) rfl),ua,ub⟩
 refine ZF (s:=.fl 12 gCj) (M:=fun σ_ w_=>∃ (U_:PHeap) (cJ:Nat) (eg:Option Addr) (eW:Nat) (dg:Option Addr) (dC:Nat) (dh:Option Addr) (dD:Nat),σ_ 0=.pointer (some ⟨aj,0,none⟩)/\σ_ 1=jV p1/\σ_ 2=.bool p2/\σ_ 6=.pointer (some ⟨b4,0,none⟩)/\σ_ 9=.pointer (some ⟨cJ,0,none⟩)/\σ_ 16=.slice eg ([1125899906842624].length) eW/\σ_ 17=.pointer (some ⟨aj,0,none⟩)/\σ_ 18=.pointer (some ⟨aj,0,none⟩)/\σ_ 19=.pointer (some ⟨aj,4,none⟩)/\σ_ 20=.map (some aa)/\σ_ 21=jV (↑(p0.number.length):Int)/\σ_ 22=.slice dg aX.length dC/\σ_ 23=.slice dh ([-1].length) dD/\σ_ 24=.pointer (some ⟨aj,0,none⟩)/\σ_ 25=.pointer (some ⟨aj,0,none⟩)/\σ_ 26=.pointer (some ⟨aj,4,none⟩)/\σ_ 27=.map (some aa)/\PHeap.Le U U_/\SW w [B1,.obj aa (.map ae ah)] U U_ [.blk b4 118 B0,B1,.obj aa (.map ae ah),.blk cJ 118 B0,.row dg dC 3 1 (hH KL.encI aX),.row dh dD 3 1 (hH KL.encI [-1])] w_/\Sl U_ 1 eg eW [1125899906842624].length (hH KL.encI [1125899906842624])) ?_ fun xr=>?_
 rintro Bo iV ⟨yb,cJ,eg,eW,dg,dC,dh,dD,r8,r9,sc,sd,sf,sg,sh,sj,sk,sm,sn,so,lh,sq,ss,su,li,xJ,ml,ud⟩
 refine oL Z (ml.lenM (j:=2) (mk:=wAu) (mv:=wAv) Z Z li (wBh zw) da) ?_
 have q:=ml.freezeR (k:=5) (n:=[-1].length) rfl (wAG (f:=KL.encI) (sz:=1) (fun _=>rfl) [-1]) (by decide)
 obtain ⟨iu,mZ,mF,vU⟩:=q
 let B5:Res:=.row dg dC 3 1 (hH KL.encI aX)
 have vV:SW w [B1,.obj aa (.map ae ah)] U iu [.blk b4 118 B0,B1,.obj aa (.map ae ah),.blk cJ 118 B0,B5] iV:=vU
 refine zM 0 Z Z Z Z (zL Z Z Try.call88 (zC lh (zC Z zQ)) Z) vV (fun hs=>wAe [-1] dh dD (↑(p0.number.length):Int) iV iu hs mF fj) (.inr Z) ?_
 rintro iv xY AX oP gJ vW ⟨gR,jk,rfl,rfl⟩
 have vX:SW w [B1,.obj aa (.map ae ah)] U iv [.row gR jk 3 1 (hH KL.encI x51),.blk b4 118 B0,B1,.obj aa (.map ae ah),.blk cJ 118 B0,B5] oP:=vW
 have ue:=ud.le mZ
 have uf:=ue.le gJ
 have ug:=mF.le gJ
 exact mO _ _ ⟨iv,cJ,eg,eW,dg,dC,dh,dD,gR,jk,r8,r9,sc,sd,sf,sg,sh,sj,sk,sm,sn,so,lh,sq,ss,su,li,rfl,rfl,((xJ.trans mZ).trans gJ),(vX.pick [1,2,3,4,5,0] _ (by decide) rfl),uf,ug⟩
 refine ZF (s:=.fl 12 gCq) (M:=fun σ_ w_=>∃ (U_:PHeap) (dy:Nat) (eh:Option Addr) (eX:Nat) (dk:Option Addr) (dE:Nat),σ_ 0=.pointer (some ⟨aj,0,none⟩)/\σ_ 1=jV p1/\σ_ 2=.bool p2/\σ_ 6=.pointer (some ⟨b4,0,none⟩)/\σ_ 9=.pointer (some ⟨dy,0,none⟩)/\σ_ 16=.slice eh ([1125899906842624].length) eX/\σ_ 17=.pointer (some ⟨aj,0,none⟩)/\σ_ 18=.pointer (some ⟨aj,0,none⟩)/\σ_ 19=.pointer (some ⟨aj,4,none⟩)/\σ_ 20=.map (some aa)/\σ_ 21=jV (↑(p0.number.length):Int)/\σ_ 22=.slice dk aX.length dE/\σ_ 24=.pointer (some ⟨aj,0,none⟩)/\σ_ 25=.pointer (some ⟨aj,0,none⟩)/\σ_ 26=.pointer (some ⟨aj,4,none⟩)/\σ_ 27=.map (some aa)/\PHeap.Le U U_/\SW w [B1,.obj aa (.map ae ah)] U U_ [.blk b4 118 B0,B1,.obj aa (.map ae ah),.blk dy 118 B0,.row dk dE 3 1 (hH KL.encI aX)] w_/\Sl U_ 1 eh eX [1125899906842624].length (hH KL.encI [1125899906842624])) ?_ fun xt=>?_
 rintro Bp y8 ⟨iw,dy,eh,eX,dk,dE,sv,sw,sA,sB,sC,sD,sE,sF,sG,sH,sI,sJ,sK,sL,sM,lj,xK,mn,uh⟩
 refine oL Z (mn.lenM (j:=2) (mk:=wAu) (mv:=wAv) Z Z lj (wBh zw) da) (ZC (pv:=[(0,jV (-1))]) (zs:=[jV 0]) (cs:=[jV (-1)]) Z Z Z Z Z (wAD Z wAO) zD zB ZE Z Z Z Z Z mn ?_)
 intro oU i9 vY
 have vZ:SW w [B1,.obj aa (.map ae ah)] U iw [.row (some ⟨i9,0,none⟩) 1 3 1 (hH KL.encI [-1]),.blk b4 118 B0,B1,.obj aa (.map ae ah),.blk dy 118 B0,.row dk dE 3 1 (hH KL.encI aX)] oU:=vY
 exact fq _ _ ⟨iw,dy,eh,eX,dk,dE,(some ⟨i9,0,none⟩),1,sv,sw,sA,sB,sC,sD,sE,sF,sG,sH,sI,sJ,rfl,sK,sL,sM,lj,rfl,xK,(vZ.pick [1,2,3,4,5,0] _ (by decide) rfl),uh⟩
 refine ZF (s:=gCv) (M:=fun σ_ w_=>∃ (U_:PHeap) (cK:Nat) (dl:Option Addr) (dF:Nat) (dm:Option Addr) (dG:Nat),σ_ 0=.pointer (some ⟨aj,0,none⟩)/\σ_ 1=jV p1/\σ_ 2=.bool p2/\σ_ 6=.pointer (some ⟨b4,0,none⟩)/\σ_ 9=.pointer (some ⟨cK,0,none⟩)/\σ_ 16=.slice dl ([1125899906842624].length) dF/\σ_ 17=.pointer (some ⟨aj,0,none⟩)/\σ_ 18=.pointer (some ⟨aj,0,none⟩)/\σ_ 19=.pointer (some ⟨aj,4,none⟩)/\σ_ 20=.map (some aa)/\σ_ 21=jV (↑(p0.number.length):Int)/\σ_ 23=.slice dm ([-1].length) dG/\σ_ 24=.pointer (some ⟨aj,0,none⟩)/\σ_ 25=.pointer (some ⟨aj,0,none⟩)/\σ_ 26=.pointer (some ⟨aj,4,none⟩)/\σ_ 27=.map (some aa)/\PHeap.Le U U_/\SW w [B1,.obj aa (.map ae ah)] U U_ [.blk b4 118 B0,B1,.obj aa (.map ae ah),.blk cK 118 B0,.row dl dF 3 1 (hH KL.encI [1125899906842624]),.row dm dG 3 1 (hH KL.encI [-1])] w_) ?_ fun gC=>?_
 rintro Bq iW ⟨yc,cK,dl,dF,dm,dG,sN,sO,sP,sQ,sS,lm,sT,sU,sV,sX,ln,sY,sZ,s5,s6,s7,xL,v4⟩
 have q:=v4.freezeR (k:=4) (n:=[1125899906842624].length) rfl (wAG (f:=KL.encI) (sz:=1) (fun _=>rfl) [1125899906842624]) (by decide)
 obtain ⟨iy,xM,mG,v5⟩:=q
 let B6:Res:=.row dm dG 3 1 (hH KL.encI [-1])
 have v7:SW w [B1,.obj aa (.map ae ah)] U iy [.blk b4 118 B0,B1,.obj aa (.map ae ah),.blk cK 118 B0,B6] iW:=v5
 refine zM 0 Z Z Z Z (zL Z Z Try.call88 (zC lm (zC ln zQ)) Z) v7 (fun hs=>wAe [1125899906842624] dl dF (↑(p0.number.length):Int) iW iy hs mG fh) (.inr Z) ?_
 rintro iz xZ AY oW m4 v9 ⟨gS,jl,rfl,rfl⟩
 have wa:SW w [B1,.obj aa (.map ae ah)] U iz [.row gS jl 3 1 (hH KL.encI aX),.blk b4 118 B0,B1,.obj aa (.map ae ah),.blk cK 118 B0,B6] oW:=v9
 have ui:=mG.le m4
 exact xr _ _ ⟨iz,cK,dl,dF,gS,jl,dm,dG,sN,sO,sP,sQ,sS,lm,sT,sU,sV,sX,ln,rfl,sY,sZ,s5,s6,s7,((xL.trans xM).trans m4),(wa.pick [1,2,3,4,0,5] _ (by decide) rfl),ui⟩
 refine ZF (s:=.fl 12 gCu) (M:=fun σ_ w_=>∃ (U_:PHeap) (dp:Option Addr) (dH:Nat) (cD:Option Addr) (cR:Nat) (cE:Option Addr) (cS:Nat),σ_ 0=.pointer (some ⟨aj,0,none⟩)/\σ_ 1=jV p1/\σ_ 2=.bool p2/\σ_ 6=.pointer (some ⟨b4,0,none⟩)/\σ_ 16=.slice dp ([1125899906842624].length) dH/\σ_ 17=.pointer (some ⟨aj,0,none⟩)/\σ_ 18=.pointer (some ⟨aj,0,none⟩)/\σ_ 19=.pointer (some ⟨aj,4,none⟩)/\σ_ 20=.map (some aa)/\σ_ 21=jV (↑(p0.number.length):Int)/\σ_ 22=.slice cD aX.length cR/\σ_ 23=.slice cE ([-1].length) cS/\σ_ 24=.pointer (some ⟨aj,0,none⟩)/\σ_ 25=.pointer (some ⟨aj,0,none⟩)/\σ_ 26=.pointer (some ⟨aj,4,none⟩)/\σ_ 27=.map (some aa)/\PHeap.Le U U_/\SW w [B1,.obj aa (.map ae ah)] U U_ [.blk b4 118 B0,B1,.obj aa (.map ae ah),.row cD cR 3 1 (hH KL.encI aX),.row cE cS 3 1 (hH KL.encI [-1])] w_/\Sl U_ 1 dp dH [1125899906842624].length (hH KL.encI [1125899906842624])) ?_ fun xu=>?_
 rintro Br iX ⟨oh,dp,dH,cD,cR,cE,cS,lp,lq,ls,lu,lv,lw,lx,ly,lz,lD,lE,fW,lF,lG,lH,fY,m5,gq,lX⟩
 refine oL Z (gq.lenM (j:=2) (mk:=wAu) (mv:=wAv) Z Z fY (wBh zw) da) (zh ?_ ?_)
 have q:=gq.freezeR (k:=4) (n:=[-1].length) rfl (wAG (f:=KL.encI) (sz:=1) (fun _=>rfl) [-1]) (by decide)
 obtain ⟨iA,m6,mH,wb⟩:=q
 let B7:Res:=.row cD cR 3 1 (hH KL.encI aX)
 have wc:SW w [B1,.obj aa (.map ae ah)] U iA [.blk b4 118 B0,B1,.obj aa (.map ae ah),B7] iX:=wb
 refine zM 0 Z Z Z Z (zL Z Z Try.call88 (zC fW (zC Z zQ)) Z) wc (fun hs=>wAe [-1] cE cS (↑(p0.number.length):Int) iX iA hs mH fj) (.inr Z) ?_
 rintro iB x8 AZ oX gK wd ⟨gT,jm,rfl,rfl⟩
 have we:SW w [B1,.obj aa (.map ae ah)] U iB [.row gT jm 3 1 (hH KL.encI x51),.blk b4 118 B0,B1,.obj aa (.map ae ah),B7] oX:=wd
 have uj:=lX.le m6
 have uk:=uj.le gK
 have ul:=mH.le gK
 exact mP _ _ ⟨iB,dp,dH,cD,cR,cE,cS,gT,jm,lp,lq,ls,lu,lv,lw,lx,ly,lz,lD,lE,fW,lF,lG,lH,fY,rfl,rfl,((m5.trans m6).trans gK),(we.pick [1,2,3,4,0] _ (by decide) rfl),uk,ul⟩
 refine zS (cs:=B0) Z Z Z Z Z Za Z gq ?_
 intro y9 o8 wg
 exact fq _ _ ⟨oh,o8,dp,dH,cD,cR,cE,cS,lp,lq,ls,lu,rfl,lv,lw,lx,ly,lz,lD,lE,fW,lF,lG,lH,fY,rfl,m5,(wg.pick [1,2,3,0,4,5] _ (by decide) rfl),lX⟩
 refine ZF (s:=gDa) (M:=fun σ_ w_=>∃ (U_:PHeap) (dz:Nat) (dq:Option Addr) (dI:Nat),σ_ 0=.pointer (some ⟨aj,0,none⟩)/\σ_ 1=jV p1/\σ_ 2=.bool p2/\σ_ 6=.pointer (some ⟨b4,0,none⟩)/\σ_ 9=.pointer (some ⟨dz,0,none⟩)/\σ_ 17=.pointer (some ⟨aj,0,none⟩)/\σ_ 18=.pointer (some ⟨aj,0,none⟩)/\σ_ 19=.pointer (some ⟨aj,4,none⟩)/\σ_ 20=.map (some aa)/\σ_ 21=jV (↑(p0.number.length):Int)/\σ_ 23=.slice dq ([-1].length) dI/\σ_ 24=.pointer (some ⟨aj,0,none⟩)/\σ_ 25=.pointer (some ⟨aj,0,none⟩)/\σ_ 26=.pointer (some ⟨aj,4,none⟩)/\σ_ 27=.map (some aa)/\PHeap.Le U U_/\SW w [B1,.obj aa (.map ae ah)] U U_ [.blk b4 118 B0,B1,.obj aa (.map ae ah),.blk dz 118 B0,.row dq dI 3 1 (hH KL.encI [-1])] w_) ?_ fun mQ=>?_
 rintro Bs z4 ⟨iC,dz,dq,dI,s8,s9,tc,td,te,tf,tg,th,tm,tn,tp,tq,tr,tu,tv,xN,wh⟩
 refine ZC (pv:=[(0,jV 1125899906842624)]) (zs:=[jV 0]) (cs:=[jV 1125899906842624]) Z Z Z Z Z (wAD Z wAO) zD zB ZE Z Z Z Z Z wh ?_
 intro oY ja wi
 have wj:SW w [B1,.obj aa (.map ae ah)] U iC [.row (some ⟨ja,0,none⟩) 1 3 1 (hH KL.encI [1125899906842624]),.blk b4 118 B0,B1,.obj aa (.map ae ah),.blk dz 118 B0,.row dq dI 3 1 (hH KL.encI [-1])] oY:=wi
 exact gC _ _ ⟨iC,dz,(some ⟨ja,0,none⟩),1,dq,dI,s8,s9,tc,td,te,rfl,tf,tg,th,tm,tn,tp,tq,tr,tu,tv,xN,(wj.pick [1,2,3,4,0,5] _ (by decide) rfl)⟩
 refine ZF (s:=gDh) (M:=fun σ_ w_=>∃ (U_:PHeap) (bP:Nat) (bX:Option Addr) (cn:Nat),σ_ 0=.pointer (some ⟨aj,0,none⟩)/\σ_ 1=jV p1/\σ_ 2=.bool p2/\σ_ 6=.pointer (some ⟨b4,0,none⟩)/\σ_ 9=.pointer (some ⟨bP,0,none⟩)/\σ_ 16=.slice bX ([1125899906842624].length) cn/\σ_ 17=.pointer (some ⟨aj,0,none⟩)/\σ_ 18=.pointer (some ⟨aj,0,none⟩)/\σ_ 19=.pointer (some ⟨aj,4,none⟩)/\σ_ 20=.map (some aa)/\σ_ 21=jV (↑(p0.number.length):Int)/\σ_ 24=.pointer (some ⟨aj,0,none⟩)/\σ_ 25=.pointer (some ⟨aj,0,none⟩)/\σ_ 26=.pointer (some ⟨aj,4,none⟩)/\σ_ 27=.map (some aa)/\PHeap.Le U U_/\SW w [B1,.obj aa (.map ae ah)] U U_ [.blk b4 118 B0,B1,.obj aa (.map ae ah),.blk bP 118 B0,.row bX cn 3 1 (hH KL.encI [1125899906842624])] w_) ?_ fun mR=>?_
 rintro Bt iY ⟨iD,bP,bX,cn,lI,lJ,lK,lL,lM,fZ,lN,lO,lP,lQ,gb,lR,lS,lT,lU,m7,mo⟩
 refine zh ?_ ?_
 have q:=mo.freezeR (k:=4) (n:=[1125899906842624].length) rfl (wAG (f:=KL.encI) (sz:=1) (fun _=>rfl) [1125899906842624]) (by decide)
 obtain ⟨iE,xO,mI,wk⟩:=q
 have wl:SW w [B1,.obj aa (.map ae ah)] U iE [.blk b4 118 B0,B1,.obj aa (.map ae ah),.blk bP 118 B0] iY:=wk
 refine zM 0 Z Z Z Z (zL Z Z Try.call88 (zC fZ (zC gb zQ)) Z) wl (fun hs=>wAe [1125899906842624] bX cn (↑(p0.number.length):Int) iY iE hs mI fh) (.inr Z) ?_
 rintro ib xT AQ oi mS uq ⟨gN,jd,rfl,rfl⟩
 have ur:SW w [B1,.obj aa (.map ae ah)] U ib [.row gN jd 3 1 (hH KL.encI aX),.blk b4 118 B0,B1,.obj aa (.map ae ah),.blk bP 118 B0] oi:=uq
 have tB:=mI.le mS
 exact xt _ _ ⟨ib,bP,bX,cn,gN,jd,lI,lJ,lK,lL,lM,fZ,lN,lO,lP,lQ,gb,rfl,lR,lS,lT,lU,((m7.trans xO).trans mS),(ur.pick [1,2,3,4,0] _ (by decide) rfl),tB⟩
 refine ZC (pv:=[(0,jV (-1))]) (zs:=[jV 0]) (cs:=[jV (-1)]) Z Z Z Z Z (wAD Z wAO) zD zB ZE Z Z Z Z Z mo ?_
 intro oj iZ uu
 have uv:SW w [B1,.obj aa (.map ae ah)] U iD [.row (some ⟨iZ,0,none⟩) 1 3 1 (hH KL.encI [-1]),.blk b4 118 B0,B1,.obj aa (.map ae ah),.blk bP 118 B0,.row bX cn 3 1 (hH KL.encI [1125899906842624])] oj:=uu
 exact gC _ _ ⟨iD,bP,bX,cn,(some ⟨iZ,0,none⟩),1,lI,lJ,lK,lL,lM,fZ,lN,lO,lP,lQ,gb,rfl,lR,lS,lT,lU,m7,(uv.pick [1,2,3,4,5,0] _ (by decide) rfl)⟩
 refine ZF (s:=gDg) (M:=fun σ_ w_=>∃ (U_:PHeap) (cw:Option Addr) (cL:Nat) (cx:Option Addr) (cM:Nat),σ_ 0=.pointer (some ⟨aj,0,none⟩)/\σ_ 1=jV p1/\σ_ 2=.bool p2/\σ_ 6=.pointer (some ⟨b4,0,none⟩)/\σ_ 16=.slice cw ([1125899906842624].length) cL/\σ_ 17=.pointer (some ⟨aj,0,none⟩)/\σ_ 18=.pointer (some ⟨aj,0,none⟩)/\σ_ 19=.pointer (some ⟨aj,4,none⟩)/\σ_ 20=.map (some aa)/\σ_ 21=jV (↑(p0.number.length):Int)/\σ_ 23=.slice cx ([-1].length) cM/\σ_ 24=.pointer (some ⟨aj,0,none⟩)/\σ_ 25=.pointer (some ⟨aj,0,none⟩)/\σ_ 26=.pointer (some ⟨aj,4,none⟩)/\σ_ 27=.map (some aa)/\PHeap.Le U U_/\SW w [B1,.obj aa (.map ae ah)] U U_ [.blk b4 118 B0,B1,.obj aa (.map ae ah),.row cw cL 3 1 (hH KL.encI [1125899906842624]),.row cx cM 3 1 (hH KL.encI [-1])] w_) ?_ fun mM=>?_
 rintro A8 iF ⟨n9,cw,cL,cx,cM,jo,jp,jq,jr,fQ,jt,ju,jv,jw,fR,jx,jy,jz,jA,jB,mT,l7⟩
 refine zh ?_ ?_
 have q:=l7.freezeR (k:=3) (n:=[1125899906842624].length) rfl (wAG (f:=KL.encI) (sz:=1) (fun _=>rfl) [1125899906842624]) (by decide)
 obtain ⟨ic,xw,mC,uw⟩:=q
 let B8:Res:=.row cx cM 3 1 (hH KL.encI [-1])
 have ux:SW w [B1,.obj aa (.map ae ah)] U ic [.blk b4 118 B0,B1,.obj aa (.map ae ah),B8] iF:=uw
 refine zM 0 Z Z Z Z (zL Z Z Try.call88 (zC fQ (zC fR zQ)) Z) ux (fun hs=>wAe [1125899906842624] cw cL (↑(p0.number.length):Int) iF ic hs mC fh) (.inr Z) ?_
 rintro ie xU AS om mU uy ⟨gO,je,rfl,rfl⟩
 have uz:SW w [B1,.obj aa (.map ae ah)] U ie [.row gO je 3 1 (hH KL.encI aX),.blk b4 118 B0,B1,.obj aa (.map ae ah),B8] om:=uy
 have tC:=mC.le mU
 exact xu _ _ ⟨ie,cw,cL,gO,je,cx,cM,jo,jp,jq,jr,fQ,jt,ju,jv,jw,fR,rfl,jx,jy,jz,jA,jB,((mT.trans xw).trans mU),(uz.pick [1,2,3,0,4] _ (by decide) rfl),tC⟩
 refine zS (cs:=B0) Z Z Z Z Z Za Z l7 ?_
 intro yd o0 uA
 exact gC _ _ ⟨n9,o0,cw,cL,cx,cM,jo,jp,jq,jr,rfl,fQ,jt,ju,jv,jw,fR,jx,jy,jz,jA,jB,mT,(uA.pick [1,2,3,0,4,5] _ (by decide) rfl)⟩
 refine oM Z Z (oR Z (ZT Z Z) (oR Z (zF Z Z zo Z Zk) (oL Z (cu.ldB (j:=1) Z Z Z Zo (v:=.map (some aa)) Z) (oL Z (cu.lenM (j:=2) (mk:=wAu) (mv:=wAv) Z Z Z (wBh zw) da) (oM Z Z (oR Z (ZT Z Z) (oR Z (zF Z Z zo Z Zk) (oL Z (cu.ldB (j:=1) Z Z Z Zo (v:=.map (some aa)) Z) (zh ?_ ?_)))))))))
 refine ZC (pv:=[(0,jV 1125899906842624)]) (zs:=[jV 0]) (cs:=[jV 1125899906842624]) Z Z Z Z Z (wAD Z wAO) zD zB ZE Z Z Z Z Z cu ?_
 intro fD cf uB
 let B9:Res:=.row (some ⟨cf,0,none⟩) 1 3 1 (hH KL.encI [1125899906842624])
 have gf:SW w [B1,.obj aa (.map ae ah)] U U [B9,.blk b4 118 B0,B1,.obj aa (.map ae ah)] fD:=uB
 refine zh ?_ ?_
 have q:=gf.freezeR (k:=0) (n:=[1125899906842624].length) rfl (wAG (f:=KL.encI) (sz:=1) (fun _=>rfl) [1125899906842624]) (by decide)
 obtain ⟨ig,gF,fm,uC⟩:=q
 have uD:SW w [B1,.obj aa (.map ae ah)] U ig [.blk b4 118 B0,B1,.obj aa (.map ae ah)] fD:=uC
 refine zM 0 Z Z Z Z (zL Z Z Try.call88 (zC Z (zC Z zQ)) Z) uD (fun hs=>wAe [1125899906842624] (some ⟨cf,0,none⟩) 1 (↑(p0.number.length):Int) fD ig hs fm fh) (.inr Z) ?_
 rintro dv xV AT oq db uE ⟨dX,eJ,rfl,rfl⟩
 let dr:Res:=.row dX eJ 3 1 (hH KL.encI aX)
 have gg:SW w [B1,.obj aa (.map ae ah)] U dv [dr,.blk b4 118 B0,B1,.obj aa (.map ae ah)] oq:=uE
 refine oL Z (gg.lenM (j:=3) (mk:=wAu) (mv:=wAv) Z Z Z (wBh zw) da) (zh ?_ ?_)
 refine ZC (pv:=[(0,jV (-1))]) (zs:=[jV 0]) (cs:=[jV (-1)]) Z Z Z Z Z (wAD Z wAO) zD zB ZE Z Z Z Z Z gg ?_
 intro fE eG uF
 have l8:SW w [B1,.obj aa (.map ae ah)] U dv [.row (some ⟨eG,0,none⟩) 1 3 1 (hH KL.encI [-1]),dr,.blk b4 118 B0,B1,.obj aa (.map ae ah)] fE:=uF
 refine zh ?_ ?_
 have q:=l8.freezeR (k:=0) (n:=[-1].length) rfl (wAG (f:=KL.encI) (sz:=1) (fun _=>rfl) [-1]) (by decide)
 obtain ⟨ii,mV,mD,uG⟩:=q
 have uH:SW w [B1,.obj aa (.map ae ah)] U ii [dr,.blk b4 118 B0,B1,.obj aa (.map ae ah)] fE:=uG
 refine zM 0 Z Z Z Z (zL Z Z Try.call88 (zC Z (zC Z zQ)) Z) uH (fun hs=>wAe [-1] (some ⟨eG,0,none⟩) 1 (↑(p0.number.length):Int) fE ii hs mD fj) (.inr Z) ?_
 rintro ij xW AU ot gG uI ⟨gP,jf,rfl,rfl⟩
 have uJ:SW w [B1,.obj aa (.map ae ah)] U ij [.row gP jf 3 1 (hH KL.encI x51),dr,.blk b4 118 B0,B1,.obj aa (.map ae ah)] ot:=uI
 have tD:=fm.le db
 have tE:=tD.le mV
 have tF:=tE.le gG
 have tG:=mD.le gG
 exact mP _ _ ⟨ij,(some ⟨cf,0,none⟩),1,dX,eJ,(some ⟨eG,0,none⟩),1,gP,jf,rfl,rfl,rfl,rfl,rfl,rfl,rfl,rfl,rfl,rfl,rfl,rfl,rfl,rfl,rfl,rfl,rfl,rfl,(((gF.trans db).trans mV).trans gG),(uJ.pick [2,3,4,1,0] _ (by decide) rfl),tF,tG⟩
 refine zS (cs:=B0) Z Z Z Z Z Za Z l8 ?_
 intro ye o3 uK
 have tH:=fm.le db
 exact fq _ _ ⟨dv,o3,(some ⟨cf,0,none⟩),1,dX,eJ,(some ⟨eG,0,none⟩),1,rfl,rfl,rfl,rfl,rfl,rfl,rfl,rfl,rfl,rfl,rfl,rfl,rfl,rfl,rfl,rfl,rfl,rfl,(gF.trans db),(uK.pick [3,4,5,0,2,1] _ (by decide) rfl),tH⟩
 refine zS (cs:=B0) Z Z Z Z Z Za Z gg ?_
 intro yf i3 uL
 refine ZC (pv:=[(0,jV (-1))]) (zs:=[jV 0]) (cs:=[jV (-1)]) Z Z Z Z Z (wAD Z wAO) zD zB ZE Z Z Z Z Z uL ?_
 intro ou i4 uM
 have uN:SW w [B1,.obj aa (.map ae ah)] U dv [.row (some ⟨i4,0,none⟩) 1 3 1 (hH KL.encI [-1]),.blk i3 118 B0,dr,.blk b4 118 B0,B1,.obj aa (.map ae ah)] ou:=uM
 have tI:=fm.le db
 exact fq _ _ ⟨dv,i3,(some ⟨cf,0,none⟩),1,dX,eJ,(some ⟨i4,0,none⟩),1,rfl,rfl,rfl,rfl,rfl,rfl,rfl,rfl,rfl,rfl,rfl,rfl,rfl,rfl,rfl,rfl,rfl,rfl,(gF.trans db),(uN.pick [3,4,5,1,2,0] _ (by decide) rfl),tI⟩
 refine zh ?_ ?_
 refine ZC (pv:=[(0,jV (-1))]) (zs:=[jV 0]) (cs:=[jV (-1)]) Z Z Z Z Z (wAD Z wAO) zD zB ZE Z Z Z Z Z gf ?_
 intro ow i5 uO
 have uP:SW w [B1,.obj aa (.map ae ah)] U U [.row (some ⟨i5,0,none⟩) 1 3 1 (hH KL.encI [-1]),B9,.blk b4 118 B0,B1,.obj aa (.map ae ah)] ow:=uO
 exact mM _ _ ⟨U,(some ⟨cf,0,none⟩),1,(some ⟨i5,0,none⟩),1,rfl,rfl,rfl,rfl,rfl,rfl,rfl,rfl,rfl,rfl,rfl,rfl,rfl,rfl,rfl,(zO _),(uP.pick [2,3,4,1,0] _ (by decide) rfl)⟩
 refine zS (cs:=B0) Z Z Z Z Z Za Z gf ?_
 intro yg o5 uQ
 exact mR _ _ ⟨U,o5,(some ⟨cf,0,none⟩),1,rfl,rfl,rfl,rfl,rfl,rfl,rfl,rfl,rfl,rfl,rfl,rfl,rfl,rfl,rfl,(zO _),(uQ.pick [2,3,4,0,1] _ (by decide) rfl)⟩
 refine zh ?_ ?_
 refine ZC (pv:=[(0,jV (-1))]) (zs:=[jV 0]) (cs:=[jV (-1)]) Z Z Z Z Z (wAD Z wAO) zD zB ZE Z Z Z Z Z cu ?_
 intro ox fH uR
 let gU:Res:=.row (some ⟨fH,0,none⟩) 1 3 1 (hH KL.encI [-1])
 have ma:SW w [B1,.obj aa (.map ae ah)] U U [gU,.blk b4 118 B0,B1,.obj aa (.map ae ah)] ox:=uR
 refine zh ?_ ?_
 refine ZC (pv:=[(0,jV 1125899906842624)]) (zs:=[jV 0]) (cs:=[jV 1125899906842624]) Z Z Z Z Z (wAD Z wAO) zD zB ZE Z Z Z Z Z ma ?_
 intro oy i6 uS
 have uT:SW w [B1,.obj aa (.map ae ah)] U U [.row (some ⟨i6,0,none⟩) 1 3 1 (hH KL.encI [1125899906842624]),gU,.blk b4 118 B0,B1,.obj aa (.map ae ah)] oy:=uS
 exact mM _ _ ⟨U,(some ⟨i6,0,none⟩),1,(some ⟨fH,0,none⟩),1,rfl,rfl,rfl,rfl,rfl,rfl,rfl,rfl,rfl,rfl,rfl,rfl,rfl,rfl,rfl,(zO _),(uT.pick [2,3,4,0,1] _ (by decide) rfl)⟩
 refine zS (cs:=B0) Z Z Z Z Z Za Z ma ?_
 intro yh o6 uU
 exact mQ _ _ ⟨U,o6,(some ⟨fH,0,none⟩),1,rfl,rfl,rfl,rfl,rfl,rfl,rfl,rfl,rfl,rfl,rfl,rfl,rfl,rfl,rfl,(zO _),(uU.pick [2,3,4,0,1] _ (by decide) rfl)⟩
 refine zS (cs:=B0) Z Z Z Z Z Za Z cu ?_
 intro yi eH mb
 refine zh ?_ ?_
 refine ZC (pv:=[(0,jV 1125899906842624)]) (zs:=[jV 0]) (cs:=[jV 1125899906842624]) Z Z Z Z Z (wAD Z wAO) zD zB ZE Z Z Z Z Z mb ?_
 intro oz i7 uV
 have uW:SW w [B1,.obj aa (.map ae ah)] U U [.row (some ⟨i7,0,none⟩) 1 3 1 (hH KL.encI [1125899906842624]),.blk eH 118 B0,.blk b4 118 B0,B1,.obj aa (.map ae ah)] oz:=uV
 exact mR _ _ ⟨U,eH,(some ⟨i7,0,none⟩),1,rfl,rfl,rfl,rfl,rfl,rfl,rfl,rfl,rfl,rfl,rfl,rfl,rfl,rfl,rfl,(zO _),(uW.pick [2,3,4,1,0] _ (by decide) rfl)⟩
 refine ZC (pv:=[(0,jV (-1))]) (zs:=[jV 0]) (cs:=[jV (-1)]) Z Z Z Z Z (wAD Z wAO) zD zB ZE Z Z Z Z Z mb ?_
 intro oB i8 uX
 have uY:SW w [B1,.obj aa (.map ae ah)] U U [.row (some ⟨i8,0,none⟩) 1 3 1 (hH KL.encI [-1]),.blk eH 118 B0,.blk b4 118 B0,B1,.obj aa (.map ae ah)] oB:=uX
 exact mQ _ _ ⟨U,eH,(some ⟨i8,0,none⟩),1,rfl,rfl,rfl,rfl,rfl,rfl,rfl,rfl,rfl,rfl,rfl,rfl,rfl,rfl,rfl,(zO _),(uY.pick [2,3,4,1,0] _ (by decide) rfl)⟩
 rintro A9 yj ⟨ik,b8,au,av,az,aW,ph,pj,pk,pm,jC,xx,mc⟩
 refine zK (sR fL4 Z (oR Z (zF Z jC ZH Z zZ) (oL Z (mc.ldB (j:=3) Z Z Z zj (v:=.slice au l9.length av) Z) (oR Z (zt Z Z zD) (oM Z Z (eN (zd (bnK mA fun A6 wq gB=>?_))))))))
 have q:=wBH wq
 obtain ⟨gy,wt⟩:=q
 replace gy:=zI gy
 let bY:Res:=.row az aW 3 1 (hH KL.encI bE)
 refine CK.forN' (fun bC bi σ_ w_=>∃ (U_:PHeap),σ_ 34=jV (↑bC:Int)/\σ_ 0=.pointer (some ⟨aj,0,none⟩)/\σ_ 1=jV p1/\σ_ 2=.bool p2/\σ_ 6=.pointer (some ⟨b4,0,none⟩)/\σ_ 9=.pointer (some ⟨b8,0,none⟩)/\σ_ 33=jV (↑l9.length:Int)/\PHeap.Le ik U_/\SW w [B1,.obj aa (.map ae ah)] U U_ [.blk b4 118 B0,B1,.obj aa (.map ae ah),.row au av 3 1 (hH KL.encI bi),bY,.blk b8 118 [.slice au bi.length av,.slice az bE.length aW]] w_/\bi.length=l9.length) wt ?_ ?_ ?_
 exact ⟨ik,rfl,ph,pj,pk,pm,jC,rfl,(zO _),(mc.pick [0,1,2,4,5,3] _ (by decide) rfl),rfl⟩
 rintro bC bi A3 Ba yk gv ⟨cd,dN,fS,dJ,fT,fU,dK,eZ,gH,ct,ge⟩ mJ
 have jg:Hid ((↑bC:Int) < (↑l9.length:Int)):=zI (wAy gv)
 replace gv:=zI gv
 have gu:Hid (w64 ((↑bC:Int) + 1)=(↑(bC + 1):Int)):=zI (by have h1:=gy.out;have h2:=jg.out;rw [wAV] <;> omega)
 refine sR fL1 Z (oR Z (zY Z dN eZ) (eN (zK (cT Z jg (kN (zK (zd (sR fL2 Z (oM Z dN (oA Z Z (eN (sR fL7 Z (oM Z dJ (oR Z (zY Z Z Z) (oM Z Z ?_)))))))))))))))
 by_cases bk:p1 < 0
 have mp:=mJ;rw [if_pos bk] at mp;replace bk:=zI bk
 refine oT Z bk (oT Z bk (oT Z bk (oR Z (zz Z (Zn bk.out) Z) (eN (ZP Z (rR (wEi (.fx 4 .nil .stop)) Z (oR Z (zF Z dK ZH Z zZ) (oL Z (ct.ldB (j:=5) Z Z Z zj (v:=.slice au bi.length av) Z) (oM Z Z (bnK mp fun _ ff wS=>?_))))))))))
 obtain ⟨z5,lY⟩:=ct.rowSome (j:=3) rfl (by rw [wAG (f:=KL.encI) (sz:=1) (fun _=>rfl) bi];have hz:=wAU ff;omega)
 refine oR Z (ZV Z Z lY Z zD zB (wAU ff)) ?_
 have wx:=wBK (xs:=bi) (wAU ff)
 refine OKS.stR (j:=3) (vs:=[jV 0]) (cs':=hH KL.encI (nH bi bC 0)) rfl rfl rfl rfl ct rfl lY rfl rfl rfl zB (by rw [wAG (f:=KL.encI) (sz:=1) (fun _=>rfl)];have hz:=wAU ff;show _ + 1 <= _;first | omega | (simp only [nE];omega) | (simp only [nD,nA,nB];omega)) rfl (wCu (sz:=1) (fo:=0) (fun _=>rfl) _ _ _ _ wx (by first | omega | (simp only [nE];omega) | (simp only [nD,nA,nB];omega)) (zA rfl) rfl) rfl ?_
 intro iG uZ
 let fz:Res:=.row au av 3 1 (hH KL.encI (nH bi bC 0))
 have u0:SW w [B1,.obj aa (.map ae ah)] U cd [.blk b4 118 B0,B1,.obj aa (.map ae ah),fz,bY,.blk b8 118 [.slice au bi.length av,.slice az bE.length aW]] iG:=uZ
 have u3:SW w [B1,.obj aa (.map ae ah)] U cd [.blk b4 118 B0,B1,.obj aa (.map ae ah),fz,bY,.blk b8 118 [.slice au ((nH bi bC 0).length) av,.slice az bE.length aW]] iG:=by simpa only [B0,B1,bY,fz,nG] using u0
 refine zi (zu (zH (rR fL2 Z (oR Z (ZR (zW Z dN Z) (congrArg (jV) gu.out)) (oM Z Z (zi ?_))))))
 cases wS
 exact zH ⟨Z,⟨cd,Z,fS,dJ,fT,fU,dK,eZ,gH,u3,(nG.trans ge)⟩⟩
 have mq:=mJ;rw [if_neg bk] at mq;replace bk:=zI bk
 refine zk Z Z Z (wF Z bk) Z Z (zk Z Z Z (wF Z bk) Z dJ (rU Z (wF Z bk) (Runs.eql Z Z Z) (oR Z (ZM Z (ZS bk.out) Z) (eN (ifc mq ?_ ?_)))))
 intro fJ wU
 refine cT Z fJ (rR (wEi (.fx 4 .nil .stop)) Z (oR Z (zF Z dK ZH Z zZ) (oL Z (ct.ldB (j:=5) Z Z Z zj (v:=.slice au bi.length av) Z) (oM Z Z (bnK wU fun _ fg wV=>?_)))))
 obtain ⟨z6,lZ⟩:=ct.rowSome (j:=3) rfl (by rw [wAG (f:=KL.encI) (sz:=1) (fun _=>rfl) bi];have hz:=wAU fg;omega)
 refine oR Z (ZV Z Z lZ Z zD zB (wAU fg)) ?_
 have wy:=wBK (xs:=bi) (wAU fg)
 refine OKS.stR (j:=3) (vs:=[jV 0]) (cs':=hH KL.encI (nH bi bC 0)) rfl rfl rfl rfl ct rfl lZ rfl rfl rfl zB (by rw [wAG (f:=KL.encI) (sz:=1) (fun _=>rfl)];have hz:=wAU fg;show _ + 1 <= _;first | omega | (simp only [nE];omega) | (simp only [nD,nA,nB];omega)) rfl (wCu (sz:=1) (fo:=0) (fun _=>rfl) _ _ _ _ wy (by first | omega | (simp only [nE];omega) | (simp only [nD,nA,nB];omega)) (zA rfl) rfl) rfl ?_
 intro iH u4
 let fA:Res:=.row au av 3 1 (hH KL.encI (nH bi bC 0))
 have u5:SW w [B1,.obj aa (.map ae ah)] U cd [.blk b4 118 B0,B1,.obj aa (.map ae ah),fA,bY,.blk b8 118 [.slice au bi.length av,.slice az bE.length aW]] iH:=u4
 have u6:SW w [B1,.obj aa (.map ae ah)] U cd [.blk b4 118 B0,B1,.obj aa (.map ae ah),fA,bY,.blk b8 118 [.slice au ((nH bi bC 0).length) av,.slice az bE.length aW]] iH:=by simpa only [B0,B1,bY,fA,nG] using u5
 refine zi (zu (zH (rR fL2 Z (oR Z (ZR (zW Z dN Z) (congrArg (jV) gu.out)) (oM Z Z (zi ?_))))))
 cases wV
 exact zH ⟨Z,⟨cd,Z,fS,dJ,fT,fU,dK,eZ,gH,u6,(nG.trans ge)⟩⟩
 intro fJ wW
 refine cF Z fJ (Zq (zu (zH (rR fL2 Z (oR Z (ZR (zW Z dN Z) (congrArg (jV) gu.out)) (oM Z Z (zi ?_)))))))
 cases wW
 exact zH ⟨Z,⟨cd,Z,fS,dJ,fT,fU,dK,eZ,gH,ct,ge⟩⟩
 rintro Bb yl ⟨il,tw,jD,Ae,pn,po,pp,pq,xz,gh,tJ⟩
 have o9:Hid (¬ ((↑(((↑l9.length:Int):Int) - 0).toNat:Int) < (↑l9.length:Int))):=zI (wAi)
 refine sR fL1 Z (oR Z (zY Z tw pq) (eN (zK (cF Z o9 (Zb (zl (zl (ZX (zH (sR fL1 Z (oA Z Z (eN (zK (sR fL7 Z (oM Z jD (oR Z (ZT Z Z) (oR Z (zF Z Z zo Z Zk) (oL Z (gh.ldB (j:=1) Z Z Z Zo (v:=.map (some aa)) Z) (oL Z (gh.lenM (j:=2) (mk:=wAu) (mv:=wAv) Z Z Z (wBh zw) da) (oR Z (zW Z Z Z) (oM Z Z (eN (zd ?_)))))))))))))))))))))))
 have q:=wBm gB
 obtain ⟨AP,gt⟩:=q
 have q:=wBl gt
 obtain ⟨gz,wu⟩:=q
 replace gz:=zI gz
 refine yC (fun bD (ft,fu,m8) σ_ w_=>∃ (U_:PHeap),σ_ 55=jV (↑bD:Int)/\σ_ 0=.pointer (some ⟨aj,0,none⟩)/\σ_ 2=.bool p2/\σ_ 6=.pointer (some ⟨b4,0,none⟩)/\σ_ 9=.pointer (some ⟨b8,0,none⟩)/\σ_ 11=jV m8/\σ_ 54=jV (w64 ((↑(p0.number.length):Int) + 1))/\PHeap.Le il U_/\SW w [B1,.obj aa (.map ae ah)] U U_ [.blk b4 118 B0,B1,.obj aa (.map ae ah),.row au av 3 1 (hH KL.encI ft),.row az aW 3 1 (hH KL.encI fu),.blk b8 118 [.slice au ft.length av,.slice az fu.length aW]] w_/\ft.length=l9.length/\fu.length=bE.length) wu ?_ ?_ ?_
 exact ⟨il,Z,jD,pn,po,pp,Z,Z,(zO _),gh,tJ,Z⟩
 rintro bD ⟨ft,fu,m8⟩ A4 Bc ym gw ⟨im,lV,jE,pu,py,pz,Af,jG,mW,md,tK,tL⟩ mK wo
 try dsimp only at mK
 have jh:Hid ((↑bD:Int) < (w64 ((↑(p0.number.length):Int) + 1))):=zI (wAy gw)
 replace gw:=zI gw
 have wQ:Hid (w64 ((↑bD:Int) + 1)=(↑(bD + 1):Int)):=zI (by have h1:=gz.out;have h2:=jh.out;rw [wAV] <;> omega)
 refine sR fL1 Z (oR Z (zY Z lV jG) (eN (zK (cT Z jh (kN (zK (zd (sR fL1 Z (oA Z Z (eN (zK (sR fL6 Z (oM Z jE (oR Z (ZT Z Z) (oR Z (zF Z Z zo Z yS) (oL Z (md.ldB (j:=1) Z Z Z Try.isAgg122 (v:=.slice bw p0.edges.length bz) Z) (oR Z (zt Z Z Try.runUnderlying122) (oM Z Z (eN (zd ?_))))))))))))))))))))
 have q:=bnd mK
 obtain ⟨⟨n5,n6,A7⟩,wv,mr⟩:=q
 try dsimp only at mr
 have q:=wBH wv
 obtain ⟨gA,ww⟩:=q
 replace gA:=zI gA
 refine CK.forN' (fun bf (aq,ba,m9) σ_ w_=>∃ (U_:PHeap),σ_ 62=jV (↑bf:Int)/\σ_ 0=.pointer (some ⟨aj,0,none⟩)/\σ_ 2=.bool p2/\σ_ 6=.pointer (some ⟨b4,0,none⟩)/\σ_ 9=.pointer (some ⟨b8,0,none⟩)/\σ_ 11=jV m9/\σ_ 54=jV (w64 ((↑(p0.number.length):Int) + 1))/\σ_ 55=jV (↑bD:Int)/\σ_ 60=.slice bw p0.edges.length bz/\σ_ 61=jV (↑p0.edges.length:Int)/\PHeap.Le im U_/\SW w [B1,.obj aa (.map ae ah)] U U_ [.blk b4 118 B0,B1,.obj aa (.map ae ah),.row au av 3 1 (hH KL.encI aq),.row az aW 3 1 (hH KL.encI ba),.blk b8 118 [.slice au aq.length av,.slice az ba.length aW]] w_/\aq.length=l9.length/\ba.length=bE.length) ww ?_ ?_ ?_
 exact ⟨im,Z,jE,pu,py,pz,Z,jG,lV,Z,Z,(zO _),md,tK,tL⟩
 rintro bf ⟨aq,ba,m9⟩ A5 Bd yn gx ⟨bd,bL,cU,cp,cV,bt,fb,cW,cX,cq,cr,mX,me,cY,cZ⟩ mL
 try dsimp only at mL
 have ji:Hid ((↑bf:Int) < (↑p0.edges.length:Int)):=zI (wAy gx)
 replace gx:=zI gx
 have wR:Hid (w64 ((↑bf:Int) + 1)=(↑(bf + 1):Int)):=zI (by have h1:=gA.out;have h2:=ji.out;rw [wAV] <;> omega)
 refine sR fL1 Z (oR Z (zY Z bL cr) (eN (zK (cT Z ji (kN ?_)))))
 have q:=bnd mL
 obtain ⟨⟨gD,gE,xR⟩,xm,ms⟩:=q
 try dsimp only at ms
 refine yD (fun σ_ w_=>∃ (U_:PHeap),σ_ 0=.pointer (some ⟨aj,0,none⟩)/\σ_ 2=.bool p2/\σ_ 6=.pointer (some ⟨b4,0,none⟩)/\σ_ 9=.pointer (some ⟨b8,0,none⟩)/\σ_ 11=jV xR/\σ_ 54=jV (w64 ((↑(p0.number.length):Int) + 1))/\σ_ 55=jV (↑bD:Int)/\σ_ 60=.slice bw p0.edges.length bz/\σ_ 61=jV (↑p0.edges.length:Int)/\σ_ 62=jV (↑bf:Int)/\PHeap.Le bd U_/\SW w [B1,.obj aa (.map ae ah)] U U_ [.blk b4 118 B0,B1,.obj aa (.map ae ah),.row au av 3 1 (hH KL.encI gD),.row az aW 3 1 (hH KL.encI gE),.blk b8 118 [.slice au gD.length av,.slice az gE.length aW]] w_/\gD.length=l9.length/\gE.length=bE.length) ?_ ?_
 refine zd (sR (wCz (.fx 3 (.fl 4 (.fx 5 .nil .stop)) .stop)) Z (oM Z bL (bnK xm fun ap lW wX=>?_)))
 have tM:=wn.le xx
 have tO:=tM.le xz
 have tP:=tO.le mW
 have tQ:=tP.le mX
 have q:=tQ.el (fun _=>rfl) (wAW lW)
 obtain ⟨z7,AN,um,uo⟩:=q
 refine oR Z (ZV Z cq um bL Try.runUnderlying122 Try.sizeOf130 (wBd lW)) (oL Z (me.ldCA (f:=0) uo Z Z Try.isAgg130 Try.sizeOf130 (us:=[jV ap.step.Kind,jV ap.step.Skier,jV ap.step.Index,.bool ap.step.Up,jV ap.from_,jV ap.to_,jV ap.count]) Z Z) (zS (cs:=[jV 0,jV 0,jV 0,.bool false,jV 0,jV 0,jV 0]) Z Z Z Z Z Try.zeroValue130 Z me ?_))
 intro yo bh u7
 refine oA Z Z ?_
 let bb:List Value:=[jV ap.step.Kind,jV ap.step.Skier,jV ap.step.Index,.bool ap.step.Up,jV ap.from_,jV ap.to_,jV ap.count]
 refine zV (j:=0) (vs:=bb) Z Z Z Z u7 Z Z Z Z Try.sizeOf130 (zA Z) Z Z Z ?_
 intro fG u9
 let bo:Res:=.row az aW 3 1 (hH KL.encI ba)
 let bK:Res:=.blk b8 118 [.slice au aq.length av,.slice az ba.length aW]
 have va:SW w [B1,.obj aa (.map ae ah)] U bd [.blk bh 130 bb,.blk b4 118 B0,B1,.obj aa (.map ae ah),.row au av 3 1 (hH KL.encI aq),bo,bK] fG:=u9
 refine eN (zK (ZA ZB [3,1,3,1,3,3] fL6 (by kernel_rfl) ?_))
 have dO:=va.drew
 generalize hw_W1431:({ fG with drawn:=fG.drawn + 1 }:World)=eE at dO ⊢
 refine oR Z (zF Z Z yM Z zB) (oL Z (dO.ldB (j:=0) Z Z Z zE (v:=jV ap.from_) Z) (oR Z (zF Z Z yM Z zB) (oL Z (dO.ldB (j:=0) Z Z Z zE (v:=jV ap.to_) Z) (oA Z Z (oA Z Z (eN (zK (sR fL1 Z (oM Z cp (eN (ifc wX ?_ ?_)))))))))))
 intro fK wY
 refine ZP (congrArg nK fK.out) (rR fL4 rfl (zk rfl rfl rfl rfl rfl rfl (zk rfl rfl rfl rfl rfl rfl (yH rfl rfl rfl rfl rfl rfl (yH rfl rfl rfl rfl rfl rfl (eN (zK (ZA ZB [3,1,3,3,1,3,3,3,1,3,3,1,3,1,3,3,1,3,3,1,3,3] fL22 (by kernel_rfl) ?_))))))))
 have bu:=dO.drew
 generalize hw_W1435:({ eE with drawn:=eE.drawn + 1 }:World)=iI at bu ⊢
 refine oR Z (zF Z bt ZH Z zZ) (oL Z (bu.ldB (j:=6) Z Z Z zj (v:=.slice au aq.length av) Z) (oM Z Z (bnK wY fun _ bG wZ=>?_)))
 obtain ⟨z8,bA⟩:=bu.rowSome (j:=4) rfl (by rw [wAG (f:=KL.encI) (sz:=1) (fun _=>rfl) aq];have hz:=wAU bG;omega)
 refine oR Z (ZQ Z Z bA Z zD zB (wBV bG) (wBW bG)) ?_
 have wz:=wBK (xs:=aq) (wAU bG)
 refine ZG rfl rfl rfl rfl (bu.ldR (j:=4) rfl bA rfl rfl zE (wAX (sz:=1) (fun _=>rfl) _ _ 0 _ wz (by first | omega | rfl | simp) rfl)) rfl (zg rfl rfl rfl rfl (fun _=>zY rfl rfl rfl) (zk rfl rfl rfl rfl rfl rfl (ifc wZ ?_ ?_)))
 intro aY w5
 refine rU Z (wT Z aY) (zF Z bt ZH Z zZ) (ZG Z Z Z (wT Z aY) (bu.ldB (j:=6) Z Z Z zj (v:=.slice au aq.length av) Z) Z (zk Z Z Z (wT Z aY) Z Z (rU Z (wT Z aY) (ZQ Z Z bA Z zD zB (wBV bG) (wBW bG)) ?_)))
 have wA:=wBK (xs:=aq) (wAU bG)
 refine ZG rfl rfl rfl (zR rfl rfl (Zn aY.out)) (bu.ldR (j:=4) rfl bA rfl rfl zE (wAX (sz:=1) (fun _=>rfl) _ _ 0 _ wA (by first | omega | rfl | simp) rfl)) rfl (zg rfl rfl rfl (zR rfl rfl (Zn aY.out)) (fun _=>zF rfl rfl yM rfl zB) (ZG rfl rfl rfl (zR rfl rfl (Zn aY.out)) (bu.ldB (j:=0) rfl rfl rfl zE (v:=jV ap.count) rfl) rfl (zg rfl rfl rfl (zR rfl rfl (Zn aY.out)) (fun _=>zW rfl rfl rfl) (zg rfl rfl rfl (zR rfl rfl (Zn aY.out)) (fun _=>zF rfl bt ZH rfl zZ) (ZG rfl rfl rfl (zR rfl rfl (Zn aY.out)) (bu.ldB (j:=6) rfl rfl rfl zj (v:=.slice au aq.length av) rfl) rfl (zk rfl rfl rfl (zR rfl rfl (Zn aY.out)) rfl rfl (bnK w5 fun _ bM w6=>zg rfl rfl rfl (zR rfl rfl (Zn aY.out)) (fun _=>ZQ rfl rfl bA rfl zD zB (wBV bM) (wBW bM)) ?_)))))))
 have wB:=wBK (xs:=aq) (wAU bM)
 refine ZG rfl rfl rfl (zR rfl rfl (Zn aY.out)) (bu.ldR (j:=4) rfl bA rfl rfl zE (wAX (sz:=1) (fun _=>rfl) _ _ 0 _ wB (by first | omega | rfl | simp) rfl)) rfl (zg rfl rfl rfl (zR rfl rfl (Zn aY.out)) (fun _=>zY rfl rfl rfl) (zg rfl rfl rfl rfl (fun _=>zz rfl (Zn aY.out) rfl) (eN (ifc w6 ?_ ?_))))
 intro fL w7
 refine cT Z fL ?_
 have q:=bnd w7
 obtain ⟨⟨⟩,xn,mu⟩:=q
 try dsimp only at mu
 let bp:Res:=.row au av 3 1 (hH KL.encI (nH aq ap.from_.toNat (w64 ((gd aq ap.to_.toNat) + ap.count))))
 let dt:Res:=.blk b8 118 [.slice au ((nH aq ap.from_.toNat (w64 ((gd aq ap.to_.toNat) + ap.count))).length) av,.slice az ((nH ba ap.from_.toNat (↑bf:Int)).length) aW]
 let bZ:Res:=.row az aW 3 1 (hH KL.encI (nH ba ap.from_.toNat (↑bf:Int)))
 refine yD (fun σ_ w_=>∃ (U_:PHeap),σ_ 0=.pointer (some ⟨aj,0,none⟩)/\σ_ 2=.bool p2/\σ_ 6=.pointer (some ⟨b4,0,none⟩)/\σ_ 9=.pointer (some ⟨b8,0,none⟩)/\σ_ 15=jV ap.from_/\σ_ 54=jV (w64 ((↑(p0.number.length):Int) + 1))/\σ_ 55=jV (↑bD:Int)/\σ_ 60=.slice bw p0.edges.length bz/\σ_ 61=jV (↑p0.edges.length:Int)/\σ_ 62=jV (↑bf:Int)/\PHeap.Le bd U_/\SW w [B1,.obj aa (.map ae ah)] U U_ [.blk bh 130 bb,.blk b4 118 B0,B1,.obj aa (.map ae ah),bp,bZ,dt] w_) ?_ ?_
 refine yU fun br bm=>?_
 have jH:br 0=.pointer (some ⟨aj,0,none⟩):=(bm 0).trans cU
 have jJ:br 2=.bool p2:=(bm 2).trans cp
 have jK:br 6=.pointer (some ⟨b4,0,none⟩):=(bm 6).trans cV
 have dL:br 9=.pointer (some ⟨b8,0,none⟩):=(bm 9).trans bt
 have pB:br 12=jV (↑bf:Int):=(bm 12).trans rfl
 have pC:br 13=.pointer (some ⟨bh,0,none⟩):=(bm 13).trans rfl
 have pD:br 14=jV ap.to_:=(bm 14).trans rfl
 have fc:br 15=jV ap.from_:=(bm 15).trans rfl
 have jL:br 54=jV (w64 ((↑(p0.number.length):Int) + 1)):=(bm 54).trans cW
 have jM:br 55=jV (↑bD:Int):=(bm 55).trans cX
 have jN:br 60=.slice bw p0.edges.length bz:=(bm 60).trans cq
 have jO:br 61=jV (↑p0.edges.length:Int):=(bm 61).trans cr
 have jP:br 62=jV (↑bf:Int):=(bm 62).trans bL
 clear bm
 refine bnK xn fun _ bH mw=>ZA ZB [3,1,3,3,2,3,3,1,3,3,1,3,1,3,3,3,0,3,0] (wEi (wPW gCw)) (by kernel_rfl) ?_
 have bQ:=bu.drew
 generalize hw_W1484:({ iI with drawn:=iI.drawn + 1 }:World)=yp at bQ ⊢
 refine oR Z (zF Z dL ZH Z zZ) (oL Z (bQ.ldB (j:=6) Z Z Z zj (v:=.slice au aq.length av) Z) (oM Z fc (oR Z (zF Z dL ZH Z zZ) (oM Z fc (oR Z (zF Z dL ZH Z zZ) (oL Z (bQ.ldB (j:=6) Z Z Z zj (v:=.slice au aq.length av) Z) (oM Z pD (oR Z (ZQ Z Z bA Z zD zB (wBV bG) (wBW bG)) ?_))))))))
 have wC:=wBK (xs:=aq) (wAU bG)
 refine ZG rfl rfl rfl rfl (bQ.ldR (j:=4) rfl bA rfl rfl zE (wAX (sz:=1) (fun _=>rfl) _ _ 0 _ wC (by first | omega | rfl | simp) rfl)) rfl (zg rfl rfl rfl rfl (fun _=>zF rfl pC yM rfl zB) (ZG rfl rfl rfl rfl (bQ.ldB (j:=0) rfl rfl rfl zE (v:=jV ap.count) rfl) rfl (zg rfl rfl rfl rfl (fun _=>zW rfl rfl rfl) (zk rfl rfl rfl rfl rfl pB (zg rfl rfl rfl rfl (fun _=>ZQ rfl rfl bA rfl zD zB (wBV bM) (wBW bM)) (zh ?_ ?_))))))
 refine ZD Z Z Z Z (bQ.ldB (j:=6) Z Z Z zj (v:=.slice az ba.length aW) Z) ?_
 have wD:=wBK (xs:=aq) (wAU bM)
 refine OKS.stR (j:=4) (vs:=[jV (w64 ((gd aq ap.to_.toNat) + ap.count))]) (cs':=hH KL.encI (nH aq ap.from_.toNat (w64 ((gd aq ap.to_.toNat) + ap.count)))) rfl rfl rfl rfl bQ rfl bA rfl rfl rfl zB (by rw [wAG (f:=KL.encI) (sz:=1) (fun _=>rfl)];have hz:=wAU bM;show _ + 1 <= _;first | omega | (simp only [nE];omega) | (simp only [nD,nA,nB];omega)) rfl (wCu (sz:=1) (fo:=0) (fun _=>rfl) _ _ _ _ wD (by first | omega | (simp only [nE];omega) | (simp only [nD,nA,nB];omega)) (zA rfl) rfl) rfl ?_
 intro iJ vb
 have vc:SW w [B1,.obj aa (.map ae ah)] U bd [.blk bh 130 bb,.blk b4 118 B0,B1,.obj aa (.map ae ah),bp,bo,bK] iJ:=vb
 let en:Res:=.blk b8 118 [.slice au ((nH aq ap.from_.toNat (w64 ((gd aq ap.to_.toNat) + ap.count))).length) av,.slice az ba.length aW]
 have mf:SW w [B1,.obj aa (.map ae ah)] U bd [.blk bh 130 bb,.blk b4 118 B0,B1,.obj aa (.map ae ah),bp,bo,en] iJ:=by simpa only [B0,B1,bb,bo,bK,bp,en,nG] using vc
 obtain ⟨z9,l3⟩:=mf.rowSome (j:=5) rfl (by rw [wAG (f:=KL.encI) (sz:=1) (fun _=>rfl) ba];have hz:=wAU bH;omega)
 refine oR Z (ZQ Z Z l3 Z zD zB (wBV bH) (wBW bH)) ?_
 have wE:=wBK (xs:=ba) (wAU bH)
 refine OKS.stR (j:=5) (vs:=[jV (↑bf:Int)]) (cs':=hH KL.encI (nH ba ap.from_.toNat (↑bf:Int))) rfl rfl rfl rfl mf rfl l3 rfl rfl rfl zB (by rw [wAG (f:=KL.encI) (sz:=1) (fun _=>rfl)];have hz:=wAU bH;show _ + 1 <= _;first | omega | (simp only [nE];omega) | (simp only [nD,nA,nB];omega)) rfl (wCu (sz:=1) (fo:=0) (fun _=>rfl) _ _ _ _ wE (by first | omega | (simp only [nE];omega) | (simp only [nD,nA,nB];omega)) (zA rfl) rfl) rfl ?_
 intro iK vd
 have ve:SW w [B1,.obj aa (.map ae ah)] U bd [.blk bh 130 bb,.blk b4 118 B0,B1,.obj aa (.map ae ah),bp,bZ,en] iK:=vd
 have vg:SW w [B1,.obj aa (.map ae ah)] U bd [.blk bh 130 bb,.blk b4 118 B0,B1,.obj aa (.map ae ah),bp,bZ,dt] iK:=by simpa only [B0,B1,bb,bp,dt,bZ,en,nG] using ve
 refine zi ?_
 cases mw
 exact zH ⟨Z,⟨bd,jH,jJ,jK,dL,fc,jL,jM,jN,jO,jP,(zO _),vg⟩⟩
 have wG:=wBK (xs:=aq) (wAU bM)
 refine OKS.stR (j:=4) (vs:=[jV (w64 ((gd aq ap.to_.toNat) + ap.count))]) (cs':=hH KL.encI (nH aq ap.from_.toNat (w64 ((gd aq ap.to_.toNat) + ap.count)))) rfl rfl rfl rfl bQ rfl bA rfl rfl rfl zB (by rw [wAG (f:=KL.encI) (sz:=1) (fun _=>rfl)];have hz:=wAU bM;show _ + 1 <= _;first | omega | (simp only [nE];omega) | (simp only [nD,nA,nB];omega)) rfl (wCu (sz:=1) (fo:=0) (fun _=>rfl) _ _ _ _ wG (by first | omega | (simp only [nE];omega) | (simp only [nD,nA,nB];omega)) (zA rfl) rfl) rfl ?_
 intro iL vh
 have vi:SW w [B1,.obj aa (.map ae ah)] U bd [.blk bh 130 bb,.blk b4 118 B0,B1,.obj aa (.map ae ah),bp,bo,bK] iL:=vh
 let eu:Res:=.blk b8 118 [.slice au ((nH aq ap.from_.toNat (w64 ((gd aq ap.to_.toNat) + ap.count))).length) av,.slice az ba.length aW]
 have gi:SW w [B1,.obj aa (.map ae ah)] U bd [.blk bh 130 bb,.blk b4 118 B0,B1,.obj aa (.map ae ah),bp,bo,eu] iL:=by simpa only [B0,B1,bb,bo,bK,bp,eu,nG] using vi
 refine ZD Z Z Z Z (gi.ldB (j:=6) Z Z Z zj (v:=.slice az ba.length aW) Z) ?_
 obtain ⟨Aa,l4⟩:=gi.rowSome (j:=5) rfl (by rw [wAG (f:=KL.encI) (sz:=1) (fun _=>rfl) ba];have hz:=wAU bH;omega)
 refine oR Z (ZQ Z Z l4 Z zD zB (wBV bH) (wBW bH)) ?_
 have wH:=wBK (xs:=ba) (wAU bH)
 refine OKS.stR (j:=5) (vs:=[jV (↑bf:Int)]) (cs':=hH KL.encI (nH ba ap.from_.toNat (↑bf:Int))) rfl rfl rfl rfl gi rfl l4 rfl rfl rfl zB (by rw [wAG (f:=KL.encI) (sz:=1) (fun _=>rfl)];have hz:=wAU bH;show _ + 1 <= _;first | omega | (simp only [nE];omega) | (simp only [nD,nA,nB];omega)) rfl (wCu (sz:=1) (fo:=0) (fun _=>rfl) _ _ _ _ wH (by first | omega | (simp only [nE];omega) | (simp only [nD,nA,nB];omega)) (zA rfl) rfl) rfl ?_
 intro iM vj
 have vk:SW w [B1,.obj aa (.map ae ah)] U bd [.blk bh 130 bb,.blk b4 118 B0,B1,.obj aa (.map ae ah),bp,bZ,eu] iM:=vj
 have vl:SW w [B1,.obj aa (.map ae ah)] U bd [.blk bh 130 bb,.blk b4 118 B0,B1,.obj aa (.map ae ah),bp,bZ,dt] iM:=by simpa only [B0,B1,bb,bp,dt,bZ,eu,nG] using vk
 refine zi ?_
 cases mw
 exact zH ⟨Z,⟨bd,jH,jJ,jK,dL,fc,jL,jM,jN,jO,jP,(zO _),vl⟩⟩
 rintro Be yq ⟨oa,pE,pF,pG,pH,pI,pJ,pK,pL,pM,pN,xA,vm⟩
 refine rR fL2 Z (oM Z pI (oA Z Z (zi (zu ?_))))
 cases mu
 exact zH ⟨rfl,⟨oa,pE,pF,pG,pH,rfl,pJ,pK,pL,pM,pN,xA,(vm.pick [1,2,3,4,5,6] _ (by decide) rfl),(nG.trans cY),(nG.trans cZ)⟩⟩
 intro fL w8
 refine cF Z fL (Zq (zu ?_))
 cases w8
 exact zH ⟨rfl,⟨bd,cU,cp,cV,bt,fb,cW,cX,cq,cr,bL,(zO _),(bu.pick [1,2,3,4,5,6] _ (by decide) rfl),cY,cZ⟩⟩
 intro aY w9
 refine oF Z aY (oF Z aY (oF Z aY (oF Z aY (oF Z aY (oF Z aY (oF Z aY (oF Z aY (oF Z aY (oF Z aY (oF Z aY (oF Z aY (oF Z aY (oF Z aY (oR Z (ZM Z (ZS aY.out) Z) (eN (ZU Z (Zq (zu ?_))))))))))))))))))
 cases w9
 exact zH ⟨rfl,⟨bd,cU,cp,cV,bt,fb,cW,cX,cq,cr,bL,(zO _),(bu.pick [1,2,3,4,5,6] _ (by decide) rfl),cY,cZ⟩⟩
 intro fK xa
 refine ZU (congrArg nK (nL.2 fK.out)) (kN (zK (ZA ZB [3,1,3,3,1,3,3,3,1,3,3,1,3,1,3,3,1,3,3,1,3,3] fL22 (by kernel_rfl) ?_)))
 have bv:=dO.drew
 generalize hw_W1538:({ eE with drawn:=eE.drawn + 1 }:World)=iN at bv ⊢
 refine oR Z (zF Z bt ZH Z zZ) (oL Z (bv.ldB (j:=6) Z Z Z zj (v:=.slice au aq.length av) Z) (oM Z Z (bnK xa fun _ bI xb=>?_)))
 obtain ⟨Ab,bB⟩:=bv.rowSome (j:=4) rfl (by rw [wAG (f:=KL.encI) (sz:=1) (fun _=>rfl) aq];have hz:=wAU bI;omega)
 refine oR Z (ZQ Z Z bB Z zD zB (wBV bI) (wBW bI)) ?_
 have wI:=wBK (xs:=aq) (wAU bI)
 refine ZG rfl rfl rfl rfl (bv.ldR (j:=4) rfl bB rfl rfl zE (wAX (sz:=1) (fun _=>rfl) _ _ 0 _ wI (by first | omega | rfl | simp) rfl)) rfl (zg rfl rfl rfl rfl (fun _=>zY rfl rfl rfl) (zk rfl rfl rfl rfl rfl rfl (ifc xb ?_ ?_)))
 intro aZ xc
 refine rU Z (wT Z aZ) (zF Z bt ZH Z zZ) (ZG Z Z Z (wT Z aZ) (bv.ldB (j:=6) Z Z Z zj (v:=.slice au aq.length av) Z) Z (zk Z Z Z (wT Z aZ) Z Z (rU Z (wT Z aZ) (ZQ Z Z bB Z zD zB (wBV bI) (wBW bI)) ?_)))
 have wJ:=wBK (xs:=aq) (wAU bI)
 refine ZG rfl rfl rfl (zR rfl rfl (Zn aZ.out)) (bv.ldR (j:=4) rfl bB rfl rfl zE (wAX (sz:=1) (fun _=>rfl) _ _ 0 _ wJ (by first | omega | rfl | simp) rfl)) rfl (zg rfl rfl rfl (zR rfl rfl (Zn aZ.out)) (fun _=>zF rfl rfl yM rfl zB) (ZG rfl rfl rfl (zR rfl rfl (Zn aZ.out)) (bv.ldB (j:=0) rfl rfl rfl zE (v:=jV ap.count) rfl) rfl (zg rfl rfl rfl (zR rfl rfl (Zn aZ.out)) (fun _=>zW rfl rfl rfl) (zg rfl rfl rfl (zR rfl rfl (Zn aZ.out)) (fun _=>zF rfl bt ZH rfl zZ) (ZG rfl rfl rfl (zR rfl rfl (Zn aZ.out)) (bv.ldB (j:=6) rfl rfl rfl zj (v:=.slice au aq.length av) rfl) rfl (zk rfl rfl rfl (zR rfl rfl (Zn aZ.out)) rfl rfl (bnK xc fun _ bN xd=>zg rfl rfl rfl (zR rfl rfl (Zn aZ.out)) (fun _=>ZQ rfl rfl bB rfl zD zB (wBV bN) (wBW bN)) ?_)))))))
 have wK:=wBK (xs:=aq) (wAU bN)
 refine ZG rfl rfl rfl (zR rfl rfl (Zn aZ.out)) (bv.ldR (j:=4) rfl bB rfl rfl zE (wAX (sz:=1) (fun _=>rfl) _ _ 0 _ wK (by first | omega | rfl | simp) rfl)) rfl (zg rfl rfl rfl (zR rfl rfl (Zn aZ.out)) (fun _=>zY rfl rfl rfl) (zg rfl rfl rfl rfl (fun _=>zz rfl (Zn aZ.out) rfl) (eN (ifc xd ?_ ?_))))
 intro fM xe
 refine cT Z fM ?_
 have q:=bnd xe
 obtain ⟨⟨⟩,xo,my⟩:=q
 try dsimp only at my
 let bq:Res:=.row au av 3 1 (hH KL.encI (nH aq ap.to_.toNat (w64 ((gd aq ap.from_.toNat) + ap.count))))
 let du:Res:=.blk b8 118 [.slice au ((nH aq ap.to_.toNat (w64 ((gd aq ap.from_.toNat) + ap.count))).length) av,.slice az ((nH ba ap.to_.toNat (↑bf:Int)).length) aW]
 let cb:Res:=.row az aW 3 1 (hH KL.encI (nH ba ap.to_.toNat (↑bf:Int)))
 refine yD (fun σ_ w_=>∃ (U_:PHeap),σ_ 0=.pointer (some ⟨aj,0,none⟩)/\σ_ 2=.bool p2/\σ_ 6=.pointer (some ⟨b4,0,none⟩)/\σ_ 9=.pointer (some ⟨b8,0,none⟩)/\σ_ 15=jV ap.to_/\σ_ 54=jV (w64 ((↑(p0.number.length):Int) + 1))/\σ_ 55=jV (↑bD:Int)/\σ_ 60=.slice bw p0.edges.length bz/\σ_ 61=jV (↑p0.edges.length:Int)/\σ_ 62=jV (↑bf:Int)/\PHeap.Le bd U_/\SW w [B1,.obj aa (.map ae ah)] U U_ [.blk bh 130 bb,.blk b4 118 B0,B1,.obj aa (.map ae ah),bq,cb,du] w_) ?_ ?_
 refine yU fun bs bn=>?_
 have jQ:bs 0=.pointer (some ⟨aj,0,none⟩):=(bn 0).trans cU
 have jR:bs 2=.bool p2:=(bn 2).trans cp
 have jS:bs 6=.pointer (some ⟨b4,0,none⟩):=(bn 6).trans cV
 have dM:bs 9=.pointer (some ⟨b8,0,none⟩):=(bn 9).trans bt
 have pO:bs 12=jV (↑bf:Int):=(bn 12).trans rfl
 have pP:bs 13=.pointer (some ⟨bh,0,none⟩):=(bn 13).trans rfl
 have pQ:bs 14=jV ap.from_:=(bn 14).trans rfl
 have fd:bs 15=jV ap.to_:=(bn 15).trans rfl
 have jU:bs 54=jV (w64 ((↑(p0.number.length):Int) + 1)):=(bn 54).trans cW
 have jW:bs 55=jV (↑bD:Int):=(bn 55).trans cX
 have jX:bs 60=.slice bw p0.edges.length bz:=(bn 60).trans cq
 have jY:bs 61=jV (↑p0.edges.length:Int):=(bn 61).trans cr
 have jZ:bs 62=jV (↑bf:Int):=(bn 62).trans bL
 clear bn
 refine bnK xo fun _ bJ mz=>ZA ZB [3,1,3,3,2,3,3,1,3,3,1,3,1,3,3,3,0,3,0] (wEi (wPW gCw)) (by kernel_rfl) ?_
 have bR:=bv.drew
 generalize hw_W1587:({ iN with drawn:=iN.drawn + 1 }:World)=yr at bR ⊢
 refine oR Z (zF Z dM ZH Z zZ) (oL Z (bR.ldB (j:=6) Z Z Z zj (v:=.slice au aq.length av) Z) (oM Z fd (oR Z (zF Z dM ZH Z zZ) (oM Z fd (oR Z (zF Z dM ZH Z zZ) (oL Z (bR.ldB (j:=6) Z Z Z zj (v:=.slice au aq.length av) Z) (oM Z pQ (oR Z (ZQ Z Z bB Z zD zB (wBV bI) (wBW bI)) ?_))))))))
 have wL:=wBK (xs:=aq) (wAU bI)
 refine ZG rfl rfl rfl rfl (bR.ldR (j:=4) rfl bB rfl rfl zE (wAX (sz:=1) (fun _=>rfl) _ _ 0 _ wL (by first | omega | rfl | simp) rfl)) rfl (zg rfl rfl rfl rfl (fun _=>zF rfl pP yM rfl zB) (ZG rfl rfl rfl rfl (bR.ldB (j:=0) rfl rfl rfl zE (v:=jV ap.count) rfl) rfl (zg rfl rfl rfl rfl (fun _=>zW rfl rfl rfl) (zk rfl rfl rfl rfl rfl pO (zg rfl rfl rfl rfl (fun _=>ZQ rfl rfl bB rfl zD zB (wBV bN) (wBW bN)) (zh ?_ ?_))))))
 refine ZD Z Z Z Z (bR.ldB (j:=6) Z Z Z zj (v:=.slice az ba.length aW) Z) ?_
 have wM:=wBK (xs:=aq) (wAU bN)
 refine OKS.stR (j:=4) (vs:=[jV (w64 ((gd aq ap.from_.toNat) + ap.count))]) (cs':=hH KL.encI (nH aq ap.to_.toNat (w64 ((gd aq ap.from_.toNat) + ap.count)))) rfl rfl rfl rfl bR rfl bB rfl rfl rfl zB (by rw [wAG (f:=KL.encI) (sz:=1) (fun _=>rfl)];have hz:=wAU bN;show _ + 1 <= _;first | omega | (simp only [nE];omega) | (simp only [nD,nA,nB];omega)) rfl (wCu (sz:=1) (fo:=0) (fun _=>rfl) _ _ _ _ wM (by first | omega | (simp only [nE];omega) | (simp only [nD,nA,nB];omega)) (zA rfl) rfl) rfl ?_
 intro iO vn
 have vo:SW w [B1,.obj aa (.map ae ah)] U bd [.blk bh 130 bb,.blk b4 118 B0,B1,.obj aa (.map ae ah),bq,bo,bK] iO:=vn
 let ey:Res:=.blk b8 118 [.slice au ((nH aq ap.to_.toNat (w64 ((gd aq ap.from_.toNat) + ap.count))).length) av,.slice az ba.length aW]
 have mg:SW w [B1,.obj aa (.map ae ah)] U bd [.blk bh 130 bb,.blk b4 118 B0,B1,.obj aa (.map ae ah),bq,bo,ey] iO:=by simpa only [B0,B1,bb,bo,bK,bq,ey,nG] using vo
 obtain ⟨Ac,l5⟩:=mg.rowSome (j:=5) rfl (by rw [wAG (f:=KL.encI) (sz:=1) (fun _=>rfl) ba];have hz:=wAU bJ;omega)
 refine oR Z (ZQ Z Z l5 Z zD zB (wBV bJ) (wBW bJ)) ?_
 have wN:=wBK (xs:=ba) (wAU bJ)
 refine OKS.stR (j:=5) (vs:=[jV (↑bf:Int)]) (cs':=hH KL.encI (nH ba ap.to_.toNat (↑bf:Int))) rfl rfl rfl rfl mg rfl l5 rfl rfl rfl zB (by rw [wAG (f:=KL.encI) (sz:=1) (fun _=>rfl)];have hz:=wAU bJ;show _ + 1 <= _;first | omega | (simp only [nE];omega) | (simp only [nD,nA,nB];omega)) rfl (wCu (sz:=1) (fo:=0) (fun _=>rfl) _ _ _ _ wN (by first | omega | (simp only [nE];omega) | (simp only [nD,nA,nB];omega)) (zA rfl) rfl) rfl ?_
 intro iP vp
 have vq:SW w [B1,.obj aa (.map ae ah)] U bd [.blk bh 130 bb,.blk b4 118 B0,B1,.obj aa (.map ae ah),bq,cb,ey] iP:=vp
 have vr:SW w [B1,.obj aa (.map ae ah)] U bd [.blk bh 130 bb,.blk b4 118 B0,B1,.obj aa (.map ae ah),bq,cb,du] iP:=by simpa only [B0,B1,bb,bq,du,cb,ey,nG] using vq
 refine zi ?_
 cases mz
 exact zH ⟨Z,⟨bd,jQ,jR,jS,dM,fd,jU,jW,jX,jY,jZ,(zO _),vr⟩⟩
 have wO:=wBK (xs:=aq) (wAU bN)
 refine OKS.stR (j:=4) (vs:=[jV (w64 ((gd aq ap.from_.toNat) + ap.count))]) (cs':=hH KL.encI (nH aq ap.to_.toNat (w64 ((gd aq ap.from_.toNat) + ap.count)))) rfl rfl rfl rfl bR rfl bB rfl rfl rfl zB (by rw [wAG (f:=KL.encI) (sz:=1) (fun _=>rfl)];have hz:=wAU bN;show _ + 1 <= _;first | omega | (simp only [nE];omega) | (simp only [nD,nA,nB];omega)) rfl (wCu (sz:=1) (fo:=0) (fun _=>rfl) _ _ _ _ wO (by first | omega | (simp only [nE];omega) | (simp only [nD,nA,nB];omega)) (zA rfl) rfl) rfl ?_
 intro iQ vt
 have vu:SW w [B1,.obj aa (.map ae ah)] U bd [.blk bh 130 bb,.blk b4 118 B0,B1,.obj aa (.map ae ah),bq,bo,bK] iQ:=vt
 let eD:Res:=.blk b8 118 [.slice au ((nH aq ap.to_.toNat (w64 ((gd aq ap.from_.toNat) + ap.count))).length) av,.slice az ba.length aW]
 have gj:SW w [B1,.obj aa (.map ae ah)] U bd [.blk bh 130 bb,.blk b4 118 B0,B1,.obj aa (.map ae ah),bq,bo,eD] iQ:=by simpa only [B0,B1,bb,bo,bK,bq,eD,nG] using vu
 refine ZD Z Z Z Z (gj.ldB (j:=6) Z Z Z zj (v:=.slice az ba.length aW) Z) ?_
 obtain ⟨Ad,l6⟩:=gj.rowSome (j:=5) rfl (by rw [wAG (f:=KL.encI) (sz:=1) (fun _=>rfl) ba];have hz:=wAU bJ;omega)
 refine oR Z (ZQ Z Z l6 Z zD zB (wBV bJ) (wBW bJ)) ?_
 have wP:=wBK (xs:=ba) (wAU bJ)
 refine OKS.stR (j:=5) (vs:=[jV (↑bf:Int)]) (cs':=hH KL.encI (nH ba ap.to_.toNat (↑bf:Int))) rfl rfl rfl rfl gj rfl l6 rfl rfl rfl zB (by rw [wAG (f:=KL.encI) (sz:=1) (fun _=>rfl)];have hz:=wAU bJ;show _ + 1 <= _;first | omega | (simp only [nE];omega) | (simp only [nD,nA,nB];omega)) rfl (wCu (sz:=1) (fo:=0) (fun _=>rfl) _ _ _ _ wP (by first | omega | (simp only [nE];omega) | (simp only [nD,nA,nB];omega)) (zA rfl) rfl) rfl ?_
 intro iR vv
 have vw:SW w [B1,.obj aa (.map ae ah)] U bd [.blk bh 130 bb,.blk b4 118 B0,B1,.obj aa (.map ae ah),bq,cb,eD] iR:=vv
 have vx:SW w [B1,.obj aa (.map ae ah)] U bd [.blk bh 130 bb,.blk b4 118 B0,B1,.obj aa (.map ae ah),bq,cb,du] iR:=by simpa only [B0,B1,bb,bq,du,cb,eD,nG] using vw
 refine zi ?_
 cases mz
 exact zH ⟨Z,⟨bd,jQ,jR,jS,dM,fd,jU,jW,jX,jY,jZ,(zO _),vx⟩⟩
 rintro Bf yt ⟨oc,pR,pS,pT,pU,pV,pW,pX,pY,pZ,p6,xB,vy⟩
 refine rR fL2 Z (oM Z pV (oA Z Z (zi (zu ?_))))
 cases my
 exact zH ⟨rfl,⟨oc,pR,pS,pT,pU,rfl,pW,pX,pY,pZ,p6,xB,(vy.pick [1,2,3,4,5,6] _ (by decide) rfl),(nG.trans cY),(nG.trans cZ)⟩⟩
 intro fM xf
 refine cF Z fM (Zq (zu ?_))
 cases xf
 exact zH ⟨rfl,⟨bd,cU,cp,cV,bt,fb,cW,cX,cq,cr,bL,(zO _),(bv.pick [1,2,3,4,5,6] _ (by decide) rfl),cY,cZ⟩⟩
 intro aZ xg
 refine oF Z aZ (oF Z aZ (oF Z aZ (oF Z aZ (oF Z aZ (oF Z aZ (oF Z aZ (oF Z aZ (oF Z aZ (oF Z aZ (oF Z aZ (oF Z aZ (oF Z aZ (oF Z aZ (oR Z (ZM Z (ZS aZ.out) Z) (eN (ZU Z (Zq (zu ?_))))))))))))))))))
 cases xg
 exact zH ⟨rfl,⟨bd,cU,cp,cV,bt,fb,cW,cX,cq,cr,bL,(zO _),(bv.pick [1,2,3,4,5,6] _ (by decide) rfl),cY,cZ⟩⟩
 rintro Bg yu ⟨od,p7,p8,p9,qa,qb,qc,qd,qe,qf,qh,xC,vz,tR,tS⟩
 refine rR fL2 Z (oR Z (ZR (zW Z qh Z) (congrArg (jV) wR.out)) (oM Z Z (zi ?_)))
 cases ms
 exact zH ⟨Z,⟨od,Z,p7,p8,p9,qa,qb,qc,qd,qe,qf,(mX.trans xC),vz,tR,tS⟩⟩
 rintro Bh yv ⟨fC,tz,qi,qj,fV,j0,j3,qk,qm,Ag,qn,xD,gm,tT,tU⟩
 have pe:Hid (¬ ((↑(((↑p0.edges.length:Int):Int) - 0).toNat:Int) < (↑p0.edges.length:Int))):=zI (wAi)
 refine sR fL1 Z (oR Z (zY Z tz qn) (eN (zK (cF Z pe (Zb (zl (zl (ZX (zH (sR fL2 Z (oM Z j3 (oR Z (zY Z Z Z) (eN (ifc mr ?_ ?_))))))))))))))
 intro fN xh
 refine cT Z fN (sR gCo Z ?_)
 let cG:List Value:=[.slice au n5.length av,.slice az n6.length aW]
 refine oL Z (gm.ldBA (j:=5) Z Z j0 Try.isAgg118 Zl (vs:=cG) Z Z) (zV (j:=0) (vs:=cG) Z Z Z Z gm Z fV Z Z Zl (zA Z) Z Z Z ?_)
 intro oG vA
 have mh:SW w [B1,.obj aa (.map ae ah)] U fC [.blk b4 118 cG,B1,.obj aa (.map ae ah),.row au av 3 1 (hH KL.encI n5),.row az aW 3 1 (hH KL.encI n6),.blk b8 118 cG] oG:=vA
 refine oA Z Z (oA Z Z (eN (zU (zP (zJ ?_)))))
 have q:=wAT xh
 obtain ⟨xP,xi,pg⟩:=q
 obtain rfl:=wAh gB gt (wo xP pg)
 refine zJ (zP (zJ ?_))
 cases xi
 exact ⟨rfl,_,(wDt (rs:=[.cell 6 118,.tmp 7,.tmp 8]) (vs:=[.agg cG.toArray,jV 0,.bool true]) ⟨⟨_,fV,(wBB Try.isAgg118 Zl (mh.blkAt (k:=0) rfl) (vs:=cG) rfl rfl)⟩,⟨rfl,⟨rfl,trivial⟩⟩⟩ rfl),fC,_,(mh.pick [3,4,1,2] _ (by decide) rfl),au,av,az,aW,rfl,rfl⟩
 intro fN xj
 refine cF Z fN (Zq (zu (zH (rR fL2 Z (oR Z (ZR (zW Z qm Z) (congrArg (jV) wQ.out)) (oM Z Z (zi ?_)))))))
 obtain rfl:=nI xj
 exact zH ⟨Z,_,Z,⟨fC,Z,qi,qj,fV,j0,j3,qk,(mW.trans xD),gm,tT,tU⟩⟩
 rintro ⟨n7,n8,xS⟩ Bi yw ⟨io,tA,Ah,Ai,j4,qo,qp,qq,AM,mi,Az,AA⟩ wp
 have mB:=wCZ gB gt wp
 try dsimp only at mB
 have pf:Hid (¬ ((↑((w64 ((↑(p0.number.length):Int) + 1):Int) - 0).toNat:Int) < (w64 ((↑(p0.number.length):Int) + 1)))):=zI (wAi)
 refine sR fL1 Z (oR Z (zY Z tA qq) (eN (zK (cF Z pf (Zb (zl (zl (ZX (zH (sR (.fl 0 (.fl 1 (.fx 2 (.fl 3 (.fl 4 .nil)) .stop))) Z ?_))))))))))
 let cH:List Value:=[.slice au n7.length av,.slice az n8.length aW]
 refine oL Z (mi.ldBA (j:=5) Z Z qo Try.isAgg118 Zl (vs:=cH) Z Z) (oM Z qp (zV (j:=0) (vs:=cH) Z Z Z Z mi Z j4 Z Z Zl (zA Z) Z Z Z ?_))
 intro oH vB
 have mj:SW w [B1,.obj aa (.map ae ah)] U io [.blk b4 118 cH,B1,.obj aa (.map ae ah),.row au av 3 1 (hH KL.encI n7),.row az aW 3 1 (hH KL.encI n8),.blk b8 118 cH] oH:=vB
 refine oA Z Z (oA Z Z (eN (zU ?_)))
 cases mB
 exact ⟨rfl,_,(wDt (rs:=[.cell 6 118,.tmp 7,.tmp 8]) (vs:=[.agg cH.toArray,jV xS,.bool false]) ⟨⟨_,j4,(wBB Try.isAgg118 Zl (mj.blkAt (k:=0) rfl) (vs:=cH) rfl rfl)⟩,⟨rfl,⟨rfl,trivial⟩⟩⟩ rfl),io,_,(mj.pick [3,4,1,2] _ (by decide) rfl),au,av,az,aW,rfl,rfl⟩
end Go.Proofs.Ytlnfbjphfoipaaa
namespace Go.Proofs.Ytlnfbjphfoipaaa
open Go.KL
set_option maxHeartbeats 4000000
theorem wFr (p0:wAb) (aq:Nat) (ai:Option Addr) (au:Nat) (aj:Option Addr) (av:Nat) (ak:Option Addr) (az:Nat) (am:Option Addr) (aW:Nat) (ab:Nat) (ae:Array MapEntry) (ah:Nat) (ap:Option Addr) (aX:Nat) (w:World) (U:PHeap) (hS:St0 w U [.blk aq 124 [.slice ai p0.Race.Starts.length au,.slice aj p0.Race.Splits.length av,.slice ak p0.Race.Clocks.length az,.slice am p0.Race.Readings.length aW,.map (some ab),.slice ap p0.edges.length aX],.obj ab (.map ae ah)]) (bu:Sl U 1 ai au p0.Race.Starts.length (hH KL.encI p0.Race.Starts)) (bv:Sl U 2 aj av p0.Race.Splits.length (hH wAJ p0.Race.Splits)) (bw:Sl U 3 ak az p0.Race.Clocks.length (hH wAA p0.Race.Clocks)) (bz:Sl U 4 am aW p0.Race.Readings.length (hH wAH p0.Race.Readings)) (bA:MpR ae wAu wAv p0.number) (bB:Sl U 7 ap aX p0.edges.length (hH wAS p0.edges)) {r:Bool} (hm:wBp p0=some r):Gv Try.prog 63 [.pointer (some ⟨aq,0,none⟩)] w (wCh w [.blk aq 124 [.slice ai p0.Race.Starts.length au,.slice aj p0.Race.Splits.length av,.slice ak p0.Race.Clocks.length az,.slice am p0.Race.Readings.length aW,.map (some ab),.slice ap p0.edges.length aX],.obj ab (.map ae ah)] U (fun U_ L_ v=>v=.bool r/\L_=[.blk aq 124 [.slice ai p0.Race.Starts.length au,.slice aj p0.Race.Splits.length av,.slice ak p0.Race.Clocks.length az,.slice am p0.Race.Readings.length aW,.map (some ab),.slice ap p0.edges.length aX],.obj ab (.map ae ah)])):=by
 unfold wBp at hm
 refine Gv.of Try.func63 Z Try.ntmps63 Try.results63 Z (sR fL1 Z (oA Z Z (eN (sR (.fl 0 (.fx 1 (fC2_5 (.fx 6 gCh .stop)) .stop)) Z (oM Z Z ?_)))))
 have q:=bnd hm
 obtain ⟨⟨x3,x4,x5⟩,h6,bj⟩:=q
 try dsimp only at bj
 refine zM 2 Z Z Z Z (zL Z Z yZ (zC Z (zC Z (zC Z zQ))) Z) hS (fun hs=>wAm p0 aq ai au aj av ak az am aW ab ae ah ap aX (-1) false w U hs bu bv bw bz bA bB h6) (.inl Z) ?_
 rintro U8 L9 bH bk bG bp ⟨ba,be,bb,bf,rfl,rfl⟩
 let B0:Res:=.blk aq 124 [.slice ai p0.Race.Starts.length au,.slice aj p0.Race.Splits.length av,.slice ak p0.Race.Clocks.length az,.slice am p0.Race.Readings.length aW,.map (some ab),.slice ap p0.edges.length aX]
 let B1:Res:=.row ba be 3 1 (hH KL.encI x3.far)
 let B2:Res:=.row bb bf 3 1 (hH KL.encI x3.by_)
 have bq:SW w [B0,.obj ab (.map ae ah)] U U8 [B1,B2,B0,.obj ab (.map ae ah)] bk:=bp
 refine oM Z Z (oR Z (zX Z Z (v:=.agg #[.slice ba x3.far.length be,.slice bb x3.by_.length bf]) Z) (oR Z (zX Z Z (v:=jV x4) Z) (oR Z (zX Z Z (v:=.bool x5) Z) (zS (cs:=[.slice none 0 0,.slice none 0 0]) Z Z Z Z Z Za Z bq ?_))))
 intro bF bn br
 let B3:List Value:=[.slice ba x3.far.length be,.slice bb x3.by_.length bf]
 refine zV (j:=0) (vs:=B3) Z Z Z Z br Z Z Z Z Zl (zA Z) Z Z Z ?_
 intro bm bs
 have bt:SW w [B0,.obj ab (.map ae ah)] U U8 [.blk bn 118 B3,B1,B2,B0,.obj ab (.map ae ah)] bm:=bs
 refine oA Z Z (oA Z Z (eN (sR fL2 Z (oM Z Z (oA Z Z (eN (zU ?_)))))))
 have hE:=nI bj;first | subst r | cases hE
 exact ⟨rfl,_,(ZW rfl),U8,_,(bt.pick [3,4] _ (by decide) rfl),rfl,rfl⟩
theorem wET (p0:wAB) (aq:Option Addr) (aW:Nat) (au:Option Addr) (aX:Nat) (av:Option Addr) (aY:Nat) (az:Option Addr) (aZ:Nat) (p1:List wAQ) (bk:Option Addr) (bm:Nat) (w:World) (U:PHeap) (hS:St0 w U []) (bH:Sl U 1 aq aW p0.Starts.length (hH KL.encI p0.Starts)) (bI:Sl U 2 au aX p0.Splits.length (hH wAJ p0.Splits)) (bJ:Sl U 3 av aY p0.Clocks.length (hH wAA p0.Clocks)) (bK:Sl U 4 az aZ p0.Readings.length (hH wAH p0.Readings)) (cg:Sl U 2 bk bm p1.length (hH wBR p1)) {r:(Option wAb) × Int} (hm:wCH p0 p1=some r):Gv Try.prog 46 [.agg #[.slice aq p0.Starts.length aW,.slice au p0.Splits.length aX,.slice av p0.Clocks.length aY,.slice az p0.Readings.length aZ],.slice bk p1.length bm] w (wCh w [] U (fun U_ L_ v=>match r.1 with | none=>v=.tuple #[.pointer none,jV r.2]/\L_=[] | some d=>∃ (b0:Nat) (A0p00:Option Addr) (c0p00:Nat) (A0p01:Option Addr) (c0p01:Nat) (A0p02:Option Addr) (c0p02:Nat) (A0p03:Option Addr) (c0p03:Nat) (m0p1:Nat) (es0p1:Array MapEntry) (ck0p1:Nat) (A0p2:Option Addr) (c0p2:Nat),v=.tuple #[.pointer (some ⟨b0,0,none⟩),jV r.2]/\L_=[.blk b0 124 [.slice A0p00 d.Race.Starts.length c0p00,.slice A0p01 d.Race.Splits.length c0p01,.slice A0p02 d.Race.Clocks.length c0p02,.slice A0p03 d.Race.Readings.length c0p03,.map (some m0p1),.slice A0p2 d.edges.length c0p2],.obj m0p1 (.map es0p1 ck0p1)]/\Sl U_ 1 A0p00 c0p00 d.Race.Starts.length (hH KL.encI d.Race.Starts)/\Sl U_ 2 A0p01 c0p01 d.Race.Splits.length (hH wAJ d.Race.Splits)/\Sl U_ 3 A0p02 c0p02 d.Race.Clocks.length (hH wAA d.Race.Clocks)/\Sl U_ 4 A0p03 c0p03 d.Race.Readings.length (hH wAH d.Race.Readings)/\MpR es0p1 wAu wAv d.number/\Sl U_ 7 A0p2 c0p2 d.edges.length (hH wAS d.edges))):=by
 unfold wCH at hm
 refine Gv.of Try.func46 Z Try.ntmps46 Try.results46 Z (sR gCg Z ?_)
 let B0:List Value:=[.slice aq p0.Starts.length aW,.slice au p0.Splits.length aX,.slice av p0.Clocks.length aY,.slice az p0.Readings.length aZ]
 refine ZN (cs:=B0) rfl rfl rfl rfl rfl rfl (by rfl) hS ?_
 intro W1 b2 cd
 refine oA Z Z (oA Z Z (eN (sR (.fl 0 (.fx 1 (fC2_6 (.nil)) .stop)) Z (oL Z (cd.ldBA (j:=0) Z Z Z ZK zm (vs:=B0) Z Z) ?_))))
 have q:=bnd hm
 obtain ⟨⟨x5,x6⟩,h7,ba⟩:=q
 try dsimp only at ba
 refine zM 0 Z Z Z Z (zL Z Z Try.call60 (zC Z zQ) Z) cd (fun hs=>wJE p0 aq aW au aX av aY az aZ W1 U hs bH bI bJ bK h7) (.inr Z) ?_
 rintro U9 dz dF bf ae cb bY
 rcases x5 with _ | x30
 try dsimp only at ba
 obtain ⟨rfl,rfl⟩:=bY
 have bF:sW w U U9 [.blk b2 28 B0] bf:=cb
 refine oM Z Z (oR Z (zX Z Z (v:=.pointer none) Z) (oR Z (zX Z Z (v:=jV x6) Z) (oA Z Z (oA Z Z (eN (zK (zd (sR fL3 Z (oM Z Z (oR Z (Zs Z Z Z) (oA Z Z (eN (ifc ba ?_ ?_)))))))))))))
 intro bB dm
 refine ZU (ZS (fun h=>h bB.out)) (sR (wCz gCk) Z (oM Z Z (oL Z (bF.ldBA (j:=0) Z Z Z ZK zm (vs:=B0) Z Z) (oR Z (Runs.mkf Z (zC Z zQ) zQ) ?_))))
 have cx:=cg.le ae
 have cy:=bH.le ae
 have cz:=bI.le ae
 have cB:=bJ.le ae
 have cC:=bK.le ae
 have cW:FnOK Try.prog U9 (.func (.func 84) #[.agg B0.toArray] #[]) wQa wQb (fun x=>wAl p0 x):=⟨84,[.agg B0.toArray],[],rfl,Try.call84,fun U1 w1 x y vs le hs ha hm=>by obtain rfl:=ha;exact wDO p0 aq aW au aX av aY az aZ x w1 U1 hs (cy.le le) (cz.le le) (cB.le le) (cC.le le) hm⟩
 refine bnK dm fun dI cD dp=>zM 0 Z Z Z Z (zL Z Z Try.call85 (zC Z (zC Z zQ)) Z) bF (fun hs=>wCq p1 bk bm (fun x=>wAl p0 x) (.func (.func 84) #[.agg B0.toArray] #[]) bf U9 hs cx cW cD) (.inr Z) ?_
 rintro bN dB dG cp dD cZ ⟨rfl,rfl⟩
 have da:sW w U bN [.blk b2 28 B0] cp:=cZ
 refine oR Z (Zc Z Z) (oA Z Z (eN (ifc dp ?_ ?_)))
 intro bC dq
 refine ZU (nC bC.out) (sR gCo Z (oM Z Z ?_))
 cases dq
 intro bC dr
 refine ZP (nF (bC.out)) (sR fL2 Z (oA Z Z (oA Z Z (eN (zU (zP (zJ ?_)))))))
 cases dr
 exact ⟨rfl,_,(wHL rfl rfl),bN,_,(da.pick [] _ (by decide) rfl),rfl,rfl⟩
 intro bB dt
 refine cT Z bB (sR fL3 Z (oM Z Z (oA Z Z (oA Z Z (eN (zU (zP (zJ ?_))))))))
 cases dt
 exact ⟨rfl,_,(wHL rfl rfl),U9,_,(bF.pick [] _ (by decide) rfl),rfl,rfl⟩
 try dsimp only at ba
 obtain ⟨bg,bn,bv,bo,bw,bp,bz,bq,bA,ai,am,ak,bd,bh,rfl,rfl,cE,cG,cH,cI,bS⟩:=bY
 let B1:Res:=.blk bg 124 [.slice bn x30.Race.Starts.length bv,.slice bo x30.Race.Splits.length bw,.slice bp x30.Race.Clocks.length bz,.slice bq x30.Race.Readings.length bA,.map (some ai),.slice bd x30.edges.length bh]
 let B2:Res:=.row bd bh 130 7 (hH wAS x30.edges)
 have bG:sW w U U9 [B1,.obj ai (.map am ak),B2,.blk b2 28 B0] bf:=cb
 refine oM Z Z (oR Z (zX Z Z (v:=.pointer (some ⟨bg,0,none⟩)) Z) (oR Z (zX Z Z (v:=jV x6) Z) (oA Z Z (oA Z Z (eN (zK (zd (sR fL3 Z (oM Z Z (oR Z (Zs Z Z Z) (oA Z Z (eN (ifc ba ?_ ?_)))))))))))))
 intro bD du
 refine ZU (ZS (fun h=>h bD.out)) (sR (wCz gCk) Z (oM Z Z (oL Z (bG.ldBA (j:=3) Z Z Z ZK zm (vs:=B0) Z Z) (oR Z (Runs.mkf Z (zC Z zQ) zQ) ?_))))
 have cJ:=cg.le ae
 have cK:=bH.le ae
 have cL:=bI.le ae
 have cM:=bJ.le ae
 have cN:=bK.le ae
 have cX:FnOK Try.prog U9 (.func (.func 84) #[.agg B0.toArray] #[]) wQa wQb (fun x=>wAl p0 x):=⟨84,[.agg B0.toArray],[],rfl,Try.call84,fun U1 w1 x y vs le hs ha hm=>by obtain rfl:=ha;exact wDO p0 aq aW au aX av aY az aZ x w1 U1 hs (cK.le le) (cL.le le) (cM.le le) (cN.le le) hm⟩
 refine bnK du fun x71 cP dv=>zM 0 Z Z Z Z (zL Z Z Try.call85 (zC Z (zC Z zQ)) Z) bG (fun hs=>wCq p1 bk bm (fun x=>wAl p0 x) (.func (.func 84) #[.agg B0.toArray] #[]) bf U9 hs cJ cX cP) (.inr Z) ?_
 rintro bP dC dH bt bi db ⟨rfl,rfl⟩
 have cf:sW w U bP [B1,.obj ai (.map am ak),B2,.blk b2 28 B0] bt:=db
 refine oR Z (Zc Z Z) (oA Z Z (eN (ifc dv ?_ ?_)))
 intro bE dw
 refine ZU (nC bE.out) (sR gCo Z (oM Z Z ?_))
 have q:=cf.freezeR (k:=2) (n:=x30.edges.length) rfl (wAG (f:=wAS) (sz:=7) (fun _=>rfl) x30.edges) (by decide)
 obtain ⟨bQ,bj,ci,de⟩:=q
 have df:sW w U bQ [B1,.obj ai (.map am ak),.blk b2 28 B0] bt:=de
 have cQ:=cE.le bi
 have bU:=cQ.le bj
 have cR:=cG.le bi
 have bV:=cR.le bj
 have cS:=cH.le bi
 have bW:=cS.le bj
 have cU:=cI.le bi
 have bX:=cU.le bj
 refine bnK dw fun x96 cV dx=>zM 2 Z Z Z Z (zL Z Z Try.call63 (zC Z zQ) Z) df (fun hs=>wFr x30 bg bn bv bo bw bp bz bq bA ai am ak bd bh bt bQ hs bU bV bW bX bS ci cV) (.inl Z) ?_
 rintro bs dA dE cn bb cY ⟨rfl,rfl⟩
 have bZ:sW w U bs [B1,.obj ai (.map am ak),.blk b2 28 B0] cn:=cY
 refine oR Z (Zc Z Z) (oA Z Z (eN (ifc dx ?_ ?_)))
 intro bu dg
 refine ZU (nC bu.out) (Zq (zu (zH (sR fL3 Z (oM Z Z (oA Z Z (oA Z Z (eN (zU ?_)))))))))
 have cq:=bU.le bb
 have cr:=bV.le bb
 have ct:=bW.le bb
 have cu:=bX.le bb
 have cw:=ci.le bb
 cases dg
 exact ⟨rfl,_,(wHL rfl rfl),bs,_,(bZ.pick [0,1] _ (by decide) rfl),bg,bn,bv,bo,bw,bp,bz,bq,bA,ai,am,ak,bd,bh,rfl,rfl,cq,cr,ct,cu,bS,cw⟩
 intro bu dh
 refine ZP (nF (bu.out)) (sR fL2 Z (oA Z Z (oA Z Z (eN (zU (zP (zJ ?_)))))))
 cases dh
 exact ⟨rfl,_,(wHL rfl rfl),bs,_,(bZ.pick [] _ (by decide) rfl),rfl,rfl⟩
 intro bE dk
 refine ZP (nF (bE.out)) (sR fL2 Z (oA Z Z (oA Z Z (eN (zU (zP (zJ ?_)))))))
 cases dk
 exact ⟨rfl,_,(wHL rfl rfl),bP,_,(cf.pick [] _ (by decide) rfl),rfl,rfl⟩
 intro bD dl
 refine cT Z bD (sR fL3 Z (oM Z Z (oA Z Z (oA Z Z (eN (zU (zP (zJ ?_))))))))
 cases dl
 exact ⟨rfl,_,(wHL rfl rfl),U9,_,(bG.pick [] _ (by decide) rfl),rfl,rfl⟩
theorem wFZ (p0:wAB) (ap:Option Addr) (az:Nat) (aq:Option Addr) (aW:Nat) (au:Option Addr) (aX:Nat) (av:Option Addr) (aY:Nat) (p1:Int) (w:World) (U:PHeap) (hS:St0 w U []) (bU:Sl U 1 ap az p0.Starts.length (hH KL.encI p0.Starts)) (bV:Sl U 2 aq aW p0.Splits.length (hH wAJ p0.Splits)) (bW:Sl U 3 au aX p0.Clocks.length (hH wAA p0.Clocks)) (bX:Sl U 4 av aY p0.Readings.length (hH wAH p0.Readings)) {r:(Option wAb) × Int} (hm:wCL p0 p1=some r):Gv Try.prog 50 [.agg #[.slice ap p0.Starts.length az,.slice aq p0.Splits.length aW,.slice au p0.Clocks.length aX,.slice av p0.Readings.length aY],jV p1] w (wCh w [] U (fun U_ L_ v=>match r.1 with | none=>v=.tuple #[.pointer none,jV r.2]/\L_=[] | some d=>∃ (b0:Nat) (A0p00:Option Addr) (c0p00:Nat) (A0p01:Option Addr) (c0p01:Nat) (A0p02:Option Addr) (c0p02:Nat) (A0p03:Option Addr) (c0p03:Nat) (m0p1:Nat) (es0p1:Array MapEntry) (ck0p1:Nat) (A0p2:Option Addr) (c0p2:Nat),v=.tuple #[.pointer (some ⟨b0,0,none⟩),jV r.2]/\L_=[.blk b0 124 [.slice A0p00 d.Race.Starts.length c0p00,.slice A0p01 d.Race.Splits.length c0p01,.slice A0p02 d.Race.Clocks.length c0p02,.slice A0p03 d.Race.Readings.length c0p03,.map (some m0p1),.slice A0p2 d.edges.length c0p2],.obj m0p1 (.map es0p1 ck0p1)]/\Sl U_ 1 A0p00 c0p00 d.Race.Starts.length (hH KL.encI d.Race.Starts)/\Sl U_ 2 A0p01 c0p01 d.Race.Splits.length (hH wAJ d.Race.Splits)/\Sl U_ 3 A0p02 c0p02 d.Race.Clocks.length (hH wAA d.Race.Clocks)/\Sl U_ 4 A0p03 c0p03 d.Race.Readings.length (hH wAH d.Race.Readings)/\MpR es0p1 wAu wAv d.number/\Sl U_ 7 A0p2 c0p2 d.edges.length (hH wAS d.edges))):=by
 unfold wCL at hm
 refine Gv.of Try.func50 Z Try.ntmps50 Try.results50 Z (sR gCg Z ?_)
 let B0:List Value:=[.slice ap p0.Starts.length az,.slice aq p0.Splits.length aW,.slice au p0.Clocks.length aX,.slice av p0.Readings.length aY]
 refine ZN (cs:=B0) rfl rfl rfl rfl rfl rfl (by rfl) hS ?_
 intro W1 b2 bz
 refine oA Z Z (oA Z Z (eN (sR (wCz (.fx 3 (.fx 4 (wSa (.nil)) .stop) .stop)) Z (oL Z (bz.ldBA (j:=0) Z Z Z ZK zm (vs:=B0) Z Z) (oM Z Z ?_)))))
 let B1:List Value:=[jV 0,jV p1]
 refine oR Z (zy (pv:=[(0,jV 0),(1,jV p1)]) (z:=[jV 0,jV 0]) (cs:=B1) Z (wAD Z (wAD Z wAO)) yL wIU Z Z) (ZC (pv:=[(0,.agg B1.toArray)]) (zs:=[jV 0,jV 0]) (cs:=B1) Z Z Z Z Z (wAD Z wAO) Try.runUnderlying112 Zp yL Z Z Z Z Z bz ?_)
 intro W5 b6 bR
 have bS:sW w U U [.row (some ⟨b6,0,none⟩) 1 45 2 (hH wBR [(⟨0,p1⟩:wAQ)]),.blk b2 28 B0] W5:=bR
 have q:=bS.freezeR (k:=0) (n:=[(⟨0,p1⟩:wAQ)].length) rfl (wAG (f:=wBR) (sz:=2) (fun _=>rfl) [(⟨0,p1⟩:wAQ)]) (by decide)
 obtain ⟨bj,am,bY,bM⟩:=q
 have bN:sW w U bj [.blk b2 28 B0] W5:=bM
 have bB:=bU.le am
 have bC:=bV.le am
 have bD:=bW.le am
 have bE:=bX.le am
 have q:=bnd hm
 obtain ⟨⟨x19,bA⟩,bF,ah⟩:=q
 try dsimp only at ah
 refine zM 0 Z Z Z Z (zL Z Z Try.call46 (zC Z (zC Z zQ)) Z) bN (fun hs=>wET p0 ap az aq aW au aX av aY [(⟨0,p1⟩:wAQ)] (some ⟨b6,0,none⟩) 1 W5 bj hs bB bC bD bE bY bF) (.inr Z) ?_
 rintro aj bZ cf bk cd bw bv
 rcases x19 with _ | ai
 try dsimp only at ah
 obtain ⟨rfl,rfl⟩:=bv
 have bP:sW w U aj [.blk b2 28 B0] bk:=bw
 refine oR Z (zX Z Z (v:=.pointer none) Z) (oR Z (zX Z Z (v:=jV bA) Z) (oA Z Z (oA Z Z (eN (zU ?_)))))
 cases ah
 exact ⟨rfl,_,(wHL rfl rfl),aj,_,(bP.pick [] _ (by decide) rfl),rfl,rfl⟩
 try dsimp only at ah
 obtain ⟨bb,be,bo,bf,bp,bg,bq,bh,br,bd,bu,bs,bi,bt,rfl,rfl,bG,bH,bI,bJ,bK,bL⟩:=bv
 have bQ:sW w U aj [.blk bb 124 [.slice be ai.Race.Starts.length bo,.slice bf ai.Race.Splits.length bp,.slice bg ai.Race.Clocks.length bq,.slice bh ai.Race.Readings.length br,.map (some bd),.slice bi ai.edges.length bt],.obj bd (.map bu bs),.blk b2 28 B0] bk:=bw
 refine oR Z (zX Z Z (v:=.pointer (some ⟨bb,0,none⟩)) Z) (oR Z (zX Z Z (v:=jV bA) Z) (oA Z Z (oA Z Z (eN (zU ?_)))))
 cases ah
 exact ⟨rfl,_,(wHL rfl rfl),aj,_,(bQ.pick [0,1] _ (by decide) rfl),bb,be,bo,bf,bp,bg,bq,bh,br,bd,bu,bs,bi,bt,rfl,rfl,bG,bH,bI,bJ,bK,bL⟩
theorem wDQ (p0:wAb) (az:Nat) (av:Option Addr) (aW:Nat) (ba:Option Addr) (bf:Nat) (bb:Option Addr) (bg:Nat) (bd:Option Addr) (bh:Nat) (ab:Nat) (ae:Array MapEntry) (ah:Nat) (be:Option Addr) (bi:Nat) (p1:Int) (w:World) (U:PHeap) (hS:St0 w U [.blk az 124 [.slice av p0.Race.Starts.length aW,.slice ba p0.Race.Splits.length bf,.slice bb p0.Race.Clocks.length bg,.slice bd p0.Race.Readings.length bh,.map (some ab),.slice be p0.edges.length bi],.obj ab (.map ae ah)]) (dq:Sl U 1 av aW p0.Race.Starts.length (hH KL.encI p0.Race.Starts)) (dr:Sl U 2 ba bf p0.Race.Splits.length (hH wAJ p0.Race.Splits)) (dt:Sl U 3 bb bg p0.Race.Clocks.length (hH wAA p0.Race.Clocks)) (du:Sl U 4 bd bh p0.Race.Readings.length (hH wAH p0.Race.Readings)) (bD:MpR ae wAu wAv p0.number) (dv:Sl U 7 be bi p0.edges.length (hH wAS p0.edges)) {r:(Arr Int 64)} (hm:wBA p0 p1=some r):Gv Try.prog 51 [.pointer (some ⟨az,0,none⟩),jV p1] w (wCh w [.blk az 124 [.slice av p0.Race.Starts.length aW,.slice ba p0.Race.Splits.length bf,.slice bb p0.Race.Clocks.length bg,.slice bd p0.Race.Readings.length bh,.map (some ab),.slice be p0.edges.length bi],.obj ab (.map ae ah)] U (fun U_ L_ v=>v=.agg (hH KL.encI r.l).toArray/\L_=[.blk az 124 [.slice av p0.Race.Starts.length aW,.slice ba p0.Race.Splits.length bf,.slice bb p0.Race.Clocks.length bg,.slice bd p0.Race.Readings.length bh,.map (some ab),.slice be p0.edges.length bi],.obj ab (.map ae ah)])):=by
 unfold wBA at hm
 refine Gv.of Try.func51 Z Try.ntmps51 Try.results51 Z (sR (.fx 0 .nil .stop) Z (zS (cs:=hH KL.encI (Arr.fill 64 0).l) Z Z Z Z Z Try.zeroValue109 Z hS ?_))
 intro W3 b4 de
 let B0:Res:=.blk az 124 [.slice av p0.Race.Starts.length aW,.slice ba p0.Race.Splits.length bf,.slice bb p0.Race.Clocks.length bg,.slice bd p0.Race.Readings.length bh,.map (some ab),.slice be p0.edges.length bi]
 have dl:SW w [B0,.obj ab (.map ae ah)] U U [.blk b4 109 (hH KL.encI (Arr.fill 64 0).l),B0,.obj ab (.map ae ah)] W3:=de
 refine eN (sR (.fx 0 .nil .stop) Z (zS (cs:=hH KL.encI (Arr.fill 64 0).l) Z Z Z Z Z Try.zeroValue109 Z dl ?_))
 intro W8 b9 cX
 have cd:SW w [B0,.obj ab (.map ae ah)] U U [.blk b9 109 (hH KL.encI (Arr.fill 64 0).l),.blk b4 109 (hH KL.encI (Arr.fill 64 0).l),B0,.obj ab (.map ae ah)] W8:=cX
 refine eN (zK (sR fL7 Z (oM Z Z (oR Z (ZT Z Z) (oR Z (zF Z Z zo Z zm) (oR Z (zF Z Z zN Z zZ) (oL Z (cd.ldB (j:=2) Z Z Z zj (v:=.slice av p0.Race.Starts.length aW) Z) (oR Z (zt Z Z zD) (oM Z Z (eN (zd (bnK hm fun ap dw dH=>?_))))))))))))
 have q:=wBH dw
 obtain ⟨bG,dx⟩:=q
 replace bG:=zI bG
 refine CK.forN' (fun aj bj σ_ w_=>∃ (U_:PHeap),σ_ 17=jV (↑aj:Int)/\σ_ 0=.pointer (some ⟨az,0,none⟩)/\σ_ 1=jV p1/\σ_ 4=.pointer (some ⟨b4,0,none⟩)/\σ_ 5=.pointer (some ⟨b9,0,none⟩)/\σ_ 16=jV (↑p0.Race.Starts.length:Int)/\PHeap.Le U U_/\SW w [B0,.obj ab (.map ae ah)] U U_ [.blk b9 109 (hH KL.encI bj.l),.blk b4 109 (hH KL.encI (Arr.fill 64 0).l),B0,.obj ab (.map ae ah)] w_) dx ?_ ?_ ?_
 exact ⟨U,Z,Z,Z,Z,Z,Z,(zO _),cd⟩
 rintro aj bj d5 eg bL bE ⟨bJ,bA,bs,bU,cL,cM,bV,aZ,bC⟩ dJ
 have bP:Hid ((↑aj:Int) < (↑p0.Race.Starts.length:Int)):=zI (wAy bE)
 replace bE:=zI bE
 have dD:Hid (w64 ((↑aj:Int) + 1)=(↑(aj + 1):Int)):=zI (by have h1:=bG.out;have h2:=bP.out;rw [wAV] <;> omega)
 refine sR fL1 Z (oR Z (zY Z bA bV) (eN (zK (cT Z bP (kN (zK (zd (sR fL2 Z (oM Z bA (oA Z Z (eN (sR (fC0_8 (.fx 9 (wQv (.fx 14 (.fx 15 (.fl 16 (.fl 17 .nil)) .stop) .stop)) .stop)) Z (oM Z bs (oM Z bs (oR Z (ZT Z Z) (oR Z (zF Z Z zo Z Zk) (oL Z (bC.ldB (j:=2) Z Z Z Zo (v:=.map (some ab)) Z) (oM Z Z (oM Z bU (oR Z (zy (pv:=[(0,jV (↑aj:Int)),(1,jV p1)]) (z:=[jV 0,jV 0]) (cs:=[jV (↑aj:Int),jV p1]) Z (wAD Z (wAD Z wAO)) zf wAz Z Z) (oL Z (bC.lookup1 (j:=3) (mk:=wAu) (mv:=wAv) (a:=(⟨(↑aj:Int),p1⟩:wAC)) (z:=0) Z Z Z Z (wBh zw) wCD ZE bD) ?_)))))))))))))))))))))
 have cQ:=dq.le aZ
 have cR:=dr.le aZ
 have cS:=dt.le aZ
 have cU:=du.le aZ
 have cV:=dv.le aZ
 have q:=bnd dJ
 obtain ⟨⟨x47,x48,x49⟩,cW,cj⟩:=q
 try dsimp only at cj
 have df:SW w [B0,.obj ab (.map ae ah)] U bJ [B0,.obj ab (.map ae ah),.blk b9 109 (hH KL.encI bj.l),.blk b4 109 (hH KL.encI (Arr.fill 64 0).l)] bL:=bC.pick [2,3,0,1] _ (by decide) rfl
 refine zM 2 Z Z Z Z (zL Z Z yZ (zC Z (zC Z (zC Z zQ))) Z) df (fun hs=>wAm p0 az av aW ba bf bb bg bd bh ab ae ah be bi (wAg p0.number (⟨(↑aj:Int),p1⟩:wAC) 0) false bL bJ hs cQ cR cS cU bD cV cW) (.inl Z) ?_
 rintro bp dO dZ cr dM dg ⟨bk,br,bw,bz,rfl,rfl⟩
 let B1:Res:=.row bk br 3 1 (hH KL.encI x47.far)
 let B2:Res:=.row bw bz 3 1 (hH KL.encI x47.by_)
 have dh:SW w [B0,.obj ab (.map ae ah)] U bp [B1,B2,B0,.obj ab (.map ae ah),.blk b9 109 (hH KL.encI bj.l),.blk b4 109 (hH KL.encI (Arr.fill 64 0).l)] cr:=dg
 refine oM Z Z (oR Z (zX Z Z (v:=.agg #[.slice bk x47.far.length br,.slice bw x47.by_.length bz]) Z) (oR Z (zX Z Z (v:=jV x48) Z) (oR Z (zX Z Z (v:=.bool x49) Z) (zS (cs:=[.slice none 0 0,.slice none 0 0]) Z Z Z Z Z Za Z dh ?_))))
 intro dS bq dk
 let B3:List Value:=[.slice bk x47.far.length br,.slice bw x47.by_.length bz]
 refine zV (j:=0) (vs:=B3) Z Z Z Z dk Z Z Z Z Zl (zA Z) Z Z Z ?_
 intro ct dm
 have ci:SW w [B0,.obj ab (.map ae ah)] U bp [.blk bq 118 B3,B1,B2,B0,.obj ab (.map ae ah),.blk b9 109 (hH KL.encI bj.l),.blk b4 109 (hH KL.encI (Arr.fill 64 0).l)] ct:=dm
 refine oA Z Z (oA Z Z (eN (sR fL7 Z (oM Z bs (oR Z (ZT Z Z) (oR Z (zF Z Z zo Z zm) (oR Z (zF Z Z zN Z zZ) (oL Z (ci.ldB (j:=3) Z Z Z zj (v:=.slice av p0.Race.Starts.length aW) Z) (oR Z (zt Z Z zD) (oM Z Z (eN (zd (bnK cj fun d9 dy dI=>?_)))))))))))))
 have q:=wBH dy
 obtain ⟨bH,dz⟩:=q
 replace bH:=zI bH
 refine CK.forN' (fun ak aY σ_ w_=>∃ (U_:PHeap),σ_ 40=jV (↑ak:Int)/\σ_ 0=.pointer (some ⟨az,0,none⟩)/\σ_ 1=jV p1/\σ_ 4=.pointer (some ⟨b4,0,none⟩)/\σ_ 5=.pointer (some ⟨b9,0,none⟩)/\σ_ 6=jV (↑aj:Int)/\σ_ 7=.pointer (some ⟨bq,0,none⟩)/\σ_ 16=jV (↑p0.Race.Starts.length:Int)/\σ_ 17=jV (↑aj:Int)/\σ_ 39=jV (↑p0.Race.Starts.length:Int)/\PHeap.Le bp U_/\SW w [B0,.obj ab (.map ae ah)] U U_ [B1,B2,.blk bq 118 B3,B0,.obj ab (.map ae ah),.blk b9 109 (hH KL.encI aY.l),.blk b4 109 (hH KL.encI (Arr.fill 64 0).l)] w_) dz ?_ ?_ ?_
 exact ⟨bp,rfl,bs,bU,cL,cM,rfl,rfl,bV,bA,rfl,(zO _),(ci.pick [1,2,0,3,4,5,6] _ (by decide) rfl)⟩
 rintro ak aY d7 eh bM bF ⟨bK,bB,bW,bX,cN,bY,bZ,bQ,cy,cz,bR,dN,dp⟩ dK
 have bN:Hid ((↑ak:Int) < (↑p0.Race.Starts.length:Int)):=zI (wAy bF)
 replace bF:=zI bF
 have dC:Hid (w64 ((↑ak:Int) + 1)=(↑(ak + 1):Int)):=zI (by have h1:=bH.out;have h2:=bN.out;rw [wAV] <;> omega)
 refine sR fL1 rfl (zg rfl rfl rfl rfl (fun _=>zY rfl bB bR) (eN (zK (cT Z bN (kN (zK (zd (sR fL2 rfl (zk rfl rfl rfl rfl rfl bB (yH rfl rfl rfl rfl rfl rfl (eN (ZA ZB [3,3,3,1,3,3,3,1,3,3,3,1,3,1,3,3,0] (wSV (.fx 16 .nil .stop)) (by kernel_rfl) ?_))))))))))))
 have aX:=dp.drew
 generalize hw_W107:({ bM with drawn:=bM.drawn + 1 }:World)=dP at aX ⊢
 refine oM Z bZ (oM Z Z (oR Z (zF Z bQ ZH Z zZ) (oL Z (aX.ldB (j:=2) Z Z Z zj (v:=.slice bk x47.far.length br) Z) (oM Z bW (oR Z (ZT Z Z) (oR Z (zF Z Z zo Z Zk) (oL Z (aX.ldB (j:=3) Z Z Z Zo (v:=.map (some ab)) Z) (oM Z Z (oM Z bX (oR Z (zy (pv:=[(0,jV (↑ak:Int)),(1,jV p1)]) (z:=[jV 0,jV 0]) (cs:=[jV (↑ak:Int),jV p1]) Z (wAD Z (wAD Z wAO)) zf wAz Z Z) (oL Z (aX.lookup1 (j:=4) (mk:=wAu) (mv:=wAv) (a:=(⟨(↑ak:Int),p1⟩:wAC)) (z:=0) Z Z Z Z (wBh zw) wCD ZE bD) (bnK dK fun _ bt dE=>?_))))))))))))
 obtain ⟨dT,cb⟩:=aX.rowSome (j:=0) rfl (by rw [wAG (f:=KL.encI) (sz:=1) (fun _=>rfl) x47.far];have hz:=wAU bt;omega)
 refine oR Z (ZQ Z Z cb Z zD zB (wBV bt) (wBW bt)) ?_
 have dA:=wBK (xs:=x47.far) (wAU bt)
 refine ZG rfl rfl rfl rfl (aX.ldR (j:=0) rfl cb rfl rfl zE (wAX (sz:=1) (fun _=>rfl) _ _ 0 _ dA (by first | omega | rfl | simp) rfl)) rfl (bnK dE fun _ bu dF=>zg rfl rfl rfl rfl (fun _=>Runs.iaA rfl bY rfl Try.runUnderlying109 Try.sizeOf108 (wBV bu) (wBW bu)) (bnK dF fun _ bv dG=>zg rfl rfl rfl rfl (fun _=>Runs.iaA rfl rfl rfl Try.runUnderlying108 zB (wBV bv) (wBW bv)) ?_))
 have dB:=Arr.at_ aY (k:=(aj * 8 + ak)) (by have hz0:=wAU bu;have hz1:=wAU bv;omega)
 refine zV (j:=5) (vs:=[jV (gd x47.far (wAg p0.number (⟨(↑ak:Int),p1⟩:wAC) 0).toNat)]) (cs':=hH KL.encI (aY.set (aj * 8 + ak) (gd x47.far (wAg p0.number (⟨(↑ak:Int),p1⟩:wAC) 0).toNat)).l) rfl rfl rfl rfl aX rfl rfl rfl rfl zB (by have hz0:=wAU bu;have hz1:=wAU bv;simp only [List.length_append,List.length_cons,List.length_nil,wBC (f:=KL.encI) (sz:=1) (N:=64) aY (fun _=>rfl) rfl];omega) rfl (wCu (sz:=1) (fo:=0) (fun _=>rfl) _ _ _ _ dB (by first | omega | rfl | simp) (zA rfl) rfl) rfl ?_
 intro cn cY
 have cZ:SW w [B0,.obj ab (.map ae ah)] U bK [B1,B2,.blk bq 118 B3,B0,.obj ab (.map ae ah),.blk b9 109 (hH KL.encI (aY.set (aj * 8 + ak) (gd x47.far (wAg p0.number (⟨(↑ak:Int),p1⟩:wAC) 0).toNat)).l),.blk b4 109 (hH KL.encI (Arr.fill 64 0).l)] cn:=cY
 refine zi (zu (zH (rR fL2 Z (oR Z (ZR (zW Z bB Z) (congrArg (jV) dC.out)) (oM Z Z (zi ?_))))))
 cases dG
 exact zH ⟨Z,⟨bK,Z,bW,bX,cN,bY,bZ,bQ,cy,cz,bR,dN,cZ⟩⟩
 rintro ec dQ ⟨cm,cO,cB,cC,cD,cE,dU,dV,cG,cH,cI,dL,da⟩
 have cw:Hid (¬ ((↑(((↑p0.Race.Starts.length:Int):Int) - 0).toNat:Int) < (↑p0.Race.Starts.length:Int))):=zI (wAi)
 refine sR fL1 Z (oR Z (zY Z cO cI) (eN (zK (cF Z cw (Zb (zl (zl (ZX (zu (zH (rR fL2 Z (oR Z (ZR (zW Z cH Z) (congrArg (jV) dD.out)) (oM Z Z (zi ?_))))))))))))))
 cases dI
 exact zH ⟨rfl,⟨cm,rfl,cB,cC,cD,cE,cG,((aZ.trans dM).trans dL),(da.pick [5,6,3,4] _ (by decide) rfl)⟩⟩
 rintro ef dR ⟨bI,cP,dW,dX,bS,cJ,cK,dY,cf⟩
 have cx:Hid (¬ ((↑(((↑p0.Race.Starts.length:Int):Int) - 0).toNat:Int) < (↑p0.Race.Starts.length:Int))):=zI (wAi)
 refine sR fL1 rfl (zg rfl rfl rfl rfl (fun _=>zY rfl cP cK) (eN (zK (cF Z cx (Zb (zl (zl (ZX (zH (sR gBx rfl (ZG rfl rfl rfl rfl (cf.ldBA (j:=0) rfl rfl cJ Try.isAgg109 Try.sizeOf109 (vs:=hH KL.encI ap.l) (wRN ap (fun _=>rfl) rfl) (wBC ap (fun _=>rfl) rfl)) rfl (zV (j:=1) (vs:=hH KL.encI ap.l) rfl rfl rfl rfl cf rfl bS rfl rfl (fun w=>by rw [wBC (f:=KL.encI) (sz:=1) (N:=64) ap (fun _=>rfl) rfl];exact Try.sizeOf109 w) (by rw [wBC (f:=KL.encI) (sz:=1) (N:=64) ap (fun _=>rfl) rfl,wBC (f:=KL.encI) (sz:=1) (N:=64) (Arr.fill 64 0) (fun _=>rfl) rfl];exact zA rfl) (wEN (fun _=>rfl) _) (wIE _ _ (by rw [wBC (f:=KL.encI) (sz:=1) (N:=64) ap (fun _=>rfl) rfl,wBC (f:=KL.encI) (sz:=1) (N:=64) (Arr.fill 64 0) (fun _=>rfl) rfl])) rfl ?_))))))))))))
 intro cp db
 have cg:SW w [B0,.obj ab (.map ae ah)] U bI [.blk b9 109 (hH KL.encI ap.l),.blk b4 109 (hH KL.encI ap.l),B0,.obj ab (.map ae ah)] cp:=db
 refine eN (zU ?_)
 have hE:=nI dH;first | subst r | cases hE
 exact ⟨rfl,_,(wIl (v:=.agg (hH KL.encI ap.l).toArray) ⟨⟨_,bS,(wBB Try.isAgg109 Try.sizeOf109 (cg.blkAt (k:=1) rfl) (wRN ap (fun _=>rfl) rfl) (wBC ap (fun _=>rfl) rfl))⟩,trivial⟩),bI,_,(cg.pick [2,3] _ (by decide) rfl),rfl,rfl⟩
theorem wIW (p0:wAB) (bh:Option Addr) (bi:Nat) (bB:Option Addr) (bE:Nat) (bC:Option Addr) (bF:Nat) (bD:Option Addr) (bG:Nat) (p1:Int) (w:World) (U:PHeap) (hS:St0 w U []) (eh:Sl U 1 bh bi p0.Starts.length (hH KL.encI p0.Starts)) (en:Sl U 2 bB bE p0.Splits.length (hH wAJ p0.Splits)) (eu:Sl U 3 bC bF p0.Clocks.length (hH wAA p0.Clocks)) (ey:Sl U 4 bD bG p0.Readings.length (hH wAH p0.Readings)) {r:(List wAF) × Int} (hm:wCM p0 p1=some r):Gv Try.prog 17 [.agg #[.slice bh p0.Starts.length bi,.slice bB p0.Splits.length bE,.slice bC p0.Clocks.length bF,.slice bD p0.Readings.length bG],jV p1] w (wCh w [] U (fun U_ L_ v=>∃ (A0:Option Addr) (c0:Nat),v=.tuple #[.slice A0 r.1.length c0,jV r.2]/\L_=[.row A0 c0 41 2 (hH wAJ r.1)])):=by
 unfold wCM at hm
 refine Gv.of Try.func17 Z Try.ntmps17 Try.results17 Z (sR gCg Z ?_)
 let B0:List Value:=[.slice bh p0.Starts.length bi,.slice bB p0.Splits.length bE,.slice bC p0.Clocks.length bF,.slice bD p0.Readings.length bG]
 refine ZN (cs:=B0) rfl rfl rfl rfl rfl rfl (by rfl) hS ?_
 intro W1 b2 cK
 refine oA Z Z (oA Z Z (eN (sR (.fl 0 (.fl 1 (.fx 2 (wOp (.nil)) .stop))) Z (oL Z (cK.ldBA (j:=0) Z Z Z ZK zm (vs:=B0) Z Z) (oM Z Z ?_)))))
 have q:=bnd hm
 obtain ⟨⟨x5,x6⟩,h7,bq⟩:=q
 try dsimp only at bq
 refine zM 0 Z Z Z Z (zL Z Z Try.call50 (zC Z (zC Z zQ)) Z) cK (fun hs=>wFZ p0 bh bi bB bE bC bF bD bG p1 W1 U hs eh en eu ey h7) (.inr Z) ?_
 rintro U9 fw fM bN fJ cH cE
 rcases x5 with _ | x30
 try dsimp only at bq
 obtain ⟨rfl,rfl⟩:=cE
 have dY:sW w U U9 [.blk b2 28 B0] bN:=cH
 refine oM Z Z (oR Z (zX Z Z (v:=.pointer none) Z) (oR Z (zX Z Z (v:=jV x6) Z) (oA Z Z (oA Z Z (eN (zK (sR fL2 Z (oM Z Z (oR Z (Zs Z Z Z) (eN (ifc bq ?_ ?_)))))))))))
 intro bU fd
 refine ZU (ZS (fun h=>h bU.out)) (kN (sR gCx Z (oM Z Z (oM Z Z ?_))))
 cases fd
 intro bU ff
 refine cT Z bU (sR fL3 Z (oM Z Z (oA Z Z (oA Z Z (eN (zU (zJ ?_)))))))
 have dZ:=dY.nilrow 41 2
 cases ff
 exact ⟨rfl,_,(wHL rfl rfl),U9,_,(dZ.pick [0] _ (by decide) rfl),none,0,rfl,rfl⟩
 try dsimp only at bq
 obtain ⟨bP,cf,cu,cg,cw,ci,cx,cm,cz,ah,aj,ai,cn,cB,rfl,rfl,dD,dE,dF,dG,dH,dI⟩:=cE
 let B1:Res:=.blk bP 124 [.slice cf x30.Race.Starts.length cu,.slice cg x30.Race.Splits.length cw,.slice ci x30.Race.Clocks.length cx,.slice cm x30.Race.Readings.length cz,.map (some ah),.slice cn x30.edges.length cB]
 have cL:sW w U U9 [B1,.obj ah (.map aj ai),.blk b2 28 B0] bN:=cH
 refine oM Z Z (oR Z (zX Z Z (v:=.pointer (some ⟨bP,0,none⟩)) Z) (oR Z (zX Z Z (v:=jV x6) Z) (oA Z Z (oA Z Z (eN (zK (sR fL2 Z (oM Z Z (oR Z (Zs Z Z Z) (eN (ifc bq ?_ ?_)))))))))))
 intro bV fg
 refine ZU (ZS (fun h=>h bV.out)) (kN (sR gCx Z (oM Z Z (oM Z Z (bnK fg fun x48 dJ fh=>zM 2 Z Z Z Z (zL Z Z Try.call51 (zC Z (zC Z zQ)) Z) cL (fun hs=>wDQ x30 bP cf cu cg cw ci cx cm cz ah aj ai cn cB p1 bN U9 hs dD dE dF dG dH dI dJ) (.inl Z) ?_)))))
 rintro bm fy fN db fL d5 ⟨rfl,rfl⟩
 have d7:sW w U bm [B1,.obj ah (.map aj ai),.blk b2 28 B0] db:=d5
 refine zS (cs:=hH KL.encI (Arr.fill 64 0).l) Z Z Z Z Z Try.zeroValue109 Z d7 ?_
 intro de am d9
 have ec:sW w U bm [.blk am 109 (hH KL.encI (Arr.fill 64 0).l),B1,.obj ah (.map aj ai),.blk b2 28 B0] de:=d9
 refine zV (j:=0) (vs:=hH KL.encI x48.l) rfl rfl rfl rfl ec rfl rfl rfl rfl (fun w=>by rw [wBC (f:=KL.encI) (sz:=1) (N:=64) x48 (fun _=>rfl) rfl];exact Try.sizeOf109 w) (by rw [wBC (f:=KL.encI) (sz:=1) (N:=64) x48 (fun _=>rfl) rfl,wBC (f:=KL.encI) (sz:=1) (N:=64) (Arr.fill 64 0) (fun _=>rfl) rfl];exact zA rfl) (wEN (fun _=>rfl) _) (wIE _ _ (by rw [wBC (f:=KL.encI) (sz:=1) (N:=64) x48 (fun _=>rfl) rfl,wBC (f:=KL.encI) (sz:=1) (N:=64) (Arr.fill 64 0) (fun _=>rfl) rfl])) rfl ?_
 intro df ef
 have cM:sW w U bm [.blk am 109 (hH KL.encI x48.l),B1,.obj ah (.map aj ai),.blk b2 28 B0] df:=ef
 refine eN (sR fL1 Z (oA Z Z (eN (zK (sR fL4 Z (oR Z (zF Z Z zN Z zZ) (oL Z (cM.ldB (j:=3) Z Z Z zj (v:=.slice bh p0.Starts.length bi) Z) (oR Z (zt Z Z zD) (oM Z Z (eN (zd (bnK fh fun fQ eG fj=>?_))))))))))))
 have q:=wBH eG
 obtain ⟨cb,eH⟩:=q
 replace cb:=zI cb
 refine CK.forN' (fun aq bg σ_ w_=>∃ (U_:PHeap) (bj:Option Addr) (bo:Nat),σ_ 28=jV (↑aq:Int)/\σ_ 2=.pointer (some ⟨b2,0,none⟩)/\σ_ 8=.pointer (some ⟨am,0,none⟩)/\σ_ 9=.slice bj bg.length bo/\σ_ 27=jV (↑p0.Starts.length:Int)/\PHeap.Le bm U_/\sW w U U_ [.blk am 109 (hH KL.encI x48.l),B1,.obj ah (.map aj ai),.blk b2 28 B0,.row bj bo 41 2 (hH wAJ bg)] w_) eH ?_ ?_ ?_
 have eg:=cM.nilrow 41 2
 exact ⟨bm,none,0,rfl,rfl,rfl,rfl,rfl,(zO _),(eg.pick [1,2,3,4,0] _ (by decide) rfl)⟩
 rintro aq bg fP fU fD bY ⟨bM,bj,bo,bW,cC,dm,dp,cD,ft,dL⟩ fm
 have cr:Hid ((↑aq:Int) < (↑p0.Starts.length:Int)):=zI (wAy bY)
 replace bY:=zI bY
 have eL:Hid (w64 ((↑aq:Int) + 1)=(↑(aq + 1):Int)):=zI (by have h1:=cb.out;have h2:=cr.out;rw [wAV] <;> omega)
 refine sR fL1 Z (oR Z (zY Z bW cD) (eN (zK (cT Z cr (kN (zK (zd (sR fL2 Z (oM Z bW (oA Z Z (eN (sR gCe Z ?_))))))))))))
 let B2:List Value:=[jV 0,jV 0]
 let B3:List Value:=[jV 1,jV 1]
 refine oR Z (zy (pv:=[(0,jV 1),(1,jV 1)]) (z:=B2) (cs:=B3) Z (wAD Z (wAD Z wAO)) Zd wEd Z Z) (zS (cs:=B2) Z Z Z Z Z Zd Z dL ?_)
 intro fz aW dM
 refine zV (j:=0) (vs:=B3) Z Z Z Z dM Z Z Z Z zq (zA Z) Z Z Z ?_
 intro cV dN
 let B4:Res:=.row bj bo 41 2 (hH wAJ bg)
 have cG:sW w U bM [.blk aW 41 B3,.blk am 109 (hH KL.encI x48.l),B1,.obj ah (.map aj ai),.blk b2 28 B0,B4] cV:=dN
 refine eN (zK (sR fL4 Z (oR Z (zF Z cC zN Z zZ) (oL Z (cG.ldB (j:=4) Z Z Z zj (v:=.slice bh p0.Starts.length bi) Z) (oR Z (zt Z Z zD) (oM Z Z (eN (zd ?_))))))))
 have q:=bnd fm
 obtain ⟨⟨bH,bI⟩,eD,cN⟩:=q
 try dsimp only at cN
 have q:=wBH eD
 obtain ⟨bZ,eE⟩:=q
 replace bZ:=zI bZ
 refine CK.forN' (fun aX (bd,az) σ_ w_=>∃ (U_:PHeap),σ_ 35=jV (↑aX:Int)/\σ_ 2=.pointer (some ⟨b2,0,none⟩)/\σ_ 8=.pointer (some ⟨am,0,none⟩)/\σ_ 9=.slice bj bg.length bo/\σ_ 10=jV (↑aq:Int)/\σ_ 11=.pointer (some ⟨aW,0,none⟩)/\σ_ 27=jV (↑p0.Starts.length:Int)/\σ_ 28=jV (↑aq:Int)/\σ_ 34=jV (↑p0.Starts.length:Int)/\PHeap.Le bM U_/\sW w U U_ [.blk aW 41 [jV bd,jV az],.blk am 109 (hH KL.encI x48.l),B1,.obj ah (.map aj ai),.blk b2 28 B0,B4] w_) eE ?_ ?_ ?_
 exact ⟨bM,Z,cC,dm,dp,Z,Z,cD,bW,Z,(zO _),cG⟩
 rintro aX ⟨bd,az⟩ fO fR fA bX ⟨aY,bf,br,aZ,bs,ba,ap,bt,bu,bp,bz,bb⟩ cO
 try dsimp only at cO
 have ct:Hid ((↑aX:Int) < (↑p0.Starts.length:Int)):=zI (wAy bX)
 replace bX:=zI bX
 have bw:Hid (w64 ((↑aX:Int) + 1)=(↑(aX + 1):Int)):=zI (by have h1:=bZ.out;have h2:=ct.out;rw [wAV] <;> omega)
 refine sR fL1 Z (oR Z (zY Z bf bp) (eN (zK (cT Z ct (kN (zK (zd (sR fL2 Z (oM Z bf (oA Z Z (eN (zK (sR fL6 Z (oM Z ba (oM Z Z (bnK cO fun _ au eM=>oR Z (Runs.iaA Z aZ Z Try.runUnderlying109 Try.sizeOf108 (wBV au) (wBW au)) (bnK eM fun _ av eO=>oR Z (Runs.iaA Z Z Z Try.runUnderlying108 zB (wBV av) (wBW av)) ?_)))))))))))))))))
 have eI:=Arr.at_ x48 (k:=(aq * 8 + aX)) (by have hz0:=wAU au;have hz1:=wAU av;omega)
 refine ZG rfl rfl rfl rfl (bb.ldB (j:=1) rfl rfl rfl zE (wAX (sz:=1) (fun _=>rfl) _ _ 0 _ eI (by first | omega | rfl | simp) rfl)) rfl (zg rfl rfl rfl rfl (fun _=>zY rfl rfl rfl) (eN (ifc eO ?_ ?_)))
 intro bQ eQ
 refine cT Z bQ (rR (wEi (.fx 4 .nil .stop)) Z (oR Z (zF Z ap zn Z zB) (oL Z (bb.ldB (j:=0) Z Z Z zE (v:=jV bd) Z) (oR Z (zW Z Z Z) (oR Z (zF Z ap zn Z zB) (zV (j:=0) (vs:=[jV (w64 (bd + 1))]) Z Z Z Z bb Z Z Z Z zB (zA Z) Z Z Z ?_))))))
 intro cW dO
 have bv:sW w U aY [.blk aW 41 [jV (w64 (bd + 1)),jV az],.blk am 109 (hH KL.encI x48.l),B1,.obj ah (.map aj ai),.blk b2 28 B0,B4] cW:=dO
 refine eN (sR fL6 Z (oM Z Z (oM Z ba (oR Z (Runs.iaA Z aZ Z Try.runUnderlying109 Try.sizeOf108 (wBV av) (wBW av)) (oR Z (Runs.iaA Z Z Z Try.runUnderlying108 zB (wBV au) (wBW au)) ?_)))))
 have eJ:=Arr.at_ x48 (k:=(aX * 8 + aq)) (by have hz0:=wAU av;have hz1:=wAU au;omega)
 refine ZG rfl rfl rfl rfl (bv.ldB (j:=1) rfl rfl rfl zE (wAX (sz:=1) (fun _=>rfl) _ _ 0 _ eJ (by first | omega | rfl | simp) rfl)) rfl (zg rfl rfl rfl rfl (fun _=>yW rfl rfl rfl) (eN (ifc eQ ?_ ?_)))
 intro bR eU
 refine cT Z bR (rR (wEi (.fx 4 .nil .stop)) Z (oR Z (zF Z ap zn Z zB) (oL Z (bv.ldB (j:=0) Z Z Z zE (v:=jV az) Z) (oR Z (zW Z Z Z) (oR Z (zF Z ap zn Z zB) (zV (j:=0) (vs:=[jV (w64 (az + 1))]) Z Z Z Z bv Z Z Z Z zB (zA Z) Z Z Z ?_))))))
 intro cX dP
 have dQ:sW w U aY [.blk aW 41 [jV (w64 (bd + 1)),jV (w64 (az + 1))],.blk am 109 (hH KL.encI x48.l),B1,.obj ah (.map aj ai),.blk b2 28 B0,B4] cX:=dP
 refine zi (zu (zH (rR fL2 Z (oR Z (ZR (zW Z bf Z) (congrArg (jV) bw.out)) (oM Z Z (zi ?_))))))
 cases eU
 exact zH ⟨Z,⟨aY,Z,br,aZ,bs,ba,ap,bt,bu,bp,bz,dQ⟩⟩
 intro bR eV
 refine cF Z bR (Zq (zu (zH (rR fL2 Z (oR Z (ZR (zW Z bf Z) (congrArg (jV) bw.out)) (oM Z Z (zi ?_)))))))
 cases eV
 exact zH ⟨Z,⟨aY,Z,br,aZ,bs,ba,ap,bt,bu,bp,bz,bv⟩⟩
 intro bQ eW
 refine cF Z bQ (kN (sR fL6 Z (oM Z Z (oM Z ba (oR Z (Runs.iaA Z aZ Z Try.runUnderlying109 Try.sizeOf108 (wBV av) (wBW av)) (oR Z (Runs.iaA Z Z Z Try.runUnderlying108 zB (wBV au) (wBW au)) ?_))))))
 have eK:=Arr.at_ x48 (k:=(aX * 8 + aq)) (by have hz0:=wAU av;have hz1:=wAU au;omega)
 refine ZG rfl rfl rfl rfl (bb.ldB (j:=1) rfl rfl rfl zE (wAX (sz:=1) (fun _=>rfl) _ _ 0 _ eK (by first | omega | rfl | simp) rfl)) rfl (zg rfl rfl rfl rfl (fun _=>yW rfl rfl rfl) (eN (ifc eW ?_ ?_)))
 intro bS eX
 refine cT Z bS (rR (wEi (.fx 4 .nil .stop)) Z (oR Z (zF Z ap zn Z zB) (oL Z (bb.ldB (j:=0) Z Z Z zE (v:=jV az) Z) (oR Z (zW Z Z Z) (oR Z (zF Z ap zn Z zB) (zV (j:=0) (vs:=[jV (w64 (az + 1))]) Z Z Z Z bb Z Z Z Z zB (zA Z) Z Z Z ?_))))))
 intro cY dR
 have dS:sW w U aY [.blk aW 41 [jV bd,jV (w64 (az + 1))],.blk am 109 (hH KL.encI x48.l),B1,.obj ah (.map aj ai),.blk b2 28 B0,B4] cY:=dR
 refine zi (zu (zH (rR fL2 Z (oR Z (ZR (zW Z bf Z) (congrArg (jV) bw.out)) (oM Z Z (zi ?_))))))
 cases eX
 exact zH ⟨Z,⟨aY,Z,br,aZ,bs,ba,ap,bt,bu,bp,bz,dS⟩⟩
 intro bS eZ
 refine cF Z bS (Zq (zu (zH (rR fL2 Z (oR Z (ZR (zW Z bf Z) (congrArg (jV) bw.out)) (oM Z Z (zi ?_)))))))
 cases eZ
 exact zH ⟨Z,⟨aY,Z,br,aZ,bs,ba,ap,bt,bu,bp,bz,bb⟩⟩
 rintro fS fB ⟨bL,dA,dq,dr,dt,fE,du,dv,dw,dx,fq,cI⟩
 have dh:Hid (¬ ((↑(((↑p0.Starts.length:Int):Int) - 0).toNat:Int) < (↑p0.Starts.length:Int))):=zI (wAi)
 refine sR fL1 Z (oR Z (zY Z dA dx) (eN (zK (cF Z dh (Zb (zl (zl (ZX (zH (rR (.fl 0 (.fl 1 gCc)) Z (oM Z dt ?_)))))))))))
 let B5:List Value:=[jV bH,jV bI]
 refine oL Z (cI.ldBA (j:=0) Z Z du yE zq (vs:=B5) Z Z) (ZC (pv:=[(0,.agg B5.toArray)]) (zs:=B2) (cs:=B5) Z Z Z Z Z (wAD Z wAO) zr zq Zd Z Z Z Z Z cI ?_)
 intro cZ dg dT
 let B6:Res:=.row (some ⟨dg,0,none⟩) 1 41 2 (hH wAJ [(⟨bH,bI⟩:wAF)])
 have cJ:sW w U bL [B6,.blk aW 41 B5,.blk am 109 (hH KL.encI x48.l),B1,.obj ah (.map aj ai),.blk b2 28 B0,B4] cZ:=dT
 refine bnK cN fun cP dC fb=>Zz (j:=6) (enc:=wAJ) (xs:=bg) (ys:=[(⟨bH,bI⟩:wAF)]) (zs:=cP) rfl rfl rfl rfl rfl Try.underlying24 wPQ rfl rfl rfl rfl rfl rfl cJ rfl rfl rfl (cJ.srcR (j:=0) rfl (by decide) (wAG (f:=wAJ) (sz:=2) (fun _=>rfl) [(⟨bH,bI⟩:wAF)])) (fun _=>rfl) (fun _=>rfl) dC rfl ?_
 intro cj cy da dU
 have dV:sW w U bL [B6,.blk aW 41 B5,.blk am 109 (hH KL.encI x48.l),B1,.obj ah (.map aj ai),.blk b2 28 B0,.row cj cy 41 2 (hH wAJ cP)] da:=dU
 refine oA Z Z (zi (zu (zH (rR fL2 Z (oR Z (ZR (zW Z dw Z) (congrArg (jV) eL.out)) (oM Z Z (zi ?_)))))))
 cases fb
 exact zH ⟨rfl,⟨bL,cj,cy,rfl,dq,dr,rfl,dv,(ft.trans fq),(dV.pick [2,3,4,5,6] _ (by decide) rfl)⟩⟩
 rintro fT fC ⟨cS,cR,dk,dB,fG,fH,dy,dz,fK,dW⟩
 have dl:Hid (¬ ((↑(((↑p0.Starts.length:Int):Int) - 0).toNat:Int) < (↑p0.Starts.length:Int))):=zI (wAi)
 refine sR fL1 Z (oR Z (zY Z dB dz) (eN (zK (cF Z dl (Zb (zl (zl (ZX (zH (sR fL3 Z (oM Z dy (oA Z Z (oA Z Z (eN (zU ?_)))))))))))))))
 cases fj
 exact ⟨rfl,_,(wHL rfl rfl),cS,_,(dW.pick [4] _ (by decide) rfl),cR,dk,rfl,rfl⟩
 intro bV fc
 refine cT Z bV (sR fL3 Z (oM Z Z (oA Z Z (oA Z Z (eN (zU (zJ ?_)))))))
 have dX:=cL.nilrow 41 2
 cases fc
 exact ⟨rfl,_,(wHL rfl rfl),U9,_,(dX.pick [0] _ (by decide) rfl),none,0,rfl,rfl⟩
end Go.Proofs.Ytlnfbjphfoipaaa
