import Derived.Test.YtkghaiefcjgfkaaGreatY5
import Derived.Test.YtkghaiefcjgfkaaGreatY4
set_option linter.all false
open List renaming flatMap->hH,getElem_cons_succ->hJ,getElem_cons_zero->nA,getElem_toArray->nB,length_set->nG,set->nI
open Int renaming toNat_natCast->nE,eq_ofNat_of_zero_le->nJ
open Option.some renaming inj->nH
open Go.Value renaming bool->nK
open Bool renaming eq_false_iff->nL
namespace Go.Proofs.YtkghaiefcjgfkaaGreat
open Go.KL
def gBc:Sch:=.fx 1 (.fl 2 .nil) .stop
def gBd:Sch:=.fx 2 (.fx 3 .nil .stop) .stop
def gBe:Sch:=.fx 6 (.fx 7 .nil .stop) .stop
def gBf:Sch:=.fx 8 (.fx 9 .nil .stop) .stop
def gBg:Sch:=.fl 7 (.fx 9 .nil .stop)
def gBh:Sch:=.fx 4 (.fl 5 .nil) .stop
def gBi:Sch:=.fx 7 (.fx 8 .nil .stop) .stop
def gBj:Sch:=.fx 6 (.fx 8 .nil .stop) .stop
def gBk:Sch:=.fl 0 (.fx 1 .nil .stop)
def gBl:Sch:=.fx 0 (.fx 1 .nil .stop) .stop
def gBm:Sch:=.fl 14 (.fx 16 .nil .stop)
def gBn:Sch:=.fl 17 (.fx 18 .nil .stop)
def gBo:Sch:=.fx 6 gBg .stop
def gBp:Sch:=.fx 4 gBg .stop
def gBq:Sch:=.fx 1 (.fl 2 (.fl 3 .nil)) .stop
def gBr:Sch:=.fx 2 (.fx 3 (.fl 4 .nil) .stop) .stop
def gBs:Sch:=.fx 3 gBh .stop
def gBt:Sch:=.fl 0 (.fx 1 (.fx 2 .nil .stop) .stop)
def gBu:Sch:=.fl 22 (.fl 23 (.fx 24 .nil .stop))
def gBv:Sch:=.fx 0 (.fl 1 (.fl 2 .nil)) .stop
def gBw:Sch:=.fx 7 (.fl 8 (.fl 9 .nil)) .stop
def gBx:Sch:=.fl 14 (.fx 15 (.fx 16 .nil .stop) .stop)
def gBy:Sch:=.fx 13 gBm .stop
def gBz:Sch:=.fx 3 (.fl 4 (.fl 5 .nil)) .stop
def gCa:Sch:=.fl 7 (.fx 2 gBf .stop)
def gCb:Sch:=.fl 4 (.fl 5 gBj)
def gCc:Sch:=.fx 0 (.fl 5 gBj) .stop
def gCd:Sch:=.fx 21 gBu .stop
def gCe:Sch:=.fl 0 gBq
def gCf:Sch:=.fl 0 (.fl 1 (.fx 2 (.fl 3 .nil) .stop))
def gCg:Sch:=.fx 7 gBy .stop
def gCh:Sch:=.fx 6 (.fl 7 gBf) (.fx 8 gBo .stop)
def gCi:Sch:=.fx 4 (.fl 7 gBf) (.fx 8 gBp .stop)
def gCj:Sch:=.fx 0 (.fx 1 gBr .stop) .stop
def gCk:Sch:=.fl 5 (.fx 6 gBi (.fx 7 gBj .stop))
def gCl:Sch:=.fx 3 gCb .stop
def gCm:Sch:=.fx 13 gBx (.fx 15 gBy .stop)
def gCn:Sch:=.fx 6 (.fl 12 gBy) .stop
def gCo:Sch:=.fx 4 (.fx 16 gBn .stop) (.fx 16 (.fx 4 gBn .stop) .stop)
def gCp:Sch:=.fl 0 (.fl 1 (.fx 2 (.fx 3 (.fx 4 .nil .stop) .stop) .stop))
def gCq:Sch:=.fx 2 gCl .stop
def gCr:Sch:=.fx 1 gCl .stop
def gCs:Sch:=.fx 0 gCn .stop
def gCt:Sch:=.fl 1 (.fl 2 (.fx 0 (.fl 3 (.fx 4 (.fx 5 .nil .stop) .stop)) (.fx 4 (.fx 0 (.fl 3 (.fx 5 .nil .stop)) .stop) .stop)))
def gCu:Sch:=.fl 0 (.fl 2 (.fx 1 gBs (.fx 3 (.fx 1 gBh .stop) .stop)))
def gCv:Sch:=.fx 3 (.fl 4 gCk) (.fx 7 gCl .stop)
def gCw:Sch:=.fl 4 (.fx 0 gCk (.fx 7 gCc .stop))
def gCx:Sch:=.fx 0 gCl (.fx 3 (.fl 4 gCc) .stop)
def gCy:Sch:=.fx 6 (.fl 12 gCm) (.fx 15 gCn .stop)
def gCz:Sch:=.fx 6 (.fl 12 gCg) (.fx 7 gCn .stop)
def gDa:Sch:=.fx 2 gCv (.fx 7 gCq .stop)
def gDb:Sch:=.fx 1 gCv (.fx 7 gCr .stop)
def gDc:Sch:=.fx 1 gCq (.fx 2 gCr .stop)
def gDd:Sch:=.fx 0 gCq (.fx 2 gCx .stop)
def gDe:Sch:=.fx 0 gCr (.fx 1 gCx .stop)
def gDf:Sch:=.fx 0 gCv (.fx 3 gCw (.fx 7 gCx .stop))
set_option maxHeartbeats 4000000
theorem wGY (p0:wAD) (ag:Option Addr) (am:Nat) (ah:Option Addr) (an:Nat) (aj:Option Addr) (ao:Nat) (ae:Option Addr) (af:Nat) (p1:wAH) (w:World) (U:PHeap) (hS:St0 w U []) (aN:Sl U 1 ag am p0.Starts.length (hH KL.encI p0.Starts)) (aO:Sl U 2 ah an p0.Splits.length (hH wAA p0.Splits)) (aP:Sl U 3 aj ao p0.Clocks.length (hH wAG p0.Clocks)) (aQ:Sl U 4 ae af p0.Readings.length (hH wAB p0.Readings)) {r:Bool} (hm:wDz p0 p1=some r):Gv Tryz.prog 125 [.agg #[.slice ag p0.Starts.length am,.slice ah p0.Splits.length an,.slice aj p0.Clocks.length ao,.slice ae p0.Readings.length af],.agg #[jV p1.Kind,jV p1.Skier,jV p1.Index,.bool p1.Up]] w (wBl w [] U (fun U_ L_ v=>v=.bool r/\L_=[])):=by
 unfold wDz at hm
 refine Gv.of Tryz.func125 Z Tryz.ntmps125 Tryz.results125 Z (sR (.fx 0 gBc .stop) Z ?_)
 let B0:List Value:=[.slice ag p0.Starts.length am,.slice ah p0.Splits.length an,.slice aj p0.Clocks.length ao,.slice ae p0.Readings.length af]
 refine zu (cs:=B0) rfl rfl rfl rfl rfl rfl (by rfl) hS ?_
 intro W1 b2 aJ
 let B1:List Value:=[jV p1.Kind,jV p1.Skier,jV p1.Index,.bool p1.Up]
 refine zu (cs:=B1) rfl rfl rfl rfl rfl rfl (by rfl) aJ ?_
 intro W5 b6 ac
 refine oA Z Z (eN (sR (wLr (.fx 10 (.fl 11 (.fl 12 .nil)) .stop)) Z (oR Z (zM Z Z zi Z zC) (oL Z (ac.ldB (j:=0) Z Z Z zF (v:=jV p1.Skier) Z) (oR Z (yO Z Z Z) (oM Z Z ?_))))))
 by_cases O:p1.Skier=0
 have av:=hm;rw [if_pos O] at av;replace O:=zK O
 refine rU Z (wT Z O) (zM Z Z zi Z zC) (ZD Z Z Z (wT Z O) (ac.ldB (j:=0) Z Z Z zF (v:=jV p1.Index) Z) Z (rU Z (wT Z O) (zM Z Z zP Z Zk) (ZD Z Z Z (wT Z O) (ac.ldB (j:=1) Z Z Z yF (v:=.slice ae p0.Readings.length af) Z) Z (rU Z (wT Z O) (zx Z Z ZR) (rU Z (wT Z O) (ZV Z Z Z) (bnK av fun aT aG aK=>zG 0 Z Z Z (wT Z O) (zH Z Z yL (zB Z (zB Z (zB Z zN))) Z) ac (fun hs=>wBg p1.Index 0 (w64 ((↑p0.Readings.length:Int) - 1)) W5 U hs aG) (.inr Z) ?_))))))
 rintro au aL aS ay aR aH ⟨rfl,rfl⟩
 have aI:sW w U au [.blk b6 101 B1,.blk b2 45 B0] ay:=aH
 refine oR Z (zQ Z (Za O.out) Z) (oA Z Z (eN (zR ?_)))
 have hE:=nH aK;first | subst r | cases hE
 exact ⟨rfl,_,(ZG rfl),au,_,(aI.pick [] _ (by decide) rfl),rfl,rfl⟩
 have ax:=hm;rw [if_neg O] at ax;replace O:=zK O
 refine oF Z O (oF Z O (oF Z O (oF Z O (oF Z O (oF Z O (zz Z Z Z (zS Z Z (ZA O.out) Z) (oR Z (zd Z (ZA O.out) Z) (oA Z Z (eN (zR ?_))))))))))
 have hE:=nH ax;first | subst r | cases hE
 exact ⟨rfl,_,(ZG rfl),U,_,(ac.pick [] _ (by decide) rfl),rfl,rfl⟩
theorem wGZ (p0:wAD) (aX:Option Addr) (a6:Nat) (aY:Option Addr) (a7:Nat) (aZ:Option Addr) (a8:Nat) (aG:Option Addr) (aH:Nat) (p1:wAH) (w:World) (U:PHeap) (hS:St0 w U []) (fM:Sl U 1 aX a6 p0.Starts.length (hH KL.encI p0.Starts)) (fN:Sl U 2 aY a7 p0.Splits.length (hH wAA p0.Splits)) (fO:Sl U 3 aZ a8 p0.Clocks.length (hH wAG p0.Clocks)) (eG:Sl U 4 aG aH p0.Readings.length (hH wAB p0.Readings)) {r:wAI × wAI} (hm:wDM p0 p1=some r):Gv Tryz.prog 126 [.agg #[.slice aX p0.Starts.length a6,.slice aY p0.Splits.length a7,.slice aZ p0.Clocks.length a8,.slice aG p0.Readings.length aH],.agg #[jV p1.Kind,jV p1.Skier,jV p1.Index,.bool p1.Up]] w (wBl w [] U (fun U_ L_ v=>v=.tuple #[.agg #[jV r.1.skier,jV r.1.mat],.agg #[jV r.2.skier,jV r.2.mat]]/\L_=[])):=by
 unfold wDM at hm
 refine Gv.of Tryz.func126 Z Tryz.ntmps126 Tryz.results126 Z (sR (.fx 0 (.fx 1 gBd .stop) .stop) Z ?_)
 let B0:List Value:=[.slice aX p0.Starts.length a6,.slice aY p0.Splits.length a7,.slice aZ p0.Clocks.length a8,.slice aG p0.Readings.length aH]
 refine zu (cs:=B0) rfl rfl rfl rfl rfl rfl (by rfl) hS ?_
 intro W1 b2 d8
 let B1:List Value:=[jV p1.Kind,jV p1.Skier,jV p1.Index,.bool p1.Up]
 refine zu (cs:=B1) rfl rfl rfl rfl rfl rfl (by rfl) d8 ?_
 intro W5 b6 eF
 let B2:List Value:=[jV 0,jV 0]
 refine zX (cs:=B2) Z Z Z Z Z zb Z eF ?_
 intro W9 ac dL
 refine zX (cs:=B2) Z Z Z Z Z zb Z dL ?_
 intro fd ae az
 refine eN (sR (wHN gBe) Z (oR Z (zM Z Z zP Z Zk) (oL Z (az.ldB (j:=3) Z Z Z yF (v:=.slice aG p0.Readings.length aH) Z) (oR Z (zM Z Z zi Z zC) (oL Z (az.ldB (j:=2) Z Z Z zF (v:=jV p1.Index) Z) (bnK hm fun aa aT eH=>?_))))))
 have q:=eG.el (fun _=>rfl) (wAc aT)
 obtain ⟨fB,fQ,dJ,dK⟩:=q
 refine oR Z (ZM Z Z dJ Z ZR Zj (wCt aT) (wCz aT)) (oL Z (az.ldCA (f:=0) dK Z Z yp Zj (us:=[jV aa.Skier,jV aa.Mat,jV aa.Clock,jV aa.Time]) Z Z) (zX (cs:=[jV 0,jV 0,jV 0,jV 0]) Z Z Z Z Z yP Z az ?_))
 intro fq O dY
 let B3:List Value:=[jV aa.Skier,jV aa.Mat,jV aa.Clock,jV aa.Time]
 refine za (j:=0) (vs:=B3) Z Z Z Z dY Z Z Z Z Zj (zA Z) Z Z Z ?_
 intro aL d7
 have d9:sW w U U [.blk O 52 B3,.blk ae 115 B2,.blk ac 115 B2,.blk b6 101 B1,.blk b2 45 B0] aL:=d7
 refine eN ?_
 have q:=bnd eH
 obtain ⟨⟨eZ,e6⟩,eJ,bP⟩:=q
 try dsimp only at bP
 let B4:List Value:=[jV aa.Skier,jV aa.Mat]
 let B5:List Value:=[jV eZ,jV e6]
 refine yI (fun σ_ w_=>∃ (U_:PHeap),σ_ 4=.pointer (some ⟨ac,0,none⟩)/\σ_ 5=.pointer (some ⟨ae,0,none⟩)/\PHeap.Le U U_/\sW w U U_ [.blk O 52 B3,.blk ae 115 B4,.blk ac 115 B5,.blk b6 101 B1,.blk b2 45 B0] w_) ?_ ?_
 refine bnK eJ fun cb ay eI=>ZB zw [3,1,2,3,2,3,2,3,0,0] (.fl 0 (.fl 1 (.fl 3 (.fl 5 (.fx 2 (.fx 4 gCh (.fx 6 gCi (.fx 8 (.fx 4 gBo (.fx 6 gBp .stop)) .stop))) (.fx 4 (.fx 2 gCh (.fx 6 gCa .stop)) (.fx 6 (.fx 2 gCi (.fx 4 gCa .stop)) .stop))))))) (by kernel_rfl) ?_
 have aq:=d9.drew
 generalize hw_W54:({ aL with drawn:=aL.drawn + 1 }:World)=aM at aq ⊢
 let B6:List Value:=[jV cb.skier,jV cb.mat]
 refine ZO (s:=.nil) (M:=fun σ_ w_=>∃ (U_:PHeap),σ_ 4=.pointer (some ⟨ac,0,none⟩)/\σ_ 5=.pointer (some ⟨ae,0,none⟩)/\σ_ 6=.pointer (some ⟨O,0,none⟩)/\σ_ 13=.pointer (some ⟨O,2,none⟩)/\σ_ 14=jV aa.Clock/\σ_ 15=.agg B6.toArray/\σ_ 16=.pointer (some ⟨O,0,none⟩)/\σ_ 17=jV aa.Skier/\σ_ 18=.pointer (some ⟨O,1,none⟩)/\σ_ 19=jV aa.Mat/\σ_ 20=.agg B4.toArray/\PHeap.Le U U_/\sW w U U_ [.blk O 52 B3,.blk ae 115 B4,.blk ac 115 B6,.blk b6 101 B1,.blk b2 45 B0] w_) ?_ fun bQ=>?_
 rintro fV ff ⟨cc,cz,cA,fC,fD,fE,fG,fH,fI,fJ,fK,fL,eM,dM⟩
 refine zc ?_
 cases eI
 exact zI ⟨Z,⟨cc,cz,cA,eM,dM⟩⟩
 refine ZO (s:=.fx 9 .nil .stop) (M:=fun σ_ w_=>∃ (U_:PHeap),σ_ 4=.pointer (some ⟨ac,0,none⟩)/\σ_ 5=.pointer (some ⟨ae,0,none⟩)/\σ_ 6=.pointer (some ⟨O,0,none⟩)/\σ_ 13=.pointer (some ⟨O,2,none⟩)/\σ_ 14=jV aa.Clock/\σ_ 15=.agg B6.toArray/\σ_ 16=.pointer (some ⟨O,0,none⟩)/\σ_ 17=jV aa.Skier/\σ_ 18=.pointer (some ⟨O,1,none⟩)/\σ_ 19=jV aa.Mat/\σ_ 20=.agg B4.toArray/\PHeap.Le U U_/\sW w U U_ [.blk O 52 B3,.blk ae 115 B2,.blk ac 115 B6,.blk b6 101 B1,.blk b2 45 B0] w_) ?_ fun bR=>?_
 rintro fW fg ⟨a9,cB,bh,cC,cD,cE,cG,cH,cI,cJ,cK,bi,eO,dN⟩
 refine za (j:=1) (vs:=B4) Z Z Z Z dN Z bh bi Z zE (zA Z) Z Z Z ?_
 intro cj dO
 have dP:sW w U a9 [.blk O 52 B3,.blk ae 115 B4,.blk ac 115 B6,.blk b6 101 B1,.blk b2 45 B0] cj:=dO
 exact bQ _ _ ⟨a9,cB,bh,cC,cD,cE,cG,cH,cI,cJ,cK,bi,eO,dP⟩
 refine ZO (s:=gBf) (M:=fun σ_ w_=>∃ (U_:PHeap),σ_ 4=.pointer (some ⟨ac,0,none⟩)/\σ_ 5=.pointer (some ⟨ae,0,none⟩)/\σ_ 6=.pointer (some ⟨O,0,none⟩)/\σ_ 13=.pointer (some ⟨O,2,none⟩)/\σ_ 14=jV aa.Clock/\σ_ 15=.agg B6.toArray/\σ_ 16=.pointer (some ⟨O,0,none⟩)/\σ_ 17=jV aa.Skier/\σ_ 18=.pointer (some ⟨O,1,none⟩)/\σ_ 19=jV aa.Mat/\σ_ 20=.agg B4.toArray/\PHeap.Le U U_/\sW w U U_ [.blk O 52 B3,.blk ae 115 B2,.blk ac 115 B2,.blk b6 101 B1,.blk b2 45 B0] w_) ?_ fun eL=>?_
 rintro fY fh ⟨ba,bj,cL,cM,cN,cO,bk,cP,cQ,cR,cS,cU,eQ,dQ⟩
 refine za (j:=2) (vs:=B6) Z Z Z Z dQ Z bj bk Z zE (zA Z) Z Z Z ?_
 intro cm dR
 have dS:sW w U ba [.blk O 52 B3,.blk ae 115 B2,.blk ac 115 B6,.blk b6 101 B1,.blk b2 45 B0] cm:=dR
 exact bR _ _ ⟨ba,bj,cL,cM,cN,cO,bk,cP,cQ,cR,cS,cU,eQ,dS⟩
 refine ZO (s:=gBg) (M:=fun σ_ w_=>∃ (U_:PHeap),σ_ 4=.pointer (some ⟨ac,0,none⟩)/\σ_ 5=.pointer (some ⟨ae,0,none⟩)/\σ_ 6=.pointer (some ⟨O,0,none⟩)/\σ_ 13=.pointer (some ⟨O,2,none⟩)/\σ_ 14=jV aa.Clock/\σ_ 15=.agg B6.toArray/\σ_ 16=.pointer (some ⟨O,0,none⟩)/\σ_ 17=jV aa.Skier/\σ_ 18=.pointer (some ⟨O,1,none⟩)/\σ_ 19=jV aa.Mat/\PHeap.Le U U_/\sW w U U_ [.blk O 52 B3,.blk ae 115 B2,.blk ac 115 B6,.blk b6 101 B1,.blk b2 45 B0] w_) ?_ fun bS=>?_
 rintro fZ fj ⟨bb,cV,bm,cW,cX,cY,cZ,c6,bn,da,bo,eR,dT⟩
 refine oR Z (zl (pv:=[(0,jV aa.Skier),(1,jV aa.Mat)]) (z:=B2) (cs:=B4) Z (wAE bn (wAE bo wAL)) zb wBT Z Z) (za (j:=1) (vs:=B4) Z Z Z Z dT Z bm Z Z zE (zA Z) Z Z Z ?_)
 intro cn dU
 have dV:sW w U bb [.blk O 52 B3,.blk ae 115 B4,.blk ac 115 B6,.blk b6 101 B1,.blk b2 45 B0] cn:=dU
 exact bQ _ _ ⟨bb,cV,bm,cW,cX,cY,cZ,c6,bn,da,bo,Z,eR,dV⟩
 refine ZO (s:=gBp) (M:=fun σ_ w_=>∃ (U_:PHeap),σ_ 4=.pointer (some ⟨ac,0,none⟩)/\σ_ 5=.pointer (some ⟨ae,0,none⟩)/\σ_ 6=.pointer (some ⟨O,0,none⟩)/\σ_ 13=.pointer (some ⟨O,2,none⟩)/\σ_ 14=jV aa.Clock/\σ_ 15=.agg B6.toArray/\σ_ 16=.pointer (some ⟨O,0,none⟩)/\σ_ 18=.pointer (some ⟨O,1,none⟩)/\σ_ 19=jV aa.Mat/\PHeap.Le U U_/\sW w U U_ [.blk O 52 B3,.blk ae 115 B2,.blk ac 115 B6,.blk b6 101 B1,.blk b2 45 B0] w_) ?_ fun bT=>?_
 rintro f4 fk ⟨cd,db,dd,de,df,dg,dh,bp,di,dk,eS,bN⟩
 exact ZL Z Z Z Z (bN.ldB (j:=0) Z Z bp zF (v:=jV aa.Skier) Z) (bS _ _ ⟨cd,db,dd,de,df,dg,dh,bp,Z,di,dk,eS,bN⟩)
 refine ZO (s:=gBo) (M:=fun σ_ w_=>∃ (U_:PHeap),σ_ 4=.pointer (some ⟨ac,0,none⟩)/\σ_ 5=.pointer (some ⟨ae,0,none⟩)/\σ_ 6=.pointer (some ⟨O,0,none⟩)/\σ_ 13=.pointer (some ⟨O,2,none⟩)/\σ_ 14=jV aa.Clock/\σ_ 15=.agg B6.toArray/\σ_ 16=.pointer (some ⟨O,0,none⟩)/\σ_ 17=jV aa.Skier/\σ_ 18=.pointer (some ⟨O,1,none⟩)/\PHeap.Le U U_/\sW w U U_ [.blk O 52 B3,.blk ae 115 B2,.blk ac 115 B6,.blk b6 101 B1,.blk b2 45 B0] w_) ?_ fun bU=>?_
 rintro f5 fm ⟨cf,dl,dm,dn,dp,dq,dr,dt,du,bq,eT,bO⟩
 exact ZL Z Z Z Z (bO.ldB (j:=0) Z Z bq zF (v:=jV aa.Mat) Z) (bS _ _ ⟨cf,dl,dm,dn,dp,dq,dr,dt,du,bq,Z,eT,bO⟩)
 refine ZO (s:=.fl 7 gBf) (M:=fun σ_ w_=>∃ (U_:PHeap),σ_ 4=.pointer (some ⟨ac,0,none⟩)/\σ_ 5=.pointer (some ⟨ae,0,none⟩)/\σ_ 6=.pointer (some ⟨O,0,none⟩)/\σ_ 13=.pointer (some ⟨O,2,none⟩)/\σ_ 14=jV aa.Clock/\σ_ 15=.agg B6.toArray/\σ_ 16=.pointer (some ⟨O,0,none⟩)/\σ_ 17=jV aa.Skier/\σ_ 18=.pointer (some ⟨O,1,none⟩)/\σ_ 19=jV aa.Mat/\PHeap.Le U U_/\sW w U U_ [.blk O 52 B3,.blk ae 115 B2,.blk ac 115 B2,.blk b6 101 B1,.blk b2 45 B0] w_) ?_ fun bV=>?_
 rintro f6 ft ⟨bc,br,dv,dw,dx,dy,bt,dz,bu,dA,bv,eU,dW⟩
 refine oR Z (zl (pv:=[(0,jV aa.Skier),(1,jV aa.Mat)]) (z:=B2) (cs:=B4) Z (wAE bu (wAE bv wAL)) zb wBT Z Z) (za (j:=2) (vs:=B6) Z Z Z Z dW Z br bt Z zE (zA Z) Z Z Z ?_)
 intro co dX
 have dZ:sW w U bc [.blk O 52 B3,.blk ae 115 B2,.blk ac 115 B6,.blk b6 101 B1,.blk b2 45 B0] co:=dX
 exact bR _ _ ⟨bc,br,dv,dw,dx,dy,bt,dz,bu,dA,bv,Z,eU,dZ⟩
 refine ZO (s:=gCa) (M:=fun σ_ w_=>∃ (U_:PHeap),σ_ 4=.pointer (some ⟨ac,0,none⟩)/\σ_ 5=.pointer (some ⟨ae,0,none⟩)/\σ_ 6=.pointer (some ⟨O,0,none⟩)/\σ_ 13=.pointer (some ⟨O,2,none⟩)/\σ_ 14=jV aa.Clock/\σ_ 16=.pointer (some ⟨O,0,none⟩)/\σ_ 17=jV aa.Skier/\σ_ 18=.pointer (some ⟨O,1,none⟩)/\σ_ 19=jV aa.Mat/\PHeap.Le U U_/\sW w U U_ [.blk O 52 B3,.blk ae 115 B2,.blk ac 115 B2,.blk b6 101 B1,.blk b2 45 B0] w_) ?_ fun bW=>?_
 rintro f7 cp ⟨cg,dB,dC,dD,dE,bw,dF,bx,dG,bz,eV,d4⟩
 refine oR Z (zl (pv:=[(0,jV aa.Skier),(1,jV aa.Mat)]) (z:=B2) (cs:=B4) Z (wAE bx (wAE bz wAL)) zb wBT Z Z) (zG 0 Z Z Z Z (zH Z Z Tryz.call73 (zB bw zN) Z) d4 (fun hs=>wCf aa.Clock cp cg hs ay) (.inr Z) ?_)
 rintro be e7 fR cq eW d5 ⟨rfl,rfl⟩
 have d6:sW w U be [.blk O 52 B3,.blk ae 115 B2,.blk ac 115 B2,.blk b6 101 B1,.blk b2 45 B0] cq:=d5
 exact eL _ _ ⟨be,dB,dC,dD,dE,bw,Z,dF,bx,dG,bz,Z,(eV.trans eW),d6⟩
 refine ZO (s:=gCi) (M:=fun σ_ w_=>∃ (U_:PHeap),σ_ 4=.pointer (some ⟨ac,0,none⟩)/\σ_ 5=.pointer (some ⟨ae,0,none⟩)/\σ_ 6=.pointer (some ⟨O,0,none⟩)/\σ_ 13=.pointer (some ⟨O,2,none⟩)/\σ_ 14=jV aa.Clock/\σ_ 15=.agg B6.toArray/\σ_ 16=.pointer (some ⟨O,0,none⟩)/\σ_ 18=.pointer (some ⟨O,1,none⟩)/\σ_ 19=jV aa.Mat/\PHeap.Le U U_/\sW w U U_ [.blk O 52 B3,.blk ae 115 B2,.blk ac 115 B2,.blk b6 101 B1,.blk b2 45 B0] w_) ?_ fun bX=>?_
 rintro f8 fu ⟨aJ,aN,bA,bB,bC,bD,aO,aP,bF,bG,bZ,aU⟩
 refine zq ?_ ?_
 exact ZL Z Z Z Z (aU.ldB (j:=0) Z Z aP zF (v:=jV aa.Skier) Z) (bV _ _ ⟨aJ,aN,bA,bB,bC,bD,aO,aP,Z,bF,bG,bZ,aU⟩)
 refine za (j:=2) (vs:=B6) Z Z Z Z aU Z aN aO Z zE (zA Z) Z Z Z ?_
 intro cr ef
 have eg:sW w U aJ [.blk O 52 B3,.blk ae 115 B2,.blk ac 115 B6,.blk b6 101 B1,.blk b2 45 B0] cr:=ef
 exact bT _ _ ⟨aJ,aN,bA,bB,bC,bD,aO,aP,bF,bG,bZ,eg⟩
 refine ZO (s:=gCh) (M:=fun σ_ w_=>∃ (U_:PHeap),σ_ 4=.pointer (some ⟨ac,0,none⟩)/\σ_ 5=.pointer (some ⟨ae,0,none⟩)/\σ_ 6=.pointer (some ⟨O,0,none⟩)/\σ_ 13=.pointer (some ⟨O,2,none⟩)/\σ_ 14=jV aa.Clock/\σ_ 15=.agg B6.toArray/\σ_ 16=.pointer (some ⟨O,0,none⟩)/\σ_ 17=jV aa.Skier/\σ_ 18=.pointer (some ⟨O,1,none⟩)/\PHeap.Le U U_/\sW w U U_ [.blk O 52 B3,.blk ae 115 B2,.blk ac 115 B2,.blk b6 101 B1,.blk b2 45 B0] w_) ?_ fun bY=>?_
 rintro f9 fw ⟨aK,aQ,bH,bI,bJ,bK,aR,bL,bM,aS,ca,aV⟩
 refine zq ?_ ?_
 exact ZL Z Z Z Z (aV.ldB (j:=0) Z Z aS zF (v:=jV aa.Mat) Z) (bV _ _ ⟨aK,aQ,bH,bI,bJ,bK,aR,bL,bM,aS,Z,ca,aV⟩)
 refine za (j:=2) (vs:=B6) Z Z Z Z aV Z aQ aR Z zE (zA Z) Z Z Z ?_
 intro ct eh
 have ej:sW w U aK [.blk O 52 B3,.blk ae 115 B2,.blk ac 115 B6,.blk b6 101 B1,.blk b2 45 B0] ct:=eh
 exact bU _ _ ⟨aK,aQ,bH,bI,bJ,bK,aR,bL,bM,aS,ca,ej⟩
 refine oR Z (zM Z Z Zi Z zC) (oL Z (aq.ldB (j:=0) Z Z Z zF (v:=jV aa.Clock) Z) (oR Z (zM Z Z Zi Z zC) (oR Z (zM Z Z Zi Z zC) (zq ?_ ?_))))
 refine zG 0 Z Z Z Z (zH Z Z Tryz.call73 (zB Z zN) Z) aq (fun hs=>wCf aa.Clock aM U hs ay) (.inr Z) ?_
 rintro av e8 fS cu aF en ⟨rfl,rfl⟩
 have ax:sW w U av [.blk O 52 B3,.blk ae 115 B2,.blk ac 115 B2,.blk b6 101 B1,.blk b2 45 B0] cu:=en
 refine zq ?_ ?_
 exact ZL Z Z Z Z (ax.ldB (j:=0) Z Z Z zF (v:=jV aa.Skier) Z) (bY _ _ ⟨av,Z,Z,Z,Z,Z,Z,Z,Z,Z,aF,ax⟩)
 refine zq ?_ ?_
 exact ZL Z Z Z Z (ax.ldB (j:=0) Z Z Z zF (v:=jV aa.Mat) Z) (bX _ _ ⟨av,Z,Z,Z,Z,Z,Z,Z,Z,Z,aF,ax⟩)
 refine za (j:=2) (vs:=B6) Z Z Z Z ax Z Z Z Z zE (zA Z) Z Z Z ?_
 intro cw eo
 have aE:sW w U av [.blk O 52 B3,.blk ae 115 B2,.blk ac 115 B6,.blk b6 101 B1,.blk b2 45 B0] cw:=eo
 refine zq ?_ ?_
 exact ZL Z Z Z Z (aE.ldB (j:=0) Z Z Z zF (v:=jV aa.Skier) Z) (bU _ _ ⟨av,Z,Z,Z,Z,Z,Z,Z,Z,Z,aF,aE⟩)
 exact ZL Z Z Z Z (aE.ldB (j:=0) Z Z Z zF (v:=jV aa.Mat) Z) (bT _ _ ⟨av,Z,Z,Z,Z,Z,Z,Z,Z,Z,aF,aE⟩)
 refine zq ?_ ?_
 refine ZL Z Z Z Z (aq.ldB (j:=0) Z Z Z zF (v:=jV aa.Skier) Z) (zq ?_ ?_)
 refine zG 0 Z Z Z Z (zH Z Z Tryz.call73 (zB Z zN) Z) aq (fun hs=>wCf aa.Clock aM U hs ay) (.inr Z) ?_
 rintro bf e9 fT cx eX ez ⟨rfl,rfl⟩
 have eA:sW w U bf [.blk O 52 B3,.blk ae 115 B2,.blk ac 115 B2,.blk b6 101 B1,.blk b2 45 B0] cx:=ez
 exact bY _ _ ⟨bf,Z,Z,Z,Z,Z,Z,Z,Z,Z,eX,eA⟩
 exact ZL Z Z Z Z (aq.ldB (j:=0) Z Z Z zF (v:=jV aa.Mat) Z) (bW _ _ ⟨U,Z,Z,Z,Z,Z,Z,Z,Z,Z,(zL _),aq⟩)
 refine ZL Z Z Z Z (aq.ldB (j:=0) Z Z Z zF (v:=jV aa.Mat) Z) (zq ?_ ?_)
 refine zG 0 Z Z Z Z (zH Z Z Tryz.call73 (zB Z zN) Z) aq (fun hs=>wCf aa.Clock aM U hs ay) (.inr Z) ?_
 rintro bg fb fU cy eY eB ⟨rfl,rfl⟩
 have eE:sW w U bg [.blk O 52 B3,.blk ae 115 B2,.blk ac 115 B2,.blk b6 101 B1,.blk b2 45 B0] cy:=eB
 exact bX _ _ ⟨bg,Z,Z,Z,Z,Z,Z,Z,Z,Z,eY,eE⟩
 exact ZL Z Z Z Z (aq.ldB (j:=0) Z Z Z zF (v:=jV aa.Skier) Z) (bW _ _ ⟨U,Z,Z,Z,Z,Z,Z,Z,Z,Z,(zL _),aq⟩)
 rintro ga fy ⟨ci,dH,dI,fP,aW⟩
 refine zR ?_
 cases bP
 exact ⟨rfl,_,(wEG (rs:=[.cell 4 115,.cell 5 115]) (vs:=[.agg B5.toArray,.agg B4.toArray]) ⟨⟨_,dH,(wBC zh zE (aW.blkAt (k:=2) rfl) (vs:=B5) rfl rfl)⟩,⟨⟨_,dI,(wBC zh zE (aW.blkAt (k:=1) rfl) (vs:=B4) rfl rfl)⟩,trivial⟩⟩ rfl),ci,_,(aW.pick [] _ (by decide) rfl),rfl,rfl⟩
theorem wGa (O:wAD) (ap:Option Addr) (au:Nat) (aq:Option Addr) (av:Nat) (af:Option Addr) (ag:Nat) (aj:Option Addr) (am:Nat) (p1:wAH) (w:World) (U:PHeap) (hS:St0 w U []) (a9:Sl U 1 ap au O.Starts.length (hH KL.encI O.Starts)) (ba:Sl U 2 aq av O.Splits.length (hH wAA O.Splits)) (aE:Sl U 3 af ag O.Clocks.length (hH wAG O.Clocks)) (aT:Sl U 4 aj am O.Readings.length (hH wAB O.Readings)) {r:Int × Int} (hm:wDN O p1=some r):Gv Tryz.prog 127 [.agg #[.slice ap O.Starts.length au,.slice aq O.Splits.length av,.slice af O.Clocks.length ag,.slice aj O.Readings.length am],.agg #[jV p1.Kind,jV p1.Skier,jV p1.Index,.bool p1.Up]] w (wBl w [] U (fun U_ L_ v=>v=.tuple #[jV r.1,jV r.2]/\L_=[])):=by
 unfold wDN at hm
 refine Gv.of Tryz.func127 Z Tryz.ntmps127 Tryz.results127 Z (sR (.fx 0 gBq .stop) Z ?_)
 let B0:List Value:=[.slice ap O.Starts.length au,.slice aq O.Splits.length av,.slice af O.Clocks.length ag,.slice aj O.Readings.length am]
 refine zu (cs:=B0) rfl rfl rfl rfl rfl rfl (by rfl) hS ?_
 intro W1 b2 aS
 let B1:List Value:=[jV p1.Kind,jV p1.Skier,jV p1.Index,.bool p1.Up]
 refine zu (cs:=B1) rfl rfl rfl rfl rfl rfl (by rfl) aS ?_
 intro W5 b6 ah
 refine oA Z Z (oA Z Z (eN (sR (wHN gBe) Z (oR Z (zM Z Z zP Z Zk) (oL Z (ah.ldB (j:=1) Z Z Z yF (v:=.slice aj O.Readings.length am) Z) (oR Z (zM Z Z zi Z zC) (oL Z (ah.ldB (j:=0) Z Z Z zF (v:=jV p1.Index) Z) (bnK hm fun x9 ao aU=>?_))))))))
 have q:=aT.el (fun _=>rfl) (wAc ao)
 obtain ⟨a6,bb,aJ,aM⟩:=q
 refine oR Z (ZM Z Z aJ Z ZR Zj (wCt ao) (wCz ao)) (oL Z (ah.ldCA (f:=0) aM Z Z yp Zj (us:=[jV x9.Skier,jV x9.Mat,jV x9.Clock,jV x9.Time]) Z Z) (zX (cs:=[jV 0,jV 0,jV 0,jV 0]) Z Z Z Z Z yP Z ah ?_))
 intro aX aG aP
 let B2:List Value:=[jV x9.Skier,jV x9.Mat,jV x9.Clock,jV x9.Time]
 refine za (j:=0) (vs:=B2) Z Z Z Z aP Z Z Z Z Zj (zA Z) Z Z Z ?_
 intro an aQ
 have aR:sW w U U [.blk aG 52 B2,.blk b6 101 B1,.blk b2 45 B0] an:=aQ
 refine eN (zJ (ZB zw [3,1,3,1,3,1,3,3,1,3,3,1,3,1,3,3,1,3,1,3,3,3] fL22 (by kernel_rfl) ?_))
 have ab:=aR.drew
 generalize hw_W24:({ an with drawn:=an.drawn + 1 }:World)=aY at ab ⊢
 refine oR Z (zM Z Z Zi Z zC) (oL Z (ab.ldB (j:=0) Z Z Z zF (v:=jV x9.Time) Z) (oR Z (zM Z Z zP Z yZ) (oL Z (ab.ldB (j:=2) Z Z Z yc (v:=.slice af O.Clocks.length ag) Z) (oR Z (zM Z Z Zi Z zC) (oL Z (ab.ldB (j:=0) Z Z Z zF (v:=jV x9.Clock) Z) (bnK aU fun aF ae aV=>?_))))))
 have q:=aE.el (fun _=>rfl) (wAc ae)
 obtain ⟨a7,bc,aK,aN⟩:=q
 refine oR Z (ZM Z Z aK Z Zo yd (wCt ae) (wCz ae)) (oR Z (zM Z Z yh Z zC) (oL Z (ab.ldC (f:=2) aN (v:=jV aF.Error) Z Z zF Z) (oR Z (zV Z Z Z) (oR Z (zM Z Z zP Z yZ) (oL Z (ab.ldB (j:=2) Z Z Z yc (v:=.slice af O.Clocks.length ag) Z) (oR Z (zM Z Z Zi Z zC) (oL Z (ab.ldB (j:=0) Z Z Z zF (v:=jV x9.Clock) Z) ?_)))))))
 have q:=aE.el (fun _=>rfl) (wAc ae)
 obtain ⟨a8,be,aL,aO⟩:=q
 refine oR Z (ZM Z Z aL Z Zo yd (wCt ae) (wCz ae)) (oR Z (zM Z Z yh Z zC) (oL Z (ab.ldC (f:=2) aO (v:=jV aF.Error) Z Z zF Z) (oR Z (zM Z Z Zi Z zC) (oL Z (ab.ldB (j:=0) Z Z Z zF (v:=jV x9.Time) Z) (oR Z (ZV Z Z Z) (oA Z Z (oA Z Z (eN (zR ?_)))))))))
 cases aV
 exact ⟨rfl,_,(wDw rfl rfl),U,_,(ab.pick [] _ (by decide) rfl),rfl,rfl⟩
theorem wAy  (w:World) (U:PHeap) (hS:St0 w U [])  {r:Unit} (hm:wBN =some r):Gv Tryz.prog 106 [] w (wBl w [] U (fun U_ L_ v=>v=.agg #[.func (.func 116) #[] #[],.func (.func 117) #[] #[],.func (.func 118) #[] #[],.func (.func 119) #[] #[],.func (.func 120) #[] #[],.func (.func 121) #[] #[],.func (.func 122) #[] #[],.func (.func 123) #[] #[],.func (.func 124) #[] #[],.func (.func 125) #[] #[],.func (.func 126) #[] #[],.func (.func 127) #[] #[]]/\L_=[])):=by
 unfold wBN at hm
 refine Gv.of Tryz.func106 Z Tryz.ntmps106 Tryz.results106 Z (sR (.fx 0 .nil .stop) Z ?_)
 let B0:List Value:=[.nilFunc,.nilFunc,.nilFunc,.nilFunc,.nilFunc,.nilFunc,.nilFunc,.nilFunc,.nilFunc,.nilFunc,.nilFunc,.nilFunc]
 refine zX (cs:=B0) Z Z Z Z Z Tryz.zeroValue184 Z hS ?_
 intro W1 b2 an
 refine eN (sR (wDk (.fx 5 .nil .stop)) Z ?_)
 let B1:List Value:=[.nilFunc,.nilFunc,.nilFunc]
 let B2:List Value:=[.func (.func 116) #[] #[],.func (.func 117) #[] #[],.func (.func 118) #[] #[]]
 refine oR Z (zl (pv:=[(0,.func (.func 116) #[] #[]),(1,.func (.func 117) #[] #[]),(2,.func (.func 118) #[] #[])]) (z:=B1) (cs:=B2) Z (wAE Z (wAE Z (wAE Z wAL))) Zx wFj Z Z) ?_
 let B3:List Value:=[.func (.func 119) #[] #[],.func (.func 120) #[] #[],.func (.func 121) #[] #[]]
 refine oR Z (zl (pv:=[(0,.func (.func 119) #[] #[]),(1,.func (.func 120) #[] #[]),(2,.func (.func 121) #[] #[])]) (z:=B1) (cs:=B3) Z (wAE Z (wAE Z (wAE Z wAL))) Zx wFj Z Z) ?_
 let B4:List Value:=[.func (.func 122) #[] #[],.func (.func 123) #[] #[],.func (.func 124) #[] #[]]
 refine oR Z (zl (pv:=[(0,.func (.func 122) #[] #[]),(1,.func (.func 123) #[] #[]),(2,.func (.func 124) #[] #[])]) (z:=B1) (cs:=B4) Z (wAE Z (wAE Z (wAE Z wAL))) Zx wFj Z Z) ?_
 let B5:List Value:=[.func (.func 125) #[] #[],.func (.func 126) #[] #[],.func (.func 127) #[] #[]]
 refine oR Z (zl (pv:=[(0,.func (.func 125) #[] #[]),(1,.func (.func 126) #[] #[]),(2,.func (.func 127) #[] #[])]) (z:=B1) (cs:=B5) Z (wAE Z (wAE Z (wAE Z wAL))) Zx wFj Z Z) ?_
 let O:List Value:=[.func (.func 116) #[] #[],.func (.func 117) #[] #[],.func (.func 118) #[] #[],.func (.func 119) #[] #[],.func (.func 120) #[] #[],.func (.func 121) #[] #[],.func (.func 122) #[] #[],.func (.func 123) #[] #[],.func (.func 124) #[] #[],.func (.func 125) #[] #[],.func (.func 126) #[] #[],.func (.func 127) #[] #[]]
 refine oR Z (Runs.buildA (pv:=[(0,.agg B2.toArray),(1,.agg B3.toArray),(2,.agg B4.toArray),(3,.agg B5.toArray)]) (z:=B0) (cs:=O) Z (wAE Z (wAE Z (wAE Z (wAE Z wAL)))) Tryz.zeroValue184 Zm ZP Z Z) (za (j:=0) (vs:=O) Z Z Z Z an Z Z Z Z Tryz.sizeOf184 (zA Z) Z Z Z ?_)
 intro W5 ao
 have ah:sW w U U [.blk b2 184 O] W5:=ao
 refine eN (zR ?_)
 cases hm
 exact ⟨rfl,_,(wGq (v:=.agg O.toArray) ⟨⟨_,rfl,(wBC Tryz.isAgg184 Tryz.sizeOf184 (ah.blkAt (k:=0) rfl) (vs:=O) rfl rfl)⟩,trivial⟩),U,_,(ah.pick [] _ (by decide) rfl),rfl,rfl⟩
theorem wBb (p0:wAD) (a7:Option Addr) (bb:Nat) (a8:Option Addr) (bc:Nat) (a9:Option Addr) (be:Nat) (ba:Option Addr) (bf:Nat) (O:wAH) (w:World) (U:PHeap) (hS:St0 w U []) (cf:Sl U 1 a7 bb p0.Starts.length (hH KL.encI p0.Starts)) (cg:Sl U 2 a8 bc p0.Splits.length (hH wAA p0.Splits)) (ci:Sl U 3 a9 be p0.Clocks.length (hH wAG p0.Clocks)) (cj:Sl U 4 ba bf p0.Readings.length (hH wAB p0.Readings)) {r:wAI × wAI × Int} (hm:wBO p0 O=some r):Gv Tryz.prog 65 [.agg #[.slice a7 p0.Starts.length bb,.slice a8 p0.Splits.length bc,.slice a9 p0.Clocks.length be,.slice ba p0.Readings.length bf],.agg #[jV O.Kind,jV O.Skier,jV O.Index,.bool O.Up]] w (wBl w [] U (fun U_ L_ v=>v=.tuple #[.agg #[jV r.1.skier,jV r.1.mat],.agg #[jV r.2.1.skier,jV r.2.1.mat],jV r.2.2]/\L_=[])):=by
 unfold wBO at hm
 refine Gv.of Tryz.func65 Z Tryz.ntmps65 Tryz.results65 Z ?_
 by_cases c1:O.Kind=0
 have fb:=hm;rw [if_pos c1] at fb
 refine sR gCj Z ?_
 let B0:List Value:=[.slice a7 p0.Starts.length bb,.slice a8 p0.Splits.length bc,.slice a9 p0.Clocks.length be,.slice ba p0.Readings.length bf]
 refine zu (cs:=B0) rfl rfl rfl rfl rfl rfl (by rfl) hS ?_
 intro W6 b7 mi
 let B1:List Value:=[jV O.Kind,jV O.Skier,jV O.Index,.bool O.Up]
 refine zu (cs:=B1) rfl rfl rfl rfl rfl rfl (by rfl) mi ?_
 intro mY aL iX
 let B2:List Value:=[jV 0,jV 0]
 refine zX (cs:=B2) Z Z Z Z Z zb Z iX ?_
 intro m2 az je
 refine zX (cs:=B2) Z Z Z Z Z zb Z je ?_
 intro dC aG jl
 refine oA Z Z (eN ?_)
 have q:=bnd fb
 obtain ⟨⟨⟩,mu,eV⟩:=q
 try dsimp only at eV
 let B3:List Value:=[.func (.func 116) #[] #[],.func (.func 117) #[] #[],.func (.func 118) #[] #[]]
 refine yI (fun σ_ w_=>∃ (U_:PHeap) (bh:Nat),σ_ 2=.pointer (some ⟨b7,0,none⟩)/\σ_ 3=.pointer (some ⟨aL,0,none⟩)/\σ_ 4=.pointer (some ⟨az,0,none⟩)/\σ_ 5=.pointer (some ⟨aG,0,none⟩)/\σ_ 7=.pointer (some ⟨bh,0,none⟩)/\PHeap.Le U U_/\sW w U U_ [.blk aG 115 B2,.blk az 115 B2,.blk aL 101 B1,.blk b7 45 B0,.blk bh 183 B3] w_) ?_ ?_
 have q:=bnd mu
 obtain ⟨⟨⟩,d8,dt⟩:=q
 try dsimp only at dt
 refine ZB zw [2,3,1,3,2,0] gCt (by kernel_rfl) ?_
 have bY:=jl.drew
 generalize hw_W45:({ dC with drawn:=dC.drawn + 1 }:World)=gq at bY ⊢
 refine oR Z (zM Z Z zi Z yH) (oL Z (bY.ldB (j:=2) Z Z Z yM (v:=jV O.Kind) Z) (zq ?_ ?_))
 refine zG 0 Z Z Z Z (zH Z Z yN zN Z) bY (fun hs=>wAy gq U hs d8) (.inr Z) ?_
 rintro cL mP oS gB mC lu ⟨rfl,rfl⟩
 have lv:sW w U cL [.blk aG 115 B2,.blk az 115 B2,.blk aL 101 B1,.blk b7 45 B0] gB:=lu
 refine ze rfl rfl rfl rfl (fun _=>(yj (i:=0) rfl rfl (congrArg (jV) c1) Zm ZP (by decide) (by decide) (wCq yV ZP rfl))) (zX (cs:=[.nilFunc,.nilFunc,.nilFunc]) rfl rfl rfl rfl rfl Zx rfl lv ?_)
 intro od dM lF
 refine za (j:=0) (vs:=B3) Z Z Z Z lF Z Z Z Z ZP (zA Z) Z Z Z ?_
 intro gL lK
 have lO:sW w U cL [.blk dM 183 B3,.blk aG 115 B2,.blk az 115 B2,.blk aL 101 B1,.blk b7 45 B0] gL:=lK
 refine zc ?_
 cases dt
 exact zI ⟨rfl,⟨cL,dM,rfl,rfl,rfl,rfl,rfl,mC,(lO.pick [1,2,3,4,0] _ (by decide) rfl)⟩⟩
 refine zX (cs:=[.nilFunc,.nilFunc,.nilFunc]) Z Z Z Z Z Zx Z bY ?_
 intro gQ cX l0
 refine zG 0 Z Z Z Z (zH Z Z yN zN Z) l0 (fun hs=>wAy gQ U hs d8) (.inr Z) ?_
 rintro cO mU o3 gZ mF me ⟨rfl,rfl⟩
 have mf:sW w U cO [.blk cX 183 [.nilFunc,.nilFunc,.nilFunc],.blk aG 115 B2,.blk az 115 B2,.blk aL 101 B1,.blk b7 45 B0] gZ:=me
 refine ze rfl rfl rfl rfl (fun _=>(yj (i:=0) rfl rfl (congrArg (jV) c1) Zm ZP (by decide) (by decide) (wCq yV ZP rfl))) (za (j:=0) (vs:=B3) rfl rfl rfl rfl mf rfl rfl rfl rfl ZP (zA rfl) rfl rfl rfl ?_)
 intro g6 mg
 have mh:sW w U cO [.blk cX 183 B3,.blk aG 115 B2,.blk az 115 B2,.blk aL 101 B1,.blk b7 45 B0] g6:=mg
 refine zc ?_
 cases dt
 exact zI ⟨rfl,⟨cO,cX,rfl,rfl,rfl,rfl,rfl,mF,(mh.pick [1,2,3,4,0] _ (by decide) rfl)⟩⟩
 rintro ph g7 ⟨fK,bh,dX,df,bx,bt,dY,cu,cd⟩
 refine sR (wDu (.fx 4 (wLH gBf) .stop)) Z (oR Z (zM Z dY Zs Z Tryz.sizeOf180) (oL Z (cd.ldB (j:=4) Z Z Z Tryz.isAgg180 (v:=.func (.func 117) #[] #[]) Z) (oL Z (cd.ldBA (j:=3) Z Z dX zm zf (vs:=B0) Z Z) (oL Z (cd.ldBA (j:=2) Z Z df Zp ZX (vs:=B1) Z Z) ?_))))
 have eF:=cf.le cu
 have eG:=cg.le cu
 have eH:=ci.le cu
 have eI:=cj.le cu
 have q:=bnd eV
 obtain ⟨⟨cC,cD⟩,iR,fj⟩:=q
 try dsimp only at fj
 refine zG 0 Z Z Z Z (zH Z Z Tryz.call117 (zB Z (zB Z zN)) Z) cd (fun hs=>wGz p0 a7 bb a8 bc a9 be ba bf O g7 fK hs eF eG eH eI iR) (.inr Z) ?_
 rintro bP mX o6 g8 cm iS ⟨rfl,rfl⟩
 have iT:sW w U bP [.blk aG 115 B2,.blk az 115 B2,.blk aL 101 B1,.blk b7 45 B0,.blk bh 183 B3] g8:=iS
 refine oM Z Z (oR Z (zZ Z Z (v:=.agg #[jV cC.skier,jV cC.mat]) Z) (oR Z (zZ Z Z (v:=.agg #[jV cD.skier,jV cD.mat]) Z) ?_))
 let B4:List Value:=[jV cC.skier,jV cC.mat]
 refine za (j:=1) (vs:=B4) Z Z Z Z iT Z bx Z Z zE (zA Z) Z Z Z ?_
 intro fL iU
 have iV:sW w U bP [.blk aG 115 B2,.blk az 115 B4,.blk aL 101 B1,.blk b7 45 B0,.blk bh 183 B3] fL:=iU
 let B5:List Value:=[jV cD.skier,jV cD.mat]
 refine za (j:=0) (vs:=B5) Z Z Z Z iV Z bt Z Z zE (zA Z) Z Z Z ?_
 intro dA iW
 have bR:sW w U bP [.blk aG 115 B5,.blk az 115 B4,.blk aL 101 B1,.blk b7 45 B0,.blk bh 183 B3] dA:=iW
 refine eN (sR (wDu (.fx 4 (wLI (.nil)) .stop)) Z (oR Z (zM Z dY Zs Z Tryz.sizeOf181) (oL Z (bR.ldB (j:=4) Z Z Z Tryz.isAgg181 (v:=.func (.func 118) #[] #[]) Z) (oL Z (bR.ldBA (j:=3) Z Z dX zm zf (vs:=B0) Z Z) (oL Z (bR.ldBA (j:=2) Z Z df Zp ZX (vs:=B1) Z Z) ?_)))))
 have ir:=eF.le cm
 have it:=eG.le cm
 have iu:=eH.le cm
 have iv:=eI.le cm
 have q:=bnd fj
 obtain ⟨⟨dw,fu⟩,iw,eQ⟩:=q
 try dsimp only at eQ
 refine zG 0 Z Z Z Z (zH Z Z Tryz.call118 (zB Z (zB Z zN)) Z) bR (fun hs=>wHA p0 a7 bb a8 bc a9 be ba bf O dA bP hs ir it iu iv iw) (.inr Z) ?_
 rintro bk mG oE cP ot iY ⟨rfl,rfl⟩
 have bD:sW w U bk [.blk aG 115 B5,.blk az 115 B4,.blk aL 101 B1,.blk b7 45 B0,.blk bh 183 B3] cP:=iY
 refine oM Z Z (oR Z (zZ Z Z (v:=jV dw) Z) (oR Z (zZ Z Z (v:=jV fu) Z) (oA Z Z (oA Z Z (eN (zJ (sR fL3 Z (oR Z (zM Z df zi Z Tryz.sizeOf4) (oL Z (bD.ldB (j:=2) Z Z Z Tryz.isAgg4 (v:=.bool O.Up) Z) (oR Z (ZY Z Z) (eN (ifc eQ ?_ ?_))))))))))))
 intro cY mj
 refine zj (nC cY.out) (kN ?_)
 have q:=bnd mj
 obtain ⟨⟨⟩,fk,eR⟩:=q
 try dsimp only at eR
 refine yI (fun σ_ w_=>∃ (U_:PHeap),σ_ 4=.pointer (some ⟨az,0,none⟩)/\σ_ 5=.pointer (some ⟨aG,0,none⟩)/\σ_ 6=jV dw/\PHeap.Le bk U_/\sW w U U_ [.blk aG 115 B5,.blk az 115 B4,.blk aL 101 B1,.blk b7 45 B0,.blk bh 183 B3] w_) ?_ ?_
 refine ZB zw [1,2,3,0,0,3] gCu (by kernel_rfl) ?_
 have bF:=bD.drew
 generalize hw_W136:({ cP with drawn:=cP.drawn + 1 }:World)=mZ at bF ⊢
 refine oL Z (bF.ldBA (j:=1) Z Z bx zh zE (vs:=B4) Z Z) (oM Z Z (zq ?_ ?_))
 refine ZL Z Z Z Z (bF.ldBA (j:=0) Z Z bt zh zE (vs:=B5) Z Z) (za (j:=1) (vs:=B4) Z Z Z Z bF Z bx Z Z zE (zA Z) Z Z Z ?_)
 intro fM iZ
 have i7:sW w U bk [.blk aG 115 B5,.blk az 115 B4,.blk aL 101 B1,.blk b7 45 B0,.blk bh 183 B3] fM:=iZ
 refine za (j:=0) (vs:=B5) Z Z Z Z i7 Z bt Z Z zE (zA Z) Z Z Z ?_
 intro fN i8
 have i9:sW w U bk [.blk aG 115 B5,.blk az 115 B4,.blk aL 101 B1,.blk b7 45 B0,.blk bh 183 B3] fN:=i8
 refine oA Z Z (zc ?_)
 cases fk
 exact zI ⟨Z,⟨bk,bx,bt,Z,(zL _),i9⟩⟩
 refine za (j:=1) (vs:=B4) Z Z Z Z bF Z bx Z Z zE (zA Z) Z Z Z ?_
 intro fO ja
 have eJ:sW w U bk [.blk aG 115 B5,.blk az 115 B4,.blk aL 101 B1,.blk b7 45 B0,.blk bh 183 B3] fO:=ja
 refine ZL Z Z Z Z (eJ.ldBA (j:=0) Z Z bt zh zE (vs:=B5) Z Z) (za (j:=0) (vs:=B5) Z Z Z Z eJ Z bt Z Z zE (zA Z) Z Z Z ?_)
 intro fP jb
 have jc:sW w U bk [.blk aG 115 B5,.blk az 115 B4,.blk aL 101 B1,.blk b7 45 B0,.blk bh 183 B3] fP:=jb
 refine oA Z Z (zc ?_)
 cases fk
 exact zI ⟨Z,⟨bk,bx,bt,Z,(zL _),jc⟩⟩
 rintro o7 m3 ⟨fA,ib,ic,ie,ou,dg⟩
 refine zR ?_
 cases eR
 exact ⟨rfl,_,(wEG (rs:=[.cell 4 115,.cell 5 115,.tmp 6]) (vs:=[.agg B4.toArray,.agg B5.toArray,jV dw]) ⟨⟨_,ib,(wBC zh zE (dg.blkAt (k:=1) rfl) (vs:=B4) rfl rfl)⟩,⟨⟨_,ic,(wBC zh zE (dg.blkAt (k:=0) rfl) (vs:=B5) rfl rfl)⟩,⟨ie,trivial⟩⟩⟩ rfl),fA,_,(dg.pick [] _ (by decide) rfl),rfl,rfl⟩
 intro cY ml
 refine ZK (nF (cY.out)) (sR (wDp gBs) Z (oL Z (bD.ldBA (j:=0) Z Z bt zh zE (vs:=B5) Z Z) (oL Z (bD.ldBA (j:=1) Z Z bx zh zE (vs:=B4) Z Z) (oM Z Z (za (j:=1) (vs:=B5) Z Z Z Z bD Z bx Z Z zE (zA Z) Z Z Z ?_)))))
 intro fQ jd
 have jf:sW w U bk [.blk aG 115 B5,.blk az 115 B5,.blk aL 101 B1,.blk b7 45 B0,.blk bh 183 B3] fQ:=jd
 refine za (j:=0) (vs:=B4) Z Z Z Z jf Z bt Z Z zE (zA Z) Z Z Z ?_
 intro fR jg
 have dh:sW w U bk [.blk aG 115 B4,.blk az 115 B5,.blk aL 101 B1,.blk b7 45 B0,.blk bh 183 B3] fR:=jg
 refine oA Z Z (eN (zR (zW ?_)))
 cases ml
 exact ⟨rfl,_,(wEG (rs:=[.cell 4 115,.cell 5 115,.tmp 6]) (vs:=[.agg B5.toArray,.agg B4.toArray,jV fu]) ⟨⟨_,bx,(wBC zh zE (dh.blkAt (k:=1) rfl) (vs:=B5) rfl rfl)⟩,⟨⟨_,bt,(wBC zh zE (dh.blkAt (k:=0) rfl) (vs:=B4) rfl rfl)⟩,⟨rfl,trivial⟩⟩⟩ rfl),bk,_,(dh.pick [] _ (by decide) rfl),rfl,rfl⟩
 by_cases c2:O.Kind=1
 have eS:=hm;rw [if_neg c1,if_pos c2] at eS
 refine sR gCj Z ?_
 let B6:List Value:=[.slice a7 p0.Starts.length bb,.slice a8 p0.Splits.length bc,.slice a9 p0.Clocks.length be,.slice ba p0.Readings.length bf]
 refine zu (cs:=B6) rfl rfl rfl rfl rfl rfl (by rfl) hS ?_
 intro m4 aM jh
 let B7:List Value:=[jV O.Kind,jV O.Skier,jV O.Index,.bool O.Up]
 refine zu (cs:=B7) rfl rfl rfl rfl rfl rfl (by rfl) jh ?_
 intro m5 aN ji
 let B8:List Value:=[jV 0,jV 0]
 refine zX (cs:=B8) Z Z Z Z Z zb Z ji ?_
 intro m6 aE jj
 refine zX (cs:=B8) Z Z Z Z Z zb Z jj ?_
 intro dB aF jk
 refine oA Z Z (eN ?_)
 have q:=bnd eS
 obtain ⟨⟨⟩,ms,eT⟩:=q
 try dsimp only at eT
 let B9:List Value:=[.func (.func 119) #[] #[],.func (.func 120) #[] #[],.func (.func 121) #[] #[]]
 refine yI (fun σ_ w_=>∃ (U_:PHeap) (bg:Nat),σ_ 2=.pointer (some ⟨aM,0,none⟩)/\σ_ 3=.pointer (some ⟨aN,0,none⟩)/\σ_ 4=.pointer (some ⟨aE,0,none⟩)/\σ_ 5=.pointer (some ⟨aF,0,none⟩)/\σ_ 7=.pointer (some ⟨bg,0,none⟩)/\PHeap.Le U U_/\sW w U U_ [.blk aF 115 B8,.blk aE 115 B8,.blk aN 101 B7,.blk aM 45 B6,.blk bg 183 B9] w_) ?_ ?_
 have q:=bnd ms
 obtain ⟨⟨⟩,dZ,dq⟩:=q
 try dsimp only at dq
 refine ZB zw [2,3,1,3,2,0] gCt (by kernel_rfl) ?_
 have bS:=jk.drew
 generalize hw_W204:({ dB with drawn:=dB.drawn + 1 }:World)=fS at bS ⊢
 refine oR Z (zM Z Z zi Z yH) (oL Z (bS.ldB (j:=2) Z Z Z yM (v:=jV O.Kind) Z) (zq ?_ ?_))
 refine zG 0 Z Z Z Z (zH Z Z yN zN Z) bS (fun hs=>wAy fS U hs dZ) (.inr Z) ?_
 rintro cH mH oG fT my jm ⟨rfl,rfl⟩
 have jo:sW w U cH [.blk aF 115 B8,.blk aE 115 B8,.blk aN 101 B7,.blk aM 45 B6] fT:=jm
 refine ze rfl rfl rfl rfl (fun _=>(yj (i:=1) rfl rfl (congrArg (jV) c2) Zm ZP (by decide) (by decide) (wCq yV ZP rfl))) (zX (cs:=[.nilFunc,.nilFunc,.nilFunc]) rfl rfl rfl rfl rfl Zx rfl jo ?_)
 intro m7 dJ jp
 refine za (j:=0) (vs:=B9) Z Z Z Z jp Z Z Z Z ZP (zA Z) Z Z Z ?_
 intro fU jq
 have jr:sW w U cH [.blk dJ 183 B9,.blk aF 115 B8,.blk aE 115 B8,.blk aN 101 B7,.blk aM 45 B6] fU:=jq
 refine zc ?_
 cases dq
 exact zI ⟨rfl,⟨cH,dJ,rfl,rfl,rfl,rfl,rfl,my,(jr.pick [1,2,3,4,0] _ (by decide) rfl)⟩⟩
 refine zX (cs:=[.nilFunc,.nilFunc,.nilFunc]) Z Z Z Z Z Zx Z bS ?_
 intro fV cU jt
 refine zG 0 Z Z Z Z (zH Z Z yN zN Z) jt (fun hs=>wAy fV U hs dZ) (.inr Z) ?_
 rintro cI mI oH fW mz ju ⟨rfl,rfl⟩
 have jv:sW w U cI [.blk cU 183 [.nilFunc,.nilFunc,.nilFunc],.blk aF 115 B8,.blk aE 115 B8,.blk aN 101 B7,.blk aM 45 B6] fW:=ju
 refine ze rfl rfl rfl rfl (fun _=>(yj (i:=1) rfl rfl (congrArg (jV) c2) Zm ZP (by decide) (by decide) (wCq yV ZP rfl))) (za (j:=0) (vs:=B9) rfl rfl rfl rfl jv rfl rfl rfl rfl ZP (zA rfl) rfl rfl rfl ?_)
 intro fY jw
 have jx:sW w U cI [.blk cU 183 B9,.blk aF 115 B8,.blk aE 115 B8,.blk aN 101 B7,.blk aM 45 B6] fY:=jw
 refine zc ?_
 cases dq
 exact zI ⟨rfl,⟨cI,cU,rfl,rfl,rfl,rfl,rfl,mz,(jx.pick [1,2,3,4,0] _ (by decide) rfl)⟩⟩
 rintro o8 fZ ⟨fB,bg,dR,db,bu,bp,dS,cn,bT⟩
 refine sR (wDu (.fx 4 (wLH gBf) .stop)) Z (oR Z (zM Z dS Zs Z Tryz.sizeOf180) (oL Z (bT.ldB (j:=4) Z Z Z Tryz.isAgg180 (v:=.func (.func 120) #[] #[]) Z) (oL Z (bT.ldBA (j:=3) Z Z dR zm zf (vs:=B6) Z Z) (oL Z (bT.ldBA (j:=2) Z Z db Zp ZX (vs:=B7) Z Z) ?_))))
 have d4:=cf.le cn
 have d5:=cg.le cn
 have d6:=ci.le cn
 have d7:=cj.le cn
 have q:=bnd eT
 obtain ⟨⟨cw,cx⟩,iz,eU⟩:=q
 try dsimp only at eU
 refine zG 0 Z Z Z Z (zH Z Z Tryz.call120 (zB Z (zB Z zN)) Z) bT (fun hs=>wHC p0 a7 bb a8 bc a9 be ba bf O fZ fB hs d4 d5 d6 d7 iz) (.inr Z) ?_
 rintro bM mJ oI f4 co jy ⟨rfl,rfl⟩
 have jz:sW w U bM [.blk aF 115 B8,.blk aE 115 B8,.blk aN 101 B7,.blk aM 45 B6,.blk bg 183 B9] f4:=jy
 refine oM Z Z (oR Z (zZ Z Z (v:=.agg #[jV cw.skier,jV cw.mat]) Z) (oR Z (zZ Z Z (v:=.agg #[jV cx.skier,jV cx.mat]) Z) ?_))
 let aj:List Value:=[jV cw.skier,jV cw.mat]
 refine za (j:=1) (vs:=aj) Z Z Z Z jz Z bu Z Z zE (zA Z) Z Z Z ?_
 intro f5 jA
 have jB:sW w U bM [.blk aF 115 B8,.blk aE 115 aj,.blk aN 101 B7,.blk aM 45 B6,.blk bg 183 B9] f5:=jA
 let ab:List Value:=[jV cx.skier,jV cx.mat]
 refine za (j:=0) (vs:=ab) Z Z Z Z jB Z bp Z Z zE (zA Z) Z Z Z ?_
 intro dD jC
 have bU:sW w U bM [.blk aF 115 ab,.blk aE 115 aj,.blk aN 101 B7,.blk aM 45 B6,.blk bg 183 B9] dD:=jC
 refine eN (sR (wDu (.fx 4 (wLI (.nil)) .stop)) Z (oR Z (zM Z dS Zs Z Tryz.sizeOf181) (oL Z (bU.ldB (j:=4) Z Z Z Tryz.isAgg181 (v:=.func (.func 121) #[] #[]) Z) (oL Z (bU.ldBA (j:=3) Z Z dR zm zf (vs:=B6) Z Z) (oL Z (bU.ldBA (j:=2) Z Z db Zp ZX (vs:=B7) Z Z) ?_)))))
 have iA:=d4.le co
 have iB:=d5.le co
 have iC:=d6.le co
 have iD:=d7.le co
 have q:=bnd eU
 obtain ⟨⟨dx,fw⟩,iE,eW⟩:=q
 try dsimp only at eW
 refine zG 0 Z Z Z Z (zH Z Z Tryz.call121 (zB Z (zB Z zN)) Z) bU (fun hs=>wHD p0 a7 bb a8 bc a9 be ba bf O dD bM hs iA iB iC iD iE) (.inr Z) ?_
 rintro bm mK oJ cQ ov jD ⟨rfl,rfl⟩
 have bG:sW w U bm [.blk aF 115 ab,.blk aE 115 aj,.blk aN 101 B7,.blk aM 45 B6,.blk bg 183 B9] cQ:=jD
 refine oM Z Z (oR Z (zZ Z Z (v:=jV dx) Z) (oR Z (zZ Z Z (v:=jV fw) Z) (oA Z Z (oA Z Z (eN (zJ (sR fL3 Z (oR Z (zM Z db zi Z Tryz.sizeOf4) (oL Z (bG.ldB (j:=2) Z Z Z Tryz.isAgg4 (v:=.bool O.Up) Z) (oR Z (ZY Z Z) (eN (ifc eW ?_ ?_))))))))))))
 intro cZ mm
 refine zj (nC cZ.out) (kN ?_)
 have q:=bnd mm
 obtain ⟨⟨⟩,fm,eX⟩:=q
 try dsimp only at eX
 refine yI (fun σ_ w_=>∃ (U_:PHeap),σ_ 4=.pointer (some ⟨aE,0,none⟩)/\σ_ 5=.pointer (some ⟨aF,0,none⟩)/\σ_ 6=jV dx/\PHeap.Le bm U_/\sW w U U_ [.blk aF 115 ab,.blk aE 115 aj,.blk aN 101 B7,.blk aM 45 B6,.blk bg 183 B9] w_) ?_ ?_
 refine ZB zw [1,2,3,0,0,3] gCu (by kernel_rfl) ?_
 have bH:=bG.drew
 generalize hw_W295:({ cQ with drawn:=cQ.drawn + 1 }:World)=m8 at bH ⊢
 refine oL Z (bH.ldBA (j:=1) Z Z bu zh zE (vs:=aj) Z Z) (oM Z Z (zq ?_ ?_))
 refine ZL Z Z Z Z (bH.ldBA (j:=0) Z Z bp zh zE (vs:=ab) Z Z) (za (j:=1) (vs:=aj) Z Z Z Z bH Z bu Z Z zE (zA Z) Z Z Z ?_)
 intro f6 jE
 have jF:sW w U bm [.blk aF 115 ab,.blk aE 115 aj,.blk aN 101 B7,.blk aM 45 B6,.blk bg 183 B9] f6:=jE
 refine za (j:=0) (vs:=ab) Z Z Z Z jF Z bp Z Z zE (zA Z) Z Z Z ?_
 intro f7 jG
 have jH:sW w U bm [.blk aF 115 ab,.blk aE 115 aj,.blk aN 101 B7,.blk aM 45 B6,.blk bg 183 B9] f7:=jG
 refine oA Z Z (zc ?_)
 cases fm
 exact zI ⟨Z,⟨bm,bu,bp,Z,(zL _),jH⟩⟩
 refine za (j:=1) (vs:=aj) Z Z Z Z bH Z bu Z Z zE (zA Z) Z Z Z ?_
 intro f8 jI
 have eL:sW w U bm [.blk aF 115 ab,.blk aE 115 aj,.blk aN 101 B7,.blk aM 45 B6,.blk bg 183 B9] f8:=jI
 refine ZL Z Z Z Z (eL.ldBA (j:=0) Z Z bp zh zE (vs:=ab) Z Z) (za (j:=0) (vs:=ab) Z Z Z Z eL Z bp Z Z zE (zA Z) Z Z Z ?_)
 intro f9 jJ
 have jK:sW w U bm [.blk aF 115 ab,.blk aE 115 aj,.blk aN 101 B7,.blk aM 45 B6,.blk bg 183 B9] f9:=jJ
 refine oA Z Z (zc ?_)
 cases fm
 exact zI ⟨Z,⟨bm,bu,bp,Z,(zL _),jK⟩⟩
 rintro o9 m9 ⟨fC,ig,ii,ij,ow,di⟩
 refine zR ?_
 cases eX
 exact ⟨rfl,_,(wEG (rs:=[.cell 4 115,.cell 5 115,.tmp 6]) (vs:=[.agg aj.toArray,.agg ab.toArray,jV dx]) ⟨⟨_,ig,(wBC zh zE (di.blkAt (k:=1) rfl) (vs:=aj) rfl rfl)⟩,⟨⟨_,ii,(wBC zh zE (di.blkAt (k:=0) rfl) (vs:=ab) rfl rfl)⟩,⟨ij,trivial⟩⟩⟩ rfl),fC,_,(di.pick [] _ (by decide) rfl),rfl,rfl⟩
 intro cZ mn
 refine ZK (nF (cZ.out)) (sR (wDp gBs) Z (oL Z (bG.ldBA (j:=0) Z Z bp zh zE (vs:=ab) Z Z) (oL Z (bG.ldBA (j:=1) Z Z bu zh zE (vs:=aj) Z Z) (oM Z Z (za (j:=1) (vs:=ab) Z Z Z Z bG Z bu Z Z zE (zA Z) Z Z Z ?_)))))
 intro ga jL
 have jM:sW w U bm [.blk aF 115 ab,.blk aE 115 ab,.blk aN 101 B7,.blk aM 45 B6,.blk bg 183 B9] ga:=jL
 refine za (j:=0) (vs:=aj) Z Z Z Z jM Z bp Z Z zE (zA Z) Z Z Z ?_
 intro gb jN
 have dk:sW w U bm [.blk aF 115 aj,.blk aE 115 ab,.blk aN 101 B7,.blk aM 45 B6,.blk bg 183 B9] gb:=jN
 refine oA Z Z (eN (zR (zW ?_)))
 cases mn
 exact ⟨rfl,_,(wEG (rs:=[.cell 4 115,.cell 5 115,.tmp 6]) (vs:=[.agg ab.toArray,.agg aj.toArray,jV fw]) ⟨⟨_,bu,(wBC zh zE (dk.blkAt (k:=1) rfl) (vs:=ab) rfl rfl)⟩,⟨⟨_,bp,(wBC zh zE (dk.blkAt (k:=0) rfl) (vs:=aj) rfl rfl)⟩,⟨rfl,trivial⟩⟩⟩ rfl),bm,_,(dk.pick [] _ (by decide) rfl),rfl,rfl⟩
 by_cases c3:O.Kind=2
 have eY:=hm;rw [if_neg c1,if_neg c2,if_pos c3] at eY
 refine sR gCj Z ?_
 let am:List Value:=[.slice a7 p0.Starts.length bb,.slice a8 p0.Splits.length bc,.slice a9 p0.Clocks.length be,.slice ba p0.Readings.length bf]
 refine zu (cs:=am) rfl rfl rfl rfl rfl rfl (by rfl) hS ?_
 intro n2 aO jO
 let an:List Value:=[jV O.Kind,jV O.Skier,jV O.Index,.bool O.Up]
 refine zu (cs:=an) rfl rfl rfl rfl rfl rfl (by rfl) jO ?_
 intro n4 aP jP
 let aX:List Value:=[jV 0,jV 0]
 refine zX (cs:=aX) Z Z Z Z Z zb Z jP ?_
 intro n5 aH jQ
 refine zX (cs:=aX) Z Z Z Z Z zb Z jQ ?_
 intro dE aI jR
 refine oA Z Z (eN ?_)
 have q:=bnd eY
 obtain ⟨⟨⟩,mw,eZ⟩:=q
 try dsimp only at eZ
 let aT:List Value:=[.func (.func 122) #[] #[],.func (.func 123) #[] #[],.func (.func 124) #[] #[]]
 refine yI (fun σ_ w_=>∃ (U_:PHeap) (bi:Nat),σ_ 2=.pointer (some ⟨aO,0,none⟩)/\σ_ 3=.pointer (some ⟨aP,0,none⟩)/\σ_ 4=.pointer (some ⟨aH,0,none⟩)/\σ_ 5=.pointer (some ⟨aI,0,none⟩)/\σ_ 7=.pointer (some ⟨bi,0,none⟩)/\PHeap.Le U U_/\sW w U U_ [.blk aI 115 aX,.blk aH 115 aX,.blk aP 101 an,.blk aO 45 am,.blk bi 183 aT] w_) ?_ ?_
 have q:=bnd mw
 obtain ⟨⟨⟩,d9,dr⟩:=q
 try dsimp only at dr
 refine ZB zw [2,3,1,3,2,0] gCt (by kernel_rfl) ?_
 have bV:=jR.drew
 generalize hw_W363:({ dE with drawn:=dE.drawn + 1 }:World)=ge at bV ⊢
 refine oR Z (zM Z Z zi Z yH) (oL Z (bV.ldB (j:=2) Z Z Z yM (v:=jV O.Kind) Z) (zq ?_ ?_))
 refine zG 0 Z Z Z Z (zH Z Z yN zN Z) bV (fun hs=>wAy ge U hs d9) (.inr Z) ?_
 rintro cJ mL oK gf mA jS ⟨rfl,rfl⟩
 have jT:sW w U cJ [.blk aI 115 aX,.blk aH 115 aX,.blk aP 101 an,.blk aO 45 am] gf:=jS
 refine ze rfl rfl rfl rfl (fun _=>(yj (i:=2) rfl rfl (congrArg (jV) c3) Zm ZP (by decide) (by decide) (wCq yV ZP rfl))) (zX (cs:=[.nilFunc,.nilFunc,.nilFunc]) rfl rfl rfl rfl rfl Zx rfl jT ?_)
 intro n6 dK jU
 refine za (j:=0) (vs:=aT) Z Z Z Z jU Z Z Z Z ZP (zA Z) Z Z Z ?_
 intro gg jW
 have jX:sW w U cJ [.blk dK 183 aT,.blk aI 115 aX,.blk aH 115 aX,.blk aP 101 an,.blk aO 45 am] gg:=jW
 refine zc ?_
 cases dr
 exact zI ⟨rfl,⟨cJ,dK,rfl,rfl,rfl,rfl,rfl,mA,(jX.pick [1,2,3,4,0] _ (by decide) rfl)⟩⟩
 refine zX (cs:=[.nilFunc,.nilFunc,.nilFunc]) Z Z Z Z Z Zx Z bV ?_
 intro gh cV jY
 refine zG 0 Z Z Z Z (zH Z Z yN zN Z) jY (fun hs=>wAy gh U hs d9) (.inr Z) ?_
 rintro cK mM oO gi mB jZ ⟨rfl,rfl⟩
 have j0:sW w U cK [.blk cV 183 [.nilFunc,.nilFunc,.nilFunc],.blk aI 115 aX,.blk aH 115 aX,.blk aP 101 an,.blk aO 45 am] gi:=jZ
 refine ze rfl rfl rfl rfl (fun _=>(yj (i:=2) rfl rfl (congrArg (jV) c3) Zm ZP (by decide) (by decide) (wCq yV ZP rfl))) (za (j:=0) (vs:=aT) rfl rfl rfl rfl j0 rfl rfl rfl rfl ZP (zA rfl) rfl rfl rfl ?_)
 intro gj j3
 have j4:sW w U cK [.blk cV 183 aT,.blk aI 115 aX,.blk aH 115 aX,.blk aP 101 an,.blk aO 45 am] gj:=j3
 refine zc ?_
 cases dr
 exact zI ⟨rfl,⟨cK,cV,rfl,rfl,rfl,rfl,rfl,mB,(j4.pick [1,2,3,4,0] _ (by decide) rfl)⟩⟩
 rintro pd gk ⟨fD,bi,dT,dd,bv,bq,dU,cp,bW⟩
 refine sR (wDu (.fx 4 (wLH gBf) .stop)) Z (oR Z (zM Z dU Zs Z Tryz.sizeOf180) (oL Z (bW.ldB (j:=4) Z Z Z Tryz.isAgg180 (v:=.func (.func 123) #[] #[]) Z) (oL Z (bW.ldBA (j:=3) Z Z dT zm zf (vs:=am) Z Z) (oL Z (bW.ldBA (j:=2) Z Z dd Zp ZX (vs:=an) Z Z) ?_))))
 have ef:=cf.le cp
 have eg:=cg.le cp
 have eh:=ci.le cp
 have ej:=cj.le cp
 have q:=bnd eZ
 obtain ⟨⟨cy,cz⟩,iF,e6⟩:=q
 try dsimp only at e6
 refine zG 0 Z Z Z Z (zH Z Z Tryz.call123 (zB Z (zB Z zN)) Z) bW (fun hs=>wHF p0 a7 bb a8 bc a9 be ba bf O gk fD hs ef eg eh ej iF) (.inr Z) ?_
 rintro bN mN oP gm cq j5 ⟨rfl,rfl⟩
 have j6:sW w U bN [.blk aI 115 aX,.blk aH 115 aX,.blk aP 101 an,.blk aO 45 am,.blk bi 183 aT] gm:=j5
 refine oM Z Z (oR Z (zZ Z Z (v:=.agg #[jV cy.skier,jV cy.mat]) Z) (oR Z (zZ Z Z (v:=.agg #[jV cz.skier,jV cz.mat]) Z) ?_))
 let ao:List Value:=[jV cy.skier,jV cy.mat]
 refine za (j:=1) (vs:=ao) Z Z Z Z j6 Z bv Z Z zE (zA Z) Z Z Z ?_
 intro gp j7
 have j8:sW w U bN [.blk aI 115 aX,.blk aH 115 ao,.blk aP 101 an,.blk aO 45 am,.blk bi 183 aT] gp:=j7
 let ac:List Value:=[jV cz.skier,jV cz.mat]
 refine za (j:=0) (vs:=ac) Z Z Z Z j8 Z bq Z Z zE (zA Z) Z Z Z ?_
 intro dF j9
 have bX:sW w U bN [.blk aI 115 ac,.blk aH 115 ao,.blk aP 101 an,.blk aO 45 am,.blk bi 183 aT] dF:=j9
 refine eN (sR (wDu (.fx 4 (wLI (.nil)) .stop)) Z (oR Z (zM Z dU Zs Z Tryz.sizeOf181) (oL Z (bX.ldB (j:=4) Z Z Z Tryz.isAgg181 (v:=.func (.func 124) #[] #[]) Z) (oL Z (bX.ldBA (j:=3) Z Z dT zm zf (vs:=am) Z Z) (oL Z (bX.ldBA (j:=2) Z Z dd Zp ZX (vs:=an) Z Z) ?_)))))
 have iG:=ef.le cq
 have iH:=eg.le cq
 have iI:=eh.le cq
 have iJ:=ej.le cq
 have q:=bnd e6
 obtain ⟨⟨dy,fy⟩,iK,e7⟩:=q
 try dsimp only at e7
 refine zG 0 Z Z Z Z (zH Z Z Tryz.call124 (zB Z (zB Z zN)) Z) bX (fun hs=>wHG p0 a7 bb a8 bc a9 be ba bf O dF bN hs iG iH iI iJ iK) (.inr Z) ?_
 rintro bn mO oQ cR ox k7 ⟨rfl,rfl⟩
 have bI:sW w U bn [.blk aI 115 ac,.blk aH 115 ao,.blk aP 101 an,.blk aO 45 am,.blk bi 183 aT] cR:=k7
 refine oM Z Z (oR Z (zZ Z Z (v:=jV dy) Z) (oR Z (zZ Z Z (v:=jV fy) Z) (oA Z Z (oA Z Z (eN (zJ (sR fL3 Z (oR Z (zM Z dd zi Z Tryz.sizeOf4) (oL Z (bI.ldB (j:=2) Z Z Z Tryz.isAgg4 (v:=.bool O.Up) Z) (oR Z (ZY Z Z) (eN (ifc e7 ?_ ?_))))))))))))
 intro c6 mo
 refine zj (nC c6.out) (kN ?_)
 have q:=bnd mo
 obtain ⟨⟨⟩,fq,e8⟩:=q
 try dsimp only at e8
 refine yI (fun σ_ w_=>∃ (U_:PHeap),σ_ 4=.pointer (some ⟨aH,0,none⟩)/\σ_ 5=.pointer (some ⟨aI,0,none⟩)/\σ_ 6=jV dy/\PHeap.Le bn U_/\sW w U U_ [.blk aI 115 ac,.blk aH 115 ao,.blk aP 101 an,.blk aO 45 am,.blk bi 183 aT] w_) ?_ ?_
 refine ZB zw [1,2,3,0,0,3] gCu (by kernel_rfl) ?_
 have bJ:=bI.drew
 generalize hw_W454:({ cR with drawn:=cR.drawn + 1 }:World)=n7 at bJ ⊢
 refine oL Z (bJ.ldBA (j:=1) Z Z bv zh zE (vs:=ao) Z Z) (oM Z Z (zq ?_ ?_))
 refine ZL Z Z Z Z (bJ.ldBA (j:=0) Z Z bq zh zE (vs:=ac) Z Z) (za (j:=1) (vs:=ao) Z Z Z Z bJ Z bv Z Z zE (zA Z) Z Z Z ?_)
 intro gt k9
 have lb:sW w U bn [.blk aI 115 ac,.blk aH 115 ao,.blk aP 101 an,.blk aO 45 am,.blk bi 183 aT] gt:=k9
 refine za (j:=0) (vs:=ac) Z Z Z Z lb Z bq Z Z zE (zA Z) Z Z Z ?_
 intro gu lc
 have lf:sW w U bn [.blk aI 115 ac,.blk aH 115 ao,.blk aP 101 an,.blk aO 45 am,.blk bi 183 aT] gu:=lc
 refine oA Z Z (zc ?_)
 cases fq
 exact zI ⟨Z,⟨bn,bv,bq,Z,(zL _),lf⟩⟩
 refine za (j:=1) (vs:=ao) Z Z Z Z bJ Z bv Z Z zE (zA Z) Z Z Z ?_
 intro gv lg
 have eM:sW w U bn [.blk aI 115 ac,.blk aH 115 ao,.blk aP 101 an,.blk aO 45 am,.blk bi 183 aT] gv:=lg
 refine ZL Z Z Z Z (eM.ldBA (j:=0) Z Z bq zh zE (vs:=ac) Z Z) (za (j:=0) (vs:=ac) Z Z Z Z eM Z bq Z Z zE (zA Z) Z Z Z ?_)
 intro gw lh
 have li:sW w U bn [.blk aI 115 ac,.blk aH 115 ao,.blk aP 101 an,.blk aO 45 am,.blk bi 183 aT] gw:=lh
 refine oA Z Z (zc ?_)
 cases fq
 exact zI ⟨Z,⟨bn,bv,bq,Z,(zL _),li⟩⟩
 rintro pe n8 ⟨fE,ik,il,im,oy,dl⟩
 refine zR ?_
 cases e8
 exact ⟨rfl,_,(wEG (rs:=[.cell 4 115,.cell 5 115,.tmp 6]) (vs:=[.agg ao.toArray,.agg ac.toArray,jV dy]) ⟨⟨_,ik,(wBC zh zE (dl.blkAt (k:=1) rfl) (vs:=ao) rfl rfl)⟩,⟨⟨_,il,(wBC zh zE (dl.blkAt (k:=0) rfl) (vs:=ac) rfl rfl)⟩,⟨im,trivial⟩⟩⟩ rfl),fE,_,(dl.pick [] _ (by decide) rfl),rfl,rfl⟩
 intro c6 mp
 refine ZK (nF (c6.out)) (sR (wDp gBs) Z (oL Z (bI.ldBA (j:=0) Z Z bq zh zE (vs:=ac) Z Z) (oL Z (bI.ldBA (j:=1) Z Z bv zh zE (vs:=ao) Z Z) (oM Z Z (za (j:=1) (vs:=ac) Z Z Z Z bI Z bv Z Z zE (zA Z) Z Z Z ?_)))))
 intro gz lj
 have lk:sW w U bn [.blk aI 115 ac,.blk aH 115 ac,.blk aP 101 an,.blk aO 45 am,.blk bi 183 aT] gz:=lj
 refine za (j:=0) (vs:=ao) Z Z Z Z lk Z bq Z Z zE (zA Z) Z Z Z ?_
 intro gA ll
 have dm:sW w U bn [.blk aI 115 ao,.blk aH 115 ac,.blk aP 101 an,.blk aO 45 am,.blk bi 183 aT] gA:=ll
 refine oA Z Z (eN (zR (zW ?_)))
 cases mp
 exact ⟨rfl,_,(wEG (rs:=[.cell 4 115,.cell 5 115,.tmp 6]) (vs:=[.agg ac.toArray,.agg ao.toArray,jV fy]) ⟨⟨_,bv,(wBC zh zE (dm.blkAt (k:=1) rfl) (vs:=ac) rfl rfl)⟩,⟨⟨_,bq,(wBC zh zE (dm.blkAt (k:=0) rfl) (vs:=ao) rfl rfl)⟩,⟨rfl,trivial⟩⟩⟩ rfl),bn,_,(dm.pick [] _ (by decide) rfl),rfl,rfl⟩
 by_cases c4:O.Kind=3
 have e9:=hm;rw [if_neg c1,if_neg c2,if_neg c3,if_pos c4] at e9
 refine sR gCj Z ?_
 let ap:List Value:=[.slice a7 p0.Starts.length bb,.slice a8 p0.Splits.length bc,.slice a9 p0.Clocks.length be,.slice ba p0.Readings.length bf]
 refine zu (cs:=ap) rfl rfl rfl rfl rfl rfl (by rfl) hS ?_
 intro n9 aQ lm
 let aq:List Value:=[jV O.Kind,jV O.Skier,jV O.Index,.bool O.Up]
 refine zu (cs:=aq) rfl rfl rfl rfl rfl rfl (by rfl) lm ?_
 intro oa aR ln
 let aZ:List Value:=[jV 0,jV 0]
 refine zX (cs:=aZ) Z Z Z Z Z zb Z ln ?_
 intro oc aJ lp
 refine zX (cs:=aZ) Z Z Z Z Z zb Z lp ?_
 intro dG aK lq
 refine oA Z Z (eN ?_)
 have q:=bnd e9
 obtain ⟨⟨⟩,mx,fc⟩:=q
 try dsimp only at fc
 let aU:List Value:=[.func (.func 125) #[] #[],.func (.func 126) #[] #[],.func (.func 127) #[] #[]]
 refine yI (fun σ_ w_=>∃ (U_:PHeap) (bj:Nat),σ_ 2=.pointer (some ⟨aQ,0,none⟩)/\σ_ 3=.pointer (some ⟨aR,0,none⟩)/\σ_ 4=.pointer (some ⟨aJ,0,none⟩)/\σ_ 5=.pointer (some ⟨aK,0,none⟩)/\σ_ 7=.pointer (some ⟨bj,0,none⟩)/\PHeap.Le U U_/\sW w U U_ [.blk aK 115 aZ,.blk aJ 115 aZ,.blk aR 101 aq,.blk aQ 45 ap,.blk bj 183 aU] w_) ?_ ?_
 have q:=bnd mx
 obtain ⟨⟨⟩,en,du⟩:=q
 try dsimp only at du
 refine ZB zw [2,3,1,3,2,0] gCt (by kernel_rfl) ?_
 have bZ:=lq.drew
 generalize hw_W522:({ dG with drawn:=dG.drawn + 1 }:World)=gC at bZ ⊢
 refine oR Z (zM Z Z zi Z yH) (oL Z (bZ.ldB (j:=2) Z Z Z yM (v:=jV O.Kind) Z) (zq ?_ ?_))
 refine zG 0 Z Z Z Z (zH Z Z yN zN Z) bZ (fun hs=>wAy gC U hs en) (.inr Z) ?_
 rintro cM mQ oU gE mD lw ⟨rfl,rfl⟩
 have lx:sW w U cM [.blk aK 115 aZ,.blk aJ 115 aZ,.blk aR 101 aq,.blk aQ 45 ap] gE:=lw
 refine ze rfl rfl rfl rfl (fun _=>(yj (i:=3) rfl rfl (congrArg (jV) c4) Zm ZP (by decide) (by decide) (wCq yV ZP rfl))) (zX (cs:=[.nilFunc,.nilFunc,.nilFunc]) rfl rfl rfl rfl rfl Zx rfl lx ?_)
 intro oe dL ly
 refine za (j:=0) (vs:=aU) Z Z Z Z ly Z Z Z Z ZP (zA Z) Z Z Z ?_
 intro gF lA
 have lB:sW w U cM [.blk dL 183 aU,.blk aK 115 aZ,.blk aJ 115 aZ,.blk aR 101 aq,.blk aQ 45 ap] gF:=lA
 refine zc ?_
 cases du
 exact zI ⟨rfl,⟨cM,dL,rfl,rfl,rfl,rfl,rfl,mD,(lB.pick [1,2,3,4,0] _ (by decide) rfl)⟩⟩
 refine zX (cs:=[.nilFunc,.nilFunc,.nilFunc]) Z Z Z Z Z Zx Z bZ ?_
 intro gG cW lC
 refine zG 0 Z Z Z Z (zH Z Z yN zN Z) lC (fun hs=>wAy gG U hs en) (.inr Z) ?_
 rintro cN mR oV gH mE lD ⟨rfl,rfl⟩
 have lE:sW w U cN [.blk cW 183 [.nilFunc,.nilFunc,.nilFunc],.blk aK 115 aZ,.blk aJ 115 aZ,.blk aR 101 aq,.blk aQ 45 ap] gH:=lD
 refine ze rfl rfl rfl rfl (fun _=>(yj (i:=3) rfl rfl (congrArg (jV) c4) Zm ZP (by decide) (by decide) (wCq yV ZP rfl))) (za (j:=0) (vs:=aU) rfl rfl rfl rfl lE rfl rfl rfl rfl ZP (zA rfl) rfl rfl rfl ?_)
 intro gI lG
 have lH:sW w U cN [.blk cW 183 aU,.blk aK 115 aZ,.blk aJ 115 aZ,.blk aR 101 aq,.blk aQ 45 ap] gI:=lG
 refine zc ?_
 cases du
 exact zI ⟨rfl,⟨cN,cW,rfl,rfl,rfl,rfl,rfl,mE,(lH.pick [1,2,3,4,0] _ (by decide) rfl)⟩⟩
 rintro pf gJ ⟨fG,bj,dV,de,bw,br,dW,cr,ca⟩
 refine sR (wDu (.fx 4 (wLH gBf) .stop)) Z (oR Z (zM Z dW Zs Z Tryz.sizeOf180) (oL Z (ca.ldB (j:=4) Z Z Z Tryz.isAgg180 (v:=.func (.func 126) #[] #[]) Z) (oL Z (ca.ldBA (j:=3) Z Z dV zm zf (vs:=ap) Z Z) (oL Z (ca.ldBA (j:=2) Z Z de Zp ZX (vs:=aq) Z Z) ?_))))
 have eo:=cf.le cr
 have ez:=cg.le cr
 have eA:=ci.le cr
 have eB:=cj.le cr
 have q:=bnd fc
 obtain ⟨⟨cA,cB⟩,iL,fd⟩:=q
 try dsimp only at fd
 refine zG 0 Z Z Z Z (zH Z Z Tryz.call126 (zB Z (zB Z zN)) Z) ca (fun hs=>wGZ p0 a7 bb a8 bc a9 be ba bf O gJ fG hs eo ez eA eB iL) (.inr Z) ?_
 rintro bO mS oW gM ct lI ⟨rfl,rfl⟩
 have lJ:sW w U bO [.blk aK 115 aZ,.blk aJ 115 aZ,.blk aR 101 aq,.blk aQ 45 ap,.blk bj 183 aU] gM:=lI
 refine oM Z Z (oR Z (zZ Z Z (v:=.agg #[jV cA.skier,jV cA.mat]) Z) (oR Z (zZ Z Z (v:=.agg #[jV cB.skier,jV cB.mat]) Z) ?_))
 let au:List Value:=[jV cA.skier,jV cA.mat]
 refine za (j:=1) (vs:=au) Z Z Z Z lJ Z bw Z Z zE (zA Z) Z Z Z ?_
 intro gN lL
 have lM:sW w U bO [.blk aK 115 aZ,.blk aJ 115 au,.blk aR 101 aq,.blk aQ 45 ap,.blk bj 183 aU] gN:=lL
 let ae:List Value:=[jV cB.skier,jV cB.mat]
 refine za (j:=0) (vs:=ae) Z Z Z Z lM Z br Z Z zE (zA Z) Z Z Z ?_
 intro dH lN
 have cb:sW w U bO [.blk aK 115 ae,.blk aJ 115 au,.blk aR 101 aq,.blk aQ 45 ap,.blk bj 183 aU] dH:=lN
 refine eN (sR (wDu (.fx 4 (wLI (.nil)) .stop)) Z (oR Z (zM Z dW Zs Z Tryz.sizeOf181) (oL Z (cb.ldB (j:=4) Z Z Z Tryz.isAgg181 (v:=.func (.func 127) #[] #[]) Z) (oL Z (cb.ldBA (j:=3) Z Z dV zm zf (vs:=ap) Z Z) (oL Z (cb.ldBA (j:=2) Z Z de Zp ZX (vs:=aq) Z Z) ?_)))))
 have iM:=eo.le ct
 have iN:=ez.le ct
 have iO:=eA.le ct
 have iP:=eB.le ct
 have q:=bnd fd
 obtain ⟨⟨dz,fz⟩,iQ,ff⟩:=q
 try dsimp only at ff
 refine zG 0 Z Z Z Z (zH Z Z Tryz.call127 (zB Z (zB Z zN)) Z) cb (fun hs=>wGa p0 a7 bb a8 bc a9 be ba bf O dH bO hs iM iN iO iP iQ) (.inr Z) ?_
 rintro bo mT oZ cS oz lP ⟨rfl,rfl⟩
 have bK:sW w U bo [.blk aK 115 ae,.blk aJ 115 au,.blk aR 101 aq,.blk aQ 45 ap,.blk bj 183 aU] cS:=lP
 refine oM Z Z (oR Z (zZ Z Z (v:=jV dz) Z) (oR Z (zZ Z Z (v:=jV fz) Z) (oA Z Z (oA Z Z (eN (zJ (sR fL3 Z (oR Z (zM Z de zi Z Tryz.sizeOf4) (oL Z (bK.ldB (j:=2) Z Z Z Tryz.isAgg4 (v:=.bool O.Up) Z) (oR Z (ZY Z Z) (eN (ifc ff ?_ ?_))))))))))))
 intro da mq
 refine zj (nC da.out) (kN ?_)
 have q:=bnd mq
 obtain ⟨⟨⟩,ft,fg⟩:=q
 try dsimp only at fg
 refine yI (fun σ_ w_=>∃ (U_:PHeap),σ_ 4=.pointer (some ⟨aJ,0,none⟩)/\σ_ 5=.pointer (some ⟨aK,0,none⟩)/\σ_ 6=jV dz/\PHeap.Le bo U_/\sW w U U_ [.blk aK 115 ae,.blk aJ 115 au,.blk aR 101 aq,.blk aQ 45 ap,.blk bj 183 aU] w_) ?_ ?_
 refine ZB zw [1,2,3,0,0,3] gCu (by kernel_rfl) ?_
 have bL:=bK.drew
 generalize hw_W613:({ cS with drawn:=cS.drawn + 1 }:World)=oh at bL ⊢
 refine oL Z (bL.ldBA (j:=1) Z Z bw zh zE (vs:=au) Z Z) (oM Z Z (zq ?_ ?_))
 refine ZL Z Z Z Z (bL.ldBA (j:=0) Z Z br zh zE (vs:=ae) Z Z) (za (j:=1) (vs:=au) Z Z Z Z bL Z bw Z Z zE (zA Z) Z Z Z ?_)
 intro gO lQ
 have lR:sW w U bo [.blk aK 115 ae,.blk aJ 115 au,.blk aR 101 aq,.blk aQ 45 ap,.blk bj 183 aU] gO:=lQ
 refine za (j:=0) (vs:=ae) Z Z Z Z lR Z br Z Z zE (zA Z) Z Z Z ?_
 intro gP lS
 have lT:sW w U bo [.blk aK 115 ae,.blk aJ 115 au,.blk aR 101 aq,.blk aQ 45 ap,.blk bj 183 aU] gP:=lS
 refine oA Z Z (zc ?_)
 cases ft
 exact zI ⟨Z,⟨bo,bw,br,Z,(zL _),lT⟩⟩
 refine za (j:=1) (vs:=au) Z Z Z Z bL Z bw Z Z zE (zA Z) Z Z Z ?_
 intro gR lU
 have eO:sW w U bo [.blk aK 115 ae,.blk aJ 115 au,.blk aR 101 aq,.blk aQ 45 ap,.blk bj 183 aU] gR:=lU
 refine ZL Z Z Z Z (eO.ldBA (j:=0) Z Z br zh zE (vs:=ae) Z Z) (za (j:=0) (vs:=ae) Z Z Z Z eO Z br Z Z zE (zA Z) Z Z Z ?_)
 intro gS lV
 have lW:sW w U bo [.blk aK 115 ae,.blk aJ 115 au,.blk aR 101 aq,.blk aQ 45 ap,.blk bj 183 aU] gS:=lV
 refine oA Z Z (zc ?_)
 cases ft
 exact zI ⟨Z,⟨bo,bw,br,Z,(zL _),lW⟩⟩
 rintro pg oi ⟨fH,io,ip,iq,oB,dn⟩
 refine zR ?_
 cases fg
 exact ⟨rfl,_,(wEG (rs:=[.cell 4 115,.cell 5 115,.tmp 6]) (vs:=[.agg au.toArray,.agg ae.toArray,jV dz]) ⟨⟨_,io,(wBC zh zE (dn.blkAt (k:=1) rfl) (vs:=au) rfl rfl)⟩,⟨⟨_,ip,(wBC zh zE (dn.blkAt (k:=0) rfl) (vs:=ae) rfl rfl)⟩,⟨iq,trivial⟩⟩⟩ rfl),fH,_,(dn.pick [] _ (by decide) rfl),rfl,rfl⟩
 intro da mr
 refine ZK (nF (da.out)) (sR (wDp gBs) Z (oL Z (bK.ldBA (j:=0) Z Z br zh zE (vs:=ae) Z Z) (oL Z (bK.ldBA (j:=1) Z Z bw zh zE (vs:=au) Z Z) (oM Z Z (za (j:=1) (vs:=ae) Z Z Z Z bK Z bw Z Z zE (zA Z) Z Z Z ?_)))))
 intro gT lX
 have lY:sW w U bo [.blk aK 115 ae,.blk aJ 115 ae,.blk aR 101 aq,.blk aQ 45 ap,.blk bj 183 aU] gT:=lX
 refine za (j:=0) (vs:=au) Z Z Z Z lY Z br Z Z zE (zA Z) Z Z Z ?_
 intro gU lZ
 have dp:sW w U bo [.blk aK 115 au,.blk aJ 115 ae,.blk aR 101 aq,.blk aQ 45 ap,.blk bj 183 aU] gU:=lZ
 refine oA Z Z (eN (zR (zW ?_)))
 cases mr
 exact ⟨rfl,_,(wEG (rs:=[.cell 4 115,.cell 5 115,.tmp 6]) (vs:=[.agg ae.toArray,.agg au.toArray,jV fz]) ⟨⟨_,bw,(wBC zh zE (dp.blkAt (k:=1) rfl) (vs:=ae) rfl rfl)⟩,⟨⟨_,br,(wBC zh zE (dp.blkAt (k:=0) rfl) (vs:=au) rfl rfl)⟩,⟨rfl,trivial⟩⟩⟩ rfl),bo,_,(dp.pick [] _ (by decide) rfl),rfl,rfl⟩
 have fh:=hm;rw [if_neg c1,if_neg c2,if_neg c3,if_neg c4] at fh
 refine sR gCj Z ?_
 let cE:List Value:=[.slice a7 p0.Starts.length bb,.slice a8 p0.Splits.length bc,.slice a9 p0.Clocks.length be,.slice ba p0.Readings.length bf]
 refine zu (cs:=cE) rfl rfl rfl rfl rfl rfl (by rfl) hS ?_
 intro oj dN l4
 let cG:List Value:=[jV O.Kind,jV O.Skier,jV O.Index,.bool O.Up]
 refine zu (cs:=cG) rfl rfl rfl rfl rfl rfl (by rfl) l4 ?_
 intro ol dO l5
 let bA:List Value:=[jV 0,jV 0]
 refine zX (cs:=bA) Z Z Z Z Z zb Z l5 ?_
 intro om dP l6
 refine zX (cs:=bA) Z Z Z Z Z zb Z l6 ?_
 intro dI dQ ma
 refine oA Z Z (eN (zJ ?_))
 have q:=bnd fh
 obtain ⟨⟨⟩,eE,dv⟩:=q
 try dsimp only at dv
 refine ZB zw [2,3,1,3,2,0] gCt (by kernel_rfl) ?_
 have cc:=ma.drew
 generalize hw_W669:({ dI with drawn:=dI.drawn + 1 }:World)=gV at cc ⊢
 refine oR Z (zM Z Z zi Z yH) (oL Z (cc.ldB (j:=2) Z Z Z yM (v:=jV O.Kind) Z) (zq ?_ ?_))
 refine zG 0 Z Z Z Z (zH Z Z yN zN Z) cc (fun hs=>wAy gV U hs eE) (.inr Z) ?_
 rintro fI mV o0 gW oC mb ⟨rfl,rfl⟩
 have oo:sW w U fI [.blk dQ 115 bA,.blk dP 115 bA,.blk dO 101 cG,.blk dN 45 cE] gW:=mb
 cases dv
 refine zX (cs:=[.nilFunc,.nilFunc,.nilFunc]) Z Z Z Z Z Zx Z cc ?_
 intro gX g9 mc
 refine zG 0 Z Z Z Z (zH Z Z yN zN Z) mc (fun hs=>wAy gX U hs eE) (.inr Z) ?_
 rintro fJ mW o5 gY oD md ⟨rfl,rfl⟩
 have oq:sW w U fJ [.blk g9 183 [.nilFunc,.nilFunc,.nilFunc],.blk dQ 115 bA,.blk dP 115 bA,.blk dO 101 cG,.blk dN 45 cE] gY:=md
 cases dv
end Go.Proofs.YtkghaiefcjgfkaaGreat
namespace Go.Proofs.YtkghaiefcjgfkaaGreat
open Go.KL
set_option maxHeartbeats 4000000
theorem wFl (O:wAD) (af:Option Addr) (am:Nat) (ag:Option Addr) (an:Nat) (ah:Option Addr) (ao:Nat) (aj:Option Addr) (ap:Nat) (w:World) (U:PHeap) (hS:St0 w U []) (pX:Sl U 1 af am O.Starts.length (hH KL.encI O.Starts)) (pY:Sl U 2 ag an O.Splits.length (hH wAA O.Splits)) (p5:Sl U 3 ah ao O.Clocks.length (hH wAG O.Clocks)) (p6:Sl U 4 aj ap O.Readings.length (hH wAB O.Readings)) {r:wAb} (hm:wCs O=some r):Gv Tryz.prog 105 [.agg #[.slice af O.Starts.length am,.slice ag O.Splits.length an,.slice ah O.Clocks.length ao,.slice aj O.Readings.length ap]] w (wBl w [] U (fun U_ L_ v=>∃ (b0:Nat) (A0p00:Option Addr) (c0p00:Nat) (A0p01:Option Addr) (c0p01:Nat) (A0p02:Option Addr) (c0p02:Nat) (A0p03:Option Addr) (c0p03:Nat) (m0p1:Nat) (es0p1:Array MapEntry) (ck0p1:Nat) (A0p2:Option Addr) (c0p2:Nat),v=.pointer (some ⟨b0,0,none⟩)/\L_=[.blk b0 124 [.slice A0p00 r.Race.Starts.length c0p00,.slice A0p01 r.Race.Splits.length c0p01,.slice A0p02 r.Race.Clocks.length c0p02,.slice A0p03 r.Race.Readings.length c0p03,.map (some m0p1),.slice A0p2 r.edges.length c0p2],.obj m0p1 (.map es0p1 ck0p1),.row A0p2 c0p2 151 7 (hH wAN r.edges)]/\Sl U_ 1 A0p00 c0p00 r.Race.Starts.length (hH KL.encI r.Race.Starts)/\Sl U_ 2 A0p01 c0p01 r.Race.Splits.length (hH wAA r.Race.Splits)/\Sl U_ 3 A0p02 c0p02 r.Race.Clocks.length (hH wAG r.Race.Clocks)/\Sl U_ 4 A0p03 c0p03 r.Race.Readings.length (hH wAB r.Race.Readings)/\MpR es0p1 wBH wBQ r.number)):=by
 unfold wCs at hm
 refine Go.KX.Gv.ofM Tryz.func105 Z Tryz.ntmps105 Tryz.results105 (zA Z) (sR (.fx 0 (.fl 1 .nil) .stop) Z ?_)
 let B0:List Value:=[.slice af O.Starts.length am,.slice ag O.Splits.length an,.slice ah O.Clocks.length ao,.slice aj O.Readings.length ap]
 refine zu (cs:=B0) rfl rfl rfl rfl rfl rfl (by rfl) hS ?_
 intro W1 b2 o3
 refine oA Z Z (eN (bnK hm fun iI qu qa=>yI (fun σ_ w_=>∃ (U_:PHeap) (b6:Nat) (b8:Nat) (ae:Nat) (bQ:Array MapEntry) (cG:Nat),σ_ 1=.pointer (some ⟨b2,0,none⟩)/\σ_ 3=.pointer (some ⟨b6,0,none⟩)/\PHeap.Le U U_/\sW w U U_ [.blk b2 45 B0,.blk b6 85 [.pointer (some ⟨b8,0,none⟩)],.blk b8 124 [.slice af O.Starts.length am,.slice ag O.Splits.length an,.slice ah O.Clocks.length ao,.slice aj O.Readings.length ap,.map (some ae),.slice none 0 0],.obj ae (.map bQ cG)] w_/\MpR bQ wBH wBQ iI) ?_ ?_))
 refine bnK qu fun ac aZ qf=>ZB zw [2,2,2,0,3,3,2,2,0] (.fx 0 (.fx 1 gDa (.fx 2 gDb (.fx 7 gDc .stop))) (.fx 1 (.fx 0 gDa (.fx 2 gDf (.fx 7 gDd .stop))) (.fx 2 (.fx 0 gDb (.fx 1 gDf (.fx 7 gDe .stop))) (.fx 7 (.fx 0 gDc (.fx 1 gDd (.fx 2 gDe .stop))) .stop)))) (by kernel_rfl) ?_
 have a7:=o3.drew
 generalize hw_W51:({ W1 with drawn:=W1.drawn + 1 }:World)=fH at a7 ⊢
 refine ZO (s:=.nil) (M:=fun σ_ w_=>∃ (U_:PHeap) (cq:Nat) (bF:Nat) (a8:Nat) (cP:Array MapEntry) (dG:Nat),σ_ 1=.pointer (some ⟨b2,0,none⟩)/\σ_ 3=.pointer (some ⟨cq,0,none⟩)/\σ_ 12=.agg B0.toArray/\σ_ 13=.map (some a8)/\σ_ 14=.agg #[jV ac.skier,jV ac.mat]/\σ_ 15=.map (some a8)/\σ_ 16=.agg #[.slice af O.Starts.length am,.slice ag O.Splits.length an,.slice ah O.Clocks.length ao,.slice aj O.Readings.length ap,.map (some a8),.slice none 0 0]/\σ_ 17=.pointer (some ⟨bF,0,none⟩)/\PHeap.Le U U_/\sW w U U_ [.blk b2 45 B0,.blk cq 85 [.pointer (some ⟨bF,0,none⟩)],.blk bF 124 [.slice af O.Starts.length am,.slice ag O.Splits.length an,.slice ah O.Clocks.length ao,.slice aj O.Readings.length ap,.map (some a8),.slice none 0 0],.obj a8 (.map cP dG)] w_/\MpR cP wBH wBQ (wFN ([]:List (wAI × Int)) ac 0)) ?_ fun qw=>?_
 rintro sX rG ⟨iZ,cq,bF,a8,cP,dG,lA,lB,sn,so,sq,sr,ss,su,qH,o5,mH⟩
 refine zc ?_
 cases qf
 exact zI ⟨Z,⟨iZ,cq,bF,a8,cP,dG,lA,lB,qH,o5,mH⟩⟩
 refine ZO (s:=.fx 8 .nil .stop) (M:=fun σ_ w_=>∃ (U_:PHeap) (bG:Nat) (aW:Nat) (bS:Array MapEntry) (cI:Nat) (bj:Nat),σ_ 1=.pointer (some ⟨b2,0,none⟩)/\σ_ 3=.pointer (some ⟨bG,0,none⟩)/\σ_ 12=.agg B0.toArray/\σ_ 13=.map (some aW)/\σ_ 14=.agg #[jV ac.skier,jV ac.mat]/\σ_ 15=.map (some aW)/\σ_ 16=.agg #[.slice af O.Starts.length am,.slice ag O.Splits.length an,.slice ah O.Clocks.length ao,.slice aj O.Readings.length ap,.map (some aW),.slice none 0 0]/\σ_ 17=.pointer (some ⟨bj,0,none⟩)/\PHeap.Le U U_/\sW w U U_ [.blk b2 45 B0,.blk bG 85 [.pointer none],.obj aW (.map bS cI),.blk bj 124 [.slice af O.Starts.length am,.slice ag O.Splits.length an,.slice ah O.Clocks.length ao,.slice aj O.Readings.length ap,.map (some aW),.slice none 0 0]] w_/\MpR bS wBH wBQ (wFN ([]:List (wAI × Int)) ac 0)) ?_ fun dk=>?_
 rintro sY rH ⟨fj,bG,aW,bS,cI,bj,lC,gi,lD,lE,lF,lG,lH,gj,qI,o6,mI⟩
 let B1:List Value:=[.pointer (some ⟨bj,0,none⟩)]
 refine za (j:=1) (vs:=B1) Z Z Z Z o6 Z gi gj Z Tryz.sizeOf85 (zA Z) Z Z Z ?_
 intro jG o7
 have o8:sW w U fj [.blk b2 45 B0,.blk bG 85 B1,.obj aW (.map bS cI),.blk bj 124 [.slice af O.Starts.length am,.slice ag O.Splits.length an,.slice ah O.Clocks.length ao,.slice aj O.Readings.length ap,.map (some aW),.slice none 0 0]] jG:=o7
 exact qw _ _ ⟨fj,bG,bj,aW,bS,cI,lC,gi,lD,lE,lF,lG,lH,gj,qI,(o8.pick [0,1,3,2] _ (by decide) rfl),mI⟩
 refine ZO (s:=gBj) (M:=fun σ_ w_=>∃ (U_:PHeap) (cr:Nat) (a9:Nat) (cQ:Array MapEntry) (dH:Nat),σ_ 1=.pointer (some ⟨b2,0,none⟩)/\σ_ 3=.pointer (some ⟨cr,0,none⟩)/\σ_ 12=.agg B0.toArray/\σ_ 13=.map (some a9)/\σ_ 14=.agg #[jV ac.skier,jV ac.mat]/\σ_ 15=.map (some a9)/\σ_ 16=.agg #[.slice af O.Starts.length am,.slice ag O.Splits.length an,.slice ah O.Clocks.length ao,.slice aj O.Readings.length ap,.map (some a9),.slice none 0 0]/\PHeap.Le U U_/\sW w U U_ [.blk b2 45 B0,.blk cr 85 [.pointer none],.obj a9 (.map cQ dH)] w_/\MpR cQ wBH wBQ (wFN ([]:List (wAI × Int)) ac 0)) ?_ fun iB=>?_
 rintro sZ rI ⟨i7,cr,a9,cQ,dH,lI,lJ,lK,lL,lM,lN,gk,qJ,o9,mJ⟩
 refine zu (cs:=[.slice af O.Starts.length am,.slice ag O.Splits.length an,.slice ah O.Clocks.length ao,.slice aj O.Readings.length ap,.map (some a9),.slice none 0 0]) rfl rfl rfl rfl rfl gk (by rfl) o9 ?_
 intro rJ j5 pd
 exact dk _ _ ⟨i7,cr,a9,cQ,dH,j5,lI,lJ,lK,lL,lM,lN,gk,rfl,qJ,(pd.pick [1,2,3,0] _ (by decide) rfl),mJ⟩
 refine ZO (s:=gBi) (M:=fun σ_ w_=>∃ (U_:PHeap) (ba:Nat) (cR:Array MapEntry) (dI:Nat) (ct:Nat),σ_ 1=.pointer (some ⟨b2,0,none⟩)/\σ_ 12=.agg B0.toArray/\σ_ 13=.map (some ba)/\σ_ 14=.agg #[jV ac.skier,jV ac.mat]/\σ_ 15=.map (some ba)/\σ_ 16=.agg #[.slice af O.Starts.length am,.slice ag O.Splits.length an,.slice ah O.Clocks.length ao,.slice aj O.Readings.length ap,.map (some ba),.slice none 0 0]/\σ_ 17=.pointer (some ⟨ct,0,none⟩)/\PHeap.Le U U_/\sW w U U_ [.blk b2 45 B0,.obj ba (.map cR dI),.blk ct 124 [.slice af O.Starts.length am,.slice ag O.Splits.length an,.slice ah O.Clocks.length ao,.slice aj O.Readings.length ap,.map (some ba),.slice none 0 0]] w_/\MpR cR wBH wBQ (wFN ([]:List (wAI × Int)) ac 0)) ?_ fun iC=>?_
 rintro s6 rK ⟨i8,ba,cR,dI,ct,lO,lP,lQ,lR,lS,lT,lU,qK,pe,mK⟩
 refine zX (cs:=[.pointer none]) Z Z Z Z Z yJ Z pe ?_
 intro rL j6 pf
 exact dk _ _ ⟨i8,j6,ba,cR,dI,ct,lO,rfl,lP,lQ,lR,lS,lT,lU,qK,(pf.pick [1,0,2,3] _ (by decide) rfl),mK⟩
 refine ZO (s:=.fl 5 gBj) (M:=fun σ_ w_=>∃ (U_:PHeap) (cu:Nat) (bb:Nat) (cS:Array MapEntry) (dJ:Nat),σ_ 1=.pointer (some ⟨b2,0,none⟩)/\σ_ 3=.pointer (some ⟨cu,0,none⟩)/\σ_ 12=.agg B0.toArray/\σ_ 13=.map (some bb)/\σ_ 14=.agg #[jV ac.skier,jV ac.mat]/\σ_ 15=.map (some bb)/\PHeap.Le U U_/\sW w U U_ [.blk b2 45 B0,.blk cu 85 [.pointer none],.obj bb (.map cS dJ)] w_/\MpR cS wBH wBQ (wFN ([]:List (wAI × Int)) ac 0)) ?_ fun iD=>?_
 rintro s7 rM ⟨i9,cu,bb,cS,dJ,lV,lW,gm,lX,lY,gp,qL,pg,mL⟩
 let B2:List Value:=[.slice af O.Starts.length am,.slice ag O.Splits.length an,.slice ah O.Clocks.length ao,.slice aj O.Readings.length ap,.map (some bb),.slice none 0 0]
 refine ze rfl rfl rfl rfl (fun _=>zl (pv:=[(0,.agg B0.toArray),(1,.map (some bb))]) (z:=[.slice none 0 0,.slice none 0 0,.slice none 0 0,.slice none 0 0,.map none,.slice none 0 0]) (cs:=B2) rfl (wAE gm (wAE gp wAL)) Tryz.zeroValue124 wFi rfl rfl) (zu (cs:=B2) rfl rfl rfl rfl rfl rfl (by rfl) pg ?_)
 intro rN j7 ph
 exact dk _ _ ⟨i9,cu,bb,cS,dJ,j7,lV,lW,gm,lX,lY,gp,rfl,rfl,qL,(ph.pick [1,2,3,0] _ (by decide) rfl),mL⟩
 refine ZO (s:=gCc) (M:=fun σ_ w_=>∃ (U_:PHeap) (cw:Nat) (bH:Nat) (cU:Array MapEntry) (dK:Nat),σ_ 1=.pointer (some ⟨b2,0,none⟩)/\σ_ 3=.pointer (some ⟨cw,0,none⟩)/\σ_ 13=.map (some bH)/\σ_ 14=.agg #[jV ac.skier,jV ac.mat]/\σ_ 15=.map (some bH)/\PHeap.Le U U_/\sW w U U_ [.blk b2 45 B0,.blk cw 85 [.pointer none],.obj bH (.map cU dK)] w_/\MpR cU wBH wBQ (wFN ([]:List (wAI × Int)) ac 0)) ?_ fun qx=>?_
 rintro s8 rO ⟨ja,cw,bH,cU,dK,gq,lZ,l0,l4,l5,qM,ik,mM⟩
 exact ZL Z Z Z Z (ik.ldBA (j:=0) Z Z gq zm zf (vs:=B0) Z Z) (iD _ _ ⟨ja,cw,bH,cU,dK,gq,lZ,Z,l0,l4,l5,qM,ik,mM⟩)
 refine ZO (s:=gCk) (M:=fun σ_ w_=>∃ (U_:PHeap) (aY:Nat) (bT:Array MapEntry) (cJ:Nat),σ_ 1=.pointer (some ⟨b2,0,none⟩)/\σ_ 12=.agg B0.toArray/\σ_ 13=.map (some aY)/\σ_ 14=.agg #[jV ac.skier,jV ac.mat]/\σ_ 15=.map (some aY)/\PHeap.Le U U_/\sW w U U_ [.blk b2 45 B0,.obj aY (.map bT cJ)] w_/\MpR bT wBH wBQ (wFN ([]:List (wAI × Int)) ac 0)) ?_ fun qy=>?_
 rintro s9 rP ⟨fk,aY,bT,cJ,gt,dR,gu,gv,dS,iM,il,gY⟩
 let B3:List Value:=[.slice af O.Starts.length am,.slice ag O.Splits.length an,.slice ah O.Clocks.length ao,.slice aj O.Readings.length ap,.map (some aY),.slice none 0 0]
 refine oR Z (zl (pv:=[(0,.agg B0.toArray),(1,.map (some aY))]) (z:=[.slice none 0 0,.slice none 0 0,.slice none 0 0,.slice none 0 0,.map none,.slice none 0 0]) (cs:=B3) Z (wAE dR (wAE dS wAL)) Tryz.zeroValue124 wFi Z Z) (zq ?_ ?_)
 refine zu (cs:=B3) rfl rfl rfl rfl rfl rfl (by rfl) il ?_
 intro rQ j8 pk
 exact iC _ _ ⟨fk,aY,bT,cJ,j8,gt,dR,gu,gv,dS,rfl,rfl,iM,(pk.pick [1,2,0] _ (by decide) rfl),gY⟩
 refine zX (cs:=[.pointer none]) Z Z Z Z Z yJ Z il ?_
 intro rS j9 pm
 exact iB _ _ ⟨fk,j9,aY,bT,cJ,gt,rfl,dR,gu,gv,dS,rfl,iM,(pm.pick [1,0,2] _ (by decide) rfl),gY⟩
 refine ZO (s:=gCb) (M:=fun σ_ w_=>∃ (U_:PHeap) (cx:Nat) (bk:Nat) (cV:Array MapEntry) (dL:Nat),σ_ 1=.pointer (some ⟨b2,0,none⟩)/\σ_ 3=.pointer (some ⟨cx,0,none⟩)/\σ_ 12=.agg B0.toArray/\σ_ 13=.map (some bk)/\σ_ 14=.agg #[jV ac.skier,jV ac.mat]/\PHeap.Le U U_/\sW w U U_ [.blk b2 45 B0,.blk cx 85 [.pointer none],.obj bk (.map cV dL)] w_/\MpR cV wBH wBQ (wFN ([]:List (wAI × Int)) ac 0)) ?_ fun qz=>?_
 rintro tc rT ⟨jb,cx,bk,cV,dL,l6,ma,gw,gz,mb,qN,pn,mN⟩
 refine oM Z gz ?_
 let B4:List Value:=[.slice af O.Starts.length am,.slice ag O.Splits.length an,.slice ah O.Clocks.length ao,.slice aj O.Readings.length ap,.map (some bk),.slice none 0 0]
 refine ze rfl rfl rfl rfl (fun _=>zl (pv:=[(0,.agg B0.toArray),(1,.map (some bk))]) (z:=[.slice none 0 0,.slice none 0 0,.slice none 0 0,.slice none 0 0,.map none,.slice none 0 0]) (cs:=B4) rfl (wAE gw (wAE rfl wAL)) Tryz.zeroValue124 wFi rfl rfl) (zu (cs:=B4) rfl rfl rfl rfl rfl rfl (by rfl) pn ?_)
 intro rV k7 po
 exact dk _ _ ⟨jb,cx,bk,cV,dL,k7,l6,ma,gw,gz,mb,rfl,rfl,rfl,qN,(po.pick [1,2,3,0] _ (by decide) rfl),mN⟩
 refine ZO (s:=.fl 4 gCc) (M:=fun σ_ w_=>∃ (U_:PHeap) (cy:Nat) (cz:Nat) (cW:Array MapEntry) (dM:Nat),σ_ 1=.pointer (some ⟨b2,0,none⟩)/\σ_ 3=.pointer (some ⟨cy,0,none⟩)/\σ_ 13=.map (some cz)/\σ_ 14=.agg #[jV ac.skier,jV ac.mat]/\PHeap.Le U U_/\sW w U U_ [.blk b2 45 B0,.blk cy 85 [.pointer none],.obj cz (.map cW dM)] w_/\MpR cW wBH wBQ (wFN ([]:List (wAI × Int)) ac 0)) ?_ fun qA=>?_
 rintro td rW ⟨jc,cy,cz,cW,dM,gA,mc,gB,md,qO,im,mO⟩
 exact oM Z gB (ZL Z Z Z Z (im.ldBA (j:=0) Z Z gA zm zf (vs:=B0) Z Z) (iD _ _ ⟨jc,cy,cz,cW,dM,gA,mc,Z,gB,md,Z,qO,im,mO⟩))
 refine ZO (s:=gCl) (M:=fun σ_ w_=>∃ (U_:PHeap) (bI:Nat) (bJ:Nat) (dP:Array MapEntry) (fN:Nat),σ_ 1=.pointer (some ⟨b2,0,none⟩)/\σ_ 3=.pointer (some ⟨bI,0,none⟩)/\σ_ 12=.agg B0.toArray/\σ_ 13=.map (some bJ)/\σ_ 14=.agg #[jV ac.skier,jV ac.mat]/\PHeap.Le U U_/\sW w U U_ [.blk b2 45 B0,.blk bI 85 [.pointer none],.obj bJ (.map dP fN)] w_/\MpR dP wBH wBQ ([]:List (wAI × Int))) ?_ fun dl=>?_
 rintro te rX ⟨fm,bI,bJ,dP,fN,me,mf,mg,gC,gE,qP,pp,mP⟩
 refine OKS.mapPut (x:=.tmp 13) (y:=.tmp 14) (j:=2) (mk:=wBH) (mv:=wBQ) (a:=ac) (v:=0) rfl rfl rfl (by first | exact .inl rfl | exact .inr rfl) pp rfl gC gE rfl (wBe ZN) wCx mP rfl ?_
 intro fT fO jH qn pq
 have pu:sW w U fm [.blk b2 45 B0,.blk bI 85 [.pointer none],.obj bJ (.map fT fO)] jH:=pq
 exact qz _ _ ⟨fm,bI,bJ,fT,fO,me,mf,mg,gC,gE,qP,pu,qn⟩
 refine ZO (s:=.fl 4 gCk) (M:=fun σ_ w_=>∃ (U_:PHeap) (be:Nat) (bU:Array MapEntry) (cK:Nat),σ_ 1=.pointer (some ⟨b2,0,none⟩)/\σ_ 12=.agg B0.toArray/\σ_ 13=.map (some be)/\σ_ 14=.agg #[jV ac.skier,jV ac.mat]/\PHeap.Le U U_/\sW w U U_ [.blk b2 45 B0,.obj be (.map bU cK)] w_/\MpR bU wBH wBQ (wFN ([]:List (wAI × Int)) ac 0)) ?_ fun qB=>?_
 rintro tf rY ⟨fq,be,bU,cK,gF,dT,dU,gG,iN,io,gZ⟩
 refine oM Z dU ?_
 let B5:List Value:=[.slice af O.Starts.length am,.slice ag O.Splits.length an,.slice ah O.Clocks.length ao,.slice aj O.Readings.length ap,.map (some be),.slice none 0 0]
 refine oR Z (zl (pv:=[(0,.agg B0.toArray),(1,.map (some be))]) (z:=[.slice none 0 0,.slice none 0 0,.slice none 0 0,.slice none 0 0,.map none,.slice none 0 0]) (cs:=B5) Z (wAE dT (wAE Z wAL)) Tryz.zeroValue124 wFi Z Z) (zq ?_ ?_)
 refine zu (cs:=B5) rfl rfl rfl rfl rfl rfl (by rfl) io ?_
 intro rZ k9 py
 exact iC _ _ ⟨fq,be,bU,cK,k9,gF,dT,dU,gG,rfl,rfl,rfl,iN,(py.pick [1,2,0] _ (by decide) rfl),gZ⟩
 refine zX (cs:=[.pointer none]) Z Z Z Z Z yJ Z io ?_
 intro r6 lb pz
 exact iB _ _ ⟨fq,lb,be,bU,cK,gF,rfl,dT,dU,gG,rfl,rfl,iN,(pz.pick [1,0,2] _ (by decide) rfl),gZ⟩
 refine ZO (s:=gCx) (M:=fun σ_ w_=>∃ (U_:PHeap) (bm:Nat) (bn:Nat) (cX:Array MapEntry) (dN:Nat),σ_ 1=.pointer (some ⟨b2,0,none⟩)/\σ_ 3=.pointer (some ⟨bm,0,none⟩)/\σ_ 13=.map (some bn)/\σ_ 14=.agg #[jV ac.skier,jV ac.mat]/\PHeap.Le U U_/\sW w U U_ [.blk b2 45 B0,.blk bm 85 [.pointer none],.obj bn (.map cX dN)] w_/\MpR cX wBH wBQ ([]:List (wAI × Int))) ?_ fun eL=>?_
 rintro tg r7 ⟨dB,bm,bn,cX,dN,dV,gH,dW,dX,iO,eA,g6⟩
 refine zq ?_ ?_
 exact ZL Z Z Z Z (eA.ldBA (j:=0) Z Z dV zm zf (vs:=B0) Z Z) (dl _ _ ⟨dB,bm,bn,cX,dN,dV,gH,Z,dW,dX,iO,eA,g6⟩)
 refine OKS.mapPut (x:=.tmp 13) (y:=.tmp 14) (j:=2) (mk:=wBH) (mv:=wBQ) (a:=ac) (v:=0) rfl rfl rfl (by first | exact .inl rfl | exact .inr rfl) eA rfl dW dX rfl (wBe ZN) wCx g6 rfl ?_
 intro fU fP jI qo pB
 have pC:sW w U dB [.blk b2 45 B0,.blk bm 85 [.pointer none],.obj bn (.map fU fP)] jI:=pB
 exact qA _ _ ⟨dB,bm,bn,fU,fP,dV,gH,dW,dX,iO,pC,qo⟩
 refine ZO (s:=gCw) (M:=fun σ_ w_=>∃ (U_:PHeap) (bK:Nat) (bV:Array MapEntry) (cL:Nat),σ_ 1=.pointer (some ⟨b2,0,none⟩)/\σ_ 13=.map (some bK)/\σ_ 14=.agg #[jV ac.skier,jV ac.mat]/\PHeap.Le U U_/\sW w U U_ [.blk b2 45 B0,.obj bK (.map bV cL)] w_/\MpR bV wBH wBQ (wFN ([]:List (wAI × Int)) ac 0)) ?_ fun qC=>?_
 rintro th r8 ⟨ft,bK,bV,cL,dY,dZ,gI,iP,eB,g7⟩
 refine oM Z dZ (zq ?_ ?_)
 exact ZL Z Z Z Z (eB.ldBA (j:=0) Z Z dY zm zf (vs:=B0) Z Z) (qy _ _ ⟨ft,bK,bV,cL,dY,Z,dZ,gI,Z,iP,eB,g7⟩)
 refine zX (cs:=[.pointer none]) Z Z Z Z Z yJ Z eB ?_
 intro r9 lc pE
 exact qx _ _ ⟨ft,lc,bK,bV,cL,dY,rfl,dZ,gI,rfl,iP,(pE.pick [1,0,2] _ (by decide) rfl),g7⟩
 refine ZO (s:=gCr) (M:=fun σ_ w_=>∃ (U_:PHeap) (cA:Nat),σ_ 1=.pointer (some ⟨b2,0,none⟩)/\σ_ 3=.pointer (some ⟨cA,0,none⟩)/\σ_ 12=.agg B0.toArray/\σ_ 14=.agg #[jV ac.skier,jV ac.mat]/\PHeap.Le U U_/\sW w U U_ [.blk b2 45 B0,.blk cA 85 [.pointer none]] w_) ?_ fun eM=>?_
 rintro tj sa ⟨jd,cA,mh,mi,mj,ml,qQ,pF⟩
 refine ym Z Z Z Z Z pF ?_
 intro sb lf pG
 have qp:=MpR.nil wBH wBQ
 exact dl _ _ ⟨jd,cA,lf,#[],0,mh,mi,mj,rfl,ml,qQ,(pG.pick [1,2,0] _ (by decide) rfl),qp⟩
 refine ZO (s:=gCq) (M:=fun σ_ w_=>∃ (U_:PHeap) (bL:Nat) (bM:Nat) (bW:Array MapEntry) (cM:Nat),σ_ 1=.pointer (some ⟨b2,0,none⟩)/\σ_ 3=.pointer (some ⟨bL,0,none⟩)/\σ_ 12=.agg B0.toArray/\σ_ 13=.map (some bM)/\PHeap.Le U U_/\sW w U U_ [.blk b2 45 B0,.blk bL 85 [.pointer none],.obj bM (.map bW cM)] w_/\MpR bW wBH wBQ ([]:List (wAI × Int))) ?_ fun eO=>?_
 rintro tl jJ ⟨je,bL,bM,bW,cM,mm,mn,mo,mp,qR,pH,mQ⟩
 refine zG 0 Z Z Z Z (zH Z Z ya zN Z) pH (fun hs=>wBa jJ je hs aZ) (.inr Z) ?_
 rintro fu rd sK jK qS pI ⟨rfl,rfl⟩
 have pJ:sW w U fu [.blk b2 45 B0,.blk bL 85 [.pointer none],.obj bM (.map bW cM)] jK:=pI
 exact dl _ _ ⟨fu,bL,bM,bW,cM,mm,mn,mo,mp,Z,(qR.trans qS),pJ,mQ⟩
 refine ZO (s:=gCv) (M:=fun σ_ w_=>∃ (U_:PHeap) (bo:Nat) (cY:Array MapEntry) (dO:Nat),σ_ 1=.pointer (some ⟨b2,0,none⟩)/\σ_ 12=.agg B0.toArray/\σ_ 13=.map (some bo)/\σ_ 14=.agg #[jV ac.skier,jV ac.mat]/\PHeap.Le U U_/\sW w U U_ [.blk b2 45 B0,.obj bo (.map cY dO)] w_/\MpR cY wBH wBQ ([]:List (wAI × Int))) ?_ fun eQ=>?_
 rintro tn sc ⟨dC,bo,cY,dO,gJ,gL,d4,d5,iQ,ip,g8⟩
 refine zq ?_ ?_
 refine OKS.mapPut (x:=.tmp 13) (y:=.tmp 14) (j:=1) (mk:=wBH) (mv:=wBQ) (a:=ac) (v:=0) rfl rfl rfl (by first | exact .inl rfl | exact .inr rfl) ip rfl d4 d5 rfl (wBe ZN) wCx g8 rfl ?_
 intro fV fQ jL qq pK
 have pM:sW w U dC [.blk b2 45 B0,.obj bo (.map fV fQ)] jL:=pK
 exact qB _ _ ⟨dC,bo,fV,fQ,gJ,gL,d4,d5,iQ,pM,qq⟩
 refine zX (cs:=[.pointer none]) Z Z Z Z Z yJ Z ip ?_
 intro sd lg pN
 exact dl _ _ ⟨dC,lg,bo,cY,dO,gJ,rfl,gL,d4,d5,iQ,(pN.pick [1,0,2] _ (by decide) rfl),g8⟩
 refine ZO (s:=gDe) (M:=fun σ_ w_=>∃ (U_:PHeap) (bN:Nat),σ_ 1=.pointer (some ⟨b2,0,none⟩)/\σ_ 3=.pointer (some ⟨bN,0,none⟩)/\σ_ 14=.agg #[jV ac.skier,jV ac.mat]/\PHeap.Le U U_/\sW w U U_ [.blk b2 45 B0,.blk bN 85 [.pointer none]] w_) ?_ fun iE=>?_
 rintro tp se ⟨fw,bN,d6,gM,gN,iR,eE⟩
 refine zq ?_ ?_
 exact ZL Z Z Z Z (eE.ldBA (j:=0) Z Z d6 zm zf (vs:=B0) Z Z) (eM _ _ ⟨fw,bN,d6,gM,Z,gN,iR,eE⟩)
 refine ym Z Z Z Z Z eE ?_
 intro sf lh pO
 have qr:=MpR.nil wBH wBQ
 exact eL _ _ ⟨fw,bN,lh,#[],0,d6,gM,rfl,gN,iR,(pO.pick [1,2,0] _ (by decide) rfl),qr⟩
 refine ZO (s:=gDd) (M:=fun σ_ w_=>∃ (U_:PHeap) (bp:Nat) (bq:Nat) (bv:Array MapEntry) (bP:Nat),σ_ 1=.pointer (some ⟨b2,0,none⟩)/\σ_ 3=.pointer (some ⟨bp,0,none⟩)/\σ_ 13=.map (some bq)/\PHeap.Le U U_/\sW w U U_ [.blk b2 45 B0,.blk bp 85 [.pointer none],.obj bq (.map bv bP)] w_/\MpR bv wBH wBQ ([]:List (wAI × Int))) ?_ fun iF=>?_
 rintro tq jM ⟨fy,bp,bq,bv,bP,d7,gO,gP,iS,eF,g9⟩
 refine zq ?_ ?_
 exact ZL Z Z Z Z (eF.ldBA (j:=0) Z Z d7 zm zf (vs:=B0) Z Z) (eO _ _ ⟨fy,bp,bq,bv,bP,d7,gO,Z,gP,iS,eF,g9⟩)
 refine zG 0 Z Z Z Z (zH Z Z ya zN Z) eF (fun hs=>wBa jM fy hs aZ) (.inr Z) ?_
 rintro fz re sL jN qT pP ⟨rfl,rfl⟩
 have pQ:sW w U fz [.blk b2 45 B0,.blk bp 85 [.pointer none],.obj bq (.map bv bP)] jN:=pP
 exact eL _ _ ⟨fz,bp,bq,bv,bP,d7,gO,gP,Z,(iS.trans qT),pQ,g9⟩
 refine ZO (s:=gDf) (M:=fun σ_ w_=>∃ (U_:PHeap) (bf:Nat) (bX:Array MapEntry) (cN:Nat),σ_ 1=.pointer (some ⟨b2,0,none⟩)/\σ_ 13=.map (some bf)/\σ_ 14=.agg #[jV ac.skier,jV ac.mat]/\PHeap.Le U U_/\sW w U U_ [.blk b2 45 B0,.obj bf (.map bX cN)] w_/\MpR bX wBH wBQ ([]:List (wAI × Int))) ?_ fun iG=>?_
 rintro tr sg ⟨cn,bf,bX,cN,cZ,c6,da,eS,dh,en⟩
 refine zq ?_ ?_
 exact ZL Z Z Z Z (dh.ldBA (j:=0) Z Z cZ zm zf (vs:=B0) Z Z) (eQ _ _ ⟨cn,bf,bX,cN,cZ,Z,c6,da,eS,dh,en⟩)
 refine zq ?_ ?_
 refine OKS.mapPut (x:=.tmp 13) (y:=.tmp 14) (j:=1) (mk:=wBH) (mv:=wBQ) (a:=ac) (v:=0) rfl rfl rfl (by first | exact .inl rfl | exact .inr rfl) dh rfl c6 da rfl (wBe ZN) wCx en rfl ?_
 intro fW fR jO qs pR
 have pS:sW w U cn [.blk b2 45 B0,.obj bf (.map fW fR)] jO:=pR
 exact qC _ _ ⟨cn,bf,fW,fR,cZ,c6,da,eS,pS,qs⟩
 refine zX (cs:=[.pointer none]) Z Z Z Z Z yJ Z dh ?_
 intro sh li pT
 exact eL _ _ ⟨cn,li,bf,bX,cN,cZ,rfl,c6,da,eS,(pT.pick [1,0,2] _ (by decide) rfl),en⟩
 refine ZO (s:=gDc) (M:=fun σ_ w_=>∃ (U_:PHeap) (br:Nat),σ_ 1=.pointer (some ⟨b2,0,none⟩)/\σ_ 3=.pointer (some ⟨br,0,none⟩)/\σ_ 12=.agg B0.toArray/\PHeap.Le U U_/\sW w U U_ [.blk b2 45 B0,.blk br 85 [.pointer none]] w_) ?_ fun iH=>?_
 rintro tt jP ⟨fA,br,gQ,gR,gS,iT,iq⟩
 refine zq ?_ ?_
 refine ym Z Z Z Z Z iq ?_
 intro sj lj pU
 have qt:=MpR.nil wBH wBQ
 exact eO _ _ ⟨fA,br,lj,#[],0,gQ,gR,gS,rfl,iT,(pU.pick [1,2,0] _ (by decide) rfl),qt⟩
 refine zG 0 Z Z Z Z (zH Z Z ya zN Z) iq (fun hs=>wBa jP fA hs aZ) (.inr Z) ?_
 rintro fB rf sM jQ qU pV ⟨rfl,rfl⟩
 have mU:sW w U fB [.blk b2 45 B0,.blk br 85 [.pointer none]] jQ:=pV
 exact eM _ _ ⟨fB,br,gQ,gR,gS,Z,(iT.trans qU),mU⟩
 refine ZO (s:=gDb) (M:=fun σ_ w_=>∃ (U_:PHeap),σ_ 1=.pointer (some ⟨b2,0,none⟩)/\σ_ 12=.agg B0.toArray/\σ_ 14=.agg #[jV ac.skier,jV ac.mat]/\PHeap.Le U U_/\sW w U U_ [.blk b2 45 B0] w_) ?_ fun iz=>?_
 rintro sQ rh ⟨e9,fY,fZ,f4,iJ,ib⟩
 refine zq ?_ ?_
 refine ym Z Z Z Z Z ib ?_
 intro ri jR mV
 have qh:=MpR.nil wBH wBQ
 exact eQ _ _ ⟨e9,jR,#[],0,fY,fZ,rfl,f4,iJ,(mV.pick [1,0] _ (by decide) rfl),qh⟩
 refine zX (cs:=[.pointer none]) Z Z Z Z Z yJ Z ib ?_
 intro rj jS mW
 exact eM _ _ ⟨e9,jS,fY,rfl,fZ,f4,iJ,(mW.pick [1,0] _ (by decide) rfl)⟩
 refine ZO (s:=gDa) (M:=fun σ_ w_=>∃ (U_:PHeap) (bi:Nat) (bu:Array MapEntry) (bO:Nat),σ_ 1=.pointer (some ⟨b2,0,none⟩)/\σ_ 12=.agg B0.toArray/\σ_ 13=.map (some bi)/\PHeap.Le U U_/\sW w U U_ [.blk b2 45 B0,.obj bi (.map bu bO)] w_/\MpR bu wBH wBQ ([]:List (wAI × Int))) ?_ fun iA=>?_
 rintro sS jf ⟨fb,bi,bu,bO,f5,f6,f7,iK,ic,gT⟩
 refine zq ?_ ?_
 refine zG 0 Z Z Z Z (zH Z Z ya zN Z) ic (fun hs=>wBa jf fb hs aZ) (.inr Z) ?_
 rintro fc qX sD jg qD mX ⟨rfl,rfl⟩
 have mY:sW w U fc [.blk b2 45 B0,.obj bi (.map bu bO)] jg:=mX
 exact eQ _ _ ⟨fc,bi,bu,bO,f5,f6,f7,Z,(iK.trans qD),mY,gT⟩
 refine zX (cs:=[.pointer none]) Z Z Z Z Z yJ Z ic ?_
 intro rn jT mZ
 exact eO _ _ ⟨fb,jT,bi,bu,bO,f5,rfl,f6,f7,iK,(mZ.pick [1,0,2] _ (by decide) rfl),gT⟩
 refine zq ?_ ?_
 refine ZL Z Z Z Z (a7.ldBA (j:=0) Z Z Z zm zf (vs:=B0) Z Z) (zq ?_ ?_)
 refine ym Z Z Z Z Z a7 ?_
 intro ro jU m2
 have qi:=MpR.nil wBH wBQ
 exact iA _ _ ⟨U,jU,#[],0,rfl,rfl,rfl,(zL _),(m2.pick [1,0] _ (by decide) rfl),qi⟩
 refine zq ?_ ?_
 refine zG 0 Z Z Z Z (zH Z Z ya zN Z) a7 (fun hs=>wBa fH U hs aZ) (.inr Z) ?_
 rintro fd qY sE jh qE m3 ⟨rfl,rfl⟩
 have m4:sW w U fd [.blk b2 45 B0] jh:=m3
 exact iz _ _ ⟨fd,Z,Z,Z,qE,m4⟩
 refine zX (cs:=[.pointer none]) Z Z Z Z Z yJ Z a7 ?_
 intro rp jW m5
 exact iH _ _ ⟨U,jW,rfl,rfl,rfl,(zL _),(m5.pick [1,0] _ (by decide) rfl)⟩
 refine zq ?_ ?_
 refine ym Z Z Z Z Z a7 ?_
 intro ji co de
 have eJ:=MpR.nil wBH wBQ
 refine zq ?_ ?_
 exact ZL rfl rfl rfl rfl (de.ldBA (j:=1) rfl rfl rfl zm zf (vs:=B0) rfl rfl) (iA _ _ ⟨U,co,#[],0,rfl,rfl,rfl,(zL _),(de.pick [1,0] _ (by decide) rfl),eJ⟩)
 refine zq ?_ ?_
 refine zG 0 Z Z Z Z (zH Z Z ya zN Z) de (fun hs=>wBa ji U hs aZ) (.inr Z) ?_
 rintro ff qZ sF jj qF m6 ⟨rfl,rfl⟩
 have m7:sW w U ff [.obj co (.map #[] 0),.blk b2 45 B0] jj:=m6
 exact iG _ _ ⟨ff,co,#[],0,rfl,rfl,rfl,qF,(m7.pick [1,0] _ (by decide) rfl),eJ⟩
 refine zX (cs:=[.pointer none]) Z Z Z Z Z yJ Z de ?_
 intro rq jX m8
 exact iF _ _ ⟨U,jX,co,#[],0,rfl,rfl,rfl,(zL _),(m8.pick [2,0,1] _ (by decide) rfl),eJ⟩
 refine zq ?_ ?_
 refine zG 0 Z Z Z Z (zH Z Z ya zN Z) a7 (fun hs=>wBa fH U hs aZ) (.inr Z) ?_
 rintro cj q5 sG jk eR m9 ⟨rfl,rfl⟩
 have df:sW w U cj [.blk b2 45 B0] jk:=m9
 refine zq ?_ ?_
 exact ZL Z Z Z Z (df.ldBA (j:=0) Z Z Z zm zf (vs:=B0) Z Z) (iz _ _ ⟨cj,Z,Z,Z,eR,df⟩)
 refine zq ?_ ?_
 refine ym Z Z Z Z Z df ?_
 intro rv jY n2
 have qj:=MpR.nil wBH wBQ
 exact iG _ _ ⟨cj,jY,#[],0,rfl,rfl,rfl,eR,(n2.pick [1,0] _ (by decide) rfl),qj⟩
 refine zX (cs:=[.pointer none]) Z Z Z Z Z yJ Z df ?_
 intro rx jZ n4
 exact iE _ _ ⟨cj,jZ,rfl,rfl,rfl,eR,(n4.pick [1,0] _ (by decide) rfl)⟩
 refine zX (cs:=[.pointer none]) Z Z Z Z Z yJ Z a7 ?_
 intro jl cp dg
 refine zq ?_ ?_
 exact ZL rfl rfl rfl rfl (dg.ldBA (j:=1) rfl rfl rfl zm zf (vs:=B0) rfl rfl) (iH _ _ ⟨U,cp,rfl,rfl,rfl,(zL _),(dg.pick [1,0] _ (by decide) rfl)⟩)
 refine zq ?_ ?_
 refine ym Z Z Z Z Z dg ?_
 intro ry j0 n5
 have qk:=MpR.nil wBH wBQ
 exact iF _ _ ⟨U,cp,j0,#[],0,rfl,rfl,rfl,(zL _),(n5.pick [2,1,0] _ (by decide) rfl),qk⟩
 refine zG 0 Z Z Z Z (zH Z Z ya zN Z) dg (fun hs=>wBa jl U hs aZ) (.inr Z) ?_
 rintro fg q6 sH jm qG n6 ⟨rfl,rfl⟩
 have n7:sW w U fg [.blk cp 85 [.pointer none],.blk b2 45 B0] jm:=n6
 exact iE _ _ ⟨fg,cp,rfl,rfl,rfl,qG,(n7.pick [1,0] _ (by decide) rfl)⟩
 rintro sT jo ⟨iY,b6,b8,ae,bQ,cG,f8,lm,dm,ie,mr⟩
 refine zJ (sR gBk Z (oL Z (ie.ldBA (j:=0) Z Z f8 zm zf (vs:=B0) Z Z) ?_))
 have gU:=pX.le dm
 have gV:=pY.le dm
 have gW:=p5.le dm
 have gX:=p6.le dm
 have q:=bnd qa
 obtain ⟨⟨⟩,ms,iu⟩:=q
 try dsimp only at iu
 refine zG 0 Z Z Z Z (zH Z Z Tryz.call115 (zB Z zN) Z) ie (fun hs=>wGB O af am ag an ah ao aj ap jo iY hs gU gV gW gX ms) (.inr Z) ?_
 rintro fh q7 sI jp dn n8 ⟨fJ,rfl,rfl,mu⟩
 let B6:Res:=.blk b6 85 [.pointer (some ⟨b8,0,none⟩)]
 have n9:sW w U fh [.blk b2 45 B0,B6,.blk b8 124 [.slice af O.Starts.length am,.slice ag O.Splits.length an,.slice ah O.Clocks.length ao,.slice aj O.Readings.length ap,.map (some ae),.slice none 0 0],.obj ae (.map bQ cG)] jp:=n8
 refine eN (zY (CK.fresh fun du di=>?_))
 have ln:du 1=.pointer (some ⟨b2,0,none⟩):=(di 1).trans f8
 have f9:du 3=.pointer (some ⟨b6,0,none⟩):=(di 3).trans lm
 have lp:du 19=.func (.func 144) #[] #[.pointer (some ⟨fJ,0,none⟩)]:=(di 19).trans rfl
 clear di
 have oa:=n9.nilrow 151 7
 refine bnK iu fun iV p9 iv=>?_
 have d8:=gU.le dn
 have d9:=gV.le dn
 have ef:=gW.le dn
 have eg:=gX.le dn
 refine CK.rangeY (S:=(List wAa) × (List (wAI × Int))) (E:=Empty) (ar:=wLR) (PY:=(fun (s_:(List wAa) × (List (wAI × Int))) (U_:PHeap) (L_:List Res)=>match s_ with | (l1591,l1595)=>∃ (bh:Option Addr) (bt:Nat) (aU:Array MapEntry) (aV:Nat),L_=[.blk b2 45 B0,B6,.row bh bt 151 7 (hH wAN l1591),.blk b8 124 [.slice af O.Starts.length am,.slice ag O.Splits.length an,.slice ah O.Clocks.length ao,.slice aj O.Readings.length ap,.map (some ae),.slice bh l1591.length bt],.obj ae (.map aU aV)]/\MpR aU wBH wBQ l1595)) (PE:=(fun (_:Empty) _ _=>False)) (exO:=Empty.elim) (s0:=([],iI)) (rr:=iV) lp Tryz.call144 (oa.pick [1,2,0,3,4] _ (by decide) rfl) (by decide) (fun _ _ _ h=>by obtain rfl:=h;rfl) (fun e=>nomatch e) ⟨none,0,bQ,cG,rfl,mr⟩ (fun l w1 L1 PY' PE' mT mR pW=>wFV PY' PE' _ l _ O fJ af am ag an ah ao aj ap w1 L1 fh mT mR pW mu d8 d9 ef eg p9) ?_ ?_
 rintro aE sC sv ⟨l1591,l1595⟩ aq sN sB dr q8 qW eT aI dp oc mS pZ ir dt bx
 obtain ⟨bh,bt,aU,aV,rfl,mw⟩:=mS
 obtain rfl:=pZ
 replace bx:∀ t,dt t=upd du 20 (.agg #[jV aq.Kind,jV aq.Skier,jV aq.Index,.bool aq.Up]) t:=bx
 have lq:dt 20=.agg #[jV aq.Kind,jV aq.Skier,jV aq.Index,.bool aq.Up]:=(bx 20).trans (wFC _ _ _)
 have ga:dt 1=.pointer (some ⟨b2,0,none⟩):=(bx 1).trans ((wFY _ _ (by decide)).trans ln)
 have lu:dt 3=.pointer (some ⟨b6,0,none⟩):=(bx 3).trans ((wFY _ _ (by decide)).trans f9)
 clear bx
 let B7:Res:=.blk b8 124 [.slice af O.Starts.length am,.slice ag O.Splits.length an,.slice ah O.Clocks.length ao,.slice aj O.Readings.length ap,.map (some ae),.slice bh l1591.length bt]
 let B8:Res:=.row bh bt 151 7 (hH wAN l1591)
 have od:St aI dr [.obj aE eT,.blk b2 45 B0,B6,B8,B7,.obj ae (.map aU aV)] qW:=oc
 try dsimp only at ir
 refine rR gBl Z (zX (cs:=[jV 0,jV 0,jV 0,.bool false]) Z Z Z Z Z Zq Z od ?_)
 intro rz az oe
 let B9:List Value:=[jV aq.Kind,jV aq.Skier,jV aq.Index,.bool aq.Up]
 refine za (j:=0) (vs:=B9) Z Z Z Z oe Z Z lq Z ZX (zA Z) Z Z Z ?_
 intro jq og
 have oh:St aI dr [.blk az 101 B9,.obj aE eT,.blk b2 45 B0,B6,B8,B7,.obj ae (.map aU aV)] jq:=og
 refine zc ⟨rfl,rfl,_,_,(oh.pick [1,0,2,3,4,5,6] [.obj aE eT,.blk az 101 B9,.blk b2 45 B0,B6,B8,B7,.obj ae (.map aU aV)] (by decide) rfl),fun fD aM oi=>?_⟩
 have eo:St aI dr [.obj aE aM,.blk az 101 B9,.blk b2 45 B0,B6,B8,B7,.obj ae (.map aU aV)] fD:=oi
 refine zY (sR (.fl 0 (.fl 1 (.fx 2 (wLt (.fx 7 (.fx 8 (.fx 9 (.fx 10 (.fl 11 .nil) .stop) .stop) .stop) .stop)) .stop))) Z (oL Z (eo.ldBA (j:=2) Z Z ga zm zf (vs:=B0) Z Z) (oL Z (eo.ldBA (j:=1) Z Z Z Zp ZX (vs:=B9) Z Z) ?_)))
 have mx:=d8.le dp
 have my:=d9.le dp
 have mz:=ef.le dp
 have mA:=eg.le dp
 have q:=bnd ir
 obtain ⟨⟨aF,aG,aQ⟩,mB,iw⟩:=q
 try dsimp only at iw
 refine zG 0 Z Z Z Z (zH Z Z Tryz.call65 (zB Z (zB Z zN)) Z) eo (fun hs=>wBb O af am ag an ah ao aj ap aq fD dr hs mx my mz mA mB) (.inr Z) ?_
 rintro bD q9 sJ jr sw oj ⟨rfl,rfl⟩
 have ol:St aI bD [.obj aE aM,.blk az 101 B9,.blk b2 45 B0,B6,B8,B7,.obj ae (.map aU aV)] jr:=oj
 refine oM Z Z (oR Z (zZ Z Z (v:=.agg #[jV aF.skier,jV aF.mat]) Z) (oR Z (zZ Z Z (v:=.agg #[jV aG.skier,jV aG.mat]) Z) (oR Z (zZ Z Z (v:=jV aQ) Z) ?_)))
 let ci:List Value:=[jV 0,jV 0]
 refine zX (cs:=ci) Z Z Z Z Z zb Z ol ?_
 intro rA aN om
 refine zX (cs:=ci) Z Z Z Z Z zb Z om ?_
 intro rB aO oo
 let aH:List Value:=[jV aF.skier,jV aF.mat]
 refine za (j:=1) (vs:=aH) Z Z Z Z oo Z Z Z Z zE (zA Z) Z Z Z ?_
 intro jt oq
 have ot:St aI bD [.blk aO 115 ci,.blk aN 115 aH,.obj aE aM,.blk az 101 B9,.blk b2 45 B0,B6,B8,B7,.obj ae (.map aU aV)] jt:=oq
 let aJ:List Value:=[jV aG.skier,jV aG.mat]
 refine za (j:=0) (vs:=aJ) Z Z Z Z ot Z Z Z Z zE (zA Z) Z Z Z ?_
 intro ju ou
 have ez:St aI bD [.blk aO 115 aJ,.blk aN 115 aH,.obj aE aM,.blk az 101 B9,.blk b2 45 B0,B6,B8,B7,.obj ae (.map aU aV)] ju:=ou
 refine oA Z Z (eN (zJ (sR fL4 Z (oL Z (ez.ldBA (j:=1) Z Z Z zh zE (vs:=aH) Z Z) (oL Z (ez.ldBA (j:=0) Z Z Z zh zE (vs:=aJ) Z Z) ?_)))))
 let eV:List Value:=[jV aF.skier,jV aF.mat,jV aG.skier,jV aG.mat]
 refine oR Z (Runs.buildA (pv:=[(0,.agg aH.toArray),(1,.agg aJ.toArray)]) (z:=[jV 0,jV 0,jV 0,jV 0]) (cs:=eV) Z (wAE Z (wAE Z wAL)) Tryz.zeroValue200 Tryz.runUnderlying200 zE Z Z) (oM Z Z (eN (zY (bnK iw fun ay p7 qb=>?_))))
 have q:=wBE p7
 obtain ⟨eH,p8⟩:=q
 replace eH:=zK eH
 refine CK.forN' (fun cb cc σ_ w_=>∃ (U_:PHeap) (bR:Array MapEntry) (cH:Nat),σ_ 31=jV (↑cb:Int)/\σ_ 1=.pointer (some ⟨b2,0,none⟩)/\σ_ 3=.pointer (some ⟨b6,0,none⟩)/\σ_ 4=.pointer (some ⟨az,0,none⟩)/\σ_ 5=.pointer (some ⟨aN,0,none⟩)/\σ_ 6=.pointer (some ⟨aO,0,none⟩)/\σ_ 7=jV aQ/\σ_ 30=.agg eV.toArray/\PHeap.Le bD U_/\St aI U_ [.blk aO 115 aJ,.blk aN 115 aH,.obj aE aM,.blk az 101 B9,.blk b2 45 B0,B6,B8,B7,.obj ae (.map bR cH)] w_/\MpR bR wBH wBQ cc) p8 ?_ ?_ ?_
 exact ⟨bD,aU,aV,Z,ga,lu,Z,Z,Z,Z,Z,(zL _),ez,mw⟩
 rintro cb cc sO sU rC eG ⟨cm,bR,cH,db,gb,bY,ge,gf,gg,gh,dQ,iL,ov,dd⟩ qv
 have fL:Hid ((↑cb:Int) < 2):=zK (wAx eG)
 replace eG:=zK eG
 have it:Hid (w64 ((↑cb:Int) + 1)=(↑(cb + 1):Int)):=zK (by have h1:=eH.out;have h2:=fL.out;rw [wAW] <;> omega)
 refine sR fL1 Z (oR Z (zT Z db Z) (eN (zJ (cT Z fL (kN (zJ (zY (sR gBt Z (bnK qv fun bz eh qc=>oR Z (yj (cs:=hH wBf ([aF,aG]:List wAI)) Z dQ db Tryz.runUnderlying200 zE (wCt eh) (wCz eh) (wCq zh zE (wIC (sz:=2) (fun _=>Z) _ _ (wAc eh)))) (zX (cs:=ci) Z Z Z Z Z zb Z ov ?_))))))))))
 intro rD fK ow
 let bA:List Value:=[jV bz.skier,jV bz.mat]
 refine za (j:=0) (vs:=bA) Z Z Z Z ow Z Z Z Z zE (zA Z) Z Z Z ?_
 intro dD ox
 have oy:St aI cm [.blk fK 115 bA,.blk aO 115 aJ,.blk aN 115 aH,.obj aE aM,.blk az 101 B9,.blk b2 45 B0,B6,B8,B7,.obj ae (.map bR cH)] dD:=ox
 refine eN (zJ (ZB zw [1,3,3,1,1,1,3,3,3,3,3] wNC (by kernel_rfl) ?_))
 have bg:=oy.drew
 generalize hw_W1729:({ dD with drawn:=dD.drawn + 1 }:World)=fE at bg ⊢
 refine oL Z (bg.ldB (j:=6) Z Z bY yi (v:=.pointer (some ⟨b8,0,none⟩)) Z) (oR Z (Zc Z Z) (oR Z (zM Z Z ZE Z Zv) (oL Z (bg.ldB (j:=8) Z Z Z yC (v:=.map (some ae)) Z) (oL Z (bg.ldBA (j:=0) Z Z Z zh zE (vs:=bA) Z Z) (oL Z (bg.lookup2 (j:=9) (mk:=wBH) (mv:=wBQ) (a:=bz) (z:=0) Z Z Z Z (wBe ZN) wCx zt dd) (oM Z Z (oR Z (zZ Z Z (v:=jV (wAw cc bz 0)) Z) (oR Z (zZ Z Z (v:=.bool (wKF cc bz)) Z) (oA Z Z (oA Z Z (eN (sR fL2 Z (oM Z Z (oR Z (ZY Z Z) (eN (ifc qc ?_ ?_))))))))))))))))
 intro dE qd
 refine zj (nC dE.out) (ZS (zk (zI (rR fL2 Z (oR Z (ZI (zV Z db Z) (congrArg (jV) it.out)) (oM Z Z (zc ?_)))))))
 cases qd
 exact zI ⟨rfl,⟨cm,bR,cH,rfl,gb,bY,ge,gf,gg,gh,dQ,iL,(bg.pick [1,2,3,4,5,6,7,8,9] _ (by decide) rfl),dd⟩⟩
 intro dE qe
 refine ZK (nF (dE.out)) (ZB zw [1,3,3,1,1,1,3,3,1,1,0] (wLr (.fx 10 .nil .stop)) (by kernel_rfl) ?_)
 have a6:=bg.drew
 generalize hw_W1737:({ fE with drawn:=fE.drawn + 1 }:World)=rE at a6 ⊢
 refine ZD rfl rfl rfl rfl (a6.ldB (j:=6) rfl rfl bY yi (v:=.pointer (some ⟨b8,0,none⟩)) rfl) rfl (ze rfl rfl rfl rfl (fun _=>Zc rfl rfl) (ze rfl rfl rfl rfl (fun _=>zM rfl rfl ZE rfl Zv) (ZD rfl rfl rfl rfl (a6.ldB (j:=8) rfl rfl rfl yC (v:=.map (some ae)) rfl) rfl (ZD rfl rfl rfl rfl (a6.ldBA (j:=0) rfl rfl rfl zh zE (vs:=bA) rfl rfl) rfl (ZD rfl rfl rfl rfl (a6.ldB (j:=6) rfl rfl bY yi (v:=.pointer (some ⟨b8,0,none⟩)) rfl) rfl (ze rfl rfl rfl rfl (fun _=>Zc rfl rfl) (ze rfl rfl rfl rfl (fun _=>zM rfl rfl ZE rfl Zv) (ZD rfl rfl rfl rfl (a6.ldB (j:=8) rfl rfl rfl yC (v:=.map (some ae)) rfl) rfl (ZD rfl rfl rfl rfl (a6.lenM (j:=9) (mk:=wBH) (mv:=wBQ) rfl rfl rfl (wBe ZN) dd) rfl (OKS.mapPut (x:=.tmp 48) (y:=.tmp 49) (z:=.tmp 54) (j:=9) (mk:=wBH) (mv:=wBQ) (a:=bz) (v:=(↑(cc.length):Int)) rfl rfl rfl (by first | exact .inl rfl | exact .inr rfl) a6 rfl rfl rfl rfl (wBe ZN) wCx dd rfl ?_))))))))))
 intro fS fM jv qm oz
 have oB:St aI cm [.blk fK 115 bA,.blk aO 115 aJ,.blk aN 115 aH,.obj aE aM,.blk az 101 B9,.blk b2 45 B0,B6,B8,B7,.obj ae (.map fS fM)] jv:=oz
 refine zc (zk (zI (rR fL2 Z (oR Z (ZI (zV Z db Z) (congrArg (jV) it.out)) (oM Z Z (zc ?_))))))
 cases qe
 exact zI ⟨rfl,⟨cm,fS,fM,rfl,gb,bY,ge,gf,gg,gh,dQ,iL,(oB.pick [1,2,3,4,5,6,7,8,9] _ (by decide) rfl),qm⟩⟩
 rintro sV fG ⟨aX,aT,aS,mq,sk,bw,lv,lw,lx,ly,sl,sA,oC,bZ⟩
 have lk:Hid (¬ ((↑((2:Int) - 0).toNat:Int) < 2)):=zK (wAd)
 refine sR fL1 rfl (ze rfl rfl rfl rfl (fun _=>zT rfl mq rfl) (eN (zJ (cF Z lk (ZQ (zg (zg (ZJ (zI (bnK qb fun aR ej eI=>ZB zw [2,1,3,3,1,1,1,3,3,1,1,1,1,3,3,1,1,1,3,3,2,0,3,3,0] (wOE (.fx 0 (.fx 20 gCd .stop) (.fx 20 (.fx 0 gCd (.fx 21 (.fx 0 gBu .stop) .stop)) .stop))) (by kernel_rfl) ?_))))))))))
 have aL:=oC.drew
 generalize hw_W1786:({ fG with drawn:=fG.drawn + 1 }:World)=rF at aL ⊢
 refine oL Z (aL.ldB (j:=5) Z Z bw yi (v:=.pointer (some ⟨b8,0,none⟩)) Z) (oR Z (Zc Z Z) (oR Z (zM Z Z ZE Z yk) (oL Z (aL.ldB (j:=7) Z Z Z Tryz.isAgg122 (v:=.slice bh l1591.length bt) Z) (oL Z (aL.ldBA (j:=3) Z Z lv Zp ZX (vs:=B9) Z Z) (oL Z (aL.ldB (j:=5) Z Z bw yi (v:=.pointer (some ⟨b8,0,none⟩)) Z) (oR Z (Zc Z Z) (oR Z (zM Z Z ZE Z Zv) (oL Z (aL.ldB (j:=7) Z Z Z yC (v:=.map (some ae)) Z) (oL Z (aL.ldBA (j:=1) Z Z lw zh zE (vs:=aH) Z Z) (oL Z (aL.lookup1 (j:=8) (mk:=wBH) (mv:=wBQ) (a:=aF) (z:=0) Z Z Z Z (wBe ZN) wCx zt bZ) (oL Z (aL.ldB (j:=5) Z Z bw yi (v:=.pointer (some ⟨b8,0,none⟩)) Z) (oR Z (Zc Z Z) (oR Z (zM Z Z ZE Z Zv) (oL Z (aL.ldB (j:=7) Z Z Z yC (v:=.map (some ae)) Z) (oL Z (aL.ldBA (j:=0) Z Z lx zh zE (vs:=aJ) Z Z) (oL Z (aL.lookup1 (j:=8) (mk:=wBH) (mv:=wBQ) (a:=aG) (z:=0) Z Z Z Z (wBe ZN) wCx zt bZ) (oM Z ly ?_)))))))))))))))))
 let bB:List Value:=[jV aq.Kind,jV aq.Skier,jV aq.Index,.bool aq.Up,jV (wAw ay aF 0),jV (wAw ay aG 0),jV aQ]
 let dw:List Value:=[jV 0,jV 0,jV 0,.bool false,jV 0,jV 0,jV 0]
 refine oR Z (zl (pv:=[(0,.agg B9.toArray),(1,jV (wAw ay aF 0)),(2,jV (wAw ay aG 0)),(3,jV aQ)]) (z:=dw) (cs:=bB) Z (wAE Z (wAE Z (wAE Z (wAE Z wAL)))) Tryz.zeroValue151 wKV Z Z) (zq ?_ ?_)
 refine ZL Z Z Z Z (aL.ldB (j:=5) Z Z bw yi (v:=.pointer (some ⟨b8,0,none⟩)) Z) (zr (pv:=[(0,.agg bB.toArray)]) (zs:=dw) (cs:=bB) Z Z Z Z Z (wAE Z wAL) Tryz.runUnderlying122 Tryz.sizeOf151 Tryz.zeroValue151 Z Z Z Z Z aL ?_)
 intro jw j3 oD
 let dx:Res:=.row (some ⟨j3,0,none⟩) 1 151 7 (hH wAN [(⟨aq,(wAw ay aF 0),(wAw ay aG 0),aQ⟩:wAa)])
 have ig:St aI aX [dx,.blk aO 115 aJ,.blk aN 115 aH,.obj aE aM,.blk az 101 B9,.blk b2 45 B0,B6,B8,B7,.obj ae (.map aT aS)] jw:=oD
 refine Zn (j:=7) (enc:=wAN) (xs:=l1591) (ys:=[(⟨aq,(wAw ay aF 0),(wAw ay aG 0),aQ⟩:wAa)]) (zs:=aR) rfl rfl rfl rfl rfl Tryz.underlying122 wIl rfl rfl rfl rfl rfl rfl ig rfl rfl rfl (ig.srcR (j:=0) rfl (by decide) (wAC (f:=wAN) (sz:=7) (fun _=>rfl) [(⟨aq,(wAw ay aF 0),(wAw ay aG 0),aQ⟩:wAa)])) (fun _=>rfl) (fun _=>rfl) ej rfl ?_
 intro cd cB jx oE
 let eW:Res:=.row cd cB 151 7 (hH wAN aR)
 have oG:St aI aX [dx,.blk aO 115 aJ,.blk aN 115 aH,.obj aE aM,.blk az 101 B9,.blk b2 45 B0,B6,eW,B7,.obj ae (.map aT aS)] jx:=oE
 refine oR Z (Zc Z Z) (oR Z (zM Z Z ZE Z yk) (za (j:=8) (vs:=[.slice cd aR.length cB]) Z Z Z Z oG Z Z Z Z yk (zA Z) Z Z Z ?_))
 intro jy oH
 have oI:St aI aX [dx,.blk aO 115 aJ,.blk aN 115 aH,.obj aE aM,.blk az 101 B9,.blk b2 45 B0,B6,eW,.blk b8 124 [.slice af O.Starts.length am,.slice ag O.Splits.length an,.slice ah O.Clocks.length ao,.slice aj O.Readings.length ap,.map (some ae),.slice cd aR.length cB],.obj ae (.map aT aS)] jy:=oH
 refine zc (zk ?_)
 have q:=nH eI
 obtain rfl:=q
 exact ⟨_,_,(oI.pick [3,5,6,7,8,9] _ (by decide) rfl),rfl,⟨cd,cB,aT,aS,rfl,bZ⟩⟩
 refine zr (pv:=[(0,.agg bB.toArray)]) (zs:=dw) (cs:=bB) Z Z Z Z Z (wAE Z wAL) Tryz.runUnderlying122 Tryz.sizeOf151 Tryz.zeroValue151 Z Z Z Z Z aL ?_
 intro jz j4 oJ
 let bC:Res:=.row (some ⟨j4,0,none⟩) 1 151 7 (hH wAN [(⟨aq,(wAw ay aF 0),(wAw ay aG 0),aQ⟩:wAa)])
 have ca:St aI aX [bC,.blk aO 115 aJ,.blk aN 115 aH,.obj aE aM,.blk az 101 B9,.blk b2 45 B0,B6,B8,B7,.obj ae (.map aT aS)] jz:=oJ
 refine zq ?_ ?_
 refine ZL rfl rfl rfl rfl (ca.ldB (j:=6) rfl rfl bw yi (v:=.pointer (some ⟨b8,0,none⟩)) rfl) (Zn (j:=7) (enc:=wAN) (xs:=l1591) (ys:=[(⟨aq,(wAw ay aF 0),(wAw ay aG 0),aQ⟩:wAa)]) (zs:=aR) rfl rfl rfl rfl rfl Tryz.underlying122 wIl rfl rfl rfl rfl rfl rfl ca rfl rfl rfl (ca.srcR (j:=0) rfl (by decide) (wAC (f:=wAN) (sz:=7) (fun _=>rfl) [(⟨aq,(wAw ay aF 0),(wAw ay aG 0),aQ⟩:wAa)])) (fun _=>rfl) (fun _=>rfl) ej rfl ?_)
 intro cf cC jA oK
 let eY:Res:=.row cf cC 151 7 (hH wAN aR)
 have oO:St aI aX [bC,.blk aO 115 aJ,.blk aN 115 aH,.obj aE aM,.blk az 101 B9,.blk b2 45 B0,B6,eY,B7,.obj ae (.map aT aS)] jA:=oK
 refine oR Z (Zc Z Z) (oR Z (zM Z Z ZE Z yk) (za (j:=8) (vs:=[.slice cf aR.length cC]) Z Z Z Z oO Z Z Z Z yk (zA Z) Z Z Z ?_))
 intro jB oP
 have oQ:St aI aX [bC,.blk aO 115 aJ,.blk aN 115 aH,.obj aE aM,.blk az 101 B9,.blk b2 45 B0,B6,eY,.blk b8 124 [.slice af O.Starts.length am,.slice ag O.Splits.length an,.slice ah O.Clocks.length ao,.slice aj O.Readings.length ap,.map (some ae),.slice cf aR.length cC],.obj ae (.map aT aS)] jB:=oP
 refine zc (zk ?_)
 have q:=nH eI
 obtain rfl:=q
 exact ⟨_,_,(oQ.pick [3,5,6,7,8,9] _ (by decide) rfl),rfl,⟨cf,cC,aT,aS,rfl,bZ⟩⟩
 refine Zn (j:=7) (enc:=wAN) (xs:=l1591) (ys:=[(⟨aq,(wAw ay aF 0),(wAw ay aG 0),aQ⟩:wAa)]) (zs:=aR) rfl rfl rfl rfl rfl Tryz.underlying122 wIl rfl rfl rfl rfl rfl rfl ca rfl rfl rfl (ca.srcR (j:=0) rfl (by decide) (wAC (f:=wAN) (sz:=7) (fun _=>rfl) [(⟨aq,(wAw ay aF 0),(wAw ay aG 0),aQ⟩:wAa)])) (fun _=>rfl) (fun _=>rfl) ej rfl ?_
 intro cg cD jC oS
 let eZ:Res:=.row cg cD 151 7 (hH wAN aR)
 have ii:St aI aX [bC,.blk aO 115 aJ,.blk aN 115 aH,.obj aE aM,.blk az 101 B9,.blk b2 45 B0,B6,eZ,B7,.obj ae (.map aT aS)] jC:=oS
 refine ZL Z Z Z Z (ii.ldB (j:=6) Z Z bw yi (v:=.pointer (some ⟨b8,0,none⟩)) Z) (oR Z (Zc Z Z) (oR Z (zM Z Z ZE Z yk) (za (j:=8) (vs:=[.slice cg aR.length cD]) Z Z Z Z ii Z Z Z Z yk (zA Z) Z Z Z ?_)))
 intro jD oU
 have oV:St aI aX [bC,.blk aO 115 aJ,.blk aN 115 aH,.obj aE aM,.blk az 101 B9,.blk b2 45 B0,B6,eZ,.blk b8 124 [.slice af O.Starts.length am,.slice ag O.Splits.length an,.slice ah O.Clocks.length ao,.slice aj O.Readings.length ap,.map (some ae),.slice cg aR.length cD],.obj ae (.map aT aS)] jD:=oU
 refine zc (zk ?_)
 have q:=nH eI
 obtain rfl:=q
 exact ⟨_,_,(oV.pick [3,5,6,7,8,9] _ (by decide) rfl),rfl,⟨cg,cD,aT,aS,rfl,bZ⟩⟩
 rintro iU dA rc jE dq oW
 rcases iV with ⟨iW,sP⟩ | ll
 try dsimp only at iv
 rintro ⟨dv,dF,cO,cE,rfl,mC⟩
 let dy:Res:=.blk b8 124 [.slice af O.Starts.length am,.slice ag O.Splits.length an,.slice ah O.Clocks.length ao,.slice aj O.Readings.length ap,.map (some ae),.slice dv iW.length dF]
 let dz:Res:=.row dv dF 151 7 (hH wAN iW)
 have ij:sW w U dA [.blk b2 45 B0,B6,dz,dy,.obj ae (.map cO cE),.obj iU (.deferred (some []))] jE:=oW
 refine zk (zI (sR fL2 Z (oL Z (ij.ldB (j:=1) Z Z f9 yi (v:=.pointer (some ⟨b8,0,none⟩)) Z) (oA Z Z (eN (zR ?_))))))
 have mD:=d8.le dq
 have mE:=d9.le dq
 have mF:=ef.le dq
 have mG:=eg.le dq
 refine wMT (by first | exact .inl rfl | exact .inr rfl) (rbs:=[iU]) (L:=[.blk b2 45 B0,B6,dz,dy,.obj ae (.map cO cE)]) ij fun jF oZ=>?_
 have o0:sW w U dA [.blk b2 45 B0,B6,dz,dy,.obj ae (.map cO cE)] jF:=oZ
 cases iv
 exact ⟨_,(ZG rfl),dA,_,(o0.pick [3,4,2] _ (by decide) rfl),b8,af,am,ag,an,ah,ao,aj,ap,ae,cO,cE,dv,dF,rfl,rfl,mD,mE,mF,mG,mC⟩
 exact ll.elim
end Go.Proofs.YtkghaiefcjgfkaaGreat
namespace Go.Proofs.YtkghaiefcjgfkaaGreat
open Go.KL
set_option maxHeartbeats 4000000
theorem wEN (O:wAD) (ac:Option Addr) (ah:Nat) (ae:Option Addr) (aj:Nat) (af:Option Addr) (am:Nat) (ag:Option Addr) (an:Nat) (w:World) (U:PHeap) (hS:St0 w U []) (aT:Sl U 1 ac ah O.Starts.length (hH KL.encI O.Starts)) (aU:Sl U 2 ae aj O.Splits.length (hH wAA O.Splits)) (aV:Sl U 3 af am O.Clocks.length (hH wAG O.Clocks)) (aW:Sl U 4 ag an O.Readings.length (hH wAB O.Readings)) {r:(Option wAb) × Int} (hm:wBz O=some r):Gv Tryz.prog 64 [.agg #[.slice ac O.Starts.length ah,.slice ae O.Splits.length aj,.slice af O.Clocks.length am,.slice ag O.Readings.length an]] w (wBl w [] U (fun U_ L_ v=>match r.1 with | none=>v=.tuple #[.pointer none,jV r.2]/\L_=[] | some d=>∃ (b0:Nat) (A0p00:Option Addr) (c0p00:Nat) (A0p01:Option Addr) (c0p01:Nat) (A0p02:Option Addr) (c0p02:Nat) (A0p03:Option Addr) (c0p03:Nat) (m0p1:Nat) (es0p1:Array MapEntry) (ck0p1:Nat) (A0p2:Option Addr) (c0p2:Nat),v=.tuple #[.pointer (some ⟨b0,0,none⟩),jV r.2]/\L_=[.blk b0 124 [.slice A0p00 d.Race.Starts.length c0p00,.slice A0p01 d.Race.Splits.length c0p01,.slice A0p02 d.Race.Clocks.length c0p02,.slice A0p03 d.Race.Readings.length c0p03,.map (some m0p1),.slice A0p2 d.edges.length c0p2],.obj m0p1 (.map es0p1 ck0p1),.row A0p2 c0p2 151 7 (hH wAN d.edges)]/\Sl U_ 1 A0p00 c0p00 d.Race.Starts.length (hH KL.encI d.Race.Starts)/\Sl U_ 2 A0p01 c0p01 d.Race.Splits.length (hH wAA d.Race.Splits)/\Sl U_ 3 A0p02 c0p02 d.Race.Clocks.length (hH wAG d.Race.Clocks)/\Sl U_ 4 A0p03 c0p03 d.Race.Readings.length (hH wAB d.Race.Readings)/\MpR es0p1 wBH wBQ d.number)):=by
 unfold wBz at hm
 refine Gv.of Tryz.func64 Z Tryz.ntmps64 Tryz.results64 Z (sR gBv Z ?_)
 let B0:List Value:=[.slice ac O.Starts.length ah,.slice ae O.Splits.length aj,.slice af O.Clocks.length am,.slice ag O.Readings.length an]
 refine zu (cs:=B0) rfl rfl rfl rfl rfl rfl (by rfl) hS ?_
 intro W1 b2 aS
 refine oA Z Z (oA Z Z (eN (zJ (sR (.fl 0 gBc) Z (oL Z (aS.ldBA (j:=0) Z Z Z zm zf (vs:=B0) Z Z) (bnK hm fun x5 h6 bo=>zG 0 Z Z Z Z (zH Z Z Tryz.call58 (zB Z zN) Z) aS (fun hs=>wEM O ac ah ae aj af am ag an W1 U hs aT aU aV aW h6) (.inr Z) ?_))))))
 rintro U8 L9 bt aI ao bh ⟨rfl,rfl⟩
 have ax:sW w U U8 [.blk b2 45 B0] aI:=bh
 refine oA Z Z (eN (sR fL2 Z (oM Z Z (oR Z (Zb Z Z Z) (eN (ifc bo ?_ ?_))))))
 intro au bk
 refine zj (ZA (fun h=>h au.out)) (kN (sR gCe Z (oL Z (ax.ldBA (j:=0) Z Z Z zm zf (vs:=B0) Z Z) ?_)))
 have aZ:=aT.le ao
 have a6:=aU.le ao
 have a7:=aV.le ao
 have a8:=aW.le ao
 refine bnK bk fun aa a9 bm=>zG 0 Z Z Z Z (zH Z Z Tryz.call105 (zB Z zN) Z) ax (fun hs=>wFl O ac ah ae aj af am ag an aI U8 hs aZ a6 a7 a8 a9) (.inr Z) ?_
 rintro aH bp bu aY br bi ⟨aL,az,aM,aE,aN,aF,aO,aG,aP,ay,aR,aQ,ap,av,rfl,rfl,ba,bb,bc,be,bf⟩
 have bj:sW w U aH [.blk aL 124 [.slice az aa.Race.Starts.length aM,.slice aE aa.Race.Splits.length aN,.slice aF aa.Race.Clocks.length aO,.slice aG aa.Race.Readings.length aP,.map (some ay),.slice ap aa.edges.length av],.obj ay (.map aR aQ),.row ap av 151 7 (hH wAN aa.edges),.blk b2 45 B0] aY:=bi
 refine oA Z Z (oA Z Z (eN (zR ?_)))
 cases bm
 exact ⟨rfl,_,(wDw rfl rfl),aH,_,(bj.pick [0,1,2] _ (by decide) rfl),aL,az,aM,aE,aN,aF,aO,aG,aP,ay,aR,aQ,ap,av,rfl,rfl,ba,bb,bc,be,bf⟩
 intro au bn
 refine cT Z au (sR fL3 Z (oM Z Z (oA Z Z (oA Z Z (eN (zR (zW ?_)))))))
 cases bn
 exact ⟨rfl,_,(wDw rfl rfl),U8,_,(ax.pick [] _ (by decide) rfl),rfl,rfl⟩
theorem wDQ (O:List wAM) (ao:Option Addr) (ap:Nat) (p1:(wAM->Option Bool)) (aq:Value) (w:World) (U:PHeap) (hS:St0 w U []) (a8:Sl U 2 ao ap O.length (hH wAV O)) (a9:FnOK Tryz.prog U aq wMW wMX p1) {r:Bool} (hm:wAz O p1=some r):Gv Tryz.prog 71 [.slice ao O.length ap,aq] w (wBl w [] U (fun U_ L_ v=>v=.bool r/\L_=[])):=by
 unfold wAz at hm
 refine Gv.of Tryz.func71 Z Tryz.ntmps71 Tryz.results71 Z (sR fL1 Z (oA Z Z (eN (zJ (sR fL3 Z (oM Z Z (oR Z (zx Z Z Zt) (oM Z Z (eN (zY ?_))))))))))
 have q:=wBs hm
 obtain ⟨r3,ah⟩:=q
 have q:=wBr ah
 obtain ⟨am,bc⟩:=q
 replace am:=zK am
 refine yQ (fun k2 _ σ_ w_=>∃ (U_:PHeap),σ_ 9=jV (↑k2:Int)/\σ_ 1=aq/\σ_ 7=.slice ao O.length ap/\σ_ 8=jV (↑O.length:Int)/\PHeap.Le U U_/\sW w U U_ [] w_) bc ?_ ?_ ?_
 exact ⟨U,Z,Z,Z,Z,(zL _),hS⟩
 rintro k2 ⟨⟩ bB bD W8 aj ⟨aL,ag,ax,ay,az,an,aF⟩ aJ ba
 try dsimp only at aJ
 have av:Hid ((↑k2:Int) < (↑O.length:Int)):=zK (wAx aj)
 replace aj:=zK aj
 have be:Hid (w64 ((↑k2:Int) + 1)=(↑(k2 + 1):Int)):=zK (by have h1:=am.out;have h2:=av.out;rw [wAW] <;> omega)
 refine sR fL1 Z (oR Z (zT Z ag az) (eN (zJ (cT Z av (kN (zJ (zY (sR (.fl 0 (.fl 1 gBd)) Z (bnK aJ fun ab aE bf=>?_)))))))))
 have aT:=a8.le an
 have q:=aT.el (fun _=>rfl) (wAc aE)
 obtain ⟨br,bw,aW,aX⟩:=q
 refine oR Z (Zf Z ay aW ag Zt ZZ (wCG aE)) (oL Z (aF.ldCA (f:=0) aX Z Z Zz ZZ (us:=[jV ab.Skier,jV ab.Mat]) Z Z) (zX (cs:=[jV 0,jV 0]) Z Z Z Z Z yB Z aF ?_))
 intro bo au aY
 let B0:List Value:=[jV ab.Skier,jV ab.Mat]
 refine za (j:=0) (vs:=B0) Z Z Z Z aY Z Z Z Z ZZ (zA Z) Z Z Z ?_
 intro aN aZ
 have aG:sW w U aL [.blk au 62 B0] aN:=aZ
 refine eN (sR gCf Z (oM Z ax (oL Z (aG.ldBA (j:=0) Z Z Z Zz ZZ (vs:=B0) Z Z) (bnK bf fun bA aU bg=>?_))))
 have aV:=a9.le an
 refine yf (a:=ab) Z Z Z Z Z Z (zB Z zN) aG aV Z aU ?_
 rintro ae bn bz aO bk a6 ⟨rfl,rfl⟩
 have aH:sW w U ae [.blk au 62 B0] aO:=a6
 refine oR Z (ZY Z Z) (eN (ifc bg ?_ ?_))
 intro af bh
 refine zj (nC af.out) (ZS (zk (zI (rR fL2 Z (oR Z (ZI (zV Z ag Z) (congrArg (jV) be.out)) (oM Z Z (zc ?_)))))))
 have q:=nH bh
 obtain rfl:=q
 exact zI ⟨rfl,_,rfl,⟨ae,rfl,ax,ay,az,(an.trans bk),(aH.pick [] _ (by decide) rfl)⟩⟩
 intro af bi
 refine ZK (nF (af.out)) (sR fL1 Z (oA Z Z (eN (zR (zn (zW ?_))))))
 have q:=wAY bi
 obtain ⟨bm,bj,aQ⟩:=q
 have q:=wBo hm ah (ba bm aQ)
 obtain rfl:=q
 refine zW (zn (zW ?_))
 have hE:=nH bj;first | subst r | cases hE
 exact ⟨rfl,_,(ZG rfl),ae,_,(aH.pick [] _ (by decide) rfl),rfl,rfl⟩
 rintro ⟨⟩ bC bp ⟨aM,aS,bt,bu,aR,bv,a7⟩ bb
 have aI:=wCk hm ah bb
 try dsimp only at aI
 have aP:Hid (¬ ((↑(((↑O.length:Int):Int) - 0).toNat:Int) < (↑O.length:Int))):=zK (wAd)
 refine sR fL1 Z (oR Z (zT Z aS aR) (eN (zJ (cF Z aP (ZQ (zg (zg (ZJ (zI (sR fL1 Z (oA Z Z (eN (zR ?_)))))))))))))
 have hE:=nH aI;first | subst r | cases hE
 exact ⟨Z,_,(ZG Z),aM,_,a7,Z,Z⟩
theorem wGb (p0 p1:Int) (w:World) (U:PHeap) (hS:St0 w U []) {r:Int × Int} (hm:wDO p0 p1=some r):Gv Tryz.prog 107 [.int .u64 p0,.int .u64 p1] w (wBl w [] U (fun U_ L_ v=>v=.tuple #[.int .u64 r.1,.int .u64 r.2]/\L_=[])):=by
 unfold wDO at hm
 split at hm
 rename_i h
 cases hm
 obtain ⟨x,rfl⟩:=nJ h.1
 obtain ⟨y,rfl⟩:=nJ h.2.2.1
 refine (Go.Proofs.Tryz.bits_Mul x y (by omega) (by omega) w).mono ?_
 rintro e w' ⟨rfl,rfl⟩
 refine ⟨_,Z,U,[],hS,?_,Z⟩
 simp
 cases hm
theorem wAk (p0:List Int) (aE:Option Addr) (aF:Nat) (p1:Int) (w:World) (U:PHeap) (hS:St0 w U []) (bD:Sl U 1 aE aF p0.length (hH KL.encI p0)) {r:(List Int)} (hm:wBA p0 p1=some r):Gv Tryz.prog 72 [.slice aE p0.length aF,jV p1] w (wBl w [] U (fun U_ L_ v=>∃ (A0:Option Addr) (c0:Nat),v=.slice A0 r.length c0/\L_=[.row A0 c0 3 1 (hH KL.encI r)])):=by
 unfold wBA at hm
 refine Gv.of Tryz.func72 Z Tryz.ntmps72 Tryz.results72 Z (sR fL1 Z (oA Z Z (eN (zJ (sR fL2 Z (oM Z Z (oR Z (zT Z Z Z) (eN ?_))))))))
 by_cases c1:p1 < 0
 have aT:=hm;rw [if_pos c1] at aT;replace c1:=zK c1
 refine cT Z c1 (rR gBl Z ?_)
 cases aT
 have aW:=hm;rw [if_neg c1] at aW;replace c1:=zK c1
 refine cF Z c1 (kN (sR (wDk (.fx 5 (wML (.nil)) .stop)) Z (oM Z Z (oR Z (zx Z Z zD) (oR Z (Runs.cv64 Z Z Ze Zl Z Z) (oM Z Z (oR Z (Runs.cv64 Z Z Ze Zl Z Z) ?_)))))))
 have q:=bnd aW
 obtain ⟨⟨x4,x5⟩,h6,aX⟩:=q
 try dsimp only at aX
 refine zG 0 Z Z Z Z (zH Z Z Tryz.call107 (zB Z (zB Z zN)) Z) hS (fun hs=>wGb (wAf (↑p0.length:Int)) (wAf p1) w U hs h6) (.inr Z) ?_
 rintro U8 L9 cf bc bV bw ⟨rfl,rfl⟩
 have aN:sW w U U8 [] bc:=bw
 refine oM Z Z (oR Z (zZ Z Z (v:=.int .u64 x4) Z) (oR Z (zZ Z Z (v:=.int .u64 x5) Z) (oA Z Z (oA Z Z (eN (zJ (bnK aX fun bh a7 bM=>yI (fun σ_ w_=>∃ (U_:PHeap),σ_ 0=.slice aE p0.length aF/\σ_ 6=.int .u64 x5/\σ_ 26=.bool bh/\PHeap.Le U8 U_/\sW w U U_ [] w_) ?_ ?_)))))))
 refine rR fL6 Z (oM Z Z (oR Z (ye Z Z Z) (oM Z Z ?_)))
 by_cases ab:0 < x4
 have aU:=a7;rw [if_pos ab] at aU;replace ab:=zK ab
 refine oT Z ab (oT Z ab (oR Z (zQ Z (Za ab.out) Z) (zc ?_)))
 cases aU
 exact zI ⟨Z,⟨U8,Z,Z,Z,(zL _),aN⟩⟩
 have aV:=a7;rw [if_neg ab] at aV;replace ab:=zK ab
 refine zU Z Z Z (wF Z ab) Z Z (rU Z (wF Z ab) (ye Z Z Z) (oR Z (zd Z (ZA ab.out) Z) (zc ?_)))
 have q:=nH aV
 obtain rfl:=q
 exact zI ⟨Z,⟨U8,Z,Z,Z,(zL _),aN⟩⟩
 rintro ci ca ⟨an,bj,bk,aL,bW,bx⟩
 refine ifc bM ?_ ?_
 intro av bN
 refine ZK (aL.trans (congrArg nK av.out)) (rR gBl Z ?_)
 cases bN
 intro av bO
 refine zj (aL.trans (congrArg nK (nL.2 av.out))) (kN (sR gCf Z (oM Z bk (oR Z (Runs.cvw Z Z Zl Ze Z Z) (bnK bO fun O bm bP=>OKS.makeSlice (enc:=KL.encI) (z:=(0:Int)) (v:=jV 0) Z Z Z Z Z (wBe zD) wGs Z Z Z Z Z Z bm bx ?_)))))
 intro be aa bz
 have aO:sW w U an [.row (some ⟨aa,0,none⟩) O.length 3 1 (hH KL.encI O)] be:=bz
 refine oA Z Z (eN (sR gCf Z (oM Z Z (oM Z bj ?_))))
 have bn:=bD.le bV
 have bo:=bn.le bW
 refine bnK bP fun aG bp bQ=>OKS.copyM (j:=0) (f:=KL.encI) (m:=O) (ys:=p0) (z:=aG) (a:=0) (n:=O.length) rfl rfl rfl rfl rfl rfl zD zC aO rfl (fun _=>rfl) (fun _=>rfl) rfl bp rfl (by simp) (.inr (by simp)) rfl (aO.srcS bo) rfl ?_
 intro bf bA aR
 have bB:sW w U an [.row (some ⟨aa,0,none⟩) O.length 3 1 (hH KL.encI aG)] bf:=bA
 refine oA Z Z (eN (zJ (zY (yl (fun (ac,ae) σ_ w_=>∃ (U_:PHeap),σ_ 7=.slice (some ⟨aa,0,none⟩) ac.length O.length/\σ_ 8=jV ae/\PHeap.Le an U_/\sW w U U_ [.row (some ⟨aa,0,none⟩) O.length 3 1 (hH KL.encI ac)] w_/\ac.length=O.length) bQ ?_ ?_))))
 exact ⟨an,(Eq.trans (b:=(.slice (some ⟨aa,0,none⟩) O.length O.length:Value)) (c:=(.slice (some ⟨aa,0,none⟩) aG.length O.length:Value)) rfl (by rw [aR])),rfl,(zL _),bB,aR⟩
 rintro ⟨ac,ae⟩ cg cj aJ ⟨au,aj,ap,bX,aP,br⟩ az bJ
 try dsimp only at az
 refine zJ (sR fL4 Z (oM Z ap (oM Z aj (oR Z (zx Z Z zD) (oR Z (zT Z Z Z) (eN ?_))))))
 by_cases ag:ae < (↑ac.length:Int)
 have aY:=az;rw [if_pos ag] at aY;replace ag:=zK ag
 refine cT Z ag (kN (zY (ZB zw [3,3,3,3,3,3,3,0,3,3] (wJK gBw) (by kernel_rfl) ?_)))
 have am:=aP.drew
 generalize hw_W76:({ aJ with drawn:=aJ.drawn + 1 }:World)=cb at am ⊢
 refine oM Z ap (oM Z aj (oM Z ap (bnK aY fun ba bt bR=>?_)))
 have q:=wID bt
 obtain ⟨bF,bH,ax,cc,ay⟩:=q
 have aZ:=am.rowCap (j:=0) rfl (by decide) (wAC (f:=KL.encI) (sz:=1) (fun _=>rfl) ac)
 refine ze (v:=.slice (if O.length=(ae:Int).toNat then (some ⟨aa,0,none⟩) else Option.map (fun q:Addr=>q.add ((ae:Int).toNat * 1)) ((some ⟨aa,0,none⟩):Option Addr)) ba.length (O.length - (ae:Int).toNat)) rfl rfl rfl rfl (fun _=>ZI (Runs.slc (sz:=1) (a:=ae) (b:=(↑(ac.length):Int)) rfl rfl (.inl ⟨_,rfl,rfl⟩) (.inr ⟨rfl,rfl⟩) zD zC bF bH ax aZ) (by rw [ay])) (zU rfl rfl rfl rfl rfl aj (zU rfl rfl rfl rfl rfl ap (bnK bR fun bb aM bS=>?_)))
 have q:=wID aM
 obtain ⟨bG,bI,bK,cd,bU⟩:=q
 have a6:=am.rowCap (j:=0) rfl (by decide) (wAC (f:=KL.encI) (sz:=1) (fun _=>rfl) ac)
 refine ze (v:=.slice (if O.length=(0:Int).toNat then (some ⟨aa,0,none⟩) else Option.map (fun q:Addr=>q.add ((0:Int).toNat * 1)) ((some ⟨aa,0,none⟩):Option Addr)) bb.length (O.length - (0:Int).toNat)) rfl rfl rfl rfl (fun _=>ZI (Runs.slc (sz:=1) (a:=0) (b:=ae) rfl rfl (.inr ⟨rfl,rfl⟩) (.inl ⟨_,rfl,rfl⟩) zD zC bG bI bK a6) (by rw [bU])) (bnK bS fun aH bu bT=>OKS.copyM (j:=0) (f:=KL.encI) (m:=ac) (ys:=bb) (z:=aH) (a:=ae) (n:=ba.length) rfl rfl rfl rfl rfl rfl zD zC am rfl (fun _=>rfl) (fun _=>rfl) rfl bu rfl (by have:=ay;have:=ax;omega) (cutA rfl (by have:=ay;have:=ax;have:=aZ;omega)) rfl (am.srcCut (f:=KL.encI) (j:=0) rfl (fun _=>rfl) rfl aM a6) rfl ?_)
 intro bg bC aQ
 have bv:sW w U au [.row (some ⟨aa,0,none⟩) O.length 3 1 (hH KL.encI aH)] bg:=bC
 refine oR Z (zV Z Z Z) (oA Z Z (zc (zk ?_)))
 have q:=nH bT
 obtain rfl:=q
 exact zI ⟨rfl,_,rfl,⟨au,(Eq.trans (b:=(.slice (some ⟨aa,0,none⟩) ac.length O.length:Value)) (c:=(.slice (some ⟨aa,0,none⟩) aH.length O.length:Value)) aj (by rw [aQ])),rfl,bX,bv,(aQ.trans br)⟩⟩
 have aS:=az;rw [if_neg ag] at aS;replace ag:=zK ag
 refine cF Z ag (ZQ (zg ?_))
 have q:=wAY aS
 obtain ⟨bY,bL,bi⟩:=q
 have q:=bJ bY bi
 obtain rfl:=q
 refine zg (ZJ (zI (sR fL2 Z (oM Z aj (oA Z Z (eN (zR ?_)))))))
 have hE:=nH bL;first | subst r | cases hE
 exact ⟨Z,_,(ZG Z),au,_,aP,(some ⟨aa,0,none⟩),O.length,Z,Z⟩
theorem wBU (p0:wAb) (af:Nat) (db:Option Addr) (dg:Nat) (dd:Option Addr) (dh:Nat) (de:Option Addr) (di:Nat) (df:Option Addr) (dk:Nat) (O:Nat) (ab:Array MapEntry) (ac:Nat) (aX:Option Addr) (aY:Nat) (p1:Int) (p2:Bool) (w:World) (U:PHeap) (hS:St0 w U [.blk af 124 [.slice db p0.Race.Starts.length dg,.slice dd p0.Race.Splits.length dh,.slice de p0.Race.Clocks.length di,.slice df p0.Race.Readings.length dk,.map (some O),.slice aX p0.edges.length aY],.obj O (.map ab ac)]) (xl:Sl U 1 db dg p0.Race.Starts.length (hH KL.encI p0.Race.Starts)) (xm:Sl U 2 dd dh p0.Race.Splits.length (hH wAA p0.Race.Splits)) (xn:Sl U 3 de di p0.Race.Clocks.length (hH wAG p0.Race.Clocks)) (xo:Sl U 4 df dk p0.Race.Readings.length (hH wAB p0.Race.Readings)) (cq:MpR ab wBH wBQ p0.number) (uz:Sl U 7 aX aY p0.edges.length (hH wAN p0.edges)) {r:wDJ × Int × Bool} (hm:wAg p0 p1 p2=some r):Gv Tryz.prog 49 [.pointer (some ⟨af,0,none⟩),jV p1,.bool p2] w (wBl w [.blk af 124 [.slice db p0.Race.Starts.length dg,.slice dd p0.Race.Splits.length dh,.slice de p0.Race.Clocks.length di,.slice df p0.Race.Readings.length dk,.map (some O),.slice aX p0.edges.length aY],.obj O (.map ab ac)] U (fun U_ L_ v=>∃ (fB:Option Addr) (gZ:Nat) (fC:Option Addr) (g6:Nat),v=.tuple #[.agg #[.slice fB r.1.far.length gZ,.slice fC r.1.by_.length g6],jV r.2.1,.bool r.2.2]/\L_=[.row fB gZ 3 1 (hH KL.encI r.1.far),.row fC g6 3 1 (hH KL.encI r.1.by_),.blk af 124 [.slice db p0.Race.Starts.length dg,.slice dd p0.Race.Splits.length dh,.slice de p0.Race.Clocks.length di,.slice df p0.Race.Readings.length dk,.map (some O),.slice aX p0.edges.length aY],.obj O (.map ab ac)])):=by
 unfold wAg at hm
 refine Gv.of Tryz.func49 Z Tryz.ntmps49 Tryz.results49 Z (sR gBv Z ?_)
 let B0:List Value:=[.slice none 0 0,.slice none 0 0]
 refine zX (cs:=B0) Z Z Z Z Z Zg Z hS ?_
 intro W3 b4 tW
 refine oA Z Z (oA Z Z (eN ?_))
 have q:=bnd hm
 obtain ⟨⟨l9,a9⟩,vx,ln⟩:=q
 try dsimp only at ln
 let B1:Res:=.blk af 124 [.slice db p0.Race.Starts.length dg,.slice dd p0.Race.Splits.length dh,.slice de p0.Race.Clocks.length di,.slice df p0.Race.Readings.length dk,.map (some O),.slice aX p0.edges.length aY]
 refine yI (fun σ_ w_=>∃ (U_:PHeap) (b8:Nat) (an:Option Addr) (ao:Nat) (ap:Option Addr) (aq:Nat),σ_ 0=.pointer (some ⟨af,0,none⟩)/\σ_ 1=jV p1/\σ_ 2=.bool p2/\σ_ 6=.pointer (some ⟨b4,0,none⟩)/\σ_ 9=.pointer (some ⟨b8,0,none⟩)/\PHeap.Le U U_/\SW w [B1,.obj O (.map ab ac)] U U_ [.blk b4 118 B0,B1,.obj O (.map ab ac),.blk b8 118 [.slice an l9.length ao,.slice ap a9.length aq],.row an ao 3 1 (hH KL.encI l9),.row ap aq 3 1 (hH KL.encI a9)] w_) ?_ ?_
 refine bnK vx fun au dV vr=>bnK vr fun aI dW vt=>ZB zw [2,3,3,3,1,1,2,2,3,3,3,1,1,2,3,2,0] (fC1_5 (wIZ (.fx 0 (.fx 6 (.fl 12 (.fx 7 gCm (.fx 15 gCg .stop))) (.fx 7 gCy (.fx 15 gCz .stop))) (.fx 7 (.fx 0 gCy (.fx 15 gCs .stop)) (.fx 15 (.fx 0 gCz (.fx 7 gCs .stop)) .stop))))) (by kernel_rfl) ?_
 have bK:=tW.drew
 generalize hw_W74:({ W3 with drawn:=W3.drawn + 1 }:World)=wD at bK ⊢
 refine ZO (s:=.nil) (M:=fun σ_ w_=>∃ (U_:PHeap) (dE:Nat) (bN:Option Addr) (ca:Nat) (bO:Option Addr) (cb:Nat) (d5:Option Addr) (eF:Nat) (d6:Option Addr) (eG:Nat),σ_ 0=.pointer (some ⟨af,0,none⟩)/\σ_ 1=jV p1/\σ_ 2=.bool p2/\σ_ 6=.pointer (some ⟨b4,0,none⟩)/\σ_ 9=.pointer (some ⟨dE,0,none⟩)/\σ_ 16=.slice d5 ([1125899906842624].length) eF/\σ_ 17=.pointer (some ⟨af,0,none⟩)/\σ_ 18=.pointer (some ⟨af,0,none⟩)/\σ_ 19=.pointer (some ⟨af,4,none⟩)/\σ_ 20=.map (some O)/\σ_ 21=jV (↑(p0.number.length):Int)/\σ_ 22=.slice bN au.length ca/\σ_ 23=.slice d6 ([-1].length) eG/\σ_ 24=.pointer (some ⟨af,0,none⟩)/\σ_ 25=.pointer (some ⟨af,0,none⟩)/\σ_ 26=.pointer (some ⟨af,4,none⟩)/\σ_ 27=.map (some O)/\σ_ 28=jV (↑(p0.number.length):Int)/\σ_ 29=.slice bO aI.length cb/\σ_ 30=.agg #[.slice bN au.length ca,.slice bO aI.length cb]/\PHeap.Le U U_/\SW w [B1,.obj O (.map ab ac)] U U_ [.blk b4 118 B0,B1,.obj O (.map ab ac),.blk dE 118 [.slice bN au.length ca,.slice bO aI.length cb],.row bN ca 3 1 (hH KL.encI au),.row bO cb 3 1 (hH KL.encI aI)] w_/\Sl U_ 1 d5 eF [1125899906842624].length (hH KL.encI [1125899906842624])/\Sl U_ 1 d6 eG [-1].length (hH KL.encI [-1])) ?_ fun lF=>?_
 rintro xS wy ⟨mc,dE,bN,ca,bO,cb,d5,eF,d6,eG,oK,oO,oP,oQ,oS,wX,wY,wZ,w5,w6,w7,w8,w9,xa,xb,xc,xd,xe,xf,xg,vJ,tU,xj,xk⟩
 refine zc ?_
 cases vt
 exact zI ⟨Z,⟨mc,dE,bN,ca,bO,cb,oK,oO,oP,oQ,oS,vJ,tU⟩⟩
 refine ZO (s:=.fx 16 .nil .stop) (M:=fun σ_ w_=>∃ (U_:PHeap) (cI:Nat) (dm:Option Addr) (dG:Nat) (bo:Option Addr) (bA:Nat) (dn:Option Addr) (dH:Nat) (bp:Option Addr) (bB:Nat),σ_ 0=.pointer (some ⟨af,0,none⟩)/\σ_ 1=jV p1/\σ_ 2=.bool p2/\σ_ 6=.pointer (some ⟨b4,0,none⟩)/\σ_ 9=.pointer (some ⟨cI,0,none⟩)/\σ_ 16=.slice dm ([1125899906842624].length) dG/\σ_ 17=.pointer (some ⟨af,0,none⟩)/\σ_ 18=.pointer (some ⟨af,0,none⟩)/\σ_ 19=.pointer (some ⟨af,4,none⟩)/\σ_ 20=.map (some O)/\σ_ 21=jV (↑(p0.number.length):Int)/\σ_ 22=.slice bo au.length bA/\σ_ 23=.slice dn ([-1].length) dH/\σ_ 24=.pointer (some ⟨af,0,none⟩)/\σ_ 25=.pointer (some ⟨af,0,none⟩)/\σ_ 26=.pointer (some ⟨af,4,none⟩)/\σ_ 27=.map (some O)/\σ_ 28=jV (↑(p0.number.length):Int)/\σ_ 29=.slice bp aI.length bB/\σ_ 30=.agg #[.slice bo au.length bA,.slice bp aI.length bB]/\PHeap.Le U U_/\SW w [B1,.obj O (.map ab ac)] U U_ [.blk b4 118 B0,B1,.obj O (.map ab ac),.blk cI 118 B0,.row bo bA 3 1 (hH KL.encI au),.row bp bB 3 1 (hH KL.encI aI)] w_/\Sl U_ 1 dm dG [1125899906842624].length (hH KL.encI [1125899906842624])/\Sl U_ 1 dn dH [-1].length (hH KL.encI [-1])) ?_ fun vy=>?_
 rintro xT wz ⟨f8,cI,dm,dG,bo,bA,dn,dH,bp,bB,oU,oV,oW,oZ,iZ,o0,o3,o5,o6,o7,o8,o9,pd,pe,pf,pg,ph,pk,pm,i7,vK,tV,r6,r7⟩
 let B2:List Value:=[.slice bo au.length bA,.slice bp aI.length bB]
 refine za (j:=3) (vs:=B2) Z Z Z Z tV Z iZ i7 Z yA (zA Z) Z Z Z ?_
 intro mu tX
 have tY:SW w [B1,.obj O (.map ab ac)] U f8 [.blk b4 118 B0,B1,.obj O (.map ab ac),.blk cI 118 B2,.row bo bA 3 1 (hH KL.encI au),.row bp bB 3 1 (hH KL.encI aI)] mu:=tX
 exact lF _ _ ⟨f8,cI,bo,bA,bp,bB,dm,dG,dn,dH,oU,oV,oW,oZ,iZ,o0,o3,o5,o6,o7,o8,o9,pd,pe,pf,pg,ph,pk,pm,i7,vK,tY,r6,r7⟩
 refine ZO (s:=gBm) (M:=fun σ_ w_=>∃ (U_:PHeap) (cJ:Nat) (dp:Option Addr) (dI:Nat) (bq:Option Addr) (bC:Nat) (dq:Option Addr) (dJ:Nat) (br:Option Addr) (bD:Nat),σ_ 0=.pointer (some ⟨af,0,none⟩)/\σ_ 1=jV p1/\σ_ 2=.bool p2/\σ_ 6=.pointer (some ⟨b4,0,none⟩)/\σ_ 9=.pointer (some ⟨cJ,0,none⟩)/\σ_ 16=.slice dp ([1125899906842624].length) dI/\σ_ 17=.pointer (some ⟨af,0,none⟩)/\σ_ 18=.pointer (some ⟨af,0,none⟩)/\σ_ 19=.pointer (some ⟨af,4,none⟩)/\σ_ 20=.map (some O)/\σ_ 21=jV (↑(p0.number.length):Int)/\σ_ 22=.slice bq au.length bC/\σ_ 23=.slice dq ([-1].length) dJ/\σ_ 24=.pointer (some ⟨af,0,none⟩)/\σ_ 25=.pointer (some ⟨af,0,none⟩)/\σ_ 26=.pointer (some ⟨af,4,none⟩)/\σ_ 27=.map (some O)/\σ_ 28=jV (↑(p0.number.length):Int)/\σ_ 29=.slice br aI.length bD/\PHeap.Le U U_/\SW w [B1,.obj O (.map ab ac)] U U_ [.blk b4 118 B0,B1,.obj O (.map ab ac),.blk cJ 118 B0,.row bq bC 3 1 (hH KL.encI au),.row br bD 3 1 (hH KL.encI aI)] w_/\Sl U_ 1 dp dI [1125899906842624].length (hH KL.encI [1125899906842624])/\Sl U_ 1 dq dJ [-1].length (hH KL.encI [-1])) ?_ fun lG=>?_
 rintro xU wA ⟨f9,cJ,dp,dI,bq,bC,dq,dJ,br,bD,pn,po,pp,pq,i8,pu,py,pz,pB,pC,pE,i9,pF,pG,pH,pI,pJ,pK,ja,vL,tZ,r8,r9⟩
 let B3:List Value:=[.slice bq au.length bC,.slice br aI.length bD]
 refine oR Z (zl (pv:=[(0,.slice bq au.length bC),(1,.slice br aI.length bD)]) (z:=B0) (cs:=B3) Z (wAE i9 (wAE ja wAL)) Zg wIF Z Z) (za (j:=3) (vs:=B3) Z Z Z Z tZ Z i8 Z Z yA (zA Z) Z Z Z ?_)
 intro mw t4
 have t5:SW w [B1,.obj O (.map ab ac)] U f9 [.blk b4 118 B0,B1,.obj O (.map ab ac),.blk cJ 118 B3,.row bq bC 3 1 (hH KL.encI au),.row br bD 3 1 (hH KL.encI aI)] mw:=t4
 exact lF _ _ ⟨f9,cJ,bq,bC,br,bD,dp,dI,dq,dJ,pn,po,pp,pq,i8,pu,py,pz,pB,pC,pE,i9,pF,pG,pH,pI,pJ,pK,ja,Z,vL,t5,r8,r9⟩
 refine ZO (s:=gBy) (M:=fun σ_ w_=>∃ (U_:PHeap) (bV:Nat) (dr:Option Addr) (dK:Nat) (ct:Option Addr) (cM:Nat) (cu:Option Addr) (cN:Nat),σ_ 0=.pointer (some ⟨af,0,none⟩)/\σ_ 1=jV p1/\σ_ 2=.bool p2/\σ_ 6=.pointer (some ⟨b4,0,none⟩)/\σ_ 9=.pointer (some ⟨bV,0,none⟩)/\σ_ 16=.slice dr ([1125899906842624].length) dK/\σ_ 17=.pointer (some ⟨af,0,none⟩)/\σ_ 18=.pointer (some ⟨af,0,none⟩)/\σ_ 19=.pointer (some ⟨af,4,none⟩)/\σ_ 20=.map (some O)/\σ_ 21=jV (↑(p0.number.length):Int)/\σ_ 22=.slice ct au.length cM/\σ_ 23=.slice cu ([-1].length) cN/\σ_ 24=.pointer (some ⟨af,0,none⟩)/\σ_ 25=.pointer (some ⟨af,0,none⟩)/\σ_ 26=.pointer (some ⟨af,4,none⟩)/\σ_ 27=.map (some O)/\σ_ 28=jV (↑(p0.number.length):Int)/\PHeap.Le U U_/\SW w [B1,.obj O (.map ab ac)] U U_ [.blk b4 118 B0,B1,.obj O (.map ab ac),.blk bV 118 B0,.row ct cM 3 1 (hH KL.encI au),.row cu cN 3 1 (hH KL.encI [-1])] w_/\Sl U_ 1 dr dK [1125899906842624].length (hH KL.encI [1125899906842624])) ?_ fun dY=>?_
 rintro xV gL ⟨wb,bV,dr,dK,ct,cM,cu,cN,pM,pN,pO,pP,pQ,pR,pS,pT,pU,pV,pW,pX,jb,pY,pZ,p5,p6,jc,vM,t6,sa⟩
 have q:=t6.freezeR (k:=5) (n:=[-1].length) rfl (wAC (f:=KL.encI) (sz:=1) (fun _=>rfl) [-1]) (by decide)
 obtain ⟨ga,lQ,lv,t7⟩:=q
 let B4:Res:=.row ct cM 3 1 (hH KL.encI au)
 have t8:SW w [B1,.obj O (.map ab ac)] U ga [.blk b4 118 B0,B1,.obj O (.map ab ac),.blk bV 118 B0,B4] gL:=t7
 refine zG 0 Z Z Z Z (zH Z Z Tryz.call72 (zB jb (zB jc zN)) Z) t8 (fun hs=>wAk [-1] cu cN (↑(p0.number.length):Int) gL ga hs lv dW) (.inr Z) ?_
 rintro gb v4 xx mx fy t9 ⟨fH,ig,rfl,rfl⟩
 have ua:SW w [B1,.obj O (.map ab ac)] U gb [.row fH ig 3 1 (hH KL.encI aI),.blk b4 118 B0,B1,.obj O (.map ab ac),.blk bV 118 B0,B4] mx:=t9
 have sb:=sa.le lQ
 have sc:=sb.le fy
 have sd:=lv.le fy
 exact lG _ _ ⟨gb,bV,dr,dK,ct,cM,cu,cN,fH,ig,pM,pN,pO,pP,pQ,pR,pS,pT,pU,pV,pW,pX,jb,pY,pZ,p5,p6,jc,rfl,((vM.trans lQ).trans fy),(ua.pick [1,2,3,4,5,0] _ (by decide) rfl),sc,sd⟩
 refine ZO (s:=gBx) (M:=fun σ_ w_=>∃ (U_:PHeap) (dt:Option Addr) (dL:Nat) (bP:Option Addr) (cc:Nat) (du:Option Addr) (dM:Nat) (bQ:Option Addr) (cd:Nat),σ_ 0=.pointer (some ⟨af,0,none⟩)/\σ_ 1=jV p1/\σ_ 2=.bool p2/\σ_ 6=.pointer (some ⟨b4,0,none⟩)/\σ_ 16=.slice dt ([1125899906842624].length) dL/\σ_ 17=.pointer (some ⟨af,0,none⟩)/\σ_ 18=.pointer (some ⟨af,0,none⟩)/\σ_ 19=.pointer (some ⟨af,4,none⟩)/\σ_ 20=.map (some O)/\σ_ 21=jV (↑(p0.number.length):Int)/\σ_ 22=.slice bP au.length cc/\σ_ 23=.slice du ([-1].length) dM/\σ_ 24=.pointer (some ⟨af,0,none⟩)/\σ_ 25=.pointer (some ⟨af,0,none⟩)/\σ_ 26=.pointer (some ⟨af,4,none⟩)/\σ_ 27=.map (some O)/\σ_ 28=jV (↑(p0.number.length):Int)/\σ_ 29=.slice bQ aI.length cd/\PHeap.Le U U_/\SW w [B1,.obj O (.map ab ac)] U U_ [.blk b4 118 B0,B1,.obj O (.map ab ac),.row bP cc 3 1 (hH KL.encI au),.row bQ cd 3 1 (hH KL.encI aI)] w_/\Sl U_ 1 dt dL [1125899906842624].length (hH KL.encI [1125899906842624])/\Sl U_ 1 du dM [-1].length (hH KL.encI [-1])) ?_ fun lH=>?_
 rintro xW wB ⟨md,dt,dL,bP,cc,du,dM,bQ,cd,p7,p8,p9,qa,qb,qc,qd,qe,qf,qh,jd,qi,qj,qk,qm,qn,qo,je,vN,ub,se,sf⟩
 refine oR Z (zl (pv:=[(0,.slice bP au.length cc),(1,.slice bQ aI.length cd)]) (z:=B0) (cs:=[.slice bP au.length cc,.slice bQ aI.length cd]) Z (wAE jd (wAE je wAL)) Zg wIF Z Z) (zX (cs:=B0) Z Z Z Z Z Zg Z ub ?_)
 intro wC mH uc
 exact vy _ _ ⟨md,mH,dt,dL,bP,cc,du,dM,bQ,cd,p7,p8,p9,qa,rfl,qb,qc,qd,qe,qf,qh,jd,qi,qj,qk,qm,qn,qo,je,rfl,vN,(uc.pick [1,2,3,0,4,5] _ (by decide) rfl),se,sf⟩
 refine ZO (s:=.fl 12 gBy) (M:=fun σ_ w_=>∃ (U_:PHeap) (bW:Nat) (dv:Option Addr) (dN:Nat) (cw:Option Addr) (cO:Nat) (cx:Option Addr) (cP:Nat),σ_ 0=.pointer (some ⟨af,0,none⟩)/\σ_ 1=jV p1/\σ_ 2=.bool p2/\σ_ 6=.pointer (some ⟨b4,0,none⟩)/\σ_ 9=.pointer (some ⟨bW,0,none⟩)/\σ_ 16=.slice dv ([1125899906842624].length) dN/\σ_ 17=.pointer (some ⟨af,0,none⟩)/\σ_ 18=.pointer (some ⟨af,0,none⟩)/\σ_ 19=.pointer (some ⟨af,4,none⟩)/\σ_ 20=.map (some O)/\σ_ 21=jV (↑(p0.number.length):Int)/\σ_ 22=.slice cw au.length cO/\σ_ 23=.slice cx ([-1].length) cP/\σ_ 24=.pointer (some ⟨af,0,none⟩)/\σ_ 25=.pointer (some ⟨af,0,none⟩)/\σ_ 26=.pointer (some ⟨af,4,none⟩)/\σ_ 27=.map (some O)/\PHeap.Le U U_/\SW w [B1,.obj O (.map ab ac)] U U_ [.blk b4 118 B0,B1,.obj O (.map ab ac),.blk bW 118 B0,.row cw cO 3 1 (hH KL.encI au),.row cx cP 3 1 (hH KL.encI [-1])] w_/\Sl U_ 1 dv dN [1125899906842624].length (hH KL.encI [1125899906842624])) ?_ fun vz=>?_
 rintro xX gM ⟨wc,bW,dv,dN,cw,cO,cx,cP,qp,qq,qr,qs,qt,qu,qv,qw,qx,qy,qz,qA,jf,qB,qC,qD,jg,vO,k9,sg⟩
 refine oL Z (k9.lenM (j:=2) (mk:=wBH) (mv:=wBQ) Z Z jg (wBe ZN) cq) ?_
 have q:=k9.freezeR (k:=5) (n:=[-1].length) rfl (wAC (f:=KL.encI) (sz:=1) (fun _=>rfl) [-1]) (by decide)
 obtain ⟨ge,lR,lw,ud⟩:=q
 let B5:Res:=.row cw cO 3 1 (hH KL.encI au)
 have ue:SW w [B1,.obj O (.map ab ac)] U ge [.blk b4 118 B0,B1,.obj O (.map ab ac),.blk bW 118 B0,B5] gM:=ud
 refine zG 0 Z Z Z Z (zH Z Z Tryz.call72 (zB jf (zB Z zN)) Z) ue (fun hs=>wAk [-1] cx cP (↑(p0.number.length):Int) gM ge hs lw dW) (.inr Z) ?_
 rintro gf v5 xz my fz uf ⟨fI,ii,rfl,rfl⟩
 have ug:SW w [B1,.obj O (.map ab ac)] U gf [.row fI ii 3 1 (hH KL.encI aI),.blk b4 118 B0,B1,.obj O (.map ab ac),.blk bW 118 B0,B5] my:=uf
 have sh:=sg.le lR
 have sj:=sh.le fz
 have sk:=lw.le fz
 exact lG _ _ ⟨gf,bW,dv,dN,cw,cO,cx,cP,fI,ii,qp,qq,qr,qs,qt,qu,qv,qw,qx,qy,qz,qA,jf,qB,qC,qD,jg,rfl,rfl,((vO.trans lR).trans fz),(ug.pick [1,2,3,4,5,0] _ (by decide) rfl),sj,sk⟩
 refine ZO (s:=.fl 12 gCg) (M:=fun σ_ w_=>∃ (U_:PHeap) (cK:Nat) (dw:Option Addr) (dO:Nat) (cy:Option Addr) (cQ:Nat),σ_ 0=.pointer (some ⟨af,0,none⟩)/\σ_ 1=jV p1/\σ_ 2=.bool p2/\σ_ 6=.pointer (some ⟨b4,0,none⟩)/\σ_ 9=.pointer (some ⟨cK,0,none⟩)/\σ_ 16=.slice dw ([1125899906842624].length) dO/\σ_ 17=.pointer (some ⟨af,0,none⟩)/\σ_ 18=.pointer (some ⟨af,0,none⟩)/\σ_ 19=.pointer (some ⟨af,4,none⟩)/\σ_ 20=.map (some O)/\σ_ 21=jV (↑(p0.number.length):Int)/\σ_ 22=.slice cy au.length cQ/\σ_ 24=.pointer (some ⟨af,0,none⟩)/\σ_ 25=.pointer (some ⟨af,0,none⟩)/\σ_ 26=.pointer (some ⟨af,4,none⟩)/\σ_ 27=.map (some O)/\PHeap.Le U U_/\SW w [B1,.obj O (.map ab ac)] U U_ [.blk b4 118 B0,B1,.obj O (.map ab ac),.blk cK 118 B0,.row cy cQ 3 1 (hH KL.encI au)] w_/\Sl U_ 1 dw dO [1125899906842624].length (hH KL.encI [1125899906842624])) ?_ fun vA=>?_
 rintro xY wE ⟨gg,cK,dw,dO,cy,cQ,qE,qF,qG,qH,qI,qJ,qK,qL,qM,qN,qO,qP,qQ,qR,qS,jh,vP,lb,sl⟩
 refine oL Z (lb.lenM (j:=2) (mk:=wBH) (mv:=wBQ) Z Z jh (wBe ZN) cq) (zr (pv:=[(0,jV (-1))]) (zs:=[jV 0]) (cs:=[jV (-1)]) Z Z Z Z Z (wAE Z wAL) zD zC zt Z Z Z Z Z lb ?_)
 intro mz gX uh
 have ui:SW w [B1,.obj O (.map ab ac)] U gg [.row (some ⟨gX,0,none⟩) 1 3 1 (hH KL.encI [-1]),.blk b4 118 B0,B1,.obj O (.map ab ac),.blk cK 118 B0,.row cy cQ 3 1 (hH KL.encI au)] mz:=uh
 exact dY _ _ ⟨gg,cK,dw,dO,cy,cQ,(some ⟨gX,0,none⟩),1,qE,qF,qG,qH,qI,qJ,qK,qL,qM,qN,qO,qP,rfl,qQ,qR,qS,jh,rfl,vP,(ui.pick [1,2,3,4,5,0] _ (by decide) rfl),sl⟩
 refine ZO (s:=gCn) (M:=fun σ_ w_=>∃ (U_:PHeap) (bX:Nat) (cz:Option Addr) (cR:Nat) (cA:Option Addr) (cS:Nat),σ_ 0=.pointer (some ⟨af,0,none⟩)/\σ_ 1=jV p1/\σ_ 2=.bool p2/\σ_ 6=.pointer (some ⟨b4,0,none⟩)/\σ_ 9=.pointer (some ⟨bX,0,none⟩)/\σ_ 16=.slice cz ([1125899906842624].length) cR/\σ_ 17=.pointer (some ⟨af,0,none⟩)/\σ_ 18=.pointer (some ⟨af,0,none⟩)/\σ_ 19=.pointer (some ⟨af,4,none⟩)/\σ_ 20=.map (some O)/\σ_ 21=jV (↑(p0.number.length):Int)/\σ_ 23=.slice cA ([-1].length) cS/\σ_ 24=.pointer (some ⟨af,0,none⟩)/\σ_ 25=.pointer (some ⟨af,0,none⟩)/\σ_ 26=.pointer (some ⟨af,4,none⟩)/\σ_ 27=.map (some O)/\PHeap.Le U U_/\SW w [B1,.obj O (.map ab ac)] U U_ [.blk b4 118 B0,B1,.obj O (.map ab ac),.blk bX 118 B0,.row cz cR 3 1 (hH KL.encI [1125899906842624]),.row cA cS 3 1 (hH KL.encI [-1])] w_) ?_ fun fk=>?_
 rintro xZ gN ⟨wd,bX,cz,cR,cA,cS,qT,qU,qV,qW,qX,ji,qY,qZ,q5,q6,jj,q7,q8,q9,rc,rd,vQ,uj⟩
 have q:=uj.freezeR (k:=4) (n:=[1125899906842624].length) rfl (wAC (f:=KL.encI) (sz:=1) (fun _=>rfl) [1125899906842624]) (by decide)
 obtain ⟨gh,vR,lx,uk⟩:=q
 let B6:Res:=.row cA cS 3 1 (hH KL.encI [-1])
 have ul:SW w [B1,.obj O (.map ab ac)] U gh [.blk b4 118 B0,B1,.obj O (.map ab ac),.blk bX 118 B0,B6] gN:=uk
 refine zG 0 Z Z Z Z (zH Z Z Tryz.call72 (zB ji (zB jj zN)) Z) ul (fun hs=>wAk [1125899906842624] cz cR (↑(p0.number.length):Int) gN gh hs lx dV) (.inr Z) ?_
 rintro gi v9 xA mA lS um ⟨fJ,ij,rfl,rfl⟩
 have un:SW w [B1,.obj O (.map ab ac)] U gi [.row fJ ij 3 1 (hH KL.encI au),.blk b4 118 B0,B1,.obj O (.map ab ac),.blk bX 118 B0,B6] mA:=um
 have sn:=lx.le lS
 exact vz _ _ ⟨gi,bX,cz,cR,fJ,ij,cA,cS,qT,qU,qV,qW,qX,ji,qY,qZ,q5,q6,jj,rfl,q7,q8,q9,rc,rd,((vQ.trans vR).trans lS),(un.pick [1,2,3,4,0,5] _ (by decide) rfl),sn⟩
 refine ZO (s:=.fl 12 gCm) (M:=fun σ_ w_=>∃ (U_:PHeap) (cB:Option Addr) (cU:Nat) (bR:Option Addr) (cf:Nat) (bS:Option Addr) (cg:Nat),σ_ 0=.pointer (some ⟨af,0,none⟩)/\σ_ 1=jV p1/\σ_ 2=.bool p2/\σ_ 6=.pointer (some ⟨b4,0,none⟩)/\σ_ 16=.slice cB ([1125899906842624].length) cU/\σ_ 17=.pointer (some ⟨af,0,none⟩)/\σ_ 18=.pointer (some ⟨af,0,none⟩)/\σ_ 19=.pointer (some ⟨af,4,none⟩)/\σ_ 20=.map (some O)/\σ_ 21=jV (↑(p0.number.length):Int)/\σ_ 22=.slice bR au.length cf/\σ_ 23=.slice bS ([-1].length) cg/\σ_ 24=.pointer (some ⟨af,0,none⟩)/\σ_ 25=.pointer (some ⟨af,0,none⟩)/\σ_ 26=.pointer (some ⟨af,4,none⟩)/\σ_ 27=.map (some O)/\PHeap.Le U U_/\SW w [B1,.obj O (.map ab ac)] U U_ [.blk b4 118 B0,B1,.obj O (.map ab ac),.row bR cf 3 1 (hH KL.encI au),.row bS cg 3 1 (hH KL.encI [-1])] w_/\Sl U_ 1 cB cU [1125899906842624].length (hH KL.encI [1125899906842624])) ?_ fun vB=>?_
 rintro x8 gO ⟨me,cB,cU,bR,cf,bS,cg,jk,jl,jm,jo,jp,jq,jr,jt,ju,jv,jw,eQ,jx,jy,jz,eR,lT,e7,jP⟩
 refine oL Z (e7.lenM (j:=2) (mk:=wBH) (mv:=wBQ) Z Z eR (wBe ZN) cq) (zq ?_ ?_)
 have q:=e7.freezeR (k:=4) (n:=[-1].length) rfl (wAC (f:=KL.encI) (sz:=1) (fun _=>rfl) [-1]) (by decide)
 obtain ⟨gj,lU,ly,uo⟩:=q
 let B7:Res:=.row bR cf 3 1 (hH KL.encI au)
 have up:SW w [B1,.obj O (.map ab ac)] U gj [.blk b4 118 B0,B1,.obj O (.map ab ac),B7] gO:=uo
 refine zG 0 Z Z Z Z (zH Z Z Tryz.call72 (zB eQ (zB Z zN)) Z) up (fun hs=>wAk [-1] bS cg (↑(p0.number.length):Int) gO gj hs ly dW) (.inr Z) ?_
 rintro gk wa xB mB fA uq ⟨fK,ik,rfl,rfl⟩
 have ur:SW w [B1,.obj O (.map ab ac)] U gk [.row fK ik 3 1 (hH KL.encI aI),.blk b4 118 B0,B1,.obj O (.map ab ac),B7] mB:=uq
 have so:=jP.le lU
 have sq:=so.le fA
 have sr:=ly.le fA
 exact lH _ _ ⟨gk,cB,cU,bR,cf,bS,cg,fK,ik,jk,jl,jm,jo,jp,jq,jr,jt,ju,jv,jw,eQ,jx,jy,jz,eR,rfl,rfl,((lT.trans lU).trans fA),(ur.pick [1,2,3,4,0] _ (by decide) rfl),sq,sr⟩
 refine zX (cs:=B0) Z Z Z Z Z Zg Z e7 ?_
 intro wG mI ut
 exact dY _ _ ⟨me,mI,cB,cU,bR,cf,bS,cg,jk,jl,jm,jo,rfl,jp,jq,jr,jt,ju,jv,jw,eQ,jx,jy,jz,eR,rfl,lT,(ut.pick [1,2,3,0,4,5] _ (by decide) rfl),jP⟩
 refine ZO (s:=gCs) (M:=fun σ_ w_=>∃ (U_:PHeap) (cL:Nat) (cC:Option Addr) (cV:Nat),σ_ 0=.pointer (some ⟨af,0,none⟩)/\σ_ 1=jV p1/\σ_ 2=.bool p2/\σ_ 6=.pointer (some ⟨b4,0,none⟩)/\σ_ 9=.pointer (some ⟨cL,0,none⟩)/\σ_ 17=.pointer (some ⟨af,0,none⟩)/\σ_ 18=.pointer (some ⟨af,0,none⟩)/\σ_ 19=.pointer (some ⟨af,4,none⟩)/\σ_ 20=.map (some O)/\σ_ 21=jV (↑(p0.number.length):Int)/\σ_ 23=.slice cC ([-1].length) cV/\σ_ 24=.pointer (some ⟨af,0,none⟩)/\σ_ 25=.pointer (some ⟨af,0,none⟩)/\σ_ 26=.pointer (some ⟨af,4,none⟩)/\σ_ 27=.map (some O)/\PHeap.Le U U_/\SW w [B1,.obj O (.map ab ac)] U U_ [.blk b4 118 B0,B1,.obj O (.map ab ac),.blk cL 118 B0,.row cC cV 3 1 (hH KL.encI [-1])] w_) ?_ fun lI=>?_
 rintro yq wH ⟨gm,cL,cC,cV,re,rf,rh,ri,rj,rn,ro,rp,rq,rv,rx,ry,rz,rA,rB,vS,uu⟩
 refine zr (pv:=[(0,jV 1125899906842624)]) (zs:=[jV 0]) (cs:=[jV 1125899906842624]) Z Z Z Z Z (wAE Z wAL) zD zC zt Z Z Z Z Z uu ?_
 intro mC gY uv
 have uw:SW w [B1,.obj O (.map ab ac)] U gm [.row (some ⟨gY,0,none⟩) 1 3 1 (hH KL.encI [1125899906842624]),.blk b4 118 B0,B1,.obj O (.map ab ac),.blk cL 118 B0,.row cC cV 3 1 (hH KL.encI [-1])] mC:=uv
 exact fk _ _ ⟨gm,cL,(some ⟨gY,0,none⟩),1,cC,cV,re,rf,rh,ri,rj,rfl,rn,ro,rp,rq,rv,rx,ry,rz,rA,rB,vS,(uw.pick [1,2,3,4,0,5] _ (by decide) rfl)⟩
 refine ZO (s:=gCz) (M:=fun σ_ w_=>∃ (U_:PHeap) (bk:Nat) (bt:Option Addr) (bF:Nat),σ_ 0=.pointer (some ⟨af,0,none⟩)/\σ_ 1=jV p1/\σ_ 2=.bool p2/\σ_ 6=.pointer (some ⟨b4,0,none⟩)/\σ_ 9=.pointer (some ⟨bk,0,none⟩)/\σ_ 16=.slice bt ([1125899906842624].length) bF/\σ_ 17=.pointer (some ⟨af,0,none⟩)/\σ_ 18=.pointer (some ⟨af,0,none⟩)/\σ_ 19=.pointer (some ⟨af,4,none⟩)/\σ_ 20=.map (some O)/\σ_ 21=jV (↑(p0.number.length):Int)/\σ_ 24=.pointer (some ⟨af,0,none⟩)/\σ_ 25=.pointer (some ⟨af,0,none⟩)/\σ_ 26=.pointer (some ⟨af,4,none⟩)/\σ_ 27=.map (some O)/\PHeap.Le U U_/\SW w [B1,.obj O (.map ab ac)] U U_ [.blk b4 118 B0,B1,.obj O (.map ab ac),.blk bk 118 B0,.row bt bF 3 1 (hH KL.encI [1125899906842624])] w_) ?_ fun lJ=>?_
 rintro yr gP ⟨gp,bk,bt,bF,jA,jB,jC,jD,jE,eS,jF,jG,jH,jI,eT,jJ,jK,jL,jM,lV,lc⟩
 refine zq ?_ ?_
 have q:=lc.freezeR (k:=4) (n:=[1125899906842624].length) rfl (wAC (f:=KL.encI) (sz:=1) (fun _=>rfl) [1125899906842624]) (by decide)
 obtain ⟨gq,vT,lA,ux⟩:=q
 have uy:SW w [B1,.obj O (.map ab ac)] U gq [.blk b4 118 B0,B1,.obj O (.map ab ac),.blk bk 118 B0] gP:=ux
 refine zG 0 Z Z Z Z (zH Z Z Tryz.call72 (zB eS (zB eT zN)) Z) uy (fun hs=>wAk [1125899906842624] bt bF (↑(p0.number.length):Int) gP gq hs lA dV) (.inr Z) ?_
 rintro fT vX xt mf lK sv ⟨fD,g7,rfl,rfl⟩
 have sw:SW w [B1,.obj O (.map ab ac)] U fT [.row fD g7 3 1 (hH KL.encI au),.blk b4 118 B0,B1,.obj O (.map ab ac),.blk bk 118 B0] mf:=sv
 have rF:=lA.le lK
 exact vA _ _ ⟨fT,bk,bt,bF,fD,g7,jA,jB,jC,jD,jE,eS,jF,jG,jH,jI,eT,rfl,jJ,jK,jL,jM,((lV.trans vT).trans lK),(sw.pick [1,2,3,4,0] _ (by decide) rfl),rF⟩
 refine zr (pv:=[(0,jV (-1))]) (zs:=[jV 0]) (cs:=[jV (-1)]) Z Z Z Z Z (wAE Z wAL) zD zC zt Z Z Z Z Z lc ?_
 intro mg gQ sA
 have sB:SW w [B1,.obj O (.map ab ac)] U gp [.row (some ⟨gQ,0,none⟩) 1 3 1 (hH KL.encI [-1]),.blk b4 118 B0,B1,.obj O (.map ab ac),.blk bk 118 B0,.row bt bF 3 1 (hH KL.encI [1125899906842624])] mg:=sA
 exact fk _ _ ⟨gp,bk,bt,bF,(some ⟨gQ,0,none⟩),1,jA,jB,jC,jD,jE,eS,jF,jG,jH,jI,eT,rfl,jJ,jK,jL,jM,lV,(sB.pick [1,2,3,4,5,0] _ (by decide) rfl)⟩
 refine ZO (s:=gCy) (M:=fun σ_ w_=>∃ (U_:PHeap) (bL:Option Addr) (bY:Nat) (bM:Option Addr) (bZ:Nat),σ_ 0=.pointer (some ⟨af,0,none⟩)/\σ_ 1=jV p1/\σ_ 2=.bool p2/\σ_ 6=.pointer (some ⟨b4,0,none⟩)/\σ_ 16=.slice bL ([1125899906842624].length) bY/\σ_ 17=.pointer (some ⟨af,0,none⟩)/\σ_ 18=.pointer (some ⟨af,0,none⟩)/\σ_ 19=.pointer (some ⟨af,4,none⟩)/\σ_ 20=.map (some O)/\σ_ 21=jV (↑(p0.number.length):Int)/\σ_ 23=.slice bM ([-1].length) bZ/\σ_ 24=.pointer (some ⟨af,0,none⟩)/\σ_ 25=.pointer (some ⟨af,0,none⟩)/\σ_ 26=.pointer (some ⟨af,4,none⟩)/\σ_ 27=.map (some O)/\PHeap.Le U U_/\SW w [B1,.obj O (.map ab ac)] U U_ [.blk b4 118 B0,B1,.obj O (.map ab ac),.row bL bY 3 1 (hH KL.encI [1125899906842624]),.row bM bZ 3 1 (hH KL.encI [-1])] w_) ?_ fun lE=>?_
 rintro xH gt ⟨l5,bL,bY,bM,bZ,il,im,io,ip,eH,iq,ir,it,iu,eI,iv,iw,iz,iA,iB,lL,jX⟩
 refine zq ?_ ?_
 have q:=jX.freezeR (k:=3) (n:=[1125899906842624].length) rfl (wAC (f:=KL.encI) (sz:=1) (fun _=>rfl) [1125899906842624]) (by decide)
 obtain ⟨fU,vC,lq,sC⟩:=q
 let B8:Res:=.row bM bZ 3 1 (hH KL.encI [-1])
 have sD:SW w [B1,.obj O (.map ab ac)] U fU [.blk b4 118 B0,B1,.obj O (.map ab ac),B8] gt:=sC
 refine zG 0 Z Z Z Z (zH Z Z Tryz.call72 (zB eH (zB eI zN)) Z) sD (fun hs=>wAk [1125899906842624] bL bY (↑(p0.number.length):Int) gt fU hs lq dV) (.inr Z) ?_
 rintro fV vY xu mh lM sE ⟨fE,g8,rfl,rfl⟩
 have sF:SW w [B1,.obj O (.map ab ac)] U fV [.row fE g8 3 1 (hH KL.encI au),.blk b4 118 B0,B1,.obj O (.map ab ac),B8] mh:=sE
 have rG:=lq.le lM
 exact vB _ _ ⟨fV,bL,bY,fE,g8,bM,bZ,il,im,io,ip,eH,iq,ir,it,iu,eI,rfl,iv,iw,iz,iA,iB,((lL.trans vC).trans lM),(sF.pick [1,2,3,0,4] _ (by decide) rfl),rG⟩
 refine zX (cs:=B0) Z Z Z Z Z Zg Z jX ?_
 intro we mD sG
 exact fk _ _ ⟨l5,mD,bL,bY,bM,bZ,il,im,io,ip,rfl,eH,iq,ir,it,iu,eI,iv,iw,iz,iA,iB,lL,(sG.pick [1,2,3,0,4,5] _ (by decide) rfl)⟩
 refine oM Z Z (oR Z (Zc Z Z) (oR Z (zM Z Z ZE Z Zv) (oL Z (bK.ldB (j:=1) Z Z Z yC (v:=.map (some O)) Z) (oL Z (bK.lenM (j:=2) (mk:=wBH) (mv:=wBQ) Z Z Z (wBe ZN) cq) (oM Z Z (oR Z (Zc Z Z) (oR Z (zM Z Z ZE Z Zv) (oL Z (bK.ldB (j:=1) Z Z Z yC (v:=.map (some O)) Z) (zq ?_ ?_)))))))))
 refine zr (pv:=[(0,jV 1125899906842624)]) (zs:=[jV 0]) (cs:=[jV 1125899906842624]) Z Z Z Z Z (wAE Z wAL) zD zC zt Z Z Z Z Z bK ?_
 intro eg bz sH
 let B9:Res:=.row (some ⟨bz,0,none⟩) 1 3 1 (hH KL.encI [1125899906842624])
 have eV:SW w [B1,.obj O (.map ab ac)] U U [B9,.blk b4 118 B0,B1,.obj O (.map ab ac)] eg:=sH
 refine zq ?_ ?_
 have q:=eV.freezeR (k:=0) (n:=[1125899906842624].length) rfl (wAC (f:=KL.encI) (sz:=1) (fun _=>rfl) [1125899906842624]) (by decide)
 obtain ⟨fW,ft,dX,sI⟩:=q
 have sJ:SW w [B1,.obj O (.map ab ac)] U fW [.blk b4 118 B0,B1,.obj O (.map ab ac)] eg:=sI
 refine zG 0 Z Z Z Z (zH Z Z Tryz.call72 (zB Z (zB Z zN)) Z) sJ (fun hs=>wAk [1125899906842624] (some ⟨bz,0,none⟩) 1 (↑(p0.number.length):Int) eg fW hs dX dV) (.inr Z) ?_
 rintro cH vZ xv mi cr sK ⟨dl,dF,rfl,rfl⟩
 let cD:Res:=.row dl dF 3 1 (hH KL.encI au)
 have eW:SW w [B1,.obj O (.map ab ac)] U cH [cD,.blk b4 118 B0,B1,.obj O (.map ab ac)] mi:=sK
 refine oL Z (eW.lenM (j:=3) (mk:=wBH) (mv:=wBQ) Z Z Z (wBe ZN) cq) (zq ?_ ?_)
 refine zr (pv:=[(0,jV (-1))]) (zs:=[jV 0]) (cs:=[jV (-1)]) Z Z Z Z Z (wAE Z wAL) zD zC zt Z Z Z Z Z eW ?_
 intro eh dC sL
 have jY:SW w [B1,.obj O (.map ab ac)] U cH [.row (some ⟨dC,0,none⟩) 1 3 1 (hH KL.encI [-1]),cD,.blk b4 118 B0,B1,.obj O (.map ab ac)] eh:=sL
 refine zq ?_ ?_
 have q:=jY.freezeR (k:=0) (n:=[-1].length) rfl (wAC (f:=KL.encI) (sz:=1) (fun _=>rfl) [-1]) (by decide)
 obtain ⟨fY,lN,lu,sM⟩:=q
 have sN:SW w [B1,.obj O (.map ab ac)] U fY [cD,.blk b4 118 B0,B1,.obj O (.map ab ac)] eh:=sM
 refine zG 0 Z Z Z Z (zH Z Z Tryz.call72 (zB Z (zB Z zN)) Z) sN (fun hs=>wAk [-1] (some ⟨dC,0,none⟩) 1 (↑(p0.number.length):Int) eh fY hs lu dW) (.inr Z) ?_
 rintro fZ v3 xw mj fu sO ⟨fG,g9,rfl,rfl⟩
 have sP:SW w [B1,.obj O (.map ab ac)] U fZ [.row fG g9 3 1 (hH KL.encI aI),cD,.blk b4 118 B0,B1,.obj O (.map ab ac)] mj:=sO
 have rH:=dX.le cr
 have rI:=rH.le lN
 have rJ:=rI.le fu
 have rK:=lu.le fu
 exact lH _ _ ⟨fZ,(some ⟨bz,0,none⟩),1,dl,dF,(some ⟨dC,0,none⟩),1,fG,g9,rfl,rfl,rfl,rfl,rfl,rfl,rfl,rfl,rfl,rfl,rfl,rfl,rfl,rfl,rfl,rfl,rfl,rfl,(((ft.trans cr).trans lN).trans fu),(sP.pick [2,3,4,1,0] _ (by decide) rfl),rJ,rK⟩
 refine zX (cs:=B0) Z Z Z Z Z Zg Z jY ?_
 intro wg mE sQ
 have rL:=dX.le cr
 exact dY _ _ ⟨cH,mE,(some ⟨bz,0,none⟩),1,dl,dF,(some ⟨dC,0,none⟩),1,rfl,rfl,rfl,rfl,rfl,rfl,rfl,rfl,rfl,rfl,rfl,rfl,rfl,rfl,rfl,rfl,rfl,rfl,(ft.trans cr),(sQ.pick [3,4,5,0,2,1] _ (by decide) rfl),rL⟩
 refine zX (cs:=B0) Z Z Z Z Z Zg Z eW ?_
 intro wh gR sS
 refine zr (pv:=[(0,jV (-1))]) (zs:=[jV 0]) (cs:=[jV (-1)]) Z Z Z Z Z (wAE Z wAL) zD zC zt Z Z Z Z Z sS ?_
 intro ml gS sT
 have sU:SW w [B1,.obj O (.map ab ac)] U cH [.row (some ⟨gS,0,none⟩) 1 3 1 (hH KL.encI [-1]),.blk gR 118 B0,cD,.blk b4 118 B0,B1,.obj O (.map ab ac)] ml:=sT
 have rM:=dX.le cr
 exact dY _ _ ⟨cH,gR,(some ⟨bz,0,none⟩),1,dl,dF,(some ⟨gS,0,none⟩),1,rfl,rfl,rfl,rfl,rfl,rfl,rfl,rfl,rfl,rfl,rfl,rfl,rfl,rfl,rfl,rfl,rfl,rfl,(ft.trans cr),(sU.pick [3,4,5,1,2,0] _ (by decide) rfl),rM⟩
 refine zq ?_ ?_
 refine zr (pv:=[(0,jV (-1))]) (zs:=[jV 0]) (cs:=[jV (-1)]) Z Z Z Z Z (wAE Z wAL) zD zC zt Z Z Z Z Z eV ?_
 intro mm gT sV
 have sX:SW w [B1,.obj O (.map ab ac)] U U [.row (some ⟨gT,0,none⟩) 1 3 1 (hH KL.encI [-1]),B9,.blk b4 118 B0,B1,.obj O (.map ab ac)] mm:=sV
 exact lE _ _ ⟨U,(some ⟨bz,0,none⟩),1,(some ⟨gT,0,none⟩),1,rfl,rfl,rfl,rfl,rfl,rfl,rfl,rfl,rfl,rfl,rfl,rfl,rfl,rfl,rfl,(zL _),(sX.pick [2,3,4,1,0] _ (by decide) rfl)⟩
 refine zX (cs:=B0) Z Z Z Z Z Zg Z eV ?_
 intro wi mF sY
 exact lJ _ _ ⟨U,mF,(some ⟨bz,0,none⟩),1,rfl,rfl,rfl,rfl,rfl,rfl,rfl,rfl,rfl,rfl,rfl,rfl,rfl,rfl,rfl,(zL _),(sY.pick [2,3,4,0,1] _ (by decide) rfl)⟩
 refine zq ?_ ?_
 refine zr (pv:=[(0,jV (-1))]) (zs:=[jV 0]) (cs:=[jV (-1)]) Z Z Z Z Z (wAE Z wAL) zD zC zt Z Z Z Z Z bK ?_
 intro mn en sZ
 let fL:Res:=.row (some ⟨en,0,none⟩) 1 3 1 (hH KL.encI [-1])
 have jZ:SW w [B1,.obj O (.map ab ac)] U U [fL,.blk b4 118 B0,B1,.obj O (.map ab ac)] mn:=sZ
 refine zq ?_ ?_
 refine zr (pv:=[(0,jV 1125899906842624)]) (zs:=[jV 0]) (cs:=[jV 1125899906842624]) Z Z Z Z Z (wAE Z wAL) zD zC zt Z Z Z Z Z jZ ?_
 intro mo gU s6
 have s7:SW w [B1,.obj O (.map ab ac)] U U [.row (some ⟨gU,0,none⟩) 1 3 1 (hH KL.encI [1125899906842624]),fL,.blk b4 118 B0,B1,.obj O (.map ab ac)] mo:=s6
 exact lE _ _ ⟨U,(some ⟨gU,0,none⟩),1,(some ⟨en,0,none⟩),1,rfl,rfl,rfl,rfl,rfl,rfl,rfl,rfl,rfl,rfl,rfl,rfl,rfl,rfl,rfl,(zL _),(s7.pick [2,3,4,0,1] _ (by decide) rfl)⟩
 refine zX (cs:=B0) Z Z Z Z Z Zg Z jZ ?_
 intro wj mG s8
 exact lI _ _ ⟨U,mG,(some ⟨en,0,none⟩),1,rfl,rfl,rfl,rfl,rfl,rfl,rfl,rfl,rfl,rfl,rfl,rfl,rfl,rfl,rfl,(zL _),(s8.pick [2,3,4,0,1] _ (by decide) rfl)⟩
 refine zX (cs:=B0) Z Z Z Z Z Zg Z bK ?_
 intro wk dD j0
 refine zq ?_ ?_
 refine zr (pv:=[(0,jV 1125899906842624)]) (zs:=[jV 0]) (cs:=[jV 1125899906842624]) Z Z Z Z Z (wAE Z wAL) zD zC zt Z Z Z Z Z j0 ?_
 intro mp gV s9
 have tc:SW w [B1,.obj O (.map ab ac)] U U [.row (some ⟨gV,0,none⟩) 1 3 1 (hH KL.encI [1125899906842624]),.blk dD 118 B0,.blk b4 118 B0,B1,.obj O (.map ab ac)] mp:=s9
 exact lJ _ _ ⟨U,dD,(some ⟨gV,0,none⟩),1,rfl,rfl,rfl,rfl,rfl,rfl,rfl,rfl,rfl,rfl,rfl,rfl,rfl,rfl,rfl,(zL _),(tc.pick [2,3,4,1,0] _ (by decide) rfl)⟩
 refine zr (pv:=[(0,jV (-1))]) (zs:=[jV 0]) (cs:=[jV (-1)]) Z Z Z Z Z (wAE Z wAL) zD zC zt Z Z Z Z Z j0 ?_
 intro mq gW td
 have te:SW w [B1,.obj O (.map ab ac)] U U [.row (some ⟨gW,0,none⟩) 1 3 1 (hH KL.encI [-1]),.blk dD 118 B0,.blk b4 118 B0,B1,.obj O (.map ab ac)] mq:=td
 exact lI _ _ ⟨U,dD,(some ⟨gW,0,none⟩),1,rfl,rfl,rfl,rfl,rfl,rfl,rfl,rfl,rfl,rfl,rfl,rfl,rfl,rfl,rfl,(zL _),(te.pick [2,3,4,1,0] _ (by decide) rfl)⟩
 rintro xI wl ⟨f4,b8,an,ao,ap,aq,mN,mO,mP,mQ,iC,vD,j3⟩
 refine zJ (sR fL4 Z (oR Z (zM Z iC ZW Z ZC) (oL Z (j3.ldB (j:=3) Z Z Z ZH (v:=.slice an l9.length ao) Z) (oR Z (zx Z Z zD) (oM Z Z (eN (zY (bnK ln fun xF uC fj=>?_))))))))
 have q:=wBE uC
 obtain ⟨ff,uD⟩:=q
 replace ff:=zK ff
 let bu:Res:=.row ap aq 3 1 (hH KL.encI a9)
 refine CK.forN' (fun a7 aK σ_ w_=>∃ (U_:PHeap),σ_ 34=jV (↑a7:Int)/\σ_ 0=.pointer (some ⟨af,0,none⟩)/\σ_ 1=jV p1/\σ_ 2=.bool p2/\σ_ 6=.pointer (some ⟨b4,0,none⟩)/\σ_ 9=.pointer (some ⟨b8,0,none⟩)/\σ_ 33=jV (↑l9.length:Int)/\PHeap.Le f4 U_/\SW w [B1,.obj O (.map ab ac)] U U_ [.blk b4 118 B0,B1,.obj O (.map ab ac),.row an ao 3 1 (hH KL.encI aK),bu,.blk b8 118 [.slice an aK.length ao,.slice ap a9.length aq]] w_/\aK.length=l9.length) uD ?_ ?_ ?_
 exact ⟨f4,rfl,mN,mO,mP,mQ,iC,rfl,(zL _),(j3.pick [0,1,2,4,5,3] _ (by decide) rfl),rfl⟩
 rintro a7 aK xC xJ wm fb ⟨bx,c6,eJ,cW,eL,eM,cX,dP,fw,bJ,eU⟩ lB
 have ib:Hid ((↑a7:Int) < (↑l9.length:Int)):=zK (wAx fb)
 replace fb:=zK fb
 have e9:Hid (w64 ((↑a7:Int) + 1)=(↑(a7 + 1):Int)):=zK (by have h1:=ff.out;have h2:=ib.out;rw [wAW] <;> omega)
 refine sR fL1 Z (oR Z (zT Z c6 dP) (eN (zJ (cT Z ib (kN (zJ (zY (sR fL2 Z (oM Z c6 (oA Z Z (eN (sR fL7 Z (oM Z cW (oR Z (zT Z Z Z) (oM Z Z ?_)))))))))))))))
 by_cases aM:p1 < 0
 have lf:=lB;rw [if_pos aM] at lf;replace aM:=zK aM
 refine oT Z aM (oT Z aM (oT Z aM (oR Z (zQ Z (Za aM.out) Z) (eN (ZK Z (rR (wDu (.fx 4 .nil .stop)) Z (oR Z (zM Z cX ZW Z ZC) (oL Z (bJ.ldB (j:=5) Z Z Z ZH (v:=.slice an aK.length ao) Z) (oM Z Z (bnK lf fun _ dT u4=>?_))))))))))
 obtain ⟨wI,jQ⟩:=bJ.rowSome (j:=3) rfl (by rw [wAC (f:=KL.encI) (sz:=1) (fun _=>rfl) aK];have hz:=wAR dT;omega)
 refine oR Z (Zf Z Z jQ Z zD zC (wAR dT)) ?_
 have uH:=wAt (xs:=aK) (wAR dT)
 refine yb (j:=3) (vs:=[jV 0]) (cs':=hH KL.encI (nI aK a7 0)) rfl rfl rfl rfl bJ rfl jQ rfl rfl rfl zC (by rw [wAC (f:=KL.encI) (sz:=1) (fun _=>rfl)];have hz:=wAR dT;show _ + 1 <= _;first | omega | (simp only [nE];omega) | (simp only [nB,hJ,nA];omega)) rfl (wCK (sz:=1) (fo:=0) (fun _=>rfl) _ _ _ _ uH (by first | omega | (simp only [nE];omega) | (simp only [nB,hJ,nA];omega)) (zA rfl) rfl) rfl ?_
 intro gu tf
 let d7:Res:=.row an ao 3 1 (hH KL.encI (nI aK a7 0))
 have tg:SW w [B1,.obj O (.map ab ac)] U bx [.blk b4 118 B0,B1,.obj O (.map ab ac),d7,bu,.blk b8 118 [.slice an aK.length ao,.slice ap a9.length aq]] gu:=tf
 have th:SW w [B1,.obj O (.map ab ac)] U bx [.blk b4 118 B0,B1,.obj O (.map ab ac),d7,bu,.blk b8 118 [.slice an ((nI aK a7 0).length) ao,.slice ap a9.length aq]] gu:=by simpa only [B0,B1,bu,d7,nG] using tg
 refine zc (zk (zI (rR fL2 Z (oR Z (ZI (zV Z c6 Z) (congrArg (jV) e9.out)) (oM Z Z (zc ?_))))))
 cases u4
 exact zI ⟨Z,⟨bx,Z,eJ,cW,eL,eM,cX,dP,fw,th,(nG.trans eU)⟩⟩
 have lg:=lB;rw [if_neg aM] at lg;replace aM:=zK aM
 refine zU Z Z Z (wF Z aM) Z Z (zU Z Z Z (wF Z aM) Z cW (rU Z (wF Z aM) (yO Z Z Z) (oR Z (zd Z (ZA aM.out) Z) (eN (ifc lg ?_ ?_)))))
 intro eo u5
 refine cT Z eo (rR (wDu (.fx 4 .nil .stop)) Z (oR Z (zM Z cX ZW Z ZC) (oL Z (bJ.ldB (j:=5) Z Z Z ZH (v:=.slice an aK.length ao) Z) (oM Z Z (bnK u5 fun _ dU u6=>?_)))))
 obtain ⟨wJ,jR⟩:=bJ.rowSome (j:=3) rfl (by rw [wAC (f:=KL.encI) (sz:=1) (fun _=>rfl) aK];have hz:=wAR dU;omega)
 refine oR Z (Zf Z Z jR Z zD zC (wAR dU)) ?_
 have uI:=wAt (xs:=aK) (wAR dU)
 refine yb (j:=3) (vs:=[jV 0]) (cs':=hH KL.encI (nI aK a7 0)) rfl rfl rfl rfl bJ rfl jR rfl rfl rfl zC (by rw [wAC (f:=KL.encI) (sz:=1) (fun _=>rfl)];have hz:=wAR dU;show _ + 1 <= _;first | omega | (simp only [nE];omega) | (simp only [nB,hJ,nA];omega)) rfl (wCK (sz:=1) (fo:=0) (fun _=>rfl) _ _ _ _ uI (by first | omega | (simp only [nE];omega) | (simp only [nB,hJ,nA];omega)) (zA rfl) rfl) rfl ?_
 intro gv tj
 let d8:Res:=.row an ao 3 1 (hH KL.encI (nI aK a7 0))
 have tl:SW w [B1,.obj O (.map ab ac)] U bx [.blk b4 118 B0,B1,.obj O (.map ab ac),d8,bu,.blk b8 118 [.slice an aK.length ao,.slice ap a9.length aq]] gv:=tj
 have tn:SW w [B1,.obj O (.map ab ac)] U bx [.blk b4 118 B0,B1,.obj O (.map ab ac),d8,bu,.blk b8 118 [.slice an ((nI aK a7 0).length) ao,.slice ap a9.length aq]] gv:=by simpa only [B0,B1,bu,d8,nG] using tl
 refine zc (zk (zI (rR fL2 Z (oR Z (ZI (zV Z c6 Z) (congrArg (jV) e9.out)) (oM Z Z (zc ?_))))))
 cases u6
 exact zI ⟨Z,⟨bx,Z,eJ,cW,eL,eM,cX,dP,fw,tn,(nG.trans eU)⟩⟩
 intro eo u7
 refine cF Z eo (ZS (zk (zI (rR fL2 Z (oR Z (ZI (zV Z c6 Z) (congrArg (jV) e9.out)) (oM Z Z (zc ?_)))))))
 cases u7
 exact zI ⟨Z,⟨bx,Z,eJ,cW,eL,eM,cX,dP,fw,bJ,eU⟩⟩
 rintro xK wn ⟨f5,rC,iD,wR,mR,mS,mT,mU,vE,eX,rN⟩
 have mJ:Hid (¬ ((↑(((↑l9.length:Int):Int) - 0).toNat:Int) < (↑l9.length:Int))):=zK (wAd)
 refine sR fL1 Z (oR Z (zT Z rC mU) (eN (zJ (cF Z mJ (ZQ (zg (zg (ZJ (zI (sR fL1 Z (oA Z Z (eN (zJ (sR fL7 Z (oM Z iD (oR Z (Zc Z Z) (oR Z (zM Z Z ZE Z Zv) (oL Z (eX.ldB (j:=1) Z Z Z yC (v:=.map (some O)) Z) (oL Z (eX.lenM (j:=2) (mk:=wBH) (mv:=wBQ) Z Z Z (wBe ZN) cq) (oR Z (zV Z Z Z) (oM Z Z (eN (zY ?_)))))))))))))))))))))))
 have q:=wBs fj
 obtain ⟨xr,e8⟩:=q
 have q:=wBr e8
 obtain ⟨fg,uE⟩:=q
 replace fg:=zK fg
 refine yQ (fun a8 (dZ,d4,lW) σ_ w_=>∃ (U_:PHeap),σ_ 55=jV (↑a8:Int)/\σ_ 0=.pointer (some ⟨af,0,none⟩)/\σ_ 2=.bool p2/\σ_ 6=.pointer (some ⟨b4,0,none⟩)/\σ_ 9=.pointer (some ⟨b8,0,none⟩)/\σ_ 11=jV lW/\σ_ 54=jV (w64 ((↑(p0.number.length):Int) + 1))/\PHeap.Le f5 U_/\SW w [B1,.obj O (.map ab ac)] U U_ [.blk b4 118 B0,B1,.obj O (.map ab ac),.row an ao 3 1 (hH KL.encI dZ),.row ap aq 3 1 (hH KL.encI d4),.blk b8 118 [.slice an dZ.length ao,.slice ap d4.length aq]] w_/\dZ.length=l9.length/\d4.length=a9.length) uE ?_ ?_ ?_
 exact ⟨f5,Z,iD,mR,mS,mT,Z,Z,(zL _),eX,rN,Z⟩
 rintro a8 ⟨dZ,d4,lW⟩ xD xL wo fc ⟨f6,jN,iE,mV,mW,mX,wS,iF,lO,j4,rO,rP⟩ lC uA
 try dsimp only at lC
 have ic:Hid ((↑a8:Int) < (w64 ((↑(p0.number.length):Int) + 1))):=zK (wAx fc)
 replace fc:=zK fc
 have uZ:Hid (w64 ((↑a8:Int) + 1)=(↑(a8 + 1):Int)):=zK (by have h1:=fg.out;have h2:=ic.out;rw [wAW] <;> omega)
 refine sR fL1 Z (oR Z (zT Z jN iF) (eN (zJ (cT Z ic (kN (zJ (zY (sR fL1 Z (oA Z Z (eN (zJ (sR fL6 Z (oM Z iE (oR Z (Zc Z Z) (oR Z (zM Z Z ZE Z yk) (oL Z (j4.ldB (j:=1) Z Z Z Tryz.isAgg122 (v:=.slice aX p0.edges.length aY) Z) (oR Z (zx Z Z Tryz.runUnderlying122) (oM Z Z (eN (zY ?_))))))))))))))))))))
 have q:=bnd lC
 obtain ⟨⟨lY,lZ,xG⟩,uF,lh⟩:=q
 try dsimp only at lh
 have q:=wBE uF
 obtain ⟨fh,uG⟩:=q
 replace fh:=zK fh
 refine CK.forN' (fun aG (am,ay,lX) σ_ w_=>∃ (U_:PHeap),σ_ 62=jV (↑aG:Int)/\σ_ 0=.pointer (some ⟨af,0,none⟩)/\σ_ 2=.bool p2/\σ_ 6=.pointer (some ⟨b4,0,none⟩)/\σ_ 9=.pointer (some ⟨b8,0,none⟩)/\σ_ 11=jV lX/\σ_ 54=jV (w64 ((↑(p0.number.length):Int) + 1))/\σ_ 55=jV (↑a8:Int)/\σ_ 60=.slice aX p0.edges.length aY/\σ_ 61=jV (↑p0.edges.length:Int)/\PHeap.Le f6 U_/\SW w [B1,.obj O (.map ab ac)] U U_ [.blk b4 118 B0,B1,.obj O (.map ab ac),.row an ao 3 1 (hH KL.encI am),.row ap aq 3 1 (hH KL.encI ay),.blk b8 118 [.slice an am.length ao,.slice ap ay.length aq]] w_/\am.length=l9.length/\ay.length=a9.length) uG ?_ ?_ ?_
 exact ⟨f6,Z,iE,mV,mW,mX,Z,iF,jN,Z,Z,(zL _),j4,rO,rP⟩
 rintro aG ⟨am,ay,lX⟩ xE xM wp fd ⟨aE,bh,ci,bG,cj,aU,dQ,cm,cn,bH,bI,lP,j5,co,cp⟩ lD
 try dsimp only at lD
 have ie:Hid ((↑aG:Int) < (↑p0.edges.length:Int)):=zK (wAx fd)
 replace fd:=zK fd
 have u3:Hid (w64 ((↑aG:Int) + 1)=(↑(aG + 1):Int)):=zK (by have h1:=fh.out;have h2:=ie.out;rw [wAW] <;> omega)
 refine sR fL1 Z (oR Z (zT Z bh bI) (eN (zJ (cT Z ie (kN ?_)))))
 have q:=bnd lD
 obtain ⟨⟨fm,fq,vV⟩,vu,li⟩:=q
 try dsimp only at li
 refine yI (fun σ_ w_=>∃ (U_:PHeap),σ_ 0=.pointer (some ⟨af,0,none⟩)/\σ_ 2=.bool p2/\σ_ 6=.pointer (some ⟨b4,0,none⟩)/\σ_ 9=.pointer (some ⟨b8,0,none⟩)/\σ_ 11=jV vV/\σ_ 54=jV (w64 ((↑(p0.number.length):Int) + 1))/\σ_ 55=jV (↑a8:Int)/\σ_ 60=.slice aX p0.edges.length aY/\σ_ 61=jV (↑p0.edges.length:Int)/\σ_ 62=jV (↑aG:Int)/\PHeap.Le aE U_/\SW w [B1,.obj O (.map ab ac)] U U_ [.blk b4 118 B0,B1,.obj O (.map ab ac),.row an ao 3 1 (hH KL.encI fm),.row ap aq 3 1 (hH KL.encI fq),.blk b8 118 [.slice an fm.length ao,.slice ap fq.length aq]] w_/\fm.length=l9.length/\fq.length=a9.length) ?_ ?_
 refine zY (sR (wDp (.fx 3 (.fl 4 (.fx 5 .nil .stop)) .stop)) Z (oM Z bh (bnK vu fun aj jO u9=>?_)))
 have rQ:=uz.le vD
 have rS:=rQ.le vE
 have rT:=rS.le lO
 have rV:=rT.le lP
 have q:=rV.el (fun _=>rfl) (wAc jO)
 obtain ⟨wK,xq,ss,su⟩:=q
 refine oR Z (Zf Z bH ss bh Tryz.runUnderlying122 Tryz.sizeOf151 (wCG jO)) (oL Z (j5.ldCA (f:=0) su Z Z Tryz.isAgg151 Tryz.sizeOf151 (us:=[jV aj.step.Kind,jV aj.step.Skier,jV aj.step.Index,.bool aj.step.Up,jV aj.from_,jV aj.to_,jV aj.count]) Z Z) (zX (cs:=[jV 0,jV 0,jV 0,.bool false,jV 0,jV 0,jV 0]) Z Z Z Z Z Tryz.zeroValue151 Z j5 ?_))
 intro wq aJ tp
 refine oA Z Z ?_
 let az:List Value:=[jV aj.step.Kind,jV aj.step.Skier,jV aj.step.Index,.bool aj.step.Up,jV aj.from_,jV aj.to_,jV aj.count]
 refine za (j:=0) (vs:=az) Z Z Z Z tp Z Z Z Z Tryz.sizeOf151 (zA Z) Z Z Z ?_
 intro ej tq
 let aP:Res:=.row ap aq 3 1 (hH KL.encI ay)
 let bg:Res:=.blk b8 118 [.slice an am.length ao,.slice ap ay.length aq]
 have tr:SW w [B1,.obj O (.map ab ac)] U aE [.blk aJ 151 az,.blk b4 118 B0,B1,.obj O (.map ab ac),.row an ao 3 1 (hH KL.encI am),aP,bg] ej:=tq
 refine eN (zJ (ZB zw [3,1,3,1,3,3] fL6 (by kernel_rfl) ?_))
 have da:=tr.drew
 generalize hw_W1431:({ ej with drawn:=ej.drawn + 1 }:World)=dB at da ⊢
 refine oR Z (zM Z Z yg Z zC) (oL Z (da.ldB (j:=0) Z Z Z zF (v:=jV aj.from_) Z) (oR Z (zM Z Z yg Z zC) (oL Z (da.ldB (j:=0) Z Z Z zF (v:=jV aj.to_) Z) (oA Z Z (oA Z Z (eN (zJ (sR fL1 Z (oM Z bG (eN (ifc u9 ?_ ?_)))))))))))
 intro ez va
 refine ZK (congrArg nK ez.out) (rR fL4 rfl (zU rfl rfl rfl rfl rfl rfl (zU rfl rfl rfl rfl rfl rfl (Zy rfl rfl rfl rfl rfl rfl (Zy rfl rfl rfl rfl rfl rfl (eN (zJ (ZB zw [3,1,3,3,1,3,3,3,1,3,3,1,3,1,3,3,1,3,3,1,3,3] fL22 (by kernel_rfl) ?_))))))))
 have aV:=da.drew
 generalize hw_W1435:({ dB with drawn:=dB.drawn + 1 }:World)=gw at aV ⊢
 refine oR Z (zM Z aU ZW Z ZC) (oL Z (aV.ldB (j:=6) Z Z Z ZH (v:=.slice an am.length ao) Z) (oM Z Z (bnK va fun _ bb vb=>?_)))
 obtain ⟨wL,aZ⟩:=aV.rowSome (j:=4) rfl (by rw [wAC (f:=KL.encI) (sz:=1) (fun _=>rfl) am];have hz:=wAR bb;omega)
 refine oR Z (ZM Z Z aZ Z zD zC (wAr bb) (wAs bb)) ?_
 have uJ:=wAt (xs:=am) (wAR bb)
 refine ZD rfl rfl rfl rfl (aV.ldR (j:=4) rfl aZ rfl rfl zF (wAT (sz:=1) (fun _=>rfl) _ _ 0 _ uJ (by first | omega | rfl | simp) rfl)) rfl (ze rfl rfl rfl rfl (fun _=>zT rfl rfl rfl) (zU rfl rfl rfl rfl rfl rfl (ifc vb ?_ ?_)))
 intro av vc
 refine rU Z (wT Z av) (zM Z aU ZW Z ZC) (ZD Z Z Z (wT Z av) (aV.ldB (j:=6) Z Z Z ZH (v:=.slice an am.length ao) Z) Z (zU Z Z Z (wT Z av) Z Z (rU Z (wT Z av) (ZM Z Z aZ Z zD zC (wAr bb) (wAs bb)) ?_)))
 have uK:=wAt (xs:=am) (wAR bb)
 refine ZD rfl rfl rfl (zO rfl rfl (Za av.out)) (aV.ldR (j:=4) rfl aZ rfl rfl zF (wAT (sz:=1) (fun _=>rfl) _ _ 0 _ uK (by first | omega | rfl | simp) rfl)) rfl (ze rfl rfl rfl (zO rfl rfl (Za av.out)) (fun _=>zM rfl rfl yg rfl zC) (ZD rfl rfl rfl (zO rfl rfl (Za av.out)) (aV.ldB (j:=0) rfl rfl rfl zF (v:=jV aj.count) rfl) rfl (ze rfl rfl rfl (zO rfl rfl (Za av.out)) (fun _=>zV rfl rfl rfl) (ze rfl rfl rfl (zO rfl rfl (Za av.out)) (fun _=>zM rfl aU ZW rfl ZC) (ZD rfl rfl rfl (zO rfl rfl (Za av.out)) (aV.ldB (j:=6) rfl rfl rfl ZH (v:=.slice an am.length ao) rfl) rfl (zU rfl rfl rfl (zO rfl rfl (Za av.out)) rfl rfl (bnK vc fun _ bi vd=>ze rfl rfl rfl (zO rfl rfl (Za av.out)) (fun _=>ZM rfl rfl aZ rfl zD zC (wAr bi) (wAs bi)) ?_)))))))
 have uL:=wAt (xs:=am) (wAR bi)
 refine ZD rfl rfl rfl (zO rfl rfl (Za av.out)) (aV.ldR (j:=4) rfl aZ rfl rfl zF (wAT (sz:=1) (fun _=>rfl) _ _ 0 _ uL (by first | omega | rfl | simp) rfl)) rfl (ze rfl rfl rfl (zO rfl rfl (Za av.out)) (fun _=>zT rfl rfl rfl) (ze rfl rfl rfl rfl (fun _=>zQ rfl (Za av.out) rfl) (eN (ifc vd ?_ ?_))))
 intro eA ve
 refine cT Z eA ?_
 have q:=bnd ve
 obtain ⟨⟨⟩,vv,lj⟩:=q
 try dsimp only at lj
 let aQ:Res:=.row an ao 3 1 (hH KL.encI (nI am aj.from_.toNat (w64 ((gd am aj.to_.toNat) + aj.count))))
 let cE:Res:=.blk b8 118 [.slice an ((nI am aj.from_.toNat (w64 ((gd am aj.to_.toNat) + aj.count))).length) ao,.slice ap ((nI ay aj.from_.toNat (↑aG:Int)).length) aq]
 let bv:Res:=.row ap aq 3 1 (hH KL.encI (nI ay aj.from_.toNat (↑aG:Int)))
 refine yI (fun σ_ w_=>∃ (U_:PHeap),σ_ 0=.pointer (some ⟨af,0,none⟩)/\σ_ 2=.bool p2/\σ_ 6=.pointer (some ⟨b4,0,none⟩)/\σ_ 9=.pointer (some ⟨b8,0,none⟩)/\σ_ 15=jV aj.from_/\σ_ 54=jV (w64 ((↑(p0.number.length):Int) + 1))/\σ_ 55=jV (↑a8:Int)/\σ_ 60=.slice aX p0.edges.length aY/\σ_ 61=jV (↑p0.edges.length:Int)/\σ_ 62=jV (↑aG:Int)/\PHeap.Le aE U_/\SW w [B1,.obj O (.map ab ac)] U U_ [.blk aJ 151 az,.blk b4 118 B0,B1,.obj O (.map ab ac),aQ,bv,cE] w_) ?_ ?_
 refine CK.fresh fun aS aN=>?_
 have iG:aS 0=.pointer (some ⟨af,0,none⟩):=(aN 0).trans ci
 have iH:aS 2=.bool p2:=(aN 2).trans bG
 have iI:aS 6=.pointer (some ⟨b4,0,none⟩):=(aN 6).trans cj
 have cY:aS 9=.pointer (some ⟨b8,0,none⟩):=(aN 9).trans aU
 have mY:aS 12=jV (↑aG:Int):=(aN 12).trans rfl
 have mZ:aS 13=.pointer (some ⟨aJ,0,none⟩):=(aN 13).trans rfl
 have m2:aS 14=jV aj.to_:=(aN 14).trans rfl
 have dR:aS 15=jV aj.from_:=(aN 15).trans rfl
 have iJ:aS 54=jV (w64 ((↑(p0.number.length):Int) + 1)):=(aN 54).trans cm
 have iK:aS 55=jV (↑a8:Int):=(aN 55).trans cn
 have iL:aS 60=.slice aX p0.edges.length aY:=(aN 60).trans bH
 have iM:aS 61=jV (↑p0.edges.length:Int):=(aN 61).trans bI
 have iN:aS 62=jV (↑aG:Int):=(aN 62).trans bh
 clear aN
 refine bnK vv fun _ bc lk=>ZB zw [3,1,3,3,2,3,3,1,3,3,1,3,1,3,3,3,0,3,0] (wDu (wMK gCo)) (by kernel_rfl) ?_
 have bm:=aV.drew
 generalize hw_W1484:({ gw with drawn:=gw.drawn + 1 }:World)=wr at bm ⊢
 refine oR Z (zM Z cY ZW Z ZC) (oL Z (bm.ldB (j:=6) Z Z Z ZH (v:=.slice an am.length ao) Z) (oM Z dR (oR Z (zM Z cY ZW Z ZC) (oM Z dR (oR Z (zM Z cY ZW Z ZC) (oL Z (bm.ldB (j:=6) Z Z Z ZH (v:=.slice an am.length ao) Z) (oM Z m2 (oR Z (ZM Z Z aZ Z zD zC (wAr bb) (wAs bb)) ?_))))))))
 have uM:=wAt (xs:=am) (wAR bb)
 refine ZD rfl rfl rfl rfl (bm.ldR (j:=4) rfl aZ rfl rfl zF (wAT (sz:=1) (fun _=>rfl) _ _ 0 _ uM (by first | omega | rfl | simp) rfl)) rfl (ze rfl rfl rfl rfl (fun _=>zM rfl mZ yg rfl zC) (ZD rfl rfl rfl rfl (bm.ldB (j:=0) rfl rfl rfl zF (v:=jV aj.count) rfl) rfl (ze rfl rfl rfl rfl (fun _=>zV rfl rfl rfl) (zU rfl rfl rfl rfl rfl mY (ze rfl rfl rfl rfl (fun _=>ZM rfl rfl aZ rfl zD zC (wAr bi) (wAs bi)) (zq ?_ ?_))))))
 refine ZL Z Z Z Z (bm.ldB (j:=6) Z Z Z ZH (v:=.slice ap ay.length aq) Z) ?_
 have uN:=wAt (xs:=am) (wAR bi)
 refine yb (j:=4) (vs:=[jV (w64 ((gd am aj.to_.toNat) + aj.count))]) (cs':=hH KL.encI (nI am aj.from_.toNat (w64 ((gd am aj.to_.toNat) + aj.count)))) rfl rfl rfl rfl bm rfl aZ rfl rfl rfl zC (by rw [wAC (f:=KL.encI) (sz:=1) (fun _=>rfl)];have hz:=wAR bi;show _ + 1 <= _;first | omega | (simp only [nE];omega) | (simp only [nB,hJ,nA];omega)) rfl (wCK (sz:=1) (fo:=0) (fun _=>rfl) _ _ _ _ uN (by first | omega | (simp only [nE];omega) | (simp only [nB,hJ,nA];omega)) (zA rfl) rfl) rfl ?_
 intro gz tt
 have tu:SW w [B1,.obj O (.map ab ac)] U aE [.blk aJ 151 az,.blk b4 118 B0,B1,.obj O (.map ab ac),aQ,aP,bg] gz:=tt
 let dx:Res:=.blk b8 118 [.slice an ((nI am aj.from_.toNat (w64 ((gd am aj.to_.toNat) + aj.count))).length) ao,.slice ap ay.length aq]
 have j6:SW w [B1,.obj O (.map ab ac)] U aE [.blk aJ 151 az,.blk b4 118 B0,B1,.obj O (.map ab ac),aQ,aP,dx] gz:=by simpa only [B0,B1,az,aP,bg,aQ,dx,nG] using tu
 obtain ⟨wM,jS⟩:=j6.rowSome (j:=5) rfl (by rw [wAC (f:=KL.encI) (sz:=1) (fun _=>rfl) ay];have hz:=wAR bc;omega)
 refine oR Z (ZM Z Z jS Z zD zC (wAr bc) (wAs bc)) ?_
 have uO:=wAt (xs:=ay) (wAR bc)
 refine yb (j:=5) (vs:=[jV (↑aG:Int)]) (cs':=hH KL.encI (nI ay aj.from_.toNat (↑aG:Int))) rfl rfl rfl rfl j6 rfl jS rfl rfl rfl zC (by rw [wAC (f:=KL.encI) (sz:=1) (fun _=>rfl)];have hz:=wAR bc;show _ + 1 <= _;first | omega | (simp only [nE];omega) | (simp only [nB,hJ,nA];omega)) rfl (wCK (sz:=1) (fo:=0) (fun _=>rfl) _ _ _ _ uO (by first | omega | (simp only [nE];omega) | (simp only [nB,hJ,nA];omega)) (zA rfl) rfl) rfl ?_
 intro gA tv
 have tw:SW w [B1,.obj O (.map ab ac)] U aE [.blk aJ 151 az,.blk b4 118 B0,B1,.obj O (.map ab ac),aQ,bv,dx] gA:=tv
 have tx:SW w [B1,.obj O (.map ab ac)] U aE [.blk aJ 151 az,.blk b4 118 B0,B1,.obj O (.map ab ac),aQ,bv,cE] gA:=by simpa only [B0,B1,az,aQ,cE,bv,dx,nG] using tw
 refine zc ?_
 cases lk
 exact zI ⟨Z,⟨aE,iG,iH,iI,cY,dR,iJ,iK,iL,iM,iN,(zL _),tx⟩⟩
 have uP:=wAt (xs:=am) (wAR bi)
 refine yb (j:=4) (vs:=[jV (w64 ((gd am aj.to_.toNat) + aj.count))]) (cs':=hH KL.encI (nI am aj.from_.toNat (w64 ((gd am aj.to_.toNat) + aj.count)))) rfl rfl rfl rfl bm rfl aZ rfl rfl rfl zC (by rw [wAC (f:=KL.encI) (sz:=1) (fun _=>rfl)];have hz:=wAR bi;show _ + 1 <= _;first | omega | (simp only [nE];omega) | (simp only [nB,hJ,nA];omega)) rfl (wCK (sz:=1) (fo:=0) (fun _=>rfl) _ _ _ _ uP (by first | omega | (simp only [nE];omega) | (simp only [nB,hJ,nA];omega)) (zA rfl) rfl) rfl ?_
 intro gB tz
 have tB:SW w [B1,.obj O (.map ab ac)] U aE [.blk aJ 151 az,.blk b4 118 B0,B1,.obj O (.map ab ac),aQ,aP,bg] gB:=tz
 let dy:Res:=.blk b8 118 [.slice an ((nI am aj.from_.toNat (w64 ((gd am aj.to_.toNat) + aj.count))).length) ao,.slice ap ay.length aq]
 have eY:SW w [B1,.obj O (.map ab ac)] U aE [.blk aJ 151 az,.blk b4 118 B0,B1,.obj O (.map ab ac),aQ,aP,dy] gB:=by simpa only [B0,B1,az,aP,bg,aQ,dy,nG] using tB
 refine ZL Z Z Z Z (eY.ldB (j:=6) Z Z Z ZH (v:=.slice ap ay.length aq) Z) ?_
 obtain ⟨wN,jT⟩:=eY.rowSome (j:=5) rfl (by rw [wAC (f:=KL.encI) (sz:=1) (fun _=>rfl) ay];have hz:=wAR bc;omega)
 refine oR Z (ZM Z Z jT Z zD zC (wAr bc) (wAs bc)) ?_
 have uQ:=wAt (xs:=ay) (wAR bc)
 refine yb (j:=5) (vs:=[jV (↑aG:Int)]) (cs':=hH KL.encI (nI ay aj.from_.toNat (↑aG:Int))) rfl rfl rfl rfl eY rfl jT rfl rfl rfl zC (by rw [wAC (f:=KL.encI) (sz:=1) (fun _=>rfl)];have hz:=wAR bc;show _ + 1 <= _;first | omega | (simp only [nE];omega) | (simp only [nB,hJ,nA];omega)) rfl (wCK (sz:=1) (fo:=0) (fun _=>rfl) _ _ _ _ uQ (by first | omega | (simp only [nE];omega) | (simp only [nB,hJ,nA];omega)) (zA rfl) rfl) rfl ?_
 intro gC tC
 have tD:SW w [B1,.obj O (.map ab ac)] U aE [.blk aJ 151 az,.blk b4 118 B0,B1,.obj O (.map ab ac),aQ,bv,dy] gC:=tC
 have tE:SW w [B1,.obj O (.map ab ac)] U aE [.blk aJ 151 az,.blk b4 118 B0,B1,.obj O (.map ab ac),aQ,bv,cE] gC:=by simpa only [B0,B1,az,aQ,cE,bv,dy,nG] using tD
 refine zc ?_
 cases lk
 exact zI ⟨Z,⟨aE,iG,iH,iI,cY,dR,iJ,iK,iL,iM,iN,(zL _),tE⟩⟩
 rintro xN ws ⟨l6,m3,m4,m5,m6,m7,m8,m9,n2,n4,n5,vF,tF⟩
 refine rR fL2 Z (oM Z m7 (oA Z Z (zc (zk ?_))))
 cases lj
 exact zI ⟨rfl,⟨l6,m3,m4,m5,m6,rfl,m8,m9,n2,n4,n5,vF,(tF.pick [1,2,3,4,5,6] _ (by decide) rfl),(nG.trans co),(nG.trans cp)⟩⟩
 intro eA vf
 refine cF Z eA (ZS (zk ?_))
 cases vf
 exact zI ⟨rfl,⟨aE,ci,bG,cj,aU,dQ,cm,cn,bH,bI,bh,(zL _),(aV.pick [1,2,3,4,5,6] _ (by decide) rfl),co,cp⟩⟩
 intro av vg
 refine oF Z av (oF Z av (oF Z av (oF Z av (oF Z av (oF Z av (oF Z av (oF Z av (oF Z av (oF Z av (oF Z av (oF Z av (oF Z av (oF Z av (oR Z (zd Z (ZA av.out) Z) (eN (zj Z (ZS (zk ?_))))))))))))))))))
 cases vg
 exact zI ⟨rfl,⟨aE,ci,bG,cj,aU,dQ,cm,cn,bH,bI,bh,(zL _),(aV.pick [1,2,3,4,5,6] _ (by decide) rfl),co,cp⟩⟩
 intro ez vh
 refine zj (congrArg nK (nL.2 ez.out)) (kN (zJ (ZB zw [3,1,3,3,1,3,3,3,1,3,3,1,3,1,3,3,1,3,3,1,3,3] fL22 (by kernel_rfl) ?_)))
 have aW:=da.drew
 generalize hw_W1538:({ dB with drawn:=dB.drawn + 1 }:World)=gE at aW ⊢
 refine oR Z (zM Z aU ZW Z ZC) (oL Z (aW.ldB (j:=6) Z Z Z ZH (v:=.slice an am.length ao) Z) (oM Z Z (bnK vh fun _ be vi=>?_)))
 obtain ⟨wO,a6⟩:=aW.rowSome (j:=4) rfl (by rw [wAC (f:=KL.encI) (sz:=1) (fun _=>rfl) am];have hz:=wAR be;omega)
 refine oR Z (ZM Z Z a6 Z zD zC (wAr be) (wAs be)) ?_
 have uR:=wAt (xs:=am) (wAR be)
 refine ZD rfl rfl rfl rfl (aW.ldR (j:=4) rfl a6 rfl rfl zF (wAT (sz:=1) (fun _=>rfl) _ _ 0 _ uR (by first | omega | rfl | simp) rfl)) rfl (ze rfl rfl rfl rfl (fun _=>zT rfl rfl rfl) (zU rfl rfl rfl rfl rfl rfl (ifc vi ?_ ?_)))
 intro ax vj
 refine rU Z (wT Z ax) (zM Z aU ZW Z ZC) (ZD Z Z Z (wT Z ax) (aW.ldB (j:=6) Z Z Z ZH (v:=.slice an am.length ao) Z) Z (zU Z Z Z (wT Z ax) Z Z (rU Z (wT Z ax) (ZM Z Z a6 Z zD zC (wAr be) (wAs be)) ?_)))
 have uS:=wAt (xs:=am) (wAR be)
 refine ZD rfl rfl rfl (zO rfl rfl (Za ax.out)) (aW.ldR (j:=4) rfl a6 rfl rfl zF (wAT (sz:=1) (fun _=>rfl) _ _ 0 _ uS (by first | omega | rfl | simp) rfl)) rfl (ze rfl rfl rfl (zO rfl rfl (Za ax.out)) (fun _=>zM rfl rfl yg rfl zC) (ZD rfl rfl rfl (zO rfl rfl (Za ax.out)) (aW.ldB (j:=0) rfl rfl rfl zF (v:=jV aj.count) rfl) rfl (ze rfl rfl rfl (zO rfl rfl (Za ax.out)) (fun _=>zV rfl rfl rfl) (ze rfl rfl rfl (zO rfl rfl (Za ax.out)) (fun _=>zM rfl aU ZW rfl ZC) (ZD rfl rfl rfl (zO rfl rfl (Za ax.out)) (aW.ldB (j:=6) rfl rfl rfl ZH (v:=.slice an am.length ao) rfl) rfl (zU rfl rfl rfl (zO rfl rfl (Za ax.out)) rfl rfl (bnK vj fun _ bj vk=>ze rfl rfl rfl (zO rfl rfl (Za ax.out)) (fun _=>ZM rfl rfl a6 rfl zD zC (wAr bj) (wAs bj)) ?_)))))))
 have uT:=wAt (xs:=am) (wAR bj)
 refine ZD rfl rfl rfl (zO rfl rfl (Za ax.out)) (aW.ldR (j:=4) rfl a6 rfl rfl zF (wAT (sz:=1) (fun _=>rfl) _ _ 0 _ uT (by first | omega | rfl | simp) rfl)) rfl (ze rfl rfl rfl (zO rfl rfl (Za ax.out)) (fun _=>zT rfl rfl rfl) (ze rfl rfl rfl rfl (fun _=>zQ rfl (Za ax.out) rfl) (eN (ifc vk ?_ ?_))))
 intro eB vl
 refine cT Z eB ?_
 have q:=bnd vl
 obtain ⟨⟨⟩,vw,ll⟩:=q
 try dsimp only at ll
 let aR:Res:=.row an ao 3 1 (hH KL.encI (nI am aj.to_.toNat (w64 ((gd am aj.from_.toNat) + aj.count))))
 let cG:Res:=.blk b8 118 [.slice an ((nI am aj.to_.toNat (w64 ((gd am aj.from_.toNat) + aj.count))).length) ao,.slice ap ((nI ay aj.to_.toNat (↑aG:Int)).length) aq]
 let bw:Res:=.row ap aq 3 1 (hH KL.encI (nI ay aj.to_.toNat (↑aG:Int)))
 refine yI (fun σ_ w_=>∃ (U_:PHeap),σ_ 0=.pointer (some ⟨af,0,none⟩)/\σ_ 2=.bool p2/\σ_ 6=.pointer (some ⟨b4,0,none⟩)/\σ_ 9=.pointer (some ⟨b8,0,none⟩)/\σ_ 15=jV aj.to_/\σ_ 54=jV (w64 ((↑(p0.number.length):Int) + 1))/\σ_ 55=jV (↑a8:Int)/\σ_ 60=.slice aX p0.edges.length aY/\σ_ 61=jV (↑p0.edges.length:Int)/\σ_ 62=jV (↑aG:Int)/\PHeap.Le aE U_/\SW w [B1,.obj O (.map ab ac)] U U_ [.blk aJ 151 az,.blk b4 118 B0,B1,.obj O (.map ab ac),aR,bw,cG] w_) ?_ ?_
 refine CK.fresh fun aT aO=>?_
 have iO:aT 0=.pointer (some ⟨af,0,none⟩):=(aO 0).trans ci
 have iP:aT 2=.bool p2:=(aO 2).trans bG
 have iQ:aT 6=.pointer (some ⟨b4,0,none⟩):=(aO 6).trans cj
 have cZ:aT 9=.pointer (some ⟨b8,0,none⟩):=(aO 9).trans aU
 have n6:aT 12=jV (↑aG:Int):=(aO 12).trans rfl
 have n7:aT 13=.pointer (some ⟨aJ,0,none⟩):=(aO 13).trans rfl
 have n8:aT 14=jV aj.from_:=(aO 14).trans rfl
 have dS:aT 15=jV aj.to_:=(aO 15).trans rfl
 have iR:aT 54=jV (w64 ((↑(p0.number.length):Int) + 1)):=(aO 54).trans cm
 have iS:aT 55=jV (↑a8:Int):=(aO 55).trans cn
 have iT:aT 60=.slice aX p0.edges.length aY:=(aO 60).trans bH
 have iU:aT 61=jV (↑p0.edges.length:Int):=(aO 61).trans bI
 have iV:aT 62=jV (↑aG:Int):=(aO 62).trans bh
 clear aO
 refine bnK vw fun _ bf lm=>ZB zw [3,1,3,3,2,3,3,1,3,3,1,3,1,3,3,3,0,3,0] (wDu (wMK gCo)) (by kernel_rfl) ?_
 have bn:=aW.drew
 generalize hw_W1587:({ gE with drawn:=gE.drawn + 1 }:World)=wt at bn ⊢
 refine oR Z (zM Z cZ ZW Z ZC) (oL Z (bn.ldB (j:=6) Z Z Z ZH (v:=.slice an am.length ao) Z) (oM Z dS (oR Z (zM Z cZ ZW Z ZC) (oM Z dS (oR Z (zM Z cZ ZW Z ZC) (oL Z (bn.ldB (j:=6) Z Z Z ZH (v:=.slice an am.length ao) Z) (oM Z n8 (oR Z (ZM Z Z a6 Z zD zC (wAr be) (wAs be)) ?_))))))))
 have uU:=wAt (xs:=am) (wAR be)
 refine ZD rfl rfl rfl rfl (bn.ldR (j:=4) rfl a6 rfl rfl zF (wAT (sz:=1) (fun _=>rfl) _ _ 0 _ uU (by first | omega | rfl | simp) rfl)) rfl (ze rfl rfl rfl rfl (fun _=>zM rfl n7 yg rfl zC) (ZD rfl rfl rfl rfl (bn.ldB (j:=0) rfl rfl rfl zF (v:=jV aj.count) rfl) rfl (ze rfl rfl rfl rfl (fun _=>zV rfl rfl rfl) (zU rfl rfl rfl rfl rfl n6 (ze rfl rfl rfl rfl (fun _=>ZM rfl rfl a6 rfl zD zC (wAr bj) (wAs bj)) (zq ?_ ?_))))))
 refine ZL Z Z Z Z (bn.ldB (j:=6) Z Z Z ZH (v:=.slice ap ay.length aq) Z) ?_
 have uV:=wAt (xs:=am) (wAR bj)
 refine yb (j:=4) (vs:=[jV (w64 ((gd am aj.from_.toNat) + aj.count))]) (cs':=hH KL.encI (nI am aj.to_.toNat (w64 ((gd am aj.from_.toNat) + aj.count)))) rfl rfl rfl rfl bn rfl a6 rfl rfl rfl zC (by rw [wAC (f:=KL.encI) (sz:=1) (fun _=>rfl)];have hz:=wAR bj;show _ + 1 <= _;first | omega | (simp only [nE];omega) | (simp only [nB,hJ,nA];omega)) rfl (wCK (sz:=1) (fo:=0) (fun _=>rfl) _ _ _ _ uV (by first | omega | (simp only [nE];omega) | (simp only [nB,hJ,nA];omega)) (zA rfl) rfl) rfl ?_
 intro gF tG
 have tH:SW w [B1,.obj O (.map ab ac)] U aE [.blk aJ 151 az,.blk b4 118 B0,B1,.obj O (.map ab ac),aR,aP,bg] gF:=tG
 let dz:Res:=.blk b8 118 [.slice an ((nI am aj.to_.toNat (w64 ((gd am aj.from_.toNat) + aj.count))).length) ao,.slice ap ay.length aq]
 have j7:SW w [B1,.obj O (.map ab ac)] U aE [.blk aJ 151 az,.blk b4 118 B0,B1,.obj O (.map ab ac),aR,aP,dz] gF:=by simpa only [B0,B1,az,aP,bg,aR,dz,nG] using tH
 obtain ⟨wP,jU⟩:=j7.rowSome (j:=5) rfl (by rw [wAC (f:=KL.encI) (sz:=1) (fun _=>rfl) ay];have hz:=wAR bf;omega)
 refine oR Z (ZM Z Z jU Z zD zC (wAr bf) (wAs bf)) ?_
 have uW:=wAt (xs:=ay) (wAR bf)
 refine yb (j:=5) (vs:=[jV (↑aG:Int)]) (cs':=hH KL.encI (nI ay aj.to_.toNat (↑aG:Int))) rfl rfl rfl rfl j7 rfl jU rfl rfl rfl zC (by rw [wAC (f:=KL.encI) (sz:=1) (fun _=>rfl)];have hz:=wAR bf;show _ + 1 <= _;first | omega | (simp only [nE];omega) | (simp only [nB,hJ,nA];omega)) rfl (wCK (sz:=1) (fo:=0) (fun _=>rfl) _ _ _ _ uW (by first | omega | (simp only [nE];omega) | (simp only [nB,hJ,nA];omega)) (zA rfl) rfl) rfl ?_
 intro gG tI
 have tJ:SW w [B1,.obj O (.map ab ac)] U aE [.blk aJ 151 az,.blk b4 118 B0,B1,.obj O (.map ab ac),aR,bw,dz] gG:=tI
 have tK:SW w [B1,.obj O (.map ab ac)] U aE [.blk aJ 151 az,.blk b4 118 B0,B1,.obj O (.map ab ac),aR,bw,cG] gG:=by simpa only [B0,B1,az,aR,cG,bw,dz,nG] using tJ
 refine zc ?_
 cases lm
 exact zI ⟨Z,⟨aE,iO,iP,iQ,cZ,dS,iR,iS,iT,iU,iV,(zL _),tK⟩⟩
 have uX:=wAt (xs:=am) (wAR bj)
 refine yb (j:=4) (vs:=[jV (w64 ((gd am aj.from_.toNat) + aj.count))]) (cs':=hH KL.encI (nI am aj.to_.toNat (w64 ((gd am aj.from_.toNat) + aj.count)))) rfl rfl rfl rfl bn rfl a6 rfl rfl rfl zC (by rw [wAC (f:=KL.encI) (sz:=1) (fun _=>rfl)];have hz:=wAR bj;show _ + 1 <= _;first | omega | (simp only [nE];omega) | (simp only [nB,hJ,nA];omega)) rfl (wCK (sz:=1) (fo:=0) (fun _=>rfl) _ _ _ _ uX (by first | omega | (simp only [nE];omega) | (simp only [nB,hJ,nA];omega)) (zA rfl) rfl) rfl ?_
 intro gH tL
 have tM:SW w [B1,.obj O (.map ab ac)] U aE [.blk aJ 151 az,.blk b4 118 B0,B1,.obj O (.map ab ac),aR,aP,bg] gH:=tL
 let dA:Res:=.blk b8 118 [.slice an ((nI am aj.to_.toNat (w64 ((gd am aj.from_.toNat) + aj.count))).length) ao,.slice ap ay.length aq]
 have eZ:SW w [B1,.obj O (.map ab ac)] U aE [.blk aJ 151 az,.blk b4 118 B0,B1,.obj O (.map ab ac),aR,aP,dA] gH:=by simpa only [B0,B1,az,aP,bg,aR,dA,nG] using tM
 refine ZL Z Z Z Z (eZ.ldB (j:=6) Z Z Z ZH (v:=.slice ap ay.length aq) Z) ?_
 obtain ⟨wQ,jW⟩:=eZ.rowSome (j:=5) rfl (by rw [wAC (f:=KL.encI) (sz:=1) (fun _=>rfl) ay];have hz:=wAR bf;omega)
 refine oR Z (ZM Z Z jW Z zD zC (wAr bf) (wAs bf)) ?_
 have uY:=wAt (xs:=ay) (wAR bf)
 refine yb (j:=5) (vs:=[jV (↑aG:Int)]) (cs':=hH KL.encI (nI ay aj.to_.toNat (↑aG:Int))) rfl rfl rfl rfl eZ rfl jW rfl rfl rfl zC (by rw [wAC (f:=KL.encI) (sz:=1) (fun _=>rfl)];have hz:=wAR bf;show _ + 1 <= _;first | omega | (simp only [nE];omega) | (simp only [nB,hJ,nA];omega)) rfl (wCK (sz:=1) (fo:=0) (fun _=>rfl) _ _ _ _ uY (by first | omega | (simp only [nE];omega) | (simp only [nB,hJ,nA];omega)) (zA rfl) rfl) rfl ?_
 intro gI tN
 have tO:SW w [B1,.obj O (.map ab ac)] U aE [.blk aJ 151 az,.blk b4 118 B0,B1,.obj O (.map ab ac),aR,bw,dA] gI:=tN
 have tP:SW w [B1,.obj O (.map ab ac)] U aE [.blk aJ 151 az,.blk b4 118 B0,B1,.obj O (.map ab ac),aR,bw,cG] gI:=by simpa only [B0,B1,az,aR,cG,bw,dA,nG] using tO
 refine zc ?_
 cases lm
 exact zI ⟨Z,⟨aE,iO,iP,iQ,cZ,dS,iR,iS,iT,iU,iV,(zL _),tP⟩⟩
 rintro xO wu ⟨ma,n9,oa,oc,od,oe,og,oh,oi,oj,ol,vG,tQ⟩
 refine rR fL2 Z (oM Z oe (oA Z Z (zc (zk ?_))))
 cases ll
 exact zI ⟨rfl,⟨ma,n9,oa,oc,od,rfl,og,oh,oi,oj,ol,vG,(tQ.pick [1,2,3,4,5,6] _ (by decide) rfl),(nG.trans co),(nG.trans cp)⟩⟩
 intro eB vm
 refine cF Z eB (ZS (zk ?_))
 cases vm
 exact zI ⟨rfl,⟨aE,ci,bG,cj,aU,dQ,cm,cn,bH,bI,bh,(zL _),(aW.pick [1,2,3,4,5,6] _ (by decide) rfl),co,cp⟩⟩
 intro ax vn
 refine oF Z ax (oF Z ax (oF Z ax (oF Z ax (oF Z ax (oF Z ax (oF Z ax (oF Z ax (oF Z ax (oF Z ax (oF Z ax (oF Z ax (oF Z ax (oF Z ax (oR Z (zd Z (ZA ax.out) Z) (eN (zj Z (ZS (zk ?_))))))))))))))))))
 cases vn
 exact zI ⟨rfl,⟨aE,ci,bG,cj,aU,dQ,cm,cn,bH,bI,bh,(zL _),(aW.pick [1,2,3,4,5,6] _ (by decide) rfl),co,cp⟩⟩
 rintro xP wv ⟨mb,om,oo,oq,ot,ou,ov,ow,ox,oy,oz,vH,tR,rW,rX⟩
 refine rR fL2 Z (oR Z (ZI (zV Z oz Z) (congrArg (jV) u3.out)) (oM Z Z (zc ?_)))
 cases li
 exact zI ⟨Z,⟨mb,Z,om,oo,oq,ot,ou,ov,ow,ox,oy,(lP.trans vH),tR,rW,rX⟩⟩
 rintro xQ ww ⟨ef,rD,oB,oC,eO,iW,iX,oD,oE,wU,oG,vI,e6,rY,rZ⟩
 have mK:Hid (¬ ((↑(((↑p0.edges.length:Int):Int) - 0).toNat:Int) < (↑p0.edges.length:Int))):=zK (wAd)
 refine sR fL1 Z (oR Z (zT Z rD oG) (eN (zJ (cF Z mK (ZQ (zg (zg (ZJ (zI (sR fL2 Z (oM Z iX (oR Z (zT Z Z Z) (eN (ifc lh ?_ ?_))))))))))))))
 intro eE vo
 refine cT Z eE (sR gCe Z ?_)
 let bT:List Value:=[.slice an lY.length ao,.slice ap lZ.length aq]
 refine oL Z (e6.ldBA (j:=5) Z Z iW Tryz.isAgg118 yA (vs:=bT) Z Z) (za (j:=0) (vs:=bT) Z Z Z Z e6 Z eO Z Z yA (zA Z) Z Z Z ?_)
 intro mr tS
 have j8:SW w [B1,.obj O (.map ab ac)] U ef [.blk b4 118 bT,B1,.obj O (.map ab ac),.row an ao 3 1 (hH KL.encI lY),.row ap aq 3 1 (hH KL.encI lZ),.blk b8 118 bT] mr:=tS
 refine oA Z Z (oA Z Z (eN (zR (zn (zW ?_)))))
 have q:=wAY vo
 obtain ⟨vU,vp,mM⟩:=q
 have q:=wBo fj e8 (uA vU mM)
 obtain rfl:=q
 refine zW (zn (zW ?_))
 cases vp
 exact ⟨rfl,_,(wEG (rs:=[.cell 6 118,.tmp 7,.tmp 8]) (vs:=[.agg bT.toArray,jV 0,.bool true]) ⟨⟨_,eO,(wBC Tryz.isAgg118 yA (j8.blkAt (k:=0) rfl) (vs:=bT) rfl rfl)⟩,⟨rfl,⟨rfl,trivial⟩⟩⟩ rfl),ef,_,(j8.pick [3,4,1,2] _ (by decide) rfl),an,ao,ap,aq,rfl,rfl⟩
 intro eE vq
 refine cF Z eE (ZS (zk (zI (rR fL2 Z (oR Z (ZI (zV Z oE Z) (congrArg (jV) uZ.out)) (oM Z Z (zc ?_)))))))
 have q:=nH vq
 obtain rfl:=q
 exact zI ⟨Z,_,Z,⟨ef,Z,oB,oC,eO,iW,iX,oD,(lO.trans vI),e6,rY,rZ⟩⟩
 rintro ⟨l0,l4,vW⟩ xR wx ⟨f7,rE,wV,wW,iY,oH,oI,oJ,xp,j9,xh,xi⟩ uB
 have lp:=wCk fj e8 uB
 try dsimp only at lp
 have mL:Hid (¬ ((↑((w64 ((↑(p0.number.length):Int) + 1):Int) - 0).toNat:Int) < (w64 ((↑(p0.number.length):Int) + 1)))):=zK (wAd)
 refine sR fL1 Z (oR Z (zT Z rE oJ) (eN (zJ (cF Z mL (ZQ (zg (zg (ZJ (zI (sR (.fl 0 (.fl 1 (.fx 2 (.fl 3 (.fl 4 .nil)) .stop))) Z ?_))))))))))
 let bU:List Value:=[.slice an l0.length ao,.slice ap l4.length aq]
 refine oL Z (j9.ldBA (j:=5) Z Z oH Tryz.isAgg118 yA (vs:=bU) Z Z) (oM Z oI (za (j:=0) (vs:=bU) Z Z Z Z j9 Z iY Z Z yA (zA Z) Z Z Z ?_))
 intro ms tT
 have k7:SW w [B1,.obj O (.map ab ac)] U f7 [.blk b4 118 bU,B1,.obj O (.map ab ac),.row an ao 3 1 (hH KL.encI l0),.row ap aq 3 1 (hH KL.encI l4),.blk b8 118 bU] ms:=tT
 refine oA Z Z (oA Z Z (eN (zR ?_)))
 cases lp
 exact ⟨rfl,_,(wEG (rs:=[.cell 6 118,.tmp 7,.tmp 8]) (vs:=[.agg bU.toArray,jV vW,.bool false]) ⟨⟨_,iY,(wBC Tryz.isAgg118 yA (k7.blkAt (k:=0) rfl) (vs:=bU) rfl rfl)⟩,⟨rfl,⟨rfl,trivial⟩⟩⟩ rfl),f7,_,(k7.pick [3,4,1,2] _ (by decide) rfl),an,ao,ap,aq,rfl,rfl⟩
end Go.Proofs.YtkghaiefcjgfkaaGreat
namespace Go.Proofs.YtkghaiefcjgfkaaGreat
open Go.KL
set_option maxHeartbeats 4000000
theorem wBq (O:wAb) (am:Nat) (ae:Option Addr) (an:Nat) (af:Option Addr) (ao:Nat) (ag:Option Addr) (ap:Nat) (ah:Option Addr) (aq:Nat) (aa:Nat) (ab:Array MapEntry) (ac:Nat) (aj:Option Addr) (au:Nat) (w:World) (U:PHeap) (hS:St0 w U [.blk am 124 [.slice ae O.Race.Starts.length an,.slice af O.Race.Splits.length ao,.slice ag O.Race.Clocks.length ap,.slice ah O.Race.Readings.length aq,.map (some aa),.slice aj O.edges.length au],.obj aa (.map ab ac)]) (aU:Sl U 1 ae an O.Race.Starts.length (hH KL.encI O.Race.Starts)) (aV:Sl U 2 af ao O.Race.Splits.length (hH wAA O.Race.Splits)) (aW:Sl U 3 ag ap O.Race.Clocks.length (hH wAG O.Race.Clocks)) (aX:Sl U 4 ah aq O.Race.Readings.length (hH wAB O.Race.Readings)) (aY:MpR ab wBH wBQ O.number) (aZ:Sl U 7 aj au O.edges.length (hH wAN O.edges)) {r:Bool} (hm:wAu O=some r):Gv Tryz.prog 66 [.pointer (some ⟨am,0,none⟩)] w (wBl w [.blk am 124 [.slice ae O.Race.Starts.length an,.slice af O.Race.Splits.length ao,.slice ag O.Race.Clocks.length ap,.slice ah O.Race.Readings.length aq,.map (some aa),.slice aj O.edges.length au],.obj aa (.map ab ac)] U (fun U_ L_ v=>v=.bool r/\L_=[.blk am 124 [.slice ae O.Race.Starts.length an,.slice af O.Race.Splits.length ao,.slice ag O.Race.Clocks.length ap,.slice ah O.Race.Readings.length aq,.map (some aa),.slice aj O.edges.length au],.obj aa (.map ab ac)])):=by
 unfold wAu at hm
 refine Gv.of Tryz.func66 Z Tryz.ntmps66 Tryz.results66 Z (sR fL1 Z (oA Z Z (eN (sR (.fl 0 (.fx 1 (wLs (.fx 6 gBw .stop)) .stop)) Z (oM Z Z ?_)))))
 have q:=bnd hm
 obtain ⟨⟨x3,x4,x5⟩,h6,aK⟩:=q
 try dsimp only at aK
 refine zG 2 Z Z Z Z (zH Z Z Tryz.call49 (zB Z (zB Z (zB Z zN))) Z) hS (fun hs=>wBU O am ae an af ao ag ap ah aq aa ab ac aj au (-1) false w U hs aU aV aW aX aY aZ h6) (.inl Z) ?_
 rintro U8 L9 bb aL ba aP ⟨ay,aF,az,aG,rfl,rfl⟩
 let B0:Res:=.blk am 124 [.slice ae O.Race.Starts.length an,.slice af O.Race.Splits.length ao,.slice ag O.Race.Clocks.length ap,.slice ah O.Race.Readings.length aq,.map (some aa),.slice aj O.edges.length au]
 let B1:Res:=.row ay aF 3 1 (hH KL.encI x3.far)
 let B2:Res:=.row az aG 3 1 (hH KL.encI x3.by_)
 have aQ:SW w [B0,.obj aa (.map ab ac)] U U8 [B1,B2,B0,.obj aa (.map ab ac)] aL:=aP
 refine oM Z Z (oR Z (zZ Z Z (v:=.agg #[.slice ay x3.far.length aF,.slice az x3.by_.length aG]) Z) (oR Z (zZ Z Z (v:=jV x4) Z) (oR Z (zZ Z Z (v:=.bool x5) Z) (zX (cs:=[.slice none 0 0,.slice none 0 0]) Z Z Z Z Z Zg Z aQ ?_))))
 intro a9 aN aR
 let B3:List Value:=[.slice ay x3.far.length aF,.slice az x3.by_.length aG]
 refine za (j:=0) (vs:=B3) Z Z Z Z aR Z Z Z Z yA (zA Z) Z Z Z ?_
 intro aM aS
 have aT:SW w [B0,.obj aa (.map ab ac)] U U8 [.blk aN 118 B3,B1,B2,B0,.obj aa (.map ab ac)] aM:=aS
 refine oA Z Z (oA Z Z (eN (sR fL2 Z (oM Z Z (oA Z Z (eN (zR ?_)))))))
 have hE:=nH aK;first | subst r | cases hE
 exact ⟨rfl,_,(ZG rfl),U8,_,(aT.pick [3,4] _ (by decide) rfl),rfl,rfl⟩
theorem wEy (O:wAD) (an:Option Addr) (au:Nat) (ao:Option Addr) (av:Nat) (ap:Option Addr) (ax:Nat) (aq:Option Addr) (ay:Nat) (p1:List wAM) (aM:Option Addr) (aN:Nat) (w:World) (U:PHeap) (hS:St0 w U []) (bc:Sl U 1 an au O.Starts.length (hH KL.encI O.Starts)) (be:Sl U 2 ao av O.Splits.length (hH wAA O.Splits)) (bf:Sl U 3 ap ax O.Clocks.length (hH wAG O.Clocks)) (bg:Sl U 4 aq ay O.Readings.length (hH wAB O.Readings)) (bA:Sl U 2 aM aN p1.length (hH wAV p1)) {r:(Option wAb) × Int} (hm:wCp O p1=some r):Gv Tryz.prog 46 [.agg #[.slice an O.Starts.length au,.slice ao O.Splits.length av,.slice ap O.Clocks.length ax,.slice aq O.Readings.length ay],.slice aM p1.length aN] w (wBl w [] U (fun U_ L_ v=>match r.1 with | none=>v=.tuple #[.pointer none,jV r.2]/\L_=[] | some d=>∃ (b0:Nat) (A0p00:Option Addr) (c0p00:Nat) (A0p01:Option Addr) (c0p01:Nat) (A0p02:Option Addr) (c0p02:Nat) (A0p03:Option Addr) (c0p03:Nat) (m0p1:Nat) (es0p1:Array MapEntry) (ck0p1:Nat) (A0p2:Option Addr) (c0p2:Nat),v=.tuple #[.pointer (some ⟨b0,0,none⟩),jV r.2]/\L_=[.blk b0 124 [.slice A0p00 d.Race.Starts.length c0p00,.slice A0p01 d.Race.Splits.length c0p01,.slice A0p02 d.Race.Clocks.length c0p02,.slice A0p03 d.Race.Readings.length c0p03,.map (some m0p1),.slice A0p2 d.edges.length c0p2],.obj m0p1 (.map es0p1 ck0p1)]/\Sl U_ 1 A0p00 c0p00 d.Race.Starts.length (hH KL.encI d.Race.Starts)/\Sl U_ 2 A0p01 c0p01 d.Race.Splits.length (hH wAA d.Race.Splits)/\Sl U_ 3 A0p02 c0p02 d.Race.Clocks.length (hH wAG d.Race.Clocks)/\Sl U_ 4 A0p03 c0p03 d.Race.Readings.length (hH wAB d.Race.Readings)/\MpR es0p1 wBH wBQ d.number/\Sl U_ 7 A0p2 c0p2 d.edges.length (hH wAN d.edges))):=by
 unfold wCp at hm
 refine Gv.of Tryz.func46 Z Tryz.ntmps46 Tryz.results46 Z (sR gBv Z ?_)
 let B0:List Value:=[.slice an O.Starts.length au,.slice ao O.Splits.length av,.slice ap O.Clocks.length ax,.slice aq O.Readings.length ay]
 refine zu (cs:=B0) rfl rfl rfl rfl rfl rfl (by rfl) hS ?_
 intro W1 b2 bx
 refine oA Z Z (oA Z Z (eN (sR (.fl 0 (.fx 1 (wHp (.nil)) .stop)) Z (oL Z (bx.ldBA (j:=0) Z Z Z zm zf (vs:=B0) Z Z) ?_))))
 have q:=bnd hm
 obtain ⟨⟨x5,x6⟩,h7,az⟩:=q
 try dsimp only at az
 refine zG 0 Z Z Z Z (zH Z Z Tryz.call64 (zB Z zN) Z) bx (fun hs=>wEN O an au ao av ap ax aq ay W1 U hs bc be bf bg h7) (.inr Z) ?_
 rintro U9 cL cR aH ab bw bu
 rcases x5 with _ | ac
 try dsimp only at az
 obtain ⟨rfl,rfl⟩:=bu
 have ba:sW w U U9 [.blk b2 45 B0] aH:=bw
 refine oM Z Z (oR Z (zZ Z Z (v:=.pointer none) Z) (oR Z (zZ Z Z (v:=jV x6) Z) (oA Z Z (oA Z Z (eN (zJ (zY (sR fL3 Z (oM Z Z (oR Z (Zb Z Z Z) (oA Z Z (eN (ifc az ?_ ?_)))))))))))))
 intro a6 cA
 refine zj (ZA (fun h=>h a6.out)) (sR (wDp gBz) Z (oM Z Z (oL Z (ba.ldBA (j:=0) Z Z Z zm zf (vs:=B0) Z Z) (oR Z (Runs.mkf Z (zB Z zN) zN) ?_))))
 have bM:=bA.le ab
 have bN:=bc.le ab
 have bO:=be.le ab
 have bP:=bf.le ab
 have bQ:=bg.le ab
 have cm:FnOK Tryz.prog U9 (.func (.func 59) #[.agg B0.toArray] #[]) wMW wMX (fun x=>wAj O x):=⟨59,[.agg B0.toArray],[],rfl,Tryz.call59,fun U1 w1 x y vs le hs ha hm=>by obtain rfl:=ha;exact wCX O an au ao av ap ax aq ay x w1 U1 hs (bN.le le) (bO.le le) (bP.le le) (bQ.le le) hm⟩
 refine bnK cA fun cV bR cB=>zG 0 Z Z Z Z (zH Z Z Tryz.call71 (zB Z (zB Z zN)) Z) ba (fun hs=>wDQ p1 aM aN (fun x=>wAj O x) (.func (.func 59) #[.agg B0.toArray] #[]) aH U9 hs bM cm bR) (.inr Z) ?_
 rintro bj cN cS bG cP cp ⟨rfl,rfl⟩
 have cq:sW w U bj [.blk b2 45 B0] bG:=cp
 refine oR Z (ZY Z Z) (oA Z Z (eN (ifc cB ?_ ?_)))
 intro a7 cC
 refine zj (nC a7.out) (sR gCe Z (oM Z Z ?_))
 cases cC
 intro a7 cD
 refine ZK (nF (a7.out)) (sR fL2 Z (oA Z Z (oA Z Z (eN (zR (zn (zW ?_)))))))
 cases cD
 exact ⟨rfl,_,(wDw rfl rfl),bj,_,(cq.pick [] _ (by decide) rfl),rfl,rfl⟩
 intro a6 cE
 refine cT Z a6 (sR fL3 Z (oM Z Z (oA Z Z (oA Z Z (eN (zR (zn (zW ?_))))))))
 cases cE
 exact ⟨rfl,_,(wDw rfl rfl),U9,_,(ba.pick [] _ (by decide) rfl),rfl,rfl⟩
 try dsimp only at az
 obtain ⟨aI,aO,aW,aP,aX,aQ,aY,aR,aZ,af,aj,ah,aF,aJ,rfl,rfl,bS,bT,bU,bV,bo⟩:=bu
 let B1:Res:=.blk aI 124 [.slice aO ac.Race.Starts.length aW,.slice aP ac.Race.Splits.length aX,.slice aQ ac.Race.Clocks.length aY,.slice aR ac.Race.Readings.length aZ,.map (some af),.slice aF ac.edges.length aJ]
 let B2:Res:=.row aF aJ 151 7 (hH wAN ac.edges)
 have bb:sW w U U9 [B1,.obj af (.map aj ah),B2,.blk b2 45 B0] aH:=bw
 refine oM Z Z (oR Z (zZ Z Z (v:=.pointer (some ⟨aI,0,none⟩)) Z) (oR Z (zZ Z Z (v:=jV x6) Z) (oA Z Z (oA Z Z (eN (zJ (zY (sR fL3 Z (oM Z Z (oR Z (Zb Z Z Z) (oA Z Z (eN (ifc az ?_ ?_)))))))))))))
 intro a8 cG
 refine zj (ZA (fun h=>h a8.out)) (sR (wDp gBz) Z (oM Z Z (oL Z (bb.ldBA (j:=3) Z Z Z zm zf (vs:=B0) Z Z) (oR Z (Runs.mkf Z (zB Z zN) zN) ?_))))
 have bW:=bA.le ab
 have bX:=bc.le ab
 have bY:=be.le ab
 have bZ:=bf.le ab
 have ca:=bg.le ab
 have cn:FnOK Tryz.prog U9 (.func (.func 59) #[.agg B0.toArray] #[]) wMW wMX (fun x=>wAj O x):=⟨59,[.agg B0.toArray],[],rfl,Tryz.call59,fun U1 w1 x y vs le hs ha hm=>by obtain rfl:=ha;exact wCX O an au ao av ap ax aq ay x w1 U1 hs (bX.le le) (bY.le le) (bZ.le le) (ca.le le) hm⟩
 refine bnK cG fun cW cc cH=>zG 0 Z Z Z Z (zH Z Z Tryz.call71 (zB Z (zB Z zN)) Z) bb (fun hs=>wDQ p1 aM aN (fun x=>wAj O x) (.func (.func 59) #[.agg B0.toArray] #[]) aH U9 hs bW cn cc) (.inr Z) ?_
 rintro bk cO cU aU aK cr ⟨rfl,rfl⟩
 have bz:sW w U bk [B1,.obj af (.map aj ah),B2,.blk b2 45 B0] aU:=cr
 refine oR Z (ZY Z Z) (oA Z Z (eN (ifc cH ?_ ?_)))
 intro a9 cI
 refine zj (nC a9.out) (sR gCe Z (oM Z Z ?_))
 have q:=bz.freezeR (k:=2) (n:=ac.edges.length) rfl (wAC (f:=wAN) (sz:=7) (fun _=>rfl) ac.edges) (by decide)
 obtain ⟨bm,aL,bB,ct⟩:=q
 have cu:sW w U bm [B1,.obj af (.map aj ah),.blk b2 45 B0] aU:=ct
 have cd:=bS.le aK
 have bp:=cd.le aL
 have cf:=bT.le aK
 have bq:=cf.le aL
 have cg:=bU.le aK
 have br:=cg.le aL
 have ci:=bV.le aK
 have bt:=ci.le aL
 refine bnK cI fun cX cj cJ=>zG 2 Z Z Z Z (zH Z Z Tryz.call66 (zB Z zN) Z) cu (fun hs=>wBq ac aI aO aW aP aX aQ aY aR aZ af aj ah aF aJ aU bm hs bp bq br bt bo bB cj) (.inl Z) ?_
 rintro aT cM cQ bF aE co ⟨rfl,rfl⟩
 have bv:sW w U aT [B1,.obj af (.map aj ah),.blk b2 45 B0] bF:=co
 refine oR Z (ZY Z Z) (oA Z Z (eN (ifc cJ ?_ ?_)))
 intro aV cw
 refine zj (nC aV.out) (ZS (zk (zI (sR fL3 Z (oM Z Z (oA Z Z (oA Z Z (eN (zR ?_)))))))))
 have bH:=bp.le aE
 have bI:=bq.le aE
 have bJ:=br.le aE
 have bK:=bt.le aE
 have bL:=bB.le aE
 cases cw
 exact ⟨rfl,_,(wDw rfl rfl),aT,_,(bv.pick [0,1] _ (by decide) rfl),aI,aO,aW,aP,aX,aQ,aY,aR,aZ,af,aj,ah,aF,aJ,rfl,rfl,bH,bI,bJ,bK,bo,bL⟩
 intro aV cx
 refine ZK (nF (aV.out)) (sR fL2 Z (oA Z Z (oA Z Z (eN (zR (zn (zW ?_)))))))
 cases cx
 exact ⟨rfl,_,(wDw rfl rfl),aT,_,(bv.pick [] _ (by decide) rfl),rfl,rfl⟩
 intro a9 cy
 refine ZK (nF (a9.out)) (sR fL2 Z (oA Z Z (oA Z Z (eN (zR (zn (zW ?_)))))))
 cases cy
 exact ⟨rfl,_,(wDw rfl rfl),bk,_,(bz.pick [] _ (by decide) rfl),rfl,rfl⟩
 intro a8 cz
 refine cT Z a8 (sR fL3 Z (oM Z Z (oA Z Z (oA Z Z (eN (zR (zn (zW ?_))))))))
 cases cz
 exact ⟨rfl,_,(wDw rfl rfl),U9,_,(bb.pick [] _ (by decide) rfl),rfl,rfl⟩
theorem wHe (O:wAD) (aj:Option Addr) (ap:Nat) (am:Option Addr) (aq:Nat) (an:Option Addr) (au:Nat) (ao:Option Addr) (av:Nat) (p1:Int) (w:World) (U:PHeap) (hS:St0 w U []) (bo:Sl U 1 aj ap O.Starts.length (hH KL.encI O.Starts)) (bp:Sl U 2 am aq O.Splits.length (hH wAA O.Splits)) (bq:Sl U 3 an au O.Clocks.length (hH wAG O.Clocks)) (br:Sl U 4 ao av O.Readings.length (hH wAB O.Readings)) {r:(Option wAb) × Int} (hm:wDP O p1=some r):Gv Tryz.prog 28 [.agg #[.slice aj O.Starts.length ap,.slice am O.Splits.length aq,.slice an O.Clocks.length au,.slice ao O.Readings.length av],jV p1] w (wBl w [] U (fun U_ L_ v=>match r.1 with | none=>v=.tuple #[.pointer none,jV r.2]/\L_=[] | some d=>∃ (b0:Nat) (A0p00:Option Addr) (c0p00:Nat) (A0p01:Option Addr) (c0p01:Nat) (A0p02:Option Addr) (c0p02:Nat) (A0p03:Option Addr) (c0p03:Nat) (m0p1:Nat) (es0p1:Array MapEntry) (ck0p1:Nat) (A0p2:Option Addr) (c0p2:Nat),v=.tuple #[.pointer (some ⟨b0,0,none⟩),jV r.2]/\L_=[.blk b0 124 [.slice A0p00 d.Race.Starts.length c0p00,.slice A0p01 d.Race.Splits.length c0p01,.slice A0p02 d.Race.Clocks.length c0p02,.slice A0p03 d.Race.Readings.length c0p03,.map (some m0p1),.slice A0p2 d.edges.length c0p2],.obj m0p1 (.map es0p1 ck0p1)]/\Sl U_ 1 A0p00 c0p00 d.Race.Starts.length (hH KL.encI d.Race.Starts)/\Sl U_ 2 A0p01 c0p01 d.Race.Splits.length (hH wAA d.Race.Splits)/\Sl U_ 3 A0p02 c0p02 d.Race.Clocks.length (hH wAG d.Race.Clocks)/\Sl U_ 4 A0p03 c0p03 d.Race.Readings.length (hH wAB d.Race.Readings)/\MpR es0p1 wBH wBQ d.number/\Sl U_ 7 A0p2 c0p2 d.edges.length (hH wAN d.edges))):=by
 unfold wDP at hm
 refine Gv.of Tryz.func28 Z Tryz.ntmps28 Tryz.results28 Z (sR gBv Z ?_)
 let B0:List Value:=[.slice aj O.Starts.length ap,.slice am O.Splits.length aq,.slice an O.Clocks.length au,.slice ao O.Readings.length av]
 refine zu (cs:=B0) rfl rfl rfl rfl rfl rfl (by rfl) hS ?_
 intro W1 b2 aX
 refine oA Z Z (oA Z Z (eN (sR (wDp (.fx 3 (.fx 4 (wHq (.nil)) .stop) .stop)) Z (oL Z (aX.ldBA (j:=0) Z Z Z zm zf (vs:=B0) Z Z) (oM Z Z ?_)))))
 let B1:List Value:=[jV 0,jV p1]
 refine oR Z (zl (pv:=[(0,jV 0),(1,jV p1)]) (z:=[jV 0,jV 0]) (cs:=B1) Z (wAE Z (wAE Z wAL)) yB wFF Z Z) (zr (pv:=[(0,.agg B1.toArray)]) (zs:=[jV 0,jV 0]) (cs:=B1) Z Z Z Z Z (wAE Z wAL) Zt ZZ yB Z Z Z Z Z aX ?_)
 intro W5 b6 bm
 have bn:sW w U U [.row (some ⟨b6,0,none⟩) 1 62 2 (hH wAV [(⟨0,p1⟩:wAM)]),.blk b2 45 B0] W5:=bm
 have q:=bn.freezeR (k:=0) (n:=[(⟨0,p1⟩:wAM)].length) rfl (wAC (f:=wAV) (sz:=2) (fun _=>rfl) [(⟨0,p1⟩:wAM)]) (by decide)
 obtain ⟨aK,ah,bt,bh⟩:=q
 have bi:sW w U aK [.blk b2 45 B0] W5:=bh
 have aZ:=bo.le ah
 have a6:=bp.le ah
 have a7:=bq.le ah
 have a8:=br.le ah
 have q:=bnd hm
 obtain ⟨⟨bu,aY⟩,a9,ac⟩:=q
 try dsimp only at ac
 refine zG 0 Z Z Z Z (zH Z Z Tryz.call46 (zB Z (zB Z zN)) Z) bi (fun hs=>wEy O aj ap am aq an au ao av [(⟨0,p1⟩:wAM)] (some ⟨b6,0,none⟩) 1 W5 aK hs aZ a6 a7 a8 bt a9) (.inr Z) ?_
 rintro af bv bz aL bx aW aV
 rcases bu with _ | ae
 try dsimp only at ac
 obtain ⟨rfl,rfl⟩:=aV
 have bj:sW w U af [.blk b2 45 B0] aL:=aW
 refine oR Z (zZ Z Z (v:=.pointer none) Z) (oR Z (zZ Z Z (v:=jV aY) Z) (oA Z Z (oA Z Z (eN (zR ?_)))))
 cases ac
 exact ⟨rfl,_,(wDw rfl rfl),af,_,(bj.pick [] _ (by decide) rfl),rfl,rfl⟩
 try dsimp only at ac
 obtain ⟨az,aF,aO,aG,aP,aH,aQ,aI,aR,aE,aU,aS,aJ,aT,rfl,rfl,ba,bb,bc,be,bf,bg⟩:=aV
 have bk:sW w U af [.blk az 124 [.slice aF ae.Race.Starts.length aO,.slice aG ae.Race.Splits.length aP,.slice aH ae.Race.Clocks.length aQ,.slice aI ae.Race.Readings.length aR,.map (some aE),.slice aJ ae.edges.length aT],.obj aE (.map aU aS),.blk b2 45 B0] aL:=aW
 refine oR Z (zZ Z Z (v:=.pointer (some ⟨az,0,none⟩)) Z) (oR Z (zZ Z Z (v:=jV aY) Z) (oA Z Z (oA Z Z (eN (zR ?_)))))
 cases ac
 exact ⟨rfl,_,(wDw rfl rfl),af,_,(bk.pick [0,1] _ (by decide) rfl),az,aF,aO,aG,aP,aH,aQ,aI,aR,aE,aU,aS,aJ,aT,rfl,rfl,ba,bb,bc,be,bf,bg⟩
theorem wFK (O:wAb) (aq:Nat) (ap:Option Addr) (au:Nat) (az:Option Addr) (aH:Nat) (aE:Option Addr) (aI:Nat) (aF:Option Addr) (aJ:Nat) (aa:Nat) (ab:Array MapEntry) (ac:Nat) (aG:Option Addr) (aK:Nat) (p1:Int) (w:World) (U:PHeap) (hS:St0 w U [.blk aq 124 [.slice ap O.Race.Starts.length au,.slice az O.Race.Splits.length aH,.slice aE O.Race.Clocks.length aI,.slice aF O.Race.Readings.length aJ,.map (some aa),.slice aG O.edges.length aK],.obj aa (.map ab ac)]) (cC:Sl U 1 ap au O.Race.Starts.length (hH KL.encI O.Race.Starts)) (cD:Sl U 2 az aH O.Race.Splits.length (hH wAA O.Race.Splits)) (cE:Sl U 3 aE aI O.Race.Clocks.length (hH wAG O.Race.Clocks)) (cG:Sl U 4 aF aJ O.Race.Readings.length (hH wAB O.Race.Readings)) (a8:MpR ab wBH wBQ O.number) (cH:Sl U 7 aG aK O.edges.length (hH wAN O.edges)) {r:(Arr Int 64)} (hm:wBj O p1=some r):Gv Tryz.prog 29 [.pointer (some ⟨aq,0,none⟩),jV p1] w (wBl w [.blk aq 124 [.slice ap O.Race.Starts.length au,.slice az O.Race.Splits.length aH,.slice aE O.Race.Clocks.length aI,.slice aF O.Race.Readings.length aJ,.map (some aa),.slice aG O.edges.length aK],.obj aa (.map ab ac)] U (fun U_ L_ v=>v=.agg (hH KL.encI r.l).toArray/\L_=[.blk aq 124 [.slice ap O.Race.Starts.length au,.slice az O.Race.Splits.length aH,.slice aE O.Race.Clocks.length aI,.slice aF O.Race.Readings.length aJ,.map (some aa),.slice aG O.edges.length aK],.obj aa (.map ab ac)])):=by
 unfold wBj at hm
 refine Gv.of Tryz.func29 Z Tryz.ntmps29 Tryz.results29 Z (sR (.fx 0 .nil .stop) Z (zX (cs:=hH KL.encI (Arr.fill 64 0).l) Z Z Z Z Z Tryz.zeroValue89 Z hS ?_))
 intro W3 b4 ct
 let B0:Res:=.blk aq 124 [.slice ap O.Race.Starts.length au,.slice az O.Race.Splits.length aH,.slice aE O.Race.Clocks.length aI,.slice aF O.Race.Readings.length aJ,.map (some aa),.slice aG O.edges.length aK]
 have cz:SW w [B0,.obj aa (.map ab ac)] U U [.blk b4 89 (hH KL.encI (Arr.fill 64 0).l),B0,.obj aa (.map ab ac)] W3:=ct
 refine eN (sR (.fx 0 .nil .stop) Z (zX (cs:=hH KL.encI (Arr.fill 64 0).l) Z Z Z Z Z Tryz.zeroValue89 Z cz ?_))
 intro W8 b9 cn
 have bx:SW w [B0,.obj aa (.map ab ac)] U U [.blk b9 89 (hH KL.encI (Arr.fill 64 0).l),.blk b4 89 (hH KL.encI (Arr.fill 64 0).l),B0,.obj aa (.map ab ac)] W8:=cn
 refine eN (zJ (sR fL7 Z (oM Z Z (oR Z (Zc Z Z) (oR Z (zM Z Z ZE Z zf) (oR Z (zM Z Z zP Z ZC) (oL Z (bx.ldB (j:=2) Z Z Z ZH (v:=.slice ap O.Race.Starts.length au) Z) (oR Z (zx Z Z zD) (oM Z Z (eN (zY (bnK hm fun am cI cU=>?_))))))))))))
 have q:=wBE cI
 obtain ⟨bb,cJ⟩:=q
 replace bb:=zK bb
 refine CK.forN' (fun af aL σ_ w_=>∃ (U_:PHeap),σ_ 17=jV (↑af:Int)/\σ_ 0=.pointer (some ⟨aq,0,none⟩)/\σ_ 1=jV p1/\σ_ 4=.pointer (some ⟨b4,0,none⟩)/\σ_ 5=.pointer (some ⟨b9,0,none⟩)/\σ_ 16=jV (↑O.Race.Starts.length:Int)/\PHeap.Le U U_/\SW w [B0,.obj aa (.map ab ac)] U U_ [.blk b9 89 (hH KL.encI aL.l),.blk b4 89 (hH KL.encI (Arr.fill 64 0).l),B0,.obj aa (.map ab ac)] w_) cJ ?_ ?_ ?_
 exact ⟨U,Z,Z,Z,Z,Z,Z,(zL _),bx⟩
 rintro af aL dr dx bh a9 ⟨bf,aZ,aT,bp,bY,bZ,bq,ay,a7⟩ cW
 have bk:Hid ((↑af:Int) < (↑O.Race.Starts.length:Int)):=zK (wAx a9)
 replace a9:=zK a9
 have cP:Hid (w64 ((↑af:Int) + 1)=(↑(af + 1):Int)):=zK (by have h1:=bb.out;have h2:=bk.out;rw [wAW] <;> omega)
 refine sR fL1 Z (oR Z (zT Z aZ bq) (eN (zJ (cT Z bk (kN (zJ (zY (sR fL2 Z (oM Z aZ (oA Z Z (eN (sR (wMs (.fx 9 (wMu (.fx 14 (.fx 15 (.fl 16 (.fl 17 .nil)) .stop) .stop)) .stop)) Z (oM Z aT (oM Z aT (oR Z (Zc Z Z) (oR Z (zM Z Z ZE Z Zv) (oL Z (a7.ldB (j:=2) Z Z Z yC (v:=.map (some aa)) Z) (oM Z Z (oM Z bp (oR Z (zl (pv:=[(0,jV (↑af:Int)),(1,jV p1)]) (z:=[jV 0,jV 0]) (cs:=[jV (↑af:Int),jV p1]) Z (wAE Z (wAE Z wAL)) zb wBT Z Z) (oL Z (a7.lookup1 (j:=3) (mk:=wBH) (mv:=wBQ) (a:=(⟨(↑af:Int),p1⟩:wAI)) (z:=0) Z Z Z Z (wBe ZN) wCx zt a8) ?_)))))))))))))))))))))
 have cd:=cC.le ay
 have cf:=cD.le ay
 have cg:=cE.le ay
 have ci:=cG.le ay
 have cj:=cH.le ay
 have q:=bnd cW
 obtain ⟨⟨aj,da,db⟩,cm,bC⟩:=q
 try dsimp only at bC
 have cu:SW w [B0,.obj aa (.map ab ac)] U bf [B0,.obj aa (.map ab ac),.blk b9 89 (hH KL.encI aL.l),.blk b4 89 (hH KL.encI (Arr.fill 64 0).l)] bh:=a7.pick [2,3,0,1] _ (by decide) rfl
 refine zG 2 Z Z Z Z (zH Z Z Tryz.call49 (zB Z (zB Z (zB Z zN))) Z) cu (fun hs=>wBU O aq ap au az aH aE aI aF aJ aa ab ac aG aK (wAw O.number (⟨(↑af:Int),p1⟩:wAI) 0) false bh bf hs cd cf cg ci a8 cj cm) (.inl Z) ?_
 rintro aQ dd dq bI cZ cw ⟨aM,aS,aX,aY,rfl,rfl⟩
 let B1:Res:=.row aM aS 3 1 (hH KL.encI aj.far)
 let B2:Res:=.row aX aY 3 1 (hH KL.encI aj.by_)
 have cx:SW w [B0,.obj aa (.map ab ac)] U aQ [B1,B2,B0,.obj aa (.map ab ac),.blk b9 89 (hH KL.encI aL.l),.blk b4 89 (hH KL.encI (Arr.fill 64 0).l)] bI:=cw
 refine oM Z Z (oR Z (zZ Z Z (v:=.agg #[.slice aM aj.far.length aS,.slice aX aj.by_.length aY]) Z) (oR Z (zZ Z Z (v:=jV da) Z) (oR Z (zZ Z Z (v:=.bool db) Z) (zX (cs:=[.slice none 0 0,.slice none 0 0]) Z Z Z Z Z Zg Z cx ?_))))
 intro dh aR cy
 let B3:List Value:=[.slice aM aj.far.length aS,.slice aX aj.by_.length aY]
 refine za (j:=0) (vs:=B3) Z Z Z Z cy Z Z Z Z yA (zA Z) Z Z Z ?_
 intro bJ cA
 have bB:SW w [B0,.obj aa (.map ab ac)] U aQ [.blk aR 118 B3,B1,B2,B0,.obj aa (.map ab ac),.blk b9 89 (hH KL.encI aL.l),.blk b4 89 (hH KL.encI (Arr.fill 64 0).l)] bJ:=cA
 refine oA Z Z (oA Z Z (eN (sR fL7 Z (oM Z aT (oR Z (Zc Z Z) (oR Z (zM Z Z ZE Z zf) (oR Z (zM Z Z zP Z ZC) (oL Z (bB.ldB (j:=3) Z Z Z ZH (v:=.slice ap O.Race.Starts.length au) Z) (oR Z (zx Z Z zD) (oM Z Z (eN (zY (bnK bC fun du cK cV=>?_)))))))))))))
 have q:=wBE cK
 obtain ⟨bc,cL⟩:=q
 replace bc:=zK bc
 refine CK.forN' (fun ag ax σ_ w_=>∃ (U_:PHeap),σ_ 40=jV (↑ag:Int)/\σ_ 0=.pointer (some ⟨aq,0,none⟩)/\σ_ 1=jV p1/\σ_ 4=.pointer (some ⟨b4,0,none⟩)/\σ_ 5=.pointer (some ⟨b9,0,none⟩)/\σ_ 6=jV (↑af:Int)/\σ_ 7=.pointer (some ⟨aR,0,none⟩)/\σ_ 16=jV (↑O.Race.Starts.length:Int)/\σ_ 17=jV (↑af:Int)/\σ_ 39=jV (↑O.Race.Starts.length:Int)/\PHeap.Le aQ U_/\SW w [B0,.obj aa (.map ab ac)] U U_ [B1,B2,.blk aR 118 B3,B0,.obj aa (.map ab ac),.blk b9 89 (hH KL.encI ax.l),.blk b4 89 (hH KL.encI (Arr.fill 64 0).l)] w_) cL ?_ ?_ ?_
 exact ⟨aQ,rfl,aT,bp,bY,bZ,rfl,rfl,bq,aZ,rfl,(zL _),(bB.pick [1,2,0,3,4,5,6] _ (by decide) rfl)⟩
 rintro ag ax dt dy bi ba ⟨bg,a6,br,bt,ca,bu,bv,bm,bN,bO,bn,c6,cB⟩ cX
 have bj:Hid ((↑ag:Int) < (↑O.Race.Starts.length:Int)):=zK (wAx ba)
 replace ba:=zK ba
 have cO:Hid (w64 ((↑ag:Int) + 1)=(↑(ag + 1):Int)):=zK (by have h1:=bc.out;have h2:=bj.out;rw [wAW] <;> omega)
 refine sR fL1 rfl (ze rfl rfl rfl rfl (fun _=>zT rfl a6 bn) (eN (zJ (cT Z bj (kN (zJ (zY (sR fL2 rfl (zU rfl rfl rfl rfl rfl a6 (Zy rfl rfl rfl rfl rfl rfl (eN (ZB zw [3,3,3,1,3,3,3,1,3,3,3,1,3,1,3,3,0] (wNz (.fx 16 .nil .stop)) (by kernel_rfl) ?_))))))))))))
 have av:=cB.drew
 generalize hw_W107:({ bi with drawn:=bi.drawn + 1 }:World)=de at av ⊢
 refine oM Z bv (oM Z Z (oR Z (zM Z bm ZW Z ZC) (oL Z (av.ldB (j:=2) Z Z Z ZH (v:=.slice aM aj.far.length aS) Z) (oM Z br (oR Z (Zc Z Z) (oR Z (zM Z Z ZE Z Zv) (oL Z (av.ldB (j:=3) Z Z Z yC (v:=.map (some aa)) Z) (oM Z Z (oM Z bt (oR Z (zl (pv:=[(0,jV (↑ag:Int)),(1,jV p1)]) (z:=[jV 0,jV 0]) (cs:=[jV (↑ag:Int),jV p1]) Z (wAE Z (wAE Z wAL)) zb wBT Z Z) (oL Z (av.lookup1 (j:=4) (mk:=wBH) (mv:=wBQ) (a:=(⟨(↑ag:Int),p1⟩:wAI)) (z:=0) Z Z Z Z (wBe ZN) wCx zt a8) (bnK cX fun _ aU cQ=>?_))))))))))))
 obtain ⟨di,bw⟩:=av.rowSome (j:=0) rfl (by rw [wAC (f:=KL.encI) (sz:=1) (fun _=>rfl) aj.far];have hz:=wAR aU;omega)
 refine oR Z (ZM Z Z bw Z zD zC (wAr aU) (wAs aU)) ?_
 have cM:=wAt (xs:=aj.far) (wAR aU)
 refine ZD rfl rfl rfl rfl (av.ldR (j:=0) rfl bw rfl rfl zF (wAT (sz:=1) (fun _=>rfl) _ _ 0 _ cM (by first | omega | rfl | simp) rfl)) rfl (bnK cQ fun _ aV cR=>ze rfl rfl rfl rfl (fun _=>Runs.iaA rfl bu rfl Tryz.runUnderlying89 Tryz.sizeOf88 (wAr aV) (wAs aV)) (bnK cR fun _ aW cS=>ze rfl rfl rfl rfl (fun _=>Runs.iaA rfl rfl rfl Tryz.runUnderlying88 zC (wAr aW) (wAs aW)) ?_))
 have cN:=Arr.at_ ax (k:=(af * 8 + ag)) (by have hz0:=wAR aV;have hz1:=wAR aW;omega)
 refine za (j:=5) (vs:=[jV (gd aj.far (wAw O.number (⟨(↑ag:Int),p1⟩:wAI) 0).toNat)]) (cs':=hH KL.encI (ax.set (af * 8 + ag) (gd aj.far (wAw O.number (⟨(↑ag:Int),p1⟩:wAI) 0).toNat)).l) rfl rfl rfl rfl av rfl rfl rfl rfl zC (by have hz0:=wAR aV;have hz1:=wAR aW;simp only [List.length_append,List.length_cons,List.length_nil,wCL (f:=KL.encI) (sz:=1) (N:=64) ax (fun _=>rfl) rfl];omega) rfl (wCK (sz:=1) (fo:=0) (fun _=>rfl) _ _ _ _ cN (by first | omega | rfl | simp) (zA rfl) rfl) rfl ?_
 intro bF co
 have cp:SW w [B0,.obj aa (.map ab ac)] U bg [B1,B2,.blk aR 118 B3,B0,.obj aa (.map ab ac),.blk b9 89 (hH KL.encI (ax.set (af * 8 + ag) (gd aj.far (wAw O.number (⟨(↑ag:Int),p1⟩:wAI) 0).toNat)).l),.blk b4 89 (hH KL.encI (Arr.fill 64 0).l)] bF:=co
 refine zc (zk (zI (rR fL2 Z (oR Z (ZI (zV Z a6 Z) (congrArg (jV) cO.out)) (oM Z Z (zc ?_))))))
 cases cS
 exact zI ⟨Z,⟨bg,Z,br,bt,ca,bu,bv,bm,bN,bO,bn,c6,cp⟩⟩
 rintro dv df ⟨bD,cb,bP,bQ,bR,bS,dk,dl,bT,bU,bV,cY,cq⟩
 have bL:Hid (¬ ((↑(((↑O.Race.Starts.length:Int):Int) - 0).toNat:Int) < (↑O.Race.Starts.length:Int))):=zK (wAd)
 refine sR fL1 Z (oR Z (zT Z cb bV) (eN (zJ (cF Z bL (ZQ (zg (zg (ZJ (zk (zI (rR fL2 Z (oR Z (ZI (zV Z bU Z) (congrArg (jV) cP.out)) (oM Z Z (zc ?_))))))))))))))
 cases cV
 exact zI ⟨rfl,⟨bD,rfl,bP,bQ,bR,bS,bT,((ay.trans cZ).trans cY),(cq.pick [5,6,3,4] _ (by decide) rfl)⟩⟩
 rintro dw dg ⟨be,cc,dm,dn,bo,bW,bX,dp,bz⟩
 have bM:Hid (¬ ((↑(((↑O.Race.Starts.length:Int):Int) - 0).toNat:Int) < (↑O.Race.Starts.length:Int))):=zK (wAd)
 refine sR fL1 rfl (ze rfl rfl rfl rfl (fun _=>zT rfl cc bX) (eN (zJ (cF Z bM (ZQ (zg (zg (ZJ (zI (sR gBk rfl (ZD rfl rfl rfl rfl (bz.ldBA (j:=0) rfl rfl bW Tryz.isAgg89 Tryz.sizeOf89 (vs:=hH KL.encI am.l) (wNN am (fun _=>rfl) rfl) (wCL am (fun _=>rfl) rfl)) rfl (za (j:=1) (vs:=hH KL.encI am.l) rfl rfl rfl rfl bz rfl bo rfl rfl (fun w=>by rw [wCL (f:=KL.encI) (sz:=1) (N:=64) am (fun _=>rfl) rfl];exact Tryz.sizeOf89 w) (by rw [wCL (f:=KL.encI) (sz:=1) (N:=64) am (fun _=>rfl) rfl,wCL (f:=KL.encI) (sz:=1) (N:=64) (Arr.fill 64 0) (fun _=>rfl) rfl];exact zA rfl) (wGH (fun _=>rfl) _) (wJQ _ _ (by rw [wCL (f:=KL.encI) (sz:=1) (N:=64) am (fun _=>rfl) rfl,wCL (f:=KL.encI) (sz:=1) (N:=64) (Arr.fill 64 0) (fun _=>rfl) rfl])) rfl ?_))))))))))))
 intro bG cr
 have bA:SW w [B0,.obj aa (.map ab ac)] U be [.blk b9 89 (hH KL.encI am.l),.blk b4 89 (hH KL.encI am.l),B0,.obj aa (.map ab ac)] bG:=cr
 refine eN (zR ?_)
 have hE:=nH cU;first | subst r | cases hE
 exact ⟨rfl,_,(wGq (v:=.agg (hH KL.encI am.l).toArray) ⟨⟨_,bo,(wBC Tryz.isAgg89 Tryz.sizeOf89 (bA.blkAt (k:=1) rfl) (wNN am (fun _=>rfl) rfl) (wCL am (fun _=>rfl) rfl))⟩,trivial⟩),be,_,(bA.pick [2,3] _ (by decide) rfl),rfl,rfl⟩
theorem wEh (O:wAD) (aJ:Option Addr) (aK:Nat) (a7:Option Addr) (ba:Nat) (a8:Option Addr) (bb:Nat) (a9:Option Addr) (bc:Nat) (p1:Int) (w:World) (U:PHeap) (hS:St0 w U []) (dx:Sl U 1 aJ aK O.Starts.length (hH KL.encI O.Starts)) (dy:Sl U 2 a7 ba O.Splits.length (hH wAA O.Splits)) (dz:Sl U 3 a8 bb O.Clocks.length (hH wAG O.Clocks)) (dA:Sl U 4 a9 bc O.Readings.length (hH wAB O.Readings)) {r:(List wAF) × Int} (hm:wBm O p1=some r):Gv Tryz.prog 10 [.agg #[.slice aJ O.Starts.length aK,.slice a7 O.Splits.length ba,.slice a8 O.Clocks.length bb,.slice a9 O.Readings.length bc],jV p1] w (wBl w [] U (fun U_ L_ v=>∃ (A0:Option Addr) (c0:Nat),v=.tuple #[.slice A0 r.1.length c0,jV r.2]/\L_=[.row A0 c0 37 2 (hH wAA r.1)])):=by
 unfold wBm at hm
 refine Gv.of Tryz.func10 Z Tryz.ntmps10 Tryz.results10 Z (sR gBv Z ?_)
 let B0:List Value:=[.slice aJ O.Starts.length aK,.slice a7 O.Splits.length ba,.slice a8 O.Clocks.length bb,.slice a9 O.Readings.length bc]
 refine zu (cs:=B0) rfl rfl rfl rfl rfl rfl (by rfl) hS ?_
 intro W1 b2 bY
 refine oA Z Z (oA Z Z (eN (sR (.fl 0 (.fl 1 (.fx 2 (wMt (.nil)) .stop))) Z (oL Z (bY.ldBA (j:=0) Z Z Z zm zf (vs:=B0) Z Z) (oM Z Z ?_)))))
 have q:=bnd hm
 obtain ⟨⟨x5,x6⟩,h7,aS⟩:=q
 try dsimp only at aS
 refine zG 0 Z Z Z Z (zH Z Z Tryz.call28 (zB Z (zB Z zN)) Z) bY (fun hs=>wHe O aJ aK a7 ba a8 bb a9 bc p1 W1 U hs dx dy dz dA h7) (.inr Z) ?_
 rintro U9 d6 eE bk ez bV bT
 rcases x5 with _ | aL
 try dsimp only at aS
 obtain ⟨rfl,rfl⟩:=bT
 have dn:sW w U U9 [.blk b2 45 B0] bk:=bV
 refine oM Z Z (oR Z (zZ Z Z (v:=.pointer none) Z) (oR Z (zZ Z Z (v:=jV x6) Z) (oA Z Z (oA Z Z (eN (zJ (sR fL2 Z (oM Z Z (oR Z (Zb Z Z Z) (eN (ifc aS ?_ ?_)))))))))))
 intro bq dT
 refine zj (ZA (fun h=>h bq.out)) (kN (sR gCp Z (oM Z Z (oM Z Z ?_))))
 cases dT
 intro bq dU
 refine cT Z bq (sR fL3 Z (oM Z Z (oA Z Z (oA Z Z (eN (zR (zW ?_)))))))
 have dp:=dn.nilrow 37 2
 cases dU
 exact ⟨rfl,_,(wDw rfl rfl),U9,_,(dp.pick [0] _ (by decide) rfl),none,0,rfl,rfl⟩
 try dsimp only at aS
 obtain ⟨bm,bA,bL,bB,bM,bC,bN,bF,bP,ae,ag,af,bG,bQ,rfl,rfl,cQ,cR,cS,cU,cV,cW⟩:=bT
 let B1:Res:=.blk bm 124 [.slice bA aL.Race.Starts.length bL,.slice bB aL.Race.Splits.length bM,.slice bC aL.Race.Clocks.length bN,.slice bF aL.Race.Readings.length bP,.map (some ae),.slice bG aL.edges.length bQ]
 have bZ:sW w U U9 [B1,.obj ae (.map ag af),.blk b2 45 B0] bk:=bV
 refine oM Z Z (oR Z (zZ Z Z (v:=.pointer (some ⟨bm,0,none⟩)) Z) (oR Z (zZ Z Z (v:=jV x6) Z) (oA Z Z (oA Z Z (eN (zJ (sR fL2 Z (oM Z Z (oR Z (Zb Z Z Z) (eN (ifc aS ?_ ?_)))))))))))
 intro br dV
 refine zj (ZA (fun h=>h br.out)) (kN (sR gCp Z (oM Z Z (oM Z Z (bnK dV fun aa cX dW=>zG 2 Z Z Z Z (zH Z Z Tryz.call29 (zB Z (zB Z zN)) Z) bZ (fun hs=>wFK aL bm bA bL bB bM bC bN bF bP ae ag af bG bQ p1 bk U9 hs cQ cR cS cU cV cW cX) (.inl Z) ?_)))))
 rintro aO d7 eF ct eB dq ⟨rfl,rfl⟩
 have dr:sW w U aO [B1,.obj ae (.map ag af),.blk b2 45 B0] ct:=dq
 refine zX (cs:=hH KL.encI (Arr.fill 64 0).l) Z Z Z Z Z Tryz.zeroValue89 Z dr ?_
 intro cu aj dt
 have du:sW w U aO [.blk aj 89 (hH KL.encI (Arr.fill 64 0).l),B1,.obj ae (.map ag af),.blk b2 45 B0] cu:=dt
 refine za (j:=0) (vs:=hH KL.encI aa.l) rfl rfl rfl rfl du rfl rfl rfl rfl (fun w=>by rw [wCL (f:=KL.encI) (sz:=1) (N:=64) aa (fun _=>rfl) rfl];exact Tryz.sizeOf89 w) (by rw [wCL (f:=KL.encI) (sz:=1) (N:=64) aa (fun _=>rfl) rfl,wCL (f:=KL.encI) (sz:=1) (N:=64) (Arr.fill 64 0) (fun _=>rfl) rfl];exact zA rfl) (wGH (fun _=>rfl) _) (wJQ _ _ (by rw [wCL (f:=KL.encI) (sz:=1) (N:=64) aa (fun _=>rfl) rfl,wCL (f:=KL.encI) (sz:=1) (N:=64) (Arr.fill 64 0) (fun _=>rfl) rfl])) rfl ?_
 intro cw dv
 have ca:sW w U aO [.blk aj 89 (hH KL.encI aa.l),B1,.obj ae (.map ag af),.blk b2 45 B0] cw:=dv
 refine eN (sR fL1 Z (oA Z Z (eN (zJ (sR fL4 Z (oR Z (zM Z Z zP Z ZC) (oL Z (ca.ldB (j:=3) Z Z Z ZH (v:=.slice aJ O.Starts.length aK) Z) (oR Z (zx Z Z zD) (oM Z Z (eN (zY (bnK dW fun eI dD dX=>?_))))))))))))
 have q:=wBE dD
 obtain ⟨bx,dE⟩:=q
 replace bx:=zK bx
 refine CK.forN' (fun an aI σ_ w_=>∃ (U_:PHeap) (aM:Option Addr) (aQ:Nat),σ_ 28=jV (↑an:Int)/\σ_ 2=.pointer (some ⟨b2,0,none⟩)/\σ_ 8=.pointer (some ⟨aj,0,none⟩)/\σ_ 9=.slice aM aI.length aQ/\σ_ 27=jV (↑O.Starts.length:Int)/\PHeap.Le aO U_/\sW w U U_ [.blk aj 89 (hH KL.encI aa.l),B1,.obj ae (.map ag af),.blk b2 45 B0,.row aM aQ 37 2 (hH wAA aI)] w_) dE ?_ ?_ ?_
 have dw:=ca.nilrow 37 2
 exact ⟨aO,none,0,rfl,rfl,rfl,rfl,rfl,(zL _),(dw.pick [1,2,3,4,0] _ (by decide) rfl)⟩
 rintro an aI eH eO eh bv ⟨bj,aM,aQ,bt,bR,cB,cC,bS,d4,cZ⟩ dY
 have bJ:Hid ((↑an:Int) < (↑O.Starts.length:Int)):=zK (wAx bv)
 replace bv:=zK bv
 have dI:Hid (w64 ((↑an:Int) + 1)=(↑(an + 1):Int)):=zK (by have h1:=bx.out;have h2:=bJ.out;rw [wAW] <;> omega)
 refine sR fL1 Z (oR Z (zT Z bt bS) (eN (zJ (cT Z bJ (kN (zJ (zY (sR fL2 Z (oM Z bt (oA Z Z (eN (sR gBt Z ?_))))))))))))
 let B2:List Value:=[jV 0,jV 0]
 let B3:List Value:=[jV 1,jV 1]
 refine oR Z (zl (pv:=[(0,jV 1),(1,jV 1)]) (z:=B2) (cs:=B3) Z (wAE Z (wAE Z wAL)) ZF wCI Z Z) (zX (cs:=B2) Z Z Z Z Z ZF Z cZ ?_)
 intro d8 au c6
 refine za (j:=0) (vs:=B3) Z Z Z Z c6 Z Z Z Z zo (zA Z) Z Z Z ?_
 intro cm da
 let B4:Res:=.row aM aQ 37 2 (hH wAA aI)
 have bU:sW w U bj [.blk au 37 B3,.blk aj 89 (hH KL.encI aa.l),B1,.obj ae (.map ag af),.blk b2 45 B0,B4] cm:=da
 refine eN (zJ (sR fL4 Z (oR Z (zM Z bR zP Z ZC) (oL Z (bU.ldB (j:=4) Z Z Z ZH (v:=.slice aJ O.Starts.length aK) Z) (oR Z (zx Z Z zD) (oM Z Z (eN (zY ?_))))))))
 have q:=bnd dY
 obtain ⟨⟨be,bf⟩,dB,cb⟩:=q
 try dsimp only at cb
 have q:=wBE dB
 obtain ⟨bw,dC⟩:=q
 replace bw:=zK bw
 refine CK.forN' (fun av (aF,aq) σ_ w_=>∃ (U_:PHeap),σ_ 35=jV (↑av:Int)/\σ_ 2=.pointer (some ⟨b2,0,none⟩)/\σ_ 8=.pointer (some ⟨aj,0,none⟩)/\σ_ 9=.slice aM aI.length aQ/\σ_ 10=jV (↑an:Int)/\σ_ 11=.pointer (some ⟨au,0,none⟩)/\σ_ 27=jV (↑O.Starts.length:Int)/\σ_ 28=jV (↑an:Int)/\σ_ 34=jV (↑O.Starts.length:Int)/\PHeap.Le bj U_/\sW w U U_ [.blk au 37 [jV aF,jV aq],.blk aj 89 (hH KL.encI aa.l),B1,.obj ae (.map ag af),.blk b2 45 B0,B4] w_) dC ?_ ?_ ?_
 exact ⟨bj,Z,bR,cB,cC,Z,Z,bS,bt,Z,(zL _),bU⟩
 rintro av ⟨aF,aq⟩ eG eJ d9 bu ⟨ax,aH,aT,ay,aU,az,am,aV,aW,aR,aZ,aE⟩ cc
 try dsimp only at cc
 have bK:Hid ((↑av:Int) < (↑O.Starts.length:Int)):=zK (wAx bu)
 replace bu:=zK bu
 have aY:Hid (w64 ((↑av:Int) + 1)=(↑(av + 1):Int)):=zK (by have h1:=bw.out;have h2:=bK.out;rw [wAW] <;> omega)
 refine sR fL1 Z (oR Z (zT Z aH aR) (eN (zJ (cT Z bK (kN (zJ (zY (sR fL2 Z (oM Z aH (oA Z Z (eN (zJ (sR fL6 Z (oM Z az (oM Z Z (bnK cc fun _ ao dJ=>oR Z (Runs.iaA Z ay Z Tryz.runUnderlying89 Tryz.sizeOf88 (wAr ao) (wAs ao)) (bnK dJ fun _ ap dK=>oR Z (Runs.iaA Z Z Z Tryz.runUnderlying88 zC (wAr ap) (wAs ap)) ?_)))))))))))))))))
 have dF:=Arr.at_ aa (k:=(an * 8 + av)) (by have hz0:=wAR ao;have hz1:=wAR ap;omega)
 refine ZD rfl rfl rfl rfl (aE.ldB (j:=1) rfl rfl rfl zF (wAT (sz:=1) (fun _=>rfl) _ _ 0 _ dF (by first | omega | rfl | simp) rfl)) rfl (ze rfl rfl rfl rfl (fun _=>zT rfl rfl rfl) (eN (ifc dK ?_ ?_)))
 intro bn dL
 refine cT Z bn (rR (wDu (.fx 4 .nil .stop)) Z (oR Z (zM Z am ZU Z zC) (oL Z (aE.ldB (j:=0) Z Z Z zF (v:=jV aF) Z) (oR Z (zV Z Z Z) (oR Z (zM Z am ZU Z zC) (za (j:=0) (vs:=[jV (w64 (aF + 1))]) Z Z Z Z aE Z Z Z Z zC (zA Z) Z Z Z ?_))))))
 intro cn db
 have aX:sW w U ax [.blk au 37 [jV (w64 (aF + 1)),jV aq],.blk aj 89 (hH KL.encI aa.l),B1,.obj ae (.map ag af),.blk b2 45 B0,B4] cn:=db
 refine eN (sR fL6 Z (oM Z Z (oM Z az (oR Z (Runs.iaA Z ay Z Tryz.runUnderlying89 Tryz.sizeOf88 (wAr ap) (wAs ap)) (oR Z (Runs.iaA Z Z Z Tryz.runUnderlying88 zC (wAr ao) (wAs ao)) ?_)))))
 have dG:=Arr.at_ aa (k:=(av * 8 + an)) (by have hz0:=wAR ap;have hz1:=wAR ao;omega)
 refine ZD rfl rfl rfl rfl (aX.ldB (j:=1) rfl rfl rfl zF (wAT (sz:=1) (fun _=>rfl) _ _ 0 _ dG (by first | omega | rfl | simp) rfl)) rfl (ze rfl rfl rfl rfl (fun _=>ye rfl rfl rfl) (eN (ifc dL ?_ ?_)))
 intro bo dM
 refine cT Z bo (rR (wDu (.fx 4 .nil .stop)) Z (oR Z (zM Z am ZU Z zC) (oL Z (aX.ldB (j:=0) Z Z Z zF (v:=jV aq) Z) (oR Z (zV Z Z Z) (oR Z (zM Z am ZU Z zC) (za (j:=0) (vs:=[jV (w64 (aq + 1))]) Z Z Z Z aX Z Z Z Z zC (zA Z) Z Z Z ?_))))))
 intro co dd
 have de:sW w U ax [.blk au 37 [jV (w64 (aF + 1)),jV (w64 (aq + 1))],.blk aj 89 (hH KL.encI aa.l),B1,.obj ae (.map ag af),.blk b2 45 B0,B4] co:=dd
 refine zc (zk (zI (rR fL2 Z (oR Z (ZI (zV Z aH Z) (congrArg (jV) aY.out)) (oM Z Z (zc ?_))))))
 cases dM
 exact zI ⟨Z,⟨ax,Z,aT,ay,aU,az,am,aV,aW,aR,aZ,de⟩⟩
 intro bo dN
 refine cF Z bo (ZS (zk (zI (rR fL2 Z (oR Z (ZI (zV Z aH Z) (congrArg (jV) aY.out)) (oM Z Z (zc ?_)))))))
 cases dN
 exact zI ⟨Z,⟨ax,Z,aT,ay,aU,az,am,aV,aW,aR,aZ,aX⟩⟩
 intro bn dO
 refine cF Z bn (kN (sR fL6 Z (oM Z Z (oM Z az (oR Z (Runs.iaA Z ay Z Tryz.runUnderlying89 Tryz.sizeOf88 (wAr ap) (wAs ap)) (oR Z (Runs.iaA Z Z Z Tryz.runUnderlying88 zC (wAr ao) (wAs ao)) ?_))))))
 have dH:=Arr.at_ aa (k:=(av * 8 + an)) (by have hz0:=wAR ap;have hz1:=wAR ao;omega)
 refine ZD rfl rfl rfl rfl (aE.ldB (j:=1) rfl rfl rfl zF (wAT (sz:=1) (fun _=>rfl) _ _ 0 _ dH (by first | omega | rfl | simp) rfl)) rfl (ze rfl rfl rfl rfl (fun _=>ye rfl rfl rfl) (eN (ifc dO ?_ ?_)))
 intro bp dP
 refine cT Z bp (rR (wDu (.fx 4 .nil .stop)) Z (oR Z (zM Z am ZU Z zC) (oL Z (aE.ldB (j:=0) Z Z Z zF (v:=jV aq) Z) (oR Z (zV Z Z Z) (oR Z (zM Z am ZU Z zC) (za (j:=0) (vs:=[jV (w64 (aq + 1))]) Z Z Z Z aE Z Z Z Z zC (zA Z) Z Z Z ?_))))))
 intro cp df
 have dg:sW w U ax [.blk au 37 [jV aF,jV (w64 (aq + 1))],.blk aj 89 (hH KL.encI aa.l),B1,.obj ae (.map ag af),.blk b2 45 B0,B4] cp:=df
 refine zc (zk (zI (rR fL2 Z (oR Z (ZI (zV Z aH Z) (congrArg (jV) aY.out)) (oM Z Z (zc ?_))))))
 cases dP
 exact zI ⟨Z,⟨ax,Z,aT,ay,aU,az,am,aV,aW,aR,aZ,dg⟩⟩
 intro bp dQ
 refine cF Z bp (ZS (zk (zI (rR fL2 Z (oR Z (ZI (zV Z aH Z) (congrArg (jV) aY.out)) (oM Z Z (zc ?_)))))))
 cases dQ
 exact zI ⟨Z,⟨ax,Z,aT,ay,aU,az,am,aV,aW,aR,aZ,aE⟩⟩
 rintro eL ef ⟨bi,cN,cD,cE,cG,ej,cH,cI,cJ,cK,dZ,bW⟩
 have cy:Hid (¬ ((↑(((↑O.Starts.length:Int):Int) - 0).toNat:Int) < (↑O.Starts.length:Int))):=zK (wAd)
 refine sR fL1 Z (oR Z (zT Z cN cK) (eN (zJ (cF Z cy (ZQ (zg (zg (ZJ (zI (rR (.fl 0 (.fl 1 gBr)) Z (oM Z cG ?_)))))))))))
 let B5:List Value:=[jV be,jV bf]
 refine oL Z (bW.ldBA (j:=0) Z Z cH Zr zo (vs:=B5) Z Z) (zr (pv:=[(0,.agg B5.toArray)]) (zs:=B2) (cs:=B5) Z Z Z Z Z (wAE Z wAL) zy zo ZF Z Z Z Z Z bW ?_)
 intro cq cx dh
 let B6:Res:=.row (some ⟨cx,0,none⟩) 1 37 2 (hH wAA [(⟨be,bf⟩:wAF)])
 have bX:sW w U bi [B6,.blk au 37 B5,.blk aj 89 (hH KL.encI aa.l),B1,.obj ae (.map ag af),.blk b2 45 B0,B4] cq:=dh
 refine bnK cb fun cd cP dR=>Zn (j:=6) (enc:=wAA) (xs:=aI) (ys:=[(⟨be,bf⟩:wAF)]) (zs:=cd) rfl rfl rfl rfl rfl yX wFk rfl rfl rfl rfl rfl rfl bX rfl rfl rfl (bX.srcR (j:=0) rfl (by decide) (wAC (f:=wAA) (sz:=2) (fun _=>rfl) [(⟨be,bf⟩:wAF)])) (fun _=>rfl) (fun _=>rfl) cP rfl ?_
 intro bD bO cr di
 have dk:sW w U bi [B6,.blk au 37 B5,.blk aj 89 (hH KL.encI aa.l),B1,.obj ae (.map ag af),.blk b2 45 B0,.row bD bO 37 2 (hH wAA cd)] cr:=di
 refine oA Z Z (zc (zk (zI (rR fL2 Z (oR Z (ZI (zV Z cJ Z) (congrArg (jV) dI.out)) (oM Z Z (zc ?_)))))))
 cases dR
 exact zI ⟨rfl,⟨bi,bD,bO,rfl,cD,cE,rfl,cI,(d4.trans dZ),(dk.pick [2,3,4,5,6] _ (by decide) rfl)⟩⟩
 rintro eM eg ⟨ci,cg,cz,cO,en,eo,cL,cM,eA,dl⟩
 have cA:Hid (¬ ((↑(((↑O.Starts.length:Int):Int) - 0).toNat:Int) < (↑O.Starts.length:Int))):=zK (wAd)
 refine sR fL1 Z (oR Z (zT Z cO cM) (eN (zJ (cF Z cA (ZQ (zg (zg (ZJ (zI (sR fL3 Z (oM Z cL (oA Z Z (oA Z Z (eN (zR ?_)))))))))))))))
 cases dX
 exact ⟨rfl,_,(wDw rfl rfl),ci,_,(dl.pick [4] _ (by decide) rfl),cg,cz,rfl,rfl⟩
 intro br dS
 refine cT Z br (sR fL3 Z (oM Z Z (oA Z Z (oA Z Z (eN (zR (zW ?_)))))))
 have dm:=bZ.nilrow 37 2
 cases dS
 exact ⟨rfl,_,(wDw rfl rfl),U9,_,(dm.pick [0] _ (by decide) rfl),none,0,rfl,rfl⟩
end Go.Proofs.YtkghaiefcjgfkaaGreat
