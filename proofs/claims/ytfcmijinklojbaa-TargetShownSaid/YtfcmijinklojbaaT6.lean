import Derived.Test.YtfcmijinklojbaaT5
import Derived.Test.YtfcmijinklojbaaT4
set_option linter.all false
open List renaming flatMap->hH,set->nB,getElem_cons_succ->nD,getElem_cons_zero->nE,getElem_toArray->nH,length_set->nK
open Option.some renaming inj->nA
open Go.Value renaming bool->nG
open Bool renaming eq_false_iff->nI
open Int renaming toNat_natCast->nJ
namespace Go.Proofs.Ytfcmijinklojbaa
open Go.KL
def gAu:Sch:=.fx 2 (.fl 3 .nil) .stop
def gAv:Sch:=.fx 8 (.fl 9 .nil) .stop
def gAw:Sch:=.fx 5 (.fl 6 .nil) .stop
def gAx:Sch:=.fl 0 (.fx 1 .nil .stop)
def gAy:Sch:=.fx 1 (.fl 2 .nil) .stop
def gAz:Sch:=.fx 7 (.fl 8 .nil) .stop
def gBa:Sch:=.fx 0 (.fl 1 .nil) .stop
def gBb:Sch:=.fx 3 (.fl 4 .nil) .stop
def gBc:Sch:=.fl 0 (.fl 1 (.fx 2 .nil .stop))
def gBd:Sch:=.fx 0 gAy .stop
def gBe:Sch:=.fx 3 (.fx 4 (.fl 5 .nil) .stop) .stop
def gBf:Sch:=.fx 3 (.fx 4 (.fx 5 .nil .stop) .stop) .stop
def gBg:Sch:=.fx 6 gAz .stop
def gBh:Sch:=.fx 1 gAu .stop
def gBi:Sch:=.fl 0 gAy
def gBj:Sch:=.fx 0 (.fl 1 (.fl 2 .nil)) .stop
def gBk:Sch:=.fx 4 (.fl 5 (.fl 6 .nil)) .stop
def gBl:Sch:=.fx 8 (.fx 9 (.fl 10 .nil) .stop) .stop
def gBm:Sch:=.fl 0 (.fl 1 gAu)
set_option maxHeartbeats 4000000
theorem wBd (p0:List Int) (ae:Option Addr) (aq:Nat) (w:World) (U:PHeap) (hS:St0 w U []) (ap:Sl U 1 ae aq p0.length (hH KL.encI p0)) {r:(List Int)} (hm:wAR p0=some r):Gv Try.prog 44 [.slice ae p0.length aq] w (wCY w [] U (fun U_ L_ v=>∃ (A0:Option Addr) (c0:Nat),v=.slice A0 r.length c0/\L_=[.row A0 c0 3 1 (hH KL.encI r)])):=by
 unfold wAR at hm
 refine Gv.of Try.func44 Z Try.ntmps44 Try.results44 Z (sR fL1 Z (oA Z Z (eN (zF (sR fL2 Z (oM Z Z (oR Z (Runs.eqNil Z Z Z zB) (eN ?_))))))))
 by_cases c1:ae.isNone=true
 replace c1:=zO c1
 have bf:p0=[]:=List.eq_nil_of_length_eq_zero (Sl.nilA (Option.isNone_iff_eq_none.1 c1.out ▸ ap))
 have be:(some [])=some r:=by simpa [bf,app] using hm
 refine zt (congrArg nG c1.out) (sR fL1 Z (oA Z Z (eN (zR (zW ?_)))))
 have aZ:=hS.nilrow 3 1
 cases be
 exact ⟨Z,_,(zx Z),U,_,aZ,none,0,Z,Z⟩
 replace c1:=zO c1
 refine zg (congrArg nG (nI.2 c1.out)) (kN (sR (.fx 0 (.fl 1 gAu) .stop) Z (OKS.buildSlice0 1 Z Z Z Z Z zB zD hS ?_)))
 intro W6 b7 ba
 have am:sW w U U [.row (some ⟨b7,0,none⟩) 0 3 1 (hH KL.encI ([]:List Int))] W6:=ba
 refine oM Z Z (bnK hm fun au aW bb=>OKS.append (j:=0) (enc:=KL.encI) (xs:=([]:List Int)) (ys:=p0) (zs:=au) Z Z Z Z Z Try.underlying23 wJT Z Z Z Z Z Z am Z Z Z (am.srcS ap) (fun _=>Z) (fun _=>Z) aW Z ?_)
 intro ai ak av aX
 have aY:sW w U U [.row ai ak 3 1 (hH KL.encI au)] av:=aX
 refine oA Z Z (eN (zR ?_))
 have hE:=nA bb;first | subst r | cases hE
 exact ⟨Z,_,(zx Z),U,_,aY,ai,ak,Z,Z⟩
theorem wBi (p0:wAD) (aV:Nat) (ak:Option Addr) (ap:Nat) (am:Option Addr) (aq:Nat) (ae:Option Addr) (ah:Nat) (ab:Nat) (aW:Array MapEntry) (aX:Nat) (p1:Int) (p2:Int) (p3:Int) (w:World) (U:PHeap) (hS:St0 w U [.blk aV 99 ([.slice ak p0.Bout.Shots.length ap,.slice am p0.Bout.Down.length aq,.slice ae p0.Bout.Across.length ah,.map (some ab)] ++ ((hH KL.encI p0.hits.l) ++ ((hH KL.encI p0.used.l) ++ (hH KL.encT p0.met.l)))),.obj ab (.map aW aX)]) (cI:Sl U 1 ak ap p0.Bout.Shots.length (hH KL.encI p0.Bout.Shots)) (cJ:Sl U 1 am aq p0.Bout.Down.length (hH KL.encI p0.Bout.Down)) (cK:Sl U 2 ae ah p0.Bout.Across.length (hH wAB p0.Bout.Across)) (dk:MpR aW wFL wFc p0.may) {r:wAD} (hm:wAL p0 p1 p2 p3=some r):Gv Try.prog 64 [.pointer (some ⟨aV,0,none⟩),jV p1,jV p2,jV p3] w (wCY w [.blk aV 99 ([.slice ak p0.Bout.Shots.length ap,.slice am p0.Bout.Down.length aq,.slice ae p0.Bout.Across.length ah,.map (some ab)] ++ ((hH KL.encI p0.hits.l) ++ ((hH KL.encI p0.used.l) ++ (hH KL.encT p0.met.l)))),.obj ab (.map aW aX)] U (fun U_ L_ v=>∃ (b0:Nat) (A0p00:Option Addr) (c0p00:Nat) (A0p01:Option Addr) (c0p01:Nat) (A0p02:Option Addr) (c0p02:Nat) (m0p1:Nat) (es0p1:Array MapEntry) (ck0p1:Nat),v=.pointer (some ⟨b0,0,none⟩)/\L_=[.blk b0 99 ([.slice A0p00 r.Bout.Shots.length c0p00,.slice A0p01 r.Bout.Down.length c0p01,.slice A0p02 r.Bout.Across.length c0p02,.map (some m0p1)] ++ ((hH KL.encI r.hits.l) ++ ((hH KL.encI r.used.l) ++ (hH KL.encT r.met.l)))),.obj m0p1 (.map es0p1 ck0p1),.blk aV 99 ([.slice ak p0.Bout.Shots.length ap,.slice am p0.Bout.Down.length aq,.slice ae p0.Bout.Across.length ah,.map (some ab)] ++ ((hH KL.encI p0.hits.l) ++ ((hH KL.encI p0.used.l) ++ (hH KL.encT p0.met.l)))),.obj ab (.map aW aX)]/\Sl U_ 1 A0p00 c0p00 r.Bout.Shots.length (hH KL.encI r.Bout.Shots)/\Sl U_ 1 A0p01 c0p01 r.Bout.Down.length (hH KL.encI r.Bout.Down)/\Sl U_ 2 A0p02 c0p02 r.Bout.Across.length (hH wAB r.Bout.Across)/\MpR es0p1 wFL wFc r.may)):=by
 unfold wAL at hm
 refine Gv.of Try.func64 rfl Try.ntmps64 Try.results64 rfl (sR fL1 rfl (OKS.ra rfl rfl rfl rfl rfl rfl (eN (zF (ZK ZL [3,3,3,3,1,2,3,3,3,3,1,2,3,3] (wGw (wRV (.fx 5 (.fx 11 (.fl 12 (.fl 13 .nil)) .stop) .stop))) (by kernel_rfl) ?_)))))
 have bl:=hS.drew
 generalize hw_W4:({ w with drawn:=w.drawn + 1 }:World)=W4 at bl ⊢
 refine oM Z Z (oR Z (zl Z Z) (oR Z (zJ Z Z zU Z zZ) (oR Z (zJ Z Z zE Z zY) (oL Z (bl.ldB (j:=0) Z Z Z zi (v:=.slice ak p0.Bout.Shots.length ap) Z) (oM Z Z (oR Z (zl Z Z) (oR Z (zJ Z Z zU Z zZ) (oR Z (zJ Z Z zE Z zY) (oL Z (bl.ldB (j:=0) Z Z Z zi (v:=.slice am p0.Bout.Down.length aq) Z) (bnK hm fun x5 h6 cV=>zH 0 Z Z Z Z (zG Z Z Try.call44 (zA Z zQ) Z) bl (fun hs=>wBd p0.Bout.Shots ak ap W4 U hs cI h6) (.inr Z) ?_))))))))))
 rintro U8 L9 dp bG bN cx ⟨ba,be,rfl,rfl⟩
 let B0:Res:=.row ba be 3 1 (hH KL.encI x5)
 have cy:SW w [.blk aV 99 ([.slice ak p0.Bout.Shots.length ap,.slice am p0.Bout.Down.length aq,.slice ae p0.Bout.Across.length ah,.map (some ab)] ++ ((hH KL.encI p0.hits.l) ++ ((hH KL.encI p0.used.l) ++ (hH KL.encT p0.met.l)))),.obj ab (.map aW aX)] U U8 [B0,.blk aV 99 ([.slice ak p0.Bout.Shots.length ap,.slice am p0.Bout.Down.length aq,.slice ae p0.Bout.Across.length ah,.map (some ab)] ++ ((hH KL.encI p0.hits.l) ++ ((hH KL.encI p0.used.l) ++ (hH KL.encT p0.met.l)))),.obj ab (.map aW aX)] bG:=cx
 have bZ:=cJ.le bN
 refine bnK cV fun au b5 cQ=>zH 0 Z Z Z Z (zG Z Z Try.call44 (zA Z zQ) Z) cy (fun hs=>wBd p0.Bout.Down am aq bG U8 hs bZ b5) (.inr Z) ?_
 rintro bq db dq bQ cZ cz ⟨bb,bf,rfl,rfl⟩
 let B1:Res:=.row bb bf 3 1 (hH KL.encI au)
 have bv:SW w [.blk aV 99 ([.slice ak p0.Bout.Shots.length ap,.slice am p0.Bout.Down.length aq,.slice ae p0.Bout.Across.length ah,.map (some ab)] ++ ((hH KL.encI p0.hits.l) ++ ((hH KL.encI p0.used.l) ++ (hH KL.encT p0.met.l)))),.obj ab (.map aW aX)] U bq [B1,B0,.blk aV 99 ([.slice ak p0.Bout.Shots.length ap,.slice am p0.Bout.Down.length aq,.slice ae p0.Bout.Across.length ah,.map (some ab)] ++ ((hH KL.encI p0.hits.l) ++ ((hH KL.encI p0.used.l) ++ (hH KL.encT p0.met.l)))),.obj ab (.map aW aX)] bQ:=cz
 refine oA Z Z (oA Z Z (eN (sR (wHF (.fx 7 .nil .stop)) Z (oM Z Z (oM Z Z (bnK cQ fun _ aY cR=>?_))))))
 obtain ⟨dg,bj⟩:=bv.rowSome (j:=1) rfl (by rw [wAG (f:=KL.encI) (sz:=1) (fun _=>rfl) x5];have hz:=wAK aY;omega)
 refine oR Z (ZQ Z Z bj Z zB zD (wAx aY) (wAy aY)) ?_
 have cM:=wBx (xs:=x5) (wAK aY)
 refine zq rfl rfl rfl rfl (bv.ldR (j:=1) rfl bj rfl rfl zM (wAj (sz:=1) (fun _=>rfl) _ _ 0 _ cM (by first | omega | rfl | simp) rfl)) rfl (zV rfl rfl rfl rfl rfl rfl (zN rfl rfl rfl rfl (fun _=>ZY rfl rfl rfl) (zN rfl rfl rfl rfl (fun _=>ZQ rfl rfl bj rfl zB zD (wAx aY) (wAy aY)) ?_)))
 have cN:=wBx (xs:=x5) (wAK aY)
 refine OKS.stR (j:=1) (vs:=[jV (w64 ((gd x5 p1.toNat) - p3))]) (cs':=hH KL.encI (nB x5 p1.toNat (w64 ((gd x5 p1.toNat) - p3)))) rfl rfl rfl rfl bv rfl bj rfl rfl rfl zD (by rw [wAG (f:=KL.encI) (sz:=1) (fun _=>rfl)];have hz:=wAK aY;show _ + 1 <= _;first | omega | (simp only [nJ];omega) | (simp only [nH,nD,nE];omega)) rfl (wCv (sz:=1) (fo:=0) (fun _=>rfl) _ _ _ _ cN (by first | omega | (simp only [nJ];omega) | (simp only [nH,nD,nE];omega)) (zC rfl) rfl) rfl ?_
 intro bR cA
 let B2:Res:=.row ba be 3 1 (hH KL.encI (nB x5 p1.toNat (w64 ((gd x5 p1.toNat) - p3))))
 have bw:SW w [.blk aV 99 ([.slice ak p0.Bout.Shots.length ap,.slice am p0.Bout.Down.length aq,.slice ae p0.Bout.Across.length ah,.map (some ab)] ++ ((hH KL.encI p0.hits.l) ++ ((hH KL.encI p0.used.l) ++ (hH KL.encT p0.met.l)))),.obj ab (.map aW aX)] U bq [B1,B2,.blk aV 99 ([.slice ak p0.Bout.Shots.length ap,.slice am p0.Bout.Down.length aq,.slice ae p0.Bout.Across.length ah,.map (some ab)] ++ ((hH KL.encI p0.hits.l) ++ ((hH KL.encI p0.used.l) ++ (hH KL.encT p0.met.l)))),.obj ab (.map aW aX)] bR:=cA
 refine eN (sR (wHF (.fx 7 .nil .stop)) Z (oM Z Z (oM Z Z (bnK cR fun _ aZ cS=>?_))))
 obtain ⟨dh,bk⟩:=bw.rowSome (j:=0) rfl (by rw [wAG (f:=KL.encI) (sz:=1) (fun _=>rfl) au];have hz:=wAK aZ;omega)
 refine oR Z (ZQ Z Z bk Z zB zD (wAx aZ) (wAy aZ)) ?_
 have cO:=wBx (xs:=au) (wAK aZ)
 refine zq rfl rfl rfl rfl (bw.ldR (j:=0) rfl bk rfl rfl zM (wAj (sz:=1) (fun _=>rfl) _ _ 0 _ cO (by first | omega | rfl | simp) rfl)) rfl (zV rfl rfl rfl rfl rfl rfl (zN rfl rfl rfl rfl (fun _=>ZY rfl rfl rfl) (zN rfl rfl rfl rfl (fun _=>ZQ rfl rfl bk rfl zB zD (wAx aZ) (wAy aZ)) ?_)))
 have cP:=wBx (xs:=au) (wAK aZ)
 refine OKS.stR (j:=0) (vs:=[jV (w64 ((gd au p2.toNat) - p3))]) (cs':=hH KL.encI (nB au p2.toNat (w64 ((gd au p2.toNat) - p3)))) rfl rfl rfl rfl bw rfl bk rfl rfl rfl zD (by rw [wAG (f:=KL.encI) (sz:=1) (fun _=>rfl)];have hz:=wAK aZ;show _ + 1 <= _;first | omega | (simp only [nJ];omega) | (simp only [nH,nD,nE];omega)) rfl (wCv (sz:=1) (fo:=0) (fun _=>rfl) _ _ _ _ cP (by first | omega | (simp only [nJ];omega) | (simp only [nH,nD,nE];omega)) (zC rfl) rfl) rfl ?_
 intro bh cB
 let B3:Res:=.row bb bf 3 1 (hH KL.encI (nB au p2.toNat (w64 ((gd au p2.toNat) - p3))))
 have bL:SW w [.blk aV 99 ([.slice ak p0.Bout.Shots.length ap,.slice am p0.Bout.Down.length aq,.slice ae p0.Bout.Across.length ah,.map (some ab)] ++ ((hH KL.encI p0.hits.l) ++ ((hH KL.encI p0.used.l) ++ (hH KL.encT p0.met.l)))),.obj ab (.map aW aX)] U bq [B3,B2,.blk aV 99 ([.slice ak p0.Bout.Shots.length ap,.slice am p0.Bout.Down.length aq,.slice ae p0.Bout.Across.length ah,.map (some ab)] ++ ((hH KL.encI p0.hits.l) ++ ((hH KL.encI p0.used.l) ++ (hH KL.encT p0.met.l)))),.obj ab (.map aW aX)] bh:=cB
 refine eN (sR (wKn gAv) rfl (zV rfl rfl rfl rfl rfl (Eq.trans (b:=(.slice ba x5.length be:Value)) (c:=(.slice ba ((nB x5 p1.toNat (w64 ((gd x5 p1.toNat) - p3))).length) be:Value)) rfl (by simp only [nK])) (zV rfl rfl rfl rfl rfl (Eq.trans (b:=(.slice bb au.length bf:Value)) (c:=(.slice bb ((nB au p2.toNat (w64 ((gd au p2.toNat) - p3))).length) bf:Value)) rfl (by simp only [nK])) (zV rfl rfl rfl rfl rfl rfl (zN rfl rfl rfl rfl (fun _=>zl rfl rfl) (zN rfl rfl rfl rfl (fun _=>zJ rfl rfl zU rfl zZ) (zN rfl rfl rfl rfl (fun _=>zJ rfl rfl zE rfl Zd) (zq rfl rfl rfl rfl (bL.ldB (j:=2) rfl rfl rfl Zj (v:=.slice ae p0.Bout.Across.length ah) rfl) rfl (zN rfl rfl rfl rfl (fun _=>ZN (pv:=[(0,.slice ba ((nB x5 p1.toNat (w64 ((gd x5 p1.toNat) - p3))).length) be),(1,.slice bb ((nB au p2.toNat (w64 ((gd au p2.toNat) - p3))).length) bf),(2,.slice ae p0.Bout.Across.length ah)]) (z:=[.slice none 0 0,.slice none 0 0,.slice none 0 0]) (cs:=[.slice ba ((nB x5 p1.toNat (w64 ((gd x5 p1.toNat) - p3))).length) be,.slice bb ((nB au p2.toNat (w64 ((gd au p2.toNat) - p3))).length) bf,.slice ae p0.Bout.Across.length ah]) rfl (wAb rfl (wAb rfl (wAb rfl wAz))) Zl wJy rfl rfl) ?_)))))))))
 have q:=bL.freezeR (k:=1) (n:=(nB x5 p1.toNat (w64 ((gd x5 p1.toNat) - p3))).length) rfl (wAG (f:=KL.encI) (sz:=1) (fun _=>rfl) (nB x5 p1.toNat (w64 ((gd x5 p1.toNat) - p3)))) (by decide)
 obtain ⟨bP,da,cX,cC⟩:=q
 have cD:SW w [.blk aV 99 ([.slice ak p0.Bout.Shots.length ap,.slice am p0.Bout.Down.length aq,.slice ae p0.Bout.Across.length ah,.map (some ab)] ++ ((hH KL.encI p0.hits.l) ++ ((hH KL.encI p0.used.l) ++ (hH KL.encT p0.met.l)))),.obj ab (.map aW aX)] U bP [B3,.blk aV 99 ([.slice ak p0.Bout.Shots.length ap,.slice am p0.Bout.Down.length aq,.slice ae p0.Bout.Across.length ah,.map (some ab)] ++ ((hH KL.encI p0.hits.l) ++ ((hH KL.encI p0.used.l) ++ (hH KL.encT p0.met.l)))),.obj ab (.map aW aX)] bh:=cC
 have q:=cD.freezeR (k:=0) (n:=(nB au p2.toNat (w64 ((gd au p2.toNat) - p3))).length) rfl (wAG (f:=KL.encI) (sz:=1) (fun _=>rfl) (nB au p2.toNat (w64 ((gd au p2.toNat) - p3)))) (by decide)
 obtain ⟨bE,bO,cY,cE⟩:=q
 have cG:SW w [.blk aV 99 ([.slice ak p0.Bout.Shots.length ap,.slice am p0.Bout.Down.length aq,.slice ae p0.Bout.Across.length ah,.map (some ab)] ++ ((hH KL.encI p0.hits.l) ++ ((hH KL.encI p0.used.l) ++ (hH KL.encT p0.met.l)))),.obj ab (.map aW aX)] U bE [.blk aV 99 ([.slice ak p0.Bout.Shots.length ap,.slice am p0.Bout.Down.length aq,.slice ae p0.Bout.Across.length ah,.map (some ab)] ++ ((hH KL.encI p0.hits.l) ++ ((hH KL.encI p0.used.l) ++ (hH KL.encT p0.met.l)))),.obj ab (.map aW aX)] bh:=cE
 have cb:=cX.le bO
 have cf:=cK.le bN
 have cg:=cf.le cZ
 have ci:=cg.le da
 have cj:=ci.le bO
 refine bnK cS fun x65 cn cU=>zH 0 Z Z Z Z (zG Z Z Try.call45 (zA Z zQ) Z) cG (fun hs=>wDG (⟨(nB x5 p1.toNat (w64 ((gd x5 p1.toNat) - p3))),(nB au p2.toNat (w64 ((gd au p2.toNat) - p3))),p0.Bout.Across⟩:wAC) ba be bb bf ae ah bh bE hs cb cY cj cn) (.inr Z) ?_
 rintro br de dr bT dm cH ⟨bi,bn,bs,bo,bt,bp,bu,bg,bW,bV,rfl,rfl,cp,cq,cr,ct⟩
 have bM:SW w [.blk aV 99 ([.slice ak p0.Bout.Shots.length ap,.slice am p0.Bout.Down.length aq,.slice ae p0.Bout.Across.length ah,.map (some ab)] ++ ((hH KL.encI p0.hits.l) ++ ((hH KL.encI p0.used.l) ++ (hH KL.encT p0.met.l)))),.obj ab (.map aW aX)] U br [.blk bi 99 ([.slice bn x65.Bout.Shots.length bs,.slice bo x65.Bout.Down.length bt,.slice bp x65.Bout.Across.length bu,.map (some bg)] ++ ((hH KL.encI x65.hits.l) ++ ((hH KL.encI x65.used.l) ++ (hH KL.encT x65.met.l)))),.obj bg (.map bW bV),.blk aV 99 ([.slice ak p0.Bout.Shots.length ap,.slice am p0.Bout.Down.length aq,.slice ae p0.Bout.Across.length ah,.map (some ab)] ++ ((hH KL.encI p0.hits.l) ++ ((hH KL.encI p0.used.l) ++ (hH KL.encT p0.met.l)))),.obj ab (.map aW aX)] bT:=cH
 refine oA Z Z (eN (zF (Zo fun bz bm=>?_)))
 have bX:bz 1=jV p1:=(bm 1).trans rfl
 have bY:bz 2=jV p2:=(bm 2).trans rfl
 have bK:bz 11=.pointer (some ⟨bi,0,none⟩):=(bm 11).trans rfl
 clear bm
 refine rR (wHF (.fx 7 .nil .stop)) Z (oM Z bK (oR Z (zl Z Z) (oR Z (zJ Z Z zU Z Try.sizeOf92) (oL Z (bM.ldB (j:=0) Z Z Z Try.isAgg92 (v:=.map (some bg)) Z) (oM Z bX (oM Z bY (oR Z (ZN (pv:=[(0,jV p1),(1,jV p2)]) (z:=[jV 0,jV 0]) (cs:=[jV p1,jV p2]) Z (wAb Z (wAb Z wAz)) Zf wDm Z Z) (OKS.mapDel (j:=1) (mk:=wFL) (mv:=wFc) (a:=(⟨p1,p2⟩:wAA)) Z Z Z Z bM Z Z Z (wDq Try.runUnderlying92) wIb ct false Z ?_))))))))
 intro bJ bI bU cW cu
 have cw:SW w [.blk aV 99 ([.slice ak p0.Bout.Shots.length ap,.slice am p0.Bout.Down.length aq,.slice ae p0.Bout.Across.length ah,.map (some ab)] ++ ((hH KL.encI p0.hits.l) ++ ((hH KL.encI p0.used.l) ++ (hH KL.encT p0.met.l)))),.obj ab (.map aW aX)] U br [.blk bi 99 ([.slice bn x65.Bout.Shots.length bs,.slice bo x65.Bout.Down.length bt,.slice bp x65.Bout.Across.length bu,.map (some bg)] ++ ((hH KL.encI x65.hits.l) ++ ((hH KL.encI x65.used.l) ++ (hH KL.encT x65.met.l)))),.obj bg (.map bJ bI),.blk aV 99 ([.slice ak p0.Bout.Shots.length ap,.slice am p0.Bout.Down.length aq,.slice ae p0.Bout.Across.length ah,.map (some ab)] ++ ((hH KL.encI p0.hits.l) ++ ((hH KL.encI p0.used.l) ++ (hH KL.encT p0.met.l)))),.obj ab (.map aW aX)] bU:=cu
 refine eN (sR fL2 Z (oM Z bK (oA Z Z (eN (zR ?_)))))
 cases cU
 exact ⟨Z,_,(zx Z),br,_,cw,bi,bn,bs,bo,bt,bp,bu,bg,bJ,bI,Z,Z,cp,cq,cr,cW⟩
theorem wDR (p0:wAD) (ae:Nat) (ah:Option Addr) (ak:Nat) (ai:Option Addr) (am:Nat) (aj:Option Addr) (ap:Nat) (ab:Nat) (aq:Array MapEntry) (au:Nat) (p1:Int) (p2:Int) (w:World) (U:PHeap) (hS:St0 w U [.blk ae 99 ([.slice ah p0.Bout.Shots.length ak,.slice ai p0.Bout.Down.length am,.slice aj p0.Bout.Across.length ap,.map (some ab)] ++ ((hH KL.encI p0.hits.l) ++ ((hH KL.encI p0.used.l) ++ (hH KL.encT p0.met.l)))),.obj ab (.map aq au)]) (bW:Sl U 1 ah ak p0.Bout.Shots.length (hH KL.encI p0.Bout.Shots)) (bX:Sl U 1 ai am p0.Bout.Down.length (hH KL.encI p0.Bout.Down)) (bY:Sl U 2 aj ap p0.Bout.Across.length (hH wAB p0.Bout.Across)) (bZ:MpR aq wFL wFc p0.may) {r:wAc} (hm:wBL p0 p1 p2=some r):Gv Try.prog 48 [.pointer (some ⟨ae,0,none⟩),jV p1,jV p2] w (wCY w [.blk ae 99 ([.slice ah p0.Bout.Shots.length ak,.slice ai p0.Bout.Down.length am,.slice aj p0.Bout.Across.length ap,.map (some ab)] ++ ((hH KL.encI p0.hits.l) ++ ((hH KL.encI p0.used.l) ++ (hH KL.encT p0.met.l)))),.obj ab (.map aq au)] U (fun U_ L_ v=>v=.agg #[jV r.Lo,jV r.Hi]/\L_=[.blk ae 99 ([.slice ah p0.Bout.Shots.length ak,.slice ai p0.Bout.Down.length am,.slice aj p0.Bout.Across.length ap,.map (some ab)] ++ ((hH KL.encI p0.hits.l) ++ ((hH KL.encI p0.used.l) ++ (hH KL.encT p0.met.l)))),.obj ab (.map aq au)])):=by
 unfold wBL at hm
 refine Gv.of Try.func48 Z Try.ntmps48 Try.results48 Z (sR (.fx 0 .nil .stop) Z ?_)
 let B0:List Value:=[jV 0,jV 0]
 refine ZW (cs:=B0) Z Z Z Z Z zz Z hS ?_
 intro W3 b4 dg
 refine eN (sR (.fl 0 (.fx 1 (.fx 2 .nil .stop) .stop)) Z ?_)
 let B1:List Value:=[jV (-1),jV 0]
 refine oR Z (ZN (pv:=[(0,jV (-1))]) (z:=B0) (cs:=B1) Z (wAb Z wAz) zz wCo Z Z) (ZW (cs:=B0) Z Z Z Z Z zz Z dg ?_)
 intro W7 b8 dm
 refine ZB (j:=0) (vs:=B1) Z Z Z Z dm Z Z Z Z ze (zC Z) Z Z Z ?_
 intro bD cW
 have cZ:SW w [.blk ae 99 ([.slice ah p0.Bout.Shots.length ak,.slice ai p0.Bout.Down.length am,.slice aj p0.Bout.Across.length ap,.map (some ab)] ++ ((hH KL.encI p0.hits.l) ++ ((hH KL.encI p0.used.l) ++ (hH KL.encT p0.met.l)))),.obj ab (.map aq au)] U U [.blk b8 44 B1,.blk b4 44 B0,.blk ae 99 ([.slice ah p0.Bout.Shots.length ak,.slice ai p0.Bout.Down.length am,.slice aj p0.Bout.Across.length ap,.map (some ab)] ++ ((hH KL.encI p0.hits.l) ++ ((hH KL.encI p0.used.l) ++ (hH KL.encT p0.met.l)))),.obj ab (.map aq au)] bD:=cW
 refine eN (zF (sR (wDo (.fx 3 (.fl 4 (.fl 5 .nil)) .stop)) Z (oM Z Z (oM Z Z (oM Z Z (bnK hm fun x14 cB dx=>?_))))))
 have db:SW w [.blk ae 99 ([.slice ah p0.Bout.Shots.length ak,.slice ai p0.Bout.Down.length am,.slice aj p0.Bout.Across.length ap,.map (some ab)] ++ ((hH KL.encI p0.hits.l) ++ ((hH KL.encI p0.used.l) ++ (hH KL.encT p0.met.l)))),.obj ab (.map aq au)] U U [.blk ae 99 ([.slice ah p0.Bout.Shots.length ak,.slice ai p0.Bout.Down.length am,.slice aj p0.Bout.Across.length ap,.map (some ab)] ++ ((hH KL.encI p0.hits.l) ++ ((hH KL.encI p0.used.l) ++ (hH KL.encT p0.met.l)))),.obj ab (.map aq au),.blk b8 44 B1,.blk b4 44 B0] bD:=cZ.pick [2,3,0,1] _ (by decide) rfl
 refine zH 2 Z Z Z Z (zG Z Z Try.call65 (zA Z (zA Z (zA Z zQ))) Z) db (fun hs=>wCC p0 ae ah ak ai am aj ap ab aq au p1 p2 bD U hs bW bX bY bZ cB) (.inl Z) ?_
 rintro bC dC dM cp bL de ⟨rfl,rfl⟩
 have df:SW w [.blk ae 99 ([.slice ah p0.Bout.Shots.length ak,.slice ai p0.Bout.Down.length am,.slice aj p0.Bout.Across.length ap,.map (some ab)] ++ ((hH KL.encI p0.hits.l) ++ ((hH KL.encI p0.used.l) ++ (hH KL.encT p0.met.l)))),.obj ab (.map aq au)] U bC [.blk ae 99 ([.slice ah p0.Bout.Shots.length ak,.slice ai p0.Bout.Down.length am,.slice aj p0.Bout.Across.length ap,.map (some ab)] ++ ((hH KL.encI p0.hits.l) ++ ((hH KL.encI p0.used.l) ++ (hH KL.encT p0.met.l)))),.obj ab (.map aq au),.blk b8 44 B1,.blk b4 44 B0] cp:=de
 refine oR Z (zd Z Z Z) (oM Z Z (eN (zj ?_)))
 have q:=bnd dx
 obtain ⟨⟨dA,dB⟩,dq,b5⟩:=q
 try dsimp only at b5
 have q:=wBz dq
 obtain ⟨bJ,dr⟩:=q
 replace bJ:=zO bJ
 refine CK.forN' (fun az (bt,bB) σ_ w_=>∃ (U_:PHeap),σ_ 15=jV (↑az:Int)/\σ_ 0=.pointer (some ⟨ae,0,none⟩)/\σ_ 1=jV p1/\σ_ 2=jV p2/\σ_ 6=.pointer (some ⟨b4,0,none⟩)/\σ_ 7=.pointer (some ⟨b8,0,none⟩)/\σ_ 14=jV (w64 (x14 + 1))/\PHeap.Le bC U_/\SW w [.blk ae 99 ([.slice ah p0.Bout.Shots.length ak,.slice ai p0.Bout.Down.length am,.slice aj p0.Bout.Across.length ap,.map (some ab)] ++ ((hH KL.encI p0.hits.l) ++ ((hH KL.encI p0.used.l) ++ (hH KL.encT p0.met.l)))),.obj ab (.map aq au)] U U_ [.blk ae 99 ([.slice ah p0.Bout.Shots.length ak,.slice ai p0.Bout.Down.length am,.slice aj p0.Bout.Across.length ap,.map (some ab)] ++ ((hH KL.encI p0.hits.l) ++ ((hH KL.encI p0.used.l) ++ (hH KL.encT p0.met.l)))),.obj ab (.map aq au),.blk b8 44 [jV bt,jV bB],.blk b4 44 B0] w_) dr ?_ ?_ ?_
 exact ⟨bC,Z,Z,Z,Z,Z,Z,Z,(zk _),df⟩
 rintro az ⟨bt,bB⟩ dP dR cq bI ⟨cf,bp,bv,bw,bz,bG,ba,bA,bn,dh⟩ cb
 try dsimp only at cb
 have bS:Hid ((↑az:Int) < (w64 (x14 + 1))):=zO (wCJ bI)
 replace bI:=zO bI
 have bH:Hid (w64 ((↑az:Int) + 1)=(↑(az + 1):Int)):=zO (by have h1:=bJ.out;have h2:=bS.out;rw [wAX] <;> omega)
 refine sR fL1 Z (oR Z (zh Z bp bA) (eN (zF (cT Z bS (kN (zF (zj (sR fL2 Z (oM Z bp (oA Z Z (eN (sR (wIA (.fx 4 gAw .stop)) Z (oM Z bv (oM Z bw (oM Z bz (oM Z Z ?_))))))))))))))))
 have cC:=bW.le bL
 have cD:=cC.le bn
 have cE:=bX.le bL
 have cG:=cE.le bn
 have cH:=bY.le bL
 have cI:=cH.le bn
 refine bnK cb fun av cJ dy=>zH 2 Z Z Z Z (zG Z Z Try.call64 (zA Z (zA Z (zA Z (zA Z zQ)))) Z) dh (fun hs=>wBi p0 ae ah ak ai am aj ap ab aq au p1 p2 (↑az:Int) cq cf hs cD cG cI bZ cJ) (.inl Z) ?_
 rintro bQ dD dN bR bM dk ⟨bh,bb,bi,be,bj,bf,bk,aX,bm,bl,rfl,rfl,cK,cM,cN,cO⟩
 let B2:Res:=.blk b8 44 [jV bt,jV bB]
 have dp:SW w [.blk ae 99 ([.slice ah p0.Bout.Shots.length ak,.slice ai p0.Bout.Down.length am,.slice aj p0.Bout.Across.length ap,.map (some ab)] ++ ((hH KL.encI p0.hits.l) ++ ((hH KL.encI p0.used.l) ++ (hH KL.encT p0.met.l)))),.obj ab (.map aq au)] U bQ [.blk bh 99 ([.slice bb av.Bout.Shots.length bi,.slice be av.Bout.Down.length bj,.slice bf av.Bout.Across.length bk,.map (some aX)] ++ ((hH KL.encI av.hits.l) ++ ((hH KL.encI av.used.l) ++ (hH KL.encT av.met.l)))),.obj aX (.map bm bl),.blk ae 99 ([.slice ah p0.Bout.Shots.length ak,.slice ai p0.Bout.Down.length am,.slice aj p0.Bout.Across.length ap,.map (some ab)] ++ ((hH KL.encI p0.hits.l) ++ ((hH KL.encI p0.used.l) ++ (hH KL.encT p0.met.l)))),.obj ab (.map aq au),B2,.blk b4 44 B0] bR:=dk
 have q:=bnd dy
 obtain ⟨⟨x92,x93⟩,cP,b9⟩:=q
 try dsimp only at b9
 refine zH 2 Z Z Z Z (zG Z Z Try.call46 (zA Z zQ) Z) dp (fun hs=>wAm av bh bb bi be bj bf bk aX bm bl bR bQ hs cK cM cN cO cP) (.inl Z) ?_
 rintro aZ dE dO cr bK cQ ⟨bN,ct,rfl,rfl,cz⟩
 let B3:Res:=.row bN ct 3 1 (hH KL.encI x92)
 have bq:SW w [.blk ae 99 ([.slice ah p0.Bout.Shots.length ak,.slice ai p0.Bout.Down.length am,.slice aj p0.Bout.Across.length ap,.map (some ab)] ++ ((hH KL.encI p0.hits.l) ++ ((hH KL.encI p0.used.l) ++ (hH KL.encT p0.met.l)))),.obj ab (.map aq au)] U aZ [B3,.blk bh 99 ([.slice bb av.Bout.Shots.length bi,.slice be av.Bout.Down.length bj,.slice bf av.Bout.Across.length bk,.map (some aX)] ++ ((hH KL.encI x93.1.l) ++ ((hH KL.encI x93.2.1.l) ++ (hH KL.encT x93.2.2.l)))),.obj aX (.map bm bl),.blk ae 99 ([.slice ah p0.Bout.Shots.length ak,.slice ai p0.Bout.Down.length am,.slice aj p0.Bout.Across.length ap,.map (some ab)] ++ ((hH KL.encI p0.hits.l) ++ ((hH KL.encI p0.used.l) ++ (hH KL.encT p0.met.l)))),.obj ab (.map aq au),B2,.blk b4 44 B0] cr:=cQ
 have cA:bN.isNone=decide (x92=[]):=wGU (j:=0) bq rfl (fun _=>rfl) (by decide) cz
 refine oR Z (Runs.eqNilR Z Z Z zB cA) (eN (ifc b9 ?_ ?_))
 intro bE dt
 refine cT Z bE (zF (sR fL3 Z (oR Z (zJ Z ba zp Z zD) (oL Z (bq.ldB (j:=5) Z Z Z zM (v:=jV bt) Z) (oR Z (zh Z Z Z) (eN (ifc dt ?_ ?_)))))))
 intro bF du
 refine cT Z bF (rR gBc Z (oM Z Z (oR Z (zJ Z ba zp Z zD) (ZB (j:=5) (vs:=[jV (↑az:Int)]) Z Z Z Z bq Z Z Z Z zD (zC Z) Z Z Z ?_))))
 intro cg cR
 have cS:SW w [.blk ae 99 ([.slice ah p0.Bout.Shots.length ak,.slice ai p0.Bout.Down.length am,.slice aj p0.Bout.Across.length ap,.map (some ab)] ++ ((hH KL.encI p0.hits.l) ++ ((hH KL.encI p0.used.l) ++ (hH KL.encT p0.met.l)))),.obj ab (.map aq au)] U aZ [B3,.blk bh 99 ([.slice bb av.Bout.Shots.length bi,.slice be av.Bout.Down.length bj,.slice bf av.Bout.Across.length bk,.map (some aX)] ++ ((hH KL.encI x93.1.l) ++ ((hH KL.encI x93.2.1.l) ++ (hH KL.encT x93.2.2.l)))),.obj aX (.map bm bl),.blk ae 99 ([.slice ah p0.Bout.Shots.length ak,.slice ai p0.Bout.Down.length am,.slice aj p0.Bout.Across.length ap,.map (some ab)] ++ ((hH KL.encI p0.hits.l) ++ ((hH KL.encI p0.used.l) ++ (hH KL.encT p0.met.l)))),.obj ab (.map aq au),.blk b8 44 [jV (↑az:Int),jV bB],.blk b4 44 B0] cg:=cR
 refine eN (rR gBc Z (oM Z Z (oR Z (zJ Z ba zp Z zD) (ZB (j:=5) (vs:=[jV (↑az:Int)]) Z Z Z Z cS Z Z Z Z zD (zC Z) Z Z Z ?_))))
 intro ci cU
 have cV:SW w [.blk ae 99 ([.slice ah p0.Bout.Shots.length ak,.slice ai p0.Bout.Down.length am,.slice aj p0.Bout.Across.length ap,.map (some ab)] ++ ((hH KL.encI p0.hits.l) ++ ((hH KL.encI p0.used.l) ++ (hH KL.encT p0.met.l)))),.obj ab (.map aq au)] U aZ [B3,.blk bh 99 ([.slice bb av.Bout.Shots.length bi,.slice be av.Bout.Down.length bj,.slice bf av.Bout.Across.length bk,.map (some aX)] ++ ((hH KL.encI x93.1.l) ++ ((hH KL.encI x93.2.1.l) ++ (hH KL.encT x93.2.2.l)))),.obj aX (.map bm bl),.blk ae 99 ([.slice ah p0.Bout.Shots.length ak,.slice ai p0.Bout.Down.length am,.slice aj p0.Bout.Across.length ap,.map (some ab)] ++ ((hH KL.encI p0.hits.l) ++ ((hH KL.encI p0.used.l) ++ (hH KL.encT p0.met.l)))),.obj ab (.map aq au),.blk b8 44 [jV (↑az:Int),jV (↑az:Int)],.blk b4 44 B0] ci:=cU
 refine zr (zm (zL (rR fL2 Z (oR Z (ZC (zd Z bp Z) (congrArg (jV) bH.out)) (oM Z Z (zr ?_))))))
 cases du
 exact zL ⟨rfl,⟨aZ,rfl,bv,bw,bz,bG,ba,bA,((bn.trans bM).trans bK),(cV.pick [3,4,5,6] _ (by decide) rfl)⟩⟩
 intro bF dv
 refine cF Z bF (kN (rR gBc Z (oM Z Z (oR Z (zJ Z ba zp Z zD) (ZB (j:=5) (vs:=[jV (↑az:Int)]) Z Z Z Z bq Z Z Z Z zD (zC Z) Z Z Z ?_)))))
 intro cj cX
 have cY:SW w [.blk ae 99 ([.slice ah p0.Bout.Shots.length ak,.slice ai p0.Bout.Down.length am,.slice aj p0.Bout.Across.length ap,.map (some ab)] ++ ((hH KL.encI p0.hits.l) ++ ((hH KL.encI p0.used.l) ++ (hH KL.encT p0.met.l)))),.obj ab (.map aq au)] U aZ [B3,.blk bh 99 ([.slice bb av.Bout.Shots.length bi,.slice be av.Bout.Down.length bj,.slice bf av.Bout.Across.length bk,.map (some aX)] ++ ((hH KL.encI x93.1.l) ++ ((hH KL.encI x93.2.1.l) ++ (hH KL.encT x93.2.2.l)))),.obj aX (.map bm bl),.blk ae 99 ([.slice ah p0.Bout.Shots.length ak,.slice ai p0.Bout.Down.length am,.slice aj p0.Bout.Across.length ap,.map (some ab)] ++ ((hH KL.encI p0.hits.l) ++ ((hH KL.encI p0.used.l) ++ (hH KL.encT p0.met.l)))),.obj ab (.map aq au),.blk b8 44 [jV bt,jV (↑az:Int)],.blk b4 44 B0] cj:=cX
 refine zr (zm (zL (rR fL2 Z (oR Z (ZC (zd Z bp Z) (congrArg (jV) bH.out)) (oM Z Z (zr ?_))))))
 cases dv
 exact zL ⟨rfl,⟨aZ,rfl,bv,bw,bz,bG,ba,bA,((bn.trans bM).trans bK),(cY.pick [3,4,5,6] _ (by decide) rfl)⟩⟩
 intro bE dw
 refine cF Z bE (ZJ (zm (zL (rR fL2 Z (oR Z (ZC (zd Z bp Z) (congrArg (jV) bH.out)) (oM Z Z (zr ?_)))))))
 cases dw
 exact zL ⟨rfl,⟨aZ,rfl,bv,bw,bz,bG,ba,bA,((bn.trans bM).trans bK),(bq.pick [3,4,5,6] _ (by decide) rfl)⟩⟩
 rintro dQ dF ⟨bP,cy,dI,dJ,dK,bT,cw,cx,dL,bU⟩
 have cu:Hid (¬ ((↑((w64 (x14 + 1):Int) - 0).toNat:Int) < (w64 (x14 + 1)))):=zO (wBe)
 refine sR fL1 Z (oR Z (zh Z cy cx) (eN (zF (cF Z cu (ZV (zu (zu (ZM (zL (sR gAx Z ?_))))))))))
 let B4:List Value:=[jV dA,jV dB]
 refine oL Z (bU.ldBA (j:=2) Z Z cw ZF ze (vs:=B4) Z Z) (ZB (j:=3) (vs:=B4) Z Z Z Z bU Z bT Z Z ze (zC Z) Z Z Z ?_)
 intro cn da
 have bV:SW w [.blk ae 99 ([.slice ah p0.Bout.Shots.length ak,.slice ai p0.Bout.Down.length am,.slice aj p0.Bout.Across.length ap,.map (some ab)] ++ ((hH KL.encI p0.hits.l) ++ ((hH KL.encI p0.used.l) ++ (hH KL.encT p0.met.l)))),.obj ab (.map aq au)] U bP [.blk ae 99 ([.slice ah p0.Bout.Shots.length ak,.slice ai p0.Bout.Down.length am,.slice aj p0.Bout.Across.length ap,.map (some ab)] ++ ((hH KL.encI p0.hits.l) ++ ((hH KL.encI p0.used.l) ++ (hH KL.encT p0.met.l)))),.obj ab (.map aq au),.blk b8 44 B4,.blk b4 44 B4] cn:=da
 refine eN (zR ?_)
 cases b5
 exact ⟨rfl,_,(wKL (v:=.agg B4.toArray) ⟨⟨_,bT,(wCy ZF ze (bV.blkAt (k:=3) rfl) (vs:=B4) rfl rfl)⟩,trivial⟩),bP,_,(bV.pick [0,1] _ (by decide) rfl),rfl,rfl⟩
theorem wHt (p0:wAC) (bf:Option Addr) (bi:Nat) (bg:Option Addr) (bj:Nat) (bh:Option Addr) (bk:Nat) (p1:Int) (p2:Int) (w:World) (U:PHeap) (hS:St0 w U []) (bR:Sl U 1 bf bi p0.Shots.length (hH KL.encI p0.Shots)) (bS:Sl U 1 bg bj p0.Down.length (hH KL.encI p0.Down)) (bT:Sl U 2 bh bk p0.Across.length (hH wAB p0.Across)) {r:wAc × Int} (hm:wBp p0 p1 p2=some r):Gv Try.prog 14 [.agg #[.slice bf p0.Shots.length bi,.slice bg p0.Down.length bj,.slice bh p0.Across.length bk],jV p1,jV p2] w (wCY w [] U (fun U_ L_ v=>v=.tuple #[.agg #[jV r.1.Lo,jV r.1.Hi],jV r.2]/\L_=[])):=by
 unfold wBp at hm
 refine Gv.of Try.func14 Z Try.ntmps14 Try.results14 Z (sR gBd Z ?_)
 let B0:List Value:=[.slice bf p0.Shots.length bi,.slice bg p0.Down.length bj,.slice bh p0.Across.length bk]
 refine ZH (cs:=B0) rfl rfl rfl rfl rfl rfl (by rfl) hS ?_
 intro W1 b2 bK
 let B1:List Value:=[jV 0,jV 0]
 refine ZW (cs:=B1) Z Z Z Z Z zz Z bK ?_
 intro W5 b6 bw
 refine oA Z Z (eN (sR (wDo (.fx 3 (wRT (.nil)) .stop)) Z (oL Z (bw.ldBA (j:=1) Z Z Z ZD zZ (vs:=B0) Z Z) (oM Z Z (oM Z Z ?_)))))
 have q:=bnd hm
 obtain ⟨⟨x9,bl⟩,bE,aZ⟩:=q
 try dsimp only at aZ
 refine zH 0 Z Z Z Z (zG Z Z Try.call49 (zA Z (zA Z (zA Z zQ))) Z) bw (fun hs=>wDt p0 bf bi bg bj bh bk p1 p2 W5 U hs bR bS bT bE) (.inr Z) ?_
 rintro aj b5 ci bn cf br bq
 rcases x9 with _ | aa
 try dsimp only at aZ
 obtain ⟨rfl,rfl⟩:=bq
 have bL:sW w U aj [.blk b6 44 B1,.blk b2 26 B0] bn:=br
 refine oM Z Z (oR Z (zo Z Z (v:=.pointer none) Z) (oR Z (zo Z Z (v:=jV bl) Z) (oA Z Z (oA Z Z (eN (zF (sR fL2 Z (oM Z Z (oR Z (zy Z Z Z) (eN (ifc aZ ?_ ?_)))))))))))
 intro bo bU
 refine zg (zf (fun h=>h bo.out)) (kN (sR (wDo gBe) Z (oM Z Z (oM Z Z (oM Z Z ?_)))))
 cases bU
 intro bo bV
 refine cT Z bo (sR gBm Z (oR Z (ZN (pv:=[]) (z:=B1) (cs:=B1) Z wAz zz wCo Z Z) (oM Z Z (ZB (j:=0) (vs:=B1) Z Z Z Z bL Z Z Z Z ze (zC Z) Z Z Z ?_))))
 intro bz bM
 have bs:sW w U aj [.blk b6 44 B1,.blk b2 26 B0] bz:=bM
 refine oA Z Z (eN (zR (zW ?_)))
 cases bV
 exact ⟨rfl,_,(wEg (rs:=[.cell 6 44,.tmp 7]) (vs:=[.agg B1.toArray,jV bl]) ⟨⟨_,rfl,(wCy ZF ze (bs.blkAt (k:=0) rfl) (vs:=B1) rfl rfl)⟩,⟨rfl,trivial⟩⟩ rfl),aj,_,(bs.pick [] _ (by decide) rfl),rfl,rfl⟩
 try dsimp only at aZ
 obtain ⟨ak,aq,az,au,aV,av,aW,ah,aY,aX,rfl,rfl,bF,bG,bH,bI⟩:=bq
 have bt:sW w U aj [.blk ak 99 ([.slice aq aa.Bout.Shots.length az,.slice au aa.Bout.Down.length aV,.slice av aa.Bout.Across.length aW,.map (some ah)] ++ ((hH KL.encI aa.hits.l) ++ ((hH KL.encI aa.used.l) ++ (hH KL.encT aa.met.l)))),.obj ah (.map aY aX),.blk b6 44 B1,.blk b2 26 B0] bn:=br
 refine oM Z Z (oR Z (zo Z Z (v:=.pointer (some ⟨ak,0,none⟩)) Z) (oR Z (zo Z Z (v:=jV bl) Z) (oA Z Z (oA Z Z (eN (zF (sR fL2 Z (oM Z Z (oR Z (zy Z Z Z) (eN (ifc aZ ?_ ?_)))))))))))
 intro bp bW
 refine zg (zf (fun h=>h bp.out)) (kN (sR (wDo gBe) Z (oM Z Z (oM Z Z (oM Z Z (bnK bW fun x47 bJ bX=>zH 2 Z Z Z Z (zG Z Z Try.call48 (zA Z (zA Z (zA Z zQ))) Z) bt (fun hs=>wDR aa ak aq az au aV av aW ah aY aX p1 p2 bn aj hs bF bG bH bI bJ) (.inl Z) ?_))))))
 rintro bm b9 cj bB cg bN ⟨rfl,rfl⟩
 have bO:sW w U bm [.blk ak 99 ([.slice aq aa.Bout.Shots.length az,.slice au aa.Bout.Down.length aV,.slice av aa.Bout.Across.length aW,.map (some ah)] ++ ((hH KL.encI aa.hits.l) ++ ((hH KL.encI aa.used.l) ++ (hH KL.encT aa.met.l)))),.obj ah (.map aY aX),.blk b6 44 B1,.blk b2 26 B0] bB:=bN
 let B2:List Value:=[jV x47.Lo,jV x47.Hi]
 refine ZB (j:=2) (vs:=B2) Z Z Z Z bO Z Z Z Z ze (zC Z) Z Z Z ?_
 intro bC bP
 have bu:sW w U bm [.blk ak 99 ([.slice aq aa.Bout.Shots.length az,.slice au aa.Bout.Down.length aV,.slice av aa.Bout.Across.length aW,.map (some ah)] ++ ((hH KL.encI aa.hits.l) ++ ((hH KL.encI aa.used.l) ++ (hH KL.encT aa.met.l)))),.obj ah (.map aY aX),.blk b6 44 B2,.blk b2 26 B0] bC:=bP
 refine oA Z Z (eN (zR ?_))
 cases bX
 exact ⟨rfl,_,(wEg (rs:=[.cell 6 44,.tmp 7]) (vs:=[.agg B2.toArray,jV 0]) ⟨⟨_,rfl,(wCy ZF ze (bu.blkAt (k:=2) rfl) (vs:=B2) rfl rfl)⟩,⟨rfl,trivial⟩⟩ rfl),bm,_,(bu.pick [] _ (by decide) rfl),rfl,rfl⟩
 intro bp bY
 refine cT Z bp (sR gBm Z (oR Z (ZN (pv:=[]) (z:=B1) (cs:=B1) Z wAz zz wCo Z Z) (oM Z Z (ZB (j:=2) (vs:=B1) Z Z Z Z bt Z Z Z Z ze (zC Z) Z Z Z ?_))))
 intro bD bQ
 have bv:sW w U aj [.blk ak 99 ([.slice aq aa.Bout.Shots.length az,.slice au aa.Bout.Down.length aV,.slice av aa.Bout.Across.length aW,.map (some ah)] ++ ((hH KL.encI aa.hits.l) ++ ((hH KL.encI aa.used.l) ++ (hH KL.encT aa.met.l)))),.obj ah (.map aY aX),.blk b6 44 B1,.blk b2 26 B0] bD:=bQ
 refine oA Z Z (eN (zR (zW ?_)))
 cases bY
 exact ⟨rfl,_,(wEg (rs:=[.cell 6 44,.tmp 7]) (vs:=[.agg B1.toArray,jV bl]) ⟨⟨_,rfl,(wCy ZF ze (bv.blkAt (k:=2) rfl) (vs:=B1) rfl rfl)⟩,⟨rfl,trivial⟩⟩ rfl),aj,_,(bv.pick [] _ (by decide) rfl),rfl,rfl⟩
theorem wFs (p0:wAC) (bF:Option Addr) (bI:Nat) (bG:Option Addr) (bJ:Nat) (bH:Option Addr) (bK:Nat) (p1:Int) (p2:Int) (w:World) (U:PHeap) (hS:St0 w U []) (fB:Sl U 1 bF bI p0.Shots.length (hH KL.encI p0.Shots)) (fC:Sl U 1 bG bJ p0.Down.length (hH KL.encI p0.Down)) (fD:Sl U 2 bH bK p0.Across.length (hH wAB p0.Across)) {r:(List Int) × (List Int) × Int} (hm:wBs p0 p1 p2=some r):Gv Try.prog 21 [.agg #[.slice bF p0.Shots.length bI,.slice bG p0.Down.length bJ,.slice bH p0.Across.length bK],jV p1,jV p2] w (wCY w [] U (fun U_ L_ v=>∃ (A0:Option Addr) (c0:Nat) (A1:Option Addr) (c1:Nat),v=.tuple #[.slice A0 r.1.length c0,.slice A1 r.2.1.length c1,jV r.2.2]/\L_=[.row A0 c0 3 1 (hH KL.encI r.1),.row A1 c1 3 1 (hH KL.encI r.2.1)])):=by
 unfold wBs at hm
 refine Gv.of Try.func21 Z Try.ntmps21 Try.results21 Z (sR (.fx 0 (fC1_3 (.nil)) .stop) Z ?_)
 let B0:List Value:=[.slice bF p0.Shots.length bI,.slice bG p0.Down.length bJ,.slice bH p0.Across.length bK]
 refine ZH (cs:=B0) rfl rfl rfl rfl rfl rfl (by rfl) hS ?_
 intro W1 b2 dA
 refine oA Z Z (oA Z Z (oA Z Z (eN (sR (wDo (.fx 3 (wRT (.nil)) .stop)) Z (oL Z (dA.ldBA (j:=0) Z Z Z ZD zZ (vs:=B0) Z Z) (oM Z Z (oM Z Z ?_)))))))
 have q:=bnd hm
 obtain ⟨⟨x5,x6⟩,h7,bz⟩:=q
 try dsimp only at bz
 refine zH 0 Z Z Z Z (zG Z Z Try.call49 (zA Z (zA Z (zA Z zQ))) Z) dA (fun hs=>wDt p0 bF bI bG bJ bH bK p1 p2 W1 U hs fB fC fD h7) (.inr Z) ?_
 rintro U9 ga gD bV gy dy dx
 rcases x5 with _ | x26
 try dsimp only at bz
 obtain ⟨rfl,rfl⟩:=dx
 have eV:sW w U U9 [.blk b2 26 B0] bV:=dy
 refine oM Z Z (oR Z (zo Z Z (v:=.pointer none) Z) (oR Z (zo Z Z (v:=jV x6) Z) (oA Z Z (oA Z Z (eN (zF (sR fL2 Z (oM Z Z (oR Z (zy Z Z Z) (eN (ifc bz ?_ ?_)))))))))))
 intro cp fQ
 refine zg (zf (fun h=>h cp.out)) (kN (sR (wDo gBf) Z (oM Z Z (oM Z Z (oM Z Z ?_)))))
 cases fQ
 intro cp fR
 refine cT Z cp (sR fL4 Z (oM Z Z (oA Z Z (oA Z Z (oA Z Z (eN (zR (zW ?_))))))))
 have ff:=eV.nilrow 3 1
 have fg:=ff.nilrow 3 1
 cases fR
 exact ⟨rfl,_,(wQC rfl rfl rfl),U9,_,(fg.pick [1,0] _ (by decide) rfl),none,0,none,0,rfl,rfl⟩
 try dsimp only at bz
 obtain ⟨ab,ah,ak,ai,am,aj,ap,aa,au,aq,rfl,rfl,cw,cx,cy,bs⟩:=dx
 have dB:sW w U U9 [.blk ab 99 ([.slice ah x26.Bout.Shots.length ak,.slice ai x26.Bout.Down.length am,.slice aj x26.Bout.Across.length ap,.map (some aa)] ++ ((hH KL.encI x26.hits.l) ++ ((hH KL.encI x26.used.l) ++ (hH KL.encT x26.met.l)))),.obj aa (.map au aq),.blk b2 26 B0] bV:=dy
 refine oM Z Z (oR Z (zo Z Z (v:=.pointer (some ⟨ab,0,none⟩)) Z) (oR Z (zo Z Z (v:=jV x6) Z) (oA Z Z (oA Z Z (eN (zF (sR fL2 Z (oM Z Z (oR Z (zy Z Z Z) (eN (ifc bz ?_ ?_)))))))))))
 intro cq fS
 refine zg (zf (fun h=>h cq.out)) (kN (sR (wDo gBf) Z (oM Z Z (oM Z Z (oM Z Z (bnK fS fun x44 ey fT=>zH 2 Z Z Z Z (zG Z Z Try.call48 (zA Z (zA Z (zA Z zQ))) Z) dB (fun hs=>wDR x26 ab ah ak ai am aj ap aa au aq p1 p2 bV U9 hs cw cx cy bs ey) (.inl Z) ?_))))))
 rintro br gi gK dJ bt fh ⟨rfl,rfl⟩
 have fj:sW w U br [.blk ab 99 ([.slice ah x26.Bout.Shots.length ak,.slice ai x26.Bout.Down.length am,.slice aj x26.Bout.Across.length ap,.map (some aa)] ++ ((hH KL.encI x26.hits.l) ++ ((hH KL.encI x26.used.l) ++ (hH KL.encT x26.met.l)))),.obj aa (.map au aq),.blk b2 26 B0] dJ:=fh
 refine ZW (cs:=[jV 0,jV 0]) Z Z Z Z Z zz Z fj ?_
 intro gp aX fm
 let B1:List Value:=[jV x44.Lo,jV x44.Hi]
 refine ZB (j:=0) (vs:=B1) Z Z Z Z fm Z Z Z Z ze (zC Z) Z Z Z ?_
 intro bw ft
 have bE:sW w U br [.blk aX 44 B1,.blk ab 99 ([.slice ah x26.Bout.Shots.length ak,.slice ai x26.Bout.Down.length am,.slice aj x26.Bout.Across.length ap,.map (some aa)] ++ ((hH KL.encI x26.hits.l) ++ ((hH KL.encI x26.used.l) ++ (hH KL.encT x26.met.l)))),.obj aa (.map au aq),.blk b2 26 B0] bw:=ft
 refine eN (zF (sR fL3 Z (oR Z (zJ Z Z zp Z zD) (oL Z (bE.ldB (j:=0) Z Z Z zM (v:=jV x44.Lo) Z) (oR Z (Runs.gtr Z Z Z) (eN (ifc fT ?_ ?_)))))))
 intro cr fU
 refine cT Z cr (rR (wHE gBg) Z (oM Z Z (oM Z Z (oM Z Z (oR Z (zJ Z Z zp Z zD) (oL Z (bE.ldB (j:=0) Z Z Z zM (v:=jV x44.Lo) Z) (oR Z (ZY Z Z Z) ?_)))))))
 have du:=cw.le bt
 have dv:=cx.le bt
 have dw:=cy.le bt
 refine bnK fU fun ae ez fV=>?_
 have fu:sW w U br [.blk ab 99 ([.slice ah x26.Bout.Shots.length ak,.slice ai x26.Bout.Down.length am,.slice aj x26.Bout.Across.length ap,.map (some aa)] ++ ((hH KL.encI x26.hits.l) ++ ((hH KL.encI x26.used.l) ++ (hH KL.encT x26.met.l)))),.obj aa (.map au aq),.blk aX 44 B1,.blk b2 26 B0] bw:=bE.pick [1,2,0,3] _ (by decide) rfl
 refine zH 2 Z Z Z Z (zG Z Z Try.call64 (zA Z (zA Z (zA Z (zA Z zQ)))) Z) fu (fun hs=>wBi x26 ab ah ak ai am aj ap aa au aq p1 p2 (w64 (x44.Lo - 1)) bw br hs du dv dw bs ez) (.inl Z) ?_
 rintro cU gj gL db cH fw ⟨bj,bg,bk,bh,bl,bi,bm,aY,bo,bn,rfl,rfl,eC,eD,eE,eF⟩
 have fy:sW w U cU [.blk bj 99 ([.slice bg ae.Bout.Shots.length bk,.slice bh ae.Bout.Down.length bl,.slice bi ae.Bout.Across.length bm,.map (some aY)] ++ ((hH KL.encI ae.hits.l) ++ ((hH KL.encI ae.used.l) ++ (hH KL.encT ae.met.l)))),.obj aY (.map bo bn),.blk ab 99 ([.slice ah x26.Bout.Shots.length ak,.slice ai x26.Bout.Down.length am,.slice aj x26.Bout.Across.length ap,.map (some aa)] ++ ((hH KL.encI x26.hits.l) ++ ((hH KL.encI x26.used.l) ++ (hH KL.encT x26.met.l)))),.obj aa (.map au aq),.blk aX 44 B1,.blk b2 26 B0] db:=fw
 have q:=bnd fV
 obtain ⟨⟨x93,az⟩,eG,dE⟩:=q
 try dsimp only at dE
 refine zH 2 Z Z Z Z (zG Z Z Try.call46 (zA Z zQ) Z) fy (fun hs=>wAm ae bj bg bk bh bl bi bm aY bo bn db cU hs eC eD eE eF eG) (.inl Z) ?_
 rintro bT gm gM bU cD eH ⟨bC,bD,rfl,rfl,gv⟩
 let B2:Res:=.row bC bD 3 1 (hH KL.encI x93)
 have eI:sW w U bT [B2,.blk bj 99 ([.slice bg ae.Bout.Shots.length bk,.slice bh ae.Bout.Down.length bl,.slice bi ae.Bout.Across.length bm,.map (some aY)] ++ ((hH KL.encI az.1.l) ++ ((hH KL.encI az.2.1.l) ++ (hH KL.encT az.2.2.l)))),.obj aY (.map bo bn),.blk ab 99 ([.slice ah x26.Bout.Shots.length ak,.slice ai x26.Bout.Down.length am,.slice aj x26.Bout.Across.length ap,.map (some aa)] ++ ((hH KL.encI x26.hits.l) ++ ((hH KL.encI x26.used.l) ++ (hH KL.encT x26.met.l)))),.obj aa (.map au aq),.blk aX 44 B1,.blk b2 26 B0] bU:=eH
 refine OKS.ra rfl rfl rfl rfl rfl rfl (eN (zF (zF (ZK ZL [3,1004,3,3,3,1005,3,ab,aa] (wGw gAw) (by kernel_rfl) ?_))))
 have cz:=eI.drew
 generalize hw_W127:({ bU with drawn:=bU.drawn + 1 }:World)=cV at cz ⊢
 refine zN rfl rfl rfl rfl (fun _=>zJ rfl rfl zp rfl zD) (OKS.mt (T:=[ab,aa]) [3,4] [0,1,2,5,6] [B2,.blk bj 99 ([.slice bg ae.Bout.Shots.length bk,.slice bh ae.Bout.Down.length bl,.slice bi ae.Bout.Across.length bm,.map (some aY)] ++ ((hH KL.encI az.1.l) ++ ((hH KL.encI az.2.1.l) ++ (hH KL.encT az.2.2.l)))),.obj aY (.map bo bn),.blk aX 44 B1,.blk b2 26 B0] rfl rfl rfl rfl cz rfl ⟨⟨3,by decide,_,rfl,rfl⟩,⟨4,by decide,_,rfl,rfl⟩,trivial⟩ (by decide) rfl (by decide) (fun _ fz=>(fz.ldB (j:=3) rfl rfl rfl zM (v:=jV x44.Hi) rfl)) rfl (zV rfl rfl rfl rfl rfl rfl (zV rfl rfl rfl rfl rfl rfl (zV rfl rfl rfl rfl rfl rfl ?_))))
 have dP:=du.le cH
 have dk:=dP.le cD
 have dQ:=dv.le cH
 have dm:=dQ.le cD
 have dR:=dw.le cH
 have dp:=dR.le cD
 refine bnK dE fun gN dS fE=>?_
 have eJ:sW w U bT [.blk ab 99 ([.slice ah x26.Bout.Shots.length ak,.slice ai x26.Bout.Down.length am,.slice aj x26.Bout.Across.length ap,.map (some aa)] ++ ((hH KL.encI x26.hits.l) ++ ((hH KL.encI x26.used.l) ++ (hH KL.encT x26.met.l)))),.obj aa (.map au aq),B2,.blk bj 99 ([.slice bg ae.Bout.Shots.length bk,.slice bh ae.Bout.Down.length bl,.slice bi ae.Bout.Across.length bm,.map (some aY)] ++ ((hH KL.encI az.1.l) ++ ((hH KL.encI az.2.1.l) ++ (hH KL.encT az.2.2.l)))),.obj aY (.map bo bn),.blk aX 44 B1,.blk b2 26 B0] cV:=cz.pick [3,4,0,1,2,5,6] _ (by decide) rfl
 refine OKS.callHT 2 rfl rfl rfl rfl (zG rfl rfl Try.call65 (zA rfl (zA rfl (zA rfl zQ))) rfl) eJ (fun hs=>wCC x26 ab ah ak ai am aj ap aa au aq p1 p2 cV bT hs dk dm dp bs dS) rfl (T:=[ab,aa]) rfl ⟨fun b h=>(by cases h;exact .head _),fun b h=>(by cases h;exact .tail _ (.head _)),trivial⟩ ?_
 rintro bR gb gE cW cE eK ⟨rfl,rfl⟩
 have cA:sW w U bR [.blk ab 99 ([.slice ah x26.Bout.Shots.length ak,.slice ai x26.Bout.Down.length am,.slice aj x26.Bout.Across.length ap,.map (some aa)] ++ ((hH KL.encI x26.hits.l) ++ ((hH KL.encI x26.used.l) ++ (hH KL.encT x26.met.l)))),.obj aa (.map au aq),B2,.blk bj 99 ([.slice bg ae.Bout.Shots.length bk,.slice bh ae.Bout.Down.length bl,.slice bi ae.Bout.Across.length bm,.map (some aY)] ++ ((hH KL.encI az.1.l) ++ ((hH KL.encI az.2.1.l) ++ (hH KL.encT az.2.2.l)))),.obj aY (.map bo bn),.blk aX 44 B1,.blk b2 26 B0] cW:=eK
 refine oR Z (zh Z Z Z) (eN (ifc fE ?_ ?_))
 intro bY fG
 refine cT Z bY (Zo fun bu bp=>?_)
 have dK:bu 1=jV p1:=(bp 1).trans rfl
 have dL:bu 2=jV p2:=(bp 2).trans rfl
 have dM:bu 6=.slice bC x93.length bD:=(bp 6).trans rfl
 have gu:bu 7=.slice none 0 0:=(bp 7).trans rfl
 have dN:bu 9=.pointer (some ⟨ab,0,none⟩):=(bp 9).trans rfl
 have dO:bu 10=.pointer (some ⟨aX,0,none⟩):=(bp 10).trans rfl
 clear bp
 refine rR (wHE gBg) Z (oM Z dN (oM Z dK (oM Z dL (oR Z (zJ Z dO zp Z zD) (oL Z (cA.ldB (j:=5) Z Z Z zM (v:=jV x44.Hi) Z) (oR Z (zd Z Z Z) ?_))))))
 have dT:=dk.le cE
 have dU:=dm.le cE
 have dV:=dp.le cE
 refine bnK fG fun be dW fH=>zH 2 Z Z Z Z (zG Z Z Try.call64 (zA Z (zA Z (zA Z (zA Z zQ)))) Z) cA (fun hs=>wBi x26 ab ah ak ai am aj ap aa au aq p1 p2 (w64 (x44.Hi + 1)) cW bR hs dT dU dV bs dW) (.inl Z) ?_
 rintro cP gc gF cX gz eL ⟨bW,bL,bZ,bM,b5,bN,b9,bA,ct,cb,rfl,rfl,dX,dY,dZ,d7⟩
 have eM:sW w U cP [.blk bW 99 ([.slice bL be.Bout.Shots.length bZ,.slice bM be.Bout.Down.length b5,.slice bN be.Bout.Across.length b9,.map (some bA)] ++ ((hH KL.encI be.hits.l) ++ ((hH KL.encI be.used.l) ++ (hH KL.encT be.met.l)))),.obj bA (.map ct cb),.blk ab 99 ([.slice ah x26.Bout.Shots.length ak,.slice ai x26.Bout.Down.length am,.slice aj x26.Bout.Across.length ap,.map (some aa)] ++ ((hH KL.encI x26.hits.l) ++ ((hH KL.encI x26.used.l) ++ (hH KL.encT x26.met.l)))),.obj aa (.map au aq),B2,.blk bj 99 ([.slice bg ae.Bout.Shots.length bk,.slice bh ae.Bout.Down.length bl,.slice bi ae.Bout.Across.length bm,.map (some aY)] ++ ((hH KL.encI az.1.l) ++ ((hH KL.encI az.2.1.l) ++ (hH KL.encT az.2.2.l)))),.obj aY (.map bo bn),.blk aX 44 B1,.blk b2 26 B0] cX:=eL
 have q:=bnd fH
 obtain ⟨⟨fW,cI⟩,d8,dC⟩:=q
 try dsimp only at dC
 refine zH 2 Z Z Z Z (zG Z Z Try.call46 (zA Z zQ) Z) eM (fun hs=>wAm be bW bL bZ bM b5 bN b9 bA ct cb cX cP hs dX dY dZ d7 d8) (.inl Z) ?_
 rintro cQ ge gG dH gA eO ⟨cN,dg,rfl,rfl,gw⟩
 have eP:sW w U cQ [.row cN dg 3 1 (hH KL.encI fW),.blk bW 99 ([.slice bL be.Bout.Shots.length bZ,.slice bM be.Bout.Down.length b5,.slice bN be.Bout.Across.length b9,.map (some bA)] ++ ((hH KL.encI cI.1.l) ++ ((hH KL.encI cI.2.1.l) ++ (hH KL.encT cI.2.2.l)))),.obj bA (.map ct cb),.blk ab 99 ([.slice ah x26.Bout.Shots.length ak,.slice ai x26.Bout.Down.length am,.slice aj x26.Bout.Across.length ap,.map (some aa)] ++ ((hH KL.encI x26.hits.l) ++ ((hH KL.encI x26.used.l) ++ (hH KL.encT x26.met.l)))),.obj aa (.map au aq),B2,.blk bj 99 ([.slice bg ae.Bout.Shots.length bk,.slice bh ae.Bout.Down.length bl,.slice bi ae.Bout.Across.length bm,.map (some aY)] ++ ((hH KL.encI az.1.l) ++ ((hH KL.encI az.2.1.l) ++ (hH KL.encT az.2.2.l)))),.obj aY (.map bo bn),.blk aX 44 B1,.blk b2 26 B0] dH:=eO
 refine oA Z Z (eN (sR fL5 Z (oM Z dM (oM Z Z (oA Z Z (oA Z Z (oA Z Z (eN (zR ?_)))))))))
 cases dC
 exact ⟨rfl,_,(wQC rfl rfl rfl),cQ,_,(eP.pick [5,0] _ (by decide) rfl),bC,bD,cN,dg,rfl,rfl⟩
 intro bY fJ
 refine cF Z bY (kN (sR fL5 Z (oM Z Z (oM Z Z (oA Z Z (oA Z Z (oA Z Z (eN (zR ?_)))))))))
 have eQ:=cA.nilrow 3 1
 cases fJ
 exact ⟨rfl,_,(wQC rfl rfl rfl),bR,_,(eQ.pick [3,0] _ (by decide) rfl),bC,bD,none,0,rfl,rfl⟩
 intro cr fK
 refine cF Z cr (kN (zF (zF (ZK ZL [3,1004,3,3,3,1005,3,ab,aa] (wGw gAw) (by kernel_rfl) ?_))))
 have cB:=bE.drew
 generalize hw_W220:({ bw with drawn:=bw.drawn + 1 }:World)=cY at cB ⊢
 refine zN rfl rfl rfl rfl (fun _=>zJ rfl rfl zp rfl zD) (OKS.mt (T:=[ab,aa]) [1,2] [0,3] [.blk aX 44 B1,.blk b2 26 B0] rfl rfl rfl rfl cB rfl ⟨⟨1,by decide,_,rfl,rfl⟩,⟨2,by decide,_,rfl,rfl⟩,trivial⟩ (by decide) rfl (by decide) (fun _ fA=>(fA.ldB (j:=0) rfl rfl rfl zM (v:=jV x44.Hi) rfl)) rfl (zV rfl rfl rfl rfl rfl rfl (zV rfl rfl rfl rfl rfl rfl (zV rfl rfl rfl rfl rfl rfl ?_))))
 have dq:=cw.le bt
 have dr:=cx.le bt
 have dt:=cy.le bt
 refine bnK fK fun gO d9 fL=>?_
 have eR:sW w U br [.blk ab 99 ([.slice ah x26.Bout.Shots.length ak,.slice ai x26.Bout.Down.length am,.slice aj x26.Bout.Across.length ap,.map (some aa)] ++ ((hH KL.encI x26.hits.l) ++ ((hH KL.encI x26.used.l) ++ (hH KL.encT x26.met.l)))),.obj aa (.map au aq),.blk aX 44 B1,.blk b2 26 B0] cY:=cB.pick [1,2,0,3] _ (by decide) rfl
 refine OKS.callHT 2 rfl rfl rfl rfl (zG rfl rfl Try.call65 (zA rfl (zA rfl (zA rfl zQ))) rfl) eR (fun hs=>wCC x26 ab ah ak ai am aj ap aa au aq p1 p2 cY br hs dq dr dt bs d9) rfl (T:=[ab,aa]) rfl ⟨fun b h=>(by cases h;exact .head _),fun b h=>(by cases h;exact .tail _ (.head _)),trivial⟩ ?_
 rintro bS gf gH cZ cG eS ⟨rfl,rfl⟩
 have cC:sW w U bS [.blk ab 99 ([.slice ah x26.Bout.Shots.length ak,.slice ai x26.Bout.Down.length am,.slice aj x26.Bout.Across.length ap,.map (some aa)] ++ ((hH KL.encI x26.hits.l) ++ ((hH KL.encI x26.used.l) ++ (hH KL.encT x26.met.l)))),.obj aa (.map au aq),.blk aX 44 B1,.blk b2 26 B0] cZ:=eS
 refine oR Z (zh Z Z Z) (eN (ifc fL ?_ ?_))
 intro cf fM
 refine cT Z cf (rR (wHE gBg) Z (oM Z Z (oM Z Z (oM Z Z (oR Z (zJ Z Z zp Z zD) (oL Z (cC.ldB (j:=2) Z Z Z zM (v:=jV x44.Hi) Z) (oR Z (zd Z Z Z) ?_)))))))
 have eb:=dq.le cG
 have ec:=dr.le cG
 have ed:=dt.le cG
 refine bnK fM fun bf ef fN=>zH 2 Z Z Z Z (zG Z Z Try.call64 (zA Z (zA Z (zA Z (zA Z zQ)))) Z) cC (fun hs=>wBi x26 ab ah ak ai am aj ap aa au aq p1 p2 (w64 (x44.Hi + 1)) cZ bS hs eb ec ed bs ef) (.inl Z) ?_
 rintro cR gg gI da gB eT ⟨bX,bO,cg,bP,ci,bQ,cj,bB,cu,cn,rfl,rfl,eg,ei,ej,en⟩
 have eU:sW w U cR [.blk bX 99 ([.slice bO bf.Bout.Shots.length cg,.slice bP bf.Bout.Down.length ci,.slice bQ bf.Bout.Across.length cj,.map (some bB)] ++ ((hH KL.encI bf.hits.l) ++ ((hH KL.encI bf.used.l) ++ (hH KL.encT bf.met.l)))),.obj bB (.map cu cn),.blk ab 99 ([.slice ah x26.Bout.Shots.length ak,.slice ai x26.Bout.Down.length am,.slice aj x26.Bout.Across.length ap,.map (some aa)] ++ ((hH KL.encI x26.hits.l) ++ ((hH KL.encI x26.used.l) ++ (hH KL.encT x26.met.l)))),.obj aa (.map au aq),.blk aX 44 B1,.blk b2 26 B0] da:=eT
 have q:=bnd fN
 obtain ⟨⟨fY,cJ⟩,eu,dD⟩:=q
 try dsimp only at dD
 refine zH 2 Z Z Z Z (zG Z Z Try.call46 (zA Z zQ) Z) eU (fun hs=>wAm bf bX bO cg bP ci bQ cj bB cu cn da cR hs eg ei ej en eu) (.inl Z) ?_
 rintro cS gh gJ dI gC eW ⟨cO,dh,rfl,rfl,gx⟩
 have eX:sW w U cS [.row cO dh 3 1 (hH KL.encI fY),.blk bX 99 ([.slice bO bf.Bout.Shots.length cg,.slice bP bf.Bout.Down.length ci,.slice bQ bf.Bout.Across.length cj,.map (some bB)] ++ ((hH KL.encI cJ.1.l) ++ ((hH KL.encI cJ.2.1.l) ++ (hH KL.encT cJ.2.2.l)))),.obj bB (.map cu cn),.blk ab 99 ([.slice ah x26.Bout.Shots.length ak,.slice ai x26.Bout.Down.length am,.slice aj x26.Bout.Across.length ap,.map (some aa)] ++ ((hH KL.encI x26.hits.l) ++ ((hH KL.encI x26.used.l) ++ (hH KL.encT x26.met.l)))),.obj aa (.map au aq),.blk aX 44 B1,.blk b2 26 B0] dI:=eW
 refine oA Z Z (eN (sR fL5 Z (oM Z Z (oM Z Z (oA Z Z (oA Z Z (oA Z Z (eN (zR ?_)))))))))
 have eY:=eX.nilrow 3 1
 cases dD
 exact ⟨rfl,_,(wQC rfl rfl rfl),cS,_,(eY.pick [0,1] _ (by decide) rfl),none,0,cO,dh,rfl,rfl⟩
 intro cf fO
 refine cF Z cf (kN (sR fL5 Z (oM Z Z (oM Z Z (oA Z Z (oA Z Z (oA Z Z (eN (zR ?_)))))))))
 have eZ:=cC.nilrow 3 1
 have fb:=eZ.nilrow 3 1
 cases fO
 exact ⟨rfl,_,(wQC rfl rfl rfl),bS,_,(fb.pick [1,0] _ (by decide) rfl),none,0,none,0,rfl,rfl⟩
 intro cq fP
 refine cT Z cq (sR fL4 Z (oM Z Z (oA Z Z (oA Z Z (oA Z Z (eN (zR (zW ?_))))))))
 have fc:=dB.nilrow 3 1
 have fd:=fc.nilrow 3 1
 cases fP
 exact ⟨rfl,_,(wQC rfl rfl rfl),U9,_,(fd.pick [1,0] _ (by decide) rfl),none,0,none,0,rfl,rfl⟩
end Go.Proofs.Ytfcmijinklojbaa
namespace Go.Proofs.Ytfcmijinklojbaa
open Go.KL
set_option maxHeartbeats 4000000
theorem wDw (p0:Int) (p1:wAD) (ap:Nat) (ai:Nat) (ak:Option Addr) (aq:Nat) (ae:Option Addr) (ah:Nat) (am:Option Addr) (au:Nat) (av:Nat) (bb:Array MapEntry) (be:Nat) (w:World) (U:PHeap) (hS:St0 w U []) (aY:Cl U ap 0 [.pointer (some ⟨ai,0,none⟩)]) (aZ:Cl U ai 0 ([.slice ak p1.Bout.Shots.length aq,.slice ae p1.Bout.Down.length ah,.slice am p1.Bout.Across.length au,.map (some av)] ++ ((hH KL.encI p1.hits.l) ++ ((hH KL.encI p1.used.l) ++ (hH KL.encT p1.met.l))))) (bg:Sl U 1 ak aq p1.Bout.Shots.length (hH KL.encI p1.Bout.Shots)) (bh:Sl U 1 ae ah p1.Bout.Down.length (hH KL.encI p1.Bout.Down)) (bi:Sl U 2 am au p1.Bout.Across.length (hH wAB p1.Bout.Across)) (bj:MpF U av bb be wFL wFc p1.may) {r:Bool} (hm:wAh p0 p1=some r):Gv Try.prog 96 [jV p0,.pointer (some ⟨ap,0,none⟩)] w (wCY w [] U (fun U_ L_ v=>v=.bool r/\L_=[])):=by
 unfold wAh at hm
 refine Gv.of Try.func96 Z Try.ntmps96 Try.results96 Z (sR fL1 Z (oA Z Z (eN (sR (wKn gAv) Z (oM Z Z (oL Z (hS.ldC (f:=0) aY (v:=.pointer (some ⟨ai,0,none⟩)) Z Z ZI Z) (oR Z (zl Z Z) (oR Z (zJ Z Z zU Z zZ) (oR Z (zJ Z Z zE Z zY) (oL Z (hS.ldC (f:=1) aZ (v:=.slice ae p1.Bout.Down.length ah) Z Z zi Z) (oR Z (ZA Z Z zB) (oR Z (ZY Z Z Z) (bnK hm fun x1 h2 ba=>zH 0 Z Z Z Z (zG Z Z Ze (zA Z (zA Z (zA Z zQ))) Z) hS (fun hs=>wAY p0 0 (w64 ((↑p1.Bout.Down.length:Int) - 1)) w U hs h2) (.inr Z) ?_)))))))))))))
 rintro U4 L5 v6 W7 bk aX ⟨rfl,rfl⟩
 have aW:sW w U U4 [] W7:=aX
 refine oA Z Z (eN (zR ?_))
 have hE:=nA ba;first | subst r | cases hE
 exact ⟨Z,_,(zx Z),U4,_,aW,Z,Z⟩
theorem wCz (p0:wAD) (ae:Nat) (ah:Option Addr) (ak:Nat) (ai:Option Addr) (am:Nat) (aj:Option Addr) (ap:Nat) (ab:Nat) (aq:Array MapEntry) (au:Nat) (p1:List Int) (bj:Option Addr) (bk:Nat) (w:World) (U:PHeap) (hS:St0 w U [.blk ae 99 ([.slice ah p0.Bout.Shots.length ak,.slice ai p0.Bout.Down.length am,.slice aj p0.Bout.Across.length ap,.map (some ab)] ++ ((hH KL.encI p0.hits.l) ++ ((hH KL.encI p0.used.l) ++ (hH KL.encT p0.met.l)))),.obj ab (.map aq au)]) (cM:Sl U 1 ah ak p0.Bout.Shots.length (hH KL.encI p0.Bout.Shots)) (cN:Sl U 1 ai am p0.Bout.Down.length (hH KL.encI p0.Bout.Down)) (cO:Sl U 2 aj ap p0.Bout.Across.length (hH wAB p0.Bout.Across)) (cP:MpR aq wFL wFc p0.may) (bD:Sl U 1 bj bk p1.length (hH KL.encI p1)) {r:Int} (hm:wBC p0 p1=some r):Gv Try.prog 71 [.pointer (some ⟨ae,0,none⟩),.slice bj p1.length bk] w (wCY w [.blk ae 99 ([.slice ah p0.Bout.Shots.length ak,.slice ai p0.Bout.Down.length am,.slice aj p0.Bout.Across.length ap,.map (some ab)] ++ ((hH KL.encI p0.hits.l) ++ ((hH KL.encI p0.used.l) ++ (hH KL.encT p0.met.l)))),.obj ab (.map aq au)] U (fun U_ L_ v=>v=jV r/\L_=[.blk ae 99 ([.slice ah p0.Bout.Shots.length ak,.slice ai p0.Bout.Down.length am,.slice aj p0.Bout.Across.length ap,.map (some ab)] ++ ((hH KL.encI p0.hits.l) ++ ((hH KL.encI p0.used.l) ++ (hH KL.encT p0.met.l)))),.obj ab (.map aq au)])):=by
 unfold wBC at hm
 refine Gv.of Try.func71 Z Try.ntmps71 Try.results71 Z (sR gBa Z ?_)
 let B0:List Value:=[.pointer (some ⟨ae,0,none⟩)]
 refine ZH (cs:=B0) rfl rfl rfl rfl rfl rfl (by rfl) hS ?_
 intro W3 b4 cG
 have q:=cG.freeze (k:=0) rfl
 obtain ⟨U7,bb,aX,cw⟩:=q
 replace aX:=Cl.of aX
 have cx:SW w [.blk ae 99 ([.slice ah p0.Bout.Shots.length ak,.slice ai p0.Bout.Down.length am,.slice aj p0.Bout.Across.length ap,.map (some ab)] ++ ((hH KL.encI p0.hits.l) ++ ((hH KL.encI p0.used.l) ++ (hH KL.encT p0.met.l)))),.obj ab (.map aq au)] U U7 [.blk ae 99 ([.slice ah p0.Bout.Shots.length ak,.slice ai p0.Bout.Down.length am,.slice aj p0.Bout.Across.length ap,.map (some ab)] ++ ((hH KL.encI p0.hits.l) ++ ((hH KL.encI p0.used.l) ++ (hH KL.encT p0.met.l)))),.obj ab (.map aq au)] W3:=cw
 replace aX:Cl U7 b4 0 B0:=aX
 refine oA Z Z (eN (zF (sR gBm Z (oM Z Z (oR Z (Runs.mkf Z zQ (zA Z zQ)) ?_)))))
 have q:=cx.freezeMT (k:=1) rfl cP
 obtain ⟨bJ,ba,cS,cz,dk⟩:=q
 have cA:SW w [.blk ae 99 ([.slice ah p0.Bout.Shots.length ak,.slice ai p0.Bout.Down.length am,.slice aj p0.Bout.Across.length ap,.map (some ab)] ++ ((hH KL.encI p0.hits.l) ++ ((hH KL.encI p0.used.l) ++ (hH KL.encT p0.met.l)))),.obj ab (.map aq au)] U bJ [.blk ae 99 ([.slice ah p0.Bout.Shots.length ak,.slice ai p0.Bout.Down.length am,.slice aj p0.Bout.Across.length ap,.map (some ab)] ++ ((hH KL.encI p0.hits.l) ++ ((hH KL.encI p0.used.l) ++ (hH KL.encT p0.met.l))))] W3:=cz
 have q:=cA.freezeTB (k:=0) rfl
 obtain ⟨be,az,aW,cB,dm⟩:=q
 replace aW:=Cl.of aW
 have cC:SW w [.blk ae 99 ([.slice ah p0.Bout.Shots.length ak,.slice ai p0.Bout.Down.length am,.slice aj p0.Bout.Across.length ap,.map (some ab)] ++ ((hH KL.encI p0.hits.l) ++ ((hH KL.encI p0.used.l) ++ (hH KL.encT p0.met.l)))),.obj ab (.map aq au)] U be [] W3:=cB
 replace aW:Cl be ae 0 ([.slice ah p0.Bout.Shots.length ak,.slice ai p0.Bout.Down.length am,.slice aj p0.Bout.Across.length ap,.map (some ab)] ++ ((hH KL.encI p0.hits.l) ++ ((hH KL.encI p0.used.l) ++ (hH KL.encT p0.met.l)))):=aW
 have bQ:=bD.le bb
 have bR:=bQ.le ba
 have bS:=bR.le az
 have bT:=aX.le ba
 have bU:=bT.le az
 have bV:=cM.le bb
 have bW:=bV.le ba
 have bX:=bW.le az
 have bY:=cN.le bb
 have bZ:=bY.le ba
 have b5:=bZ.le az
 have b9:=cO.le bb
 have cb:=b9.le ba
 have cf:=cb.le az
 have cg:=cS.le az
 have cu:FnOK Try.prog be (.func (.func 96) #[] #[.pointer (some ⟨b4,0,none⟩)]) wKh wMX (fun x=>wAh x p0):=⟨96,[],[.pointer (some ⟨b4,0,none⟩)],rfl,Try.call96,fun U1 w1 x y vs le hs ha hm=>by obtain rfl:=ha;exact wDw x p0 b4 ae ah ak ai am aj ap ab aq au w1 U1 hs (bU.le le) (aW.le le) (bX.le le) (b5.le le) (cf.le le) (cg.le le) hm⟩
 refine bnK hm fun dE ci cZ=>zH 0 Z Z Z Z (zG Z Z Try.call79 (zA Z (zA Z zQ)) Z) cC (fun hs=>wCw p1 bj bk (fun x=>wAh x p0) (.func (.func 96) #[] #[.pointer (some ⟨b4,0,none⟩)]) W3 be hs bS cu ci) (.inr Z) ?_
 rintro bK dt dD bl df cD ⟨rfl,rfl⟩
 have cE:SW w [.blk ae 99 ([.slice ah p0.Bout.Shots.length ak,.slice ai p0.Bout.Down.length am,.slice aj p0.Bout.Across.length ap,.map (some ab)] ++ ((hH KL.encI p0.hits.l) ++ ((hH KL.encI p0.used.l) ++ (hH KL.encT p0.met.l)))),.obj ab (.map aq au)] U bK [] bl:=cD
 have q:=dm _ _ _ df cE
 obtain ⟨bL,dg,cH⟩:=q
 have cI:SW w [.blk ae 99 ([.slice ah p0.Bout.Shots.length ak,.slice ai p0.Bout.Down.length am,.slice aj p0.Bout.Across.length ap,.map (some ab)] ++ ((hH KL.encI p0.hits.l) ++ ((hH KL.encI p0.used.l) ++ (hH KL.encT p0.met.l)))),.obj ab (.map aq au)] U bL [.blk ae 99 ([.slice ah p0.Bout.Shots.length ak,.slice ai p0.Bout.Down.length am,.slice aj p0.Bout.Across.length ap,.map (some ab)] ++ ((hH KL.encI p0.hits.l) ++ ((hH KL.encI p0.used.l) ++ (hH KL.encT p0.met.l))))] bl:=cH
 have q:=dk _ _ _ dg cI
 obtain ⟨bf,dh,cJ⟩:=q
 have bC:SW w [.blk ae 99 ([.slice ah p0.Bout.Shots.length ak,.slice ai p0.Bout.Down.length am,.slice aj p0.Bout.Across.length ap,.map (some ab)] ++ ((hH KL.encI p0.hits.l) ++ ((hH KL.encI p0.used.l) ++ (hH KL.encT p0.met.l)))),.obj ab (.map aq au)] U bf [.obj ab (.map aq au),.blk ae 99 ([.slice ah p0.Bout.Shots.length ak,.slice ai p0.Bout.Down.length am,.slice aj p0.Bout.Across.length ap,.map (some ab)] ++ ((hH KL.encI p0.hits.l) ++ ((hH KL.encI p0.used.l) ++ (hH KL.encT p0.met.l))))] bl:=cJ
 refine oR Z (ZE Z Z) (eN (ifc cZ ?_ ?_))
 intro bm bt
 refine zg (nC bm.out) (kN (zF (sR fL1 Z (oA Z Z (eN (zj ?_))))))
 have q:=wDe bt
 obtain ⟨dC,bq⟩:=q
 have q:=wDd bq
 obtain ⟨bs,cU⟩:=q
 replace bs:=zO bs
 refine CK.forN (fun aZ _ σ_ w_=>∃ (U_:PHeap),σ_ 5=jV (1 + ↑aZ:Int)/\σ_ 1=.slice bj p1.length bk/\PHeap.Le bf U_/\SW w [.blk ae 99 ([.slice ah p0.Bout.Shots.length ak,.slice ai p0.Bout.Down.length am,.slice aj p0.Bout.Across.length ap,.map (some ab)] ++ ((hH KL.encI p0.hits.l) ++ ((hH KL.encI p0.used.l) ++ (hH KL.encT p0.met.l)))),.obj ab (.map aq au)] U U_ [.obj ab (.map aq au),.blk ae 99 ([.slice ah p0.Bout.Shots.length ak,.slice ai p0.Bout.Down.length am,.slice aj p0.Bout.Across.length ap,.map (some ab)] ++ ((hH KL.encI p0.hits.l) ++ ((hH KL.encI p0.used.l) ++ (hH KL.encT p0.met.l))))] w_) cU ?_ ?_ ?_
 exact ⟨bf,Z,Z,(zk _),bC⟩
 rintro aZ ⟨⟩ dF dH bz br ⟨bw,bi,bh,bG,cK⟩ bF cR
 try dsimp only at bF
 have bA:Hid ((1 + ↑aZ:Int) < (↑p1.length:Int)):=zO (lp_lt br)
 replace br:=zO br
 have cV:Hid (w64 ((1 + ↑aZ:Int) + 1)=(1 + ↑(aZ + 1):Int)):=zO (by have h1:=bs.out;have h2:=bA.out;rw [wAX] <;> omega)
 refine zF (sR fL4 rfl (zV rfl rfl rfl rfl rfl bi (zV rfl rfl rfl rfl rfl bh (zN rfl rfl rfl rfl (fun _=>ZA rfl rfl zB) (zN rfl rfl rfl rfl (fun _=>zh rfl rfl rfl) (eN (cT Z bA (kN (zF (zj (zF (ZK ZL [3,3,3,1,3,3,3,3,1,3] fL10 (by kernel_rfl) ?_))))))))))))
 have aY:=cK.drew
 generalize hw_W80:({ bz with drawn:=bz.drawn + 1 }:World)=dv at aY ⊢
 refine oM Z bh (oM Z bi (bnK bF fun dr bo da=>?_))
 have cj:=bD.le bb
 have cn:=cj.le dh
 have bB:=cn.le bG
 have q:=bB.el (fun _=>rfl) (wBo bo)
 obtain ⟨dw,dA,cp,cr⟩:=q
 refine oR Z (ZQ Z Z cp Z zB zD (wEY bo) (wEz bo)) (oL Z (aY.ldC (f:=0) cr (v:=jV dr) Z Z zM Z) (oM Z bh (oM Z bi (oR Z (ZY Z Z Z) (bnK da fun x91 bp db=>?_)))))
 have q:=bB.el (fun _=>rfl) (wBo bp)
 obtain ⟨dx,dB,cq,ct⟩:=q
 refine oR Z (ZQ Z Z cq Z zB zD (wEY bp) (wEz bp)) (oL Z (aY.ldC (f:=0) ct (v:=jV x91) Z Z zM Z) (oR Z (Runs.leq Z Z Z) (eN (ifc db ?_ ?_))))
 intro bn de
 refine cT Z bn (sR fL1 Z (oA Z Z (eN (zR (zw (zW ?_))))))
 have q:=wBh de
 obtain ⟨dp,cW,bN⟩:=q
 have q:=wDK bt bq (cR dp bN)
 obtain rfl:=q
 refine zW (zw (zW ?_))
 cases cW
 exact ⟨rfl,_,(zx rfl),bw,_,(aY.pick [1,0] _ (by decide) rfl),rfl,rfl⟩
 intro bn cX
 refine cF Z bn (ZJ (zm (zL (rR fL3 Z (oM Z bi (oR Z (ZC (zd Z Z Z) (congrArg (jV) cV.out)) (oA Z Z (zr ?_))))))))
 have q:=nA cX
 obtain rfl:=q
 exact zL ⟨Z,_,Z,⟨bw,Z,bh,bG,aY⟩⟩
 rintro ⟨⟩ dG du ⟨bI,bP,bO,dy,cy⟩ cQ
 have bE:=wFA bt bq cQ
 try dsimp only at bE
 have bM:Hid (¬ ((1 + ↑(((↑p1.length:Int):Int) - 1).toNat:Int) < (↑p1.length:Int))):=zO (wQS)
 refine zF (sR fL4 Z (oM Z bP (oM Z bO (oR Z (ZA Z Z zB) (oR Z (zh Z Z Z) (eN (cF Z bM (ZV (zu (zu (ZM (zL (sR fL1 Z (oA Z Z (eN (zR ?_))))))))))))))))
 cases bE
 exact ⟨rfl,_,(zx rfl),bI,_,(cy.pick [1,0] _ (by decide) rfl),rfl,rfl⟩
 intro bm cY
 refine zt (nF (bm.out)) (sR fL1 Z (oA Z Z (eN (zR (zW ?_)))))
 cases cY
 exact ⟨rfl,_,(zx rfl),bf,_,(bC.pick [1,0] _ (by decide) rfl),rfl,rfl⟩
theorem wFt (p0:Int) (p1:Int) (ae:Nat) (w:World) (U:PHeap) (hS:St0 w U []) (ah:Cl U ae 0 [jV p1]) {r:Bool} (hm:wBg p0 p1=some r):Gv Try.prog 73 [jV p0,.pointer (some ⟨ae,0,none⟩)] w (wCY w [] U (fun U_ L_ v=>v=.bool r/\L_=[])):=by
 unfold wBg at hm
 refine Gv.of Try.func73 Z Try.ntmps73 Try.results73 Z (sR fL1 Z (oA Z Z (eN (sR fL4 Z (oM Z Z (oL Z (hS.ldC (f:=0) ah (v:=jV p1) Z Z zM Z) (oR Z (ZP Z Z Z) (oA Z Z (eN (zR ?_))))))))))
 first | (obtain rfl:=nA hm) | cases hm
 exact ⟨Z,_,(zx Z),U,_,hS,Z,Z⟩
theorem wDH (p0:List Int) (ab:Option Addr) (ae:Nat) (p1:(Int->Option Bool)) (aY:Value) (w:World) (U:PHeap) (hS:St0 w U [.row ab ae 3 1 (hH KL.encI p0)]) (bq:FnOK Try.prog U aY wKh wMX p1) {r:(List Int)} (hm:wAl p0 p1=some r):Gv Try.prog 72 [.slice ab p0.length ae,aY] w (wCY w [.row ab ae 3 1 (hH KL.encI p0)] U (fun U_ L_ v=>∃ (A0:Option Addr) (c0:Nat),v=.slice A0 r.length c0/\L_=[.row A0 c0 3 1 (hH KL.encI r)])):=by
 unfold wAl at hm
 refine Gv.of Try.func72 Z Try.ntmps72 Try.results72 Z (sR fL1 Z (oA Z Z (eN (sR gBm Z (oM Z Z (oM Z Z ?_))))))
 have q:=hS.freezeT (k:=0) (n:=p0.length) rfl (wAG (f:=KL.encI) (sz:=1) (fun _=>rfl) p0) (by decide)
 obtain ⟨U3,cr,cn,bO,ct⟩:=q
 let B0:Res:=.row ab ae 3 1 (hH KL.encI p0)
 have bQ:SW w [B0] U U3 [] w:=bO
 have h8:=bq.le cr
 refine bnK hm fun x9 bE bW=>zH 0 Z Z Z Z (zG Z Z Try.call97 (zA Z (zA Z zQ)) Z) bQ (fun hs=>wCK p0 ab ae p1 aY w U3 hs cn h8 bE) (.inr Z) ?_
 rintro bz cw cC bk cp bL ⟨rfl,rfl⟩
 have bM:SW w [B0] U bz [] bk:=bL
 have q:=ct _ _ _ cp bM
 obtain ⟨au,cq,bN⟩:=q
 have bo:SW w [B0] U au [B0] bk:=bN
 refine oA Z Z (eN (zF (sR fL2 Z (oM Z Z (oR Z (ZP Z Z Z) (eN (ifc bW ?_ ?_)))))))
 intro aZ bX
 refine cT Z aZ (sR fL2 Z (oM Z Z (oA Z Z (eN (zR (zW ?_))))))
 have hE:=nA bX;first | subst r | cases hE
 exact ⟨Z,_,(zx Z),au,_,bo,ab,ae,Z,Z⟩
 intro aZ bY
 refine cF Z aZ (kN (zF (sR fL3 Z (oM Z Z (oR Z (zd Z Z Z) (oA Z Z (eN (zj (CK.iter (fun (aa,ah,x37) σ_ w_=>∃ (U_:PHeap),σ_ 0=.slice ab aa.length ae/\σ_ 1=aY/\σ_ 5=jV ah/\σ_ 6=jV x37/\PHeap.Le au U_/\SW w [B0] U U_ [.row ab ae 3 1 (hH KL.encI aa)] w_/\aa.length=p0.length) bY ?_ ?_)))))))))
 exact ⟨au,Z,Z,Z,Z,(zk _),bo,Z⟩
 rintro ⟨aa,ah,x37⟩ cH cI cy ⟨bj,am,bb,ap,az,bf,aq,bm⟩ be bT
 try dsimp only at be
 refine zF (sR fL4 Z (oM Z az (oM Z am (oR Z (ZA Z Z zB) (oR Z (zh Z Z Z) (eN ?_))))))
 by_cases ak:x37 < (↑aa.length:Int)
 have bt:=be;rw [if_pos ak] at bt;replace ak:=zO ak
 refine cT Z ak (kN (zF (zj (sR fL5 Z (oM Z am (oM Z az (bnK bt fun _ aV bZ=>?_)))))))
 obtain ⟨cz,aX⟩:=aq.rowSome (j:=0) rfl (by rw [wAG (f:=KL.encI) (sz:=1) (fun _=>rfl) aa];have hz:=wAK aV;omega)
 refine oR Z (ZQ Z Z aX Z zB zD (wAx aV) (wAy aV)) ?_
 have bU:=wBx (xs:=aa) (wAK aV)
 refine zq rfl rfl rfl rfl (aq.ldR (j:=0) rfl aX rfl rfl zM (wAj (sz:=1) (fun _=>rfl) _ _ 0 _ bU (by first | omega | rfl | simp) rfl)) rfl (OKS.ra rfl rfl rfl rfl rfl rfl (eN (sR gBm rfl (zV rfl rfl rfl rfl rfl bb (zV rfl rfl rfl rfl rfl rfl (bnK bZ fun cE bF b5=>?_))))))
 have bG:=bq.le cq
 have bH:=bG.le bf
 refine OKS.callV (a:=(gd aa x37.toNat)) Z Z Z Z Z Z (zA Z zQ) aq bH Z bF ?_
 rintro av cx cD bB bw bP ⟨rfl,rfl⟩
 have bp:SW w [B0] U av [.row ab ae 3 1 (hH KL.encI aa)] bB:=bP
 refine oR Z (ZE Z Z) (eN (ifc b5 ?_ ?_))
 intro ba b9
 refine zg (nC ba.out) (ZJ (zm (zL (rR fL3 Z (oM Z az (oR Z (zd Z Z Z) (oA Z Z (zr ?_))))))))
 have q:=nA b9
 obtain rfl:=q
 exact zL ⟨Z,_,Z,⟨av,am,bb,ap,Z,(bf.trans bw),bp,bm⟩⟩
 intro ba cb
 refine zt (nF (ba.out)) (sR (wIA (.fx 4 .nil .stop)) Z (oM Z am (oM Z ap (oM Z Z (bnK cb fun _ aW cf=>oR Z (ZQ Z Z aX Z zB zD (wAx aW) (wAy aW)) ?_)))))
 have bV:=wBx (xs:=aa) (wAK aW)
 refine OKS.stR (j:=0) (vs:=[jV (gd aa x37.toNat)]) (cs':=hH KL.encI (nB aa ah.toNat (gd aa x37.toNat))) rfl rfl rfl rfl bp rfl aX rfl rfl rfl zD (by rw [wAG (f:=KL.encI) (sz:=1) (fun _=>rfl)];have hz:=wAK aW;show _ + 1 <= _;first | omega | (simp only [nJ];omega) | (simp only [nH,nD,nE];omega)) rfl (wCv (sz:=1) (fo:=0) (fun _=>rfl) _ _ _ _ bV (by first | omega | (simp only [nJ];omega) | (simp only [nH,nD,nE];omega)) (zC rfl) rfl) rfl ?_
 intro bC bR
 have bS:SW w [B0] U av [.row ab ae 3 1 (hH KL.encI (nB aa ah.toNat (gd aa x37.toNat)))] bC:=bR
 refine eN (rR fL3 Z (oM Z ap (oR Z (zd Z Z Z) (oA Z Z (zr (zm (zL (rR fL3 Z (oM Z az (oR Z (zd Z Z Z) (oA Z Z (zr ?_))))))))))))
 have q:=nA cf
 obtain rfl:=q
 exact zL ⟨rfl,_,rfl,⟨av,(Eq.trans (b:=(.slice ab aa.length ae:Value)) (c:=(.slice ab ((nB aa ah.toNat (gd aa x37.toNat)).length) ae:Value)) am (by simp only [nK])),bb,rfl,rfl,(bf.trans bw),bS,(nK.trans bm)⟩⟩
 have bu:=be;rw [if_neg ak] at bu;replace ak:=zO ak
 refine cF Z ak (ZV (zu ?_))
 have q:=wBh bu
 obtain ⟨cu,cg,bD⟩:=q
 have q:=bT cu bD
 obtain rfl:=q
 refine zu (ZM (zL (sR (wDo (.fx 3 .nil .stop)) Z (oM Z am (oM Z ap (bnK cg fun x91 bn ci=>?_))))))
 have q:=wKx bn
 obtain ⟨cA,br,bs,cB,cj⟩:=q
 have bv:=aq.rowCap (j:=0) rfl (by decide) (wAG (f:=KL.encI) (sz:=1) (fun _=>rfl) aa)
 refine zN (v:=.slice (if ae=(ah:Int).toNat then ab else Option.map (fun q:Addr=>q.add ((ah:Int).toNat * 1)) (ab:Option Addr)) (((aa.length:Nat):Int).toNat - (ah:Int).toNat) (ae - (ah:Int).toNat)) rfl rfl rfl rfl (fun _=>Runs.slc (sz:=1) (a:=ah) (b:=((aa.length:Nat):Int)) rfl rfl (.inl ⟨_,rfl,rfl⟩) (.inr ⟨rfl,rfl⟩) zB zD br bs (Int.le_refl _) bv) (OKS.clearTail (j:=0) (a:=ah) (f:=KL.encI) (m:=aa) (zs:=x91) rfl rfl rfl rfl aq rfl (fun _=>rfl) (by decide) bn rfl zB Zi rfl rfl rfl ?_)
 intro bA bJ
 have bK:SW w [B0] U bj [.row ab ae 3 1 (hH KL.encI x91)] bA:=bJ
 refine eN (sR fL4 rfl (zV rfl rfl rfl rfl rfl am (zV rfl rfl rfl rfl rfl ap (zN (v:=.slice ab x91.length ae) rfl rfl rfl rfl (fun _=>ZC (Runs.slc (sz:=1) (a:=0) (b:=ah) rfl rfl (.inr ⟨rfl,rfl⟩) (.inl ⟨_,rfl,rfl⟩) zB zD (Int.le_refl _) br bs bv) (slcK.trans (by rw [cj]))) (OKS.ra rfl rfl rfl rfl rfl rfl (eN (zR ?_)))))))
 have hE:=nA ci;first | subst r | cases hE
 exact ⟨Z,_,(zx Z),bj,_,bK,ab,ae,Z,Z⟩
theorem wEV (p0:Int) (p1:wAD) (az:Nat) (ae:Nat) (ai:Option Addr) (am:Nat) (aj:Option Addr) (ap:Nat) (ak:Option Addr) (aq:Nat) (au:Nat) (aW:Array MapEntry) (aX:Nat) (p2:Int) (aV:Nat) (w:World) (U:PHeap) (hS:St0 w U []) (be:Cl U az 0 [.pointer (some ⟨ae,0,none⟩)]) (bf:Cl U ae 0 ([.slice ai p1.Bout.Shots.length am,.slice aj p1.Bout.Down.length ap,.slice ak p1.Bout.Across.length aq,.map (some au)] ++ ((hH KL.encI p1.hits.l) ++ ((hH KL.encI p1.used.l) ++ (hH KL.encT p1.met.l))))) (bg:Sl U 1 ai am p1.Bout.Shots.length (hH KL.encI p1.Bout.Shots)) (bh:Sl U 1 aj ap p1.Bout.Down.length (hH KL.encI p1.Bout.Down)) (bi:Sl U 2 ak aq p1.Bout.Across.length (hH wAB p1.Bout.Across)) (bj:MpF U au aW aX wFL wFc p1.may) (bk:Cl U aV 0 [jV p2]) {r:Bool} (hm:wAs p0 p1 p2=some r):Gv Try.prog 99 [jV p0,.pointer (some ⟨az,0,none⟩),.pointer (some ⟨aV,0,none⟩)] w (wCY w [] U (fun U_ L_ v=>v=.bool r/\L_=[])):=by
 unfold wAs at hm
 refine Gv.of Try.func99 Z Try.ntmps99 Try.results99 Z (sR fL1 Z (oA Z Z (eN (sR (wDo gBb) Z (oL Z (hS.ldC (f:=0) be (v:=.pointer (some ⟨ae,0,none⟩)) Z Z ZI Z) (oL Z (hS.ldC (f:=0) bk (v:=jV p2) Z Z zM Z) (oM Z Z (bnK hm fun x1 h2 bl=>zH 0 Z Z Z Z (zG Z Z Try.call78 (zA Z (zA Z (zA Z zQ))) Z) hS (fun hs=>wET p1 ae ai am aj ap ak aq au aW aX p2 p0 w U hs bf bg bh bi bj h2) (.inr Z) ?_))))))))
 rintro U4 L5 v6 W7 bn bb ⟨rfl,rfl⟩
 have ba:sW w U U4 [] W7:=bb
 refine oA Z Z (eN (zR ?_))
 have hE:=nA bl;first | subst r | cases hE
 exact ⟨Z,_,(zx Z),U4,_,ba,Z,Z⟩
theorem wCd (p0:wAD) (ae:Nat) (ah:Option Addr) (ak:Nat) (ai:Option Addr) (am:Nat) (aj:Option Addr) (ap:Nat) (ab:Nat) (aq:Array MapEntry) (au:Nat) (p1:Int) (p2:List Int) (bj:Option Addr) (bk:Nat) (w:World) (U:PHeap) (hS:St0 w U [.blk ae 99 ([.slice ah p0.Bout.Shots.length ak,.slice ai p0.Bout.Down.length am,.slice aj p0.Bout.Across.length ap,.map (some ab)] ++ ((hH KL.encI p0.hits.l) ++ ((hH KL.encI p0.used.l) ++ (hH KL.encT p0.met.l)))),.obj ab (.map aq au)]) (cr:Sl U 1 ah ak p0.Bout.Shots.length (hH KL.encI p0.Bout.Shots)) (ct:Sl U 1 ai am p0.Bout.Down.length (hH KL.encI p0.Bout.Down)) (cu:Sl U 2 aj ap p0.Bout.Across.length (hH wAB p0.Bout.Across)) (cw:MpR aq wFL wFc p0.may) (cx:Sl U 1 bj bk p2.length (hH KL.encI p2)) {r:Bool} (hm:wBB p0 p1 p2=some r):Gv Try.prog 75 [.pointer (some ⟨ae,0,none⟩),jV p1,.slice bj p2.length bk] w (wCY w [.blk ae 99 ([.slice ah p0.Bout.Shots.length ak,.slice ai p0.Bout.Down.length am,.slice aj p0.Bout.Across.length ap,.map (some ab)] ++ ((hH KL.encI p0.hits.l) ++ ((hH KL.encI p0.used.l) ++ (hH KL.encT p0.met.l)))),.obj ab (.map aq au)] U (fun U_ L_ v=>v=.bool r/\L_=[.blk ae 99 ([.slice ah p0.Bout.Shots.length ak,.slice ai p0.Bout.Down.length am,.slice aj p0.Bout.Across.length ap,.map (some ab)] ++ ((hH KL.encI p0.hits.l) ++ ((hH KL.encI p0.used.l) ++ (hH KL.encT p0.met.l)))),.obj ab (.map aq au)])):=by
 unfold wBB at hm
 refine Gv.of Try.func75 Z Try.ntmps75 Try.results75 Z (sR gBd Z ?_)
 let B0:List Value:=[.pointer (some ⟨ae,0,none⟩)]
 refine ZH (cs:=B0) rfl rfl rfl rfl rfl rfl (by rfl) hS ?_
 intro W3 b4 cf
 have q:=cf.freeze (k:=0) rfl
 obtain ⟨U7,bh,ba,bU⟩:=q
 replace ba:=Cl.of ba
 have bV:SW w [.blk ae 99 ([.slice ah p0.Bout.Shots.length ak,.slice ai p0.Bout.Down.length am,.slice aj p0.Bout.Across.length ap,.map (some ab)] ++ ((hH KL.encI p0.hits.l) ++ ((hH KL.encI p0.used.l) ++ (hH KL.encT p0.met.l)))),.obj ab (.map aq au)] U U7 [.blk ae 99 ([.slice ah p0.Bout.Shots.length ak,.slice ai p0.Bout.Down.length am,.slice aj p0.Bout.Across.length ap,.map (some ab)] ++ ((hH KL.encI p0.hits.l) ++ ((hH KL.encI p0.used.l) ++ (hH KL.encT p0.met.l)))),.obj ab (.map aq au)] W3:=bU
 replace ba:Cl U7 b4 0 B0:=ba
 refine ZH (cs:=[jV p1]) rfl rfl rfl rfl rfl rfl (by rfl) bV ?_
 intro bg aW bW
 have q:=bW.freeze (k:=0) rfl
 obtain ⟨bm,bb,aY,bX⟩:=q
 replace aY:=Cl.of aY
 have bY:SW w [.blk ae 99 ([.slice ah p0.Bout.Shots.length ak,.slice ai p0.Bout.Down.length am,.slice aj p0.Bout.Across.length ap,.map (some ab)] ++ ((hH KL.encI p0.hits.l) ++ ((hH KL.encI p0.used.l) ++ (hH KL.encT p0.met.l)))),.obj ab (.map aq au)] U bm [.blk ae 99 ([.slice ah p0.Bout.Shots.length ak,.slice ai p0.Bout.Down.length am,.slice aj p0.Bout.Across.length ap,.map (some ab)] ++ ((hH KL.encI p0.hits.l) ++ ((hH KL.encI p0.used.l) ++ (hH KL.encT p0.met.l)))),.obj ab (.map aq au)] bg:=bX
 replace aY:Cl bm aW 0 [jV p1]:=aY
 refine oA Z Z (eN (sR gBm Z (oM Z Z (oR Z (Runs.mkf Z zQ (zA Z (zA Z zQ))) ?_))))
 have q:=bY.freezeMT (k:=1) rfl cw
 obtain ⟨bq,aV,cy,bZ,cC⟩:=q
 have b5:SW w [.blk ae 99 ([.slice ah p0.Bout.Shots.length ak,.slice ai p0.Bout.Down.length am,.slice aj p0.Bout.Across.length ap,.map (some ab)] ++ ((hH KL.encI p0.hits.l) ++ ((hH KL.encI p0.used.l) ++ (hH KL.encT p0.met.l)))),.obj ab (.map aq au)] U bq [.blk ae 99 ([.slice ah p0.Bout.Shots.length ak,.slice ai p0.Bout.Down.length am,.slice aj p0.Bout.Across.length ap,.map (some ab)] ++ ((hH KL.encI p0.hits.l) ++ ((hH KL.encI p0.used.l) ++ (hH KL.encT p0.met.l))))] bg:=bZ
 have q:=b5.freezeTB (k:=0) rfl
 obtain ⟨bf,av,aZ,b9,cD⟩:=q
 replace aZ:=Cl.of aZ
 have cb:SW w [.blk ae 99 ([.slice ah p0.Bout.Shots.length ak,.slice ai p0.Bout.Down.length am,.slice aj p0.Bout.Across.length ap,.map (some ab)] ++ ((hH KL.encI p0.hits.l) ++ ((hH KL.encI p0.used.l) ++ (hH KL.encT p0.met.l)))),.obj ab (.map aq au)] U bf [] bg:=b9
 replace aZ:Cl bf ae 0 ([.slice ah p0.Bout.Shots.length ak,.slice ai p0.Bout.Down.length am,.slice aj p0.Bout.Across.length ap,.map (some ab)] ++ ((hH KL.encI p0.hits.l) ++ ((hH KL.encI p0.used.l) ++ (hH KL.encT p0.met.l)))):=aZ
 have bu:=cx.le bh
 have bv:=bu.le bb
 have bw:=bv.le aV
 have bz:=bw.le av
 have bA:=ba.le bb
 have bB:=bA.le aV
 have bC:=bB.le av
 have bD:=cr.le bh
 have bE:=bD.le bb
 have bF:=bE.le aV
 have bG:=bF.le av
 have bH:=ct.le bh
 have bI:=bH.le bb
 have bJ:=bI.le aV
 have bK:=bJ.le av
 have bL:=cu.le bh
 have bM:=bL.le bb
 have bN:=bM.le aV
 have bO:=bN.le av
 have bP:=cy.le av
 have bQ:=aY.le aV
 have bR:=bQ.le av
 have bT:FnOK Try.prog bf (.func (.func 99) #[] #[.pointer (some ⟨b4,0,none⟩),.pointer (some ⟨aW,0,none⟩)]) wKh wMX (fun x=>wAs x p0 p1):=⟨99,[],[.pointer (some ⟨b4,0,none⟩),.pointer (some ⟨aW,0,none⟩)],rfl,Try.call99,fun U1 w1 x y vs le hs ha hm=>by obtain rfl:=ha;exact wEV x p0 b4 ae ah ak ai am aj ap ab aq au p1 aW w1 U1 hs (bC.le le) (aZ.le le) (bG.le le) (bK.le le) (bO.le le) (bP.le le) (bR.le le) hm⟩
 refine bnK hm fun x56 bS cz=>zH 0 Z Z Z Z (zG Z Z Try.call98 (zA Z (zA Z zQ)) Z) cb (fun hs=>wBt p2 bj bk (fun x=>wAs x p0 p1) (.func (.func 99) #[] #[.pointer (some ⟨b4,0,none⟩),.pointer (some ⟨aW,0,none⟩)]) bg bf hs bz bT bS) (.inr Z) ?_
 rintro br cG cI bi cA cg ⟨rfl,rfl⟩
 have ci:SW w [.blk ae 99 ([.slice ah p0.Bout.Shots.length ak,.slice ai p0.Bout.Down.length am,.slice aj p0.Bout.Across.length ap,.map (some ab)] ++ ((hH KL.encI p0.hits.l) ++ ((hH KL.encI p0.used.l) ++ (hH KL.encT p0.met.l)))),.obj ab (.map aq au)] U br [] bi:=cg
 have q:=cD _ _ _ cA ci
 obtain ⟨bs,cB,cj⟩:=q
 have cn:SW w [.blk ae 99 ([.slice ah p0.Bout.Shots.length ak,.slice ai p0.Bout.Down.length am,.slice aj p0.Bout.Across.length ap,.map (some ab)] ++ ((hH KL.encI p0.hits.l) ++ ((hH KL.encI p0.used.l) ++ (hH KL.encT p0.met.l)))),.obj ab (.map aq au)] U bs [.blk ae 99 ([.slice ah p0.Bout.Shots.length ak,.slice ai p0.Bout.Down.length am,.slice aj p0.Bout.Across.length ap,.map (some ab)] ++ ((hH KL.encI p0.hits.l) ++ ((hH KL.encI p0.used.l) ++ (hH KL.encT p0.met.l))))] bi:=cj
 have q:=cC _ _ _ cB cn
 obtain ⟨bo,cH,cp⟩:=q
 have cq:SW w [.blk ae 99 ([.slice ah p0.Bout.Shots.length ak,.slice ai p0.Bout.Down.length am,.slice aj p0.Bout.Across.length ap,.map (some ab)] ++ ((hH KL.encI p0.hits.l) ++ ((hH KL.encI p0.used.l) ++ (hH KL.encT p0.met.l)))),.obj ab (.map aq au)] U bo [.obj ab (.map aq au),.blk ae 99 ([.slice ah p0.Bout.Shots.length ak,.slice ai p0.Bout.Down.length am,.slice aj p0.Bout.Across.length ap,.map (some ab)] ++ ((hH KL.encI p0.hits.l) ++ ((hH KL.encI p0.used.l) ++ (hH KL.encT p0.met.l))))] bi:=cp
 refine oA Z Z (eN (zR ?_))
 have hE:=nA cz;first | subst r | cases hE
 exact ⟨rfl,_,(zx rfl),bo,_,(cq.pick [1,0] _ (by decide) rfl),rfl,rfl⟩
theorem wCr (p0:wAD) (ah:Nat) (ae:Option Addr) (ai:Nat) (ak:Option Addr) (am:Nat) (aq:Option Addr) (au:Nat) (ab:Nat) (av:Array MapEntry) (az:Nat) (p1:List Int) (aY:Option Addr) (aZ:Nat) (p2:Int) (w:World) (U:PHeap) (hS:St0 w U [.blk ah 99 ([.slice ae p0.Bout.Shots.length ai,.slice ak p0.Bout.Down.length am,.slice aq p0.Bout.Across.length au,.map (some ab)] ++ ((hH KL.encI p0.hits.l) ++ ((hH KL.encI p0.used.l) ++ (hH KL.encT p0.met.l)))),.obj ab (.map av az)]) (cJ:Sl U 1 ae ai p0.Bout.Shots.length (hH KL.encI p0.Bout.Shots)) (bM:Sl U 1 ak am p0.Bout.Down.length (hH KL.encI p0.Bout.Down)) (cK:Sl U 2 aq au p0.Bout.Across.length (hH wAB p0.Bout.Across)) (cM:MpR av wFL wFc p0.may) (bN:Sl U 1 aY aZ p1.length (hH KL.encI p1)) {r:Int} (hm:wAw p0 p1 p2=some r):Gv Try.prog 74 [.pointer (some ⟨ah,0,none⟩),.slice aY p1.length aZ,jV p2] w (wCY w [.blk ah 99 ([.slice ae p0.Bout.Shots.length ai,.slice ak p0.Bout.Down.length am,.slice aq p0.Bout.Across.length au,.map (some ab)] ++ ((hH KL.encI p0.hits.l) ++ ((hH KL.encI p0.used.l) ++ (hH KL.encT p0.met.l)))),.obj ab (.map av az)] U (fun U_ L_ v=>v=jV r/\L_=[.blk ah 99 ([.slice ae p0.Bout.Shots.length ai,.slice ak p0.Bout.Down.length am,.slice aq p0.Bout.Across.length au,.map (some ab)] ++ ((hH KL.encI p0.hits.l) ++ ((hH KL.encI p0.used.l) ++ (hH KL.encT p0.met.l)))),.obj ab (.map av az)])):=by
 unfold wAw at hm
 refine Gv.of Try.func74 Z Try.ntmps74 Try.results74 Z (sR fL1 Z (oA Z Z (eN (sR fL1 Z (oA Z Z (eN (zF (sR fL3 Z (oM Z Z (oR Z (ZA Z Z zB) (oM Z Z (eN (zj (bnK hm fun dK cN cS=>?_))))))))))))))
 have q:=wBz cN
 obtain ⟨bu,cO⟩:=q
 replace bu:=zO bu
 refine CK.forN' (fun k9 x8 σ_ w_=>∃ (U_:PHeap),σ_ 14=jV (↑k9:Int)/\σ_ 0=.pointer (some ⟨ah,0,none⟩)/\σ_ 1=.slice aY p1.length aZ/\σ_ 2=jV p2/\σ_ 7=jV x8/\σ_ 12=.slice aY p1.length aZ/\σ_ 13=jV (↑p1.length:Int)/\PHeap.Le U U_/\SW w [.blk ah 99 ([.slice ae p0.Bout.Shots.length ai,.slice ak p0.Bout.Down.length am,.slice aq p0.Bout.Across.length au,.map (some ab)] ++ ((hH KL.encI p0.hits.l) ++ ((hH KL.encI p0.used.l) ++ (hH KL.encT p0.met.l)))),.obj ab (.map av az)] U U_ [.blk ah 99 ([.slice ae p0.Bout.Shots.length ai,.slice ak p0.Bout.Down.length am,.slice aq p0.Bout.Across.length au,.map (some ab)] ++ ((hH KL.encI p0.hits.l) ++ ((hH KL.encI p0.used.l) ++ (hH KL.encT p0.met.l)))),.obj ab (.map av az)] w_) cO ?_ ?_ ?_
 exact ⟨U,Z,Z,Z,Z,Z,Z,Z,(zk _),hS⟩
 rintro k9 x8 dI dN dq bs ⟨bR,bo,bD,bY,bZ,b5,bE,bF,bw,bi⟩ df
 have bB:Hid ((↑k9:Int) < (↑p1.length:Int)):=zO (wCJ bs)
 replace bs:=zO bs
 have cR:Hid (w64 ((↑k9:Int) + 1)=(↑(k9 + 1):Int)):=zO (by have h1:=bu.out;have h2:=bB.out;rw [wAX] <;> omega)
 refine sR fL1 Z (oR Z (zh Z bo bF) (eN (zF (cT Z bB (kN (zF (zj (sR fL3 Z (bnK df fun dh bH cZ=>?_)))))))))
 have cx:=bN.le bw
 have q:=cx.el (fun _=>rfl) (wBo bH)
 obtain ⟨du,dE,cB,cE⟩:=q
 refine oR Z (Zb Z bE cB bo zB zD (wEZ bH)) (oL Z (bi.ldC (f:=0) cE (v:=jV dh) Z Z zM Z) (oA Z Z (eN (rR fL11 Z (oM Z b5 (oM Z bD (oR Z (zl Z Z) (oR Z (zJ Z Z zU Z zZ) (oR Z (zJ Z Z zE Z zY) (oL Z (bi.ldB (j:=0) Z Z Z zi (v:=.slice ak p0.Bout.Down.length am) Z) (oM Z Z (bnK cZ fun dk bp da=>?_))))))))))))
 have cy:=bM.le bw
 have q:=cy.el (fun _=>rfl) (wBo bp)
 obtain ⟨dv,dF,cC,cG⟩:=q
 refine oR Z (ZQ Z Z cC Z zB zD (wEY bp) (wEz bp)) (oL Z (bi.ldC (f:=0) cG (v:=jV dk) Z Z zM Z) (oR Z (zd Z Z Z) (oA Z Z (zr (zm (zL (rR fL2 Z (oR Z (ZC (zd Z bo Z) (congrArg (jV) cR.out)) (oM Z Z (zr ?_))))))))))
 cases da
 exact zL ⟨Z,⟨bR,Z,bD,bY,bZ,Z,bE,bF,bw,bi⟩⟩
 rintro dO dr ⟨bz,cj,bG,b9,cb,cf,dB,cg,bj,bL⟩
 have bV:Hid (¬ ((↑(((↑p1.length:Int):Int) - 0).toNat:Int) < (↑p1.length:Int))):=zO (wBe)
 refine sR fL1 Z (oR Z (zh Z cj cg) (eN (zF (cF Z bV (ZV (zu (zu (ZM (zL (zF (sR fL7 Z (oM Z bG (oR Z (zl Z Z) (oR Z (zJ Z Z zU Z zZ) (oR Z (zJ Z Z zE Z zY) (oL Z (bL.ldB (j:=0) Z Z Z zi (v:=.slice ae p0.Bout.Shots.length ai) Z) (oR Z (ZA Z Z zB) (oM Z Z (eN (zj (bnK cS fun dL cP db=>?_)))))))))))))))))))))
 have q:=wBz cP
 obtain ⟨bv,cQ⟩:=q
 replace bv:=zO bv
 refine CK.forN' (fun aX x70 σ_ w_=>∃ (U_:PHeap),σ_ 35=jV (↑aX:Int)/\σ_ 0=.pointer (some ⟨ah,0,none⟩)/\σ_ 1=.slice aY p1.length aZ/\σ_ 2=jV p2/\σ_ 7=jV x70/\σ_ 33=.slice ae p0.Bout.Shots.length ai/\σ_ 34=jV (↑p0.Bout.Shots.length:Int)/\PHeap.Le bz U_/\SW w [.blk ah 99 ([.slice ae p0.Bout.Shots.length ai,.slice ak p0.Bout.Down.length am,.slice aq p0.Bout.Across.length au,.map (some ab)] ++ ((hH KL.encI p0.hits.l) ++ ((hH KL.encI p0.used.l) ++ (hH KL.encT p0.met.l)))),.obj ab (.map av az)] U U_ [.blk ah 99 ([.slice ae p0.Bout.Shots.length ai,.slice ak p0.Bout.Down.length am,.slice aq p0.Bout.Across.length au,.map (some ab)] ++ ((hH KL.encI p0.hits.l) ++ ((hH KL.encI p0.used.l) ++ (hH KL.encT p0.met.l)))),.obj ab (.map av az)] w_) cQ ?_ ?_ ?_
 exact ⟨bz,Z,bG,b9,cb,cf,Z,Z,(zk _),bL⟩
 rintro aX x70 dJ dP bT bt ⟨bA,aW,bb,be,bf,bn,bg,bh,aV,bq⟩ dg
 have bC:Hid ((↑aX:Int) < (↑p0.Bout.Shots.length:Int)):=zO (wCJ bt)
 replace bt:=zO bt
 have br:Hid (w64 ((↑aX:Int) + 1)=(↑(aX + 1):Int)):=zO (by have h1:=bv.out;have h2:=bC.out;rw [wAX] <;> omega)
 refine sR fL1 Z (oR Z (zh Z aW bh) (eN (zF (cT Z bC (kN (zF (zj (sR fL5 Z (oM Z aW (bnK dg fun x95 bI de=>?_))))))))))
 have cz:=cJ.le bj
 have bJ:=cz.le aV
 have q:=bJ.el (fun _=>rfl) (wBo bI)
 obtain ⟨dt,dD,cA,cD⟩:=q
 refine oR Z (Zb Z bg cA aW zB zD (wEZ bI)) (oL Z (bq.ldC (f:=0) cD (v:=jV x95) Z Z zM Z) (oA Z Z (oA Z Z (eN (sR (wHF gAz) Z (oM Z Z (oM Z bf (oR Z (zy Z Z Z) (oM Z Z (ifc de ?_ ?_))))))))))
 intro ap cU
 refine zI Z Z Z (zP Z Z (zf (fun h=>h ap.out)) Z) (zI Z Z Z (zP Z Z (zf (fun h=>h ap.out)) Z) (zI Z Z Z (zP Z Z (zf (fun h=>h ap.out)) Z) (Za Z Z Z (zP Z Z (zf (fun h=>h ap.out)) Z) (oR Z (zX Z (zf (fun h=>h ap.out)) Z) (eN (zg Z (ZJ (zm (zL (rR fL2 Z (oR Z (ZC (zd Z aW Z) (congrArg (jV) br.out)) (oM Z Z (zr ?_)))))))))))))
 cases cU
 exact zL ⟨Z,⟨bA,Z,bb,be,bf,bn,bg,bh,aV,bq⟩⟩
 intro ap cV
 refine zV Z Z Z (wT Z ap) Z bb (zV Z Z Z (wT Z ap) Z Z (zV Z Z Z (wT Z ap) Z be ?_))
 have cn:=bM.le bj
 have cp:=cn.le aV
 have cq:=cK.le bj
 have cr:=cq.le aV
 have ct:=bN.le bj
 have cu:=ct.le aV
 refine bnK cV fun dH cw cW=>zH 2 Z Z Z (wT Z ap) (zG Z Z Try.call75 (zA Z (zA Z (zA Z zQ))) Z) bq (fun hs=>wCd p0 ah ae ai ak am aq au ab av az (↑aX:Int) p1 aY aZ bT bA hs bJ cp cr cM cu cw) (.inl Z) ?_
 rintro bl dm dG bS bO cH ⟨rfl,rfl⟩
 have bK:SW w [.blk ah 99 ([.slice ae p0.Bout.Shots.length ai,.slice ak p0.Bout.Down.length am,.slice aq p0.Bout.Across.length au,.map (some ab)] ++ ((hH KL.encI p0.hits.l) ++ ((hH KL.encI p0.used.l) ++ (hH KL.encT p0.met.l)))),.obj ab (.map av az)] U bl [.blk ah 99 ([.slice ae p0.Bout.Shots.length ai,.slice ak p0.Bout.Down.length am,.slice aq p0.Bout.Across.length au,.map (some ab)] ++ ((hH KL.encI p0.hits.l) ++ ((hH KL.encI p0.used.l) ++ (hH KL.encT p0.met.l)))),.obj ab (.map av az)] bS:=cH
 refine oR Z (zS Z (ZX ap.out) Z) (eN (ifc cW ?_ ?_))
 intro bm cX
 refine zt (congrArg nG bm.out) (rR fL4 Z (oM Z bn (oM Z Z (oR Z (ZY Z Z Z) (oA Z Z (zr (zm (zL (rR fL2 Z (oR Z (ZC (zd Z aW Z) (congrArg (jV) br.out)) (oM Z Z (zr ?_))))))))))))
 cases cX
 exact zL ⟨Z,⟨bl,Z,bb,be,bf,Z,bg,bh,(aV.trans bO),bK⟩⟩
 intro bm cY
 refine zg (congrArg nG (nI.2 bm.out)) (ZJ (zm (zL (rR fL2 Z (oR Z (ZC (zd Z aW Z) (congrArg (jV) br.out)) (oM Z Z (zr ?_)))))))
 cases cY
 exact zL ⟨Z,⟨bl,Z,bb,be,bf,bn,bg,bh,(aV.trans bO),bK⟩⟩
 rintro dM dp ⟨bQ,ci,dw,dx,dy,bW,dA,bX,dC,cI⟩
 have bU:Hid (¬ ((↑(((↑p0.Bout.Shots.length:Int):Int) - 0).toNat:Int) < (↑p0.Bout.Shots.length:Int))):=zO (wBe)
 refine sR fL1 Z (oR Z (zh Z ci bX) (eN (zF (cF Z bU (ZV (zu (zu (ZM (zL (sR fL2 Z (oM Z bW (oA Z Z (eN (zR ?_))))))))))))))
 have hE:=nA db;first | subst r | cases hE
 exact ⟨Z,_,(zx Z),bQ,_,cI,Z,Z⟩
theorem wDV (p0:wAC) (bP:Option Addr) (bR:Nat) (bQ:Option Addr) (bS:Nat) (cp:Option Addr) (cq:Nat) (p1:Int) (p2:Int) (p3:List Int) (bA:Option Addr) (bB:Nat) (w:World) (U:PHeap) (hS:St0 w U []) (jX:Sl U 1 bP bR p0.Shots.length (hH KL.encI p0.Shots)) (jY:Sl U 1 bQ bS p0.Down.length (hH KL.encI p0.Down)) (jZ:Sl U 2 cp cq p0.Across.length (hH wAB p0.Across)) (j0:Sl U 1 bA bB p3.length (hH KL.encI p3)) {r:wAc × Int} (hm:wBW p0 p1 p2 p3=some r):Gv Try.prog 23 [.agg #[.slice bP p0.Shots.length bR,.slice bQ p0.Down.length bS,.slice cp p0.Across.length cq],jV p1,jV p2,.slice bA p3.length bB] w (wCY w [] U (fun U_ L_ v=>v=.tuple #[.agg #[jV r.1.Lo,jV r.1.Hi],jV r.2]/\L_=[])):=by
 unfold wBW at hm
 refine Gv.of Try.func23 Z Try.ntmps23 Try.results23 Z (sR (.fx 0 gBh .stop) Z ?_)
 let B0:List Value:=[.slice bP p0.Shots.length bR,.slice bQ p0.Down.length bS,.slice cp p0.Across.length cq]
 refine ZH (cs:=B0) rfl rfl rfl rfl rfl rfl (by rfl) hS ?_
 intro W1 b2 jm
 refine ZH (cs:=[jV p2]) rfl rfl rfl rfl rfl rfl (by rfl) jm ?_
 intro W5 b6 jR
 have q:=jR.freeze (k:=0) rfl
 obtain ⟨U9,cK,bM,i3⟩:=q
 replace bM:=Cl.of bM
 have i5:sW w U U9 [.blk b2 26 B0] W5:=i3
 replace bM:Cl U9 b6 0 [jV p2]:=bM
 let B1:List Value:=[jV 0,jV 0]
 refine ZW (cs:=B1) Z Z Z Z Z zz Z i5 ?_
 intro fG ak eK
 refine oA Z Z (eN (sR (.fl 0 (.fx 1 (wJa (.nil)) .stop)) Z (oL Z (eK.ldBA (j:=1) Z Z Z ZD zZ (vs:=B0) Z Z) ?_)))
 have eu:=jX.le cK
 have ey:=jY.le cK
 have ez:=jZ.le cK
 have q:=bnd hm
 obtain ⟨⟨lY,bH⟩,gR,cf⟩:=q
 try dsimp only at cf
 refine zH 0 Z Z Z Z (zG Z Z Try.call69 (zA Z zQ) Z) eK (fun hs=>wCQ p0 bP bR bQ bS cp cq fG U9 hs eu ey ez gR) (.inr Z) ?_
 rintro bD l8 mJ cz bN eM eI
 rcases lY with _ | x42
 try dsimp only at cf
 obtain ⟨rfl,rfl⟩:=eI
 have dC:sW w U bD [.blk ak 44 B1,.blk b2 26 B0] cz:=eM
 refine oM Z Z (oR Z (zo Z Z (v:=.pointer none) Z) (oR Z (zo Z Z (v:=jV bH) Z) (oA Z Z (oA Z Z (eN (zF (bnK cf fun ge fy lH=>CK.cut (fun σ_ w_=>∃ (U_:PHeap),σ_ 1=jV p1/\σ_ 3=.slice bA p3.length bB/\σ_ 4=.pointer (some ⟨b2,0,none⟩)/\σ_ 6=.pointer (some ⟨b6,0,none⟩)/\σ_ 8=.pointer (some ⟨ak,0,none⟩)/\σ_ 10=.pointer none/\σ_ 11=jV bH/\σ_ 39=.bool ge/\PHeap.Le bD U_/\sW w U U_ [.blk ak 44 B1,.blk b2 26 B0] w_) ?_ ?_)))))))
 refine rR (wKn (.fx 8 (wOd (.fx 16 (wNI (.nil)) .stop)) .stop)) Z (oM Z Z (oR Z (ZP Z Z Z) (oM Z Z ?_)))
 by_cases ba:bH=0
 have fj:=fy;rw [if_pos ba] at fj;replace ba:=zO ba
 refine zV Z Z Z (wT Z ba) Z Z (rU Z (wT Z ba) (zJ Z Z zE Z zY) (zq Z Z Z (wT Z ba) (dC.ldB (j:=1) Z Z Z zi (v:=.slice bP p0.Shots.length bR) Z) Z (rU Z (wT Z ba) (ZA Z Z zB) (rU Z (wT Z ba) (ZY Z Z Z) (bnK fj fun x50 iT lJ=>zH 0 Z Z Z (wT Z ba) (zG Z Z Ze (zA Z (zA Z (zA Z zQ))) Z) dC (fun hs=>wAY p1 0 (w64 ((↑p0.Shots.length:Int) - 1)) cz bD hs iT) (.inr Z) ?_)))))
 rintro cW mh mQ dW dF jQ ⟨rfl,rfl⟩
 have cJ:sW w U cW [.blk ak 44 B1,.blk b2 26 B0] dW:=jQ
 refine rU Z (wT Z ba) (ZE Z Z) (zV Z Z Z (wT Z ba) Z Z (ifc lJ ?_ ?_))
 intro br lK
 have iU:=bM.le bN
 have iV:=iU.le dF
 refine zq Z Z Z (zK Z Z (nC br.out)) (cJ.ldC (f:=0) iV (v:=jV p2) Z Z zM Z) Z (zN Z Z Z (zK Z Z (nC br.out)) (fun _=>zJ Z Z zE Z zY) (zq Z Z Z (zK Z Z (nC br.out)) (cJ.ldB (j:=1) Z Z Z zi (v:=.slice bQ p0.Down.length bS) Z) Z (zN Z Z Z (zK Z Z (nC br.out)) (fun _=>ZA Z Z zB) (zN Z Z Z (zK Z Z (nC br.out)) (fun _=>ZY Z Z Z) (bnK lK fun x64 iW lL=>zH 0 Z Z Z (zK Z Z (nC br.out)) (zG Z Z Ze (zA Z (zA Z (zA Z zQ))) Z) cJ (fun hs=>wAY p2 0 (w64 ((↑p0.Down.length:Int) - 1)) dW cW hs iW) (.inr Z) ?_)))))
 rintro dQ mi mR fZ lV jS ⟨rfl,rfl⟩
 have jU:sW w U dQ [.blk ak 44 B1,.blk b2 26 B0] fZ:=jS
 refine zN Z Z Z (zK Z Z (nC br.out)) (fun _=>ZE Z Z) (rU Z (wT Z ba) (zX Z (nC br.out) Z) (oR Z (zS Z (ZX ba.out) Z) (zr ?_)))
 cases lL
 exact zL ⟨Z,⟨dQ,Z,Z,Z,Z,Z,Z,Z,Z,(dF.trans lV),jU⟩⟩
 intro br lM
 refine zI Z Z Z (zP Z Z (nF (br.out)) Z) (zI Z Z Z (zP Z Z (nF (br.out)) Z) (zI Z Z Z (zP Z Z (nF (br.out)) Z) (zI Z Z Z (zP Z Z (nF (br.out)) Z) (zI Z Z Z (zP Z Z (nF (br.out)) Z) (Za Z Z Z (zP Z Z (nF (br.out)) Z) (zI Z Z Z (zP Z Z (nF (br.out)) Z) (rU Z (wT Z ba) (zS Z (nF (br.out)) Z) (oR Z (zS Z (ZX ba.out) Z) (zr ?_)))))))))
 cases lM
 exact zL ⟨Z,⟨cW,Z,Z,Z,Z,Z,Z,Z,Z,dF,cJ⟩⟩
 have fm:=fy;rw [if_neg ba] at fm;replace ba:=zO ba
 refine oF Z ba (oF Z ba (oF Z ba (oF Z ba (oF Z ba (Za Z Z Z (zP Z Z (zf ba.out) Z) (oF Z ba (oF Z ba (zI Z Z Z (wAF Z Z Z) (zI Z Z Z (wAF Z Z Z) (zI Z Z Z (wAF Z Z Z) (zI Z Z Z (wAF Z Z Z) (zI Z Z Z (wAF Z Z Z) (Za Z Z Z (wAF Z Z Z) (zI Z Z Z (wAF Z Z Z) (oF Z ba (oR Z (zX Z (zf ba.out) Z) (zr ?_)))))))))))))))))
 cases fm
 exact zL ⟨Z,⟨bD,Z,Z,Z,Z,Z,Z,Z,Z,(zk _),dC⟩⟩
 rintro mX mq ⟨cy,ms,gi,mu,mw,cE,gj,dr,ef,mB,eY⟩
 refine ifc lH ?_ ?_
 intro dp lN
 refine zt (ef.trans (congrArg nG dp.out)) (rR fL1 rfl (OKS.ra rfl rfl rfl rfl rfl rfl (eN (zF (sR fL2 rfl (zV rfl rfl rfl rfl rfl rfl (zN rfl rfl rfl rfl (fun _=>ZP rfl rfl rfl) (eN (zg (zf (by decide)) (kN (zF (sR fL2 rfl (zV rfl rfl rfl rfl rfl rfl (zN rfl rfl rfl rfl (fun _=>zy rfl rfl rfl) (eN (zt (ZX (by decide)) (sR gBm rfl (zN rfl rfl rfl rfl (fun _=>ZN (pv:=[]) (z:=B1) (cs:=B1) rfl wAz zz wCo rfl rfl) (zV rfl rfl rfl rfl rfl rfl (ZB (j:=0) (vs:=B1) rfl rfl rfl rfl eY rfl cE rfl rfl ze (zC rfl) rfl rfl rfl ?_))))))))))))))))))))
 intro ga jW
 have eZ:sW w U cy [.blk ak 44 B1,.blk b2 26 B0] ga:=jW
 refine oA Z Z (eN (zR (zW ?_)))
 cases lN
 exact ⟨rfl,_,(wEg (rs:=[.cell 8 44,.tmp 9]) (vs:=[.agg B1.toArray,jV 1]) ⟨⟨_,cE,(wCy ZF ze (eZ.blkAt (k:=0) rfl) (vs:=B1) rfl rfl)⟩,⟨rfl,trivial⟩⟩ rfl),cy,_,(eZ.pick [] _ (by decide) rfl),rfl,rfl⟩
 intro dp lO
 refine zg (ef.trans (congrArg nG (nI.2 dp.out))) (kN (zF (sR fL2 Z (oM Z dr (oR Z (ZP Z Z Z) (eN (ifc lO ?_ ?_)))))))
 intro cD lP
 refine cT Z cD (rR gBm Z (oM Z gj (oM Z gi ?_)))
 cases lP
 intro cD j4
 refine cF Z cD (kN (zF (sR fL2 Z (oM Z dr (oR Z (zy Z Z Z) (eN (cT Z cD (sR gBm Z (oR Z (ZN (pv:=[]) (z:=B1) (cs:=B1) Z wAz zz wCo Z Z) (oM Z dr (ZB (j:=0) (vs:=B1) Z Z Z Z eY Z cE Z Z ze (zC Z) Z Z Z ?_)))))))))))
 intro fD i0
 have eJ:sW w U cy [.blk ak 44 B1,.blk b2 26 B0] fD:=i0
 refine oA Z Z (eN (zR (zW ?_)))
 cases j4
 exact ⟨rfl,_,(wEg (rs:=[.cell 8 44,.tmp 9]) (vs:=[.agg B1.toArray,jV bH]) ⟨⟨_,cE,(wCy ZF ze (eJ.blkAt (k:=0) rfl) (vs:=B1) rfl rfl)⟩,⟨rfl,trivial⟩⟩ rfl),cy,_,(eJ.pick [] _ (by decide) rfl),rfl,rfl⟩
 try dsimp only at cf
 obtain ⟨ap,aq,au,av,aV,az,aW,ab,aY,aX,rfl,rfl,gm,gp,gu,b9⟩:=eI
 have dx:sW w U bD [.blk ap 99 ([.slice aq x42.Bout.Shots.length au,.slice av x42.Bout.Down.length aV,.slice az x42.Bout.Across.length aW,.map (some ab)] ++ ((hH KL.encI x42.hits.l) ++ ((hH KL.encI x42.used.l) ++ (hH KL.encT x42.met.l)))),.obj ab (.map aY aX),.blk ak 44 B1,.blk b2 26 B0] cz:=eM
 refine oM Z Z (oR Z (zo Z Z (v:=.pointer (some ⟨ap,0,none⟩)) Z) (oR Z (zo Z Z (v:=jV bH) Z) (oA Z Z (oA Z Z (eN (zF (bnK cf fun gb fu j5=>CK.cut (fun σ_ w_=>∃ (U_:PHeap),σ_ 1=jV p1/\σ_ 3=.slice bA p3.length bB/\σ_ 4=.pointer (some ⟨b2,0,none⟩)/\σ_ 6=.pointer (some ⟨b6,0,none⟩)/\σ_ 8=.pointer (some ⟨ak,0,none⟩)/\σ_ 10=.pointer (some ⟨ap,0,none⟩)/\σ_ 11=jV bH/\σ_ 39=.bool gb/\PHeap.Le bD U_/\sW w U U_ [.blk ap 99 ([.slice aq x42.Bout.Shots.length au,.slice av x42.Bout.Down.length aV,.slice az x42.Bout.Across.length aW,.map (some ab)] ++ ((hH KL.encI x42.hits.l) ++ ((hH KL.encI x42.used.l) ++ (hH KL.encT x42.met.l)))),.obj ab (.map aY aX),.blk ak 44 B1,.blk b2 26 B0] w_) ?_ ?_)))))))
 refine rR (wKn (.fx 8 (wOd (.fx 16 (wNI (.nil)) .stop)) .stop)) Z (oM Z Z (oR Z (ZP Z Z Z) (oM Z Z ?_)))
 by_cases aZ:bH=0
 have fb:=fu;rw [if_pos aZ] at fb;replace aZ:=zO aZ
 refine zV Z Z Z (wT Z aZ) Z Z (rU Z (wT Z aZ) (zJ Z Z zE Z zY) (zq Z Z Z (wT Z aZ) (dx.ldB (j:=3) Z Z Z zi (v:=.slice bP p0.Shots.length bR) Z) Z (rU Z (wT Z aZ) (ZA Z Z zB) (rU Z (wT Z aZ) (ZY Z Z Z) (bnK fb fun x117 gv j6=>zH 0 Z Z Z (wT Z aZ) (zG Z Z Ze (zA Z (zA Z (zA Z zQ))) Z) dx (fun hs=>wAY p1 0 (w64 ((↑p0.Shots.length:Int) - 1)) cz bD hs gv) (.inr Z) ?_)))))
 rintro cR lZ mD dR dE i4 ⟨rfl,rfl⟩
 have cG:sW w U cR [.blk ap 99 ([.slice aq x42.Bout.Shots.length au,.slice av x42.Bout.Down.length aV,.slice az x42.Bout.Across.length aW,.map (some ab)] ++ ((hH KL.encI x42.hits.l) ++ ((hH KL.encI x42.used.l) ++ (hH KL.encT x42.met.l)))),.obj ab (.map aY aX),.blk ak 44 B1,.blk b2 26 B0] dR:=i4
 refine rU Z (wT Z aZ) (ZE Z Z) (zV Z Z Z (wT Z aZ) Z Z (ifc j6 ?_ ?_))
 intro bq j7
 have gw:=bM.le bN
 have gx:=gw.le dE
 refine zq Z Z Z (zK Z Z (nC bq.out)) (cG.ldC (f:=0) gx (v:=jV p2) Z Z zM Z) Z (zN Z Z Z (zK Z Z (nC bq.out)) (fun _=>zJ Z Z zE Z zY) (zq Z Z Z (zK Z Z (nC bq.out)) (cG.ldB (j:=3) Z Z Z zi (v:=.slice bQ p0.Down.length bS) Z) Z (zN Z Z Z (zK Z Z (nC bq.out)) (fun _=>ZA Z Z zB) (zN Z Z Z (zK Z Z (nC bq.out)) (fun _=>ZY Z Z Z) (bnK j7 fun mS gy j8=>zH 0 Z Z Z (zK Z Z (nC bq.out)) (zG Z Z Ze (zA Z (zA Z (zA Z zQ))) Z) cG (fun hs=>wAY p2 0 (w64 ((↑p0.Down.length:Int) - 1)) dR cR hs gy) (.inr Z) ?_)))))
 rintro dJ l3 mE fE lS i6 ⟨rfl,rfl⟩
 have i7:sW w U dJ [.blk ap 99 ([.slice aq x42.Bout.Shots.length au,.slice av x42.Bout.Down.length aV,.slice az x42.Bout.Across.length aW,.map (some ab)] ++ ((hH KL.encI x42.hits.l) ++ ((hH KL.encI x42.used.l) ++ (hH KL.encT x42.met.l)))),.obj ab (.map aY aX),.blk ak 44 B1,.blk b2 26 B0] fE:=i6
 refine zN Z Z Z (zK Z Z (nC bq.out)) (fun _=>ZE Z Z) (rU Z (wT Z aZ) (zX Z (nC bq.out) Z) (oR Z (zS Z (ZX aZ.out) Z) (zr ?_)))
 cases j8
 exact zL ⟨Z,⟨dJ,Z,Z,Z,Z,Z,Z,Z,Z,(dE.trans lS),i7⟩⟩
 intro bq j9
 refine zI Z Z Z (zP Z Z (nF (bq.out)) Z) (zI Z Z Z (zP Z Z (nF (bq.out)) Z) (zI Z Z Z (zP Z Z (nF (bq.out)) Z) (zI Z Z Z (zP Z Z (nF (bq.out)) Z) (zI Z Z Z (zP Z Z (nF (bq.out)) Z) (Za Z Z Z (zP Z Z (nF (bq.out)) Z) (zI Z Z Z (zP Z Z (nF (bq.out)) Z) (rU Z (wT Z aZ) (zS Z (nF (bq.out)) Z) (oR Z (zS Z (ZX aZ.out) Z) (zr ?_)))))))))
 cases j9
 exact zL ⟨Z,⟨cR,Z,Z,Z,Z,Z,Z,Z,Z,dE,cG⟩⟩
 have fc:=fu;rw [if_neg aZ] at fc;replace aZ:=zO aZ
 refine oF Z aZ (oF Z aZ (oF Z aZ (oF Z aZ (oF Z aZ (Za Z Z Z (zP Z Z (zf aZ.out) Z) (oF Z aZ (oF Z aZ (zI Z Z Z (wAF Z Z Z) (zI Z Z Z (wAF Z Z Z) (zI Z Z Z (wAF Z Z Z) (zI Z Z Z (wAF Z Z Z) (zI Z Z Z (wAF Z Z Z) (Za Z Z Z (wAF Z Z Z) (zI Z Z Z (wAF Z Z Z) (oF Z aZ (oR Z (zX Z (zf aZ.out) Z) (zr ?_)))))))))))))))))
 cases fc
 exact zL ⟨Z,⟨bD,Z,Z,Z,Z,Z,Z,Z,Z,(zk _),dx⟩⟩
 rintro mV fH ⟨bY,b5,bW,gg,dZ,bz,bX,dq,d7,bF,dy⟩
 refine ifc j5 ?_ ?_
 intro de lc
 refine zt (d7.trans (congrArg nG de.out)) (rR fL1 rfl (OKS.ra rfl rfl rfl rfl rfl rfl (eN (zF (sR fL2 rfl (zV rfl rfl rfl rfl rfl rfl (zN rfl rfl rfl rfl (fun _=>ZP rfl rfl rfl) (eN (zg (zf (by decide)) (kN (zF (sR fL2 rfl (zV rfl rfl rfl rfl rfl rfl (zN rfl rfl rfl rfl (fun _=>zy rfl rfl rfl) (eN (zt (ZX (by decide)) (sR gBm rfl (zN rfl rfl rfl rfl (fun _=>ZN (pv:=[]) (z:=B1) (cs:=B1) rfl wAz zz wCo rfl rfl) (zV rfl rfl rfl rfl rfl rfl (ZB (j:=2) (vs:=B1) rfl rfl rfl rfl dy rfl bz rfl rfl ze (zC rfl) rfl rfl rfl ?_))))))))))))))))))))
 intro fJ i8
 have eL:sW w U bY [.blk ap 99 ([.slice aq x42.Bout.Shots.length au,.slice av x42.Bout.Down.length aV,.slice az x42.Bout.Across.length aW,.map (some ab)] ++ ((hH KL.encI x42.hits.l) ++ ((hH KL.encI x42.used.l) ++ (hH KL.encT x42.met.l)))),.obj ab (.map aY aX),.blk ak 44 B1,.blk b2 26 B0] fJ:=i8
 refine oA Z Z (eN (zR (zW ?_)))
 cases lc
 exact ⟨rfl,_,(wEg (rs:=[.cell 8 44,.tmp 9]) (vs:=[.agg B1.toArray,jV 1]) ⟨⟨_,bz,(wCy ZF ze (eL.blkAt (k:=2) rfl) (vs:=B1) rfl rfl)⟩,⟨rfl,trivial⟩⟩ rfl),bY,_,(eL.pick [] _ (by decide) rfl),rfl,rfl⟩
 intro de lf
 refine zg (d7.trans (congrArg nG (nI.2 de.out))) (kN (zF (sR fL2 Z (oM Z dq (oR Z (ZP Z Z Z) (eN (ifc lf ?_ ?_)))))))
 intro cB lg
 refine cT Z cB (rR gBm Z (oM Z bX (oM Z bW ?_)))
 have eg:=gm.le bF
 have ei:=gp.le bF
 have ej:=gu.le bF
 have gz:=j0.le cK
 have gA:=gz.le bN
 have en:=gA.le bF
 refine bnK lg fun lX gB lh=>zH 2 Z Z Z Z (zG Z Z Try.call71 (zA Z (zA Z zQ)) Z) dy (fun hs=>wCz x42 ap aq au av aV az aW ab aY aX p3 bA bB fH bY hs eg ei ej b9 en gB) (.inl Z) ?_
 rintro cu l4 mF dS bG i9 ⟨rfl,rfl⟩
 have dA:sW w U cu [.blk ap 99 ([.slice aq x42.Bout.Shots.length au,.slice av x42.Bout.Down.length aV,.slice az x42.Bout.Across.length aW,.map (some ab)] ++ ((hH KL.encI x42.hits.l) ++ ((hH KL.encI x42.used.l) ++ (hH KL.encT x42.met.l)))),.obj ab (.map aY aX),.blk ak 44 B1,.blk b2 26 B0] dS:=i9
 refine oA Z Z (eN (zF (sR fL2 Z (oM Z Z (oR Z (zy Z Z Z) (eN (ifc lh ?_ ?_)))))))
 intro df li
 refine zg (zf (fun h=>h df.out)) (kN (zF (sR (.fl 0 gBh) Z (oL Z (dA.ldBA (j:=3) Z Z gg ZD zZ (vs:=B0) Z Z) ?_))))
 have gC:=eu.le bN
 have gD:=gC.le bF
 have gE:=gD.le bG
 have gF:=ey.le bN
 have gG:=gF.le bF
 have gH:=gG.le bG
 have gI:=ez.le bN
 have gJ:=gI.le bF
 have gK:=gJ.le bG
 refine bnK li fun aa gL lj=>zH 0 Z Z Z Z (zG Z Z Try.call45 (zA Z zQ) Z) dA (fun hs=>wDG p0 bP bR bQ bS cp cq dS cu hs gE gH gK gL) (.inr Z) ?_
 rintro dK l5 mG dT cg ja ⟨bh,be,bi,bf,bj,bg,bk,ai,bm,bl,rfl,rfl,gM,gN,gO,gP⟩
 have jb:sW w U dK [.blk bh 99 ([.slice be aa.Bout.Shots.length bi,.slice bf aa.Bout.Down.length bj,.slice bg aa.Bout.Across.length bk,.map (some ai)] ++ ((hH KL.encI aa.hits.l) ++ ((hH KL.encI aa.used.l) ++ (hH KL.encT aa.met.l)))),.obj ai (.map bm bl),.blk ap 99 ([.slice aq x42.Bout.Shots.length au,.slice av x42.Bout.Down.length aV,.slice az x42.Bout.Across.length aW,.map (some ab)] ++ ((hH KL.encI x42.hits.l) ++ ((hH KL.encI x42.used.l) ++ (hH KL.encT x42.met.l)))),.obj ab (.map aY aX),.blk ak 44 B1,.blk b2 26 B0] dT:=ja
 have q:=bnd lj
 obtain ⟨⟨dG,ae⟩,gQ,fd⟩:=q
 try dsimp only at fd
 refine zH 2 Z Z Z Z (zG Z Z Try.call46 (zA Z zQ) Z) jb (fun hs=>wAm aa bh be bi bf bj bg bk ai bm bl dT dK hs gM gN gO gP gQ) (.inl Z) ?_
 rintro bZ l6 mH cY ci jc ⟨dH,gf,rfl,rfl,gS⟩
 let B2:Res:=.row dH gf 3 1 (hH KL.encI dG)
 have cH:sW w U bZ [B2,.blk bh 99 ([.slice be aa.Bout.Shots.length bi,.slice bf aa.Bout.Down.length bj,.slice bg aa.Bout.Across.length bk,.map (some ai)] ++ ((hH KL.encI ae.1.l) ++ ((hH KL.encI ae.2.1.l) ++ (hH KL.encT ae.2.2.l)))),.obj ai (.map bm bl),.blk ap 99 ([.slice aq x42.Bout.Shots.length au,.slice av x42.Bout.Down.length aV,.slice az x42.Bout.Across.length aW,.map (some ab)] ++ ((hH KL.encI x42.hits.l) ++ ((hH KL.encI x42.used.l) ++ (hH KL.encT x42.met.l)))),.obj ab (.map aY aX),.blk ak 44 B1,.blk b2 26 B0] cY:=jc
 have gT:dH.isNone=decide (dG=[]):=wGU (j:=0) cH rfl (fun _=>rfl) (by decide) gS
 refine zN rfl rfl rfl rfl (fun _=>Runs.neNilR (b:=decide (¬ (dG=[]))) rfl rfl rfl zB (by simp [gT])) (eN (ifc fd ?_ ?_))
 intro dg lm
 refine zg (zf (fun h=>h dg.out)) (kN (sR (wDo (.fx 3 (.fl 4 (.fx 5 (.fx 6 .nil .stop) .stop)) .stop)) Z (oM Z bX (oM Z b5 ?_))))
 have gU:=bM.le bN
 have gW:=gU.le bF
 have gX:=gW.le bG
 have gZ:=gX.le cg
 have eA:=gZ.le ci
 refine oL Z (cH.ldC (f:=0) eA (v:=jV p2) Z dZ zM Z) ?_
 have g7:=eg.le bG
 have g8:=g7.le cg
 have eC:=g8.le ci
 have g9:=ei.le bG
 have ib:=g9.le cg
 have eD:=ib.le ci
 have ic:=ej.le bG
 have ie:=ic.le cg
 have eE:=ie.le ci
 refine bnK lm fun cr ig lp=>?_
 have jd:sW w U bZ [.blk ap 99 ([.slice aq x42.Bout.Shots.length au,.slice av x42.Bout.Down.length aV,.slice az x42.Bout.Across.length aW,.map (some ab)] ++ ((hH KL.encI x42.hits.l) ++ ((hH KL.encI x42.used.l) ++ (hH KL.encT x42.met.l)))),.obj ab (.map aY aX),B2,.blk bh 99 ([.slice be aa.Bout.Shots.length bi,.slice bf aa.Bout.Down.length bj,.slice bg aa.Bout.Across.length bk,.map (some ai)] ++ ((hH KL.encI ae.1.l) ++ ((hH KL.encI ae.2.1.l) ++ (hH KL.encT ae.2.2.l)))),.obj ai (.map bm bl),.blk ak 44 B1,.blk b2 26 B0] cY:=cH.pick [3,4,0,1,2,5,6] _ (by decide) rfl
 refine zH 2 Z Z Z Z (zG Z Z Try.call65 (zA Z (zA Z (zA Z zQ))) Z) jd (fun hs=>wCC x42 ap aq au av aV az aW ab aY aX p1 p2 cY bZ hs eC eD eE b9 ig) (.inl Z) ?_
 rintro cS l7 mI fK cj je ⟨rfl,rfl⟩
 have jf:sW w U cS [.blk ap 99 ([.slice aq x42.Bout.Shots.length au,.slice av x42.Bout.Down.length aV,.slice az x42.Bout.Across.length aW,.map (some ab)] ++ ((hH KL.encI x42.hits.l) ++ ((hH KL.encI x42.used.l) ++ (hH KL.encT x42.met.l)))),.obj ab (.map aY aX),B2,.blk bh 99 ([.slice be aa.Bout.Shots.length bi,.slice bf aa.Bout.Down.length bj,.slice bg aa.Bout.Across.length bk,.map (some ai)] ++ ((hH KL.encI ae.1.l) ++ ((hH KL.encI ae.2.1.l) ++ (hH KL.encT ae.2.2.l)))),.obj ai (.map bm bl),.blk ak 44 B1,.blk b2 26 B0] fK:=je
 let B3:List Value:=[jV 0,jV cr]
 refine oR Z (ZN (pv:=[(1,jV cr)]) (z:=B1) (cs:=B3) Z (wAb Z wAz) zz wCo Z Z) (ZW (cs:=B1) Z Z Z Z Z zz Z jf ?_)
 intro mo bo jg
 refine ZB (j:=0) (vs:=B3) Z Z Z Z jg Z Z Z Z ze (zC Z) Z Z Z ?_
 intro dU jh
 have ji:sW w U cS [.blk bo 44 B3,.blk ap 99 ([.slice aq x42.Bout.Shots.length au,.slice av x42.Bout.Down.length aV,.slice az x42.Bout.Across.length aW,.map (some ab)] ++ ((hH KL.encI x42.hits.l) ++ ((hH KL.encI x42.used.l) ++ (hH KL.encT x42.met.l)))),.obj ab (.map aY aX),B2,.blk bh 99 ([.slice be aa.Bout.Shots.length bi,.slice bf aa.Bout.Down.length bj,.slice bg aa.Bout.Across.length bk,.map (some ai)] ++ ((hH KL.encI ae.1.l) ++ ((hH KL.encI ae.2.1.l) ++ (hH KL.encT ae.2.2.l)))),.obj ai (.map bm bl),.blk ak 44 B1,.blk b2 26 B0] dU:=jh
 refine eN (sR (.fl 0 (.fx 1 (.fl 2 gBb) .stop)) Z (oM Z bW ?_))
 have ii:=en.le bG
 have ij:=ii.le cg
 have ik:=ij.le ci
 have eF:=ik.le cj
 refine bnK lp fun fA il lq=>zH 0 Z Z Z Z (zG Z Z Try.call44 (zA Z zQ) Z) ji (fun hs=>wBd p3 bA bB dU cS hs eF il) (.inr Z) ?_
 rintro cU l9 mK dV cn jj ⟨dI,dY,rfl,rfl⟩
 have jk:sW w U cU [.row dI dY 3 1 (hH KL.encI fA),.blk bo 44 B3,.blk ap 99 ([.slice aq x42.Bout.Shots.length au,.slice av x42.Bout.Down.length aV,.slice az x42.Bout.Across.length aW,.map (some ab)] ++ ((hH KL.encI x42.hits.l) ++ ((hH KL.encI x42.used.l) ++ (hH KL.encT x42.met.l)))),.obj ab (.map aY aX),B2,.blk bh 99 ([.slice be aa.Bout.Shots.length bi,.slice bf aa.Bout.Down.length bj,.slice bg aa.Bout.Across.length bk,.map (some ai)] ++ ((hH KL.encI ae.1.l) ++ ((hH KL.encI ae.2.1.l) ++ (hH KL.encT ae.2.2.l)))),.obj ai (.map bm bl),.blk ak 44 B1,.blk b2 26 B0] dV:=jj
 refine oR Z (Runs.mkf Z zQ (zA dZ zQ)) ?_
 have im:=eA.le cj
 have io:=im.le cn
 have iZ:FnOK Try.prog cU (.func (.func 73) #[] #[.pointer (some ⟨b6,0,none⟩)]) wKh wMX (fun x=>wBg x p2):=⟨73,[],[.pointer (some ⟨b6,0,none⟩)],rfl,Try.call73,fun U1 w1 x y vs le hs ha hm=>by obtain rfl:=ha;exact wFt x p2 b6 w1 U1 hs (io.le le) hm⟩
 refine bnK lq fun bT ip ls=>zH 1 Z Z Z Z (zG Z Z Try.call72 (zA Z (zA Z zQ)) Z) jk (fun hs=>wDH fA dI dY (fun x=>wBg x p2) (.func (.func 73) #[] #[.pointer (some ⟨b6,0,none⟩)]) dV cU hs iZ ip) (.inl Z) ?_
 rintro cV ma mL cZ cM jl ⟨ct,cC,rfl,rfl⟩
 let B4:Res:=.row ct cC 3 1 (hH KL.encI bT)
 have jo:sW w U cV [B4,.blk bo 44 B3,.blk ap 99 ([.slice aq x42.Bout.Shots.length au,.slice av x42.Bout.Down.length aV,.slice az x42.Bout.Across.length aW,.map (some ab)] ++ ((hH KL.encI x42.hits.l) ++ ((hH KL.encI x42.used.l) ++ (hH KL.encT x42.met.l)))),.obj ab (.map aY aX),B2,.blk bh 99 ([.slice be aa.Bout.Shots.length bi,.slice bf aa.Bout.Down.length bj,.slice bg aa.Bout.Across.length bk,.map (some ai)] ++ ((hH KL.encI ae.1.l) ++ ((hH KL.encI ae.2.1.l) ++ (hH KL.encT ae.2.2.l)))),.obj ai (.map bm bl),.blk ak 44 B1,.blk b2 26 B0] cZ:=jl
 refine oA Z Z (eN (sR (wDo gBb) Z (oM Z bX (oM Z bW (oM Z b5 ?_)))))
 have iq:=eC.le cj
 have ir:=iq.le cn
 have dt:=ir.le cM
 have it:=eD.le cj
 have iu:=it.le cn
 have du:=iu.le cM
 have iv:=eE.le cj
 have iw:=iv.le cn
 have dv:=iw.le cM
 have iy:=eF.le cn
 have eG:=iy.le cM
 refine bnK ls fun bC iz lu=>?_
 have jp:sW w U cV [.blk ap 99 ([.slice aq x42.Bout.Shots.length au,.slice av x42.Bout.Down.length aV,.slice az x42.Bout.Across.length aW,.map (some ab)] ++ ((hH KL.encI x42.hits.l) ++ ((hH KL.encI x42.used.l) ++ (hH KL.encT x42.met.l)))),.obj ab (.map aY aX),B4,.blk bo 44 B3,B2,.blk bh 99 ([.slice be aa.Bout.Shots.length bi,.slice bf aa.Bout.Down.length bj,.slice bg aa.Bout.Across.length bk,.map (some ai)] ++ ((hH KL.encI ae.1.l) ++ ((hH KL.encI ae.2.1.l) ++ (hH KL.encT ae.2.2.l)))),.obj ai (.map bm bl),.blk ak 44 B1,.blk b2 26 B0] cZ:=jo.pick [2,3,0,1,4,5,6,7,8] _ (by decide) rfl
 refine zH 2 Z Z Z Z (zG Z Z Try.call74 (zA Z (zA Z (zA Z zQ))) Z) jp (fun hs=>wCr x42 ap aq au av aV az aW ab aY aX p3 bA bB p1 cZ cV hs dt du dv b9 eG iz) (.inl Z) ?_
 rintro dL mb mM cA bO jq ⟨rfl,rfl⟩
 have eO:sW w U dL [.blk ap 99 ([.slice aq x42.Bout.Shots.length au,.slice av x42.Bout.Down.length aV,.slice az x42.Bout.Across.length aW,.map (some ab)] ++ ((hH KL.encI x42.hits.l) ++ ((hH KL.encI x42.used.l) ++ (hH KL.encT x42.met.l)))),.obj ab (.map aY aX),B4,.blk bo 44 B3,B2,.blk bh 99 ([.slice be aa.Bout.Shots.length bi,.slice bf aa.Bout.Down.length bj,.slice bg aa.Bout.Across.length bk,.map (some ai)] ++ ((hH KL.encI ae.1.l) ++ ((hH KL.encI ae.2.1.l) ++ (hH KL.encT ae.2.2.l)))),.obj ai (.map bm bl),.blk ak 44 B1,.blk b2 26 B0] cA:=jq
 refine oA Z Z (eN (zF (zj ?_)))
 have q:=bnd lu
 obtain ⟨⟨dD,gc⟩,fw,ff⟩:=q
 try dsimp only at ff
 refine CK.cut (fun σ_ w_=>∃ (U_:PHeap) (cP:Option Addr) (dh:Nat),σ_ 1=jV p1/\σ_ 3=.slice bA p3.length bB/\σ_ 8=.pointer (some ⟨ak,0,none⟩)/\σ_ 10=.pointer (some ⟨ap,0,none⟩)/\σ_ 12=.pointer (some ⟨bo,0,none⟩)/\σ_ 13=.slice cP dD.length dh/\σ_ 14=jV bC/\σ_ 67=.bool gc/\PHeap.Le dL U_/\sW w U U_ [.blk ap 99 ([.slice aq x42.Bout.Shots.length au,.slice av x42.Bout.Down.length aV,.slice az x42.Bout.Across.length aW,.map (some ab)] ++ ((hH KL.encI x42.hits.l) ++ ((hH KL.encI x42.used.l) ++ (hH KL.encT x42.met.l)))),.obj ab (.map aY aX),.blk bo 44 B3,.blk bh 99 ([.slice be aa.Bout.Shots.length bi,.slice bf aa.Bout.Down.length bj,.slice bg aa.Bout.Across.length bk,.map (some ai)] ++ ((hH KL.encI ae.1.l) ++ ((hH KL.encI ae.2.1.l) ++ (hH KL.encT ae.2.2.l)))),.obj ai (.map bm bl),.blk ak 44 B1,.blk b2 26 B0] w_/\Sl U_ 1 cP dh dD.length (hH KL.encI dD)) ?_ ?_
 refine rR (wRL (.fx 9 (wQA (.nil)) .stop)) Z (oM Z Z (oR Z (ZA Z Z zB) (oM Z bW (oR Z (ZA Z Z zB) (oR Z (zh Z Z Z) (oM Z Z ?_))))))
 by_cases bp:(↑bT.length:Int) < (↑p3.length:Int)
 have fg:=fw;rw [if_pos bp] at fg;replace bp:=zO bp
 refine zV Z Z Z (wT Z bp) Z bX (zV Z Z Z (wT Z bp) Z b5 (zV Z Z Z (wT Z bp) Z Z ?_))
 have q:=eO.freezeR (k:=2) (n:=bT.length) rfl (wAG (f:=KL.encI) (sz:=1) (fun _=>rfl) bT) (by decide)
 obtain ⟨dM,cN,ft,jr⟩:=q
 have jt:sW w U dM [.blk ap 99 ([.slice aq x42.Bout.Shots.length au,.slice av x42.Bout.Down.length aV,.slice az x42.Bout.Across.length aW,.map (some ab)] ++ ((hH KL.encI x42.hits.l) ++ ((hH KL.encI x42.used.l) ++ (hH KL.encT x42.met.l)))),.obj ab (.map aY aX),.blk bo 44 B3,B2,.blk bh 99 ([.slice be aa.Bout.Shots.length bi,.slice bf aa.Bout.Down.length bj,.slice bg aa.Bout.Across.length bk,.map (some ai)] ++ ((hH KL.encI ae.1.l) ++ ((hH KL.encI ae.2.1.l) ++ (hH KL.encT ae.2.2.l)))),.obj ai (.map bm bl),.blk ak 44 B1,.blk b2 26 B0] cA:=jr
 have iA:=dt.le bO
 have iB:=iA.le cN
 have iC:=du.le bO
 have iD:=iC.le cN
 have iE:=dv.le bO
 have iF:=iE.le cN
 refine bnK fg fun mT iG lv=>zH 2 Z Z Z (wT Z bp) (zG Z Z Try.call75 (zA Z (zA Z (zA Z zQ))) Z) jt (fun hs=>wCd x42 ap aq au av aV az aW ab aY aX p1 bT ct cC cA dM hs iB iD iF b9 ft iG) (.inl Z) ?_
 rintro dN md mN fL fz ju ⟨rfl,rfl⟩
 have jv:sW w U dN [.blk ap 99 ([.slice aq x42.Bout.Shots.length au,.slice av x42.Bout.Down.length aV,.slice az x42.Bout.Across.length aW,.map (some ab)] ++ ((hH KL.encI x42.hits.l) ++ ((hH KL.encI x42.used.l) ++ (hH KL.encT x42.met.l)))),.obj ab (.map aY aX),.blk bo 44 B3,B2,.blk bh 99 ([.slice be aa.Bout.Shots.length bi,.slice bf aa.Bout.Down.length bj,.slice bg aa.Bout.Across.length bk,.map (some ai)] ++ ((hH KL.encI ae.1.l) ++ ((hH KL.encI ae.2.1.l) ++ (hH KL.encT ae.2.2.l)))),.obj ai (.map bm bl),.blk ak 44 B1,.blk b2 26 B0] fL:=ju
 refine rU Z (wT Z bp) (ZE Z Z) (oR Z (zS Z (ZX bp.out) Z) (oA Z Z (zr ?_)))
 cases lv
 have iH:=ft.le fz
 exact zL ⟨rfl,⟨dN,ct,cC,b5,bW,bz,bX,rfl,rfl,rfl,rfl,(cN.trans fz),(jv.pick [0,1,2,4,5,6,7] _ (by decide) rfl),iH⟩⟩
 have fh:=fw;rw [if_neg bp] at fh;replace bp:=zO bp
 refine oF Z bp (oF Z bp (oF Z bp (Za Z Z Z (zP Z Z (zf bp.out) Z) (oF Z bp (oR Z (zX Z (zf bp.out) Z) (oA Z Z (zr ?_)))))))
 have q:=eO.freezeR (k:=2) (n:=bT.length) rfl (wAG (f:=KL.encI) (sz:=1) (fun _=>rfl) bT) (by decide)
 obtain ⟨dO,lT,lQ,jw⟩:=q
 have jx:sW w U dO [.blk ap 99 ([.slice aq x42.Bout.Shots.length au,.slice av x42.Bout.Down.length aV,.slice az x42.Bout.Across.length aW,.map (some ab)] ++ ((hH KL.encI x42.hits.l) ++ ((hH KL.encI x42.used.l) ++ (hH KL.encT x42.met.l)))),.obj ab (.map aY aX),.blk bo 44 B3,B2,.blk bh 99 ([.slice be aa.Bout.Shots.length bi,.slice bf aa.Bout.Down.length bj,.slice bg aa.Bout.Across.length bk,.map (some ai)] ++ ((hH KL.encI ae.1.l) ++ ((hH KL.encI ae.2.1.l) ++ (hH KL.encT ae.2.2.l)))),.obj ai (.map bm bl),.blk ak 44 B1,.blk b2 26 B0] cA:=jw
 cases fh
 exact zL ⟨rfl,⟨dO,ct,cC,b5,bW,bz,bX,rfl,rfl,rfl,rfl,lT,(jx.pick [0,1,2,4,5,6,7] _ (by decide) rfl),lQ⟩⟩
 rintro mW fM ⟨bV,cP,dh,d8,d9,bE,eb,bL,gh,ec,ed,cO,cI,my⟩
 refine ifc ff ?_ ?_
 intro dk lw
 refine zt (ed.trans (congrArg nG dk.out)) (rR (wDo (.fx 3 .nil .stop)) Z (oM Z ec (oR Z (Runs.max Z Z Z) (oR Z (zJ Z bL zp Z zD) (ZB (j:=2) (vs:=[jV (max 0 bC)]) Z Z Z Z cI Z Z Z Z zD (zC Z) Z Z Z ?_)))))
 intro fN jy
 let B5:List Value:=[jV (max 0 bC),jV cr]
 have eP:sW w U bV [.blk ap 99 ([.slice aq x42.Bout.Shots.length au,.slice av x42.Bout.Down.length aV,.slice az x42.Bout.Across.length aW,.map (some ab)] ++ ((hH KL.encI x42.hits.l) ++ ((hH KL.encI x42.used.l) ++ (hH KL.encT x42.met.l)))),.obj ab (.map aY aX),.blk bo 44 B5,.blk bh 99 ([.slice be aa.Bout.Shots.length bi,.slice bf aa.Bout.Down.length bj,.slice bg aa.Bout.Across.length bk,.map (some ai)] ++ ((hH KL.encI ae.1.l) ++ ((hH KL.encI ae.2.1.l) ++ (hH KL.encT ae.2.2.l)))),.obj ai (.map bm bl),.blk ak 44 B1,.blk b2 26 B0] fN:=jy
 refine zr (zm (zL (sR gBi Z (oL Z (eP.ldBA (j:=2) Z Z bL ZF ze (vs:=B5) Z Z) (ZB (j:=5) (vs:=B5) Z Z Z Z eP Z bE Z Z ze (zC Z) Z Z Z ?_)))))
 intro fO jz
 have eQ:sW w U bV [.blk ap 99 ([.slice aq x42.Bout.Shots.length au,.slice av x42.Bout.Down.length aV,.slice az x42.Bout.Across.length aW,.map (some ab)] ++ ((hH KL.encI x42.hits.l) ++ ((hH KL.encI x42.used.l) ++ (hH KL.encT x42.met.l)))),.obj ab (.map aY aX),.blk bo 44 B5,.blk bh 99 ([.slice be aa.Bout.Shots.length bi,.slice bf aa.Bout.Down.length bj,.slice bg aa.Bout.Across.length bk,.map (some ai)] ++ ((hH KL.encI ae.1.l) ++ ((hH KL.encI ae.2.1.l) ++ (hH KL.encT ae.2.2.l)))),.obj ai (.map bm bl),.blk ak 44 B5,.blk b2 26 B0] fO:=jz
 refine oA Z Z (eN (zR ?_))
 cases lw
 exact ⟨rfl,_,(wEg (rs:=[.cell 8 44,.tmp 9]) (vs:=[.agg B5.toArray,jV 0]) ⟨⟨_,bE,(wCy ZF ze (eQ.blkAt (k:=5) rfl) (vs:=B5) rfl rfl)⟩,⟨rfl,trivial⟩⟩ rfl),bV,_,(eQ.pick [] _ (by decide) rfl),rfl,rfl⟩
 intro dk lx
 refine zg (ed.trans (congrArg nG (nI.2 dk.out))) (sR (wRL (.fx 9 (.fl 10 (.fl 11 .nil)) .stop)) Z (oM Z gh (oR Z (ZA Z Z zB) (oM Z d9 (oR Z (ZA Z Z zB) (oR Z (ZP Z Z Z) (oM Z Z (ifc lx ?_ ?_))))))))
 intro bv ly
 refine zV Z Z Z (wT Z bv) Z eb (zV Z Z Z (wT Z bv) Z d8 (zV Z Z Z (wT Z bv) Z d9 ?_))
 have iI:=dt.le bO
 have eH:=iI.le cO
 have iJ:=du.le bO
 have iK:=iJ.le cO
 have iL:=dv.le bO
 have iM:=iL.le cO
 have iN:=eG.le bO
 have iO:=iN.le cO
 refine bnK ly fun mU iP lz=>zH 2 Z Z Z (wT Z bv) (zG Z Z Try.call75 (zA Z (zA Z (zA Z zQ))) Z) cI (fun hs=>wCd x42 ap aq au av aV az aW ab aY aX p1 p3 bA bB fM bV hs eH iK iM b9 iO iP) (.inl Z) ?_
 rintro cw mf mO da lU jA ⟨rfl,rfl⟩
 have dB:sW w U cw [.blk ap 99 ([.slice aq x42.Bout.Shots.length au,.slice av x42.Bout.Down.length aV,.slice az x42.Bout.Across.length aW,.map (some ab)] ++ ((hH KL.encI x42.hits.l) ++ ((hH KL.encI x42.used.l) ++ (hH KL.encT x42.met.l)))),.obj ab (.map aY aX),.blk bo 44 B3,.blk bh 99 ([.slice be aa.Bout.Shots.length bi,.slice bf aa.Bout.Down.length bj,.slice bg aa.Bout.Across.length bk,.map (some ai)] ++ ((hH KL.encI ae.1.l) ++ ((hH KL.encI ae.2.1.l) ++ (hH KL.encT ae.2.2.l)))),.obj ai (.map bm bl),.blk ak 44 B1,.blk b2 26 B0] da:=jA
 refine oR Z (zS Z (ZX bv.out) Z) (oA Z Z (eN (ifc lz ?_ ?_)))
 intro dm lA
 refine zt (congrArg nG dm.out) (ZK ZL [3,1,3,3,3,3,1,3,3,1,3,3,2,2,3,0] (wRM (.fx 12 (.fx 13 (.fl 14 (.fx 15 .nil .stop)) .stop) .stop)) (by kernel_rfl) ?_)
 have cb:=dB.drew
 generalize hw_W421:({ da with drawn:=da.drawn + 1 }:World)=mp at cb ⊢
 refine oR Z (zJ Z bL zp Z zD) (oL Z (cb.ldB (j:=2) Z Z Z zM (v:=jV cr) Z) (oM Z eb (oR Z (zl Z Z) (oR Z (zJ Z Z zU Z zZ) (oR Z (zJ Z Z zE Z zY) (oL Z (cb.ldB (j:=0) Z Z Z zi (v:=.slice aq x42.Bout.Shots.length au) Z) (oM Z d8 (bnK lA fun bU dw lB=>?_))))))))
 have iQ:=eH.le lU
 have q:=iQ.el (fun _=>rfl) (wBo dw)
 obtain ⟨mr,mC,iX,iY⟩:=q
 refine oR Z (ZQ Z Z iX Z zB zD (wEY dw) (wEz dw)) (oL Z (cb.ldC (f:=0) iY (v:=jV bU) Z Z zM Z) (oM Z ec (oR Z (ZY Z Z Z) (Zh (pv:=[(0,jV (w64 (bU - bC)))]) (zs:=[jV 0]) (cs:=[jV (w64 (bU - bC))]) Z Z Z Z Z (wAb Z wAz) zB zD Zi Z Z Z Z Z cb ?_))))
 intro db dX jB
 have jC:sW w U cw [.row (some ⟨dX,0,none⟩) 1 3 1 (hH KL.encI [w64 (bU - bC)]),.blk ap 99 ([.slice aq x42.Bout.Shots.length au,.slice av x42.Bout.Down.length aV,.slice az x42.Bout.Across.length aW,.map (some ab)] ++ ((hH KL.encI x42.hits.l) ++ ((hH KL.encI x42.used.l) ++ (hH KL.encT x42.met.l)))),.obj ab (.map aY aX),.blk bo 44 B3,.blk bh 99 ([.slice be aa.Bout.Shots.length bi,.slice bf aa.Bout.Down.length bj,.slice bg aa.Bout.Across.length bk,.map (some ai)] ++ ((hH KL.encI ae.1.l) ++ ((hH KL.encI ae.2.1.l) ++ (hH KL.encT ae.2.2.l)))),.obj ai (.map bm bl),.blk ak 44 B1,.blk b2 26 B0] db:=jB
 have q:=jC.freezeR (k:=0) (n:=[w64 (bU - bC)].length) rfl (wAG (f:=KL.encI) (sz:=1) (fun _=>rfl) [w64 (bU - bC)]) (by decide)
 obtain ⟨dP,mz,lR,jD⟩:=q
 have jE:sW w U dP [.blk ap 99 ([.slice aq x42.Bout.Shots.length au,.slice av x42.Bout.Down.length aV,.slice az x42.Bout.Across.length aW,.map (some ab)] ++ ((hH KL.encI x42.hits.l) ++ ((hH KL.encI x42.used.l) ++ (hH KL.encT x42.met.l)))),.obj ab (.map aY aX),.blk bo 44 B3,.blk bh 99 ([.slice be aa.Bout.Shots.length bi,.slice bf aa.Bout.Down.length bj,.slice bg aa.Bout.Across.length bk,.map (some ai)] ++ ((hH KL.encI ae.1.l) ++ ((hH KL.encI ae.2.1.l) ++ (hH KL.encT ae.2.2.l)))),.obj ai (.map bm bl),.blk ak 44 B1,.blk b2 26 B0] db:=jD
 refine bnK lB fun fB iR lC=>zH 0 Z Z Z Z (zG Z Z Try.call47 (zA Z (zA Z zQ)) Z) jE (fun hs=>wEb cr [w64 (bU - bC)] (some ⟨dX,0,none⟩) 1 db dP hs lR iR) (.inr Z) ?_
 rintro cx mg mP fP mA jG ⟨rfl,rfl⟩
 have jH:sW w U cx [.blk ap 99 ([.slice aq x42.Bout.Shots.length au,.slice av x42.Bout.Down.length aV,.slice az x42.Bout.Across.length aW,.map (some ab)] ++ ((hH KL.encI x42.hits.l) ++ ((hH KL.encI x42.used.l) ++ (hH KL.encT x42.met.l)))),.obj ab (.map aY aX),.blk bo 44 B3,.blk bh 99 ([.slice be aa.Bout.Shots.length bi,.slice bf aa.Bout.Down.length bj,.slice bg aa.Bout.Across.length bk,.map (some ai)] ++ ((hH KL.encI ae.1.l) ++ ((hH KL.encI ae.2.1.l) ++ (hH KL.encT ae.2.2.l)))),.obj ai (.map bm bl),.blk ak 44 B1,.blk b2 26 B0] fP:=jG
 refine oR Z (zJ Z bL zp Z zD) (ZB (j:=2) (vs:=[jV fB]) Z Z Z Z jH Z Z Z Z zD (zC Z) Z Z Z ?_)
 intro fQ jJ
 let B6:List Value:=[jV 0,jV fB]
 have eR:sW w U cx [.blk ap 99 ([.slice aq x42.Bout.Shots.length au,.slice av x42.Bout.Down.length aV,.slice az x42.Bout.Across.length aW,.map (some ab)] ++ ((hH KL.encI x42.hits.l) ++ ((hH KL.encI x42.used.l) ++ (hH KL.encT x42.met.l)))),.obj ab (.map aY aX),.blk bo 44 B6,.blk bh 99 ([.slice be aa.Bout.Shots.length bi,.slice bf aa.Bout.Down.length bj,.slice bg aa.Bout.Across.length bk,.map (some ai)] ++ ((hH KL.encI ae.1.l) ++ ((hH KL.encI ae.2.1.l) ++ (hH KL.encT ae.2.2.l)))),.obj ai (.map bm bl),.blk ak 44 B1,.blk b2 26 B0] fQ:=jJ
 refine zr (zm (zL (sR gBi Z (oL Z (eR.ldBA (j:=2) Z Z bL ZF ze (vs:=B6) Z Z) (ZB (j:=5) (vs:=B6) Z Z Z Z eR Z bE Z Z ze (zC Z) Z Z Z ?_)))))
 intro fR jK
 have eS:sW w U cx [.blk ap 99 ([.slice aq x42.Bout.Shots.length au,.slice av x42.Bout.Down.length aV,.slice az x42.Bout.Across.length aW,.map (some ab)] ++ ((hH KL.encI x42.hits.l) ++ ((hH KL.encI x42.used.l) ++ (hH KL.encT x42.met.l)))),.obj ab (.map aY aX),.blk bo 44 B6,.blk bh 99 ([.slice be aa.Bout.Shots.length bi,.slice bf aa.Bout.Down.length bj,.slice bg aa.Bout.Across.length bk,.map (some ai)] ++ ((hH KL.encI ae.1.l) ++ ((hH KL.encI ae.2.1.l) ++ (hH KL.encT ae.2.2.l)))),.obj ai (.map bm bl),.blk ak 44 B6,.blk b2 26 B0] fR:=jK
 refine oA Z Z (eN (zR ?_))
 cases lC
 exact ⟨rfl,_,(wEg (rs:=[.cell 8 44,.tmp 9]) (vs:=[.agg B6.toArray,jV 0]) ⟨⟨_,bE,(wCy ZF ze (eS.blkAt (k:=5) rfl) (vs:=B6) rfl rfl)⟩,⟨rfl,trivial⟩⟩ rfl),cx,_,(eS.pick [] _ (by decide) rfl),rfl,rfl⟩
 intro dm lD
 refine zg (congrArg nG (nI.2 dm.out)) (ZJ (zm (zL (sR gBi Z (oL Z (dB.ldBA (j:=2) Z Z bL ZF ze (vs:=B3) Z Z) (ZB (j:=5) (vs:=B3) Z Z Z Z dB Z bE Z Z ze (zC Z) Z Z Z ?_))))))
 intro fS jL
 have eT:sW w U cw [.blk ap 99 ([.slice aq x42.Bout.Shots.length au,.slice av x42.Bout.Down.length aV,.slice az x42.Bout.Across.length aW,.map (some ab)] ++ ((hH KL.encI x42.hits.l) ++ ((hH KL.encI x42.used.l) ++ (hH KL.encT x42.met.l)))),.obj ab (.map aY aX),.blk bo 44 B3,.blk bh 99 ([.slice be aa.Bout.Shots.length bi,.slice bf aa.Bout.Down.length bj,.slice bg aa.Bout.Across.length bk,.map (some ai)] ++ ((hH KL.encI ae.1.l) ++ ((hH KL.encI ae.2.1.l) ++ (hH KL.encT ae.2.2.l)))),.obj ai (.map bm bl),.blk ak 44 B3,.blk b2 26 B0] fS:=jL
 refine oA Z Z (eN (zR ?_))
 cases lD
 exact ⟨rfl,_,(wEg (rs:=[.cell 8 44,.tmp 9]) (vs:=[.agg B3.toArray,jV 0]) ⟨⟨_,bE,(wCy ZF ze (eT.blkAt (k:=5) rfl) (vs:=B3) rfl rfl)⟩,⟨rfl,trivial⟩⟩ rfl),cw,_,(eT.pick [] _ (by decide) rfl),rfl,rfl⟩
 intro bv lE
 refine oF Z bv (oF Z bv (oF Z bv (Za Z Z Z (zP Z Z (zf bv.out) Z) (oR Z (zX Z (zf bv.out) Z) (oA Z Z (eN (zg Z (ZJ (zm (zL (sR gBi Z (oL Z (cI.ldBA (j:=2) Z Z bL ZF ze (vs:=B3) Z Z) (ZB (j:=5) (vs:=B3) Z Z Z Z cI Z bE Z Z ze (zC Z) Z Z Z ?_)))))))))))))
 intro fT jM
 have eU:sW w U bV [.blk ap 99 ([.slice aq x42.Bout.Shots.length au,.slice av x42.Bout.Down.length aV,.slice az x42.Bout.Across.length aW,.map (some ab)] ++ ((hH KL.encI x42.hits.l) ++ ((hH KL.encI x42.used.l) ++ (hH KL.encT x42.met.l)))),.obj ab (.map aY aX),.blk bo 44 B3,.blk bh 99 ([.slice be aa.Bout.Shots.length bi,.slice bf aa.Bout.Down.length bj,.slice bg aa.Bout.Across.length bk,.map (some ai)] ++ ((hH KL.encI ae.1.l) ++ ((hH KL.encI ae.2.1.l) ++ (hH KL.encT ae.2.2.l)))),.obj ai (.map bm bl),.blk ak 44 B3,.blk b2 26 B0] fT:=jM
 refine oA Z Z (eN (zR ?_))
 cases lE
 exact ⟨rfl,_,(wEg (rs:=[.cell 8 44,.tmp 9]) (vs:=[.agg B3.toArray,jV 0]) ⟨⟨_,bE,(wCy ZF ze (eU.blkAt (k:=5) rfl) (vs:=B3) rfl rfl)⟩,⟨rfl,trivial⟩⟩ rfl),bV,_,(eU.pick [] _ (by decide) rfl),rfl,rfl⟩
 intro dg lF
 refine cT Z dg (sR gBi Z (oR Z (ZN (pv:=[]) (z:=B1) (cs:=B1) Z wAz zz wCo Z Z) (ZB (j:=5) (vs:=B1) Z Z Z Z cH Z bz Z Z ze (zC Z) Z Z Z ?_)))
 intro fU jN
 have eV:sW w U bZ [B2,.blk bh 99 ([.slice be aa.Bout.Shots.length bi,.slice bf aa.Bout.Down.length bj,.slice bg aa.Bout.Across.length bk,.map (some ai)] ++ ((hH KL.encI ae.1.l) ++ ((hH KL.encI ae.2.1.l) ++ (hH KL.encT ae.2.2.l)))),.obj ai (.map bm bl),.blk ap 99 ([.slice aq x42.Bout.Shots.length au,.slice av x42.Bout.Down.length aV,.slice az x42.Bout.Across.length aW,.map (some ab)] ++ ((hH KL.encI x42.hits.l) ++ ((hH KL.encI x42.used.l) ++ (hH KL.encT x42.met.l)))),.obj ab (.map aY aX),.blk ak 44 B1,.blk b2 26 B0] fU:=jN
 refine oA Z Z (eN (zR (zW ?_)))
 cases lF
 exact ⟨rfl,_,(wEg (rs:=[.cell 8 44,.tmp 9]) (vs:=[.agg B1.toArray,jV 7]) ⟨⟨_,bz,(wCy ZF ze (eV.blkAt (k:=5) rfl) (vs:=B1) rfl rfl)⟩,⟨rfl,trivial⟩⟩ rfl),bZ,_,(eV.pick [] _ (by decide) rfl),rfl,rfl⟩
 intro df lG
 refine cT Z df (sR gBm Z (oR Z (ZN (pv:=[]) (z:=B1) (cs:=B1) Z wAz zz wCo Z Z) (oM Z Z (ZB (j:=2) (vs:=B1) Z Z Z Z dA Z bz Z Z ze (zC Z) Z Z Z ?_))))
 intro fV jO
 have eW:sW w U cu [.blk ap 99 ([.slice aq x42.Bout.Shots.length au,.slice av x42.Bout.Down.length aV,.slice az x42.Bout.Across.length aW,.map (some ab)] ++ ((hH KL.encI x42.hits.l) ++ ((hH KL.encI x42.used.l) ++ (hH KL.encT x42.met.l)))),.obj ab (.map aY aX),.blk ak 44 B1,.blk b2 26 B0] fV:=jO
 refine oA Z Z (eN (zR (zW ?_)))
 cases lG
 exact ⟨rfl,_,(wEg (rs:=[.cell 8 44,.tmp 9]) (vs:=[.agg B1.toArray,jV lX]) ⟨⟨_,bz,(wCy ZF ze (eW.blkAt (k:=2) rfl) (vs:=B1) rfl rfl)⟩,⟨rfl,trivial⟩⟩ rfl),cu,_,(eW.pick [] _ (by decide) rfl),rfl,rfl⟩
 intro cB lI
 refine cF Z cB (kN (zF (sR fL2 Z (oM Z dq (oR Z (zy Z Z Z) (eN (cT Z cB (sR gBm Z (oR Z (ZN (pv:=[]) (z:=B1) (cs:=B1) Z wAz zz wCo Z Z) (oM Z dq (ZB (j:=2) (vs:=B1) Z Z Z Z dy Z bz Z Z ze (zC Z) Z Z Z ?_)))))))))))
 intro fW jP
 have eX:sW w U bY [.blk ap 99 ([.slice aq x42.Bout.Shots.length au,.slice av x42.Bout.Down.length aV,.slice az x42.Bout.Across.length aW,.map (some ab)] ++ ((hH KL.encI x42.hits.l) ++ ((hH KL.encI x42.used.l) ++ (hH KL.encT x42.met.l)))),.obj ab (.map aY aX),.blk ak 44 B1,.blk b2 26 B0] fW:=jP
 refine oA Z Z (eN (zR (zW ?_)))
 cases lI
 exact ⟨rfl,_,(wEg (rs:=[.cell 8 44,.tmp 9]) (vs:=[.agg B1.toArray,jV bH]) ⟨⟨_,bz,(wCy ZF ze (eX.blkAt (k:=2) rfl) (vs:=B1) rfl rfl)⟩,⟨rfl,trivial⟩⟩ rfl),bY,_,(eX.pick [] _ (by decide) rfl),rfl,rfl⟩
end Go.Proofs.Ytfcmijinklojbaa
namespace Go.Proofs.Ytfcmijinklojbaa
open Go.KL
set_option maxHeartbeats 4000000
theorem wCf (p0:List Int) (ak:Option Addr) (am:Nat) (w:World) (U:PHeap) (hS:St0 w U []) (aW:Sl U 1 ak am p0.length (hH KL.encI p0)) {r:(List Int)} (hm:wAu p0=some r):Gv Try.prog 18 [.slice ak p0.length am] w (wCY w [] U (fun U_ L_ v=>∃ (A0:Option Addr) (c0:Nat),v=.slice A0 r.length c0/\L_=[.row A0 c0 3 1 (hH KL.encI r)])):=by
 unfold wAu at hm
 refine Gv.of Try.func18 Z Try.ntmps18 Try.results18 Z (sR fL1 Z (oA Z Z (eN (sR gBi Z (oM Z Z ?_)))))
 have av:=hS.nilrow 3 1
 have aj:sW w U U [.row none 0 3 1 (hH KL.encI ([]:List Int))] w:=av
 refine bnK hm fun x4 h5 aX=>OKS.append (j:=0) (enc:=KL.encI) (xs:=([]:List Int)) (ys:=p0) (zs:=x4) Z Z Z Z Z Try.underlying23 wJT Z Z Z Z Z Z aj Z Z Z (aj.srcS aW) (fun _=>Z) (fun _=>Z) h5 Z ?_
 intro A7 c8 W9 az
 have aV:sW w U U [.row A7 c8 3 1 (hH KL.encI x4)] W9:=az
 refine oA Z Z (eN (zR ?_))
 have hE:=nA aX;first | subst r | cases hE
 exact ⟨Z,_,(zx Z),U,_,aV,A7,c8,Z,Z⟩
theorem wCs (p0:List wAA) (ak:Option Addr) (am:Nat) (w:World) (U:PHeap) (hS:St0 w U []) (aW:Sl U 2 ak am p0.length (hH wAB p0)) {r:(List wAA)} (hm:wAe p0=some r):Gv Try.prog 58 [.slice ak p0.length am] w (wCY w [] U (fun U_ L_ v=>∃ (A0:Option Addr) (c0:Nat),v=.slice A0 r.length c0/\L_=[.row A0 c0 35 2 (hH wAB r)])):=by
 unfold wAe at hm
 refine Gv.of Try.func58 Z Try.ntmps58 Try.results58 Z (sR fL1 Z (oA Z Z (eN (sR gBi Z (oM Z Z ?_)))))
 have av:=hS.nilrow 35 2
 have aj:sW w U U [.row none 0 35 2 (hH wAB ([]:List wAA))] w:=av
 refine bnK hm fun x4 h5 aX=>OKS.append (j:=0) (enc:=wAB) (xs:=([]:List wAA)) (ys:=p0) (zs:=x4) Z Z Z Z Z Try.underlying24 wOX Z Z Z Z Z Z aj Z Z Z (aj.srcS aW) (fun _=>Z) (fun _=>Z) h5 Z ?_
 intro A7 c8 W9 az
 have aV:sW w U U [.row A7 c8 35 2 (hH wAB x4)] W9:=az
 refine oA Z Z (eN (zR ?_))
 have hE:=nA aX;first | subst r | cases hE
 exact ⟨Z,_,(zx Z),U,_,aV,A7,c8,Z,Z⟩
theorem wEW (p0:wAC) (aj:Option Addr) (ap:Nat) (ak:Option Addr) (aq:Nat) (am:Option Addr) (au:Nat) (w:World) (U:PHeap) (hS:St0 w U []) (bR:Sl U 1 aj ap p0.Shots.length (hH KL.encI p0.Shots)) (bS:Sl U 1 ak aq p0.Down.length (hH KL.encI p0.Down)) (bT:Sl U 2 am au p0.Across.length (hH wAB p0.Across)) {r:wAC} (hm:wBT p0=some r):Gv Try.prog 17 [.agg #[.slice aj p0.Shots.length ap,.slice ak p0.Down.length aq,.slice am p0.Across.length au]] w (wCY w [] U (fun U_ L_ v=>∃ (bj:Option Addr) (bs:Nat) (bk:Option Addr) (bt:Nat) (bl:Option Addr) (bu:Nat),v=.agg #[.slice bj r.Shots.length bs,.slice bk r.Down.length bt,.slice bl r.Across.length bu]/\L_=[.row bj bs 3 1 (hH KL.encI r.Shots),.row bk bt 3 1 (hH KL.encI r.Down),.row bl bu 35 2 (hH wAB r.Across)])):=by
 unfold wBT at hm
 refine Gv.of Try.func17 Z Try.ntmps17 Try.results17 Z (sR (.fx 0 (.fx 1 .nil .stop) .stop) Z ?_)
 let B0:List Value:=[.slice aj p0.Shots.length ap,.slice ak p0.Down.length aq,.slice am p0.Across.length au]
 refine ZH (cs:=B0) rfl rfl rfl rfl rfl rfl (by rfl) hS ?_
 intro W1 b2 bK
 let B1:List Value:=[.slice none 0 0,.slice none 0 0,.slice none 0 0]
 refine ZW (cs:=B1) Z Z Z Z Z Zl Z bK ?_
 intro W5 b6 bQ
 refine eN (zF (ZK ZL [3,1,2,3,1,2,3,1,2,3,0] (.fl 0 (.fl 1 (.fl 3 (.fl 4 (.fl 6 (.fl 7 (.fx 2 (.fx 5 (.fx 8 (.fl 9 (.fx 10 .nil .stop)) .stop) .stop) .stop))))))) (by kernel_rfl) ?_))
 have ai:=bQ.drew
 generalize hw_W10:({ W5 with drawn:=W5.drawn + 1 }:World)=bz at ai ⊢
 refine oR Z (zJ Z Z zE Z zY) (oL Z (ai.ldB (j:=1) Z Z Z zi (v:=.slice aj p0.Shots.length ap) Z) (oR Z (zJ Z Z zE Z zY) (oL Z (ai.ldB (j:=1) Z Z Z zi (v:=.slice ak p0.Down.length aq) Z) (oR Z (zJ Z Z zE Z Zd) (oL Z (ai.ldB (j:=1) Z Z Z Zj (v:=.slice am p0.Across.length au) Z) (bnK hm fun bg bC bU=>zH 0 Z Z Z Z (zG Z Z Try.call18 (zA Z zQ) Z) ai (fun hs=>wCf p0.Shots aj ap bz U hs bR bC) (.inr Z) ?_))))))
 rintro bn bY cf bp bw bI ⟨av,aZ,rfl,rfl⟩
 let B2:Res:=.row av aZ 3 1 (hH KL.encI bg)
 have bJ:sW w U bn [B2,.blk b6 26 B1,.blk b2 26 B0] bp:=bI
 have bD:=bS.le bw
 refine bnK bU fun bh bE bV=>zH 0 Z Z Z Z (zG Z Z Try.call18 (zA Z zQ) Z) bJ (fun hs=>wCf p0.Down ak aq bp bn hs bD bE) (.inr Z) ?_
 rintro bo bZ cg bq bX bL ⟨az,ba,rfl,rfl⟩
 let B3:Res:=.row az ba 3 1 (hH KL.encI bh)
 have bM:sW w U bo [B3,B2,.blk b6 26 B1,.blk b2 26 B0] bq:=bL
 have bF:=bT.le bw
 have bG:=bF.le bX
 refine bnK bV fun bi bH bW=>zH 0 Z Z Z Z (zG Z Z Try.call58 (zA Z zQ) Z) bM (fun hs=>wCs p0.Across am au bq bo hs bG bH) (.inr Z) ?_
 rintro bf b5 ci bA cb bN ⟨aV,bb,rfl,rfl⟩
 let B4:Res:=.row aV bb 35 2 (hH wAB bi)
 have bO:sW w U bf [B4,B3,B2,.blk b6 26 B1,.blk b2 26 B0] bA:=bN
 let B5:List Value:=[.slice av bg.length aZ,.slice az bh.length ba,.slice aV bi.length bb]
 refine oR Z (ZN (pv:=[(0,.slice av bg.length aZ),(1,.slice az bh.length ba),(2,.slice aV bi.length bb)]) (z:=B1) (cs:=B5) Z (wAb Z (wAb Z (wAb Z wAz))) Zl wJy Z Z) (ZB (j:=3) (vs:=B5) Z Z Z Z bO Z Z Z Z zZ (zC Z) Z Z Z ?_)
 intro bB bP
 have bv:sW w U bf [B4,B3,B2,.blk b6 26 B5,.blk b2 26 B0] bB:=bP
 refine eN (zR ?_)
 cases bW
 exact ⟨rfl,_,(wKL (v:=.agg B5.toArray) ⟨⟨_,rfl,(wCy ZD zZ (bv.blkAt (k:=3) rfl) (vs:=B5) rfl rfl)⟩,trivial⟩),bf,_,(bv.pick [2,1,0] _ (by decide) rfl),av,aZ,az,ba,aV,bb,rfl,rfl⟩
theorem wGm (p0:wAC) (bf:Option Addr) (bi:Nat) (bg:Option Addr) (bj:Nat) (bh:Option Addr) (bk:Nat) (w:World) (U:PHeap) (hS:St0 w U []) (bR:Sl U 1 bf bi p0.Shots.length (hH KL.encI p0.Shots)) (bS:Sl U 1 bg bj p0.Down.length (hH KL.encI p0.Down)) (bT:Sl U 2 bh bk p0.Across.length (hH wAB p0.Across)) {r:(Option wAD) × Int} (hm:wCc p0=some r):Gv Try.prog 42 [.agg #[.slice bf p0.Shots.length bi,.slice bg p0.Down.length bj,.slice bh p0.Across.length bk]] w (wCY w [] U (fun U_ L_ v=>match r.1 with | none=>v=.tuple #[.pointer none,jV r.2]/\L_=[] | some d=>∃ (b0:Nat) (A0p00:Option Addr) (c0p00:Nat) (A0p01:Option Addr) (c0p01:Nat) (A0p02:Option Addr) (c0p02:Nat) (m0p1:Nat) (es0p1:Array MapEntry) (ck0p1:Nat),v=.tuple #[.pointer (some ⟨b0,0,none⟩),jV r.2]/\L_=[.blk b0 99 ([.slice A0p00 d.Bout.Shots.length c0p00,.slice A0p01 d.Bout.Down.length c0p01,.slice A0p02 d.Bout.Across.length c0p02,.map (some m0p1)] ++ ((hH KL.encI d.hits.l) ++ ((hH KL.encI d.used.l) ++ (hH KL.encT d.met.l)))),.obj m0p1 (.map es0p1 ck0p1)]/\Sl U_ 1 A0p00 c0p00 d.Bout.Shots.length (hH KL.encI d.Bout.Shots)/\Sl U_ 1 A0p01 c0p01 d.Bout.Down.length (hH KL.encI d.Bout.Down)/\Sl U_ 2 A0p02 c0p02 d.Bout.Across.length (hH wAB d.Bout.Across)/\MpR es0p1 wFL wFc d.may)):=by
 unfold wCc at hm
 refine Gv.of Try.func42 Z Try.ntmps42 Try.results42 Z (sR gBj Z ?_)
 let B0:List Value:=[.slice bf p0.Shots.length bi,.slice bg p0.Down.length bj,.slice bh p0.Across.length bk]
 refine ZH (cs:=B0) rfl rfl rfl rfl rfl rfl (by rfl) hS ?_
 intro W1 b2 bw
 refine oA Z Z (oA Z Z (eN (sR (.fl 0 (.fx 1 (wJa (.nil)) .stop)) Z (oL Z (bw.ldBA (j:=0) Z Z Z ZD zZ (vs:=B0) Z Z) ?_))))
 have q:=bnd hm
 obtain ⟨⟨x5,x6⟩,h7,aY⟩:=q
 try dsimp only at aY
 refine zH 0 Z Z Z Z (zG Z Z Try.call69 (zA Z zQ) Z) bw (fun hs=>wCQ p0 bf bi bg bj bh bk W1 U hs bR bS bT h7) (.inr Z) ?_
 rintro U9 b9 cg bm cf bv bu
 rcases x5 with _ | x26
 try dsimp only at aY
 obtain ⟨rfl,rfl⟩:=bu
 have bP:sW w U U9 [.blk b2 26 B0] bm:=bv
 refine oM Z Z (oR Z (zo Z Z (v:=.pointer none) Z) (oR Z (zo Z Z (v:=jV x6) Z) (oA Z Z (oA Z Z (eN (zF (sR (wIA gBk) Z (oM Z Z (oR Z (ZP Z Z Z) (oM Z Z (ifc aY ?_ ?_)))))))))))
 intro av bU
 refine zV Z Z Z (wT Z av) Z Z ?_
 cases bU
 intro av bV
 refine oF Z av (Za Z Z Z (zP Z Z (zf av.out) Z) (oF Z av (oR Z (zX Z (zf av.out) Z) (eN (zg Z (kN (sR fL4 Z (oM Z Z (oM Z Z (oA Z Z (oA Z Z (eN (zR ?_)))))))))))))
 cases bV
 exact ⟨rfl,_,(wFh rfl rfl),U9,_,(bP.pick [] _ (by decide) rfl),rfl,rfl⟩
 try dsimp only at aY
 obtain ⟨ah,ai,am,aj,ap,ak,aq,ae,az,au,rfl,rfl,aZ,ba,bb,be⟩:=bu
 have bz:sW w U U9 [.blk ah 99 ([.slice ai x26.Bout.Shots.length am,.slice aj x26.Bout.Down.length ap,.slice ak x26.Bout.Across.length aq,.map (some ae)] ++ ((hH KL.encI x26.hits.l) ++ ((hH KL.encI x26.used.l) ++ (hH KL.encT x26.met.l)))),.obj ae (.map az au),.blk b2 26 B0] bm:=bv
 refine oM Z Z (oR Z (zo Z Z (v:=.pointer (some ⟨ah,0,none⟩)) Z) (oR Z (zo Z Z (v:=jV x6) Z) (oA Z Z (oA Z Z (eN (zF (sR (wIA gBk) Z (oM Z Z (oR Z (ZP Z Z Z) (oM Z Z (ifc aY ?_ ?_)))))))))))
 intro ab bW
 refine zV Z Z Z (wT Z ab) Z Z ?_
 have q:=bnd bW
 obtain ⟨⟨bq,br⟩,bF,bA⟩:=q
 try dsimp only at bA
 refine zH 2 Z Z Z (wT Z ab) (zG Z Z Try.call46 (zA Z zQ) Z) bz (fun hs=>wAm x26 ah ai am aj ap ak aq ae az au bm U9 hs aZ ba bb be bF) (.inl Z) ?_
 rintro bl cb ci bD aV bQ ⟨bs,bE,rfl,rfl,bG⟩
 have bp:sW w U bl [.row bs bE 3 1 (hH KL.encI bq),.blk ah 99 ([.slice ai x26.Bout.Shots.length am,.slice aj x26.Bout.Down.length ap,.slice ak x26.Bout.Across.length aq,.map (some ae)] ++ ((hH KL.encI br.1.l) ++ ((hH KL.encI br.2.1.l) ++ (hH KL.encT br.2.2.l)))),.obj ae (.map az au),.blk b2 26 B0] bD:=bQ
 have bH:bs.isNone=decide (bq=[]):=wGU (j:=0) bp rfl (fun _=>rfl) (by decide) bG
 refine zN rfl rfl rfl (zK rfl rfl (ZX ab.out)) (fun _=>Runs.neNilR (b:=decide (¬ (bq=[]))) rfl rfl rfl zB (by simp [bH])) (zN rfl rfl rfl rfl (fun _=>zS rfl (ZX ab.out) rfl) (eN (ifc bA ?_ ?_)))
 intro bo bX
 refine zg (zf (fun h=>h bo.out)) (kN (sR fL4 Z (oM Z Z (oM Z Z (oA Z Z (oA Z Z (eN (zR ?_))))))))
 have bI:=aZ.le aV
 have bJ:=ba.le aV
 have bK:=bb.le aV
 cases bX
 exact ⟨rfl,_,(wFh rfl rfl),bl,_,(bp.pick [1,2] _ (by decide) rfl),ah,ai,am,aj,ap,ak,aq,ae,az,au,rfl,rfl,bI,bJ,bK,be⟩
 intro bo bY
 refine cT Z bo (rR fL1 Z (oA Z Z (eN (sR fL4 Z (oM Z Z (oM Z Z (oA Z Z (oA Z Z (eN (zR ?_))))))))))
 have bL:=aZ.le aV
 have bM:=ba.le aV
 have bN:=bb.le aV
 cases bY
 exact ⟨rfl,_,(wFh rfl rfl),bl,_,(bp.pick [1,2] _ (by decide) rfl),ah,ai,am,aj,ap,ak,aq,ae,az,au,rfl,rfl,bL,bM,bN,be⟩
 intro ab bZ
 refine oF Z ab (Za Z Z Z (zP Z Z (zf ab.out) Z) (oF Z ab (oR Z (zX Z (zf ab.out) Z) (eN (zg Z (kN (sR fL4 Z (oM Z Z (oM Z Z (oA Z Z (oA Z Z (eN (zR ?_)))))))))))))
 cases bZ
 exact ⟨rfl,_,(wFh rfl rfl),U9,_,(bz.pick [0,1] _ (by decide) rfl),ah,ai,am,aj,ap,ak,aq,ae,az,au,rfl,rfl,aZ,ba,bb,be⟩
theorem wGn (p0:wAC) (bk:Option Addr) (bn:Nat) (bl:Option Addr) (bo:Nat) (bm:Option Addr) (bp:Nat) (w:World) (U:PHeap) (hS:St0 w U []) (cZ:Sl U 1 bk bn p0.Shots.length (hH KL.encI p0.Shots)) (da:Sl U 1 bl bo p0.Down.length (hH KL.encI p0.Down)) (db:Sl U 2 bm bp p0.Across.length (hH wAB p0.Across)) {r:(List (List Int)) × Int} (hm:wCF p0=some r):Gv Try.prog 30 [.agg #[.slice bk p0.Shots.length bn,.slice bl p0.Down.length bo,.slice bm p0.Across.length bp]] w (wCY w [] U (fun U_ L_ v=>∃ (A0:Option Addr) (c0:Nat) (bN:List Value),v=.tuple #[.slice A0 r.1.length c0,jV r.2]/\L_=[.row A0 c0 23 1 bN]/\RlL U_ wNP r.1 bN)):=by
 unfold wCF at hm
 refine Gv.of Try.func30 Z Try.ntmps30 Try.results30 Z (sR gBj Z ?_)
 let B0:List Value:=[.slice bk p0.Shots.length bn,.slice bl p0.Down.length bo,.slice bm p0.Across.length bp]
 refine ZH (cs:=B0) rfl rfl rfl rfl rfl rfl (by rfl) hS ?_
 intro W1 b2 bU
 refine oA Z Z (oA Z Z (eN (sR (.fl 0 (.fx 1 (wJa (.nil)) .stop)) Z (oL Z (bU.ldBA (j:=0) Z Z Z ZD zZ (vs:=B0) Z Z) ?_))))
 have q:=bnd hm
 obtain ⟨⟨x5,x6⟩,h7,ba⟩:=q
 try dsimp only at ba
 refine zH 0 Z Z Z Z (zG Z Z Try.call42 (zA Z zQ) Z) bU (fun hs=>wGm p0 bk bn bl bo bm bp W1 U hs cZ da db h7) (.inr Z) ?_
 rintro U9 dH dV bH dT bT bR
 rcases x5 with _ | x26
 try dsimp only at ba
 obtain ⟨rfl,rfl⟩:=bR
 have cV:sW w U U9 [.blk b2 26 B0] bH:=bT
 refine oM Z Z (oR Z (zo Z Z (v:=.pointer none) Z) (oR Z (zo Z Z (v:=jV x6) Z) (oA Z Z (oA Z Z (eN (zF (sR fL2 Z (oM Z Z (oR Z (zy Z Z Z) (eN (ifc ba ?_ ?_)))))))))))
 intro br dq
 refine zg (zf (fun h=>h br.out)) (kN (sR fL1 Z (oA Z Z (eN (zF (sR fL7 Z (oM Z Z ?_)))))))
 cases dq
 intro br dr
 refine cT Z br (sR fL3 Z (oM Z Z (oA Z Z (oA Z Z (eN (zR (zW ?_)))))))
 have cW:=cV.nilrow 23 1
 cases dr
 exact ⟨rfl,_,(wFh rfl rfl),U9,_,(cW.pick [0] _ (by decide) rfl),none,0,[],rfl,rfl,RlL.nil⟩
 try dsimp only at ba
 obtain ⟨ah,ap,au,aq,av,az,aW,aa,am,ak,rfl,rfl,dM,dN,dO,dP⟩:=bR
 have bw:sW w U U9 [.blk ah 99 ([.slice ap x26.Bout.Shots.length au,.slice aq x26.Bout.Down.length av,.slice az x26.Bout.Across.length aW,.map (some aa)] ++ ((hH KL.encI x26.hits.l) ++ ((hH KL.encI x26.used.l) ++ (hH KL.encT x26.met.l)))),.obj aa (.map am ak),.blk b2 26 B0] bH:=bT
 refine oM Z Z (oR Z (zo Z Z (v:=.pointer (some ⟨ah,0,none⟩)) Z) (oR Z (zo Z Z (v:=jV x6) Z) (oA Z Z (oA Z Z (eN (zF (sR fL2 Z (oM Z Z (oR Z (zy Z Z Z) (eN (ifc ba ?_ ?_)))))))))))
 intro bs dt
 refine zg (zf (fun h=>h bs.out)) (kN (sR fL1 Z (oA Z Z (eN (zF (sR fL7 Z (oM Z Z (oR Z (zl Z Z) (oR Z (zJ Z Z zU Z zZ) (oR Z (zJ Z Z zE Z zY) (oL Z (bw.ldB (j:=0) Z Z Z zi (v:=.slice ap x26.Bout.Shots.length au) Z) (oR Z (ZA Z Z zB) (oM Z Z (eN (zj (bnK dt fun dY df du=>?_))))))))))))))))
 have q:=wBz df
 obtain ⟨bB,dg⟩:=q
 replace bB:=zO bB
 refine CK.forN' (fun ai bj σ_ w_=>∃ (U_:PHeap) (be:Option Addr) (bh:Nat) (bi:List Value),σ_ 22=jV (↑ai:Int)/\σ_ 4=.pointer (some ⟨ah,0,none⟩)/\σ_ 6=.slice be bj.length bh/\σ_ 21=jV (↑x26.Bout.Shots.length:Int)/\PHeap.Le U9 U_/\sW w U U_ [.blk ah 99 ([.slice ap x26.Bout.Shots.length au,.slice aq x26.Bout.Down.length av,.slice az x26.Bout.Across.length aW,.map (some aa)] ++ ((hH KL.encI x26.hits.l) ++ ((hH KL.encI x26.used.l) ++ (hH KL.encT x26.met.l)))),.obj aa (.map am ak),.blk b2 26 B0,.row be bh 23 1 bi] w_/\RlL U_ wNP bj bi) dg ?_ ?_ ?_
 have cX:=bw.nilrow 23 1
 exact ⟨U9,none,0,[],rfl,rfl,rfl,rfl,(zk _),(cX.pick [1,2,3,0] _ (by decide) rfl),RlL.nil⟩
 rintro ai bj dX d7 bI bA ⟨dJ,be,bh,bi,bu,bt,cw,bP,dD,cY,cD⟩ dB
 have bM:Hid ((↑ai:Int) < (↑x26.Bout.Shots.length:Int)):=zO (wCJ bA)
 replace bA:=zO bA
 have dh:Hid (w64 ((↑ai:Int) + 1)=(↑(ai + 1):Int)):=zO (by have h1:=bB.out;have h2:=bM.out;rw [wAX] <;> omega)
 refine sR fL1 rfl (zN rfl rfl rfl rfl (fun _=>zh rfl bu bP) (eN (zF (cT Z bM (kN (zF (zj (sR fL2 rfl (zV rfl rfl rfl rfl rfl bu (OKS.ra rfl rfl rfl rfl rfl rfl (eN (ZK ZL [3,3,3,3,3,3,3,3,3,3,1,3,3,2,2,0,3] (wKH (.fx 13 (.fx 14 (.fx 15 (.fl 16 .nil) .stop) .stop) .stop)) (by kernel_rfl) ?_))))))))))))
 have bz:=cY.drew
 generalize hw_W88:({ bI with drawn:=bI.drawn + 1 }:World)=bJ at bz ⊢
 refine oM Z cw (oM Z bt (oM Z Z (oR Z (zl Z Z) (oR Z (zJ Z Z zU Z Zp) (bnK dB fun _ bv dv=>oR Z (ZR Z Z Z Zc Zg (wAx bv) (wAy bv)) (oM Z bt (oR Z (zl Z Z) (oR Z (zJ Z Z zU Z zZ) (oR Z (zJ Z Z zE Z zY) (oL Z (bz.ldB (j:=0) Z Z Z zi (v:=.slice aq x26.Bout.Down.length av) Z) (oR Z (ZA Z Z zB) (bnK dv fun x91 cE dw=>?_))))))))))))
 have q:=wKx cE
 obtain ⟨dQ,dR,aX,de,bV⟩:=q
 have aX:x26.Bout.Down.length <= 8:=by have h1:=aX;rw [List.length_take] at h1;omega
 refine zN (v:=.slice (some ⟨ah,4 + ai * 8,none⟩) x91.length 8) rfl rfl rfl rfl (fun _=>ZC (Runs.slAh (k:=x26.Bout.Down.length) rfl rfl rfl ZO zD aX) (by rw [bV];rfl)) ?_
 obtain ⟨bG,dS,dy,cG,dE⟩:=St.freezeTP (c:=8) (xs:=x91) (off:=4 + ai * 8) (f:=KL.encI) (sz:=1) bz (k:=0) rfl (fun _=>rfl) (wOu (f:=KL.encI) (sz:=1) (s:=(ai * 8)) (n:=x26.Bout.Down.length) (len:=8) (fun _=>rfl) (by first | omega | (simp only [List.length_cons,List.length_nil];omega) | (show _=4 + _;omega) | (simp;done)) de aX (by have h9:=x26.hits.h;have h8:(ai * 8) < 64:=(by have hz0:=wAK bv;omega);have h7:=aX;rw [h9];omega)) (by rw [bV];exact aX)
 let B1:Res:=.row be bh 23 1 bi
 have cH:sW w U bG [.obj aa (.map am ak),.blk b2 26 B0,B1] bJ:=cG
 refine bnK dw fun x105 cy dk=>zH 0 Z Z Z Z (zG Z Z Try.call44 (zA Z zQ) Z) cH (fun hs=>wBd x91 (some ⟨ah,4 + ai * 8,none⟩) 8 bJ bG hs dy cy) (.inr Z) ?_
 rintro b9 dI dW bq dC cI ⟨bb,bg,rfl,rfl⟩
 let B2:Res:=.row bb bg 3 1 (hH KL.encI x105)
 have cJ:sW w U b9 [B2,.obj aa (.map am ak),.blk b2 26 B0,B1] bq:=cI
 have q:=dE _ _ _ dC cJ
 obtain ⟨cb,bX,cK⟩:=q
 have cM:sW w U cb [.blk ah 99 ([.slice ap x26.Bout.Shots.length au,.slice aq x26.Bout.Down.length av,.slice az x26.Bout.Across.length aW,.map (some aa)] ++ ((hH KL.encI x26.hits.l) ++ ((hH KL.encI x26.used.l) ++ (hH KL.encT x26.met.l)))),B2,.obj aa (.map am ak),.blk b2 26 B0,B1] bq:=cK
 have q:=cM.freezeR (k:=1) (n:=x105.length) rfl (wAG (f:=KL.encI) (sz:=1) (fun _=>rfl) x105) (by decide)
 obtain ⟨aZ,bY,dA,cO⟩:=q
 have cP:sW w U aZ [.blk ah 99 ([.slice ap x26.Bout.Shots.length au,.slice aq x26.Bout.Down.length av,.slice az x26.Bout.Across.length aW,.map (some aa)] ++ ((hH KL.encI x26.hits.l) ++ ((hH KL.encI x26.used.l) ++ (hH KL.encT x26.met.l)))),.obj aa (.map am ak),.blk b2 26 B0,B1] bq:=cO
 let B3:List Value:=[.slice bb x105.length bg]
 refine Zh (pv:=[(0,.slice bb x105.length bg)]) (zs:=[.slice none 0 0]) (cs:=B3) Z Z Z Z Z (wAb Z wAz) Try.runUnderlying27 zY Try.zeroValue23 Z Z Z Z Z cP ?_
 intro ci cn cN
 have bW:RlL aZ wNP [x105] B3:=(RlL.cons (R:=wNP) (x:=x105) (vs:=B3) ⟨bb,bg,rfl,dA⟩ RlL.nil)
 let B4:Res:=.row (some ⟨cn,0,none⟩) 1 23 1 B3
 have bS:sW w U aZ [B4,.blk ah 99 ([.slice ap x26.Bout.Shots.length au,.slice aq x26.Bout.Down.length av,.slice az x26.Bout.Across.length aW,.map (some aa)] ++ ((hH KL.encI x26.hits.l) ++ ((hH KL.encI x26.used.l) ++ (hH KL.encT x26.met.l)))),.obj aa (.map am ak),.blk b2 26 B0,B1] ci:=cN
 refine bnK dk fun dF cz dm=>?_
 have cA:=cD.le bX
 have cB:=cA.le bY
 refine OKS.appendR (R:=wNP) (j:=4) (xs:=bj) (ys:=[x105]) (zs:=dF) rfl rfl rfl rfl rfl Try.underlying27 wOW rfl rfl rfl rfl rfl rfl rfl bS rfl rfl rfl cB bW (bS.srcR (j:=0) rfl (by decide) (RlL.len bW)) cz rfl ?_
 intro bD bL bO cj cQ dx
 have cR:sW w U aZ [B4,.blk ah 99 ([.slice ap x26.Bout.Shots.length au,.slice aq x26.Bout.Down.length av,.slice az x26.Bout.Across.length aW,.map (some aa)] ++ ((hH KL.encI x26.hits.l) ++ ((hH KL.encI x26.used.l) ++ (hH KL.encT x26.met.l)))),.obj aa (.map am ak),.blk b2 26 B0,.row bD bL 23 1 bO] cj:=cQ
 refine oA Z Z (zr (zm (zL (rR fL2 Z (oR Z (ZC (zd Z bu Z) (congrArg (jV) dh.out)) (oM Z Z (zr ?_)))))))
 cases dm
 exact zL ⟨rfl,⟨aZ,bD,bL,bO,rfl,bt,rfl,bP,((dD.trans bX).trans bY),(cR.pick [1,2,3,4] _ (by decide) rfl),dx⟩⟩
 rintro dZ dK ⟨cf,b5,cp,cq,cx,dL,ct,cu,dU,cS,cC⟩
 have cr:Hid (¬ ((↑(((↑x26.Bout.Shots.length:Int):Int) - 0).toNat:Int) < (↑x26.Bout.Shots.length:Int))):=zO (wBe)
 refine sR fL1 Z (oR Z (zh Z cx cu) (eN (zF (cF Z cr (ZV (zu (zu (ZM (zL (sR fL3 Z (oM Z ct (oA Z Z (oA Z Z (eN (zR ?_)))))))))))))))
 cases du
 exact ⟨rfl,_,(wFh rfl rfl),cf,_,(cS.pick [3] _ (by decide) rfl),b5,cp,cq,rfl,rfl,cC⟩
 intro bs dp
 refine cT Z bs (sR fL3 Z (oM Z Z (oA Z Z (oA Z Z (eN (zR (zW ?_)))))))
 have cU:=bw.nilrow 23 1
 cases dp
 exact ⟨rfl,_,(wFh rfl rfl),U9,_,(cU.pick [0] _ (by decide) rfl),none,0,[],rfl,rfl,RlL.nil⟩
theorem wHD (p0:wAC) (ak:Option Addr) (aq:Nat) (am:Option Addr) (au:Nat) (ap:Option Addr) (av:Nat) (w:World) (U:PHeap) (hS:St0 w U []) (bM:Sl U 1 ak aq p0.Shots.length (hH KL.encI p0.Shots)) (bN:Sl U 1 am au p0.Down.length (hH KL.encI p0.Down)) (bO:Sl U 2 ap av p0.Across.length (hH wAB p0.Across)) {r:(List Int) × Int} (hm:wBj p0=some r):Gv Try.prog 31 [.agg #[.slice ak p0.Shots.length aq,.slice am p0.Down.length au,.slice ap p0.Across.length av]] w (wCY w [] U (fun U_ L_ v=>∃ (A0:Option Addr) (c0:Nat),v=.tuple #[.slice A0 r.1.length c0,jV r.2]/\L_=[.row A0 c0 3 1 (hH KL.encI r.1)])):=by
 unfold wBj at hm
 refine Gv.of Try.func31 Z Try.ntmps31 Try.results31 Z (sR gBj Z ?_)
 let B0:List Value:=[.slice ak p0.Shots.length aq,.slice am p0.Down.length au,.slice ap p0.Across.length av]
 refine ZH (cs:=B0) rfl rfl rfl rfl rfl rfl (by rfl) hS ?_
 intro W1 b2 br
 refine oA Z Z (oA Z Z (eN (sR (.fl 0 (.fx 1 (wJa (.nil)) .stop)) Z (oL Z (br.ldBA (j:=0) Z Z Z ZD zZ (vs:=B0) Z Z) ?_))))
 have q:=bnd hm
 obtain ⟨⟨x5,x6⟩,h7,ah⟩:=q
 try dsimp only at ah
 refine zH 0 Z Z Z Z (zG Z Z Try.call69 (zA Z zQ) Z) br (fun hs=>wCQ p0 ak aq am au ap av W1 U hs bM bN bO h7) (.inr Z) ?_
 rintro U9 bW b5 aZ bY bq bp
 rcases x5 with _ | x26
 try dsimp only at ah
 obtain ⟨rfl,rfl⟩:=bp
 have bH:sW w U U9 [.blk b2 26 B0] aZ:=bq
 refine oM Z Z (oR Z (zo Z Z (v:=.pointer none) Z) (oR Z (zo Z Z (v:=jV x6) Z) (oA Z Z (oA Z Z (eN (zF (sR fL2 Z (oM Z Z (oR Z (zy Z Z Z) (eN (ifc ah ?_ ?_)))))))))))
 intro bh bP
 refine zg (zf (fun h=>h bh.out)) (kN (zF (sR gBi Z (oM Z Z ?_))))
 cases bP
 intro bh bQ
 refine cT Z bh (sR fL3 Z (oM Z Z (oA Z Z (oA Z Z (eN (zR (zW ?_)))))))
 have bI:=bH.nilrow 3 1
 cases bQ
 exact ⟨rfl,_,(wFh rfl rfl),U9,_,(bI.pick [0] _ (by decide) rfl),none,0,rfl,rfl⟩
 try dsimp only at ah
 obtain ⟨aj,az,bb,aV,be,aW,bf,ai,bk,bg,rfl,rfl,bz,bA,bB,bC⟩:=bp
 have bs:sW w U U9 [.blk aj 99 ([.slice az x26.Bout.Shots.length bb,.slice aV x26.Bout.Down.length be,.slice aW x26.Bout.Across.length bf,.map (some ai)] ++ ((hH KL.encI x26.hits.l) ++ ((hH KL.encI x26.used.l) ++ (hH KL.encT x26.met.l)))),.obj ai (.map bk bg),.blk b2 26 B0] aZ:=bq
 refine oM Z Z (oR Z (zo Z Z (v:=.pointer (some ⟨aj,0,none⟩)) Z) (oR Z (zo Z Z (v:=jV x6) Z) (oA Z Z (oA Z Z (eN (zF (sR fL2 Z (oM Z Z (oR Z (zy Z Z Z) (eN (ifc ah ?_ ?_)))))))))))
 intro bi bR
 refine zg (zf (fun h=>h bi.out)) (kN (zF (sR gBi Z (oM Z Z ?_))))
 have q:=bnd bR
 obtain ⟨⟨x42,x43⟩,bD,bt⟩:=q
 try dsimp only at bt
 refine zH 2 Z Z Z Z (zG Z Z Try.call46 (zA Z zQ) Z) bs (fun hs=>wAm x26 aj az bb aV be aW bf ai bk bg aZ U9 hs bz bA bB bC bD) (.inl Z) ?_
 rintro aY bX b9 bw bZ bJ ⟨aX,bo,rfl,rfl,bE⟩
 have bl:sW w U aY [.row aX bo 3 1 (hH KL.encI x42),.blk aj 99 ([.slice az x26.Bout.Shots.length bb,.slice aV x26.Bout.Down.length be,.slice aW x26.Bout.Across.length bf,.map (some ai)] ++ ((hH KL.encI x43.1.l) ++ ((hH KL.encI x43.2.1.l) ++ (hH KL.encT x43.2.2.l)))),.obj ai (.map bk bg),.blk b2 26 B0] bw:=bJ
 refine oA Z Z (eN (sR fL2 Z (oM Z Z ?_)))
 have bF:aX.isNone=decide (x42=[]):=wGU (j:=0) bl rfl (fun _=>rfl) (by decide) bE
 refine zN rfl rfl rfl rfl (fun _=>Runs.neNilR (b:=decide (¬ (x42=[]))) rfl rfl rfl zB (by simp [bF])) (eN (ifc bt ?_ ?_))
 intro bj bS
 refine zg (zf (fun h=>h bj.out)) (kN (sR fL2 Z (oA Z Z (oA Z Z (eN (zR ?_))))))
 have bK:=bl.nilrow 3 1
 cases bS
 exact ⟨rfl,_,(wFh rfl rfl),aY,_,(bK.pick [0] _ (by decide) rfl),none,0,rfl,rfl⟩
 intro bj bT
 refine cT Z bj (sR fL3 Z (oM Z Z (oA Z Z (oA Z Z (eN (zR (zW ?_)))))))
 cases bT
 exact ⟨rfl,_,(wFh rfl rfl),aY,_,(bl.pick [0] _ (by decide) rfl),aX,bo,rfl,rfl⟩
 intro bi bU
 refine cT Z bi (sR fL3 Z (oM Z Z (oA Z Z (oA Z Z (eN (zR (zW ?_)))))))
 have bL:=bs.nilrow 3 1
 cases bU
 exact ⟨rfl,_,(wFh rfl rfl),U9,_,(bL.pick [0] _ (by decide) rfl),none,0,rfl,rfl⟩
theorem wEK (p0:wAC) (bb:Option Addr) (bh:Nat) (be:Option Addr) (bi:Nat) (bf:Option Addr) (bj:Nat) (p1:List Int) (bg:Option Addr) (bk:Nat) (w:World) (U:PHeap) (hS:St0 w U []) (bR:Sl U 1 bb bh p0.Shots.length (hH KL.encI p0.Shots)) (bS:Sl U 1 be bi p0.Down.length (hH KL.encI p0.Down)) (bT:Sl U 2 bf bj p0.Across.length (hH wAB p0.Across)) (bU:Sl U 1 bg bk p1.length (hH KL.encI p1)) {r:Int × Int} (hm:wBJ p0 p1=some r):Gv Try.prog 32 [.agg #[.slice bb p0.Shots.length bh,.slice be p0.Down.length bi,.slice bf p0.Across.length bj],.slice bg p1.length bk] w (wCY w [] U (fun U_ L_ v=>v=.tuple #[jV r.1,jV r.2]/\L_=[])):=by
 unfold wBJ at hm
 refine Gv.of Try.func32 Z Try.ntmps32 Try.results32 Z (sR gBj Z ?_)
 let B0:List Value:=[.slice bb p0.Shots.length bh,.slice be p0.Down.length bi,.slice bf p0.Across.length bj]
 refine ZH (cs:=B0) rfl rfl rfl rfl rfl rfl (by rfl) hS ?_
 intro W1 b2 bA
 refine oA Z Z (oA Z Z (eN (sR (.fl 0 (.fx 1 (wJa (.nil)) .stop)) Z (oL Z (bA.ldBA (j:=0) Z Z Z ZD zZ (vs:=B0) Z Z) ?_))))
 have q:=bnd hm
 obtain ⟨⟨x5,x6⟩,h7,aW⟩:=q
 try dsimp only at aW
 refine zH 0 Z Z Z Z (zG Z Z Try.call69 (zA Z zQ) Z) bA (fun hs=>wCQ p0 bb bh be bi bf bj W1 U hs bR bS bT h7) (.inr Z) ?_
 rintro U9 cn ct bn ci bz bw
 rcases x5 with _ | x26
 try dsimp only at aW
 obtain ⟨rfl,rfl⟩:=bw
 have bO:sW w U U9 [.blk b2 26 B0] bn:=bz
 refine oM Z Z (oR Z (zo Z Z (v:=.pointer none) Z) (oR Z (zo Z Z (v:=jV x6) Z) (oA Z Z (oA Z Z (eN (zF (sR fL2 Z (oM Z Z (oR Z (ZP Z Z Z) (eN (ifc aW ?_ ?_)))))))))))
 intro aY bV
 refine cT Z aY (rR gBm Z (oM Z Z (oM Z Z ?_)))
 cases bV
 intro aY bW
 refine cF Z aY (kN (zF (sR fL2 Z (oM Z Z (oR Z (zy Z Z Z) (eN (cT Z aY (sR fL3 Z (oM Z Z (oA Z Z (oA Z Z (eN (zR (zW ?_))))))))))))))
 cases bW
 exact ⟨rfl,_,(wFh rfl rfl),U9,_,(bO.pick [] _ (by decide) rfl),rfl,rfl⟩
 try dsimp only at aW
 obtain ⟨ah,aj,aq,ak,au,am,av,ab,aV,az,rfl,rfl,br,bs,bt,bu⟩:=bw
 have bB:sW w U U9 [.blk ah 99 ([.slice aj x26.Bout.Shots.length aq,.slice ak x26.Bout.Down.length au,.slice am x26.Bout.Across.length av,.map (some ab)] ++ ((hH KL.encI x26.hits.l) ++ ((hH KL.encI x26.used.l) ++ (hH KL.encT x26.met.l)))),.obj ab (.map aV az),.blk b2 26 B0] bn:=bz
 refine oM Z Z (oR Z (zo Z Z (v:=.pointer (some ⟨ah,0,none⟩)) Z) (oR Z (zo Z Z (v:=jV x6) Z) (oA Z Z (oA Z Z (eN (zF (sR fL2 Z (oM Z Z (oR Z (ZP Z Z Z) (eN (ifc aW ?_ ?_)))))))))))
 intro aZ bX
 refine cT Z aZ (rR gBm Z (oM Z Z (oM Z Z ?_)))
 have bv:=bU.le ci
 refine bnK bX fun cx bH bY=>zH 2 Z Z Z Z (zG Z Z Try.call71 (zA Z (zA Z zQ)) Z) bB (fun hs=>wCz x26 ah aj aq ak au am av ab aV az p1 bg bk bn U9 hs br bs bt bu bv bH) (.inl Z) ?_
 rintro bl cp cu bq ba bP ⟨rfl,rfl⟩
 have bC:sW w U bl [.blk ah 99 ([.slice aj x26.Bout.Shots.length aq,.slice ak x26.Bout.Down.length au,.slice am x26.Bout.Across.length av,.map (some ab)] ++ ((hH KL.encI x26.hits.l) ++ ((hH KL.encI x26.used.l) ++ (hH KL.encT x26.met.l)))),.obj ab (.map aV az),.blk b2 26 B0] bq:=bP
 refine oA Z Z (eN (zF (sR fL2 Z (oM Z Z (oR Z (zy Z Z Z) (eN (ifc bY ?_ ?_)))))))
 intro bo bZ
 refine zg (zf (fun h=>h bo.out)) (kN (sR gBm Z (oM Z Z (oM Z Z ?_))))
 have bI:=br.le ba
 have bJ:=bs.le ba
 have bK:=bt.le ba
 have bL:=bv.le ba
 refine bnK bZ fun x57 bM b5=>zH 2 Z Z Z Z (zG Z Z Try.call74 (zA Z (zA Z (zA Z zQ))) Z) bC (fun hs=>wCr x26 ah aj aq ak au am av ab aV az p1 bg bk (-1) bq bl hs bI bJ bK bu bL bM) (.inl Z) ?_
 rintro bm cq cw bG cr bQ ⟨rfl,rfl⟩
 have bD:sW w U bm [.blk ah 99 ([.slice aj x26.Bout.Shots.length aq,.slice ak x26.Bout.Down.length au,.slice am x26.Bout.Across.length av,.map (some ab)] ++ ((hH KL.encI x26.hits.l) ++ ((hH KL.encI x26.used.l) ++ (hH KL.encT x26.met.l)))),.obj ab (.map aV az),.blk b2 26 B0] bG:=bQ
 refine oA Z Z (eN (zF (sR fL2 Z (oM Z Z (oR Z (Runs.leq Z Z Z) (eN (ifc b5 ?_ ?_)))))))
 intro bp b9
 refine cT Z bp (sR fL2 Z (oA Z Z (oA Z Z (eN (zR (zW ?_))))))
 cases b9
 exact ⟨rfl,_,(wFh rfl rfl),bm,_,(bD.pick [] _ (by decide) rfl),rfl,rfl⟩
 intro bp cb
 refine cF Z bp (kN (sR fL3 Z (oM Z Z (oA Z Z (oA Z Z (eN (zR ?_)))))))
 cases cb
 exact ⟨rfl,_,(wFh rfl rfl),bm,_,(bD.pick [] _ (by decide) rfl),rfl,rfl⟩
 intro bo cf
 refine cT Z bo (sR fL3 Z (oM Z Z (oA Z Z (oA Z Z (eN (zR (zW ?_)))))))
 cases cf
 exact ⟨rfl,_,(wFh rfl rfl),bl,_,(bC.pick [] _ (by decide) rfl),rfl,rfl⟩
 intro aZ cg
 refine cF Z aZ (kN (zF (sR fL2 Z (oM Z Z (oR Z (zy Z Z Z) (eN (cT Z aZ (sR fL3 Z (oM Z Z (oA Z Z (oA Z Z (eN (zR (zW ?_))))))))))))))
 cases cg
 exact ⟨rfl,_,(wFh rfl rfl),U9,_,(bB.pick [] _ (by decide) rfl),rfl,rfl⟩
theorem wEs (p0:wAc) (p1:wAc) (w:World) (U:PHeap) (hS:St0 w U [])  {r:Bool} (hm:wBc p0 p1=some r):Gv Try.prog 34 [.agg #[jV p0.Lo,jV p0.Hi],.agg #[jV p1.Lo,jV p1.Hi]] w (wCY w [] U (fun U_ L_ v=>v=.bool r/\L_=[])):=by
 unfold wBc at hm
 refine Gv.of Try.func34 rfl Try.ntmps34 Try.results34 rfl (sR gBd rfl (ZH (cs:=[jV p0.Lo,jV p0.Hi]) rfl rfl rfl rfl rfl rfl (by rfl) hS ?_))
 intro W1 b2 ak
 refine ZH (cs:=[jV p1.Lo,jV p1.Hi]) rfl rfl rfl rfl rfl rfl (by rfl) ak ?_
 intro W5 b6 ah
 refine oA Z Z (eN (sR fL13 Z (oR Z (zJ Z Z zp Z zD) (oL Z (ah.ldB (j:=1) Z Z Z zM (v:=jV p0.Lo) Z) (oR Z (zJ Z Z zp Z zD) (oL Z (ah.ldB (j:=0) Z Z Z zM (v:=jV p1.Lo) Z) (oR Z (Runs.leq Z Z Z) (oM Z Z ?_))))))))
 by_cases c9:p0.Lo <= p1.Lo
 have ai:=hm;rw [if_pos c9] at ai;replace c9:=zO c9
 refine rU Z (wT Z c9) (zJ Z Z zp Z zD) (zq Z Z Z (wT Z c9) (ah.ldB (j:=0) Z Z Z zM (v:=jV p1.Hi) Z) Z (rU Z (wT Z c9) (zJ Z Z zp Z zD) (zq Z Z Z (wT Z c9) (ah.ldB (j:=1) Z Z Z zM (v:=jV p0.Hi) Z) Z (rU Z (wT Z c9) (Runs.leq Z Z Z) (oR Z (zS Z (ZX c9.out) Z) (oA Z Z (eN (zR ?_))))))))
 first | (obtain rfl:=nA ai) | cases ai
 exact ⟨rfl,_,(zx rfl),U,_,(ah.pick [] _ (by decide) rfl),rfl,rfl⟩
 have aj:=hm;rw [if_neg c9] at aj;replace c9:=zO c9
 refine oF Z c9 (oF Z c9 (oF Z c9 (oF Z c9 (oF Z c9 (oR Z (zX Z (zf c9.out) Z) (oA Z Z (eN (zR ?_))))))))
 have hE:=nA aj;first | subst r | cases hE
 exact ⟨rfl,_,(zx rfl),U,_,(ah.pick [] _ (by decide) rfl),rfl,rfl⟩
theorem wEX (w:World) (U:PHeap) (hS:St0 w U []) {r:Bool} (hm:wCL=some r):Gv Try.prog 15 [] w (wCY w [] U (fun U_ L_ v=>v=.bool r/\L_=[])):=by
 cases hm
 refine (xr15 w).mono ?_
 rintro v w' ⟨rfl,k⟩
 exact ⟨U,[],hS.grow k,Z,Z⟩
theorem wDJ (p0:List Int) (ft:Option Addr) (fw:Nat) (p1:List Int) (fu:Option Addr) (fy:Nat) (p2:Int) (p3:Int) (w:World) (U:PHeap) (hS:St0 w U []) (sB:Sl U 1 ft fw p0.length (hH KL.encB8 p0)) (sC:Sl U 1 fu fy p1.length (hH KL.encB8 p1)) {r:Bool} (hm:wBE p0 p1 p2 p3=some r):Gv Try.prog 5 [.slice ft p0.length fw,.slice fu p1.length fy,.int .u8 p2,.int .u8 p3] w (wCY w [] U (fun U_ L_ v=>v=.bool r/\L_=[])):=by
 unfold wBE at hm
 refine Gv.of Try.func5 Z Try.ntmps5 Try.results5 Z (sR fL1 Z (oA Z Z (eN (sR (.fl 0 (.fx 1 (.fx 2 (fC3_5 gBg) .stop) .stop)) Z (oM Z Z (bnK hm fun x1 h2 sU=>zH 0 Z Z Z Z (zG Z Z Try.call8 (zA Z zQ) Z) hS (fun hs=>wEH p0 ft fw w U hs sB h2) (.inr Z) ?_))))))
 rintro U4 L5 v6 W7 uc ss ⟨eG,fJ,gz,rfl,rfl,mS⟩
 have qO:sW w U U4 [.blk eG 87 [.slice fJ x1.bytes.length gz,jV x1.next,.int .u32 x1.state]] W7:=ss
 have q:=bnd sU
 obtain ⟨⟨ap,ui,fz⟩,m4,jd⟩:=q
 try dsimp only at jd
 refine zH 1 Z Z Z Z (zG Z Z Try.call7 (zA Z (zA Z zQ)) Z) qO (fun hs=>wEq x1 eG fJ gz 6 W7 U4 hs mS m4) (.inl Z) ?_
 rintro ef uz vq lh t8 rk ⟨bA,bD,bG,bK,bL,bN,fL,gC,lC,jW,lD,rfl,rfl,ot,vd,vg⟩
 let B0:Res:=.blk eG 87 [.slice jW fz.bytes.length lD,jV fz.next,.int .u32 fz.state]
 let B1:Res:=.row fL gC 23 1 lC
 let B2:Res:=.row bG bK 3 1 (hH KL.encI ap.Down)
 let B3:Res:=.row bA bD 3 1 (hH KL.encI ap.Shots)
 have rJ:sW w U ef [B3,B2,B1,B0] lh:=rk
 refine oM Z Z (oR Z (zo Z Z (v:=.agg #[.slice bA ap.Shots.length bD,.slice bG ap.Down.length bK,.slice bL ap.Across.length bN]) Z) (oR Z (zo Z Z (v:=.slice fL ui.length gC) Z) ?_))
 let B4:List Value:=[.slice none 0 0,.slice none 0 0,.slice none 0 0]
 refine ZW (cs:=B4) Z Z Z Z Z Zl Z rJ ?_
 intro uV ab rN
 let B5:List Value:=[.slice bA ap.Shots.length bD,.slice bG ap.Down.length bK,.slice bL ap.Across.length bN]
 refine ZB (j:=0) (vs:=B5) Z Z Z Z rN Z Z Z Z zZ (zC Z) Z Z Z ?_
 intro gu rO
 have rP:sW w U ef [.blk ab 26 B5,B3,B2,B1,B0] gu:=rO
 refine oA Z Z (eN (sR gBi Z (oM Z Z ?_)))
 have oG:=sC.le uc
 have oH:=oG.le t8
 refine bnK jd fun x54 oI th=>zH 0 Z Z Z Z (zG Z Z Try.call8 (zA Z zQ) Z) rP (fun hs=>wEH p1 fu fy gu ef hs oH oI) (.inr Z) ?_
 rintro j6 uH vy eE ub rS ⟨aW,fP,gI,rfl,rfl,o9⟩
 let B6:Res:=.blk aW 87 [.slice fP x54.bytes.length gI,jV x54.next,.int .u32 x54.state]
 have i5:sW w U j6 [B6,.blk ab 26 B5,B3,B2,B1,B0] eE:=rS
 refine OKS.ra rfl rfl rfl rfl rfl rfl (eN (sR fL4 rfl (zN rfl rfl rfl rfl (fun _=>zJ rfl rfl zE rfl zY) (zq rfl rfl rfl rfl (i5.ldB (j:=1) rfl rfl rfl zi (v:=.slice bA ap.Shots.length bD) rfl) rfl (zN rfl rfl rfl rfl (fun _=>ZA rfl rfl zB) (OKS.ra rfl rfl rfl rfl rfl rfl (eN (zF (ZK ZL [3,3,3,3,3,3,3,3,3,3] fL10 (by kernel_rfl) ?_)))))))))
 have eY:=i5.drew
 generalize hw_W70:({ eE with drawn:=eE.drawn + 1 }:World)=eF at eY ⊢
 refine oM Z Z (oR Z (Runs.cvw Z Z Try.runUnderlying5 Zk Z Z) (oM Z Z (bnK th fun x71 pb tp=>oR Z (Runs.rem Z Z Z pb) (oM Z Z (oR Z (Runs.cvw Z Z Try.runUnderlying5 Zk Z Z) (oM Z Z (bnK tp fun x74 pB tq=>oR Z (Runs.rem Z Z Z pB) (oA Z Z (oA Z Z (eN (sR (wDo (.fx 3 (wRS (.fx 7 gAv .stop)) .stop)) Z (oL Z (eY.ldBA (j:=1) Z Z Z ZD zZ (vs:=B5) Z Z) (oM Z Z (oM Z Z ?_))))))))))))))
 have q:=eY.freezeR (k:=2) (n:=ap.Shots.length) rfl (wAG (f:=KL.encI) (sz:=1) (fun _=>rfl) ap.Shots) (by decide)
 obtain ⟨j8,jD,t7,sf⟩:=q
 have sg:sW w U j8 [B6,.blk ab 26 B5,B2,B1,B0] eF:=sf
 have q:=sg.freezeR (k:=2) (n:=ap.Down.length) rfl (wAG (f:=KL.encI) (sz:=1) (fun _=>rfl) ap.Down) (by decide)
 obtain ⟨gg,fm,jw,sn⟩:=q
 have sq:sW w U gg [B6,.blk ab 26 B5,B1,B0] eF:=sn
 have iR:=t7.le fm
 have qz:=ot.le ub
 have qE:=qz.le jD
 have iT:=qE.le fm
 have q:=bnd tq
 obtain ⟨⟨x91,x92⟩,qG,jt⟩:=q
 try dsimp only at jt
 refine zH 0 Z Z Z Z (zG Z Z Try.call14 (zA Z (zA Z (zA Z zQ))) Z) sq (fun hs=>wHt ap bA bD bG bK bL bN x71 x74 eF gg hs iR jw iT qG) (.inr Z) ?_
 rintro eu uN vF lz dT qH ⟨rfl,rfl⟩
 have qI:sW w U eu [B6,.blk ab 26 B5,B1,B0] lz:=qH
 refine oM Z Z (oR Z (zo Z Z (v:=.agg #[jV x91.Lo,jV x91.Hi]) Z) (oR Z (zo Z Z (v:=jV x92) Z) ?_))
 let B7:List Value:=[jV 0,jV 0]
 refine ZW (cs:=B7) Z Z Z Z Z zz Z qI ?_
 intro uQ ae qJ
 let B8:List Value:=[jV x91.Lo,jV x91.Hi]
 refine ZB (j:=0) (vs:=B8) Z Z Z Z qJ Z Z Z Z ze (zC Z) Z Z Z ?_
 intro gi qK
 have iU:sW w U eu [.blk ae 44 B8,B6,.blk ab 26 B5,B1,B0] gi:=qK
 refine oA Z Z (eN (zF (Zo fun cC bP=>?_)))
 have dA:cC 9=.pointer (some ⟨ab,0,none⟩):=(bP 9).trans rfl
 have lO:cC 11=.pointer (some ⟨aW,0,none⟩):=(bP 11).trans rfl
 have lP:cC 12=jV (↑ap.Shots.length:Int):=(bP 12).trans rfl
 have dB:cC 13=jV x71:=(bP 13).trans rfl
 have dC:cC 14=jV x74:=(bP 14).trans rfl
 have lQ:cC 15=.pointer (some ⟨ae,0,none⟩):=(bP 15).trans rfl
 have lR:cC 16=jV x92:=(bP 16).trans rfl
 clear bP
 refine rR (wDo (.fx 3 (wRU (.nil)) .stop)) Z (oL Z (iU.ldBA (j:=2) Z Z dA ZD zZ (vs:=B5) Z Z) (oM Z dB (oM Z dC ?_)))
 have iu:=iR.le dT
 have iv:=jw.le dT
 have iw:=iT.le dT
 have q:=bnd jt
 obtain ⟨⟨x121,x122,jH⟩,mR,ja⟩:=q
 try dsimp only at ja
 refine zH 0 Z Z Z Z (zG Z Z Try.call21 (zA Z (zA Z (zA Z zQ))) Z) iU (fun hs=>wFs ap bA bD bG bK bL bN x71 x74 gi eu hs iu iv iw mR) (.inr Z) ?_
 rintro jY uw vm ey dK qL ⟨dX,eH,dY,eI,rfl,rfl⟩
 let B9:Res:=.row dY eI 3 1 (hH KL.encI x122)
 have iV:sW w U jY [.row dX eH 3 1 (hH KL.encI x121),B9,.blk ae 44 B8,B6,.blk ab 26 B5,B1,B0] ey:=qL
 refine oM Z Z (oR Z (zo Z Z (v:=.slice dX x121.length eH) Z) (oR Z (zo Z Z (v:=.slice dY x122.length eI) Z) (oR Z (zo Z Z (v:=jV jH) Z) (oA Z Z (oA Z Z (oA Z Z (eN (sR (wIA (.fx 4 (wPz gBl) .stop)) Z (oL Z (iV.ldBA (j:=4) Z Z dA ZD zZ (vs:=B5) Z Z) (oM Z dB (oM Z dC (oM Z Z ?_))))))))))))
 have q:=iV.freezeR (k:=0) (n:=x121.length) rfl (wAG (f:=KL.encI) (sz:=1) (fun _=>rfl) x121) (by decide)
 obtain ⟨fV,dL,tV,qM⟩:=q
 have qN:sW w U fV [B9,.blk ae 44 B8,B6,.blk ab 26 B5,B1,B0] ey:=qM
 have mT:=iu.le dK
 have iy:=mT.le dL
 have mU:=iv.le dK
 have iz:=mU.le dL
 have mV:=iw.le dK
 have iA:=mV.le dL
 have q:=bnd ja
 obtain ⟨⟨cW,jJ⟩,mW,jb⟩:=q
 try dsimp only at jb
 refine zH 0 Z Z Z Z (zG Z Z Try.call23 (zA Z (zA Z (zA Z (zA Z zQ)))) Z) qN (fun hs=>wDV ap bA bD bG bK bL bN x71 x74 x121 dX eH ey fV hs iy iz iA tV mW) (.inr Z) ?_
 rintro fW ux vo lc dM qP ⟨rfl,rfl⟩
 have qQ:sW w U fW [B9,.blk ae 44 B8,B6,.blk ab 26 B5,B1,B0] lc:=qP
 refine oM Z Z (oR Z (zo Z Z (v:=.agg #[jV cW.Lo,jV cW.Hi]) Z) (oR Z (zo Z Z (v:=jV jJ) Z) (ZW (cs:=B7) Z Z Z Z Z zz Z qQ ?_)))
 intro uR ak qR
 let aj:List Value:=[jV cW.Lo,jV cW.Hi]
 refine ZB (j:=0) (vs:=aj) Z Z Z Z qR Z Z Z Z ze (zC Z) Z Z Z ?_
 intro ez qS
 have iW:sW w U fW [.blk ak 44 aj,B9,.blk ae 44 B8,B6,.blk ab 26 B5,B1,B0] ez:=qS
 refine oA Z Z (eN (sR (wIA (.fx 4 (wPz gBl) .stop)) Z (oL Z (iW.ldBA (j:=4) Z Z dA ZD zZ (vs:=B5) Z Z) (oM Z dB (oM Z dC (oM Z Z ?_))))))
 have q:=iW.freezeR (k:=1) (n:=x122.length) rfl (wAG (f:=KL.encI) (sz:=1) (fun _=>rfl) x122) (by decide)
 obtain ⟨fY,dN,tW,qT⟩:=q
 have qU:sW w U fY [.blk ak 44 aj,.blk ae 44 B8,B6,.blk ab 26 B5,B1,B0] ez:=qT
 have mX:=iy.le dM
 have iB:=mX.le dN
 have mY:=iz.le dM
 have iC:=mY.le dN
 have mZ:=iA.le dM
 have iD:=mZ.le dN
 have q:=bnd jb
 obtain ⟨⟨cX,jK⟩,m0,jc⟩:=q
 try dsimp only at jc
 refine zH 0 Z Z Z Z (zG Z Z Try.call23 (zA Z (zA Z (zA Z (zA Z zQ)))) Z) qU (fun hs=>wDV ap bA bD bG bK bL bN x71 x74 x122 dY eI ez fY hs iB iC iD tW m0) (.inr Z) ?_
 rintro bI uy vp lf dO qV ⟨rfl,rfl⟩
 have qW:sW w U bI [.blk ak 44 aj,.blk ae 44 B8,B6,.blk ab 26 B5,B1,B0] lf:=qV
 refine oM Z Z (oR Z (zo Z Z (v:=.agg #[jV cX.Lo,jV cX.Hi]) Z) (oR Z (zo Z Z (v:=jV jK) Z) (ZW (cs:=B7) Z Z Z Z Z zz Z qW ?_)))
 intro uS av qX
 let au:List Value:=[jV cX.Lo,jV cX.Hi]
 refine ZB (j:=0) (vs:=au) Z Z Z Z qX Z Z Z Z ze (zC Z) Z Z Z ?_
 intro gj qY
 have bo:sW w U bI [.blk av 44 au,.blk ak 44 aj,.blk ae 44 B8,B6,.blk ab 26 B5,B1,B0] gj:=qY
 refine oA Z Z (eN (zF (zF (Zo fun bq bm=>?_))))
 have gL:bq 9=.pointer (some ⟨ab,0,none⟩):=(bm 9).trans dA
 have gM:bq 11=.pointer (some ⟨aW,0,none⟩):=(bm 11).trans lO
 have lS:bq 12=jV (↑ap.Shots.length:Int):=(bm 12).trans lP
 have lT:bq 13=jV x71:=(bm 13).trans dB
 have lU:bq 14=jV x74:=(bm 14).trans dC
 have eR:bq 15=.pointer (some ⟨ae,0,none⟩):=(bm 15).trans lQ
 have lV:bq 16=jV x92:=(bm 16).trans lR
 have lW:bq 19=jV jH:=(bm 19).trans rfl
 have lX:bq 20=.pointer (some ⟨ak,0,none⟩):=(bm 20).trans rfl
 have lY:bq 21=jV jJ:=(bm 21).trans rfl
 have lZ:bq 22=.pointer (some ⟨av,0,none⟩):=(bm 22).trans rfl
 have l3:bq 23=jV jK:=(bm 23).trans rfl
 clear bm
 refine rR fL28 Z (oM Z lV (oR Z (zy Z Z Z) (oM Z Z (ifc jc ?_ ?_))))
 intro bV sM
 refine zV Z Z Z (zK Z Z (zf (fun h=>h bV.out))) Z lW (zN Z Z Z (zK Z Z (zf (fun h=>h bV.out))) (fun _=>zy Z Z Z) (oR Z (zX Z (zf (fun h=>h bV.out)) Z) (oM Z Z (ifc sM ?_ ?_))))
 intro bW sN
 refine zV Z Z Z (zK Z Z (zf (fun h=>h bW.out))) Z lY (zN Z Z Z (zK Z Z (zf (fun h=>h bW.out))) (fun _=>zy Z Z Z) (oR Z (zX Z (zf (fun h=>h bW.out)) Z) (oM Z Z (ifc sN ?_ ?_))))
 intro bX sO
 refine zV Z Z Z (zK Z Z (zf (fun h=>h bX.out))) Z l3 (zN Z Z Z (zK Z Z (zf (fun h=>h bX.out))) (fun _=>zy Z Z Z) (oR Z (zX Z (zf (fun h=>h bX.out)) Z) (oM Z Z (ifc sO ?_ ?_))))
 intro bh sP
 refine zN Z Z Z (zK Z Z (zf (fun h=>h bh.out))) (fun _=>zJ Z lX zp Z zD) (zq Z Z Z (zK Z Z (zf (fun h=>h bh.out))) (bo.ldB (j:=1) Z Z Z zM (v:=jV cW.Lo) Z) Z (zN Z Z Z (zK Z Z (zf (fun h=>h bh.out))) (fun _=>zJ Z eR zp Z zD) (zq Z Z Z (zK Z Z (zf (fun h=>h bh.out))) (bo.ldB (j:=2) Z Z Z zM (v:=jV x91.Lo) Z) Z (zN Z Z Z (zK Z Z (zf (fun h=>h bh.out))) (fun _=>zy Z Z Z) (oR Z (zX Z (zf (fun h=>h bh.out)) Z) (oM Z Z (ifc sP ?_ ?_)))))))
 intro bi sQ
 refine zN Z Z Z (zK Z Z (zf (fun h=>h bi.out))) (fun _=>zJ Z lZ zp Z zD) (zq Z Z Z (zK Z Z (zf (fun h=>h bi.out))) (bo.ldB (j:=0) Z Z Z zM (v:=jV cX.Hi) Z) Z (zN Z Z Z (zK Z Z (zf (fun h=>h bi.out))) (fun _=>zJ Z eR zp Z zD) (zq Z Z Z (zK Z Z (zf (fun h=>h bi.out))) (bo.ldB (j:=2) Z Z Z zM (v:=jV x91.Hi) Z) Z (zN Z Z Z (zK Z Z (zf (fun h=>h bi.out))) (fun _=>zy Z Z Z) (oR Z (zX Z (zf (fun h=>h bi.out)) Z) (eN (ifc sQ ?_ ?_)))))))
 intro eJ sS
 refine zg (zf (fun h=>h eJ.out)) (kN (sR (.fl 0 (.fx 1 (.fx 2 (.fx 3 .nil .stop) .stop) .stop)) Z (oL Z (bo.ldBA (j:=4) Z Z gL ZD zZ (vs:=B5) Z Z) ?_)))
 have iE:=iB.le dO
 have iF:=iC.le dO
 have iG:=iD.le dO
 refine bnK sS fun az m5 sT=>zH 0 Z Z Z Z (zG Z Z Try.call17 (zA Z zQ) Z) bo (fun hs=>wEW ap bA bD bG bK bL bN gj bI hs iE iF iG m5) (.inr Z) ?_
 rintro dr uA vr lg dP qZ ⟨bw,bB,ba,bb,bz,bC,rfl,rfl⟩
 let br:Res:=.row bz bC 35 2 (hH wAB az.Across)
 let bH:Res:=.row bw bB 3 1 (hH KL.encI az.Shots)
 let df:Res:=.row ba bb 3 1 (hH KL.encI az.Down)
 have rc:sW w U dr [bH,df,br,.blk av 44 au,.blk ak 44 aj,.blk ae 44 B8,B6,.blk ab 26 B5,B1,B0] lg:=qZ
 refine ZW (cs:=B4) Z Z Z Z Z Zl Z rc ?_
 intro uT aq re
 let dg:List Value:=[.slice bw az.Shots.length bB,.slice ba az.Down.length bb,.slice bz az.Across.length bC]
 refine ZB (j:=0) (vs:=dg) Z Z Z Z re Z Z Z Z zZ (zC Z) Z Z Z ?_
 intro eA ri
 have rj:sW w U dr [.blk aq 26 dg,bH,df,br,.blk av 44 au,.blk ak 44 aj,.blk ae 44 B8,B6,.blk ab 26 B5,B1,B0] eA:=ri
 refine eN (zF (sR gBi Z (oM Z gM ?_)))
 have m6:=o9.le jD
 have m7:=m6.le fm
 have m8:=m7.le dT
 have m9:=m8.le dK
 have n5:=m9.le dL
 have n7:=n5.le dM
 have n9:=n7.le dN
 have oa:=n9.le dO
 have oc:=oa.le dP
 have q:=bnd sT
 obtain ⟨⟨dV,fA⟩,od,je⟩:=q
 try dsimp only at je
 have rn:sW w U dr [B6,.blk aq 26 dg,bH,df,br,.blk av 44 au,.blk ak 44 aj,.blk ae 44 B8,.blk ab 26 B5,B1,B0] eA:=rj.pick [7,0,1,2,3,4,5,6,8,9,10] _ (by decide) rfl
 refine zH 1 Z Z Z Z (zG Z Z Try.call29 (zA Z (zA Z zQ)) Z) rn (fun hs=>wBF x54 aW fP gI 6 eA dr hs oc od) (.inl Z) ?_
 rintro eg uB vt li fh ro ⟨fK,gA,rfl,rfl,oe⟩
 have rp:sW w U eg [.blk aW 87 [.slice fK fA.bytes.length gA,jV fA.next,.int .u32 fA.state],.blk aq 26 dg,bH,df,br,.blk av 44 au,.blk ak 44 aj,.blk ae 44 B8,.blk ab 26 B5,B1,B0] li:=ro
 refine oM Z Z (eN (zj ?_))
 have q:=bnd je
 obtain ⟨⟨uk,ul,um,bT⟩,sE,jf⟩:=q
 try dsimp only at jf
 have q:=wBz sE
 obtain ⟨fd,sF⟩:=q
 replace fd:=zO fd
 refine CK.forN' (fun cO (cP,fB,fC,aZ) σ_ w_=>∃ (U_:PHeap) (da:Option Addr) (dw:Nat),σ_ 116=jV (↑cO:Int)/\σ_ 9=.pointer (some ⟨ab,0,none⟩)/\σ_ 11=.pointer (some ⟨aW,0,none⟩)/\σ_ 12=jV (↑ap.Shots.length:Int)/\σ_ 13=jV x71/\σ_ 14=jV x74/\σ_ 15=.pointer (some ⟨ae,0,none⟩)/\σ_ 24=.pointer (some ⟨aq,0,none⟩)/\σ_ 115=jV dV/\PHeap.Le eg U_/\sW w U U_ [.blk aW 87 [.slice da cP.length dw,jV fB,.int .u32 fC],bH,.row ba bb 3 1 (hH KL.encI aZ),br,.blk aq 26 [.slice bw az.Shots.length bB,.slice ba aZ.length bb,.slice bz az.Across.length bC],.blk av 44 au,.blk ak 44 aj,.blk ae 44 B8,.blk ab 26 B5,B0] w_/\Sl U_ 1 da dw cP.length (hH KL.encB8 cP)/\aZ.length=az.Down.length) sF ?_ ?_ ?_
 exact ⟨eg,fK,gA,rfl,gL,gM,lS,lT,lU,eR,rfl,rfl,(zk _),(rp.pick [0,2,3,4,1,5,6,7,8,10] _ (by decide) rfl),oe,rfl⟩
 rintro cO ⟨cP,fB,fC,aZ⟩ vK vN lj eZ ⟨jZ,da,dw,ir,l4,gN,gO,l5,l6,l7,eS,gP,t9,rq,og,oh⟩ jx
 try dsimp only at jx
 have gB:Hid ((↑cO:Int) < dV):=zO (wCJ eZ)
 replace eZ:=zO eZ
 have sL:Hid (w64 ((↑cO:Int) + 1)=(↑(cO + 1):Int)):=zO (by have h1:=fd.out;have h2:=gB.out;rw [wAX] <;> omega)
 refine sR fL1 Z (oR Z (zh Z ir gP) (eN (zF (cT Z gB (kN (zF (zj (sR gBm Z (oM Z gN (oM Z gO ?_))))))))))
 have q:=bnd jx
 obtain ⟨⟨cA,fD⟩,oi,jg⟩:=q
 try dsimp only at jg
 refine zH 1 Z Z Z Z (zG Z Z Try.call29 (zA Z (zA Z zQ)) Z) rq (fun hs=>wBF (⟨cP,fB,fC⟩:wAE) aW da dw (↑ap.Shots.length:Int) lj jZ hs og oi) (.inl Z) ?_
 rintro dt uC vu eC ua rt ⟨fM,gD,rfl,rfl,oj⟩
 let dh:Res:=.blk aW 87 [.slice fM fD.bytes.length gD,jV fD.next,.int .u32 fD.state]
 let d9:Res:=.blk aq 26 [.slice bw az.Shots.length bB,.slice ba aZ.length bb,.slice bz az.Across.length bC]
 have ru:sW w U dt [dh,bH,.row ba bb 3 1 (hH KL.encI aZ),br,d9,.blk av 44 au,.blk ak 44 aj,.blk ae 44 B8,.blk ab 26 B5,B0] eC:=rt
 refine OKS.ra rfl rfl rfl rfl rfl rfl (eN (ZK ZL [3,1,3,3,1,3,3,1,3,3,3,0] (wNG (.fx 11 .nil .stop)) (by kernel_rfl) ?_))
 have cD:=ru.drew
 generalize hw_W348:({ eC with drawn:=eC.drawn + 1 }:World)=uU at cD ⊢
 refine oR Z (zJ Z eS zE Z zY) (oL Z (cD.ldB (j:=4) Z Z Z zi (v:=.slice ba aZ.length bb) Z) (oM Z Z (oR Z (zJ Z eS zE Z zY) (oL Z (cD.ldB (j:=4) Z Z Z zi (v:=.slice ba aZ.length bb) Z) (oM Z Z (bnK jg fun _ bO sV=>?_))))))
 obtain ⟨uZ,dH⟩:=cD.rowSome (j:=2) rfl (by rw [wAG (f:=KL.encI) (sz:=1) (fun _=>rfl) aZ];have hz:=wAK bO;omega)
 refine oR Z (ZQ Z Z dH Z zB zD (wAx bO) (wAy bO)) ?_
 have sJ:=wBx (xs:=aZ) (wAK bO)
 refine zq rfl rfl rfl rfl (cD.ldR (j:=2) rfl dH rfl rfl zM (wAj (sz:=1) (fun _=>rfl) _ _ 0 _ sJ (by first | omega | rfl | simp) rfl)) rfl (zN rfl rfl rfl rfl (fun _=>zd rfl rfl rfl) (zN rfl rfl rfl rfl (fun _=>Runs.min rfl rfl rfl) (zN rfl rfl rfl rfl (fun _=>ZQ rfl rfl dH rfl zB zD (wAx bO) (wAy bO)) ?_)))
 have sK:=wBx (xs:=aZ) (wAK bO)
 refine OKS.stR (j:=2) (vs:=[jV (min 5 (w64 ((gd aZ cA.toNat) + 1)))]) (cs':=hH KL.encI (nB aZ cA.toNat (min 5 (w64 ((gd aZ cA.toNat) + 1))))) rfl rfl rfl rfl cD rfl dH rfl rfl rfl zD (by rw [wAG (f:=KL.encI) (sz:=1) (fun _=>rfl)];have hz:=wAK bO;show _ + 1 <= _;first | omega | (simp only [nJ];omega) | (simp only [nH,nD,nE];omega)) rfl (wCv (sz:=1) (fo:=0) (fun _=>rfl) _ _ _ _ sK (by first | omega | (simp only [nJ];omega) | (simp only [nH,nD,nE];omega)) (zC rfl) rfl) rfl ?_
 intro gm rx
 let eb:Res:=.row ba bb 3 1 (hH KL.encI (nB aZ cA.toNat (min 5 (w64 ((gd aZ cA.toNat) + 1)))))
 have ry:sW w U dt [dh,bH,eb,br,d9,.blk av 44 au,.blk ak 44 aj,.blk ae 44 B8,.blk ab 26 B5,B0] gm:=rx
 have rA:sW w U dt [dh,bH,eb,br,.blk aq 26 [.slice bw az.Shots.length bB,.slice ba ((nB aZ cA.toNat (min 5 (w64 ((gd aZ cA.toNat) + 1)))).length) bb,.slice bz az.Across.length bC],.blk av 44 au,.blk ak 44 aj,.blk ae 44 B8,.blk ab 26 B5,B0] gm:=by simpa only [B0,aj,au,br,bH,dh,d9,eb,B5,B8,nK] using ry
 refine zr (zm (zL (rR fL2 Z (oR Z (ZC (zd Z ir Z) (congrArg (jV) sL.out)) (oM Z Z (zr ?_))))))
 cases sV
 exact zL ⟨Z,⟨dt,fM,gD,Z,l4,gN,gO,l5,l6,l7,eS,gP,(t9.trans ua),rA,oj,(nK.trans oh)⟩⟩
 rintro vO du ⟨uO,fN,gE,mO,l8,l9,ma,mb,md,mf,dD,mg,fj,iX,om,vc⟩
 have lE:Hid (¬ ((↑((dV:Int) - 0).toNat:Int) < dV)):=zO (wBe)
 refine sR fL1 Z (oR Z (zh Z mO mg) (eN (zF (cF Z lE (ZV (zu (zu (ZM (zL (sR (.fl 0 (.fx 1 (fC2_5 (.nil)) .stop)) Z ?_))))))))))
 let aV:List Value:=[.slice bw az.Shots.length bB,.slice ba bT.length bb,.slice bz az.Across.length bC]
 refine oL Z (iX.ldBA (j:=4) Z Z dD ZD zZ (vs:=aV) Z Z) ?_
 have q:=iX.freezeR (k:=1) (n:=az.Shots.length) rfl (wAG (f:=KL.encI) (sz:=1) (fun _=>rfl) az.Shots) (by decide)
 obtain ⟨j0,dQ,tX,rB⟩:=q
 let bM:Res:=.blk aW 87 [.slice fN uk.length gE,jV ul,.int .u32 um]
 have rC:sW w U j0 [bM,.row ba bb 3 1 (hH KL.encI bT),br,.blk aq 26 aV,.blk av 44 au,.blk ak 44 aj,.blk ae 44 B8,.blk ab 26 B5,B0] du:=rB
 have q:=rC.freezeR (k:=1) (n:=bT.length) rfl (wAG (f:=KL.encI) (sz:=1) (fun _=>rfl) bT) (by decide)
 obtain ⟨j4,cS,tY,rD⟩:=q
 have rE:sW w U j4 [bM,br,.blk aq 26 aV,.blk av 44 au,.blk ak 44 aj,.blk ae 44 B8,.blk ab 26 B5,B0] du:=rD
 have q:=rE.freezeR (k:=1) (n:=az.Across.length) rfl (wAG (f:=wAB) (sz:=2) (fun _=>rfl) az.Across) (by decide)
 obtain ⟨ga,cG,ju,rF⟩:=q
 have rG:sW w U ga [bM,.blk aq 26 aV,.blk av 44 au,.blk ak 44 aj,.blk ae 44 B8,.blk ab 26 B5,B0] du:=rF
 have oq:=tX.le cS
 have iH:=oq.le cG
 have iI:=tY.le cG
 have q:=bnd jf
 obtain ⟨⟨uj,cB⟩,ou,jh⟩:=q
 try dsimp only at jh
 refine zH 0 Z Z Z Z (zG Z Z Try.call30 (zA Z zQ) Z) rG (fun hs=>wGn (⟨az.Shots,bT,az.Across⟩:wAC) bw bB ba bb bz bC du ga hs iH iI ju ou) (.inr Z) ?_
 rintro gb uD vv gp cu rH ⟨fO,gF,lF,rfl,rfl,ve⟩
 let dm:Res:=.row fO gF 23 1 lF
 have iY:sW w U gb [dm,bM,.blk aq 26 aV,.blk av 44 au,.blk ak 44 aj,.blk ae 44 B8,.blk ab 26 B5,B0] gp:=rH
 refine oM Z Z (oR Z (zo Z Z (v:=.slice fO uj.length gF) Z) (oR Z (zo Z Z (v:=jV cB) Z) (oA Z Z (eN (sR (.fl 0 (.fx 1 (wJa (.nil)) .stop)) Z (oL Z (iY.ldBA (j:=2) Z Z dD ZD zZ (vs:=aV) Z Z) ?_))))))
 have iJ:=iH.le cu
 have iK:=iI.le cu
 have iL:=ju.le cu
 have q:=bnd jh
 obtain ⟨⟨cY,jL⟩,ow,ji⟩:=q
 try dsimp only at ji
 refine zH 0 Z Z Z Z (zG Z Z Try.call31 (zA Z zQ) Z) iY (fun hs=>wHD (⟨az.Shots,bT,az.Across⟩:wAC) bw bB ba bb bz bC gp gb hs iJ iK iL ow) (.inr Z) ?_
 rintro j5 uE vw eD cw rI ⟨dZ,eK,rfl,rfl⟩
 have iZ:sW w U j5 [.row dZ eK 3 1 (hH KL.encI cY),dm,bM,.blk aq 26 aV,.blk av 44 au,.blk ak 44 aj,.blk ae 44 B8,.blk ab 26 B5,B0] eD:=rI
 refine oM Z Z (oR Z (zo Z Z (v:=.slice dZ cY.length eK) Z) (oR Z (zo Z Z (v:=jV jL) Z) (oA Z Z (oA Z Z (eN (sR (.fl 0 (.fl 1 (.fx 2 (wRR (.nil)) .stop))) Z (oL Z (iZ.ldBA (j:=3) Z Z dD ZD zZ (vs:=aV) Z Z) (oM Z Z ?_))))))))
 have q:=iZ.freezeR (k:=0) (n:=cY.length) rfl (wAG (f:=KL.encI) (sz:=1) (fun _=>rfl) cY) (by decide)
 obtain ⟨gc,cx,tZ,rK⟩:=q
 have rL:sW w U gc [dm,bM,.blk aq 26 aV,.blk av 44 au,.blk ak 44 aj,.blk ae 44 B8,.blk ab 26 B5,B0] eD:=rK
 have ox:=iJ.le cw
 have iM:=ox.le cx
 have oy:=iK.le cw
 have iN:=oy.le cx
 have oz:=iL.le cw
 have iO:=oz.le cx
 have q:=bnd ji
 obtain ⟨⟨jM,jN⟩,oB,jj⟩:=q
 try dsimp only at jj
 refine zH 0 Z Z Z Z (zG Z Z Try.call32 (zA Z (zA Z zQ)) Z) rL (fun hs=>wEK (⟨az.Shots,bT,az.Across⟩:wAC) bw bB ba bb bz bC cY dZ eK eD gc hs iM iN iO tZ oB) (.inr Z) ?_
 rintro bJ uF vx lm cy rM ⟨rfl,rfl⟩
 have cp:sW w U bJ [dm,bM,.blk aq 26 aV,.blk av 44 au,.blk ak 44 aj,.blk ae 44 B8,.blk ab 26 B5,B0] lm:=rM
 refine oM Z Z (oR Z (zo Z Z (v:=jV jM) Z) (oR Z (zo Z Z (v:=jV jN) Z) (oA Z Z (oA Z Z (eN (zF (bnK jj fun lA jy sX=>CK.cut (fun σ_ w_=>∃ (U_:PHeap),σ_ 9=.pointer (some ⟨ab,0,none⟩)/\σ_ 11=.pointer (some ⟨aW,0,none⟩)/\σ_ 12=jV (↑ap.Shots.length:Int)/\σ_ 13=jV x71/\σ_ 14=jV x74/\σ_ 15=.pointer (some ⟨ae,0,none⟩)/\σ_ 16=jV cB/\σ_ 24=.pointer (some ⟨aq,0,none⟩)/\σ_ 177=.bool lA/\PHeap.Le bJ U_/\sW w U U_ [bM,.blk aq 26 aV,.blk av 44 au,.blk ak 44 aj,.blk ae 44 B8,.blk ab 26 B5,B0] w_) ?_ ?_)))))))
 refine Zo fun bv bp=>?_
 have b9:bv 9=.pointer (some ⟨ab,0,none⟩):=(bp 9).trans l8
 have cb:bv 11=.pointer (some ⟨aW,0,none⟩):=(bp 11).trans l9
 have cf:bv 12=jV (↑ap.Shots.length:Int):=(bp 12).trans ma
 have cg:bv 13=jV x71:=(bp 13).trans mb
 have ci:bv 14=jV x74:=(bp 14).trans md
 have cj:bv 15=.pointer (some ⟨ae,0,none⟩):=(bp 15).trans mf
 have bl:bv 16=jV cB:=(bp 16).trans rfl
 have eT:bv 19=jV jL:=(bp 19).trans rfl
 have mh:bv 21=jV jN:=(bp 21).trans rfl
 have cn:bv 24=.pointer (some ⟨aq,0,none⟩):=(bp 24).trans dD
 have mi:bv 27=jV jM:=(bp 27).trans rfl
 clear bp
 refine rR fL29 Z (oM Z bl (oR Z (zy Z Z Z) (oM Z Z ?_)))
 by_cases am:cB=0
 have jk:=jy;rw [if_pos am] at jk;replace am:=zO am
 refine zI Z Z Z (zP Z Z (zf (fun h=>h am.out)) Z) (zI Z Z Z (zP Z Z (zf (fun h=>h am.out)) Z) (oR Z (zX Z (zf (fun h=>h am.out)) Z) (oM Z Z (zV Z Z Z (zK Z Z Z) Z bl (zN Z Z Z (zK Z Z Z) (fun _=>ZP Z Z Z) (zV Z Z Z (zK Z Z Z) Z eT (zN Z Z Z (zK Z Z Z) (fun _=>ZP Z Z Z) (zN Z Z Z (zK Z Z Z) (fun _=>Runs.neB Z Z Z Try.runUnderlying4) (oR Z (zX Z Z Z) (oM Z Z (ifc jk ?_ ?_)))))))))))
 intro bs sY
 refine zV Z Z Z (zK Z Z (nC bs.out)) Z bl (zN Z Z Z (zK Z Z (nC bs.out)) (fun _=>zy Z Z Z) (zV Z Z Z (zK Z Z (nC bs.out)) Z Z (zI Z Z Z (zP Z Z (zf (fun h=>h am.out)) Z) (zI Z Z Z (zP Z Z (zf (fun h=>h am.out)) Z) (zI Z Z Z (zP Z Z (zf (fun h=>h am.out)) Z) (zI Z Z Z (wAF Z Z Z) (zI Z Z Z (wAF Z Z Z) (zI Z Z Z (zP Z Z (zf (fun h=>h am.out)) Z) (zI Z Z Z (zP Z Z (zf (fun h=>h am.out)) Z) (zI Z Z Z (wAF Z Z Z) (zI Z Z Z (wAF Z Z Z) (zI Z Z Z (zP Z Z (zf (fun h=>h am.out)) Z) (zN Z Z Z (zK Z Z (nC bs.out)) (fun _=>zX Z (zf (fun h=>h am.out)) Z) (oR Z (zX Z (nC bs.out) Z) (zr ?_)))))))))))))))
 cases sY
 exact zL ⟨rfl,⟨bJ,b9,cb,cf,cg,ci,cj,bl,cn,rfl,(zk _),(cp.pick [1,2,3,4,5,6,7] _ (by decide) rfl)⟩⟩
 intro bs sZ
 refine zI Z Z Z (zP Z Z (nF (bs.out)) Z) (zI Z Z Z (zP Z Z (nF (bs.out)) Z) (zI Z Z Z (zP Z Z (nF (bs.out)) Z) (zI Z Z Z (wAF Z Z Z) (zI Z Z Z (wAF Z Z Z) (zI Z Z Z (wAF Z Z Z) (zI Z Z Z (wAF Z Z Z) (zI Z Z Z (wAF Z Z Z) (zI Z Z Z (wAF Z Z Z) (zI Z Z Z (wAF Z Z Z) (zI Z Z Z (wAF Z Z Z) (zI Z Z Z (wAF Z Z Z) (zI Z Z Z (wAF Z Z Z) (zI Z Z Z (zP Z Z (nF (bs.out)) Z) (oR Z (zS Z (nF (bs.out)) Z) (zr ?_)))))))))))))))
 cases sZ
 exact zL ⟨rfl,⟨bJ,b9,cb,cf,cg,ci,cj,bl,cn,rfl,(zk _),(cp.pick [1,2,3,4,5,6,7] _ (by decide) rfl)⟩⟩
 have jl:=jy;rw [if_neg am] at jl;replace am:=zO am
 refine zV Z Z Z (wT Z am) Z bl (rU Z (wT Z am) (zy Z Z Z) (oR Z (zS Z (ZX am.out) Z) (oM Z Z (ifc jl ?_ ?_))))
 intro bj s5
 refine zV Z Z Z (zK Z Z (zf (fun h=>h bj.out))) Z bl (zN Z Z Z (zK Z Z (zf (fun h=>h bj.out))) (fun _=>ZP Z Z Z) (zV Z Z Z (zK Z Z (zf (fun h=>h bj.out))) Z eT (zN Z Z Z (zK Z Z (zf (fun h=>h bj.out))) (fun _=>ZP Z Z Z) (zN Z Z Z (zK Z Z (zf (fun h=>h bj.out))) (fun _=>Runs.neB Z Z Z Try.runUnderlying4) (oR Z (zX Z (zf (fun h=>h bj.out)) Z) (oM Z Z (ifc s5 ?_ ?_)))))))
 intro bf s7
 refine zV Z Z Z (zK Z Z (nC bf.out)) Z bl (zN Z Z Z (zK Z Z (nC bf.out)) (fun _=>zy Z Z Z) (zV Z Z Z (zK Z Z (nC bf.out)) Z Z (zV Z Z Z (wT Z am) Z eT (rU Z (wT Z am) (zy Z Z Z) (zV Z Z Z (wT Z am) Z Z (ifc s7 ?_ ?_))))))
 intro bY s8
 refine zV Z Z Z (zK Z Z (zf (fun h=>h bY.out))) Z mh (zN Z Z Z (zK Z Z (zf (fun h=>h bY.out))) (fun _=>zy Z Z Z) (rU Z (wT Z am) (zX Z (zf (fun h=>h bY.out)) Z) (zV Z Z Z (wT Z am) Z Z (ifc s8 ?_ ?_))))
 intro bZ s9
 refine zV Z Z Z (zK Z Z (zf (fun h=>h bZ.out))) Z mi (zN Z Z Z (zK Z Z (zf (fun h=>h bZ.out))) (fun _=>zh Z Z Z) (rU Z (wT Z am) (zX Z (zf (fun h=>h bZ.out)) Z) (zN Z Z Z (zK Z Z (nC bf.out)) (fun _=>zS Z (ZX am.out) Z) (oR Z (zX Z (nC bf.out) Z) (zr ?_)))))
 have q:=nA s9
 obtain rfl:=q
 exact zL ⟨rfl,⟨bJ,b9,cb,cf,cg,ci,cj,bl,cn,rfl,(zk _),(cp.pick [1,2,3,4,5,6,7] _ (by decide) rfl)⟩⟩
 intro bZ tc
 refine oT Z bZ (oT Z bZ (rU Z (wT Z am) (zS Z (ZX bZ.out) Z) (zN Z Z Z (zK Z Z (nC bf.out)) (fun _=>zS Z (ZX am.out) Z) (oR Z (zX Z (nC bf.out) Z) (zr ?_)))))
 cases tc
 exact zL ⟨rfl,⟨bJ,b9,cb,cf,cg,ci,cj,bl,cn,rfl,(zk _),(cp.pick [1,2,3,4,5,6,7] _ (by decide) rfl)⟩⟩
 intro bY td
 refine oT Z bY (oT Z bY (rU Z (wT Z am) (zS Z (ZX bY.out) Z) (zV Z Z Z (wT Z am) Z Z (oN Z (oN Z (rU Z (wT Z am) (zS Z Z Z) (zN Z Z Z (zK Z Z (nC bf.out)) (fun _=>zS Z (ZX am.out) Z) (oR Z (zX Z (nC bf.out) Z) (zr ?_)))))))))
 cases td
 exact zL ⟨rfl,⟨bJ,b9,cb,cf,cg,ci,cj,bl,cn,rfl,(zk _),(cp.pick [1,2,3,4,5,6,7] _ (by decide) rfl)⟩⟩
 intro bf te
 refine zI Z Z Z (zP Z Z (nF (bf.out)) Z) (zI Z Z Z (zP Z Z (nF (bf.out)) Z) (zI Z Z Z (zP Z Z (nF (bf.out)) Z) (zI Z Z Z (wAF Z Z Z) (zI Z Z Z (wAF Z Z Z) (zI Z Z Z (wAF Z Z Z) (zI Z Z Z (wAF Z Z Z) (zI Z Z Z (wAF Z Z Z) (zI Z Z Z (wAF Z Z Z) (zI Z Z Z (wAF Z Z Z) (zI Z Z Z (wAF Z Z Z) (zI Z Z Z (wAF Z Z Z) (zI Z Z Z (wAF Z Z Z) (zI Z Z Z (zP Z Z (nF (bf.out)) Z) (oR Z (zS Z (nF (bf.out)) Z) (zr ?_)))))))))))))))
 cases te
 exact zL ⟨rfl,⟨bJ,b9,cb,cf,cg,ci,cj,bl,cn,rfl,(zk _),(cp.pick [1,2,3,4,5,6,7] _ (by decide) rfl)⟩⟩
 intro bj tf
 refine oT Z bj (oT Z bj (oT Z bj (oT Z bj (oT Z bj (oR Z (zS Z (ZX bj.out) Z) (oM Z Z (oN Z (oN Z (oN Z (zI Z Z Z (wAF Z Z Z) (zI Z Z Z (wAF Z Z Z) (zI Z Z Z (wAF Z Z Z) (zI Z Z Z (wAF Z Z Z) (zI Z Z Z (wAF Z Z Z) (zI Z Z Z (wAF Z Z Z) (zI Z Z Z (wAF Z Z Z) (zI Z Z Z (wAF Z Z Z) (zI Z Z Z (wAF Z Z Z) (zI Z Z Z (wAF Z Z Z) (oN Z (oR Z (zS Z Z Z) (zr ?_))))))))))))))))))))))
 cases tf
 exact zL ⟨rfl,⟨bJ,b9,cb,cf,cg,ci,cj,bl,cn,rfl,(zk _),(cp.pick [1,2,3,4,5,6,7] _ (by decide) rfl)⟩⟩
 rintro vP uW ⟨ei,mn,mo,mp,mq,mr,ms,mu,mw,gQ,cz,i0⟩
 refine ifc sX ?_ ?_
 intro eL tg
 refine zt (gQ.trans (congrArg nG eL.out)) (sR fL1 Z (oA Z Z (eN (zR (zW ?_)))))
 have hE:=nA tg;first | subst r | cases hE
 exact ⟨rfl,_,(zx rfl),ei,_,(i0.pick [] _ (by decide) rfl),rfl,rfl⟩
 intro eL cr
 refine zg (gQ.trans (congrArg nG (nI.2 eL.out))) (kN (zF (sR fL1 Z (oM Z Z (eN (zj ?_))))))
 have q:=wDe cr
 obtain ⟨vk,cq⟩:=q
 have q:=wDd cq
 obtain ⟨ff,sG⟩:=q
 replace ff:=zO ff
 refine CK.forN (fun ct (dJ,jO,jP) σ_ w_=>∃ (U_:PHeap) (db:Option Addr) (dx:Nat),σ_ 178=jV (↑ct:Int)/\σ_ 9=.pointer (some ⟨ab,0,none⟩)/\σ_ 11=.pointer (some ⟨aW,0,none⟩)/\σ_ 12=jV (↑ap.Shots.length:Int)/\σ_ 13=jV x71/\σ_ 14=jV x74/\σ_ 15=.pointer (some ⟨ae,0,none⟩)/\σ_ 16=jV cB/\σ_ 24=.pointer (some ⟨aq,0,none⟩)/\PHeap.Le ei U_/\sW w U U_ [.blk aW 87 [.slice db dJ.length dx,jV jO,.int .u32 jP],.blk aq 26 aV,.blk av 44 au,.blk ak 44 aj,.blk ae 44 B8,.blk ab 26 B5,B0] w_/\Sl U_ 1 db dx dJ.length (hH KL.encB8 dJ)) sG ?_ ?_ ?_
 have oK:=om.le dQ
 have oO:=oK.le cS
 have oP:=oO.le cG
 have oU:=oP.le cu
 have oW:=oU.le cw
 have oX:=oW.le cx
 have oY:=oX.le cy
 have o0:=oY.le cz
 exact ⟨ei,fN,gE,Z,mn,mo,mp,mq,mr,ms,mu,mw,(zk _),i0,o0⟩
 rintro ct ⟨dJ,jO,jP⟩ vL vQ uX fb ⟨ge,db,dx,it,my,mz,gR,mA,mB,mC,mD,mE,bQ,rQ,o5⟩ jz cN
 try dsimp only at jz
 have gG:Hid ((↑ct:Int) < 6):=zO (wCJ fb)
 replace fb:=zO fb
 have i8:Hid (w64 ((↑ct:Int) + 1)=(↑(ct + 1):Int)):=zO (by have h1:=ff.out;have h2:=gG.out;rw [wAX] <;> omega)
 refine sR fL1 Z (oR Z (zh Z it Z) (eN (zF (cT Z gG (kN (zF (zj (sR fL1 Z (oA Z Z (eN (zF (sR fL2 Z (oM Z gR (oM Z Z (eN (zj ?_))))))))))))))))
 have q:=bnd jz
 obtain ⟨⟨uo,uq,ur,dW⟩,sH,jm⟩:=q
 try dsimp only at jm
 have q:=wBz sH
 obtain ⟨fg,sI⟩:=q
 replace fg:=zO fg
 refine CK.forN' (fun bE (cQ,fE,fG,cR) σ_ w_=>∃ (U_:PHeap) (de:Option Addr) (dy:Nat) (cH:Option Addr) (cM:Nat),σ_ 181=jV (↑bE:Int)/\σ_ 9=.pointer (some ⟨ab,0,none⟩)/\σ_ 11=.pointer (some ⟨aW,0,none⟩)/\σ_ 12=jV (↑ap.Shots.length:Int)/\σ_ 13=jV x71/\σ_ 14=jV x74/\σ_ 15=.pointer (some ⟨ae,0,none⟩)/\σ_ 16=jV cB/\σ_ 24=.pointer (some ⟨aq,0,none⟩)/\σ_ 28=.slice cH cR.length cM/\σ_ 178=jV (↑ct:Int)/\σ_ 180=jV (↑ap.Shots.length:Int)/\PHeap.Le ge U_/\sW w U U_ [.blk aW 87 [.slice de cQ.length dy,jV fE,.int .u32 fG],.blk aq 26 aV,.blk av 44 au,.blk ak 44 aj,.blk ae 44 B8,.blk ab 26 B5,B0,.row cH cM 3 1 (hH KL.encI cR)] w_/\Sl U_ 1 de dy cQ.length (hH KL.encB8 cQ)) sI ?_ ?_ ?_
 have rT:=rQ.nilrow 3 1
 exact ⟨ge,db,dx,none,0,rfl,my,mz,gR,mA,mB,mC,mD,mE,rfl,it,rfl,(zk _),(rT.pick [1,2,3,4,5,6,7,0] _ (by decide) rfl),o5⟩
 rintro bE ⟨cQ,fE,fG,cR⟩ vM vR lp fc ⟨j7,de,dy,cH,cM,dF,gS,eU,gT,gU,gW,gX,gZ,g7,g8,g9,eV,jB,rV,o6⟩ jA
 try dsimp only at jA
 have gH:Hid ((↑bE:Int) < (↑ap.Shots.length:Int)):=zO (wCJ fc)
 replace fc:=zO fc
 have i9:Hid (w64 ((↑bE:Int) + 1)=(↑(bE + 1):Int)):=zO (by have h1:=fg.out;have h2:=gH.out;rw [wAX] <;> omega)
 refine sR fL1 Z (oR Z (zh Z dF eV) (eN (zF (cT Z gH (kN (zF (zj (sR fL2 Z (oM Z dF (oA Z Z (eN (sR gAx Z (oM Z eU ?_)))))))))))))
 have q:=bnd jA
 obtain ⟨⟨vG,fH⟩,o7,jo⟩:=q
 try dsimp only at jo
 refine zH 1 Z Z Z Z (zG Z Z Try.call33 (zA Z (zA Z zQ)) Z) rV (fun hs=>wBG (⟨cQ,fE,fG⟩:wAE) aW de dy 2 lp j7 hs o6 o7) (.inl Z) ?_
 rintro cK uI vA lq jC rW ⟨d7,eM,rfl,rfl,iP⟩
 let ec:Res:=.blk aW 87 [.slice d7 fH.bytes.length eM,jV fH.next,.int .u32 fH.state]
 let fS:Res:=.row cH cM 3 1 (hH KL.encI cR)
 have i3:sW w U cK [ec,.blk aq 26 aV,.blk av 44 au,.blk ak 44 aj,.blk ae 44 B8,.blk ab 26 B5,B0,fS] lq:=rW
 refine eN (ifc jo ?_ ?_)
 intro eO tj
 refine zt (congrArg nG eO.out) (rR (.fl 0 (.fl 1 (.fx 2 gBb .stop))) Z (oM Z g8 (oM Z Z (Zh (pv:=[(0,jV (↑bE:Int))]) (zs:=[jV 0]) (cs:=[jV (↑bE:Int)]) Z Z Z Z Z (wAb Z wAz) zB zD Zi Z Z Z Z Z i3 ?_))))
 intro ls lB rX
 let fT:Res:=.row (some ⟨lB,0,none⟩) 1 3 1 (hH KL.encI [(↑bE:Int)])
 have i4:sW w U cK [fT,ec,.blk aq 26 aV,.blk av 44 au,.blk ak 44 aj,.blk ae 44 B8,.blk ab 26 B5,B0,fS] ls:=rX
 refine bnK tj fun jQ pa tm=>OKS.append (j:=8) (enc:=KL.encI) (xs:=cR) (ys:=[(↑bE:Int)]) (zs:=jQ) rfl rfl rfl rfl rfl Try.underlying23 wJT rfl rfl rfl rfl rfl rfl i4 rfl rfl rfl (i4.srcR (j:=0) rfl (by decide) (wAG (f:=KL.encI) (sz:=1) (fun _=>rfl) [(↑bE:Int)])) (fun _=>rfl) (fun _=>rfl) pa rfl ?_
 intro fQ gJ lu rY
 have rZ:sW w U cK [fT,ec,.blk aq 26 aV,.blk av 44 au,.blk ak 44 aj,.blk ae 44 B8,.blk ab 26 B5,B0,.row fQ gJ 3 1 (hH KL.encI jQ)] lu:=rY
 refine oA Z Z (zr (zm (zL (rR fL2 Z (oR Z (ZC (zd Z dF Z) (congrArg (jV) i9.out)) (oM Z Z (zr ?_)))))))
 cases tm
 exact zL ⟨rfl,⟨cK,d7,eM,fQ,gJ,rfl,gS,eU,gT,gU,gW,gX,gZ,g7,rfl,g9,eV,(jB.trans jC),(rZ.pick [1,2,3,4,5,6,7,8] _ (by decide) rfl),iP⟩⟩
 intro eO tn
 refine zg (congrArg nG (nI.2 eO.out)) (ZJ (zm (zL (rR fL2 Z (oR Z (ZC (zd Z dF Z) (congrArg (jV) i9.out)) (oM Z Z (zr ?_)))))))
 cases tn
 exact zL ⟨Z,⟨cK,d7,eM,cH,cM,Z,gS,eU,gT,gU,gW,gX,gZ,g7,g8,g9,eV,(jB.trans jC),i3,iP⟩⟩
 rintro vS gv ⟨uP,d8,eP,fR,gK,mP,ib,mF,mG,ic,ie,mH,mI,ig,ii,mJ,mK,bR,i6,iQ⟩
 have lG:Hid (¬ ((↑(((↑ap.Shots.length:Int):Int) - 0).toNat:Int) < (↑ap.Shots.length:Int))):=zO (wBe)
 refine sR fL1 Z (oR Z (zh Z mP mK) (eN (zF (cF Z lG (ZV (zu (zu (ZM (zL (sR (wIA (.fx 4 (wPz gBl) .stop)) Z (oL Z (i6.ldBA (j:=5) Z Z ib ZD zZ (vs:=B5) Z Z) (oM Z ic (oM Z ie (oM Z ii ?_))))))))))))))
 have q:=i6.freezeR (k:=7) (n:=dW.length) rfl (wAG (f:=KL.encI) (sz:=1) (fun _=>rfl) dW) (by decide)
 obtain ⟨gf,bF,jv,r6⟩:=q
 let cI:Res:=.blk aW 87 [.slice d8 uo.length eP,jV uq,.int .u32 ur]
 have r8:sW w U gf [cI,.blk aq 26 aV,.blk av 44 au,.blk ak 44 aj,.blk ae 44 B8,.blk ab 26 B5,B0] gv:=r6
 have pe:=iE.le dP
 have pf:=pe.le fh
 have pg:=pf.le fj
 have ph:=pg.le dQ
 have pi:=ph.le cS
 have pj:=pi.le cG
 have pk:=pj.le cu
 have pm:=pk.le cw
 have pn:=pm.le cx
 have po:=pn.le cy
 have pp:=po.le cz
 have pq:=pp.le bQ
 have pt:=pq.le bR
 have pu:=pt.le bF
 have py:=iF.le dP
 have pz:=py.le fh
 have pC:=pz.le fj
 have pD:=pC.le dQ
 have pE:=pD.le cS
 have pF:=pE.le cG
 have pG:=pF.le cu
 have pH:=pG.le cw
 have pI:=pH.le cx
 have pJ:=pI.le cy
 have pK:=pJ.le cz
 have pL:=pK.le bQ
 have pM:=pL.le bR
 have pN:=pM.le bF
 have pO:=iG.le dP
 have pP:=pO.le fh
 have pQ:=pP.le fj
 have pR:=pQ.le dQ
 have pS:=pR.le cS
 have pT:=pS.le cG
 have pU:=pT.le cu
 have pV:=pU.le cw
 have pW:=pV.le cx
 have pX:=pW.le cy
 have pY:=pX.le cz
 have pZ:=pY.le bQ
 have p6:=pZ.le bR
 have p7:=p6.le bF
 have q:=bnd jm
 obtain ⟨⟨cZ,jR⟩,p8,jp⟩:=q
 try dsimp only at jp
 refine zH 0 Z Z Z Z (zG Z Z Try.call23 (zA Z (zA Z (zA Z (zA Z zQ)))) Z) r8 (fun hs=>wDV ap bA bD bG bK bL bN x71 x74 dW fR gK gv gf hs pu pN p7 jv p8) (.inr Z) ?_
 rintro ej uJ vB lv bS r9 ⟨rfl,rfl⟩
 have sc:sW w U ej [cI,.blk aq 26 aV,.blk av 44 au,.blk ak 44 aj,.blk ae 44 B8,.blk ab 26 B5,B0] lv:=r9
 refine oM Z Z (oR Z (zo Z Z (v:=.agg #[jV cZ.Lo,jV cZ.Hi]) Z) (oR Z (zo Z Z (v:=jV jR) Z) (ZW (cs:=B7) Z Z Z Z Z zz Z sc ?_)))
 intro uY dv sd
 let cJ:List Value:=[jV cZ.Lo,jV cZ.Hi]
 refine ZB (j:=0) (vs:=cJ) Z Z Z Z sd Z Z Z Z ze (zC Z) Z Z Z ?_
 intro gx se
 have i7:sW w U ej [.blk dv 44 cJ,cI,.blk aq 26 aV,.blk av 44 au,.blk ak 44 aj,.blk ae 44 B8,.blk ab 26 B5,B0] gx:=se
 refine oA Z Z (eN (sR (.fl 0 (.fl 1 (.fx 2 (wRR (.nil)) .stop))) Z (oL Z (i7.ldBA (j:=2) Z Z ig ZD zZ (vs:=aV) Z Z) (oM Z ii ?_))))
 have p9:=iM.le cy
 have qa:=p9.le cz
 have qb:=qa.le bQ
 have qc:=qb.le bR
 have qd:=qc.le bF
 have qe:=qd.le bS
 have qf:=iN.le cy
 have qg:=qf.le cz
 have qh:=qg.le bQ
 have qi:=qh.le bR
 have qj:=qi.le bF
 have qk:=qj.le bS
 have ql:=iO.le cy
 have qm:=ql.le cz
 have qn:=qm.le bQ
 have qo:=qn.le bR
 have qp:=qo.le bF
 have qq:=qp.le bS
 have qr:=jv.le bS
 have q:=bnd jp
 obtain ⟨⟨jS,jU⟩,qt,jq⟩:=q
 try dsimp only at jq
 refine zH 0 Z Z Z Z (zG Z Z Try.call32 (zA Z (zA Z zQ)) Z) i7 (fun hs=>wEK (⟨az.Shots,bT,az.Across⟩:wAC) bw bB ba bb bz bC dW fR gK gx ej hs qe qk qq qr qt) (.inr Z) ?_
 rintro en uK vC gy dR sj ⟨rfl,rfl⟩
 have dI:sW w U en [.blk dv 44 cJ,cI,.blk aq 26 aV,.blk av 44 au,.blk ak 44 aj,.blk ae 44 B8,.blk ab 26 B5,B0] gy:=sj
 refine oM Z Z (oR Z (zo Z Z (v:=jV jS) Z) (oR Z (zo Z Z (v:=jV jU) Z) (oA Z Z (oA Z Z (eN (zF (Zo fun bn bg=>?_)))))))
 have ij:bn 9=.pointer (some ⟨ab,0,none⟩):=(bg 9).trans ib
 have ik:bn 11=.pointer (some ⟨aW,0,none⟩):=(bg 11).trans mF
 have il:bn 12=jV (↑ap.Shots.length:Int):=(bg 12).trans mG
 have im:bn 13=jV x71:=(bg 13).trans ic
 have io:bn 14=jV x74:=(bg 14).trans ie
 have eW:bn 15=.pointer (some ⟨ae,0,none⟩):=(bg 15).trans mH
 have eX:bn 16=jV cB:=(bg 16).trans mI
 have ip:bn 24=.pointer (some ⟨aq,0,none⟩):=(bg 24).trans ig
 have mL:bn 30=.pointer (some ⟨dv,0,none⟩):=(bg 30).trans rfl
 have mM:bn 31=jV jR:=(bg 31).trans rfl
 have mN:bn 32=jV jS:=(bg 32).trans rfl
 have dE:bn 33=jV jU:=(bg 33).trans rfl
 have iq:bn 178=jV (↑ct:Int):=(bg 178).trans mJ
 clear bg
 refine rR (wGw (.fx 5 (wRW (.nil)) .stop)) Z (oM Z mM (oR Z (zy Z Z Z) (oM Z Z (ifc jq ?_ ?_))))
 intro bt tr
 refine zq Z Z Z (zK Z Z (zf (fun h=>h bt.out))) (dI.ldBA (j:=0) Z Z mL ZF ze (vs:=cJ) Z Z) Z (zq Z Z Z (zK Z Z (zf (fun h=>h bt.out))) (dI.ldBA (j:=5) Z Z eW ZF ze (vs:=B8) Z Z) Z (bnK tr fun vH qu tu=>zH 0 Z Z Z (zK Z Z (zf (fun h=>h bt.out))) (zG Z Z Try.call34 (zA Z (zA Z zQ)) Z) dI (fun hs=>wEs cZ x91 gy en hs qu) (.inr Z) ?_))
 rintro bU uL vD lw dS sk ⟨rfl,rfl⟩
 have cE:sW w U bU [.blk dv 44 cJ,cI,.blk aq 26 aV,.blk av 44 au,.blk ak 44 aj,.blk ae 44 B8,.blk ab 26 B5,B0] lw:=sk
 refine zN Z Z Z (zK Z Z (zf (fun h=>h bt.out))) (fun _=>ZE Z Z) (oR Z (zX Z (zf (fun h=>h bt.out)) Z) (oM Z Z (ifc tu ?_ ?_)))
 intro bk tv
 refine zV Z Z Z (zK Z Z (nC bk.out)) Z dE (zN Z Z Z (zK Z Z (nC bk.out)) (fun _=>zy Z Z Z) (zV Z Z Z (zK Z Z (nC bk.out)) Z Z (ifc tv ?_ ?_)))
 intro aX tw
 refine zI Z Z Z (zP Z Z (zf (fun h=>h aX.out)) Z) (zI Z Z Z (zP Z Z (zf (fun h=>h aX.out)) Z) (zN Z Z Z (zK Z Z (nC bk.out)) (fun _=>zX Z (zf (fun h=>h aX.out)) Z) (oR Z (zX Z (nC bk.out) Z) (oM Z Z (zV Z Z Z (zK Z Z Z) Z dE (zN Z Z Z (zK Z Z Z) (fun _=>ZP Z Z Z) (zV Z Z Z (zK Z Z Z) Z Z (zV Z Z Z (wT Z aX) Z mN (rU Z (wT Z aX) (zh Z Z Z) (zV Z Z Z (wT Z aX) Z Z (ifc tw ?_ ?_)))))))))))
 intro b5 tz
 refine oT Z b5 (oT Z b5 (rU Z (wT Z aX) (zS Z (ZX b5.out) Z) (zN Z Z Z (zK Z Z Z) (fun _=>zS Z (ZX aX.out) Z) (oR Z (zX Z Z Z) (eN (zt Z (sR fL1 Z (oA Z Z (eN (zR (zw (zW ?_))))))))))))
 have q:=wBh tz
 obtain ⟨ud,tA,lJ⟩:=q
 have q:=wDK cr cq (cN ud lJ)
 obtain rfl:=q
 refine zW (zw (zW ?_))
 have hE:=nA tA;first | subst r | cases hE
 exact ⟨rfl,_,(zx rfl),bU,_,(cE.pick [] _ (by decide) rfl),rfl,rfl⟩
 intro b5 tB
 refine zV Z Z Z (wF Z b5) Z eX (rU Z (wF Z b5) (ZP Z Z Z) (rU Z (wT Z aX) (zX Z (zf b5.out) Z) (zN Z Z Z (zK Z Z Z) (fun _=>zS Z (ZX aX.out) Z) (oR Z (zX Z Z Z) (eN (ifc tB ?_ ?_))))))
 intro eQ tC
 refine cT Z eQ (sR fL1 Z (oA Z Z (eN (zR (zw (zW ?_))))))
 have q:=wBh tC
 obtain ⟨ue,tD,lK⟩:=q
 have q:=wDK cr cq (cN ue lK)
 obtain rfl:=q
 refine zW (zw (zW ?_))
 have hE:=nA tD;first | subst r | cases hE
 exact ⟨rfl,_,(zx rfl),bU,_,(cE.pick [] _ (by decide) rfl),rfl,rfl⟩
 intro eQ tE
 refine cF Z eQ (ZJ (zm (zL (rR fL2 Z (oR Z (ZC (zd Z iq Z) (congrArg (jV) i8.out)) (oM Z Z (zr ?_)))))))
 have q:=nA tE
 obtain rfl:=q
 have qv:=iQ.le bF
 have qw:=qv.le bS
 have qx:=qw.le dR
 have qy:=qx.le dS
 exact zL ⟨rfl,_,rfl,⟨bU,d8,eP,rfl,ij,ik,il,im,io,eW,eX,ip,(((((bQ.trans bR).trans bF).trans bS).trans dR).trans dS),(cE.pick [1,2,3,4,5,6,7] _ (by decide) rfl),qy⟩⟩
 intro aX tF
 refine zV Z Z Z (wT Z aX) Z dE (rU Z (wT Z aX) (zy Z Z Z) (zN Z Z Z (zK Z Z (nC bk.out)) (fun _=>zS Z (ZX aX.out) Z) (oR Z (zX Z (nC bk.out) Z) (oM Z Z (ifc tF ?_ ?_)))))
 intro bu tG
 refine zV Z Z Z (zK Z Z (zf (fun h=>h bu.out))) Z dE (zN Z Z Z (zK Z Z (zf (fun h=>h bu.out))) (fun _=>ZP Z Z Z) (zV Z Z Z (zK Z Z (zf (fun h=>h bu.out))) Z Z (oF Z aX (oF Z aX (oF Z aX (zI Z Z Z (wAF Z Z Z) (zI Z Z Z (wAF Z Z Z) (oF Z aX (zN Z Z Z (zK Z Z (zf (fun h=>h bu.out))) (fun _=>zX Z (zf aX.out) Z) (oR Z (zX Z (zf (fun h=>h bu.out)) Z) (eN (zg Z (ZJ (zm (zL (rR fL2 Z (oR Z (ZC (zd Z iq Z) (congrArg (jV) i8.out)) (oM Z Z (zr ?_)))))))))))))))))))
 have q:=nA tG
 obtain rfl:=q
 have qA:=iQ.le bF
 have qB:=qA.le bS
 have qC:=qB.le dR
 have qD:=qC.le dS
 exact zL ⟨rfl,_,rfl,⟨bU,d8,eP,rfl,ij,ik,il,im,io,eW,eX,ip,(((((bQ.trans bR).trans bF).trans bS).trans dR).trans dS),(cE.pick [1,2,3,4,5,6,7] _ (by decide) rfl),qD⟩⟩
 intro bu tH
 refine oT Z bu (oT Z bu (oT Z bu (zI Z Z Z (wAF Z Z Z) (zI Z Z Z (wAF Z Z Z) (zI Z Z Z (wAF Z Z Z) (zI Z Z Z (wAF Z Z Z) (zI Z Z Z (wAF Z Z Z) (zI Z Z Z (wAF Z Z Z) (oT Z bu (oR Z (zS Z (ZX bu.out) Z) (eN (zt Z (sR fL1 Z (oA Z Z (eN (zR (zw (zW ?_))))))))))))))))))
 have q:=wBh tH
 obtain ⟨uf,tI,lL⟩:=q
 have q:=wDK cr cq (cN uf lL)
 obtain rfl:=q
 refine zW (zw (zW ?_))
 have hE:=nA tI;first | subst r | cases hE
 exact ⟨rfl,_,(zx rfl),bU,_,(cE.pick [] _ (by decide) rfl),rfl,rfl⟩
 intro bk tJ
 refine zI Z Z Z (zP Z Z (nF (bk.out)) Z) (zI Z Z Z (zP Z Z (nF (bk.out)) Z) (zI Z Z Z (zP Z Z (nF (bk.out)) Z) (zI Z Z Z (wAF Z Z Z) (zI Z Z Z (wAF Z Z Z) (zI Z Z Z (zP Z Z (nF (bk.out)) Z) (oR Z (zS Z (nF (bk.out)) Z) (oM Z Z (oN Z (oN Z (oN Z (zI Z Z Z (wAF Z Z Z) (zI Z Z Z (wAF Z Z Z) (zI Z Z Z (wAF Z Z Z) (zI Z Z Z (wAF Z Z Z) (zI Z Z Z (wAF Z Z Z) (zI Z Z Z (wAF Z Z Z) (oN Z (oR Z (zS Z Z Z) (eN (zt Z (sR fL1 Z (oA Z Z (eN (zR (zw (zW ?_))))))))))))))))))))))))))
 have q:=wBh tJ
 obtain ⟨ug,tK,lM⟩:=q
 have q:=wDK cr cq (cN ug lM)
 obtain rfl:=q
 refine zW (zw (zW ?_))
 have hE:=nA tK;first | subst r | cases hE
 exact ⟨rfl,_,(zx rfl),bU,_,(cE.pick [] _ (by decide) rfl),rfl,rfl⟩
 intro bt tL
 refine oT Z bt (oT Z bt (Za Z Z Z (zP Z Z (ZX bt.out) Z) (oT Z bt (oR Z (zS Z (ZX bt.out) Z) (oM Z Z (oN Z (oN Z (oN Z (zI Z Z Z (wAF Z Z Z) (zI Z Z Z (wAF Z Z Z) (oN Z (oR Z (zS Z Z Z) (oM Z Z (oN Z (oN Z (oN Z (zI Z Z Z (wAF Z Z Z) (zI Z Z Z (wAF Z Z Z) (zI Z Z Z (wAF Z Z Z) (zI Z Z Z (wAF Z Z Z) (zI Z Z Z (wAF Z Z Z) (zI Z Z Z (wAF Z Z Z) (oN Z (oR Z (zS Z Z Z) (eN (zt Z (sR fL1 Z (oA Z Z (eN (zR (zw (zW ?_))))))))))))))))))))))))))))))))
 have q:=wBh tL
 obtain ⟨uh,tM,lN⟩:=q
 have q:=wDK cr cq (cN uh lN)
 obtain rfl:=q
 refine zW (zw (zW ?_))
 have hE:=nA tM;first | subst r | cases hE
 exact ⟨rfl,_,(zx rfl),en,_,(dI.pick [] _ (by decide) rfl),rfl,rfl⟩
 rintro ⟨ut,uu,uv⟩ vT lx ⟨j9,jX,lH,mQ,u0,u4,u5,u6,u7,u9,va,vb,vi,su,vh⟩ sD
 have jr:=wFA cr cq sD
 try dsimp only at jr
 have lI:Hid (¬ ((↑((6:Int) - 0).toNat:Int) < 6)):=zO (wBe)
 refine sR fL1 Z (oR Z (zh Z mQ Z) (eN (zF (cF Z lI (ZV (zu (zu (ZM (zL (sR gBa Z (bnK jr fun vJ qF tO=>zH 0 Z Z Z Z (zG Z Z Try.call15 zQ Z) su (fun hs=>wEX lx j9 hs qF) (.inr Z) ?_)))))))))))
 rintro gh uM vE ly vj sv ⟨rfl,rfl⟩
 have sA:sW w U gh [.blk aW 87 [.slice jX ut.length lH,jV uu,.int .u32 uv],.blk aq 26 aV,.blk av 44 au,.blk ak 44 aj,.blk ae 44 B8,.blk ab 26 B5,B0] ly:=sv
 refine oA Z Z (eN (zR ?_))
 have hE:=nA tO;first | subst r | cases hE
 exact ⟨rfl,_,(zx rfl),gh,_,(sA.pick [] _ (by decide) rfl),rfl,rfl⟩
 intro eJ tP
 refine cT Z eJ (sR fL1 Z (oA Z Z (eN (zR (zW ?_)))))
 have hE:=nA tP;first | subst r | cases hE
 exact ⟨rfl,_,(zx rfl),bI,_,(bo.pick [] _ (by decide) rfl),rfl,rfl⟩
 intro bi tQ
 refine oT Z bi (oT Z bi (oT Z bi (oT Z bi (oT Z bi (oR Z (zS Z (ZX bi.out) Z) (eN (zt Z (sR fL1 Z (oA Z Z (eN (zR (zW ?_))))))))))))
 have hE:=nA tQ;first | subst r | cases hE
 exact ⟨rfl,_,(zx rfl),bI,_,(bo.pick [] _ (by decide) rfl),rfl,rfl⟩
 intro bh tR
 refine oT Z bh (oT Z bh (oT Z bh (oT Z bh (oT Z bh (oR Z (zS Z (ZX bh.out) Z) (oM Z Z (oN Z (oN Z (oN Z (oN Z (oN Z (oR Z (zS Z Z Z) (eN (zt Z (sR fL1 Z (oA Z Z (eN (zR (zW ?_)))))))))))))))))))
 have hE:=nA tR;first | subst r | cases hE
 exact ⟨rfl,_,(zx rfl),bI,_,(bo.pick [] _ (by decide) rfl),rfl,rfl⟩
 intro bX tS
 refine oT Z bX (oT Z bX (oR Z (zS Z (ZX bX.out) Z) (oM Z Z (oN Z (oN Z (oN Z (oN Z (oN Z (oR Z (zS Z Z Z) (oM Z Z (oN Z (oN Z (oN Z (oN Z (oN Z (oR Z (zS Z Z Z) (eN (zt Z (sR fL1 Z (oA Z Z (eN (zR (zW ?_)))))))))))))))))))))))
 have hE:=nA tS;first | subst r | cases hE
 exact ⟨rfl,_,(zx rfl),bI,_,(bo.pick [] _ (by decide) rfl),rfl,rfl⟩
 intro bW tT
 refine oT Z bW (oT Z bW (oR Z (zS Z (ZX bW.out) Z) (oM Z Z (oN Z (oN Z (oR Z (zS Z Z Z) (oM Z Z (oN Z (oN Z (oN Z (oN Z (oN Z (oR Z (zS Z Z Z) (oM Z Z (oN Z (oN Z (oN Z (oN Z (oN Z (oR Z (zS Z Z Z) (eN (zt Z (sR fL1 Z (oA Z Z (eN (zR (zW ?_)))))))))))))))))))))))))))
 have hE:=nA tT;first | subst r | cases hE
 exact ⟨rfl,_,(zx rfl),bI,_,(bo.pick [] _ (by decide) rfl),rfl,rfl⟩
 intro bV tU
 refine oT Z bV (oT Z bV (oR Z (zS Z (ZX bV.out) Z) (oM Z Z (oN Z (oN Z (oR Z (zS Z Z Z) (oM Z Z (oN Z (oN Z (oR Z (zS Z Z Z) (oM Z Z (oN Z (oN Z (oN Z (oN Z (oN Z (oR Z (zS Z Z Z) (oM Z Z (oN Z (oN Z (oN Z (oN Z (oN Z (oR Z (zS Z Z Z) (eN (zt Z (sR fL1 Z (oA Z Z (eN (zR (zW ?_)))))))))))))))))))))))))))))))
 have hE:=nA tU;first | subst r | cases hE
 exact ⟨rfl,_,(zx rfl),bI,_,(bo.pick [] _ (by decide) rfl),rfl,rfl⟩
end Go.Proofs.Ytfcmijinklojbaa
