import Derived.Test.YtfcmijinklojbaaGreatS6
import Derived.Test.YtfcmijinklojbaaGreatS5
set_option linter.all false
open List renaming flatMap->nA,set->nD,getElem_cons_succ->nE,getElem_cons_zero->nG,getElem_toArray->nH,forall_mem_cons->nI,length_set->nL
open Option.some renaming inj->nB
open Int renaming toNat_natCast->nJ
open Go.Value renaming bool->nK
open Bool renaming eq_false_iff->nM
namespace Go.Proofs.YtfcmijinklojbaaGreat
open Go.KL
def gAv:Sch:=.fx 8 (.fl 9 .nil) .stop
def gAw:Sch:=.fl 10 (.fx 11 .nil .stop)
def gAx:Sch:=.fl 1 (.fx 2 (.fl 3 .nil) .stop)
def gAy:Sch:=.fl 0 (.fl 1 (.fx 2 .nil .stop))
def gAz:Sch:=.fx 0 (.fx 1 (.fl 2 .nil) .stop) .stop
def gBa:Sch:=.fx 3 (.fx 4 (.fl 5 .nil) .stop) .stop
def gBb:Sch:=.fx 3 (.fl 4 (.fx 5 .nil .stop)) .stop
def gBc:Sch:=.fx 9 gAw .stop
def gBd:Sch:=.fx 7 gAv .stop
def gBe:Sch:=.fx 8 (.fl 9 (.fl 10 .nil)) .stop
def gBf:Sch:=.fx 7 gBc .stop
def gBg:Sch:=.fl 8 gBf
def gBh:Sch:=.fl 8 (.fx 6 gBf .stop)
def gBi:Sch:=.fx 5 gBg .stop
def gBj:Sch:=.fx 3 gBg .stop
def gBk:Sch:=.fx 2 gBj .stop
def gBl:Sch:=.fx 3 gBh (.fx 6 gBj .stop)
def gBm:Sch:=.fx 3 gBi (.fx 5 gBj .stop)
def gBn:Sch:=.fl 0 (.fl 1 (.fl 4 (.fx 2 (.fx 3 (.fx 5 gBh (.fx 6 gBi .stop)) (.fx 5 gBl (.fx 6 gBm .stop))) (.fx 5 (.fx 2 gBl (.fx 6 gBk .stop)) (.fx 6 (.fx 2 gBm (.fx 5 gBk .stop)) .stop)))))
set_option maxHeartbeats 4000000
theorem wCS (p0:List Int) (ae:Option Addr) (aq:Nat) (w:World) (U:PHeap) (hS:St0 w U []) (ap:Sl U 1 ae aq p0.length (nA KL.encI p0)) {r:(List Int)} (hm:wAt p0=some r):Gv Tryz.prog 56 [.slice ae p0.length aq] w (wCe w [] U (fun U_ L_ v=>∃ (A0:Option Addr) (c0:Nat),v=.slice A0 r.length c0/\L_=[.row A0 c0 3 1 (nA KL.encI r)])):=by
 unfold wAt at hm
 refine Gv.of Tryz.func56 Z Tryz.ntmps56 Tryz.results56 Z (sR fL1 Z (oA Z Z (eN (zM (sR fL2 Z (oM Z Z (oR Z (Runs.eqNil Z Z Z zA) (eN ?_))))))))
 by_cases c1:ae.isNone=true
 replace c1:=zL c1
 have bi:p0=[]:=List.eq_nil_of_length_eq_zero (Sl.nilA (Option.isNone_iff_eq_none.1 c1.out ▸ ap))
 have bh:(some [])=some r:=by simpa [bi,app] using hm
 refine zx (congrArg nK c1.out) (sR fL1 Z (oA Z Z (eN (zX (zH ?_)))))
 have be:=hS.nilrow 3 1
 cases bh
 exact ⟨Z,_,(ZA Z),U,_,be,none,0,Z,Z⟩
 replace c1:=zL c1
 refine ZB (congrArg nK (nM.2 c1.out)) (kN (sR (.fx 0 gAx .stop) Z (OKS.buildSlice0 1 Z Z Z Z Z zA zC hS ?_)))
 intro W6 b7 bf
 have am:sW w U U [.row (some ⟨b7,0,none⟩) 0 3 1 (nA KL.encI ([]:List Int))] W6:=bf
 refine oM Z Z (bnK hm fun au aZ bg=>ZX (j:=0) (enc:=KL.encI) (xs:=([]:List Int)) (ys:=p0) (zs:=au) Z Z Z Z Z ZE wDl Z Z Z Z Z Z am Z Z Z (am.srcS ap) (fun _=>Z) (fun _=>Z) aZ Z ?_)
 intro ai ak av ba
 have bb:sW w U U [.row ai ak 3 1 (nA KL.encI au)] av:=ba
 refine oA Z Z (eN (zX ?_))
 have hE:=nB bg;first | subst r | cases hE
 exact ⟨Z,_,(ZA Z),U,_,bb,ai,ak,Z,Z⟩
theorem wEA (p0:wAF) (aY:Nat) (ak:Option Addr) (ap:Nat) (am:Option Addr) (aq:Nat) (ae:Option Addr) (ah:Nat) (ab:Nat) (aZ:Array MapEntry) (ba:Nat) (p1:Int) (p2:Int) (p3:Int) (w:World) (U:PHeap) (hS:St0 w U [.blk aY 118 ([.slice ak p0.Bout.Shots.length ap,.slice am p0.Bout.Down.length aq,.slice ae p0.Bout.Across.length ah,.map (some ab)] ++ ((nA KL.encI p0.hits.l) ++ ((nA KL.encI p0.used.l) ++ (nA KL.encT p0.met.l)))),.obj ab (.map aZ ba)]) (cM:Sl U 1 ak ap p0.Bout.Shots.length (nA KL.encI p0.Bout.Shots)) (cN:Sl U 1 am aq p0.Bout.Down.length (nA KL.encI p0.Bout.Down)) (cO:Sl U 2 ae ah p0.Bout.Across.length (nA wAB p0.Bout.Across)) (dr:MpR aZ wDI wDZ p0.may) {r:wAF} (hm:wAw p0 p1 p2 p3=some r):Gv Tryz.prog 113 [.pointer (some ⟨aY,0,none⟩),jV p1,jV p2,jV p3] w (wCe w [.blk aY 118 ([.slice ak p0.Bout.Shots.length ap,.slice am p0.Bout.Down.length aq,.slice ae p0.Bout.Across.length ah,.map (some ab)] ++ ((nA KL.encI p0.hits.l) ++ ((nA KL.encI p0.used.l) ++ (nA KL.encT p0.met.l)))),.obj ab (.map aZ ba)] U (fun U_ L_ v=>∃ (b0:Nat) (A0p00:Option Addr) (c0p00:Nat) (A0p01:Option Addr) (c0p01:Nat) (A0p02:Option Addr) (c0p02:Nat) (m0p1:Nat) (es0p1:Array MapEntry) (ck0p1:Nat),v=.pointer (some ⟨b0,0,none⟩)/\L_=[.blk b0 118 ([.slice A0p00 r.Bout.Shots.length c0p00,.slice A0p01 r.Bout.Down.length c0p01,.slice A0p02 r.Bout.Across.length c0p02,.map (some m0p1)] ++ ((nA KL.encI r.hits.l) ++ ((nA KL.encI r.used.l) ++ (nA KL.encT r.met.l)))),.obj m0p1 (.map es0p1 ck0p1),.blk aY 118 ([.slice ak p0.Bout.Shots.length ap,.slice am p0.Bout.Down.length aq,.slice ae p0.Bout.Across.length ah,.map (some ab)] ++ ((nA KL.encI p0.hits.l) ++ ((nA KL.encI p0.used.l) ++ (nA KL.encT p0.met.l)))),.obj ab (.map aZ ba)]/\Sl U_ 1 A0p00 c0p00 r.Bout.Shots.length (nA KL.encI r.Bout.Shots)/\Sl U_ 1 A0p01 c0p01 r.Bout.Down.length (nA KL.encI r.Bout.Down)/\Sl U_ 2 A0p02 c0p02 r.Bout.Across.length (nA wAB r.Bout.Across)/\MpR es0p1 wDI wDZ r.may)):=by
 unfold wAw at hm
 refine Gv.of Tryz.func113 rfl Tryz.ntmps113 Tryz.results113 rfl (sR fL1 rfl (OKS.ra rfl rfl rfl rfl rfl rfl (eN (zM (ZQ ZJ [3,3,3,3,1,2,3,3,3,3,1,2,3,3] (wID (wQm (.fx 5 (.fx 11 (.fl 12 (.fl 13 .nil)) .stop) .stop))) (by kernel_rfl) ?_)))))
 have bo:=hS.drew
 generalize hw_W4:({ w with drawn:=w.drawn + 1 }:World)=W4 at bo ⊢
 refine oM Z Z (oR Z (zn Z Z) (oR Z (zG Z Z zW Z ze) (oR Z (zG Z Z zF Z zR) (oL Z (bo.ldB (j:=0) Z Z Z zZ (v:=.slice ak p0.Bout.Shots.length ap) Z) (oM Z Z (oR Z (zn Z Z) (oR Z (zG Z Z zW Z ze) (oR Z (zG Z Z zF Z zR) (oL Z (bo.ldB (j:=0) Z Z Z zZ (v:=.slice am p0.Bout.Down.length aq) Z) (bnK hm fun x5 h6 cY=>zP 0 Z Z Z Z (zN Z Z Tryz.call56 (zD Z zV) Z) bo (fun hs=>wCS p0.Bout.Shots ak ap W4 U hs cM h6) (.inr Z) ?_))))))))))
 rintro U8 L9 du bJ bQ cB ⟨bf,bh,rfl,rfl⟩
 let B0:Res:=.row bf bh 3 1 (nA KL.encI x5)
 have cC:SW w [.blk aY 118 ([.slice ak p0.Bout.Shots.length ap,.slice am p0.Bout.Down.length aq,.slice ae p0.Bout.Across.length ah,.map (some ab)] ++ ((nA KL.encI p0.hits.l) ++ ((nA KL.encI p0.used.l) ++ (nA KL.encT p0.met.l)))),.obj ab (.map aZ ba)] U U8 [B0,.blk aY 118 ([.slice ak p0.Bout.Shots.length ap,.slice am p0.Bout.Down.length aq,.slice ae p0.Bout.Across.length ah,.map (some ab)] ++ ((nA KL.encI p0.hits.l) ++ ((nA KL.encI p0.used.l) ++ (nA KL.encT p0.met.l)))),.obj ab (.map aZ ba)] bJ:=cB
 have cd:=cN.le bQ
 refine bnK cY fun au cg cU=>zP 0 Z Z Z Z (zN Z Z Tryz.call56 (zD Z zV) Z) cC (fun hs=>wCS p0.Bout.Down am aq bJ U8 hs cd cg) (.inr Z) ?_
 rintro bt dg dv bT de cD ⟨bg,bi,rfl,rfl⟩
 let B1:Res:=.row bg bi 3 1 (nA KL.encI au)
 have bA:SW w [.blk aY 118 ([.slice ak p0.Bout.Shots.length ap,.slice am p0.Bout.Down.length aq,.slice ae p0.Bout.Across.length ah,.map (some ab)] ++ ((nA KL.encI p0.hits.l) ++ ((nA KL.encI p0.used.l) ++ (nA KL.encT p0.met.l)))),.obj ab (.map aZ ba)] U bt [B1,B0,.blk aY 118 ([.slice ak p0.Bout.Shots.length ap,.slice am p0.Bout.Down.length aq,.slice ae p0.Bout.Across.length ah,.map (some ab)] ++ ((nA KL.encI p0.hits.l) ++ ((nA KL.encI p0.used.l) ++ (nA KL.encT p0.met.l)))),.obj ab (.map aZ ba)] bT:=cD
 refine oA Z Z (oA Z Z (eN (sR (wHV (.fx 7 .nil .stop)) Z (oM Z Z (oM Z Z (bnK cU fun _ bb cV=>?_))))))
 obtain ⟨dp,bm⟩:=bA.rowSome (j:=1) rfl (by rw [wAD (f:=KL.encI) (sz:=1) (fun _=>rfl) x5];have hz:=wAN bb;omega)
 refine oR Z (ZV Z Z bm Z zA zC (wAy bb) (wAz bb)) ?_
 have cP:=wBp (xs:=x5) (wAN bb)
 refine zi rfl rfl rfl rfl (bA.ldR (j:=1) rfl bm rfl rfl zI (wAr (sz:=1) (fun _=>rfl) _ _ 0 _ cP (by first | omega | rfl | simp) rfl)) rfl (zz rfl rfl rfl rfl rfl rfl (zS rfl rfl rfl rfl (fun _=>Zp rfl rfl rfl) (zS rfl rfl rfl rfl (fun _=>ZV rfl rfl bm rfl zA zC (wAy bb) (wAz bb)) ?_)))
 have cQ:=wBp (xs:=x5) (wAN bb)
 refine OKS.stR (j:=1) (vs:=[jV (w64 ((gd x5 p1.toNat) - p3))]) (cs':=nA KL.encI (nD x5 p1.toNat (w64 ((gd x5 p1.toNat) - p3)))) rfl rfl rfl rfl bA rfl bm rfl rfl rfl zC (by rw [wAD (f:=KL.encI) (sz:=1) (fun _=>rfl)];have hz:=wAN bb;show _ + 1 <= _;first | omega | (simp only [nJ];omega) | (simp only [nH,nE,nG];omega)) rfl (wCg (sz:=1) (fo:=0) (fun _=>rfl) _ _ _ _ cQ (by first | omega | (simp only [nJ];omega) | (simp only [nH,nE,nG];omega)) (zB rfl) rfl) rfl ?_
 intro bU cE
 let B2:Res:=.row bf bh 3 1 (nA KL.encI (nD x5 p1.toNat (w64 ((gd x5 p1.toNat) - p3))))
 have bB:SW w [.blk aY 118 ([.slice ak p0.Bout.Shots.length ap,.slice am p0.Bout.Down.length aq,.slice ae p0.Bout.Across.length ah,.map (some ab)] ++ ((nA KL.encI p0.hits.l) ++ ((nA KL.encI p0.used.l) ++ (nA KL.encT p0.met.l)))),.obj ab (.map aZ ba)] U bt [B1,B2,.blk aY 118 ([.slice ak p0.Bout.Shots.length ap,.slice am p0.Bout.Down.length aq,.slice ae p0.Bout.Across.length ah,.map (some ab)] ++ ((nA KL.encI p0.hits.l) ++ ((nA KL.encI p0.used.l) ++ (nA KL.encT p0.met.l)))),.obj ab (.map aZ ba)] bU:=cE
 refine eN (sR (wHV (.fx 7 .nil .stop)) Z (oM Z Z (oM Z Z (bnK cV fun _ be cW=>?_))))
 obtain ⟨dq,bn⟩:=bB.rowSome (j:=0) rfl (by rw [wAD (f:=KL.encI) (sz:=1) (fun _=>rfl) au];have hz:=wAN be;omega)
 refine oR Z (ZV Z Z bn Z zA zC (wAy be) (wAz be)) ?_
 have cR:=wBp (xs:=au) (wAN be)
 refine zi rfl rfl rfl rfl (bB.ldR (j:=0) rfl bn rfl rfl zI (wAr (sz:=1) (fun _=>rfl) _ _ 0 _ cR (by first | omega | rfl | simp) rfl)) rfl (zz rfl rfl rfl rfl rfl rfl (zS rfl rfl rfl rfl (fun _=>Zp rfl rfl rfl) (zS rfl rfl rfl rfl (fun _=>ZV rfl rfl bn rfl zA zC (wAy be) (wAz be)) ?_)))
 have cS:=wBp (xs:=au) (wAN be)
 refine OKS.stR (j:=0) (vs:=[jV (w64 ((gd au p2.toNat) - p3))]) (cs':=nA KL.encI (nD au p2.toNat (w64 ((gd au p2.toNat) - p3)))) rfl rfl rfl rfl bB rfl bn rfl rfl rfl zC (by rw [wAD (f:=KL.encI) (sz:=1) (fun _=>rfl)];have hz:=wAN be;show _ + 1 <= _;first | omega | (simp only [nJ];omega) | (simp only [nH,nE,nG];omega)) rfl (wCg (sz:=1) (fo:=0) (fun _=>rfl) _ _ _ _ cS (by first | omega | (simp only [nJ];omega) | (simp only [nH,nE,nG];omega)) (zB rfl) rfl) rfl ?_
 intro bk cG
 let B3:Res:=.row bg bi 3 1 (nA KL.encI (nD au p2.toNat (w64 ((gd au p2.toNat) - p3))))
 have bO:SW w [.blk aY 118 ([.slice ak p0.Bout.Shots.length ap,.slice am p0.Bout.Down.length aq,.slice ae p0.Bout.Across.length ah,.map (some ab)] ++ ((nA KL.encI p0.hits.l) ++ ((nA KL.encI p0.used.l) ++ (nA KL.encT p0.met.l)))),.obj ab (.map aZ ba)] U bt [B3,B2,.blk aY 118 ([.slice ak p0.Bout.Shots.length ap,.slice am p0.Bout.Down.length aq,.slice ae p0.Bout.Across.length ah,.map (some ab)] ++ ((nA KL.encI p0.hits.l) ++ ((nA KL.encI p0.used.l) ++ (nA KL.encT p0.met.l)))),.obj ab (.map aZ ba)] bk:=cG
 refine eN (sR (wPW gAv) rfl (zz rfl rfl rfl rfl rfl (Eq.trans (b:=(.slice bf x5.length bh:Value)) (c:=(.slice bf ((nD x5 p1.toNat (w64 ((gd x5 p1.toNat) - p3))).length) bh:Value)) rfl (by simp only [nL])) (zz rfl rfl rfl rfl rfl (Eq.trans (b:=(.slice bg au.length bi:Value)) (c:=(.slice bg ((nD au p2.toNat (w64 ((gd au p2.toNat) - p3))).length) bi:Value)) rfl (by simp only [nL])) (zz rfl rfl rfl rfl rfl rfl (zS rfl rfl rfl rfl (fun _=>zn rfl rfl) (zS rfl rfl rfl rfl (fun _=>zG rfl rfl zW rfl ze) (zS rfl rfl rfl rfl (fun _=>zG rfl rfl zF rfl ZC) (zi rfl rfl rfl rfl (bO.ldB (j:=2) rfl rfl rfl ZY (v:=.slice ae p0.Bout.Across.length ah) rfl) rfl (zS rfl rfl rfl rfl (fun _=>Zg (pv:=[(0,.slice bf ((nD x5 p1.toNat (w64 ((gd x5 p1.toNat) - p3))).length) bh),(1,.slice bg ((nD au p2.toNat (w64 ((gd au p2.toNat) - p3))).length) bi),(2,.slice ae p0.Bout.Across.length ah)]) (z:=[.slice none 0 0,.slice none 0 0,.slice none 0 0]) (cs:=[.slice bf ((nD x5 p1.toNat (w64 ((gd x5 p1.toNat) - p3))).length) bh,.slice bg ((nD au p2.toNat (w64 ((gd au p2.toNat) - p3))).length) bi,.slice ae p0.Bout.Across.length ah]) rfl (wAK rfl (wAK rfl (wAK rfl wAa))) Zi wJT rfl rfl) ?_)))))))))
 have q:=bO.freezeR (k:=1) (n:=(nD x5 p1.toNat (w64 ((gd x5 p1.toNat) - p3))).length) rfl (wAD (f:=KL.encI) (sz:=1) (fun _=>rfl) (nD x5 p1.toNat (w64 ((gd x5 p1.toNat) - p3)))) (by decide)
 obtain ⟨bS,df,da,cH⟩:=q
 have cI:SW w [.blk aY 118 ([.slice ak p0.Bout.Shots.length ap,.slice am p0.Bout.Down.length aq,.slice ae p0.Bout.Across.length ah,.map (some ab)] ++ ((nA KL.encI p0.hits.l) ++ ((nA KL.encI p0.used.l) ++ (nA KL.encT p0.met.l)))),.obj ab (.map aZ ba)] U bS [B3,.blk aY 118 ([.slice ak p0.Bout.Shots.length ap,.slice am p0.Bout.Down.length aq,.slice ae p0.Bout.Across.length ah,.map (some ab)] ++ ((nA KL.encI p0.hits.l) ++ ((nA KL.encI p0.used.l) ++ (nA KL.encT p0.met.l)))),.obj ab (.map aZ ba)] bk:=cH
 have q:=cI.freezeR (k:=0) (n:=(nD au p2.toNat (w64 ((gd au p2.toNat) - p3))).length) rfl (wAD (f:=KL.encI) (sz:=1) (fun _=>rfl) (nD au p2.toNat (w64 ((gd au p2.toNat) - p3)))) (by decide)
 obtain ⟨bH,bR,db,cJ⟩:=q
 have cK:SW w [.blk aY 118 ([.slice ak p0.Bout.Shots.length ap,.slice am p0.Bout.Down.length aq,.slice ae p0.Bout.Across.length ah,.map (some ab)] ++ ((nA KL.encI p0.hits.l) ++ ((nA KL.encI p0.used.l) ++ (nA KL.encT p0.met.l)))),.obj ab (.map aZ ba)] U bH [.blk aY 118 ([.slice ak p0.Bout.Shots.length ap,.slice am p0.Bout.Down.length aq,.slice ae p0.Bout.Across.length ah,.map (some ab)] ++ ((nA KL.encI p0.hits.l) ++ ((nA KL.encI p0.used.l) ++ (nA KL.encT p0.met.l)))),.obj ab (.map aZ ba)] bk:=cJ
 have cj:=da.le bR
 have cn:=cO.le bQ
 have cp:=cn.le de
 have cq:=cp.le df
 have cr:=cq.le bR
 refine bnK cW fun x65 ct cX=>zP 0 Z Z Z Z (zN Z Z Tryz.call77 (zD Z zV) Z) cK (fun hs=>wDx (⟨(nD x5 p1.toNat (w64 ((gd x5 p1.toNat) - p3))),(nD au p2.toNat (w64 ((gd au p2.toNat) - p3))),p0.Bout.Across⟩:wAC) bf bh bg bi ae ah bk bH hs cj db cr ct) (.inr Z) ?_
 rintro bu dh dw bW dt cL ⟨bl,bq,bv,br,bw,bs,bz,bj,bZ,bY,rfl,rfl,cu,cw,cx,cy⟩
 have bP:SW w [.blk aY 118 ([.slice ak p0.Bout.Shots.length ap,.slice am p0.Bout.Down.length aq,.slice ae p0.Bout.Across.length ah,.map (some ab)] ++ ((nA KL.encI p0.hits.l) ++ ((nA KL.encI p0.used.l) ++ (nA KL.encT p0.met.l)))),.obj ab (.map aZ ba)] U bu [.blk bl 118 ([.slice bq x65.Bout.Shots.length bv,.slice br x65.Bout.Down.length bw,.slice bs x65.Bout.Across.length bz,.map (some bj)] ++ ((nA KL.encI x65.hits.l) ++ ((nA KL.encI x65.used.l) ++ (nA KL.encT x65.met.l)))),.obj bj (.map bZ bY),.blk aY 118 ([.slice ak p0.Bout.Shots.length ap,.slice am p0.Bout.Down.length aq,.slice ae p0.Bout.Across.length ah,.map (some ab)] ++ ((nA KL.encI p0.hits.l) ++ ((nA KL.encI p0.used.l) ++ (nA KL.encT p0.met.l)))),.obj ab (.map aZ ba)] bW:=cL
 refine oA Z Z (eN (zM (CK.fresh fun bC bp=>?_)))
 have b5:bC 1=jV p1:=(bp 1).trans rfl
 have b9:bC 2=jV p2:=(bp 2).trans rfl
 have bN:bC 11=.pointer (some ⟨bl,0,none⟩):=(bp 11).trans rfl
 clear bp
 refine rR (wHV (.fx 7 .nil .stop)) Z (oM Z bN (oR Z (zn Z Z) (oR Z (zG Z Z zW Z Tryz.sizeOf111) (oL Z (bP.ldB (j:=0) Z Z Z Tryz.isAgg111 (v:=.map (some bj)) Z) (oM Z b5 (oM Z b9 (oR Z (Zg (pv:=[(0,jV p1),(1,jV p2)]) (z:=[jV 0,jV 0]) (cs:=[jV p1,jV p2]) Z (wAK Z (wAK Z wAa)) ZS wDa Z Z) (OKS.mapDel (j:=1) (mk:=wDI) (mv:=wDZ) (a:=(⟨p1,p2⟩:wAA)) Z Z Z Z bP Z Z Z (wDe Tryz.runUnderlying111) wHR cy false Z ?_))))))))
 intro bM bL bX cZ cz
 have cA:SW w [.blk aY 118 ([.slice ak p0.Bout.Shots.length ap,.slice am p0.Bout.Down.length aq,.slice ae p0.Bout.Across.length ah,.map (some ab)] ++ ((nA KL.encI p0.hits.l) ++ ((nA KL.encI p0.used.l) ++ (nA KL.encT p0.met.l)))),.obj ab (.map aZ ba)] U bu [.blk bl 118 ([.slice bq x65.Bout.Shots.length bv,.slice br x65.Bout.Down.length bw,.slice bs x65.Bout.Across.length bz,.map (some bj)] ++ ((nA KL.encI x65.hits.l) ++ ((nA KL.encI x65.used.l) ++ (nA KL.encT x65.met.l)))),.obj bj (.map bM bL),.blk aY 118 ([.slice ak p0.Bout.Shots.length ap,.slice am p0.Bout.Down.length aq,.slice ae p0.Bout.Across.length ah,.map (some ab)] ++ ((nA KL.encI p0.hits.l) ++ ((nA KL.encI p0.used.l) ++ (nA KL.encT p0.met.l)))),.obj ab (.map aZ ba)] bX:=cz
 refine eN (sR fL2 Z (oM Z bN (oA Z Z (eN (zX ?_)))))
 cases cX
 exact ⟨Z,_,(ZA Z),bu,_,cA,bl,bq,bv,br,bw,bs,bz,bj,bM,bL,Z,Z,cu,cw,cx,cZ⟩
theorem wEr (p0:wAF) (ae:Nat) (ah:Option Addr) (ak:Nat) (ai:Option Addr) (am:Nat) (aj:Option Addr) (ap:Nat) (ab:Nat) (aq:Array MapEntry) (au:Nat) (p1:Int) (p2:Int) (w:World) (U:PHeap) (hS:St0 w U [.blk ae 118 ([.slice ah p0.Bout.Shots.length ak,.slice ai p0.Bout.Down.length am,.slice aj p0.Bout.Across.length ap,.map (some ab)] ++ ((nA KL.encI p0.hits.l) ++ ((nA KL.encI p0.used.l) ++ (nA KL.encT p0.met.l)))),.obj ab (.map aq au)]) (bY:Sl U 1 ah ak p0.Bout.Shots.length (nA KL.encI p0.Bout.Shots)) (bZ:Sl U 1 ai am p0.Bout.Down.length (nA KL.encI p0.Bout.Down)) (b5:Sl U 2 aj ap p0.Bout.Across.length (nA wAB p0.Bout.Across)) (b9:MpR aq wDI wDZ p0.may) {r:wBE} (hm:wBc p0 p1 p2=some r):Gv Tryz.prog 76 [.pointer (some ⟨ae,0,none⟩),jV p1,jV p2] w (wCe w [.blk ae 118 ([.slice ah p0.Bout.Shots.length ak,.slice ai p0.Bout.Down.length am,.slice aj p0.Bout.Across.length ap,.map (some ab)] ++ ((nA KL.encI p0.hits.l) ++ ((nA KL.encI p0.used.l) ++ (nA KL.encT p0.met.l)))),.obj ab (.map aq au)] U (fun U_ L_ v=>v=.agg #[jV r.Lo,jV r.Hi]/\L_=[.blk ae 118 ([.slice ah p0.Bout.Shots.length ak,.slice ai p0.Bout.Down.length am,.slice aj p0.Bout.Across.length ap,.map (some ab)] ++ ((nA KL.encI p0.hits.l) ++ ((nA KL.encI p0.used.l) ++ (nA KL.encT p0.met.l)))),.obj ab (.map aq au)])):=by
 unfold wBc at hm
 refine Gv.of Tryz.func76 Z Tryz.ntmps76 Tryz.results76 Z (sR (.fx 0 .nil .stop) Z ?_)
 let B0:List Value:=[jV 0,jV 0]
 refine ZF (cs:=B0) Z Z Z Z Z ZD Z hS ?_
 intro W3 b4 dm
 refine eN (sR (.fl 0 (.fx 1 (.fx 2 .nil .stop) .stop)) Z ?_)
 let B1:List Value:=[jV (-1),jV 0]
 refine oR Z (Zg (pv:=[(0,jV (-1))]) (z:=B0) (cs:=B1) Z (wAK Z wAa) ZD wFa Z Z) (ZF (cs:=B0) Z Z Z Z Z ZD Z dm ?_)
 intro W7 b8 dr
 refine zu (j:=0) (vs:=B1) Z Z Z Z dr Z Z Z Z zg (zB Z) Z Z Z ?_
 intro bF cY
 have db:SW w [.blk ae 118 ([.slice ah p0.Bout.Shots.length ak,.slice ai p0.Bout.Down.length am,.slice aj p0.Bout.Across.length ap,.map (some ab)] ++ ((nA KL.encI p0.hits.l) ++ ((nA KL.encI p0.used.l) ++ (nA KL.encT p0.met.l)))),.obj ab (.map aq au)] U U [.blk b8 66 B1,.blk b4 66 B0,.blk ae 118 ([.slice ah p0.Bout.Shots.length ak,.slice ai p0.Bout.Down.length am,.slice aj p0.Bout.Across.length ap,.map (some ab)] ++ ((nA KL.encI p0.hits.l) ++ ((nA KL.encI p0.used.l) ++ (nA KL.encT p0.met.l)))),.obj ab (.map aq au)] bF:=cY
 refine eN (zM (sR (wCl (.fx 3 (.fl 4 (.fl 5 .nil)) .stop)) Z (oM Z Z (oM Z Z (oM Z Z (bnK hm fun bD cE dA=>?_))))))
 have df:SW w [.blk ae 118 ([.slice ah p0.Bout.Shots.length ak,.slice ai p0.Bout.Down.length am,.slice aj p0.Bout.Across.length ap,.map (some ab)] ++ ((nA KL.encI p0.hits.l) ++ ((nA KL.encI p0.used.l) ++ (nA KL.encT p0.met.l)))),.obj ab (.map aq au)] U U [.blk ae 118 ([.slice ah p0.Bout.Shots.length ak,.slice ai p0.Bout.Down.length am,.slice aj p0.Bout.Across.length ap,.map (some ab)] ++ ((nA KL.encI p0.hits.l) ++ ((nA KL.encI p0.used.l) ++ (nA KL.encT p0.met.l)))),.obj ab (.map aq au),.blk b8 66 B1,.blk b4 66 B0] bF:=db.pick [2,3,0,1] _ (by decide) rfl
 refine zP 2 Z Z Z Z (zN Z Z Tryz.call78 (zD Z (zD Z (zD Z zV))) Z) df (fun hs=>wEq p0 ae ah ak ai am aj ap ab aq au p1 p2 bF U hs bY bZ b5 b9 cE) (.inl Z) ?_
 rintro bE dE dO ct bN dg ⟨rfl,rfl⟩
 have dh:SW w [.blk ae 118 ([.slice ah p0.Bout.Shots.length ak,.slice ai p0.Bout.Down.length am,.slice aj p0.Bout.Across.length ap,.map (some ab)] ++ ((nA KL.encI p0.hits.l) ++ ((nA KL.encI p0.used.l) ++ (nA KL.encT p0.met.l)))),.obj ab (.map aq au)] U bE [.blk ae 118 ([.slice ah p0.Bout.Shots.length ak,.slice ai p0.Bout.Down.length am,.slice aj p0.Bout.Across.length ap,.map (some ab)] ++ ((nA KL.encI p0.hits.l) ++ ((nA KL.encI p0.used.l) ++ (nA KL.encT p0.met.l)))),.obj ab (.map aq au),.blk b8 66 B1,.blk b4 66 B0] ct:=dg
 refine oR Z (zh Z Z Z) (oM Z Z (eN (zk ?_)))
 have q:=bnd dA
 obtain ⟨⟨dC,dD⟩,du,cd⟩:=q
 try dsimp only at cd
 have q:=wCk du
 obtain ⟨bL,dv⟩:=q
 replace bL:=zL bL
 refine CK.forN' (fun az (x33,x34) σ_ w_=>∃ (U_:PHeap),σ_ 15=jV (↑az:Int)/\σ_ 0=.pointer (some ⟨ae,0,none⟩)/\σ_ 1=jV p1/\σ_ 2=jV p2/\σ_ 6=.pointer (some ⟨b4,0,none⟩)/\σ_ 7=.pointer (some ⟨b8,0,none⟩)/\σ_ 14=jV (w64 (bD + 1))/\PHeap.Le bE U_/\SW w [.blk ae 118 ([.slice ah p0.Bout.Shots.length ak,.slice ai p0.Bout.Down.length am,.slice aj p0.Bout.Across.length ap,.map (some ab)] ++ ((nA KL.encI p0.hits.l) ++ ((nA KL.encI p0.used.l) ++ (nA KL.encT p0.met.l)))),.obj ab (.map aq au)] U U_ [.blk ae 118 ([.slice ah p0.Bout.Shots.length ak,.slice ai p0.Bout.Down.length am,.slice aj p0.Bout.Across.length ap,.map (some ab)] ++ ((nA KL.encI p0.hits.l) ++ ((nA KL.encI p0.used.l) ++ (nA KL.encT p0.met.l)))),.obj ab (.map aq au),.blk b8 66 [jV x33,jV x34],.blk b4 66 B0] w_) dv ?_ ?_ ?_
 exact ⟨bE,Z,Z,Z,Z,Z,Z,Z,(zY _),dh⟩
 rintro az ⟨x33,x34⟩ dR dT cu bK ⟨cj,bs,bz,bA,bB,bI,bf,bC,bq,dp⟩ ci
 try dsimp only at ci
 have bU:Hid ((↑az:Int) < (w64 (bD + 1))):=zL (wCI bK)
 replace bK:=zL bK
 have bJ:Hid (w64 ((↑az:Int) + 1)=(↑(az + 1):Int)):=zL (by have h1:=bL.out;have h2:=bU.out;rw [wAf] <;> omega)
 refine sR fL1 Z (oR Z (zl Z bs bC) (eN (zM (cT Z bU (kN (zM (zk (sR fL2 Z (oM Z bs (oA Z Z (eN (sR (wIs (.fx 4 (.fx 5 (.fl 6 .nil) .stop) .stop)) Z (oM Z bz (oM Z bA (oM Z bB (oM Z Z ?_))))))))))))))))
 have cG:=bY.le bN
 have cH:=cG.le bq
 have cI:=bZ.le bN
 have cJ:=cI.le bq
 have cK:=b5.le bN
 have cL:=cK.le bq
 refine bnK ci fun av cM dB=>zP 2 Z Z Z Z (zN Z Z Tryz.call113 (zD Z (zD Z (zD Z (zD Z zV)))) Z) dp (fun hs=>wEA p0 ae ah ak ai am aj ap ab aq au p1 p2 (↑az:Int) cu cj hs cH cJ cL b9 cM) (.inl Z) ?_
 rintro bS dF dP bT bO dq ⟨bk,bg,bl,bh,bm,bi,bn,ba,bp,bo,rfl,rfl,cN,cO,cP,cQ⟩
 let B2:Res:=.blk b8 66 [jV x33,jV x34]
 have dt:SW w [.blk ae 118 ([.slice ah p0.Bout.Shots.length ak,.slice ai p0.Bout.Down.length am,.slice aj p0.Bout.Across.length ap,.map (some ab)] ++ ((nA KL.encI p0.hits.l) ++ ((nA KL.encI p0.used.l) ++ (nA KL.encT p0.met.l)))),.obj ab (.map aq au)] U bS [.blk bk 118 ([.slice bg av.Bout.Shots.length bl,.slice bh av.Bout.Down.length bm,.slice bi av.Bout.Across.length bn,.map (some ba)] ++ ((nA KL.encI av.hits.l) ++ ((nA KL.encI av.used.l) ++ (nA KL.encT av.met.l)))),.obj ba (.map bp bo),.blk ae 118 ([.slice ah p0.Bout.Shots.length ak,.slice ai p0.Bout.Down.length am,.slice aj p0.Bout.Across.length ap,.map (some ab)] ++ ((nA KL.encI p0.hits.l) ++ ((nA KL.encI p0.used.l) ++ (nA KL.encT p0.met.l)))),.obj ab (.map aq au),B2,.blk b4 66 B0] bT:=dq
 have q:=bnd dB
 obtain ⟨⟨x92,x93⟩,cR,cg⟩:=q
 try dsimp only at cg
 refine zP 2 Z Z Z Z (zN Z Z Tryz.call67 (zD Z zV) Z) dt (fun hs=>wCt av bk bg bl bh bm bi bn ba bp bo bT bS hs cN cO cP cQ cR) (.inl Z) ?_
 rintro be dG dQ cw bM cS ⟨bP,cx,rfl,rfl,cC⟩
 let B3:Res:=.row bP cx 3 1 (nA KL.encI x92)
 have bt:SW w [.blk ae 118 ([.slice ah p0.Bout.Shots.length ak,.slice ai p0.Bout.Down.length am,.slice aj p0.Bout.Across.length ap,.map (some ab)] ++ ((nA KL.encI p0.hits.l) ++ ((nA KL.encI p0.used.l) ++ (nA KL.encT p0.met.l)))),.obj ab (.map aq au)] U be [B3,.blk bk 118 ([.slice bg av.Bout.Shots.length bl,.slice bh av.Bout.Down.length bm,.slice bi av.Bout.Across.length bn,.map (some ba)] ++ ((nA KL.encI x93.1.l) ++ ((nA KL.encI x93.2.1.l) ++ (nA KL.encT x93.2.2.l)))),.obj ba (.map bp bo),.blk ae 118 ([.slice ah p0.Bout.Shots.length ak,.slice ai p0.Bout.Down.length am,.slice aj p0.Bout.Across.length ap,.map (some ab)] ++ ((nA KL.encI p0.hits.l) ++ ((nA KL.encI p0.used.l) ++ (nA KL.encT p0.met.l)))),.obj ab (.map aq au),B2,.blk b4 66 B0] cw:=cS
 have cD:bP.isNone=decide (x92=[]):=wKt (j:=0) bt rfl (fun _=>rfl) (by decide) cC
 refine oR Z (Runs.eqNilR Z Z Z zA cD) (eN (ifc cg ?_ ?_))
 intro bG dw
 refine cT Z bG (zM (sR fL3 Z (oR Z (zG Z bf Zf Z zC) (oL Z (bt.ldB (j:=5) Z Z Z zI (v:=jV x33) Z) (oR Z (zl Z Z Z) (eN (ifc dw ?_ ?_)))))))
 intro bH dx
 refine cT Z bH (rR gAy Z (oM Z Z (oR Z (zG Z bf Zf Z zC) (zu (j:=5) (vs:=[jV (↑az:Int)]) Z Z Z Z bt Z Z Z Z zC (zB Z) Z Z Z ?_))))
 intro cn cU
 have cV:SW w [.blk ae 118 ([.slice ah p0.Bout.Shots.length ak,.slice ai p0.Bout.Down.length am,.slice aj p0.Bout.Across.length ap,.map (some ab)] ++ ((nA KL.encI p0.hits.l) ++ ((nA KL.encI p0.used.l) ++ (nA KL.encT p0.met.l)))),.obj ab (.map aq au)] U be [B3,.blk bk 118 ([.slice bg av.Bout.Shots.length bl,.slice bh av.Bout.Down.length bm,.slice bi av.Bout.Across.length bn,.map (some ba)] ++ ((nA KL.encI x93.1.l) ++ ((nA KL.encI x93.2.1.l) ++ (nA KL.encT x93.2.2.l)))),.obj ba (.map bp bo),.blk ae 118 ([.slice ah p0.Bout.Shots.length ak,.slice ai p0.Bout.Down.length am,.slice aj p0.Bout.Across.length ap,.map (some ab)] ++ ((nA KL.encI p0.hits.l) ++ ((nA KL.encI p0.used.l) ++ (nA KL.encT p0.met.l)))),.obj ab (.map aq au),.blk b8 66 [jV (↑az:Int),jV x34],.blk b4 66 B0] cn:=cU
 refine eN (rR gAy Z (oM Z Z (oR Z (zG Z bf Zf Z zC) (zu (j:=5) (vs:=[jV (↑az:Int)]) Z Z Z Z cV Z Z Z Z zC (zB Z) Z Z Z ?_))))
 intro cp cW
 have cX:SW w [.blk ae 118 ([.slice ah p0.Bout.Shots.length ak,.slice ai p0.Bout.Down.length am,.slice aj p0.Bout.Across.length ap,.map (some ab)] ++ ((nA KL.encI p0.hits.l) ++ ((nA KL.encI p0.used.l) ++ (nA KL.encT p0.met.l)))),.obj ab (.map aq au)] U be [B3,.blk bk 118 ([.slice bg av.Bout.Shots.length bl,.slice bh av.Bout.Down.length bm,.slice bi av.Bout.Across.length bn,.map (some ba)] ++ ((nA KL.encI x93.1.l) ++ ((nA KL.encI x93.2.1.l) ++ (nA KL.encT x93.2.2.l)))),.obj ba (.map bp bo),.blk ae 118 ([.slice ah p0.Bout.Shots.length ak,.slice ai p0.Bout.Down.length am,.slice aj p0.Bout.Across.length ap,.map (some ab)] ++ ((nA KL.encI p0.hits.l) ++ ((nA KL.encI p0.used.l) ++ (nA KL.encT p0.met.l)))),.obj ab (.map aq au),.blk b8 66 [jV (↑az:Int),jV (↑az:Int)],.blk b4 66 B0] cp:=cW
 refine ZK (zq (zQ (rR fL2 Z (oR Z (ZL (zh Z bs Z) (congrArg (jV) bJ.out)) (oM Z Z (ZK ?_))))))
 cases dx
 exact zQ ⟨rfl,⟨be,rfl,bz,bA,bB,bI,bf,bC,((bq.trans bO).trans bM),(cX.pick [3,4,5,6] _ (by decide) rfl)⟩⟩
 intro bH dy
 refine cF Z bH (kN (rR gAy Z (oM Z Z (oR Z (zG Z bf Zf Z zC) (zu (j:=5) (vs:=[jV (↑az:Int)]) Z Z Z Z bt Z Z Z Z zC (zB Z) Z Z Z ?_)))))
 intro cq cZ
 have da:SW w [.blk ae 118 ([.slice ah p0.Bout.Shots.length ak,.slice ai p0.Bout.Down.length am,.slice aj p0.Bout.Across.length ap,.map (some ab)] ++ ((nA KL.encI p0.hits.l) ++ ((nA KL.encI p0.used.l) ++ (nA KL.encT p0.met.l)))),.obj ab (.map aq au)] U be [B3,.blk bk 118 ([.slice bg av.Bout.Shots.length bl,.slice bh av.Bout.Down.length bm,.slice bi av.Bout.Across.length bn,.map (some ba)] ++ ((nA KL.encI x93.1.l) ++ ((nA KL.encI x93.2.1.l) ++ (nA KL.encT x93.2.2.l)))),.obj ba (.map bp bo),.blk ae 118 ([.slice ah p0.Bout.Shots.length ak,.slice ai p0.Bout.Down.length am,.slice aj p0.Bout.Across.length ap,.map (some ab)] ++ ((nA KL.encI p0.hits.l) ++ ((nA KL.encI p0.used.l) ++ (nA KL.encT p0.met.l)))),.obj ab (.map aq au),.blk b8 66 [jV x33,jV (↑az:Int)],.blk b4 66 B0] cq:=cZ
 refine ZK (zq (zQ (rR fL2 Z (oR Z (ZL (zh Z bs Z) (congrArg (jV) bJ.out)) (oM Z Z (ZK ?_))))))
 cases dy
 exact zQ ⟨rfl,⟨be,rfl,bz,bA,bB,bI,bf,bC,((bq.trans bO).trans bM),(da.pick [3,4,5,6] _ (by decide) rfl)⟩⟩
 intro bG dz
 refine cF Z bG (Zd (zq (zQ (rR fL2 Z (oR Z (ZL (zh Z bs Z) (congrArg (jV) bJ.out)) (oM Z Z (ZK ?_)))))))
 cases dz
 exact zQ ⟨rfl,⟨be,rfl,bz,bA,bB,bI,bf,bC,((bq.trans bO).trans bM),(bt.pick [3,4,5,6] _ (by decide) rfl)⟩⟩
 rintro dS dH ⟨bR,cB,dK,dL,dM,bV,cz,cA,dN,bW⟩
 have cy:Hid (¬ ((↑((w64 (bD + 1):Int) - 0).toNat:Int) < (w64 (bD + 1)))):=zL (wBf)
 refine sR fL1 Z (oR Z (zl Z cB cA) (eN (zM (cF Z cy (Ze (zw (zw (ZW (zQ (sR (.fl 0 (.fx 1 .nil .stop)) Z ?_))))))))))
 let B4:List Value:=[jV dC,jV dD]
 refine oL Z (bW.ldBA (j:=2) Z Z cz ZN zg (vs:=B4) Z Z) (zu (j:=3) (vs:=B4) Z Z Z Z bW Z bV Z Z zg (zB Z) Z Z Z ?_)
 intro cr de
 have bX:SW w [.blk ae 118 ([.slice ah p0.Bout.Shots.length ak,.slice ai p0.Bout.Down.length am,.slice aj p0.Bout.Across.length ap,.map (some ab)] ++ ((nA KL.encI p0.hits.l) ++ ((nA KL.encI p0.used.l) ++ (nA KL.encT p0.met.l)))),.obj ab (.map aq au)] U bR [.blk ae 118 ([.slice ah p0.Bout.Shots.length ak,.slice ai p0.Bout.Down.length am,.slice aj p0.Bout.Across.length ap,.map (some ab)] ++ ((nA KL.encI p0.hits.l) ++ ((nA KL.encI p0.used.l) ++ (nA KL.encT p0.met.l)))),.obj ab (.map aq au),.blk b8 66 B4,.blk b4 66 B4] cr:=de
 refine eN (zX ?_)
 cases cd
 exact ⟨rfl,_,(wII (v:=.agg B4.toArray) ⟨⟨_,bV,(wFm ZN zg (bX.blkAt (k:=3) rfl) (vs:=B4) rfl rfl)⟩,trivial⟩),bR,_,(bX.pick [0,1] _ (by decide) rfl),rfl,rfl⟩
theorem wBK (p0:wAC) (bh:Option Addr) (bk:Nat) (bi:Option Addr) (bl:Nat) (bj:Option Addr) (bm:Nat) (p1:Int) (p2:Int) (w:World) (U:PHeap) (hS:St0 w U []) (bT:Sl U 1 bh bk p0.Shots.length (nA KL.encI p0.Shots)) (bU:Sl U 1 bi bl p0.Down.length (nA KL.encI p0.Down)) (bV:Sl U 2 bj bm p0.Across.length (nA wAB p0.Across)) {r:wBE × Int} (hm:wAM p0 p1 p2=some r):Gv Tryz.prog 30 [.agg #[.slice bh p0.Shots.length bk,.slice bi p0.Down.length bl,.slice bj p0.Across.length bm],jV p1,jV p2] w (wCe w [] U (fun U_ L_ v=>v=.tuple #[.agg #[jV r.1.Lo,jV r.1.Hi],jV r.2]/\L_=[])):=by
 unfold wAM at hm
 refine Gv.of Tryz.func30 Z Tryz.ntmps30 Tryz.results30 Z (sR gAz Z ?_)
 let B0:List Value:=[.slice bh p0.Shots.length bk,.slice bi p0.Down.length bl,.slice bj p0.Across.length bm]
 refine Zc (cs:=B0) rfl rfl rfl rfl rfl rfl (by rfl) hS ?_
 intro W1 b2 bM
 let B1:List Value:=[jV 0,jV 0]
 refine ZF (cs:=B1) Z Z Z Z Z ZD Z bM ?_
 intro W5 b6 bA
 refine oA Z Z (eN (sR (wCl (.fx 3 (fC4_8 (.nil)) .stop)) Z (oL Z (bA.ldBA (j:=1) Z Z Z ZI ze (vs:=B0) Z Z) (oM Z Z (oM Z Z ?_)))))
 have q:=bnd hm
 obtain ⟨⟨x9,bn⟩,bG,bb⟩:=q
 try dsimp only at bb
 refine zP 0 Z Z Z Z (zN Z Z Tryz.call75 (zD Z (zD Z (zD Z zV))) Z) bA (fun hs=>wFS p0 bh bk bi bl bj bm p1 p2 W5 U hs bT bU bV bG) (.inr Z) ?_
 rintro ai cd cp bp cj bt bs
 rcases x9 with _ | x30
 try dsimp only at bb
 obtain ⟨rfl,rfl⟩:=bs
 have bN:sW w U ai [.blk b6 66 B1,.blk b2 25 B0] bp:=bt
 refine oM Z Z (oR Z (ZM Z Z (v:=.pointer none) Z) (oR Z (ZM Z Z (v:=jV bn) Z) (oA Z Z (oA Z Z (eN (zM (sR fL2 Z (oM Z Z (oR Z (Zj Z Z Z) (eN (ifc bb ?_ ?_)))))))))))
 intro bq bW
 refine ZB (zy (fun h=>h bq.out)) (kN (sR (wCl gBa) Z (oM Z Z (oM Z Z (oM Z Z ?_)))))
 cases bW
 intro bq bX
 refine cT Z bq (sR (.fl 0 gAx) Z (oR Z (Zg (pv:=[]) (z:=B1) (cs:=B1) Z wAa ZD wFa Z Z) (oM Z Z (zu (j:=0) (vs:=B1) Z Z Z Z bN Z Z Z Z zg (zB Z) Z Z Z ?_))))
 intro bB bO
 have bu:sW w U ai [.blk b6 66 B1,.blk b2 25 B0] bB:=bO
 refine oA Z Z (eN (zX (zH ?_)))
 cases bX
 exact ⟨rfl,_,(wKJ (rs:=[.cell 6 66,.tmp 7]) (vs:=[.agg B1.toArray,jV bn]) ⟨⟨_,rfl,(wFm ZN zg (bu.blkAt (k:=0) rfl) (vs:=B1) rfl rfl)⟩,⟨rfl,trivial⟩⟩ rfl),ai,_,(bu.pick [] _ (by decide) rfl),rfl,rfl⟩
 try dsimp only at bb
 obtain ⟨aj,ap,av,aq,az,au,aY,ae,ba,aZ,rfl,rfl,bH,bI,bJ,bK⟩:=bs
 have bv:sW w U ai [.blk aj 118 ([.slice ap x30.Bout.Shots.length av,.slice aq x30.Bout.Down.length az,.slice au x30.Bout.Across.length aY,.map (some ae)] ++ ((nA KL.encI x30.hits.l) ++ ((nA KL.encI x30.used.l) ++ (nA KL.encT x30.met.l)))),.obj ae (.map ba aZ),.blk b6 66 B1,.blk b2 25 B0] bp:=bt
 refine oM Z Z (oR Z (ZM Z Z (v:=.pointer (some ⟨aj,0,none⟩)) Z) (oR Z (ZM Z Z (v:=jV bn) Z) (oA Z Z (oA Z Z (eN (zM (sR fL2 Z (oM Z Z (oR Z (Zj Z Z Z) (eN (ifc bb ?_ ?_)))))))))))
 intro br bY
 refine ZB (zy (fun h=>h br.out)) (kN (sR (wCl gBa) Z (oM Z Z (oM Z Z (oM Z Z (bnK bY fun x47 bL bZ=>zP 2 Z Z Z Z (zN Z Z Tryz.call76 (zD Z (zD Z (zD Z zV))) Z) bv (fun hs=>wEr x30 aj ap av aq az au aY ae ba aZ p1 p2 bp ai hs bH bI bJ bK bL) (.inl Z) ?_))))))
 rintro bo cg cq bD cn bP ⟨rfl,rfl⟩
 have bQ:sW w U bo [.blk aj 118 ([.slice ap x30.Bout.Shots.length av,.slice aq x30.Bout.Down.length az,.slice au x30.Bout.Across.length aY,.map (some ae)] ++ ((nA KL.encI x30.hits.l) ++ ((nA KL.encI x30.used.l) ++ (nA KL.encT x30.met.l)))),.obj ae (.map ba aZ),.blk b6 66 B1,.blk b2 25 B0] bD:=bP
 let B2:List Value:=[jV x47.Lo,jV x47.Hi]
 refine zu (j:=2) (vs:=B2) Z Z Z Z bQ Z Z Z Z zg (zB Z) Z Z Z ?_
 intro bE bR
 have bw:sW w U bo [.blk aj 118 ([.slice ap x30.Bout.Shots.length av,.slice aq x30.Bout.Down.length az,.slice au x30.Bout.Across.length aY,.map (some ae)] ++ ((nA KL.encI x30.hits.l) ++ ((nA KL.encI x30.used.l) ++ (nA KL.encT x30.met.l)))),.obj ae (.map ba aZ),.blk b6 66 B2,.blk b2 25 B0] bE:=bR
 refine oA Z Z (eN (zX ?_))
 cases bZ
 exact ⟨rfl,_,(wKJ (rs:=[.cell 6 66,.tmp 7]) (vs:=[.agg B2.toArray,jV 0]) ⟨⟨_,rfl,(wFm ZN zg (bw.blkAt (k:=2) rfl) (vs:=B2) rfl rfl)⟩,⟨rfl,trivial⟩⟩ rfl),bo,_,(bw.pick [] _ (by decide) rfl),rfl,rfl⟩
 intro br b5
 refine cT Z br (sR (.fl 0 gAx) Z (oR Z (Zg (pv:=[]) (z:=B1) (cs:=B1) Z wAa ZD wFa Z Z) (oM Z Z (zu (j:=2) (vs:=B1) Z Z Z Z bv Z Z Z Z zg (zB Z) Z Z Z ?_))))
 intro bF bS
 have bz:sW w U ai [.blk aj 118 ([.slice ap x30.Bout.Shots.length av,.slice aq x30.Bout.Down.length az,.slice au x30.Bout.Across.length aY,.map (some ae)] ++ ((nA KL.encI x30.hits.l) ++ ((nA KL.encI x30.used.l) ++ (nA KL.encT x30.met.l)))),.obj ae (.map ba aZ),.blk b6 66 B1,.blk b2 25 B0] bF:=bS
 refine oA Z Z (eN (zX (zH ?_)))
 cases b5
 exact ⟨rfl,_,(wKJ (rs:=[.cell 6 66,.tmp 7]) (vs:=[.agg B1.toArray,jV bn]) ⟨⟨_,rfl,(wFm ZN zg (bz.blkAt (k:=2) rfl) (vs:=B1) rfl rfl)⟩,⟨rfl,trivial⟩⟩ rfl),ai,_,(bz.pick [] _ (by decide) rfl),rfl,rfl⟩
theorem wBk (p0:wBE) (p1:wBE) (w:World) (U:PHeap) (hS:St0 w U [])  {r:Bool} (hm:wAW p0 p1=some r):Gv Tryz.prog 31 [.agg #[jV p0.Lo,jV p0.Hi],.agg #[jV p1.Lo,jV p1.Hi]] w (wCe w [] U (fun U_ L_ v=>v=.bool r/\L_=[])):=by
 unfold wAW at hm
 refine Gv.of Tryz.func31 rfl Tryz.ntmps31 Tryz.results31 rfl (sR gAz rfl (Zc (cs:=[jV p0.Lo,jV p0.Hi]) rfl rfl rfl rfl rfl rfl (by rfl) hS ?_))
 intro W1 b2 ak
 refine Zc (cs:=[jV p1.Lo,jV p1.Hi]) rfl rfl rfl rfl rfl rfl (by rfl) ak ?_
 intro W5 b6 ah
 refine oA Z Z (eN (sR fL13 Z (oR Z (zG Z Z Zf Z zC) (oL Z (ah.ldB (j:=1) Z Z Z zI (v:=jV p0.Lo) Z) (oR Z (zG Z Z Zf Z zC) (oL Z (ah.ldB (j:=0) Z Z Z zI (v:=jV p1.Lo) Z) (oR Z (Runs.leq Z Z Z) (oM Z Z ?_))))))))
 by_cases c9:p0.Lo <= p1.Lo
 have ai:=hm;rw [if_pos c9] at ai;replace c9:=zL c9
 refine rU Z (wT Z c9) (zG Z Z Zf Z zC) (zi Z Z Z (wT Z c9) (ah.ldB (j:=0) Z Z Z zI (v:=jV p1.Hi) Z) Z (rU Z (wT Z c9) (zG Z Z Zf Z zC) (zi Z Z Z (wT Z c9) (ah.ldB (j:=1) Z Z Z zI (v:=jV p0.Hi) Z) Z (rU Z (wT Z c9) (Runs.leq Z Z Z) (oR Z (zK Z (Zo c9.out) Z) (oA Z Z (eN (zX ?_))))))))
 first | (obtain rfl:=nB ai) | cases ai
 exact ⟨rfl,_,(ZA rfl),U,_,(ah.pick [] _ (by decide) rfl),rfl,rfl⟩
 have aj:=hm;rw [if_neg c9] at aj;replace c9:=zL c9
 refine oF Z c9 (oF Z c9 (oF Z c9 (oF Z c9 (oF Z c9 (oR Z (zf Z (zy c9.out) Z) (oA Z Z (eN (zX ?_))))))))
 have hE:=nB aj;first | subst r | cases hE
 exact ⟨rfl,_,(ZA rfl),U,_,(ah.pick [] _ (by decide) rfl),rfl,rfl⟩
theorem wCu (p0:Int) (p1:Int) (w:World) (U:PHeap) (hS:St0 w U [])  {r:wBE} (hm:wBH p0 p1=some r):Gv Tryz.prog 32 [jV p0,jV p1] w (wCe w [] U (fun U_ L_ v=>v=.agg #[jV r.Lo,jV r.Hi]/\L_=[])):=by
 unfold wBH at hm
 refine Gv.of Tryz.func32 Z Tryz.ntmps32 Tryz.results32 Z (sR (.fx 0 .nil .stop) Z (ZF (cs:=[jV 0,jV 0]) Z Z Z Z Z ZD Z hS ?_))
 intro W1 b2 ak
 refine eN (sR (wCl (.fx 3 .nil .stop)) Z (oM Z Z (oM Z Z ?_)))
 let B0:List Value:=[jV p0,jV p1]
 refine oR Z (Zg (pv:=[(0,jV p0),(1,jV p1)]) (z:=[jV 0,jV 0]) (cs:=B0) Z (wAK Z (wAK Z wAa)) ZD wFa Z Z) (zu (j:=0) (vs:=B0) Z Z Z Z ak Z Z Z Z zg (zB Z) Z Z Z ?_)
 intro W5 am
 have ah:sW w U U [.blk b2 66 B0] W5:=am
 refine eN (zX ?_)
 cases hm
 exact ⟨rfl,_,(wII (v:=.agg B0.toArray) ⟨⟨_,rfl,(wFm ZN zg (ah.blkAt (k:=0) rfl) (vs:=B0) rfl rfl)⟩,trivial⟩),U,_,(ah.pick [] _ (by decide) rfl),rfl,rfl⟩
theorem wCj (w:World) (U:PHeap) (hS:St0 w U []) {r:Bool} (hm:wBS=some r):Gv Tryz.prog 6 [] w (wCe w [] U (fun U_ L_ v=>v=.bool r/\L_=[])):=by
 cases hm
 refine (xr6 w).mono ?_
 rintro v w' ⟨rfl,k⟩
 exact ⟨U,[],hS.grow k,Z,Z⟩
theorem wDJ (p0:List Int) (pi:Option Addr) (pj:Nat) (p1:Int) (p2:Int) (w:World) (U:PHeap) (hS:St0 w U []) (OU:Sl U 1 pi pj p0.length (nA KL.encB8 p0)) {r:Bool} (hm:wBJ p0 p1 p2=some r):Gv Tryz.prog 4 [.slice pi p0.length pj,.int .u8 p1,.int .u8 p2] w (wCe w [] U (fun U_ L_ v=>v=.bool r/\L_=[])):=by
 unfold wBJ at hm
 refine Gv.of Tryz.func4 Z Tryz.ntmps4 Tryz.results4 Z (sR fL1 Z (oA Z Z (eN (sR (.fl 0 (.fx 1 (.fx 2 (fC3_5 (.fx 6 (.fx 7 (.fx 8 (.fx 9 .nil .stop) .stop) .stop) .stop)) .stop) .stop)) Z (oM Z Z (bnK hm fun x1 h2 Qt=>zP 0 Z Z Z Z (zN Z Z Tryz.call24 (zD Z zV) Z) hS (fun hs=>wGN p0 pi pj w U hs OU h2) (.inr Z) ?_))))))
 rintro U4 L5 v6 W7 VH OT ⟨mH,pm,rt,rfl,rfl,Ep⟩
 have LA:sW w U U4 [.blk mH 124 [.slice pm x1.bytes.length rt,jV x1.next,.int .u32 x1.state]] W7:=OT
 have q:=bnd Qt
 obtain ⟨⟨ap,eh,pk⟩,GS,uM⟩:=q
 try dsimp only at uM
 refine zP 1 Z Z Z Z (zN Z Z Tryz.call23 (zD Z (zD Z zV)) Z) LA (fun hs=>wEX x1 mH pm rt 5 W7 U4 hs Ep GS) (.inl Z) ?_
 rintro ig SM VX xa VA Na ⟨dR,dW,eD,fc,cg,cr,gT,i9,x7,vE,x8,rfl,rfl,fU,t8,Vw⟩
 let B0:Res:=.blk mH 124 [.slice vE pk.bytes.length x8,jV pk.next,.int .u32 pk.state]
 let B1:Res:=.row gT i9 22 1 x7
 let B2:Res:=.row eD fc 3 1 (nA KL.encI ap.Down)
 let B3:Res:=.row dR dW 3 1 (nA KL.encI ap.Shots)
 have NZ:sW w U ig [B3,B2,B1,B0] xa:=Na
 refine oM Z Z (oR Z (ZM Z Z (v:=.agg #[.slice dR ap.Shots.length dW,.slice eD ap.Down.length fc,.slice cg ap.Across.length cr]) Z) (oR Z (ZM Z Z (v:=.slice gT eh.length i9) Z) ?_))
 let B4:List Value:=[.slice none 0 0,.slice none 0 0,.slice none 0 0]
 refine ZF (cs:=B4) Z Z Z Z Z Zi Z NZ ?_
 intro T0 ba N2
 refine ZF (cs:=[.slice none 0 0]) Z Z Z Z Z Tryz.zeroValue26 Z N2 ?_
 intro T1 bg N6
 let B5:List Value:=[.slice dR ap.Shots.length dW,.slice eD ap.Down.length fc,.slice cg ap.Across.length cr]
 refine zu (j:=1) (vs:=B5) Z Z Z Z N6 Z Z Z Z ze (zB Z) Z Z Z ?_
 intro xF Oa
 have Oc:sW w U ig [.blk bg 26 [.slice none 0 0],.blk ba 25 B5,B3,B2,B1,B0] xF:=Oa
 let B6:List Value:=[.slice gT eh.length i9]
 refine zu (j:=0) (vs:=B6) Z Z Z Z Oc Z Z Z Z Tryz.sizeOf26 (zB Z) Z Z Z ?_
 intro mD Of
 have uz:sW w U ig [.blk bg 26 B6,.blk ba 25 B5,B3,B2,B1,B0] mD:=Of
 refine eN (sR fL4 rfl (zS rfl rfl rfl rfl (fun _=>zG rfl rfl zF rfl zR) (zi rfl rfl rfl rfl (uz.ldB (j:=1) rfl rfl rfl zZ (v:=.slice dR ap.Shots.length dW) rfl) rfl (zS rfl rfl rfl rfl (fun _=>Za rfl rfl zA) (OKS.ra rfl rfl rfl rfl rfl rfl (eN (zM (ZQ ZJ [3,3,3,3,3,3,3,3,3,2,0] (wQg (.fx 9 (.fx 10 .nil .stop) .stop)) (by kernel_rfl) ?_))))))))
 have uA:=uz.drew
 generalize hw_W60:({ mD with drawn:=mD.drawn + 1 }:World)=T5 at uA ⊢
 refine oM Z Z (oR Z (Runs.cvw Z Z Tryz.runUnderlying5 Zn Z Z) (oM Z Z (bnK uM fun x61 Ka QD=>oR Z (Runs.rem Z Z Z Ka) (oM Z Z (oR Z (Runs.cvw Z Z Tryz.runUnderlying5 Zn Z Z) (oM Z Z (bnK QD fun cd Kb QE=>oR Z (Runs.rem Z Z Z Kb) ?_)))))))
 let B7:List Value:=[jV x61,jV cd]
 let B8:List Value:=[jV 0,jV 0]
 refine oR Z (Zg (pv:=[(0,jV x61),(1,jV cd)]) (z:=B8) (cs:=B7) Z (wAK Z (wAK Z wAa)) ZS wDa Z Z) (ZF (cs:=B8) Z Z Z Z Z ZS Z uA ?_)
 intro T6 bn Oq
 refine zu (j:=0) (vs:=B7) Z Z Z Z Oq Z Z Z Z zj (zB Z) Z Z Z ?_
 intro il Ov
 have Ox:sW w U ig [.blk bn 59 B7,.blk bg 26 B6,.blk ba 25 B5,B3,B2,B1,B0] il:=Ov
 refine eN ?_
 have q:=bnd QE
 obtain ⟨⟨d7,d8,bo,bX,cO,b5,b9,d9,bG,bm,bA⟩,Q4,uE⟩:=q
 try dsimp only at uE
 refine CK.cut (fun σ_ w_=>∃ (U_:PHeap) (dS:Option Addr) (dX:Nat) (dT:Option Addr) (dY:Nat) (bi:Nat) (ci:Option Addr) (ct:Nat) (cD:Option Addr) (cE:Nat) (dv:Option Addr) (dK:Nat) (bl:Nat) (cG:Option Addr) (cM:Nat) (cH:Option Addr) (cN:Nat) (dm:Option Addr) (dA:Nat) (ae:Nat) (bV:Option Addr) (bW:Nat) (bp:Option Addr) (bq:Nat) (bC:Option Addr) (bF:Nat),σ_ 2=.int .u8 p2/\σ_ 7=.pointer (some ⟨ba,0,none⟩)/\σ_ 8=.pointer (some ⟨bg,0,none⟩)/\σ_ 9=jV (↑ap.Shots.length:Int)/\σ_ 10=.pointer (some ⟨bn,0,none⟩)/\σ_ 11=.pointer (some ⟨bi,0,none⟩)/\σ_ 12=.pointer (some ⟨bl,0,none⟩)/\σ_ 13=.pointer (some ⟨ae,0,none⟩)/\PHeap.Le ig U_/\sW w U U_ [.blk bn 59 B7,B1,.blk bg 26 B6,.blk ba 25 [.slice dS d7.length dX,.slice dT d8.length dY,.slice cg ap.Across.length cr],B0,.blk bi 25 [.slice ci bo.length ct,.slice cD bX.length cE,.slice dv cO.length dK],.row ci ct 3 1 (nA KL.encI bo),.row cD cE 3 1 (nA KL.encI bX),.row dv dK 59 2 (nA wAB cO),.blk bl 25 [.slice cG b5.length cM,.slice cH b9.length cN,.slice dm d9.length dA],.row cG cM 3 1 (nA KL.encI b5),.row cH cN 3 1 (nA KL.encI b9),.row dm dA 59 2 (nA wAB d9),.blk ae 25 [.slice bV bG.length bW,.slice bp bm.length bq,.slice bC bA.length bF],.row bV bW 3 1 (nA KL.encI bG),.row bp bq 3 1 (nA KL.encI bm),.row bC bF 59 2 (nA wAB bA)] w_/\Sl U_ 1 dS dX d7.length (nA KL.encI d7)/\Sl U_ 1 dT dY d8.length (nA KL.encI d8)) ?_ ?_
 have q:=Ox.freezeR (k:=3) (n:=ap.Shots.length) rfl (wAD (f:=KL.encI) (sz:=1) (fun _=>rfl) ap.Shots) (by decide)
 obtain ⟨vX,lK,lE,Mo⟩:=q
 have Mq:sW w U vX [.blk bn 59 B7,.blk bg 26 B6,.blk ba 25 B5,B2,B1,B0] il:=Mo
 have q:=Mq.freezeR (k:=3) (n:=ap.Down.length) rfl (wAD (f:=KL.encI) (sz:=1) (fun _=>rfl) ap.Down) (by decide)
 obtain ⟨qh,ec,lF,Mv⟩:=q
 have Mw:sW w U qh [.blk bn 59 B7,.blk bg 26 B6,.blk ba 25 B5,B1,B0] il:=Mv
 refine bnK Q4 fun Wn Vu QA=>bnK QA fun Wo Vv QB=>bnK QB fun be ot QC=>ZQ ZJ [1,2,1,2,1,2,2,2,2,0,0,0] (.fl 0 (.fl 2 (.fl 4 (adT [(1,[0]),(3,[1,2]),(5,[3,4]),(6,[]),(7,[]),(8,[])] (.fx 9 (.fx 10 (.fx 11 .nil .stop) .stop) .stop) 7 [1,3,5,6,7,8] [0,2,4])))) (by kernel_rfl) ?_
 have jq:=Mw.drew
 generalize hw_W314:({ il with drawn:=il.drawn + 1 }:World)=TZ at jq ⊢
 refine zi rfl rfl rfl rfl (jq.ldBA (j:=2) rfl rfl rfl ZI ze (vs:=B5) rfl rfl) rfl (zi rfl rfl rfl rfl (jq.ldBA (j:=2) rfl rfl rfl ZI ze (vs:=B5) rfl rfl) rfl (zi rfl rfl rfl rfl (jq.ldBA (j:=2) rfl rfl rfl ZI ze (vs:=B5) rfl rfl) rfl (OKS.adders (U0:=qh) (L0:=[.blk bn 59 B7,.blk bg 26 B6,.blk ba 25 B5,B1,B0]) [(1,[0]),(3,[1,2]),(5,[3,4]),(6,[]),(7,[]),(8,[])] [⟨1,45,fun v R=>∃ (pD:Option Addr) (rI:Nat) (pE:Option Addr) (rJ:Nat) (pF:Option Addr) (rK:Nat),v=.agg #[.slice pD be.Shots.length rI,.slice pE be.Down.length rJ,.slice pF be.Across.length rK]/\R=[.row pD rI 3 1 (nA KL.encI be.Shots),.row pE rJ 3 1 (nA KL.encI be.Down),.row pF rK 59 2 (nA wAB be.Across)]⟩,⟨3,47,fun v R=>∃ (pG:Option Addr) (rL:Nat) (pH:Option Addr) (rM:Nat) (pI:Option Addr) (rN:Nat),v=.agg #[.slice pG be.Shots.length rL,.slice pH be.Down.length rM,.slice pI be.Across.length rN]/\R=[.row pG rL 3 1 (nA KL.encI be.Shots),.row pH rM 3 1 (nA KL.encI be.Down),.row pI rN 59 2 (nA wAB be.Across)]⟩,⟨5,49,fun v R=>∃ (pJ:Option Addr) (rO:Nat) (pK:Option Addr) (rP:Nat) (pL:Option Addr) (rQ:Nat),v=.agg #[.slice pJ be.Shots.length rO,.slice pK be.Down.length rP,.slice pL be.Across.length rQ]/\R=[.row pJ rO 3 1 (nA KL.encI be.Shots),.row pK rP 3 1 (nA KL.encI be.Down),.row pL rQ 59 2 (nA wAB be.Across)]⟩,⟨6,11,fun v R=>∃ (rj:Nat),v=.pointer (some ⟨rj,0,none⟩)/\R=[.blk rj 25 B4]⟩,⟨7,12,fun v R=>∃ (rk:Nat),v=.pointer (some ⟨rk,0,none⟩)/\R=[.blk rk 25 B4]⟩,⟨8,13,fun v R=>∃ (rn:Nat),v=.pointer (some ⟨rn,0,none⟩)/\R=[.blk rn 25 B4]⟩] [(2,.int .u8 p2),(7,.pointer (some ⟨ba,0,none⟩)),(8,.pointer (some ⟨bg,0,none⟩)),(9,jV (↑ap.Shots.length:Int)),(10,.pointer (some ⟨bn,0,none⟩)),(44,.agg B5.toArray),(46,.agg B5.toArray),(48,.agg B5.toArray)] [0,2,4] (by rfl) (nI.2 ⟨?_,nI.2 ⟨?_,nI.2 ⟨?_,nI.2 ⟨?_,nI.2 ⟨?_,nI.2 ⟨?_,fun _ h=>nomatch h⟩⟩⟩⟩⟩⟩) ?_ ⟨rfl,rfl,rfl,rfl,rfl,rfl,rfl,rfl,trivial⟩ jq)))
 intro RP Sw qI wl vF O9 pb NV Q7
 obtain ⟨Uy,Uz,UA,UB,UC,D9,UD,UE,_⟩:=O9
 show OKS _ _ _ _ _ _ (.fx 1 RP .stop) Sw qI
 have JI:=lE.le ec
 have JJ:=JI.le pb
 have JK:=lF.le pb
 have JL:=fU.le lK
 have JM:=JL.le ec
 have JN:=JM.le pb
 refine zP 0 Z Z Z Z (zN Z Z Tryz.call7 (zD D9 zV) Z) NV (fun hs=>wBx ap dR dW eD fc cg cr qI wl hs JJ JK JN ot) (.inr Z) ?_
 rintro wn SX V7 xB RL NW ⟨pM,rS,pN,rT,pO,rV,rfl,rfl⟩
 have NX:sW w U wn (.row pM rS 3 1 (nA KL.encI be.Shots) :: .row pN rT 3 1 (nA KL.encI be.Down) :: .row pO rV 59 2 (nA wAB be.Across) :: (vF ++ [.blk bn 59 B7,.blk bg 26 B6,.blk ba 25 B5,B1,B0])) xB:=NW
 exact Q7 _ _ _ _ RL NX ⟨pM,rS,pN,rT,pO,rV,Z,Z⟩
 intro RQ Sx qJ wo vG Pa pe NY Q8
 obtain ⟨UF,UG,UH,UI,UJ,UK,Ea,UL,_⟩:=Pa
 show OKS _ _ _ _ _ _ (.fx 3 RQ .stop) Sx qJ
 have JO:=lE.le ec
 have JP:=JO.le pe
 have JQ:=lF.le pe
 have JR:=fU.le lK
 have JT:=JR.le ec
 have JU:=JT.le pe
 refine zP 0 Z Z Z Z (zN Z Z Tryz.call7 (zD Ea zV) Z) NY (fun hs=>wBx ap dR dW eD fc cg cr qJ wo hs JP JQ JU ot) (.inr Z) ?_
 rintro wp SY V8 xC RM N0 ⟨pP,rW,pQ,rX,pR,rY,rfl,rfl⟩
 have N1:sW w U wp (.row pP rW 3 1 (nA KL.encI be.Shots) :: .row pQ rX 3 1 (nA KL.encI be.Down) :: .row pR rY 59 2 (nA wAB be.Across) :: (vG ++ [.blk bn 59 B7,.blk bg 26 B6,.blk ba 25 B5,B1,B0])) xC:=N0
 exact Q8 _ _ _ _ RM N1 ⟨pP,rW,pQ,rX,pR,rY,Z,Z⟩
 intro RS Sy qK wq vH Pb pf N3 Q9
 obtain ⟨UM,UN,UO,UP,UQ,UR,US,Eb,_⟩:=Pb
 show OKS _ _ _ _ _ _ (.fx 5 RS .stop) Sy qK
 have JV:=lE.le ec
 have JW:=JV.le pf
 have JX:=lF.le pf
 have JY:=fU.le lK
 have JZ:=JY.le ec
 have J3:=JZ.le pf
 refine zP 0 Z Z Z Z (zN Z Z Tryz.call7 (zD Eb zV) Z) N3 (fun hs=>wBx ap dR dW eD fc cg cr qK wq hs JW JX J3 ot) (.inr Z) ?_
 rintro wt SZ V9 xD RN N4 ⟨pS,rZ,pT,r6,pU,r8,rfl,rfl⟩
 have N5:sW w U wt (.row pS rZ 3 1 (nA KL.encI be.Shots) :: .row pT r6 3 1 (nA KL.encI be.Down) :: .row pU r8 59 2 (nA wAB be.Across) :: (vH ++ [.blk bn 59 B7,.blk bg 26 B6,.blk ba 25 B5,B1,B0])) xD:=N4
 exact Q9 _ _ _ _ RN N5 ⟨pS,rZ,pT,r6,pU,r8,Z,Z⟩
 intro RT Sz xE Tk S6 Pc VE N7 Ra
 obtain ⟨UT,UU,UV,UW,UX,UY,UZ,Va,_⟩:=Pc
 show OKS _ _ _ _ _ _ (.fx 6 RT .stop) Sz xE
 refine ZF (cs:=B4) Z Z Z Z Z Zi Z N7 ?_
 intro T2 xR N8
 exact Ra _ _ _ _ (zY _) N8 ⟨xR,Z,Z⟩
 intro RU SA xG Tl S7 Pe VF N9 Rb
 obtain ⟨Vb,Vc,Vd,Ve,Vf,Vg,Vh,Vi,_⟩:=Pe
 show OKS _ _ _ _ _ _ (.fx 7 RU .stop) SA xG
 refine ZF (cs:=B4) Z Z Z Z Z Zi Z N9 ?_
 intro T3 xS Ob
 exact Rb _ _ _ _ (zY _) Ob ⟨xS,Z,Z⟩
 intro RV SB xH Tm S8 Pf VG Od Rc
 obtain ⟨Vj,Vk,Vl,Vm,Vn,Vo,Vp,Vq,_⟩:=Pf
 show OKS _ _ _ _ _ _ (.fx 8 RV .stop) SB xH
 refine ZF (cs:=B4) Z Z Z Z Z Zi Z Od ?_
 intro T4 xT Oe
 exact Rc _ _ _ _ (zY _) Oe ⟨xT,Z,Z⟩
 refine fun Wa Tc J4 Wb Td J5 Wc Te J6 Wd Tf J7 We Tg J8 Wf Th J9=>?_
 obtain ⟨lX,mT,lY,mU,lZ,mV,rfl,rfl⟩:=J4
 obtain ⟨l3,mW,l4,mX,l5,mY,rfl,rfl⟩:=J5
 obtain ⟨l6,mZ,l7,m0,l8,m4,rfl,rfl⟩:=J6
 obtain ⟨iq,rfl,rfl⟩:=J7
 obtain ⟨ir,rfl,rfl⟩:=J8
 obtain ⟨it,rfl,rfl⟩:=J9
 intro Xd xI ii Pg Q3 pg Og
 obtain ⟨Ec,Ed,Ee,Ef,Eg,Vr,Vs,Vt,_⟩:=Pg
 obtain ⟨Eh,Ei,Ej,tS,tT,tU,_⟩:=Q3
 let B9:Res:=.row lZ mV 59 2 (nA wAB be.Across)
 let jR:Res:=.row l5 mY 59 2 (nA wAB be.Across)
 let jS:Res:=.row l8 m4 59 2 (nA wAB be.Across)
 let jU:Res:=.row lX mT 3 1 (nA KL.encI be.Shots)
 let jW:Res:=.row l3 mW 3 1 (nA KL.encI be.Shots)
 let jX:Res:=.row l6 mZ 3 1 (nA KL.encI be.Shots)
 let jY:Res:=.row lY mU 3 1 (nA KL.encI be.Down)
 let jZ:Res:=.row l4 mX 3 1 (nA KL.encI be.Down)
 let j0:Res:=.row l7 m0 3 1 (nA KL.encI be.Down)
 have Oh:sW w U ii [jU,jY,B9,jW,jZ,jR,jX,j0,jS,.blk iq 25 B4,.blk ir 25 B4,.blk it 25 B4,.blk bn 59 B7,.blk bg 26 B6,.blk ba 25 B5,B1,B0] xI:=Og
 let j4:List Value:=[.slice lX be.Shots.length mT,.slice lY be.Down.length mU,.slice lZ be.Across.length mV]
 refine zu (j:=9) (vs:=j4) Z Z Z Z Oh Z tS Eh Z ze (zB Z) Z Z Z ?_
 intro xJ Oi
 have Oj:sW w U ii [jU,jY,B9,jW,jZ,jR,jX,j0,jS,.blk iq 25 j4,.blk ir 25 B4,.blk it 25 B4,.blk bn 59 B7,.blk bg 26 B6,.blk ba 25 B5,B1,B0] xJ:=Oi
 let ma:List Value:=[.slice l3 be.Shots.length mW,.slice l4 be.Down.length mX,.slice l5 be.Across.length mY]
 refine zu (j:=10) (vs:=ma) Z Z Z Z Oj Z tT Ei Z ze (zB Z) Z Z Z ?_
 intro xK Ok
 have Ol:sW w U ii [jU,jY,B9,jW,jZ,jR,jX,j0,jS,.blk iq 25 j4,.blk ir 25 ma,.blk it 25 B4,.blk bn 59 B7,.blk bg 26 B6,.blk ba 25 B5,B1,B0] xK:=Ok
 let pV:List Value:=[.slice l6 be.Shots.length mZ,.slice l7 be.Down.length m0,.slice l8 be.Across.length m4]
 refine zu (j:=11) (vs:=pV) Z Z Z Z Ol Z tU Ej Z ze (zB Z) Z Z Z ?_
 intro xL Om
 have On:sW w U ii [jU,jY,B9,jW,jZ,jR,jX,j0,jS,.blk iq 25 j4,.blk ir 25 ma,.blk it 25 pV,.blk bn 59 B7,.blk bg 26 B6,.blk ba 25 B5,B1,B0] xL:=Om
 refine ZK ?_
 cases QC
 have Kc:=lE.le ec
 have Kd:=Kc.le pg
 have Ke:=lF.le pg
 exact zQ ⟨rfl,⟨ii,dR,dW,eD,fc,iq,lX,mT,lY,mU,lZ,mV,ir,l3,mW,l4,mX,l5,mY,it,l6,mZ,l7,m0,l8,m4,Ec,Ed,Ee,Ef,Eg,tS,tT,tU,((lK.trans ec).trans pg),(On.pick [12,15,13,14,16,9,0,1,2,10,3,4,5,11,6,7,8] _ (by decide) rfl),Kd,Ke⟩⟩
 rintro Xe qL ⟨ij,dS,dX,dT,dY,bi,ci,ct,cD,cE,dv,dK,bl,cG,cM,cH,cN,dm,dA,ae,bV,bW,bp,bq,bC,bF,Ek,oe,tV,og,jf,oh,tW,tX,jx,Oo,ua,ub⟩
 refine zM (ZQ ZJ [3,1,3,3,3,3,3,1,3,3,0] (wQh (.fx 10 .nil .stop)) (by kernel_rfl) ?_)
 have jr:=Oo.drew
 generalize hw_W698:({ qL with drawn:=qL.drawn + 1 }:World)=T7 at jr ⊢
 refine oR Z (zG Z oh zF Z zR) (oL Z (jr.ldB (j:=5) Z Z Z zZ (v:=.slice ci bo.length ct) Z) (oM Z Ek (oR Z (Runs.cvw Z Z Tryz.runUnderlying5 Zn Z Z) (oM Z og (bnK uE fun bB Kf QF=>oR Z (Runs.rem Z Z Z Kf) (bnK QF fun _ dZ QG=>?_))))))
 obtain ⟨T9,lx⟩:=jr.rowSome (j:=6) rfl (by rw [wAD (f:=KL.encI) (sz:=1) (fun _=>rfl) bo];have hz:=wAN dZ;omega)
 refine oR Z (ZV Z Z lx Z zA zC (wAy dZ) (wAz dZ)) ?_
 have O3:=wBp (xs:=bo) (wAN dZ)
 refine zi rfl rfl rfl rfl (jr.ldR (j:=6) rfl lx rfl rfl zI (wAr (sz:=1) (fun _=>rfl) _ _ 0 _ O3 (by first | omega | rfl | simp) rfl)) rfl (zS rfl rfl rfl rfl (fun _=>zh rfl rfl rfl) (zS rfl rfl rfl rfl (fun _=>ZV rfl rfl lx rfl zA zC (wAy dZ) (wAz dZ)) ?_))
 have O4:=wBp (xs:=bo) (wAN dZ)
 refine OKS.stR (j:=6) (vs:=[jV (w64 ((gd bo bB.toNat) + 1))]) (cs':=nA KL.encI (nD bo bB.toNat (w64 ((gd bo bB.toNat) + 1)))) rfl rfl rfl rfl jr rfl lx rfl rfl rfl zC (by rw [wAD (f:=KL.encI) (sz:=1) (fun _=>rfl)];have hz:=wAN dZ;show _ + 1 <= _;first | omega | (simp only [nJ];omega) | (simp only [nH,nE,nG];omega)) rfl (wCg (sz:=1) (fo:=0) (fun _=>rfl) _ _ _ _ O4 (by first | omega | (simp only [nJ];omega) | (simp only [nH,nE,nG];omega)) (zB rfl) rfl) rfl ?_
 intro mE Ot
 let ab:Res:=.blk ba 25 [.slice dS d7.length dX,.slice dT d8.length dY,.slice cg ap.Across.length cr]
 let am:Res:=.row ci ct 3 1 (nA KL.encI (nD bo bB.toNat (w64 ((gd bo bB.toNat) + 1))))
 let aq:Res:=.blk ae 25 [.slice bV bG.length bW,.slice bp bm.length bq,.slice bC bA.length bF]
 let ah:Res:=.row bC bF 59 2 (nA wAB bA)
 let ai:Res:=.row cH cN 3 1 (nA KL.encI b9)
 let aj:Res:=.row cG cM 3 1 (nA KL.encI b5)
 let ak:Res:=.row cD cE 3 1 (nA KL.encI bX)
 let au:Res:=.row bp bq 3 1 (nA KL.encI bm)
 let bf:Res:=.row dv dK 59 2 (nA wAB cO)
 let bb:Res:=.row bV bW 3 1 (nA KL.encI bG)
 let bH:Res:=.blk bl 25 [.slice cG b5.length cM,.slice cH b9.length cN,.slice dm d9.length dA]
 let bM:Res:=.row dm dA 59 2 (nA wAB d9)
 have Ou:sW w U ij [.blk bn 59 B7,B1,.blk bg 26 B6,ab,B0,.blk bi 25 [.slice ci bo.length ct,.slice cD bX.length cE,.slice dv cO.length dK],am,ak,bf,bH,aj,ai,bM,aq,bb,au,ah] mE:=Ot
 let av:Res:=.blk bi 25 [.slice ci ((nD bo bB.toNat (w64 ((gd bo bB.toNat) + 1))).length) ct,.slice cD bX.length cE,.slice dv cO.length dK]
 have fV:sW w U ij [.blk bn 59 B7,B1,.blk bg 26 B6,ab,B0,av,am,ak,bf,bH,aj,ai,bM,aq,bb,au,ah] mE:=by simpa only [B0,B1,ab,am,aq,ah,ai,aj,ak,au,bf,bb,bH,bM,av,B6,B7,nL] using Ou
 refine eN (zM (bnK QG fun xU u7 QH=>CK.cut (fun σ_ w_=>∃ (U_:PHeap),σ_ 7=.pointer (some ⟨ba,0,none⟩)/\σ_ 8=.pointer (some ⟨bg,0,none⟩)/\σ_ 9=jV (↑ap.Shots.length:Int)/\σ_ 10=.pointer (some ⟨bn,0,none⟩)/\σ_ 11=.pointer (some ⟨bi,0,none⟩)/\σ_ 12=.pointer (some ⟨bl,0,none⟩)/\σ_ 13=.pointer (some ⟨ae,0,none⟩)/\σ_ 71=.bool xU/\PHeap.Le ij U_/\sW w U U_ [.blk bn 59 B7,B1,.blk bg 26 B6,ab,B0,am,ak,bf,av,aj,ai,bM,bH,bb,au,ah,aq] w_) ?_ ?_))
 refine rR (wQg (.fx 9 (.fl 10 (.fl 11 .nil)) .stop)) Z (oR Z (zG Z jf zp Z zC) (oL Z (fV.ldB (j:=0) Z Z Z zI (v:=jV x61) Z) (oR Z (zG Z jf zp Z zC) (oL Z (fV.ldB (j:=0) Z Z Z zI (v:=jV cd) Z) (oR Z (Zj Z Z Z) (oM Z Z ?_))))))
 by_cases bQ:x61=cd
 have uU:=u7;rw [if_pos bQ] at uU;replace bQ:=zL bQ
 refine zd Z Z Z (zJ Z Z (zy (fun h=>h bQ.out)) Z) (zd Z Z Z (zJ Z Z (zy (fun h=>h bQ.out)) Z) (zd Z Z Z (zJ Z Z (zy (fun h=>h bQ.out)) Z) (ZH Z Z Z (zJ Z Z (zy (fun h=>h bQ.out)) Z) (zd Z Z Z (zJ Z Z (zy (fun h=>h bQ.out)) Z) (oR Z (zf Z (zy (fun h=>h bQ.out)) Z) (ZK ?_))))))
 cases uU
 exact zQ ⟨rfl,⟨ij,oe,tV,og,jf,oh,tW,tX,rfl,(zY _),(fV.pick [0,1,2,3,4,6,7,8,5,10,11,12,9,14,15,16,13] _ (by decide) rfl)⟩⟩
 have uV:=u7;rw [if_neg bQ] at uV;replace bQ:=zL bQ
 refine rU Z (wT Z bQ) (zG Z oe zF Z ZC) (zi Z Z Z (wT Z bQ) (fV.ldB (j:=3) Z Z Z ZY (v:=.slice cg ap.Across.length cr) Z) Z (zi Z Z Z (wT Z bQ) (fV.ldBA (j:=0) Z Z jf ZT zj (vs:=B7) Z Z) Z ?_))
 have Kg:=fU.le jx
 refine bnK uV fun Ws Kh QI=>zP 0 Z Z Z (wT Z bQ) (zN Z Z Tryz.call25 (zD Z (zD Z zV)) Z) fV (fun hs=>wAh ap.Across cg cr (⟨x61,cd⟩:wAA) mE ij hs Kg Kh) (.inr Z) ?_
 rintro qt S9 Wh xM RO Ow ⟨rfl,rfl⟩
 have Oy:sW w U qt [.blk bn 59 B7,B1,.blk bg 26 B6,ab,B0,av,am,ak,bf,bH,aj,ai,bM,aq,bb,au,ah] xM:=Ow
 refine rU Z (wT Z bQ) (ZO Z Z) (oR Z (zK Z (Zo bQ.out) Z) (ZK ?_))
 cases QI
 exact zQ ⟨rfl,⟨qt,oe,tV,og,jf,oh,tW,tX,rfl,RO,(Oy.pick [0,1,2,3,4,6,7,8,5,10,11,12,9,14,15,16,13] _ (by decide) rfl)⟩⟩
 rintro Xf im ⟨fN,bT,tY,bU,oi,bN,bK,bL,tZ,ef,jt⟩
 refine ifc QH ?_ ?_
 intro m5 QJ
 refine zx (tZ.trans (congrArg nK m5.out)) (sR (wCl (.fx 3 (.fx 4 (.fl 5 (.fx 6 .nil .stop)) .stop) .stop)) Z (oR Z (zG Z bN zF Z ZC) (oL Z (jt.ldB (j:=8) Z Z Z ZY (v:=.slice dv cO.length dK) Z) (oL Z (jt.ldBA (j:=0) Z Z oi ZT zj (vs:=B7) Z Z) (zo (pv:=[(0,.agg B7.toArray)]) (zs:=B8) (cs:=B7) Z Z Z Z Z (wAK Z wAa) zt zj ZS Z Z Z Z Z jt ?_)))))
 intro xN xV Oz
 let bI:Res:=.row (some ⟨xV,0,none⟩) 1 59 2 (nA wAB [(⟨x61,cd⟩:wAA)])
 have uB:sW w U fN [bI,.blk bn 59 B7,B1,.blk bg 26 B6,ab,B0,am,ak,bf,av,aj,ai,bM,bH,bb,au,ah,aq] xN:=Oz
 refine bnK QJ fun fZ Ki QK=>ZX (j:=8) (enc:=wAB) (xs:=cO) (ys:=[(⟨x61,cd⟩:wAA)]) (zs:=fZ) rfl rfl rfl rfl rfl Tryz.underlying23 wLt rfl rfl rfl rfl rfl rfl uB rfl rfl rfl (uB.srcR (j:=0) rfl (by decide) (wAD (f:=wAB) (sz:=2) (fun _=>rfl) [(⟨x61,cd⟩:wAA)])) (fun _=>rfl) (fun _=>rfl) Ki rfl ?_
 intro dr dH xO OA
 let mb:Res:=.row dr dH 59 2 (nA wAB fZ)
 have OB:sW w U fN [bI,.blk bn 59 B7,B1,.blk bg 26 B6,ab,B0,am,ak,mb,av,aj,ai,bM,bH,bb,au,ah,aq] xO:=OA
 refine oR Z (zG Z bN zF Z ZC) (zu (j:=9) (vs:=[.slice dr fZ.length dH]) Z Z Z Z OB Z Z Z Z ZC (zB Z) Z Z Z ?_)
 intro mF OC
 let md:Res:=.blk bi 25 [.slice ci ((nD bo bB.toNat (w64 ((gd bo bB.toNat) + 1))).length) ct,.slice cD bX.length cE,.slice dr fZ.length dH]
 have uC:sW w U fN [bI,.blk bn 59 B7,B1,.blk bg 26 B6,ab,B0,am,ak,mb,md,aj,ai,bM,bH,bb,au,ah,aq] mF:=OC
 refine eN (rR gAy Z (oR Z (zG Z bN zF Z ZC) (oL Z (uC.ldB (j:=9) Z Z Z ZY (v:=.slice dr fZ.length dH) Z) ?_)))
 have Kv:FnOK Tryz.prog fN (.func (.func 27) #[] #[]) ar62 rr62 (fun x=>wAQ x.1 x.2):=⟨27,[],[],rfl,Tryz.call27,fun U1 w1 x y vs le hs ha hm=>by obtain rfl:=ha;exact wCs x.1 x.2 w1 U1 hs  hm⟩
 refine bnK QK fun ga Kj QL=>?_
 have OD:sW w U fN [mb,bI,.blk bn 59 B7,B1,.blk bg 26 B6,ab,B0,am,ak,md,aj,ai,bM,bH,bb,au,ah,aq] mF:=uC.pick [8,0,1,2,3,4,5,6,7,9,10,11,12,13,14,15,16,17] _ (by decide) rfl
 refine zP 1 Z Z Z Z (zN Z Z Tryz.call26 (zD Z (zD Z zV)) Z) OD (fun hs=>wBr fZ dr dH (fun x=>wAQ x.1 x.2) (.func (.func 27) #[] #[]) mF fN hs Kv ⟨_,_,Z⟩ Kj) (.inl Z) ?_
 rintro qu Ta Wi eL lN OE ⟨rfl,rfl,Kk⟩
 let bh:Res:=.row dr dH 59 2 (nA wAB ga)
 have OF:sW w U qu [bh,bI,.blk bn 59 B7,B1,.blk bg 26 B6,ab,B0,am,ak,md,aj,ai,bM,bH,bb,au,ah,aq] eL:=OE
 let az:Res:=.blk bi 25 [.slice ci ((nD bo bB.toNat (w64 ((gd bo bB.toNat) + 1))).length) ct,.slice cD bX.length cE,.slice dr ga.length dH]
 have uD:sW w U qu [bh,bI,.blk bn 59 B7,B1,.blk bg 26 B6,ab,B0,am,ak,az,aj,ai,bM,bH,bb,au,ah,aq] eL:=by simp only [az,Kk];exact OF
 refine eN (sR (wCl gBb) Z (oR Z (zG Z bK zF Z ZC) (oL Z (uD.ldB (j:=13) Z Z Z ZY (v:=.slice dm d9.length dA) Z) ?_)))
 have q:=uD.freeze (k:=2) rfl
 obtain ⟨qv,lO,jj,OG⟩:=q
 replace jj:=Cl.of jj
 have OH:sW w U qv [bh,bI,B1,.blk bg 26 B6,ab,B0,am,ak,az,aj,ai,bM,bH,bb,au,ah,aq] eL:=OG
 replace jj:Cl qv bn 0 B7:=jj
 have Kl:=t8.le jx
 have Km:=Kl.le ef
 have Ko:=Km.le lN
 have Kp:=Ko.le lO
 have q:=OH.freezeRR (R:=wNt) (k:=2) rfl Kp rfl (by decide)
 obtain ⟨wu,lP,Q2,OJ⟩:=q
 have OL:sW w U wu [bh,bI,.blk bg 26 B6,ab,B0,am,ak,az,aj,ai,bM,bH,bb,au,ah,aq] eL:=OJ
 have q:=OL.freeze (k:=2) rfl
 obtain ⟨ik,jy,jk,OI⟩:=q
 replace jk:=Cl.of jk
 have OM:sW w U ik [bh,bI,ab,B0,am,ak,az,aj,ai,bM,bH,bb,au,ah,aq] eL:=OI
 replace jk:Cl ik bg 0 B6:=jk
 refine oR Z (Runs.mkf Z zV (zD oi (zD tY zV))) ?_
 have Kq:=jj.le lP
 have Kr:=Kq.le jy
 have Ks:=Q2.le jy
 have Kw:FnOK Tryz.prog ik (.func (.func 29) #[] #[.pointer (some ⟨bn,0,none⟩),.pointer (some ⟨bg,0,none⟩)]) wMv wMw (fun x=>wAL x (⟨x61,cd⟩:wAA) eh):=⟨29,[],[.pointer (some ⟨bn,0,none⟩),.pointer (some ⟨bg,0,none⟩)],rfl,Tryz.call29,fun U1 w1 x y vs le hs ha hm=>by obtain rfl:=ha;exact wBv x (⟨x61,cd⟩:wAA) bn eh bg gT i9 w1 U1 hs (Kr.le le) (jk.le le) (Ks.le le) hm⟩
 refine bnK QL fun fE Kt QM=>?_
 have ON:sW w U ik [bM,bh,bI,ab,B0,am,ak,az,aj,ai,bH,bb,au,ah,aq] eL:=OM.pick [9,0,1,2,3,4,5,6,7,8,10,11,12,13,14] _ (by decide) rfl
 refine zP 1 Z Z Z Z (zN Z Z Tryz.call28 (zD Z (zD Z zV)) Z) ON (fun hs=>wBC d9 dm dA (fun x=>wAL x (⟨x61,cd⟩:wAA) eh) (.func (.func 29) #[] #[.pointer (some ⟨bn,0,none⟩),.pointer (some ⟨bg,0,none⟩)]) eL ik hs Kw Kt) (.inl Z) ?_
 rintro bw Tb Wj xP ph OO ⟨gU,ja,rfl,rfl⟩
 let bj:Res:=.row gU ja 59 2 (nA wAB fE)
 have OP:sW w U bw [bj,bh,bI,ab,B0,am,ak,az,aj,ai,bH,bb,au,ah,aq] xP:=OO
 refine oR Z (zG Z bK zF Z ZC) (zu (j:=10) (vs:=[.slice gU fE.length ja]) Z Z Z Z OP Z Z Z Z ZC (zB Z) Z Z Z ?_)
 intro mG OQ
 let aY:Res:=.blk bl 25 [.slice cG b5.length cM,.slice cH b9.length cN,.slice gU fE.length ja]
 have OR:sW w U bw [bj,bh,bI,ab,B0,am,ak,az,aj,ai,aY,bb,au,ah,aq] mG:=OQ
 refine eN ?_
 have q:=bnd QM
 obtain ⟨⟨de,df⟩,Q6,cV⟩:=q
 try dsimp only at cV
 refine CK.cut (fun σ_ w_=>∃ (U_:PHeap) (dt:Option Addr) (dI:Nat) (du:Option Addr) (dJ:Nat),σ_ 7=.pointer (some ⟨ba,0,none⟩)/\σ_ 9=jV (↑ap.Shots.length:Int)/\σ_ 11=.pointer (some ⟨bi,0,none⟩)/\σ_ 12=.pointer (some ⟨bl,0,none⟩)/\σ_ 13=.pointer (some ⟨ae,0,none⟩)/\PHeap.Le bw U_/\sW w U U_ [ab,B0,am,ak,bh,az,aj,ai,bj,aY,.row dt dI 3 1 (nA KL.encI de),.row du dJ 3 1 (nA KL.encI df),ah,.blk ae 25 [.slice dt de.length dI,.slice du df.length dJ,.slice bC bA.length bF]] w_) ?_ ?_
 refine bnK Q6 fun bs lw QN=>bnK QN fun bZ uc QO=>ZQ ZJ [3,1,2,0,3,2,2,0,3,0,3,0] gBn (by kernel_rfl) ?_
 have fh:=OR.drew
 generalize hw_W861:({ mG with drawn:=mG.drawn + 1 }:World)=T8 at fh ⊢
 refine Zb (s:=.nil) (M:=fun σ_ w_=>∃ (U_:PHeap) (gW:Option Addr) (jb:Nat) (gX:Option Addr) (jc:Nat) (l9:Option Addr) (m6:Nat) (lS:Option Addr) (mM:Nat),σ_ 7=.pointer (some ⟨ba,0,none⟩)/\σ_ 9=jV (↑ap.Shots.length:Int)/\σ_ 11=.pointer (some ⟨bi,0,none⟩)/\σ_ 12=.pointer (some ⟨bl,0,none⟩)/\σ_ 13=.pointer (some ⟨ae,0,none⟩)/\σ_ 86=.pointer (some ⟨ae,0,none⟩)/\σ_ 88=.slice l9 ([5].length) m6/\σ_ 89=.slice gW bs.length jb/\σ_ 90=.pointer (some ⟨ae,1,none⟩)/\σ_ 92=.slice lS ([2].length) mM/\σ_ 93=.slice gX bZ.length jc/\σ_ 94=.pointer (some ⟨ae,0,none⟩)/\σ_ 95=.pointer (some ⟨ae,1,none⟩)/\PHeap.Le bw U_/\sW w U U_ [ab,B0,am,ak,bh,az,aj,ai,bj,aY,.row gW jb 3 1 (nA KL.encI bs),.row gX jc 3 1 (nA KL.encI bZ),ah,.blk ae 25 [.slice gW bs.length jb,.slice gX bZ.length jc,.slice bC bA.length bF],.row l9 m6 3 1 (nA KL.encI [5]),.row lS mM 3 1 (nA KL.encI [2])] w_) ?_ fun Rd=>?_
 rintro Wx Tn ⟨vJ,gW,jb,gX,jc,l9,m6,lS,mM,yE,yF,yG,yH,yI,Ua,Ub,Uc,Ud,Ue,Uf,Ug,Uh,Rj,Kx⟩
 refine ZK ?_
 cases QO
 exact zQ ⟨rfl,⟨vJ,gW,jb,gX,jc,yE,yF,yG,yH,yI,Rj,(Kx.pick [0,1,2,3,4,5,6,7,8,9,10,11,12,13] _ (by decide) rfl)⟩⟩
 refine Zb (s:=gAw) (M:=fun σ_ w_=>∃ (U_:PHeap) (ei:Option Addr) (eM:Nat) (gb:Option Addr) (iu:Nat) (gc:Option Addr) (iv:Nat) (ej:Option Addr) (eO:Nat),σ_ 7=.pointer (some ⟨ba,0,none⟩)/\σ_ 9=jV (↑ap.Shots.length:Int)/\σ_ 11=.pointer (some ⟨bi,0,none⟩)/\σ_ 12=.pointer (some ⟨bl,0,none⟩)/\σ_ 13=.pointer (some ⟨ae,0,none⟩)/\σ_ 86=.pointer (some ⟨ae,0,none⟩)/\σ_ 88=.slice gb ([5].length) iu/\σ_ 89=.slice ei bs.length eM/\σ_ 90=.pointer (some ⟨ae,1,none⟩)/\σ_ 92=.slice gc ([2].length) iv/\σ_ 93=.slice ej bZ.length eO/\σ_ 94=.pointer (some ⟨ae,0,none⟩)/\PHeap.Le bw U_/\sW w U U_ [ab,B0,am,ak,bh,az,aj,ai,bj,aY,.row ei eM 3 1 (nA KL.encI bs),ah,.blk ae 25 [.slice ei bs.length eM,.slice bp bm.length bq,.slice bC bA.length bF],.row gb iu 3 1 (nA KL.encI [5]),.row gc iv 3 1 (nA KL.encI [2]),.row ej eO 3 1 (nA KL.encI bZ)] w_) ?_ fun Re=>?_
 rintro Wy To ⟨p7,ei,eM,gb,iu,gc,iv,ej,eO,yJ,yK,yL,yM,r9,yN,yO,yP,yQ,yR,sb,yS,Rk,Ky⟩
 refine oR Z (zG Z r9 zF Z zR) (zu (j:=12) (vs:=[.slice ej bZ.length eO]) Z Z Z Z Ky Z Z sb Z zR (zB Z) Z Z Z ?_)
 intro wv Kz
 have KA:sW w U p7 [ab,B0,am,ak,bh,az,aj,ai,bj,aY,.row ei eM 3 1 (nA KL.encI bs),ah,.blk ae 25 [.slice ei bs.length eM,.slice ej bZ.length eO,.slice bC bA.length bF],.row gb iu 3 1 (nA KL.encI [5]),.row gc iv 3 1 (nA KL.encI [2]),.row ej eO 3 1 (nA KL.encI bZ)] wv:=Kz
 exact Rd _ _ ⟨p7,ei,eM,ej,eO,gb,iu,gc,iv,yJ,yK,yL,yM,r9,yN,yO,yP,yQ,yR,sb,yS,rfl,Rk,(KA.pick [0,1,2,3,4,5,6,7,8,9,10,15,11,12,13,14] _ (by decide) rfl)⟩
 refine Zb (s:=gBc) (M:=fun σ_ w_=>∃ (U_:PHeap) (ge:Option Addr) (iw:Nat) (en:Option Addr) (eP:Nat) (gf:Option Addr) (iy:Nat) (gg:Option Addr) (iz:Nat),σ_ 7=.pointer (some ⟨ba,0,none⟩)/\σ_ 9=jV (↑ap.Shots.length:Int)/\σ_ 11=.pointer (some ⟨bi,0,none⟩)/\σ_ 12=.pointer (some ⟨bl,0,none⟩)/\σ_ 13=.pointer (some ⟨ae,0,none⟩)/\σ_ 86=.pointer (some ⟨ae,0,none⟩)/\σ_ 88=.slice ge ([5].length) iw/\σ_ 89=.slice en bs.length eP/\σ_ 90=.pointer (some ⟨ae,1,none⟩)/\σ_ 92=.slice gf ([2].length) iy/\σ_ 93=.slice gg bZ.length iz/\σ_ 94=.pointer (some ⟨ae,0,none⟩)/\PHeap.Le bw U_/\sW w U U_ [ab,B0,am,ak,bh,az,aj,ai,bj,aY,ah,aq,.row ge iw 3 1 (nA KL.encI [5]),.row en eP 3 1 (nA KL.encI bs),.row gf iy 3 1 (nA KL.encI [2]),.row gg iz 3 1 (nA KL.encI bZ)] w_) ?_ fun u9=>?_
 rintro Wz Tp ⟨p8,ge,iw,en,eP,gf,iy,gg,iz,yT,yU,yV,yW,yX,yY,yZ,sc,y4,y5,y6,sd,Rm,KB⟩
 refine zu (j:=11) (vs:=[.slice en bs.length eP]) Z Z Z Z KB Z sd sc Z zR (zB Z) Z Z Z ?_
 intro ww KC
 have KD:sW w U p8 [ab,B0,am,ak,bh,az,aj,ai,bj,aY,ah,.blk ae 25 [.slice en bs.length eP,.slice bp bm.length bq,.slice bC bA.length bF],.row ge iw 3 1 (nA KL.encI [5]),.row en eP 3 1 (nA KL.encI bs),.row gf iy 3 1 (nA KL.encI [2]),.row gg iz 3 1 (nA KL.encI bZ)] ww:=KC
 exact Re _ _ ⟨p8,en,eP,ge,iw,gf,iy,gg,iz,yT,yU,yV,yW,yX,yY,yZ,sc,y4,y5,y6,sd,Rm,(KD.pick [0,1,2,3,4,5,6,7,8,9,13,10,11,12,14,15] _ (by decide) rfl)⟩
 refine Zb (s:=gBf) (M:=fun σ_ w_=>∃ (U_:PHeap) (gh:Option Addr) (iA:Nat) (gi:Option Addr) (iB:Nat) (gj:Option Addr) (iC:Nat),σ_ 7=.pointer (some ⟨ba,0,none⟩)/\σ_ 9=jV (↑ap.Shots.length:Int)/\σ_ 11=.pointer (some ⟨bi,0,none⟩)/\σ_ 12=.pointer (some ⟨bl,0,none⟩)/\σ_ 13=.pointer (some ⟨ae,0,none⟩)/\σ_ 86=.pointer (some ⟨ae,0,none⟩)/\σ_ 88=.slice gh ([5].length) iA/\σ_ 89=.slice gi bs.length iB/\σ_ 90=.pointer (some ⟨ae,1,none⟩)/\σ_ 91=.slice bp bm.length bq/\σ_ 92=.slice gj ([2].length) iC/\σ_ 94=.pointer (some ⟨ae,0,none⟩)/\PHeap.Le bw U_/\sW w U U_ [ab,B0,am,ak,bh,az,aj,ai,bj,aY,au,ah,aq,.row gh iA 3 1 (nA KL.encI [5]),.row gi iB 3 1 (nA KL.encI bs),.row gj iC 3 1 (nA KL.encI [2])] w_) ?_ fun Rf=>?_
 rintro WA Tq ⟨p9,gh,iA,gi,iB,gj,iC,y7,y8,y9,z6,z7,z8,Aa,Ab,Ac,Ae,se,Af,Rn,ud⟩
 refine ZX (j:=10) (enc:=KL.encI) (xs:=bm) (ys:=[2]) (zs:=bZ) rfl rfl rfl rfl rfl ZE wDl rfl rfl rfl rfl rfl rfl ud rfl Ae se (ud.srcR (j:=15) rfl (by decide) (wAD (f:=KL.encI) (sz:=1) (fun _=>rfl) [2])) (fun _=>rfl) (fun _=>rfl) uc rfl ?_
 intro pn ro wx KE
 have KF:sW w U p9 [ab,B0,am,ak,bh,az,aj,ai,bj,aY,.row pn ro 3 1 (nA KL.encI bZ),ah,aq,.row gh iA 3 1 (nA KL.encI [5]),.row gi iB 3 1 (nA KL.encI bs),.row gj iC 3 1 (nA KL.encI [2])] wx:=KE
 exact u9 _ _ ⟨p9,gh,iA,gi,iB,gj,iC,pn,ro,y7,y8,y9,z6,z7,z8,Aa,Ab,Ac,se,rfl,Af,Rn,(KF.pick [0,1,2,3,4,5,6,7,8,9,11,12,13,14,15,10] _ (by decide) rfl)⟩
 refine Zb (s:=gBg) (M:=fun σ_ w_=>∃ (U_:PHeap) (gm:Option Addr) (iD:Nat) (gp:Option Addr) (iE:Nat) (gu:Option Addr) (iF:Nat),σ_ 7=.pointer (some ⟨ba,0,none⟩)/\σ_ 9=jV (↑ap.Shots.length:Int)/\σ_ 11=.pointer (some ⟨bi,0,none⟩)/\σ_ 12=.pointer (some ⟨bl,0,none⟩)/\σ_ 13=.pointer (some ⟨ae,0,none⟩)/\σ_ 86=.pointer (some ⟨ae,0,none⟩)/\σ_ 88=.slice gm ([5].length) iD/\σ_ 89=.slice gp bs.length iE/\σ_ 90=.pointer (some ⟨ae,1,none⟩)/\σ_ 91=.slice bp bm.length bq/\σ_ 92=.slice gu ([2].length) iF/\PHeap.Le bw U_/\sW w U U_ [ab,B0,am,ak,bh,az,aj,ai,bj,aY,au,ah,aq,.row gm iD 3 1 (nA KL.encI [5]),.row gp iE 3 1 (nA KL.encI bs),.row gu iF 3 1 (nA KL.encI [2])] w_) ?_ fun va=>?_
 rintro WB Ts ⟨qa,gm,iD,gp,iE,gu,iF,Ag,Ah,Ai,Aj,sf,Ak,Al,Am,An,Ao,sg,Ro,ue⟩
 refine zS rfl rfl rfl rfl (fun _=>zG rfl sf zF rfl zR) (ZX (j:=10) (enc:=KL.encI) (xs:=bm) (ys:=[2]) (zs:=bZ) rfl rfl rfl rfl rfl ZE wDl rfl rfl rfl rfl rfl rfl ue rfl Ao sg (ue.srcR (j:=15) rfl (by decide) (wAD (f:=KL.encI) (sz:=1) (fun _=>rfl) [2])) (fun _=>rfl) (fun _=>rfl) uc rfl ?_)
 intro po rp wy KG
 have KH:sW w U qa [ab,B0,am,ak,bh,az,aj,ai,bj,aY,.row po rp 3 1 (nA KL.encI bZ),ah,aq,.row gm iD 3 1 (nA KL.encI [5]),.row gp iE 3 1 (nA KL.encI bs),.row gu iF 3 1 (nA KL.encI [2])] wy:=KG
 exact u9 _ _ ⟨qa,gm,iD,gp,iE,gu,iF,po,rp,Ag,Ah,Ai,Aj,sf,Ak,Al,Am,An,sg,rfl,rfl,Ro,(KH.pick [0,1,2,3,4,5,6,7,8,9,11,12,13,14,15,10] _ (by decide) rfl)⟩
 refine Zb (s:=gBj) (M:=fun σ_ w_=>∃ (U_:PHeap) (gv:Option Addr) (iG:Nat) (gw:Option Addr) (iH:Nat),σ_ 7=.pointer (some ⟨ba,0,none⟩)/\σ_ 9=jV (↑ap.Shots.length:Int)/\σ_ 11=.pointer (some ⟨bi,0,none⟩)/\σ_ 12=.pointer (some ⟨bl,0,none⟩)/\σ_ 13=.pointer (some ⟨ae,0,none⟩)/\σ_ 86=.pointer (some ⟨ae,0,none⟩)/\σ_ 87=.slice bV bG.length bW/\σ_ 88=.slice gv ([5].length) iG/\σ_ 90=.pointer (some ⟨ae,1,none⟩)/\σ_ 91=.slice bp bm.length bq/\σ_ 92=.slice gw ([2].length) iH/\PHeap.Le bw U_/\sW w U U_ [ab,B0,am,ak,bh,az,aj,ai,bj,aY,bb,au,ah,aq,.row gv iG 3 1 (nA KL.encI [5]),.row gw iH 3 1 (nA KL.encI [2])] w_) ?_ fun oX=>?_
 rintro WC Tt ⟨qb,gv,iG,gw,iH,Ap,Aq,Ar,As,Au,Av,Aw,sk,Ax,Ay,Az,Rp,uf⟩
 refine ZX (j:=10) (enc:=KL.encI) (xs:=bG) (ys:=[5]) (zs:=bs) rfl rfl rfl rfl rfl ZE wDl rfl rfl rfl rfl rfl rfl uf rfl Aw sk (uf.srcR (j:=14) rfl (by decide) (wAD (f:=KL.encI) (sz:=1) (fun _=>rfl) [5])) (fun _=>rfl) (fun _=>rfl) lw rfl ?_
 intro pp rq wz KI
 have KJ:sW w U qb [ab,B0,am,ak,bh,az,aj,ai,bj,aY,.row pp rq 3 1 (nA KL.encI bs),au,ah,aq,.row gv iG 3 1 (nA KL.encI [5]),.row gw iH 3 1 (nA KL.encI [2])] wz:=KI
 exact va _ _ ⟨qb,gv,iG,pp,rq,gw,iH,Ap,Aq,Ar,As,Au,Av,sk,rfl,Ax,Ay,Az,Rp,(KJ.pick [0,1,2,3,4,5,6,7,8,9,11,12,13,14,10,15] _ (by decide) rfl)⟩
 refine Zb (s:=gBi) (M:=fun σ_ w_=>∃ (U_:PHeap) (jL:Option Addr) (lm:Nat) (jM:Option Addr) (ln:Nat) (jN:Option Addr) (lp:Nat),σ_ 7=.pointer (some ⟨ba,0,none⟩)/\σ_ 9=jV (↑ap.Shots.length:Int)/\σ_ 11=.pointer (some ⟨bi,0,none⟩)/\σ_ 12=.pointer (some ⟨bl,0,none⟩)/\σ_ 13=.pointer (some ⟨ae,0,none⟩)/\σ_ 86=.pointer (some ⟨ae,0,none⟩)/\σ_ 88=.slice jL ([5].length) lm/\σ_ 89=.slice jM bs.length ln/\σ_ 90=.pointer (some ⟨ae,1,none⟩)/\σ_ 92=.slice jN ([2].length) lp/\PHeap.Le bw U_/\sW w U U_ [ab,B0,am,ak,bh,az,aj,ai,bj,aY,au,ah,aq,.row jL lm 3 1 (nA KL.encI [5]),.row jM ln 3 1 (nA KL.encI bs),.row jN lp 3 1 (nA KL.encI [2])] w_) ?_ fun vb=>?_
 rintro WD Tu ⟨vK,jL,lm,jM,ln,jN,lp,AA,AD,AE,AG,AI,AJ,AL,AM,sq,AN,Rq,ug⟩
 exact OKS.mx2 Z Z Z Z (ug.ldB (j:=12) Z Z sq zZ (v:=.slice bp bm.length bq) Z) (va _ _ ⟨vK,jL,lm,jM,ln,jN,lp,AA,AD,AE,AG,AI,AJ,AL,AM,sq,Z,AN,Rq,ug⟩)
 refine Zb (s:=gBh) (M:=fun σ_ w_=>∃ (U_:PHeap) (gx:Option Addr) (iI:Nat) (gy:Option Addr) (iJ:Nat),σ_ 7=.pointer (some ⟨ba,0,none⟩)/\σ_ 9=jV (↑ap.Shots.length:Int)/\σ_ 11=.pointer (some ⟨bi,0,none⟩)/\σ_ 12=.pointer (some ⟨bl,0,none⟩)/\σ_ 13=.pointer (some ⟨ae,0,none⟩)/\σ_ 86=.pointer (some ⟨ae,0,none⟩)/\σ_ 88=.slice gx ([5].length) iI/\σ_ 89=.slice gy bs.length iJ/\σ_ 90=.pointer (some ⟨ae,1,none⟩)/\σ_ 91=.slice bp bm.length bq/\PHeap.Le bw U_/\sW w U U_ [ab,B0,am,ak,bh,az,aj,ai,bj,aY,au,ah,aq,.row gx iI 3 1 (nA KL.encI [5]),.row gy iJ 3 1 (nA KL.encI bs)] w_) ?_ fun vc=>?_
 rintro WE Tv ⟨qc,gx,iI,gy,iJ,AP,AQ,AS,AT,ss,AU,AW,AX,AY,AZ,Rr,KK⟩
 refine oR Z (zG Z ss zF Z zR) (zo (pv:=[(0,jV 2)]) (zs:=[jV 0]) (cs:=[jV 2]) Z Z Z Z Z (wAK Z wAa) zA zC zm Z Z Z Z Z KK ?_)
 intro wA qN KM
 have KN:sW w U qc [.row (some ⟨qN,0,none⟩) 1 3 1 (nA KL.encI [2]),ab,B0,am,ak,bh,az,aj,ai,bj,aY,au,ah,aq,.row gx iI 3 1 (nA KL.encI [5]),.row gy iJ 3 1 (nA KL.encI bs)] wA:=KM
 exact Rf _ _ ⟨qc,gx,iI,gy,iJ,(some ⟨qN,0,none⟩),1,AP,AQ,AS,AT,ss,AU,AW,AX,AY,AZ,rfl,rfl,Rr,(KN.pick [1,2,3,4,5,6,7,8,9,10,11,12,13,14,15,0] _ (by decide) rfl)⟩
 refine Zb (s:=gBk) (M:=fun σ_ w_=>∃ (U_:PHeap) (gz:Option Addr) (iK:Nat),σ_ 7=.pointer (some ⟨ba,0,none⟩)/\σ_ 9=jV (↑ap.Shots.length:Int)/\σ_ 11=.pointer (some ⟨bi,0,none⟩)/\σ_ 12=.pointer (some ⟨bl,0,none⟩)/\σ_ 13=.pointer (some ⟨ae,0,none⟩)/\σ_ 86=.pointer (some ⟨ae,0,none⟩)/\σ_ 87=.slice bV bG.length bW/\σ_ 90=.pointer (some ⟨ae,1,none⟩)/\σ_ 91=.slice bp bm.length bq/\σ_ 92=.slice gz ([2].length) iK/\PHeap.Le bw U_/\sW w U U_ [ab,B0,am,ak,bh,az,aj,ai,bj,aY,bb,au,ah,aq,.row gz iK 3 1 (nA KL.encI [2])] w_) ?_ fun vd=>?_
 rintro WG Tw ⟨qd,gz,iK,A4,A5,A6,A8,A9,Ba,Bb,Bc,Bd,Be,Rs,KO⟩
 refine zo (pv:=[(0,jV 5)]) (zs:=[jV 0]) (cs:=[jV 5]) Z Z Z Z Z (wAK Z wAa) zA zC zm Z Z Z Z Z KO ?_
 intro wB qO KP
 have KQ:sW w U qd [.row (some ⟨qO,0,none⟩) 1 3 1 (nA KL.encI [5]),ab,B0,am,ak,bh,az,aj,ai,bj,aY,bb,au,ah,aq,.row gz iK 3 1 (nA KL.encI [2])] wB:=KP
 exact oX _ _ ⟨qd,(some ⟨qO,0,none⟩),1,gz,iK,A4,A5,A6,A8,A9,Ba,Bb,rfl,Bc,Bd,Be,Rs,(KQ.pick [1,2,3,4,5,6,7,8,9,10,11,12,13,14,0,15] _ (by decide) rfl)⟩
 refine Zb (s:=gBm) (M:=fun σ_ w_=>∃ (U_:PHeap) (fG:Option Addr) (fQ:Nat) (fH:Option Addr) (fR:Nat),σ_ 7=.pointer (some ⟨ba,0,none⟩)/\σ_ 9=jV (↑ap.Shots.length:Int)/\σ_ 11=.pointer (some ⟨bi,0,none⟩)/\σ_ 12=.pointer (some ⟨bl,0,none⟩)/\σ_ 13=.pointer (some ⟨ae,0,none⟩)/\σ_ 86=.pointer (some ⟨ae,0,none⟩)/\σ_ 87=.slice bV bG.length bW/\σ_ 88=.slice fG ([5].length) fQ/\σ_ 90=.pointer (some ⟨ae,1,none⟩)/\σ_ 92=.slice fH ([2].length) fR/\PHeap.Le bw U_/\sW w U U_ [ab,B0,am,ak,bh,az,aj,ai,bj,aY,bb,au,ah,aq,.row fG fQ 3 1 (nA KL.encI [5]),.row fH fR 3 1 (nA KL.encI [2])] w_) ?_ fun ve=>?_
 rintro WH Tx ⟨mf,fG,fQ,fH,fR,su,sv,sw,sA,sB,sC,sD,m7,m8,sE,vq,ly⟩
 refine Zk ?_ ?_
 refine ZX (j:=10) (enc:=KL.encI) (xs:=bG) (ys:=[5]) (zs:=bs) rfl rfl rfl rfl rfl ZE wDl rfl rfl rfl rfl rfl rfl ly rfl sD m7 (ly.srcR (j:=14) rfl (by decide) (wAD (f:=KL.encI) (sz:=1) (fun _=>rfl) [5])) (fun _=>rfl) (fun _=>rfl) lw rfl ?_
 intro pq ru wC KR
 have KS:sW w U mf [ab,B0,am,ak,bh,az,aj,ai,bj,aY,.row pq ru 3 1 (nA KL.encI bs),au,ah,aq,.row fG fQ 3 1 (nA KL.encI [5]),.row fH fR 3 1 (nA KL.encI [2])] wC:=KR
 exact vb _ _ ⟨mf,fG,fQ,pq,ru,fH,fR,su,sv,sw,sA,sB,sC,m7,rfl,m8,sE,vq,(KS.pick [0,1,2,3,4,5,6,7,8,9,11,12,13,14,10,15] _ (by decide) rfl)⟩
 exact OKS.mx2 Z Z Z Z (ly.ldB (j:=13) Z Z m8 zZ (v:=.slice bp bm.length bq) Z) (oX _ _ ⟨mf,fG,fQ,fH,fR,su,sv,sw,sA,sB,sC,sD,m7,m8,Z,sE,vq,ly⟩)
 refine Zb (s:=gBl) (M:=fun σ_ w_=>∃ (U_:PHeap) (eu:Option Addr) (eQ:Nat),σ_ 7=.pointer (some ⟨ba,0,none⟩)/\σ_ 9=jV (↑ap.Shots.length:Int)/\σ_ 11=.pointer (some ⟨bi,0,none⟩)/\σ_ 12=.pointer (some ⟨bl,0,none⟩)/\σ_ 13=.pointer (some ⟨ae,0,none⟩)/\σ_ 86=.pointer (some ⟨ae,0,none⟩)/\σ_ 87=.slice bV bG.length bW/\σ_ 88=.slice eu ([5].length) eQ/\σ_ 90=.pointer (some ⟨ae,1,none⟩)/\σ_ 91=.slice bp bm.length bq/\PHeap.Le bw U_/\sW w U U_ [ab,B0,am,ak,bh,az,aj,ai,bj,aY,bb,au,ah,aq,.row eu eQ 3 1 (nA KL.encI [5])] w_) ?_ fun vg=>?_
 rintro WI Ty ⟨j9,eu,eQ,sF,sG,sH,sI,sJ,sK,sL,m9,sM,sN,vr,ou⟩
 refine Zk ?_ ?_
 refine ZX (j:=10) (enc:=KL.encI) (xs:=bG) (ys:=[5]) (zs:=bs) rfl rfl rfl rfl rfl ZE wDl rfl rfl rfl rfl rfl rfl ou rfl sL m9 (ou.srcR (j:=14) rfl (by decide) (wAD (f:=KL.encI) (sz:=1) (fun _=>rfl) [5])) (fun _=>rfl) (fun _=>rfl) lw rfl ?_
 intro pt rx wD KT
 have KU:sW w U j9 [ab,B0,am,ak,bh,az,aj,ai,bj,aY,.row pt rx 3 1 (nA KL.encI bs),au,ah,aq,.row eu eQ 3 1 (nA KL.encI [5])] wD:=KT
 exact vc _ _ ⟨j9,eu,eQ,pt,rx,sF,sG,sH,sI,sJ,sK,m9,rfl,sM,sN,vr,(KU.pick [0,1,2,3,4,5,6,7,8,9,11,12,13,14,10] _ (by decide) rfl)⟩
 refine zo (pv:=[(0,jV 2)]) (zs:=[jV 0]) (cs:=[jV 2]) Z Z Z Z Z (wAK Z wAa) zA zC zm Z Z Z Z Z ou ?_
 intro wE qP KV
 have KW:sW w U j9 [.row (some ⟨qP,0,none⟩) 1 3 1 (nA KL.encI [2]),ab,B0,am,ak,bh,az,aj,ai,bj,aY,bb,au,ah,aq,.row eu eQ 3 1 (nA KL.encI [5])] wE:=KV
 exact oX _ _ ⟨j9,eu,eQ,(some ⟨qP,0,none⟩),1,sF,sG,sH,sI,sJ,sK,sL,m9,sM,sN,rfl,vr,(KW.pick [1,2,3,4,5,6,7,8,9,10,11,12,13,14,15,0] _ (by decide) rfl)⟩
 refine oR Z (zG Z bL zF Z zR) (oL Z (fh.ldB (j:=14) Z Z Z zZ (v:=.slice bV bG.length bW) Z) (oR Z (zG Z bL zF Z zR) (Zk ?_ ?_)))
 refine zo (pv:=[(0,jV 5)]) (zs:=[jV 0]) (cs:=[jV 5]) Z Z Z Z Z (wAK Z wAa) zA zC zm Z Z Z Z Z fh ?_
 intro wG io KY
 let j6:Res:=.row (some ⟨io,0,none⟩) 1 3 1 (nA KL.encI [5])
 have jl:sW w U bw [j6,bj,bh,bI,ab,B0,am,ak,az,aj,ai,aY,bb,au,ah,aq] wG:=KY
 refine Zk ?_ ?_
 refine ZX (j:=12) (enc:=KL.encI) (xs:=bG) (ys:=[5]) (zs:=bs) rfl rfl rfl rfl rfl ZE wDl rfl rfl rfl rfl rfl rfl jl rfl rfl rfl (jl.srcR (j:=0) rfl (by decide) (wAD (f:=KL.encI) (sz:=1) (fun _=>rfl) [5])) (fun _=>rfl) (fun _=>rfl) lw rfl ?_
 intro lT mN wH KZ
 let pW:Res:=.row lT mN 3 1 (nA KL.encI bs)
 have ow:sW w U bw [j6,bj,bh,bI,ab,B0,am,ak,az,aj,ai,aY,pW,au,ah,aq] wH:=KZ
 refine Zk ?_ ?_
 exact OKS.mx2 rfl rfl rfl rfl (ow.ldB (j:=15) rfl rfl rfl zZ (v:=.slice bp bm.length bq) rfl) (vc _ _ ⟨bw,(some ⟨io,0,none⟩),1,lT,mN,bT,bU,bN,bK,bL,rfl,rfl,rfl,rfl,rfl,(zY _),(ow.pick [4,5,6,7,2,8,9,10,1,11,13,14,15,0,12] _ (by decide) rfl)⟩)
 refine zo (pv:=[(0,jV 2)]) (zs:=[jV 0]) (cs:=[jV 2]) Z Z Z Z Z (wAK Z wAa) zA zC zm Z Z Z Z Z ow ?_
 intro wI qQ K0
 have K1:sW w U bw [.row (some ⟨qQ,0,none⟩) 1 3 1 (nA KL.encI [2]),j6,bj,bh,bI,ab,B0,am,ak,az,aj,ai,aY,pW,au,ah,aq] wI:=K0
 exact vb _ _ ⟨bw,(some ⟨io,0,none⟩),1,lT,mN,(some ⟨qQ,0,none⟩),1,bT,bU,bN,bK,bL,rfl,rfl,rfl,rfl,rfl,(zY _),(K1.pick [5,6,7,8,3,9,10,11,2,12,14,15,16,1,13,0] _ (by decide) rfl)⟩
 refine Zk ?_ ?_
 exact OKS.mx2 rfl rfl rfl rfl (jl.ldB (j:=15) rfl rfl rfl zZ (v:=.slice bp bm.length bq) rfl) (vg _ _ ⟨bw,(some ⟨io,0,none⟩),1,bT,bU,bN,bK,bL,rfl,rfl,rfl,rfl,rfl,(zY _),(jl.pick [4,5,6,7,2,8,9,10,1,11,12,13,14,15,0] _ (by decide) rfl)⟩)
 refine zo (pv:=[(0,jV 2)]) (zs:=[jV 0]) (cs:=[jV 2]) Z Z Z Z Z (wAK Z wAa) zA zC zm Z Z Z Z Z jl ?_
 intro wJ qR K3
 have K5:sW w U bw [.row (some ⟨qR,0,none⟩) 1 3 1 (nA KL.encI [2]),j6,bj,bh,bI,ab,B0,am,ak,az,aj,ai,aY,bb,au,ah,aq] wJ:=K3
 exact ve _ _ ⟨bw,(some ⟨io,0,none⟩),1,(some ⟨qR,0,none⟩),1,bT,bU,bN,bK,bL,rfl,rfl,rfl,rfl,rfl,(zY _),(K5.pick [5,6,7,8,3,9,10,11,2,12,13,14,15,16,1,0] _ (by decide) rfl)⟩
 refine Zk ?_ ?_
 refine OKS.mx2 Z Z Z Z (fh.ldB (j:=14) Z Z Z zZ (v:=.slice bp bm.length bq) Z) (Zk ?_ ?_)
 refine zo (pv:=[(0,jV 5)]) (zs:=[jV 0]) (cs:=[jV 5]) Z Z Z Z Z (wAK Z wAa) zA zC zm Z Z Z Z Z fh ?_
 intro wK qS K6
 have K7:sW w U bw [.row (some ⟨qS,0,none⟩) 1 3 1 (nA KL.encI [5]),bj,bh,bI,ab,B0,am,ak,az,aj,ai,aY,bb,au,ah,aq] wK:=K6
 exact vg _ _ ⟨bw,(some ⟨qS,0,none⟩),1,bT,bU,bN,bK,bL,rfl,rfl,rfl,rfl,rfl,(zY _),(K7.pick [4,5,6,7,2,8,9,10,1,11,12,13,14,15,0] _ (by decide) rfl)⟩
 refine zo (pv:=[(0,jV 2)]) (zs:=[jV 0]) (cs:=[jV 2]) Z Z Z Z Z (wAK Z wAa) zA zC zm Z Z Z Z Z fh ?_
 intro wL qT K8
 have K9:sW w U bw [.row (some ⟨qT,0,none⟩) 1 3 1 (nA KL.encI [2]),bj,bh,bI,ab,B0,am,ak,az,aj,ai,aY,bb,au,ah,aq] wL:=K8
 exact vd _ _ ⟨bw,(some ⟨qT,0,none⟩),1,bT,bU,bN,bK,bL,rfl,rfl,rfl,rfl,rfl,(zY _),(K9.pick [4,5,6,7,2,8,9,10,1,11,12,13,14,15,0] _ (by decide) rfl)⟩
 refine zo (pv:=[(0,jV 2)]) (zs:=[jV 0]) (cs:=[jV 2]) Z Z Z Z Z (wAK Z wAa) zA zC zm Z Z Z Z Z fh ?_
 intro wM mI La
 let pY:Res:=.row (some ⟨mI,0,none⟩) 1 3 1 (nA KL.encI [2])
 have ox:sW w U bw [pY,bj,bh,bI,ab,B0,am,ak,az,aj,ai,aY,bb,au,ah,aq] wM:=La
 refine Zk ?_ ?_
 refine zo (pv:=[(0,jV 5)]) (zs:=[jV 0]) (cs:=[jV 5]) Z Z Z Z Z (wAK Z wAa) zA zC zm Z Z Z Z Z ox ?_
 intro wN qU Lb
 have Lc:sW w U bw [.row (some ⟨qU,0,none⟩) 1 3 1 (nA KL.encI [5]),pY,bj,bh,bI,ab,B0,am,ak,az,aj,ai,aY,bb,au,ah,aq] wN:=Lb
 exact ve _ _ ⟨bw,(some ⟨qU,0,none⟩),1,(some ⟨mI,0,none⟩),1,bT,bU,bN,bK,bL,rfl,rfl,rfl,rfl,rfl,(zY _),(Lc.pick [5,6,7,8,3,9,10,11,2,12,13,14,15,16,0,1] _ (by decide) rfl)⟩
 exact OKS.mx2 rfl rfl rfl rfl (ox.ldB (j:=15) rfl rfl rfl zZ (v:=.slice bp bm.length bq) rfl) (vd _ _ ⟨bw,(some ⟨mI,0,none⟩),1,bT,bU,bN,bK,bL,rfl,rfl,rfl,rfl,rfl,(zY _),(ox.pick [4,5,6,7,2,8,9,10,1,11,12,13,14,15,0] _ (by decide) rfl)⟩)
 rintro WJ dy ⟨Ti,dt,dI,du,dJ,Bf,sO,Bg,Bh,Bi,o0,Ld⟩
 refine zM (sR fL2 Z (oM Z sO (oM Z Z (eN (zk ?_)))))
 have q:=Ld.freezeR (k:=2) (n:=(nD bo bB.toNat (w64 ((gd bo bB.toNat) + 1))).length) rfl (wAD (f:=KL.encI) (sz:=1) (fun _=>rfl) (nD bo bB.toNat (w64 ((gd bo bB.toNat) + 1)))) (by decide)
 obtain ⟨vL,o5,QP,Lf⟩:=q
 let bD:Res:=.blk ae 25 [.slice dt de.length dI,.slice du df.length dJ,.slice bC bA.length bF]
 let eE:Res:=.row du dJ 3 1 (nA KL.encI df)
 let fL:Res:=.row dt dI 3 1 (nA KL.encI de)
 have Lg:sW w U vL [ab,B0,ak,bh,az,aj,ai,bj,aY,fL,eE,ah,bD] dy:=Lf
 have q:=Lg.freezeR (k:=2) (n:=bX.length) rfl (wAD (f:=KL.encI) (sz:=1) (fun _=>rfl) bX) (by decide)
 obtain ⟨vM,lG,QQ,Lh⟩:=q
 have Li:sW w U vM [ab,B0,bh,az,aj,ai,bj,aY,fL,eE,ah,bD] dy:=Lh
 have q:=Li.freezeR (k:=2) (n:=ga.length) rfl (wAD (f:=wAB) (sz:=2) (fun _=>rfl) ga) (by decide)
 obtain ⟨vN,ju,QR,Lk⟩:=q
 have Ll:sW w U vN [ab,B0,az,aj,ai,bj,aY,fL,eE,ah,bD] dy:=Lk
 have q:=Ll.freezeR (k:=3) (n:=b5.length) rfl (wAD (f:=KL.encI) (sz:=1) (fun _=>rfl) b5) (by decide)
 obtain ⟨vO,fW,QS,Lm⟩:=q
 have Ln:sW w U vO [ab,B0,az,ai,bj,aY,fL,eE,ah,bD] dy:=Lm
 have q:=Ln.freezeR (k:=3) (n:=b9.length) rfl (wAD (f:=KL.encI) (sz:=1) (fun _=>rfl) b9) (by decide)
 obtain ⟨vP,fw,QT,Lp⟩:=q
 have Lq:sW w U vP [ab,B0,az,bj,aY,fL,eE,ah,bD] dy:=Lp
 have q:=Lq.freezeR (k:=3) (n:=fE.length) rfl (wAD (f:=wAB) (sz:=2) (fun _=>rfl) fE) (by decide)
 obtain ⟨vQ,eb,QU,Lr⟩:=q
 have Ls:sW w U vQ [ab,B0,az,aY,fL,eE,ah,bD] dy:=Lr
 have q:=Ls.freezeR (k:=4) (n:=de.length) rfl (wAD (f:=KL.encI) (sz:=1) (fun _=>rfl) de) (by decide)
 obtain ⟨vR,dP,uW,Lu⟩:=q
 have Lv:sW w U vR [ab,B0,az,aY,eE,ah,bD] dy:=Lu
 have q:=Lv.freezeR (k:=4) (n:=df.length) rfl (wAD (f:=KL.encI) (sz:=1) (fun _=>rfl) df) (by decide)
 obtain ⟨vS,cP,uX,Lw⟩:=q
 have Lx:sW w U vS [ab,B0,az,aY,ah,bD] dy:=Lw
 have q:=Lx.freezeR (k:=4) (n:=bA.length) rfl (wAD (f:=wAB) (sz:=2) (fun _=>rfl) bA) (by decide)
 obtain ⟨mg,cx,uY,Ly⟩:=q
 have Lz:sW w U mg [ab,B0,az,aY,bD] dy:=Ly
 have q:=wCo cV
 obtain ⟨VI,dL⟩:=q
 have q:=wCn dL
 obtain ⟨oO,OZ⟩:=q
 replace oO:=zL oO
 refine CK.forN (fun cu _ σ_ w_=>∃ (U_:PHeap),σ_ 97=jV (↑cu:Int)/\σ_ 7=.pointer (some ⟨ba,0,none⟩)/\σ_ 9=jV (↑ap.Shots.length:Int)/\σ_ 11=.pointer (some ⟨bi,0,none⟩)/\σ_ 12=.pointer (some ⟨bl,0,none⟩)/\σ_ 13=.pointer (some ⟨ae,0,none⟩)/\σ_ 96=jV (↑ap.Shots.length:Int)/\PHeap.Le mg U_/\sW w U U_ [ab,B0,az,aY,bD] w_) OZ ?_ ?_ ?_
 exact ⟨mg,Z,Bf,sO,Bg,Bh,Bi,Z,(zY _),Lz⟩
 rintro cu ⟨⟩ Wt WK Tz oG ⟨qe,oj,Bj,sP,Bk,Bl,Bm,sQ,cy,LB⟩ cW fj
 try dsimp only at cW
 have ry:Hid ((↑cu:Int) < (↑ap.Shots.length:Int)):=zL (wCI oG)
 replace oG:=zL oG
 have O5:Hid (w64 ((↑cu:Int) + 1)=(↑(cu + 1):Int)):=zL (by have h1:=oO.out;have h2:=ry.out;rw [wAf] <;> omega)
 refine sR fL1 Z (oR Z (zl Z oj sQ) (eN (zM (cT Z ry (kN (zM (zk (sR fL2 Z (oM Z oj (oA Z Z (eN (sR fL2 Z (oM Z sP (oM Z Z (eN (zk ?_))))))))))))))))
 have q:=wCo cW
 obtain ⟨VJ,dM⟩:=q
 have q:=wCn dM
 obtain ⟨oP,O0⟩:=q
 replace oP:=zL oP
 refine CK.forN (fun cY _ σ_ w_=>∃ (U_:PHeap),σ_ 101=jV (↑cY:Int)/\σ_ 7=.pointer (some ⟨ba,0,none⟩)/\σ_ 9=jV (↑ap.Shots.length:Int)/\σ_ 11=.pointer (some ⟨bi,0,none⟩)/\σ_ 12=.pointer (some ⟨bl,0,none⟩)/\σ_ 13=.pointer (some ⟨ae,0,none⟩)/\σ_ 14=jV (↑cu:Int)/\σ_ 96=jV (↑ap.Shots.length:Int)/\σ_ 97=jV (↑cu:Int)/\σ_ 100=jV (↑ap.Shots.length:Int)/\PHeap.Le qe U_/\sW w U U_ [ab,B0,az,aY,bD] w_) O0 ?_ ?_ ?_
 exact ⟨qe,Z,Bj,sP,Bk,Bl,Bm,Z,sQ,oj,Z,(zY _),LB⟩
 rintro cY ⟨⟩ Wu WL wO oH ⟨vT,ol,sS,Bn,sT,sU,sV,jd,Bo,Bp,sY,cz,uh⟩ u5 fm
 try dsimp only at u5
 have rA:Hid ((↑cY:Int) < (↑ap.Shots.length:Int)):=zL (wCI oH)
 replace oH:=zL oH
 have O6:Hid (w64 ((↑cY:Int) + 1)=(↑(cY + 1):Int)):=zL (by have h1:=oP.out;have h2:=rA.out;rw [wAf] <;> omega)
 refine sR fL1 Z (oR Z (zl Z ol sY) (eN (zM (cT Z rA (kN (zM (zk (sR fL2 Z (oM Z ol (oA Z Z (eN (sR (wCl (.fx 3 (wGU gBd) .stop)) Z (oL Z (uh.ldBA (j:=0) Z Z sS ZI ze (vs:=[.slice dS d7.length dX,.slice dT d8.length dY,.slice cg ap.Across.length cr]) Z Z) (oM Z jd (oM Z Z ?_)))))))))))))))
 have Er:=ua.le ef
 have Es:=Er.le lN
 have Et:=Es.le lO
 have Eu:=Et.le lP
 have Ev:=Eu.le jy
 have Ew:=Ev.le ph
 have Ey:=Ew.le o0
 have Ez:=Ey.le o5
 have EA:=Ez.le lG
 have EB:=EA.le ju
 have EC:=EB.le fW
 have ED:=EC.le fw
 have EE:=ED.le eb
 have EF:=EE.le dP
 have EG:=EF.le cP
 have EH:=EG.le cx
 have EI:=EH.le cy
 have EJ:=EI.le cz
 have EK:=ub.le ef
 have EL:=EK.le lN
 have EM:=EL.le lO
 have EN:=EM.le lP
 have EO:=EN.le jy
 have EP:=EO.le ph
 have EQ:=EP.le o0
 have ER:=EQ.le o5
 have ES:=ER.le lG
 have ET:=ES.le ju
 have EU:=ET.le fW
 have EV:=EU.le fw
 have EW:=EV.le eb
 have EX:=EW.le dP
 have EY:=EX.le cP
 have EZ:=EY.le cx
 have E1:=EZ.le cy
 have E2:=E1.le cz
 have E3:=fU.le jx
 have E4:=E3.le ef
 have E5:=E4.le lN
 have E6:=E5.le lO
 have E7:=E6.le lP
 have E8:=E7.le jy
 have E9:=E8.le ph
 have Fa:=E9.le o0
 have Fb:=Fa.le o5
 have Fc:=Fb.le lG
 have Fd:=Fc.le ju
 have Fe:=Fd.le fW
 have Ff:=Fe.le fw
 have Fg:=Ff.le eb
 have Fh:=Fg.le dP
 have Fi:=Fh.le cP
 have Fj:=Fi.le cx
 have Fk:=Fj.le cy
 have Fm:=Fk.le cz
 have q:=bnd u5
 obtain ⟨⟨fB,vw⟩,Fo,uF⟩:=q
 try dsimp only at uF
 refine zP 0 Z Z Z Z (zN Z Z Zq (zD Z (zD Z (zD Z zV))) Z) uh (fun hs=>wBK (⟨d7,d8,ap.Across⟩:wAC) dS dX dT dY cg cr (↑cu:Int) (↑cY:Int) wO vT hs EJ E2 Fm Fo) (.inr Z) ?_
 rintro mh SC VM wP dg LC ⟨rfl,rfl⟩
 have LD:sW w U mh [ab,B0,az,aY,bD] wP:=LC
 refine oM Z Z (oR Z (ZM Z Z (v:=.agg #[jV fB.Lo,jV fB.Hi]) Z) (oR Z (ZM Z Z (v:=jV vw) Z) (ZF (cs:=B8) Z Z Z Z Z ZD Z LD ?_)))
 intro TA cR LE
 let cn:List Value:=[jV fB.Lo,jV fB.Hi]
 refine zu (j:=0) (vs:=cn) Z Z Z Z LE Z Z Z Z zg (zB Z) Z Z Z ?_
 intro qw LF
 have ui:sW w U mh [.blk cR 66 cn,ab,B0,az,aY,bD] qw:=LF
 refine oA Z Z (eN (sR (wCl (.fx 3 (wGU gBd) .stop)) Z (oL Z (ui.ldBA (j:=3) Z Z sT ZI ze (vs:=[.slice ci ((nD bo bB.toNat (w64 ((gd bo bB.toNat) + 1))).length) ct,.slice cD bX.length cE,.slice dr ga.length dH]) Z Z) (oM Z jd (oM Z Z ?_)))))
 have Fp:=QP.le lG
 have Fq:=Fp.le ju
 have Fs:=Fq.le fW
 have Ft:=Fs.le fw
 have Fu:=Ft.le eb
 have Fv:=Fu.le dP
 have Fw:=Fv.le cP
 have Fx:=Fw.le cx
 have Fy:=Fx.le cy
 have Fz:=Fy.le cz
 have FA:=Fz.le dg
 have FB:=QQ.le ju
 have FC:=FB.le fW
 have FD:=FC.le fw
 have FF:=FD.le eb
 have FG:=FF.le dP
 have FH:=FG.le cP
 have FI:=FH.le cx
 have FJ:=FI.le cy
 have FK:=FJ.le cz
 have FL:=FK.le dg
 have FM:=QR.le fW
 have FN:=FM.le fw
 have FO:=FN.le eb
 have FP:=FO.le dP
 have FQ:=FP.le cP
 have FR:=FQ.le cx
 have FS:=FR.le cy
 have FT:=FS.le cz
 have FU:=FT.le dg
 have q:=bnd uF
 obtain ⟨⟨jB,vx⟩,FV,uG⟩:=q
 try dsimp only at uG
 refine zP 0 Z Z Z Z (zN Z Z Zq (zD Z (zD Z (zD Z zV))) Z) ui (fun hs=>wBK (⟨(nD bo bB.toNat (w64 ((gd bo bB.toNat) + 1))),bX,ga⟩:wAC) ci ct cD cE dr dH (↑cu:Int) (↑cY:Int) qw mh hs FA FL FU FV) (.inr Z) ?_
 rintro mi SD VN wQ fy LG ⟨rfl,rfl⟩
 have LH:sW w U mi [.blk cR 66 cn,ab,B0,az,aY,bD] wQ:=LG
 refine oM Z Z (oR Z (ZM Z Z (v:=.agg #[jV jB.Lo,jV jB.Hi]) Z) (oR Z (ZM Z Z (v:=jV vx) Z) (ZF (cs:=B8) Z Z Z Z Z ZD Z LH ?_)))
 intro TB dU LI
 let dw:List Value:=[jV jB.Lo,jV jB.Hi]
 refine zu (j:=0) (vs:=dw) Z Z Z Z LI Z Z Z Z zg (zB Z) Z Z Z ?_
 intro qx LJ
 have uj:sW w U mi [.blk dU 66 dw,.blk cR 66 cn,ab,B0,az,aY,bD] qx:=LJ
 refine oA Z Z (eN (sR (wCl (.fx 3 (wGU gBd) .stop)) Z (oL Z (uj.ldBA (j:=5) Z Z sU ZI ze (vs:=[.slice cG b5.length cM,.slice cH b9.length cN,.slice gU fE.length ja]) Z Z) (oM Z jd (oM Z Z ?_)))))
 have FW:=QS.le fw
 have FX:=FW.le eb
 have FZ:=FX.le dP
 have F0:=FZ.le cP
 have F1:=F0.le cx
 have F2:=F1.le cy
 have F4:=F2.le cz
 have F5:=F4.le dg
 have F6:=F5.le fy
 have F7:=QT.le eb
 have F8:=F7.le dP
 have F9:=F8.le cP
 have Ga:=F9.le cx
 have Gb:=Ga.le cy
 have Gc:=Gb.le cz
 have Gd:=Gc.le dg
 have Ge:=Gd.le fy
 have Gf:=QU.le dP
 have Gg:=Gf.le cP
 have Gi:=Gg.le cx
 have Gj:=Gi.le cy
 have Gk:=Gj.le cz
 have Gl:=Gk.le dg
 have Gm:=Gl.le fy
 have q:=bnd uG
 obtain ⟨⟨jC,vy⟩,Gn,uH⟩:=q
 try dsimp only at uH
 refine zP 0 Z Z Z Z (zN Z Z Zq (zD Z (zD Z (zD Z zV))) Z) uj (fun hs=>wBK (⟨b5,b9,fE⟩:wAC) cG cM cH cN gU ja (↑cu:Int) (↑cY:Int) qx mi hs F6 Ge Gm Gn) (.inr Z) ?_
 rintro mn SE VO wR lH LK ⟨rfl,rfl⟩
 have LL:sW w U mn [.blk dU 66 dw,.blk cR 66 cn,ab,B0,az,aY,bD] wR:=LK
 refine oM Z Z (oR Z (ZM Z Z (v:=.agg #[jV jC.Lo,jV jC.Hi]) Z) (oR Z (ZM Z Z (v:=jV vy) Z) (ZF (cs:=B8) Z Z Z Z Z ZD Z LL ?_)))
 intro TC fO LM
 let eG:List Value:=[jV jC.Lo,jV jC.Hi]
 refine zu (j:=0) (vs:=eG) Z Z Z Z LM Z Z Z Z zg (zB Z) Z Z Z ?_
 intro qy LN
 have uk:sW w U mn [.blk fO 66 eG,.blk dU 66 dw,.blk cR 66 cn,ab,B0,az,aY,bD] qy:=LN
 refine oA Z Z (eN (sR (wCl (.fx 3 (wGU gBd) .stop)) Z (oL Z (uk.ldBA (j:=7) Z Z sV ZI ze (vs:=[.slice dt de.length dI,.slice du df.length dJ,.slice bC bA.length bF]) Z Z) (oM Z jd (oM Z Z ?_)))))
 have Gp:=uW.le cP
 have Gq:=Gp.le cx
 have Gr:=Gq.le cy
 have Gs:=Gr.le cz
 have Gt:=Gs.le dg
 have Gu:=Gt.le fy
 have Gw:=Gu.le lH
 have Gx:=uX.le cx
 have Gy:=Gx.le cy
 have Gz:=Gy.le cz
 have GA:=Gz.le dg
 have GB:=GA.le fy
 have GC:=GB.le lH
 have GD:=uY.le cy
 have GE:=GD.le cz
 have GF:=GE.le dg
 have GG:=GF.le fy
 have GH:=GG.le lH
 have q:=bnd uH
 obtain ⟨⟨jD,vz⟩,GI,uI⟩:=q
 try dsimp only at uI
 refine zP 0 Z Z Z Z (zN Z Z Zq (zD Z (zD Z (zD Z zV))) Z) uk (fun hs=>wBK (⟨de,df,bA⟩:wAC) dt dI du dJ bC bF (↑cu:Int) (↑cY:Int) qy mn hs Gw GC GH GI) (.inr Z) ?_
 rintro eJ SF VP wS Rt LO ⟨rfl,rfl⟩
 have LP:sW w U eJ [.blk fO 66 eG,.blk dU 66 dw,.blk cR 66 cn,ab,B0,az,aY,bD] wS:=LO
 refine oM Z Z (oR Z (ZM Z Z (v:=.agg #[jV jD.Lo,jV jD.Hi]) Z) (oR Z (ZM Z Z (v:=jV vz) Z) (ZF (cs:=B8) Z Z Z Z Z ZD Z LP ?_)))
 intro TD li LQ
 let g7:List Value:=[jV jD.Lo,jV jD.Hi]
 refine zu (j:=0) (vs:=g7) Z Z Z Z LQ Z Z Z Z zg (zB Z) Z Z Z ?_
 intro qz LT
 have fd:sW w U eJ [.blk li 66 g7,.blk fO 66 eG,.blk dU 66 dw,.blk cR 66 cn,ab,B0,az,aY,bD] qz:=LT
 refine oA Z Z (eN (zM (CK.fresh fun bR bO=>?_)))
 have Bq:bR 7=.pointer (some ⟨ba,0,none⟩):=(bO 7).trans sS
 have Br:bR 9=jV (↑ap.Shots.length:Int):=(bO 9).trans Bn
 have Bs:bR 11=.pointer (some ⟨bi,0,none⟩):=(bO 11).trans sT
 have Bt:bR 12=.pointer (some ⟨bl,0,none⟩):=(bO 12).trans sU
 have Bu:bR 13=.pointer (some ⟨ae,0,none⟩):=(bO 13).trans sV
 have Bv:bR 14=jV (↑cu:Int):=(bO 14).trans jd
 have n7:bR 16=.pointer (some ⟨cR,0,none⟩):=(bO 16).trans rfl
 have Bw:bR 17=jV vw:=(bO 17).trans rfl
 have Bx:bR 18=.pointer (some ⟨dU,0,none⟩):=(bO 18).trans rfl
 have By:bR 19=jV vx:=(bO 19).trans rfl
 have Bz:bR 20=.pointer (some ⟨fO,0,none⟩):=(bO 20).trans rfl
 have BA:bR 21=jV vy:=(bO 21).trans rfl
 have BB:bR 22=.pointer (some ⟨li,0,none⟩):=(bO 22).trans rfl
 have BC:bR 23=jV vz:=(bO 23).trans rfl
 have BD:bR 96=jV (↑ap.Shots.length:Int):=(bO 96).trans Bo
 have BE:bR 97=jV (↑cu:Int):=(bO 97).trans Bp
 have BF:bR 100=jV (↑ap.Shots.length:Int):=(bO 100).trans sY
 have BG:bR 101=jV (↑cY:Int):=(bO 101).trans ol
 clear bO
 refine rR (wMN (.fx 17 (wMP (.fx 23 (wMQ (.nil)) .stop)) .stop)) Z (oM Z Bw (oR Z (Zj Z Z Z) (oM Z Z (ifc uI ?_ ?_))))
 intro eR Ph
 refine zz Z Z Z (zU Z Z (zy (fun h=>h eR.out))) Z By (zS Z Z Z (zU Z Z (zy (fun h=>h eR.out))) (fun _=>Zj Z Z Z) (oR Z (zf Z (zy (fun h=>h eR.out)) Z) (oM Z Z (ifc Ph ?_ ?_))))
 intro eT Pi
 refine zz Z Z Z (zU Z Z (zy (fun h=>h eT.out))) Z BA (zS Z Z Z (zU Z Z (zy (fun h=>h eT.out))) (fun _=>Zj Z Z Z) (oR Z (zf Z (zy (fun h=>h eT.out)) Z) (oM Z Z (ifc Pi ?_ ?_))))
 intro eU Pj
 refine zz Z Z Z (zU Z Z (zy (fun h=>h eU.out))) Z BC (zS Z Z Z (zU Z Z (zy (fun h=>h eU.out))) (fun _=>Zj Z Z Z) (oR Z (zf Z (zy (fun h=>h eU.out)) Z) (oM Z Z (ifc Pj ?_ ?_))))
 intro cI Pk
 refine zi Z Z Z (zU Z Z (zy (fun h=>h cI.out))) (fd.ldBA (j:=2) Z Z Bx ZN zg (vs:=dw) Z Z) Z (zi Z Z Z (zU Z Z (zy (fun h=>h cI.out))) (fd.ldBA (j:=3) Z Z n7 ZN zg (vs:=cn) Z Z) Z (bnK Pk fun Wk GJ Pm=>zP 0 Z Z Z (zU Z Z (zy (fun h=>h cI.out))) (zN Z Z Tryz.call31 (zD Z (zD Z zV)) Z) fd (fun hs=>wBk jB fB qz eJ hs GJ) (.inr Z) ?_))
 rintro mo SG VQ qA Ru LU ⟨rfl,rfl⟩
 have lz:sW w U mo [.blk li 66 g7,.blk fO 66 eG,.blk dU 66 dw,.blk cR 66 cn,ab,B0,az,aY,bD] qA:=LU
 refine zS Z Z Z (zU Z Z (zy (fun h=>h cI.out))) (fun _=>ZO Z Z) (oR Z (zf Z (zy (fun h=>h cI.out)) Z) (oM Z Z (ifc Pm ?_ ?_)))
 intro cJ Pn
 refine zi Z Z Z (zU Z Z (nC cJ.out)) (lz.ldBA (j:=3) Z Z n7 ZN zg (vs:=cn) Z Z) Z (zi Z Z Z (zU Z Z (nC cJ.out)) (lz.ldBA (j:=1) Z Z Bz ZN zg (vs:=eG) Z Z) Z (bnK Pn fun Wl GK Po=>zP 0 Z Z Z (zU Z Z (nC cJ.out)) (zN Z Z Tryz.call31 (zD Z (zD Z zV)) Z) lz (fun hs=>wBk fB jC qA mo hs GK) (.inr Z) ?_))
 rintro k9 SH VR wU Rw LV ⟨rfl,rfl⟩
 have jm:sW w U k9 [.blk li 66 g7,.blk fO 66 eG,.blk dU 66 dw,.blk cR 66 cn,ab,B0,az,aY,bD] wU:=LV
 refine zS Z Z Z (zU Z Z (nC cJ.out)) (fun _=>ZO Z Z) (oR Z (zf Z (nC cJ.out) Z) (oM Z Z (ifc Po ?_ ?_)))
 intro dB Pp
 refine zi Z Z Z (zU Z Z (nC dB.out)) (jm.ldBA (j:=0) Z Z BB ZN zg (vs:=g7) Z Z) Z (zi Z Z Z (zU Z Z (nC dB.out)) (jm.ldBA (j:=3) Z Z n7 ZN zg (vs:=cn) Z Z) Z (zS Z Z Z (zU Z Z (nC dB.out)) (fun _=>ZL (Runs.neS (enc:=wBd) (a:=jD) (b:=fB) Z Z Z wMz wMy) (congrArg nK (decide_not).symm)) (oR Z (zf Z (nC dB.out) Z) (eN (ifc Pp ?_ ?_)))))
 intro mO Pq
 refine ZB (zy (fun h=>h mO.out)) (Zd (zq (zQ (rR fL2 Z (oR Z (ZL (zh Z BG Z) (congrArg (jV) O6.out)) (oM Z Z (ZK ?_)))))))
 have q:=nB Pq
 obtain rfl:=q
 exact zQ ⟨rfl,_,rfl,⟨k9,rfl,Bq,Br,Bs,Bt,Bu,Bv,BD,BE,BF,((((((cz.trans dg).trans fy).trans lH).trans Rt).trans Ru).trans Rw),(jm.pick [4,5,6,7,8] _ (by decide) rfl)⟩⟩
 intro mO Pr
 refine cT Z mO (sR fL1 Z (oA Z Z (eN (zX (zO (zH ?_))))))
 have q:=wAS Pr
 obtain ⟨RW,Ps,ya⟩:=q
 have q:=wBI cW dM (fm RW ya)
 obtain rfl:=q
 refine zH (zO (zO (zH ?_)))
 have q:=wAS Ps
 obtain ⟨RX,Pt,yb⟩:=q
 have q:=wBI cV dL (fj RX yb)
 obtain rfl:=q
 refine zH (zO (zH ?_))
 have hE:=nB Pt;first | subst r | cases hE
 exact ⟨rfl,_,(ZA rfl),k9,_,(jm.pick [] _ (by decide) rfl),rfl,rfl⟩
 intro dB Pu
 refine zd Z Z Z (zJ Z Z (nF (dB.out)) Z) (zd Z Z Z (zJ Z Z (nF (dB.out)) Z) (zd Z Z Z (zJ Z Z (nF (dB.out)) Z) (oR Z (zK Z (nF (dB.out)) Z) (eN (zx Z (sR fL1 Z (oA Z Z (eN (zX (zO (zH ?_)))))))))))
 have q:=wAS Pu
 obtain ⟨RY,Pv,yc⟩:=q
 have q:=wBI cW dM (fm RY yc)
 obtain rfl:=q
 refine zH (zO (zO (zH ?_)))
 have q:=wAS Pv
 obtain ⟨RZ,Pw,yd⟩:=q
 have q:=wBI cV dL (fj RZ yd)
 obtain rfl:=q
 refine zH (zO (zH ?_))
 have hE:=nB Pw;first | subst r | cases hE
 exact ⟨rfl,_,(ZA rfl),k9,_,(jm.pick [] _ (by decide) rfl),rfl,rfl⟩
 intro cJ Px
 refine zd Z Z Z (zJ Z Z (nF (cJ.out)) Z) (zd Z Z Z (zJ Z Z (nF (cJ.out)) Z) (ZH Z Z Z (zJ Z Z (nF (cJ.out)) Z) (zd Z Z Z (zJ Z Z (nF (cJ.out)) Z) (oR Z (zK Z (nF (cJ.out)) Z) (oM Z Z (oN Z (oN Z (oN Z (oR Z (zK Z Z Z) (eN (zx Z (sR fL1 Z (oA Z Z (eN (zX (zO (zH ?_)))))))))))))))))
 have q:=wAS Px
 obtain ⟨R0,Py,ye⟩:=q
 have q:=wBI cW dM (fm R0 ye)
 obtain rfl:=q
 refine zH (zO (zO (zH ?_)))
 have q:=wAS Py
 obtain ⟨R1,Pz,yf⟩:=q
 have q:=wBI cV dL (fj R1 yf)
 obtain rfl:=q
 refine zH (zO (zH ?_))
 have hE:=nB Pz;first | subst r | cases hE
 exact ⟨rfl,_,(ZA rfl),mo,_,(lz.pick [] _ (by decide) rfl),rfl,rfl⟩
 intro cI PA
 refine oT Z cI (oT Z cI (ZH Z Z Z (zJ Z Z (Zo cI.out) Z) (oT Z cI (oR Z (zK Z (Zo cI.out) Z) (oM Z Z (oN Z (oN Z (ZH Z Z Z (zJ Z Z Z Z) (oN Z (oR Z (zK Z Z Z) (oM Z Z (oN Z (oN Z (oN Z (oR Z (zK Z Z Z) (eN (zx Z (sR fL1 Z (oA Z Z (eN (zX (zO (zH ?_)))))))))))))))))))))))
 have q:=wAS PA
 obtain ⟨R2,PB,yg⟩:=q
 have q:=wBI cW dM (fm R2 yg)
 obtain rfl:=q
 refine zH (zO (zO (zH ?_)))
 have q:=wAS PB
 obtain ⟨R4,PC,yh⟩:=q
 have q:=wBI cV dL (fj R4 yh)
 obtain rfl:=q
 refine zH (zO (zH ?_))
 have hE:=nB PC;first | subst r | cases hE
 exact ⟨rfl,_,(ZA rfl),eJ,_,(fd.pick [] _ (by decide) rfl),rfl,rfl⟩
 intro eU PD
 refine oT Z eU (oT Z eU (oR Z (zK Z (Zo eU.out) Z) (oM Z Z (oN Z (oN Z (ZH Z Z Z (zJ Z Z Z Z) (oN Z (oR Z (zK Z Z Z) (oM Z Z (oN Z (oN Z (ZH Z Z Z (zJ Z Z Z Z) (oN Z (oR Z (zK Z Z Z) (oM Z Z (oN Z (oN Z (oN Z (oR Z (zK Z Z Z) (eN (zx Z (sR fL1 Z (oA Z Z (eN (zX (zO (zH ?_)))))))))))))))))))))))))))
 have q:=wAS PD
 obtain ⟨R5,PF,yi⟩:=q
 have q:=wBI cW dM (fm R5 yi)
 obtain rfl:=q
 refine zH (zO (zO (zH ?_)))
 have q:=wAS PF
 obtain ⟨R6,PG,yj⟩:=q
 have q:=wBI cV dL (fj R6 yj)
 obtain rfl:=q
 refine zH (zO (zH ?_))
 have hE:=nB PG;first | subst r | cases hE
 exact ⟨rfl,_,(ZA rfl),eJ,_,(fd.pick [] _ (by decide) rfl),rfl,rfl⟩
 intro eT PH
 refine oT Z eT (oT Z eT (oR Z (zK Z (Zo eT.out) Z) (oM Z Z (oN Z (oN Z (oR Z (zK Z Z Z) (oM Z Z (oN Z (oN Z (ZH Z Z Z (zJ Z Z Z Z) (oN Z (oR Z (zK Z Z Z) (oM Z Z (oN Z (oN Z (ZH Z Z Z (zJ Z Z Z Z) (oN Z (oR Z (zK Z Z Z) (oM Z Z (oN Z (oN Z (oN Z (oR Z (zK Z Z Z) (eN (zx Z (sR fL1 Z (oA Z Z (eN (zX (zO (zH ?_)))))))))))))))))))))))))))))))
 have q:=wAS PH
 obtain ⟨R7,PI,yk⟩:=q
 have q:=wBI cW dM (fm R7 yk)
 obtain rfl:=q
 refine zH (zO (zO (zH ?_)))
 have q:=wAS PI
 obtain ⟨R8,PJ,yl⟩:=q
 have q:=wBI cV dL (fj R8 yl)
 obtain rfl:=q
 refine zH (zO (zH ?_))
 have hE:=nB PJ;first | subst r | cases hE
 exact ⟨rfl,_,(ZA rfl),eJ,_,(fd.pick [] _ (by decide) rfl),rfl,rfl⟩
 intro eR PK
 refine oT Z eR (oT Z eR (oR Z (zK Z (Zo eR.out) Z) (oM Z Z (oN Z (oN Z (oR Z (zK Z Z Z) (oM Z Z (oN Z (oN Z (oR Z (zK Z Z Z) (oM Z Z (oN Z (oN Z (ZH Z Z Z (zJ Z Z Z Z) (oN Z (oR Z (zK Z Z Z) (oM Z Z (oN Z (oN Z (ZH Z Z Z (zJ Z Z Z Z) (oN Z (oR Z (zK Z Z Z) (oM Z Z (oN Z (oN Z (oN Z (oR Z (zK Z Z Z) (eN (zx Z (sR fL1 Z (oA Z Z (eN (zX (zO (zH ?_)))))))))))))))))))))))))))))))))))
 have q:=wAS PK
 obtain ⟨R9,PL,ym⟩:=q
 have q:=wBI cW dM (fm R9 ym)
 obtain rfl:=q
 refine zH (zO (zO (zH ?_)))
 have q:=wAS PL
 obtain ⟨Sa,PM,yn⟩:=q
 have q:=wBI cV dL (fj Sa yn)
 obtain rfl:=q
 refine zH (zO (zH ?_))
 have hE:=nB PM;first | subst r | cases hE
 exact ⟨rfl,_,(ZA rfl),eJ,_,(fd.pick [] _ (by decide) rfl),rfl,rfl⟩
 rintro ⟨⟩ WM TE ⟨vU,El,BH,BI,BJ,BK,BL,Ui,BM,BN,BO,Rx,LW⟩ OV
 have uJ:=wDp cW dM OV
 try dsimp only at uJ
 have xW:Hid (¬ ((↑(((↑ap.Shots.length:Int):Int) - 0).toNat:Int) < (↑ap.Shots.length:Int))):=zL (wBf)
 refine sR fL1 Z (oR Z (zl Z El BO) (eN (zM (cF Z xW (Ze (zw (zw (ZW (zq (zQ (rR fL2 Z (oR Z (ZL (zh Z BN Z) (congrArg (jV) O5.out)) (oM Z Z (ZK ?_))))))))))))))
 have q:=nB uJ
 obtain rfl:=q
 exact zQ ⟨Z,_,Z,⟨vU,Z,BH,BI,BJ,BK,BL,BM,(cy.trans Rx),LW⟩⟩
 rintro ⟨⟩ WN wV ⟨vV,Em,Uj,sZ,Uk,Ul,BP,BQ,o6,ul⟩ OW
 have uK:=wDp cV dL OW
 try dsimp only at uK
 have xX:Hid (¬ ((↑(((↑ap.Shots.length:Int):Int) - 0).toNat:Int) < (↑ap.Shots.length:Int))):=zL (wBf)
 refine sR fL1 Z (oR Z (zl Z Em BQ) (eN (zM (cF Z xX (Ze (zw (zw (ZW (zQ (sR (wCl (.fx 3 (wGU gBd) .stop)) Z (oL Z (ul.ldBA (j:=4) Z Z BP ZI ze (vs:=[.slice dt de.length dI,.slice du df.length dJ,.slice bC bA.length bF]) Z Z) (oM Z sZ (oM Z sZ ?_)))))))))))))
 have GL:=uW.le cP
 have GM:=GL.le cx
 have GN:=GM.le o6
 have GO:=uX.le cx
 have GP:=GO.le o6
 have GQ:=uY.le o6
 have q:=bnd uK
 obtain ⟨⟨jE,Sr⟩,GR,uL⟩:=q
 try dsimp only at uL
 refine zP 0 Z Z Z Z (zN Z Z Zq (zD Z (zD Z (zD Z zV))) Z) ul (fun hs=>wBK (⟨de,df,bA⟩:wAC) dt dI du dJ bC bF (↑ap.Shots.length:Int) (↑ap.Shots.length:Int) wV vV hs GN GP GQ GR) (.inr Z) ?_
 rintro lc SI VT wW Vx LX ⟨rfl,rfl⟩
 have LY:sW w U lc [ab,B0,az,aY,bD] wW:=LX
 refine oM Z Z (oR Z (ZM Z Z (v:=.agg #[jV jE.Lo,jV jE.Hi]) Z) (oR Z (ZM Z Z (v:=jV Sr) Z) (ZF (cs:=B8) Z Z Z Z Z ZD Z LY ?_)))
 intro TF mJ LZ
 let g8:List Value:=[jV jE.Lo,jV jE.Hi]
 refine zu (j:=0) (vs:=g8) Z Z Z Z LZ Z Z Z Z zg (zB Z) Z Z Z ?_
 intro mA L4
 have L6:sW w U lc [.blk mJ 66 g8,ab,B0,az,aY,bD] mA:=L4
 refine OKS.ra rfl rfl rfl rfl rfl rfl (eN (zM (ZQ ZJ [3,3,3,1,2,3,3,3,2,3,3] (wIs (.fx 4 (wQl gBe) .stop)) (by kernel_rfl) ?_)))
 have lA:=L6.drew
 generalize hw_W1904:({ mA with drawn:=mA.drawn + 1 }:World)=wX at lA ⊢
 refine oM Z Z (oR Z (Runs.eql Z Z Z) (oM Z Z (ifc uL ?_ ?_)))
 intro dC PN
 refine zi Z Z Z (wT Z dC) (lA.ldBA (j:=0) Z Z Z ZN zg (vs:=g8) Z Z) Z (bnK PN fun Ss GT PO=>zP 0 Z Z Z (wT Z dC) (zN Z Z Tryz.call32 (zD Z (zD Z zV)) Z) lA (fun hs=>wCu 2 2 wX lc hs GT) (.inr Z) ?_)
 rintro mp SJ VU qB Vy L8 ⟨rfl,rfl⟩
 have um:sW w U mp [.blk mJ 66 g8,ab,B0,az,aY,bD] qB:=L8
 refine rU Z (wT Z dC) (Runs.eqS (enc:=wBd) (a:=jE) (b:=Ss) Z Z Z wMz wMy) (oR Z (zK Z (Zo dC.out) Z) (oM Z Z (ifc PO ?_ ?_)))
 intro iL PP
 refine bnK PP fun Wm GU PQ=>zP 0 Z Z Z (wT Z iL) (zN Z Z Tryz.call6 zV Z) um (fun hs=>wCj qB mp hs GU) (.inr Z) ?_
 rintro qf SK VV wY Vz Ma ⟨rfl,rfl⟩
 have Mb:sW w U qf [.blk mJ 66 g8,ab,B0,az,aY,bD] wY:=Ma
 refine oR Z (zK Z (Zo iL.out) Z) (oA Z Z (eN (zX ?_)))
 have hE:=nB PQ;first | subst r | cases hE
 exact ⟨rfl,_,(ZA rfl),qf,_,(Mb.pick [] _ (by decide) rfl),rfl,rfl⟩
 intro iL PR
 refine ZH Z Z Z (zJ Z Z (zy iL.out) Z) (oR Z (zf Z (zy iL.out) Z) (oA Z Z (eN (zX ?_))))
 have hE:=nB PR;first | subst r | cases hE
 exact ⟨rfl,_,(ZA rfl),mp,_,(um.pick [] _ (by decide) rfl),rfl,rfl⟩
 intro dC PS
 refine oF Z dC (ZH Z Z Z (zJ Z Z (zy dC.out) Z) (oF Z dC (oR Z (zf Z (zy dC.out) Z) (oM Z Z (ZH Z Z Z (zJ Z Z Z Z) (oR Z (zf Z Z Z) (oA Z Z (eN (zX ?_)))))))))
 have hE:=nB PS;first | subst r | cases hE
 exact ⟨rfl,_,(ZA rfl),lc,_,(lA.pick [] _ (by decide) rfl),rfl,rfl⟩
 intro m5 PT
 refine ZB (tZ.trans (congrArg nK (nM.2 m5.out))) (kN (sR (wCl gBb) Z (oR Z (zG Z bK zF Z ZC) (oL Z (jt.ldB (j:=12) Z Z Z ZY (v:=.slice dm d9.length dA) Z) ?_))))
 have q:=jt.freeze (k:=0) rfl
 obtain ⟨qg,lI,jh,Mc⟩:=q
 replace jh:=Cl.of jh
 have Md:sW w U qg [B1,.blk bg 26 B6,ab,B0,am,ak,bf,av,aj,ai,bM,bH,bb,au,ah,aq] im:=Mc
 replace jh:Cl qg bn 0 B7:=jh
 have GV:=t8.le jx
 have GW:=GV.le ef
 have GX:=GW.le lI
 have q:=Md.freezeRR (R:=wNt) (k:=0) rfl GX rfl (by decide)
 obtain ⟨vW,lJ,QV,Mf⟩:=q
 have Mg:sW w U vW [.blk bg 26 B6,ab,B0,am,ak,bf,av,aj,ai,bM,bH,bb,au,ah,aq] im:=Mf
 have q:=Mg.freeze (k:=0) rfl
 obtain ⟨ie,jv,ji,Me⟩:=q
 replace ji:=Cl.of ji
 have Mh:sW w U ie [ab,B0,am,ak,bf,av,aj,ai,bM,bH,bb,au,ah,aq] im:=Me
 replace ji:Cl ie bg 0 B6:=ji
 refine oR Z (Runs.mkf Z zV (zD oi (zD tY zV))) ?_
 have GY:=jh.le lJ
 have GZ:=GY.le jv
 have G0:=QV.le jv
 have Ku:FnOK Tryz.prog ie (.func (.func 29) #[] #[.pointer (some ⟨bn,0,none⟩),.pointer (some ⟨bg,0,none⟩)]) wMv wMw (fun x=>wAL x (⟨x61,cd⟩:wAA) eh):=⟨29,[],[.pointer (some ⟨bn,0,none⟩),.pointer (some ⟨bg,0,none⟩)],rfl,Tryz.call29,fun U1 w1 x y vs le hs ha hm=>by obtain rfl:=ha;exact wBv x (⟨x61,cd⟩:wAA) bn eh bg gT i9 w1 U1 hs (GZ.le le) (ji.le le) (G0.le le) hm⟩
 refine bnK PT fun fC Ha PU=>?_
 have Mi:sW w U ie [bM,ab,B0,am,ak,bf,av,aj,ai,bH,bb,au,ah,aq] im:=Mh.pick [8,0,1,2,3,4,5,6,7,9,10,11,12,13] _ (by decide) rfl
 refine zP 1 Z Z Z Z (zN Z Z Tryz.call28 (zD Z (zD Z zV)) Z) Mi (fun hs=>wBC d9 dm dA (fun x=>wAL x (⟨x61,cd⟩:wAA) eh) (.func (.func 29) #[] #[.pointer (some ⟨bn,0,none⟩),.pointer (some ⟨bg,0,none⟩)]) im ie hs Ku Ha) (.inl Z) ?_
 rintro bv SL VW wZ o7 Mj ⟨gA,iM,rfl,rfl⟩
 let bk:Res:=.row gA iM 59 2 (nA wAB fC)
 have Ml:sW w U bv [bk,ab,B0,am,ak,bf,av,aj,ai,bH,bb,au,ah,aq] wZ:=Mj
 refine oR Z (zG Z bK zF Z ZC) (zu (j:=9) (vs:=[.slice gA fC.length iM]) Z Z Z Z Ml Z Z Z Z ZC (zB Z) Z Z Z ?_)
 intro mB Mm
 let aZ:Res:=.blk bl 25 [.slice cG b5.length cM,.slice cH b9.length cN,.slice gA fC.length iM]
 have Mn:sW w U bv [bk,ab,B0,am,ak,bf,av,aj,ai,aZ,bb,au,ah,aq] mB:=Mm
 refine eN ?_
 have q:=bnd PU
 obtain ⟨⟨da,db⟩,Q5,cU⟩:=q
 try dsimp only at cU
 refine CK.cut (fun σ_ w_=>∃ (U_:PHeap) (dp:Option Addr) (dD:Nat) (dq:Option Addr) (dE:Nat),σ_ 7=.pointer (some ⟨ba,0,none⟩)/\σ_ 9=jV (↑ap.Shots.length:Int)/\σ_ 11=.pointer (some ⟨bi,0,none⟩)/\σ_ 12=.pointer (some ⟨bl,0,none⟩)/\σ_ 13=.pointer (some ⟨ae,0,none⟩)/\PHeap.Le bv U_/\sW w U U_ [ab,B0,am,ak,bf,av,aj,ai,bk,aZ,.row dp dD 3 1 (nA KL.encI da),.row dq dE 3 1 (nA KL.encI db),ah,.blk ae 25 [.slice dp da.length dD,.slice dq db.length dE,.slice bC bA.length bF]] w_) ?_ ?_
 refine bnK Q5 fun br lv PV=>bnK PV fun bY t7 PX=>ZQ ZJ [3,1,2,0,3,2,2,0,3,0,3,0] gBn (by kernel_rfl) ?_
 have ff:=Mn.drew
 generalize hw_W2015:({ mB with drawn:=mB.drawn + 1 }:World)=TG at ff ⊢
 refine Zb (s:=.nil) (M:=fun σ_ w_=>∃ (U_:PHeap) (gB:Option Addr) (iN:Nat) (gC:Option Addr) (iO:Nat) (lU:Option Addr) (mP:Nat) (lV:Option Addr) (mQ:Nat),σ_ 7=.pointer (some ⟨ba,0,none⟩)/\σ_ 9=jV (↑ap.Shots.length:Int)/\σ_ 11=.pointer (some ⟨bi,0,none⟩)/\σ_ 12=.pointer (some ⟨bl,0,none⟩)/\σ_ 13=.pointer (some ⟨ae,0,none⟩)/\σ_ 86=.pointer (some ⟨ae,0,none⟩)/\σ_ 88=.slice lU ([5].length) mP/\σ_ 89=.slice gB br.length iN/\σ_ 90=.pointer (some ⟨ae,1,none⟩)/\σ_ 92=.slice lV ([2].length) mQ/\σ_ 93=.slice gC bY.length iO/\σ_ 94=.pointer (some ⟨ae,0,none⟩)/\σ_ 95=.pointer (some ⟨ae,1,none⟩)/\PHeap.Le bv U_/\sW w U U_ [ab,B0,am,ak,bf,av,aj,ai,bk,aZ,.row gB iN 3 1 (nA KL.encI br),.row gC iO 3 1 (nA KL.encI bY),ah,.blk ae 25 [.slice gB br.length iN,.slice gC bY.length iO,.slice bC bA.length bF],.row lU mP 3 1 (nA KL.encI [5]),.row lV mQ 3 1 (nA KL.encI [2])] w_) ?_ fun Rg=>?_
 rintro WO TH ⟨vY,gB,iN,gC,iO,lU,mP,lV,mQ,BR,BS,BT,BU,BV,Um,Un,Uo,Up,Uq,Ur,Us,Ut,Ry,Mp⟩
 refine ZK ?_
 cases PX
 exact zQ ⟨rfl,⟨vY,gB,iN,gC,iO,BR,BS,BT,BU,BV,Ry,(Mp.pick [0,1,2,3,4,5,6,7,8,9,10,11,12,13] _ (by decide) rfl)⟩⟩
 refine Zb (s:=gAw) (M:=fun σ_ w_=>∃ (U_:PHeap) (ey:Option Addr) (eV:Nat) (gD:Option Addr) (iP:Nat) (gE:Option Addr) (iQ:Nat) (ez:Option Addr) (eW:Nat),σ_ 7=.pointer (some ⟨ba,0,none⟩)/\σ_ 9=jV (↑ap.Shots.length:Int)/\σ_ 11=.pointer (some ⟨bi,0,none⟩)/\σ_ 12=.pointer (some ⟨bl,0,none⟩)/\σ_ 13=.pointer (some ⟨ae,0,none⟩)/\σ_ 86=.pointer (some ⟨ae,0,none⟩)/\σ_ 88=.slice gD ([5].length) iP/\σ_ 89=.slice ey br.length eV/\σ_ 90=.pointer (some ⟨ae,1,none⟩)/\σ_ 92=.slice gE ([2].length) iQ/\σ_ 93=.slice ez bY.length eW/\σ_ 94=.pointer (some ⟨ae,0,none⟩)/\PHeap.Le bv U_/\sW w U U_ [ab,B0,am,ak,bf,av,aj,ai,bk,aZ,.row ey eV 3 1 (nA KL.encI br),ah,.blk ae 25 [.slice ey br.length eV,.slice bp bm.length bq,.slice bC bA.length bF],.row gD iP 3 1 (nA KL.encI [5]),.row gE iQ 3 1 (nA KL.encI [2]),.row ez eW 3 1 (nA KL.encI bY)] w_) ?_ fun Rh=>?_
 rintro WP TI ⟨qi,ey,eV,gD,iP,gE,iQ,ez,eW,BW,BX,BY,BZ,s5,Ca,Cb,Cc,Cd,Ce,s7,Cf,Rz,Mr⟩
 refine oR Z (zG Z s5 zF Z zR) (zu (j:=12) (vs:=[.slice ez bY.length eW]) Z Z Z Z Mr Z Z s7 Z zR (zB Z) Z Z Z ?_)
 intro w5 Ms
 have Mt:sW w U qi [ab,B0,am,ak,bf,av,aj,ai,bk,aZ,.row ey eV 3 1 (nA KL.encI br),ah,.blk ae 25 [.slice ey br.length eV,.slice ez bY.length eW,.slice bC bA.length bF],.row gD iP 3 1 (nA KL.encI [5]),.row gE iQ 3 1 (nA KL.encI [2]),.row ez eW 3 1 (nA KL.encI bY)] w5:=Ms
 exact Rg _ _ ⟨qi,ey,eV,ez,eW,gD,iP,gE,iQ,BW,BX,BY,BZ,s5,Ca,Cb,Cc,Cd,Ce,s7,Cf,rfl,Rz,(Mt.pick [0,1,2,3,4,5,6,7,8,9,10,15,11,12,13,14] _ (by decide) rfl)⟩
 refine Zb (s:=gBc) (M:=fun σ_ w_=>∃ (U_:PHeap) (gF:Option Addr) (iR:Nat) (eA:Option Addr) (eY:Nat) (gG:Option Addr) (iT:Nat) (gH:Option Addr) (iU:Nat),σ_ 7=.pointer (some ⟨ba,0,none⟩)/\σ_ 9=jV (↑ap.Shots.length:Int)/\σ_ 11=.pointer (some ⟨bi,0,none⟩)/\σ_ 12=.pointer (some ⟨bl,0,none⟩)/\σ_ 13=.pointer (some ⟨ae,0,none⟩)/\σ_ 86=.pointer (some ⟨ae,0,none⟩)/\σ_ 88=.slice gF ([5].length) iR/\σ_ 89=.slice eA br.length eY/\σ_ 90=.pointer (some ⟨ae,1,none⟩)/\σ_ 92=.slice gG ([2].length) iT/\σ_ 93=.slice gH bY.length iU/\σ_ 94=.pointer (some ⟨ae,0,none⟩)/\PHeap.Le bv U_/\sW w U U_ [ab,B0,am,ak,bf,av,aj,ai,bk,aZ,ah,aq,.row gF iR 3 1 (nA KL.encI [5]),.row eA eY 3 1 (nA KL.encI br),.row gG iT 3 1 (nA KL.encI [2]),.row gH iU 3 1 (nA KL.encI bY)] w_) ?_ fun vh=>?_
 rintro WQ TJ ⟨qj,gF,iR,eA,eY,gG,iT,gH,iU,Cg,Ch,Ci,Ck,Cm,Cn,Co,s8,Cp,Cq,Cr,s9,RA,Mx⟩
 refine zu (j:=11) (vs:=[.slice eA br.length eY]) Z Z Z Z Mx Z s9 s8 Z zR (zB Z) Z Z Z ?_
 intro w6 My
 have Mz:sW w U qj [ab,B0,am,ak,bf,av,aj,ai,bk,aZ,ah,.blk ae 25 [.slice eA br.length eY,.slice bp bm.length bq,.slice bC bA.length bF],.row gF iR 3 1 (nA KL.encI [5]),.row eA eY 3 1 (nA KL.encI br),.row gG iT 3 1 (nA KL.encI [2]),.row gH iU 3 1 (nA KL.encI bY)] w6:=My
 exact Rh _ _ ⟨qj,eA,eY,gF,iR,gG,iT,gH,iU,Cg,Ch,Ci,Ck,Cm,Cn,Co,s8,Cp,Cq,Cr,s9,RA,(Mz.pick [0,1,2,3,4,5,6,7,8,9,13,10,11,12,14,15] _ (by decide) rfl)⟩
 refine Zb (s:=gBf) (M:=fun σ_ w_=>∃ (U_:PHeap) (gI:Option Addr) (iV:Nat) (gJ:Option Addr) (iW:Nat) (gK:Option Addr) (iX:Nat),σ_ 7=.pointer (some ⟨ba,0,none⟩)/\σ_ 9=jV (↑ap.Shots.length:Int)/\σ_ 11=.pointer (some ⟨bi,0,none⟩)/\σ_ 12=.pointer (some ⟨bl,0,none⟩)/\σ_ 13=.pointer (some ⟨ae,0,none⟩)/\σ_ 86=.pointer (some ⟨ae,0,none⟩)/\σ_ 88=.slice gI ([5].length) iV/\σ_ 89=.slice gJ br.length iW/\σ_ 90=.pointer (some ⟨ae,1,none⟩)/\σ_ 91=.slice bp bm.length bq/\σ_ 92=.slice gK ([2].length) iX/\σ_ 94=.pointer (some ⟨ae,0,none⟩)/\PHeap.Le bv U_/\sW w U U_ [ab,B0,am,ak,bf,av,aj,ai,bk,aZ,au,ah,aq,.row gI iV 3 1 (nA KL.encI [5]),.row gJ iW 3 1 (nA KL.encI br),.row gK iX 3 1 (nA KL.encI [2])] w_) ?_ fun Ri=>?_
 rintro WR TK ⟨qk,gI,iV,gJ,iW,gK,iX,Cs,Ct,Cu,Cv,Cw,Cx,Cy,Cz,CA,CB,tc,CD,RB,uo⟩
 refine ZX (j:=10) (enc:=KL.encI) (xs:=bm) (ys:=[2]) (zs:=bY) rfl rfl rfl rfl rfl ZE wDl rfl rfl rfl rfl rfl rfl uo rfl CB tc (uo.srcR (j:=15) rfl (by decide) (wAD (f:=KL.encI) (sz:=1) (fun _=>rfl) [2])) (fun _=>rfl) (fun _=>rfl) t7 rfl ?_
 intro pu rB w7 MA
 have MB:sW w U qk [ab,B0,am,ak,bf,av,aj,ai,bk,aZ,.row pu rB 3 1 (nA KL.encI bY),ah,aq,.row gI iV 3 1 (nA KL.encI [5]),.row gJ iW 3 1 (nA KL.encI br),.row gK iX 3 1 (nA KL.encI [2])] w7:=MA
 exact vh _ _ ⟨qk,gI,iV,gJ,iW,gK,iX,pu,rB,Cs,Ct,Cu,Cv,Cw,Cx,Cy,Cz,CA,tc,rfl,CD,RB,(MB.pick [0,1,2,3,4,5,6,7,8,9,11,12,13,14,15,10] _ (by decide) rfl)⟩
 refine Zb (s:=gBg) (M:=fun σ_ w_=>∃ (U_:PHeap) (gL:Option Addr) (iY:Nat) (gM:Option Addr) (iZ:Nat) (gN:Option Addr) (i0:Nat),σ_ 7=.pointer (some ⟨ba,0,none⟩)/\σ_ 9=jV (↑ap.Shots.length:Int)/\σ_ 11=.pointer (some ⟨bi,0,none⟩)/\σ_ 12=.pointer (some ⟨bl,0,none⟩)/\σ_ 13=.pointer (some ⟨ae,0,none⟩)/\σ_ 86=.pointer (some ⟨ae,0,none⟩)/\σ_ 88=.slice gL ([5].length) iY/\σ_ 89=.slice gM br.length iZ/\σ_ 90=.pointer (some ⟨ae,1,none⟩)/\σ_ 91=.slice bp bm.length bq/\σ_ 92=.slice gN ([2].length) i0/\PHeap.Le bv U_/\sW w U U_ [ab,B0,am,ak,bf,av,aj,ai,bk,aZ,au,ah,aq,.row gL iY 3 1 (nA KL.encI [5]),.row gM iZ 3 1 (nA KL.encI br),.row gN i0 3 1 (nA KL.encI [2])] w_) ?_ fun vi=>?_
 rintro WS TL ⟨ql,gL,iY,gM,iZ,gN,i0,CE,CF,CG,CH,te,CI,CJ,CL,CM,CN,tf,RC,up⟩
 refine zS rfl rfl rfl rfl (fun _=>zG rfl te zF rfl zR) (ZX (j:=10) (enc:=KL.encI) (xs:=bm) (ys:=[2]) (zs:=bY) rfl rfl rfl rfl rfl ZE wDl rfl rfl rfl rfl rfl rfl up rfl CN tf (up.srcR (j:=15) rfl (by decide) (wAD (f:=KL.encI) (sz:=1) (fun _=>rfl) [2])) (fun _=>rfl) (fun _=>rfl) t7 rfl ?_)
 intro py rC w8 MC
 have MD:sW w U ql [ab,B0,am,ak,bf,av,aj,ai,bk,aZ,.row py rC 3 1 (nA KL.encI bY),ah,aq,.row gL iY 3 1 (nA KL.encI [5]),.row gM iZ 3 1 (nA KL.encI br),.row gN i0 3 1 (nA KL.encI [2])] w8:=MC
 exact vh _ _ ⟨ql,gL,iY,gM,iZ,gN,i0,py,rC,CE,CF,CG,CH,te,CI,CJ,CL,CM,tf,rfl,rfl,RC,(MD.pick [0,1,2,3,4,5,6,7,8,9,11,12,13,14,15,10] _ (by decide) rfl)⟩
 refine Zb (s:=gBj) (M:=fun σ_ w_=>∃ (U_:PHeap) (gO:Option Addr) (i3:Nat) (gP:Option Addr) (i4:Nat),σ_ 7=.pointer (some ⟨ba,0,none⟩)/\σ_ 9=jV (↑ap.Shots.length:Int)/\σ_ 11=.pointer (some ⟨bi,0,none⟩)/\σ_ 12=.pointer (some ⟨bl,0,none⟩)/\σ_ 13=.pointer (some ⟨ae,0,none⟩)/\σ_ 86=.pointer (some ⟨ae,0,none⟩)/\σ_ 87=.slice bV bG.length bW/\σ_ 88=.slice gO ([5].length) i3/\σ_ 90=.pointer (some ⟨ae,1,none⟩)/\σ_ 91=.slice bp bm.length bq/\σ_ 92=.slice gP ([2].length) i4/\PHeap.Le bv U_/\sW w U U_ [ab,B0,am,ak,bf,av,aj,ai,bk,aZ,bb,au,ah,aq,.row gO i3 3 1 (nA KL.encI [5]),.row gP i4 3 1 (nA KL.encI [2])] w_) ?_ fun oY=>?_
 rintro WT TM ⟨qm,gO,i3,gP,i4,CO,CP,CQ,CR,CT,CU,CV,tg,CW,CX,CY,RD,uq⟩
 refine ZX (j:=10) (enc:=KL.encI) (xs:=bG) (ys:=[5]) (zs:=br) rfl rfl rfl rfl rfl ZE wDl rfl rfl rfl rfl rfl rfl uq rfl CV tg (uq.srcR (j:=14) rfl (by decide) (wAD (f:=KL.encI) (sz:=1) (fun _=>rfl) [5])) (fun _=>rfl) (fun _=>rfl) lv rfl ?_
 intro pz rD w9 ME
 have MF:sW w U qm [ab,B0,am,ak,bf,av,aj,ai,bk,aZ,.row pz rD 3 1 (nA KL.encI br),au,ah,aq,.row gO i3 3 1 (nA KL.encI [5]),.row gP i4 3 1 (nA KL.encI [2])] w9:=ME
 exact vi _ _ ⟨qm,gO,i3,pz,rD,gP,i4,CO,CP,CQ,CR,CT,CU,tg,rfl,CW,CX,CY,RD,(MF.pick [0,1,2,3,4,5,6,7,8,9,11,12,13,14,10,15] _ (by decide) rfl)⟩
 refine Zb (s:=gBi) (M:=fun σ_ w_=>∃ (U_:PHeap) (jO:Option Addr) (lq:Nat) (jP:Option Addr) (ls:Nat) (jQ:Option Addr) (lu:Nat),σ_ 7=.pointer (some ⟨ba,0,none⟩)/\σ_ 9=jV (↑ap.Shots.length:Int)/\σ_ 11=.pointer (some ⟨bi,0,none⟩)/\σ_ 12=.pointer (some ⟨bl,0,none⟩)/\σ_ 13=.pointer (some ⟨ae,0,none⟩)/\σ_ 86=.pointer (some ⟨ae,0,none⟩)/\σ_ 88=.slice jO ([5].length) lq/\σ_ 89=.slice jP br.length ls/\σ_ 90=.pointer (some ⟨ae,1,none⟩)/\σ_ 92=.slice jQ ([2].length) lu/\PHeap.Le bv U_/\sW w U U_ [ab,B0,am,ak,bf,av,aj,ai,bk,aZ,au,ah,aq,.row jO lq 3 1 (nA KL.encI [5]),.row jP ls 3 1 (nA KL.encI br),.row jQ lu 3 1 (nA KL.encI [2])] w_) ?_ fun vj=>?_
 rintro WU TN ⟨vZ,jO,lq,jP,ls,jQ,lu,CZ,C0,C1,C4,C5,C6,C7,C8,th,C9,RE,ur⟩
 exact OKS.mx2 Z Z Z Z (ur.ldB (j:=12) Z Z th zZ (v:=.slice bp bm.length bq) Z) (vi _ _ ⟨vZ,jO,lq,jP,ls,jQ,lu,CZ,C0,C1,C4,C5,C6,C7,C8,th,Z,C9,RE,ur⟩)
 refine Zb (s:=gBh) (M:=fun σ_ w_=>∃ (U_:PHeap) (gQ:Option Addr) (i5:Nat) (gR:Option Addr) (i6:Nat),σ_ 7=.pointer (some ⟨ba,0,none⟩)/\σ_ 9=jV (↑ap.Shots.length:Int)/\σ_ 11=.pointer (some ⟨bi,0,none⟩)/\σ_ 12=.pointer (some ⟨bl,0,none⟩)/\σ_ 13=.pointer (some ⟨ae,0,none⟩)/\σ_ 86=.pointer (some ⟨ae,0,none⟩)/\σ_ 88=.slice gQ ([5].length) i5/\σ_ 89=.slice gR br.length i6/\σ_ 90=.pointer (some ⟨ae,1,none⟩)/\σ_ 91=.slice bp bm.length bq/\PHeap.Le bv U_/\sW w U U_ [ab,B0,am,ak,bf,av,aj,ai,bk,aZ,au,ah,aq,.row gQ i5 3 1 (nA KL.encI [5]),.row gR i6 3 1 (nA KL.encI br)] w_) ?_ fun vk=>?_
 rintro WV TO ⟨qn,gQ,i5,gR,i6,Da,Db,Dc,Dd,tj,De,Df,Dg,Dh,Di,RF,MG⟩
 refine oR Z (zG Z tj zF Z zR) (zo (pv:=[(0,jV 2)]) (zs:=[jV 0]) (cs:=[jV 2]) Z Z Z Z Z (wAK Z wAa) zA zC zm Z Z Z Z Z MG ?_)
 intro xb qV MH
 have MI:sW w U qn [.row (some ⟨qV,0,none⟩) 1 3 1 (nA KL.encI [2]),ab,B0,am,ak,bf,av,aj,ai,bk,aZ,au,ah,aq,.row gQ i5 3 1 (nA KL.encI [5]),.row gR i6 3 1 (nA KL.encI br)] xb:=MH
 exact Ri _ _ ⟨qn,gQ,i5,gR,i6,(some ⟨qV,0,none⟩),1,Da,Db,Dc,Dd,tj,De,Df,Dg,Dh,Di,rfl,rfl,RF,(MI.pick [1,2,3,4,5,6,7,8,9,10,11,12,13,14,15,0] _ (by decide) rfl)⟩
 refine Zb (s:=gBk) (M:=fun σ_ w_=>∃ (U_:PHeap) (gS:Option Addr) (i7:Nat),σ_ 7=.pointer (some ⟨ba,0,none⟩)/\σ_ 9=jV (↑ap.Shots.length:Int)/\σ_ 11=.pointer (some ⟨bi,0,none⟩)/\σ_ 12=.pointer (some ⟨bl,0,none⟩)/\σ_ 13=.pointer (some ⟨ae,0,none⟩)/\σ_ 86=.pointer (some ⟨ae,0,none⟩)/\σ_ 87=.slice bV bG.length bW/\σ_ 90=.pointer (some ⟨ae,1,none⟩)/\σ_ 91=.slice bp bm.length bq/\σ_ 92=.slice gS ([2].length) i7/\PHeap.Le bv U_/\sW w U U_ [ab,B0,am,ak,bf,av,aj,ai,bk,aZ,bb,au,ah,aq,.row gS i7 3 1 (nA KL.encI [2])] w_) ?_ fun vm=>?_
 rintro WW TP ⟨qo,gS,i7,Dj,Dk,Dl,Dm,Dn,Do,Dp,Dq,Dr,Ds,RG,MJ⟩
 refine zo (pv:=[(0,jV 5)]) (zs:=[jV 0]) (cs:=[jV 5]) Z Z Z Z Z (wAK Z wAa) zA zC zm Z Z Z Z Z MJ ?_
 intro xc qW MK
 have ML:sW w U qo [.row (some ⟨qW,0,none⟩) 1 3 1 (nA KL.encI [5]),ab,B0,am,ak,bf,av,aj,ai,bk,aZ,bb,au,ah,aq,.row gS i7 3 1 (nA KL.encI [2])] xc:=MK
 exact oY _ _ ⟨qo,(some ⟨qW,0,none⟩),1,gS,i7,Dj,Dk,Dl,Dm,Dn,Do,Dp,rfl,Dq,Dr,Ds,RG,(ML.pick [1,2,3,4,5,6,7,8,9,10,11,12,13,14,0,15] _ (by decide) rfl)⟩
 refine Zb (s:=gBm) (M:=fun σ_ w_=>∃ (U_:PHeap) (fJ:Option Addr) (fS:Nat) (fK:Option Addr) (fT:Nat),σ_ 7=.pointer (some ⟨ba,0,none⟩)/\σ_ 9=jV (↑ap.Shots.length:Int)/\σ_ 11=.pointer (some ⟨bi,0,none⟩)/\σ_ 12=.pointer (some ⟨bl,0,none⟩)/\σ_ 13=.pointer (some ⟨ae,0,none⟩)/\σ_ 86=.pointer (some ⟨ae,0,none⟩)/\σ_ 87=.slice bV bG.length bW/\σ_ 88=.slice fJ ([5].length) fS/\σ_ 90=.pointer (some ⟨ae,1,none⟩)/\σ_ 92=.slice fK ([2].length) fT/\PHeap.Le bv U_/\sW w U U_ [ab,B0,am,ak,bf,av,aj,ai,bk,aZ,bb,au,ah,aq,.row fJ fS 3 1 (nA KL.encI [5]),.row fK fT 3 1 (nA KL.encI [2])] w_) ?_ fun vo=>?_
 rintro WX TQ ⟨mq,fJ,fS,fK,fT,tm,tn,tp,tq,tr,tu,tv,n9,oa,tw,vt,lB⟩
 refine Zk ?_ ?_
 refine ZX (j:=10) (enc:=KL.encI) (xs:=bG) (ys:=[5]) (zs:=br) rfl rfl rfl rfl rfl ZE wDl rfl rfl rfl rfl rfl rfl lB rfl tv n9 (lB.srcR (j:=14) rfl (by decide) (wAD (f:=KL.encI) (sz:=1) (fun _=>rfl) [5])) (fun _=>rfl) (fun _=>rfl) lv rfl ?_
 intro pB rE xd MM
 have MN:sW w U mq [ab,B0,am,ak,bf,av,aj,ai,bk,aZ,.row pB rE 3 1 (nA KL.encI br),au,ah,aq,.row fJ fS 3 1 (nA KL.encI [5]),.row fK fT 3 1 (nA KL.encI [2])] xd:=MM
 exact vj _ _ ⟨mq,fJ,fS,pB,rE,fK,fT,tm,tn,tp,tq,tr,tu,n9,rfl,oa,tw,vt,(MN.pick [0,1,2,3,4,5,6,7,8,9,11,12,13,14,10,15] _ (by decide) rfl)⟩
 exact OKS.mx2 Z Z Z Z (lB.ldB (j:=13) Z Z oa zZ (v:=.slice bp bm.length bq) Z) (oY _ _ ⟨mq,fJ,fS,fK,fT,tm,tn,tp,tq,tr,tu,tv,n9,oa,Z,tw,vt,lB⟩)
 refine Zb (s:=gBl) (M:=fun σ_ w_=>∃ (U_:PHeap) (eC:Option Addr) (eZ:Nat),σ_ 7=.pointer (some ⟨ba,0,none⟩)/\σ_ 9=jV (↑ap.Shots.length:Int)/\σ_ 11=.pointer (some ⟨bi,0,none⟩)/\σ_ 12=.pointer (some ⟨bl,0,none⟩)/\σ_ 13=.pointer (some ⟨ae,0,none⟩)/\σ_ 86=.pointer (some ⟨ae,0,none⟩)/\σ_ 87=.slice bV bG.length bW/\σ_ 88=.slice eC ([5].length) eZ/\σ_ 90=.pointer (some ⟨ae,1,none⟩)/\σ_ 91=.slice bp bm.length bq/\PHeap.Le bv U_/\sW w U U_ [ab,B0,am,ak,bf,av,aj,ai,bk,aZ,bb,au,ah,aq,.row eC eZ 3 1 (nA KL.encI [5])] w_) ?_ fun vp=>?_
 rintro WY TR ⟨lf,eC,eZ,tz,tA,tB,tC,tD,tE,tF,oc,tG,tH,vu,oy⟩
 refine Zk ?_ ?_
 refine ZX (j:=10) (enc:=KL.encI) (xs:=bG) (ys:=[5]) (zs:=br) rfl rfl rfl rfl rfl ZE wDl rfl rfl rfl rfl rfl rfl oy rfl tF oc (oy.srcR (j:=14) rfl (by decide) (wAD (f:=KL.encI) (sz:=1) (fun _=>rfl) [5])) (fun _=>rfl) (fun _=>rfl) lv rfl ?_
 intro pC rF xe MO
 have MP:sW w U lf [ab,B0,am,ak,bf,av,aj,ai,bk,aZ,.row pC rF 3 1 (nA KL.encI br),au,ah,aq,.row eC eZ 3 1 (nA KL.encI [5])] xe:=MO
 exact vk _ _ ⟨lf,eC,eZ,pC,rF,tz,tA,tB,tC,tD,tE,oc,rfl,tG,tH,vu,(MP.pick [0,1,2,3,4,5,6,7,8,9,11,12,13,14,10] _ (by decide) rfl)⟩
 refine zo (pv:=[(0,jV 2)]) (zs:=[jV 0]) (cs:=[jV 2]) Z Z Z Z Z (wAK Z wAa) zA zC zm Z Z Z Z Z oy ?_
 intro xf qX MQ
 have MS:sW w U lf [.row (some ⟨qX,0,none⟩) 1 3 1 (nA KL.encI [2]),ab,B0,am,ak,bf,av,aj,ai,bk,aZ,bb,au,ah,aq,.row eC eZ 3 1 (nA KL.encI [5])] xf:=MQ
 exact oY _ _ ⟨lf,eC,eZ,(some ⟨qX,0,none⟩),1,tz,tA,tB,tC,tD,tE,tF,oc,tG,tH,rfl,vu,(MS.pick [1,2,3,4,5,6,7,8,9,10,11,12,13,14,15,0] _ (by decide) rfl)⟩
 refine oR Z (zG Z bL zF Z zR) (oL Z (ff.ldB (j:=13) Z Z Z zZ (v:=.slice bV bG.length bW) Z) (oR Z (zG Z bL zF Z zR) (Zk ?_ ?_)))
 refine zo (pv:=[(0,jV 5)]) (zs:=[jV 0]) (cs:=[jV 5]) Z Z Z Z Z (wAK Z wAa) zA zC zm Z Z Z Z Z ff ?_
 intro xg ip MT
 let j7:Res:=.row (some ⟨ip,0,none⟩) 1 3 1 (nA KL.encI [5])
 have jo:sW w U bv [j7,bk,ab,B0,am,ak,bf,av,aj,ai,aZ,bb,au,ah,aq] xg:=MT
 refine Zk ?_ ?_
 refine ZX (j:=11) (enc:=KL.encI) (xs:=bG) (ys:=[5]) (zs:=br) rfl rfl rfl rfl rfl ZE wDl rfl rfl rfl rfl rfl rfl jo rfl rfl rfl (jo.srcR (j:=0) rfl (by decide) (wAD (f:=KL.encI) (sz:=1) (fun _=>rfl) [5])) (fun _=>rfl) (fun _=>rfl) lv rfl ?_
 intro lW mR xh MU
 let pZ:Res:=.row lW mR 3 1 (nA KL.encI br)
 have oz:sW w U bv [j7,bk,ab,B0,am,ak,bf,av,aj,ai,aZ,pZ,au,ah,aq] xh:=MU
 refine Zk ?_ ?_
 exact OKS.mx2 rfl rfl rfl rfl (oz.ldB (j:=14) rfl rfl rfl zZ (v:=.slice bp bm.length bq) rfl) (vk _ _ ⟨bv,(some ⟨ip,0,none⟩),1,lW,mR,bT,bU,bN,bK,bL,rfl,rfl,rfl,rfl,rfl,(zY _),(oz.pick [2,3,4,5,6,7,8,9,1,10,12,13,14,0,11] _ (by decide) rfl)⟩)
 refine zo (pv:=[(0,jV 2)]) (zs:=[jV 0]) (cs:=[jV 2]) Z Z Z Z Z (wAK Z wAa) zA zC zm Z Z Z Z Z oz ?_
 intro xi qY MV
 have MW:sW w U bv [.row (some ⟨qY,0,none⟩) 1 3 1 (nA KL.encI [2]),j7,bk,ab,B0,am,ak,bf,av,aj,ai,aZ,pZ,au,ah,aq] xi:=MV
 exact vj _ _ ⟨bv,(some ⟨ip,0,none⟩),1,lW,mR,(some ⟨qY,0,none⟩),1,bT,bU,bN,bK,bL,rfl,rfl,rfl,rfl,rfl,(zY _),(MW.pick [3,4,5,6,7,8,9,10,2,11,13,14,15,1,12,0] _ (by decide) rfl)⟩
 refine Zk ?_ ?_
 exact OKS.mx2 rfl rfl rfl rfl (jo.ldB (j:=14) rfl rfl rfl zZ (v:=.slice bp bm.length bq) rfl) (vp _ _ ⟨bv,(some ⟨ip,0,none⟩),1,bT,bU,bN,bK,bL,rfl,rfl,rfl,rfl,rfl,(zY _),(jo.pick [2,3,4,5,6,7,8,9,1,10,11,12,13,14,0] _ (by decide) rfl)⟩)
 refine zo (pv:=[(0,jV 2)]) (zs:=[jV 0]) (cs:=[jV 2]) Z Z Z Z Z (wAK Z wAa) zA zC zm Z Z Z Z Z jo ?_
 intro xj qZ MX
 have MY:sW w U bv [.row (some ⟨qZ,0,none⟩) 1 3 1 (nA KL.encI [2]),j7,bk,ab,B0,am,ak,bf,av,aj,ai,aZ,bb,au,ah,aq] xj:=MX
 exact vo _ _ ⟨bv,(some ⟨ip,0,none⟩),1,(some ⟨qZ,0,none⟩),1,bT,bU,bN,bK,bL,rfl,rfl,rfl,rfl,rfl,(zY _),(MY.pick [3,4,5,6,7,8,9,10,2,11,12,13,14,15,1,0] _ (by decide) rfl)⟩
 refine Zk ?_ ?_
 refine OKS.mx2 Z Z Z Z (ff.ldB (j:=13) Z Z Z zZ (v:=.slice bp bm.length bq) Z) (Zk ?_ ?_)
 refine zo (pv:=[(0,jV 5)]) (zs:=[jV 0]) (cs:=[jV 5]) Z Z Z Z Z (wAK Z wAa) zA zC zm Z Z Z Z Z ff ?_
 intro xk rc MZ
 have M0:sW w U bv [.row (some ⟨rc,0,none⟩) 1 3 1 (nA KL.encI [5]),bk,ab,B0,am,ak,bf,av,aj,ai,aZ,bb,au,ah,aq] xk:=MZ
 exact vp _ _ ⟨bv,(some ⟨rc,0,none⟩),1,bT,bU,bN,bK,bL,rfl,rfl,rfl,rfl,rfl,(zY _),(M0.pick [2,3,4,5,6,7,8,9,1,10,11,12,13,14,0] _ (by decide) rfl)⟩
 refine zo (pv:=[(0,jV 2)]) (zs:=[jV 0]) (cs:=[jV 2]) Z Z Z Z Z (wAK Z wAa) zA zC zm Z Z Z Z Z ff ?_
 intro xl re M2
 have M3:sW w U bv [.row (some ⟨re,0,none⟩) 1 3 1 (nA KL.encI [2]),bk,ab,B0,am,ak,bf,av,aj,ai,aZ,bb,au,ah,aq] xl:=M2
 exact vm _ _ ⟨bv,(some ⟨re,0,none⟩),1,bT,bU,bN,bK,bL,rfl,rfl,rfl,rfl,rfl,(zY _),(M3.pick [2,3,4,5,6,7,8,9,1,10,11,12,13,14,0] _ (by decide) rfl)⟩
 refine zo (pv:=[(0,jV 2)]) (zs:=[jV 0]) (cs:=[jV 2]) Z Z Z Z Z (wAK Z wAa) zA zC zm Z Z Z Z Z ff ?_
 intro xm mK M4
 let p6:Res:=.row (some ⟨mK,0,none⟩) 1 3 1 (nA KL.encI [2])
 have oB:sW w U bv [p6,bk,ab,B0,am,ak,bf,av,aj,ai,aZ,bb,au,ah,aq] xm:=M4
 refine Zk ?_ ?_
 refine zo (pv:=[(0,jV 5)]) (zs:=[jV 0]) (cs:=[jV 5]) Z Z Z Z Z (wAK Z wAa) zA zC zm Z Z Z Z Z oB ?_
 intro xn ri M5
 have M6:sW w U bv [.row (some ⟨ri,0,none⟩) 1 3 1 (nA KL.encI [5]),p6,bk,ab,B0,am,ak,bf,av,aj,ai,aZ,bb,au,ah,aq] xn:=M5
 exact vo _ _ ⟨bv,(some ⟨ri,0,none⟩),1,(some ⟨mK,0,none⟩),1,bT,bU,bN,bK,bL,rfl,rfl,rfl,rfl,rfl,(zY _),(M6.pick [3,4,5,6,7,8,9,10,2,11,12,13,14,15,0,1] _ (by decide) rfl)⟩
 exact OKS.mx2 rfl rfl rfl rfl (oB.ldB (j:=14) rfl rfl rfl zZ (v:=.slice bp bm.length bq) rfl) (vm _ _ ⟨bv,(some ⟨mK,0,none⟩),1,bT,bU,bN,bK,bL,rfl,rfl,rfl,rfl,rfl,(zY _),(oB.pick [2,3,4,5,6,7,8,9,1,10,11,12,13,14,0] _ (by decide) rfl)⟩)
 rintro WZ dz ⟨Tj,dp,dD,dq,dE,Dt,tI,Du,Dv,Dw,o8,M7⟩
 refine zM (sR fL2 Z (oM Z tI (oM Z Z (eN (zk ?_)))))
 have q:=M7.freezeR (k:=2) (n:=(nD bo bB.toNat (w64 ((gd bo bB.toNat) + 1))).length) rfl (wAD (f:=KL.encI) (sz:=1) (fun _=>rfl) (nD bo bB.toNat (w64 ((gd bo bB.toNat) + 1)))) (by decide)
 obtain ⟨v7,o9,QW,M8⟩:=q
 let bE:Res:=.blk ae 25 [.slice dp da.length dD,.slice dq db.length dE,.slice bC bA.length bF]
 let eH:Res:=.row dq dE 3 1 (nA KL.encI db)
 let fM:Res:=.row dp dD 3 1 (nA KL.encI da)
 have M9:sW w U v7 [ab,B0,ak,bf,av,aj,ai,bk,aZ,fM,eH,ah,bE] dz:=M8
 have q:=M9.freezeR (k:=2) (n:=bX.length) rfl (wAD (f:=KL.encI) (sz:=1) (fun _=>rfl) bX) (by decide)
 obtain ⟨wa,lL,QX,Nb⟩:=q
 have Nc:sW w U wa [ab,B0,bf,av,aj,ai,bk,aZ,fM,eH,ah,bE] dz:=Nb
 have q:=Nc.freezeR (k:=2) (n:=cO.length) rfl (wAD (f:=wAB) (sz:=2) (fun _=>rfl) cO) (by decide)
 obtain ⟨wb,jw,QY,Nd⟩:=q
 have Nf:sW w U wb [ab,B0,av,aj,ai,bk,aZ,fM,eH,ah,bE] dz:=Nd
 have q:=Nf.freezeR (k:=3) (n:=b5.length) rfl (wAD (f:=KL.encI) (sz:=1) (fun _=>rfl) b5) (by decide)
 obtain ⟨wc,fY,QZ,Ng⟩:=q
 have Nh:sW w U wc [ab,B0,av,ai,bk,aZ,fM,eH,ah,bE] dz:=Ng
 have q:=Nh.freezeR (k:=3) (n:=b9.length) rfl (wAD (f:=KL.encI) (sz:=1) (fun _=>rfl) b9) (by decide)
 obtain ⟨wd,fz,Q0,Ni⟩:=q
 have Nj:sW w U wd [ab,B0,av,bk,aZ,fM,eH,ah,bE] dz:=Ni
 have q:=Nj.freezeR (k:=3) (n:=fC.length) rfl (wAD (f:=wAB) (sz:=2) (fun _=>rfl) fC) (by decide)
 obtain ⟨we,ed,Q1,Nk⟩:=q
 have Nl:sW w U we [ab,B0,av,aZ,fM,eH,ah,bE] dz:=Nk
 have q:=Nl.freezeR (k:=4) (n:=da.length) rfl (wAD (f:=KL.encI) (sz:=1) (fun _=>rfl) da) (by decide)
 obtain ⟨wg,dQ,uZ,Nm⟩:=q
 have Nn:sW w U wg [ab,B0,av,aZ,eH,ah,bE] dz:=Nm
 have q:=Nn.freezeR (k:=4) (n:=db.length) rfl (wAD (f:=KL.encI) (sz:=1) (fun _=>rfl) db) (by decide)
 obtain ⟨wh,cQ,u0,No⟩:=q
 have Np:sW w U wh [ab,B0,av,aZ,ah,bE] dz:=No
 have q:=Np.freezeR (k:=4) (n:=bA.length) rfl (wAD (f:=wAB) (sz:=2) (fun _=>rfl) bA) (by decide)
 obtain ⟨mr,cA,u4,Nq⟩:=q
 have Nr:sW w U mr [ab,B0,av,aZ,bE] dz:=Nq
 have q:=wCo cU
 obtain ⟨VK,dN⟩:=q
 have q:=wCn dN
 obtain ⟨oU,O1⟩:=q
 replace oU:=zL oU
 refine CK.forN (fun cw _ σ_ w_=>∃ (U_:PHeap),σ_ 97=jV (↑cw:Int)/\σ_ 7=.pointer (some ⟨ba,0,none⟩)/\σ_ 9=jV (↑ap.Shots.length:Int)/\σ_ 11=.pointer (some ⟨bi,0,none⟩)/\σ_ 12=.pointer (some ⟨bl,0,none⟩)/\σ_ 13=.pointer (some ⟨ae,0,none⟩)/\σ_ 96=jV (↑ap.Shots.length:Int)/\PHeap.Le mr U_/\sW w U U_ [ab,B0,av,aZ,bE] w_) O1 ?_ ?_ ?_
 exact ⟨mr,Z,Dt,tI,Du,Dv,Dw,Z,(zY _),Nr⟩
 rintro cw ⟨⟩ Wv W0 TS oI ⟨qp,om,Dx,tJ,Dy,Dz,DA,tK,cB,Ns⟩ cX ft
 try dsimp only at cX
 have rG:Hid ((↑cw:Int) < (↑ap.Shots.length:Int)):=zL (wCI oI)
 replace oI:=zL oI
 have O7:Hid (w64 ((↑cw:Int) + 1)=(↑(cw + 1):Int)):=zL (by have h1:=oU.out;have h2:=rG.out;rw [wAf] <;> omega)
 refine sR fL1 Z (oR Z (zl Z om tK) (eN (zM (cT Z rG (kN (zM (zk (sR fL2 Z (oM Z om (oA Z Z (eN (sR fL2 Z (oM Z tJ (oM Z Z (eN (zk ?_))))))))))))))))
 have q:=wCo cX
 obtain ⟨VL,dO⟩:=q
 have q:=wCn dO
 obtain ⟨oW,O2⟩:=q
 replace oW:=zL oW
 refine CK.forN (fun cZ _ σ_ w_=>∃ (U_:PHeap),σ_ 101=jV (↑cZ:Int)/\σ_ 7=.pointer (some ⟨ba,0,none⟩)/\σ_ 9=jV (↑ap.Shots.length:Int)/\σ_ 11=.pointer (some ⟨bi,0,none⟩)/\σ_ 12=.pointer (some ⟨bl,0,none⟩)/\σ_ 13=.pointer (some ⟨ae,0,none⟩)/\σ_ 14=jV (↑cw:Int)/\σ_ 96=jV (↑ap.Shots.length:Int)/\σ_ 97=jV (↑cw:Int)/\σ_ 100=jV (↑ap.Shots.length:Int)/\PHeap.Le qp U_/\sW w U U_ [ab,B0,av,aZ,bE] w_) O2 ?_ ?_ ?_
 exact ⟨qp,Z,Dx,tJ,Dy,Dz,DA,Z,tK,om,Z,(zY _),Ns⟩
 rintro cZ ⟨⟩ Ww Xa xo oK ⟨wi,oq,tL,DB,tM,tO,tP,je,DC,DD,tQ,cC,ut⟩ u6 fu
 try dsimp only at u6
 have rH:Hid ((↑cZ:Int) < (↑ap.Shots.length:Int)):=zL (wCI oK)
 replace oK:=zL oK
 have O8:Hid (w64 ((↑cZ:Int) + 1)=(↑(cZ + 1):Int)):=zL (by have h1:=oW.out;have h2:=rH.out;rw [wAf] <;> omega)
 refine sR fL1 Z (oR Z (zl Z oq tQ) (eN (zM (cT Z rH (kN (zM (zk (sR fL2 Z (oM Z oq (oA Z Z (eN (sR (wCl (.fx 3 (wGU gBd) .stop)) Z (oL Z (ut.ldBA (j:=0) Z Z tL ZI ze (vs:=[.slice dS d7.length dX,.slice dT d8.length dY,.slice cg ap.Across.length cr]) Z Z) (oM Z je (oM Z Z ?_)))))))))))))))
 have Hb:=ua.le ef
 have Hc:=Hb.le lI
 have Hd:=Hc.le lJ
 have He:=Hd.le jv
 have Hf:=He.le o7
 have Hh:=Hf.le o8
 have Hj:=Hh.le o9
 have Hk:=Hj.le lL
 have Hl:=Hk.le jw
 have Hm:=Hl.le fY
 have Hn:=Hm.le fz
 have Ho:=Hn.le ed
 have Hp:=Ho.le dQ
 have Hq:=Hp.le cQ
 have Hr:=Hq.le cA
 have Hs:=Hr.le cB
 have Ht:=Hs.le cC
 have Hu:=ub.le ef
 have Hv:=Hu.le lI
 have Hw:=Hv.le lJ
 have Hx:=Hw.le jv
 have Hy:=Hx.le o7
 have Hz:=Hy.le o8
 have HA:=Hz.le o9
 have HB:=HA.le lL
 have HD:=HB.le jw
 have HF:=HD.le fY
 have HG:=HF.le fz
 have HH:=HG.le ed
 have HI:=HH.le dQ
 have HJ:=HI.le cQ
 have HK:=HJ.le cA
 have HM:=HK.le cB
 have HO:=HM.le cC
 have HP:=fU.le jx
 have HQ:=HP.le ef
 have HS:=HQ.le lI
 have HT:=HS.le lJ
 have HU:=HT.le jv
 have HV:=HU.le o7
 have HW:=HV.le o8
 have HX:=HW.le o9
 have HZ:=HX.le lL
 have H0:=HZ.le jw
 have H1:=H0.le fY
 have H3:=H1.le fz
 have H4:=H3.le ed
 have H5:=H4.le dQ
 have H6:=H5.le cQ
 have H7:=H6.le cA
 have H8:=H7.le cB
 have H9:=H8.le cC
 have q:=bnd u6
 obtain ⟨⟨fD,vA⟩,Ia,uN⟩:=q
 try dsimp only at uN
 refine zP 0 Z Z Z Z (zN Z Z Zq (zD Z (zD Z (zD Z zV))) Z) ut (fun hs=>wBK (⟨d7,d8,ap.Across⟩:wAC) dS dX dT dY cg cr (↑cw:Int) (↑cZ:Int) xo wi hs Ht HO H9 Ia) (.inr Z) ?_
 rintro ms SN VY xp dh Nt ⟨rfl,rfl⟩
 have Nu:sW w U ms [ab,B0,av,aZ,bE] xp:=Nt
 refine oM Z Z (oR Z (ZM Z Z (v:=.agg #[jV fD.Lo,jV fD.Hi]) Z) (oR Z (ZM Z Z (v:=jV vA) Z) (ZF (cs:=B8) Z Z Z Z Z ZD Z Nu ?_)))
 intro TT cS Nv
 let cp:List Value:=[jV fD.Lo,jV fD.Hi]
 refine zu (j:=0) (vs:=cp) Z Z Z Z Nv Z Z Z Z zg (zB Z) Z Z Z ?_
 intro qC Nw
 have uu:sW w U ms [.blk cS 66 cp,ab,B0,av,aZ,bE] qC:=Nw
 refine oA Z Z (eN (sR (wCl (.fx 3 (wGU gBd) .stop)) Z (oL Z (uu.ldBA (j:=3) Z Z tM ZI ze (vs:=[.slice ci ((nD bo bB.toNat (w64 ((gd bo bB.toNat) + 1))).length) ct,.slice cD bX.length cE,.slice dv cO.length dK]) Z Z) (oM Z je (oM Z Z ?_)))))
 have Ib:=QW.le lL
 have Ic:=Ib.le jw
 have Ie:=Ic.le fY
 have If:=Ie.le fz
 have Ig:=If.le ed
 have Ih:=Ig.le dQ
 have Ii:=Ih.le cQ
 have Ij:=Ii.le cA
 have Ik:=Ij.le cB
 have Il:=Ik.le cC
 have Im:=Il.le dh
 have Io:=QX.le jw
 have Ip:=Io.le fY
 have Iq:=Ip.le fz
 have Ir:=Iq.le ed
 have Is:=Ir.le dQ
 have It:=Is.le cQ
 have Iu:=It.le cA
 have Iv:=Iu.le cB
 have Iw:=Iv.le cC
 have Ix:=Iw.le dh
 have Iy:=QY.le fY
 have Iz:=Iy.le fz
 have IA:=Iz.le ed
 have IB:=IA.le dQ
 have IC:=IB.le cQ
 have ID:=IC.le cA
 have IE:=ID.le cB
 have IF:=IE.le cC
 have IG:=IF.le dh
 have q:=bnd uN
 obtain ⟨⟨jG,vB⟩,II,uO⟩:=q
 try dsimp only at uO
 refine zP 0 Z Z Z Z (zN Z Z Zq (zD Z (zD Z (zD Z zV))) Z) uu (fun hs=>wBK (⟨(nD bo bB.toNat (w64 ((gd bo bB.toNat) + 1))),bX,cO⟩:wAC) ci ct cD cE dv dK (↑cw:Int) (↑cZ:Int) qC ms hs Im Ix IG II) (.inr Z) ?_
 rintro mu SO VZ xq fA Nx ⟨rfl,rfl⟩
 have Ny:sW w U mu [.blk cS 66 cp,ab,B0,av,aZ,bE] xq:=Nx
 refine oM Z Z (oR Z (ZM Z Z (v:=.agg #[jV jG.Lo,jV jG.Hi]) Z) (oR Z (ZM Z Z (v:=jV vB) Z) (ZF (cs:=B8) Z Z Z Z Z ZD Z Ny ?_)))
 intro TU dV Nz
 let dx:List Value:=[jV jG.Lo,jV jG.Hi]
 refine zu (j:=0) (vs:=dx) Z Z Z Z Nz Z Z Z Z zg (zB Z) Z Z Z ?_
 intro qD NA
 have uv:sW w U mu [.blk dV 66 dx,.blk cS 66 cp,ab,B0,av,aZ,bE] qD:=NA
 refine oA Z Z (eN (sR (wCl (.fx 3 (wGU gBd) .stop)) Z (oL Z (uv.ldBA (j:=5) Z Z tO ZI ze (vs:=[.slice cG b5.length cM,.slice cH b9.length cN,.slice gA fC.length iM]) Z Z) (oM Z je (oM Z Z ?_)))))
 have IJ:=QZ.le fz
 have IK:=IJ.le ed
 have IL:=IK.le dQ
 have IM:=IL.le cQ
 have IN:=IM.le cA
 have IP:=IN.le cB
 have IQ:=IP.le cC
 have IR:=IQ.le dh
 have IS:=IR.le fA
 have IT:=Q0.le ed
 have IU:=IT.le dQ
 have IV:=IU.le cQ
 have IW:=IV.le cA
 have IX:=IW.le cB
 have IY:=IX.le cC
 have IZ:=IY.le dh
 have I0:=IZ.le fA
 have I6:=Q1.le dQ
 have I7:=I6.le cQ
 have I8:=I7.le cA
 have I9:=I8.le cB
 have Ja:=I9.le cC
 have Jb:=Ja.le dh
 have Jc:=Jb.le fA
 have q:=bnd uO
 obtain ⟨⟨jH,vC⟩,Jd,uP⟩:=q
 try dsimp only at uP
 refine zP 0 Z Z Z Z (zN Z Z Zq (zD Z (zD Z (zD Z zV))) Z) uv (fun hs=>wBK (⟨b5,b9,fC⟩:wAC) cG cM cH cN gA iM (↑cw:Int) (↑cZ:Int) qD mu hs IS I0 Jc Jd) (.inr Z) ?_
 rintro mw SP V0 xr lM NB ⟨rfl,rfl⟩
 have NC:sW w U mw [.blk dV 66 dx,.blk cS 66 cp,ab,B0,av,aZ,bE] xr:=NB
 refine oM Z Z (oR Z (ZM Z Z (v:=.agg #[jV jH.Lo,jV jH.Hi]) Z) (oR Z (ZM Z Z (v:=jV vC) Z) (ZF (cs:=B8) Z Z Z Z Z ZD Z NC ?_)))
 intro TV fP ND
 let eI:List Value:=[jV jH.Lo,jV jH.Hi]
 refine zu (j:=0) (vs:=eI) Z Z Z Z ND Z Z Z Z zg (zB Z) Z Z Z ?_
 intro qE NE
 have uw:sW w U mw [.blk fP 66 eI,.blk dV 66 dx,.blk cS 66 cp,ab,B0,av,aZ,bE] qE:=NE
 refine oA Z Z (eN (sR (wCl (.fx 3 (wGU gBd) .stop)) Z (oL Z (uw.ldBA (j:=7) Z Z tP ZI ze (vs:=[.slice dp da.length dD,.slice dq db.length dE,.slice bC bA.length bF]) Z Z) (oM Z je (oM Z Z ?_)))))
 have Je:=uZ.le cQ
 have Jf:=Je.le cA
 have Jg:=Jf.le cB
 have Jh:=Jg.le cC
 have Ji:=Jh.le dh
 have Jj:=Ji.le fA
 have Jk:=Jj.le lM
 have Jl:=u0.le cA
 have Jm:=Jl.le cB
 have Jn:=Jm.le cC
 have Jo:=Jn.le dh
 have Jp:=Jo.le fA
 have Jq:=Jp.le lM
 have Jr:=u4.le cB
 have Js:=Jr.le cC
 have Jt:=Js.le dh
 have Ju:=Jt.le fA
 have Jv:=Ju.le lM
 have q:=bnd uP
 obtain ⟨⟨jJ,vD⟩,Jw,uQ⟩:=q
 try dsimp only at uQ
 refine zP 0 Z Z Z Z (zN Z Z Zq (zD Z (zD Z (zD Z zV))) Z) uw (fun hs=>wBK (⟨da,db,bA⟩:wAC) dp dD dq dE bC bF (↑cw:Int) (↑cZ:Int) qE mw hs Jk Jq Jv Jw) (.inr Z) ?_
 rintro eK SQ V1 xt RH NF ⟨rfl,rfl⟩
 have NG:sW w U eK [.blk fP 66 eI,.blk dV 66 dx,.blk cS 66 cp,ab,B0,av,aZ,bE] xt:=NF
 refine oM Z Z (oR Z (ZM Z Z (v:=.agg #[jV jJ.Lo,jV jJ.Hi]) Z) (oR Z (ZM Z Z (v:=jV vD) Z) (ZF (cs:=B8) Z Z Z Z Z ZD Z NG ?_)))
 intro TW lj NH
 let g9:List Value:=[jV jJ.Lo,jV jJ.Hi]
 refine zu (j:=0) (vs:=g9) Z Z Z Z NH Z Z Z Z zg (zB Z) Z Z Z ?_
 intro qF NI
 have fg:sW w U eK [.blk lj 66 g9,.blk fP 66 eI,.blk dV 66 dx,.blk cS 66 cp,ab,B0,av,aZ,bE] qF:=NI
 refine oA Z Z (eN (zM (CK.fresh fun bS bP=>?_)))
 have DE:bS 7=.pointer (some ⟨ba,0,none⟩):=(bP 7).trans tL
 have DF:bS 9=jV (↑ap.Shots.length:Int):=(bP 9).trans DB
 have DG:bS 11=.pointer (some ⟨bi,0,none⟩):=(bP 11).trans tM
 have DH:bS 12=.pointer (some ⟨bl,0,none⟩):=(bP 12).trans tO
 have DI:bS 13=.pointer (some ⟨ae,0,none⟩):=(bP 13).trans tP
 have DJ:bS 14=jV (↑cw:Int):=(bP 14).trans je
 have od:bS 16=.pointer (some ⟨cS,0,none⟩):=(bP 16).trans rfl
 have DK:bS 17=jV vA:=(bP 17).trans rfl
 have DL:bS 18=.pointer (some ⟨dV,0,none⟩):=(bP 18).trans rfl
 have DM:bS 19=jV vB:=(bP 19).trans rfl
 have DN:bS 20=.pointer (some ⟨fP,0,none⟩):=(bP 20).trans rfl
 have DO:bS 21=jV vC:=(bP 21).trans rfl
 have DP:bS 22=.pointer (some ⟨lj,0,none⟩):=(bP 22).trans rfl
 have DQ:bS 23=jV vD:=(bP 23).trans rfl
 have DR:bS 96=jV (↑ap.Shots.length:Int):=(bP 96).trans DC
 have DS:bS 97=jV (↑cw:Int):=(bP 97).trans DD
 have DT:bS 100=jV (↑ap.Shots.length:Int):=(bP 100).trans tQ
 have DU:bS 101=jV (↑cZ:Int):=(bP 101).trans oq
 clear bP
 refine rR (wMN (.fx 17 (wMP (.fx 23 (wMQ (.nil)) .stop)) .stop)) Z (oM Z DK (oR Z (Zj Z Z Z) (oM Z Z (ifc uQ ?_ ?_))))
 intro e8 PZ
 refine zz Z Z Z (zU Z Z (zy (fun h=>h e8.out))) Z DM (zS Z Z Z (zU Z Z (zy (fun h=>h e8.out))) (fun _=>Zj Z Z Z) (oR Z (zf Z (zy (fun h=>h e8.out)) Z) (oM Z Z (ifc PZ ?_ ?_))))
 intro e9 P0
 refine zz Z Z Z (zU Z Z (zy (fun h=>h e9.out))) Z DO (zS Z Z Z (zU Z Z (zy (fun h=>h e9.out))) (fun _=>Zj Z Z Z) (oR Z (zf Z (zy (fun h=>h e9.out)) Z) (oM Z Z (ifc P0 ?_ ?_))))
 intro fb P1
 refine zz Z Z Z (zU Z Z (zy (fun h=>h fb.out))) Z DQ (zS Z Z Z (zU Z Z (zy (fun h=>h fb.out))) (fun _=>Zj Z Z Z) (oR Z (zf Z (zy (fun h=>h fb.out)) Z) (oM Z Z (ifc P1 ?_ ?_))))
 intro cK P2
 refine zi Z Z Z (zU Z Z (zy (fun h=>h cK.out))) (fg.ldBA (j:=2) Z Z DL ZN zg (vs:=dx) Z Z) Z (zi Z Z Z (zU Z Z (zy (fun h=>h cK.out))) (fg.ldBA (j:=3) Z Z od ZN zg (vs:=cp) Z Z) Z (bnK P2 fun Wp Jx P3=>zP 0 Z Z Z (zU Z Z (zy (fun h=>h cK.out))) (zN Z Z Tryz.call31 (zD Z (zD Z zV)) Z) fg (fun hs=>wBk jG fD qF eK hs Jx) (.inr Z) ?_))
 rintro my SR V2 qG RI NJ ⟨rfl,rfl⟩
 have lC:sW w U my [.blk lj 66 g9,.blk fP 66 eI,.blk dV 66 dx,.blk cS 66 cp,ab,B0,av,aZ,bE] qG:=NJ
 refine zS Z Z Z (zU Z Z (zy (fun h=>h cK.out))) (fun _=>ZO Z Z) (oR Z (zf Z (zy (fun h=>h cK.out)) Z) (oM Z Z (ifc P3 ?_ ?_)))
 intro cL P4
 refine zi Z Z Z (zU Z Z (nC cL.out)) (lC.ldBA (j:=3) Z Z od ZN zg (vs:=cp) Z Z) Z (zi Z Z Z (zU Z Z (nC cL.out)) (lC.ldBA (j:=1) Z Z DN ZN zg (vs:=eI) Z Z) Z (bnK P4 fun Wq Jy P5=>zP 0 Z Z Z (zU Z Z (nC cL.out)) (zN Z Z Tryz.call31 (zD Z (zD Z zV)) Z) lC (fun hs=>wBk fD jH qG my hs Jy) (.inr Z) ?_))
 rintro lg SS V3 xu RJ NK ⟨rfl,rfl⟩
 have jp:sW w U lg [.blk lj 66 g9,.blk fP 66 eI,.blk dV 66 dx,.blk cS 66 cp,ab,B0,av,aZ,bE] xu:=NK
 refine zS Z Z Z (zU Z Z (nC cL.out)) (fun _=>ZO Z Z) (oR Z (zf Z (nC cL.out) Z) (oM Z Z (ifc P5 ?_ ?_)))
 intro dF P6
 refine zi Z Z Z (zU Z Z (nC dF.out)) (jp.ldBA (j:=0) Z Z DP ZN zg (vs:=g9) Z Z) Z (zi Z Z Z (zU Z Z (nC dF.out)) (jp.ldBA (j:=3) Z Z od ZN zg (vs:=cp) Z Z) Z (zS Z Z Z (zU Z Z (nC dF.out)) (fun _=>ZL (Runs.neS (enc:=wBd) (a:=jJ) (b:=fD) Z Z Z wMz wMy) (congrArg nK (decide_not).symm)) (oR Z (zf Z (nC dF.out) Z) (eN (ifc P6 ?_ ?_)))))
 intro mS P7
 refine ZB (zy (fun h=>h mS.out)) (Zd (zq (zQ (rR fL2 Z (oR Z (ZL (zh Z DU Z) (congrArg (jV) O8.out)) (oM Z Z (ZK ?_)))))))
 have q:=nB P7
 obtain rfl:=q
 exact zQ ⟨rfl,_,rfl,⟨lg,rfl,DE,DF,DG,DH,DI,DJ,DR,DS,DT,((((((cC.trans dh).trans fA).trans lM).trans RH).trans RI).trans RJ),(jp.pick [4,5,6,7,8] _ (by decide) rfl)⟩⟩
 intro mS P8
 refine cT Z mS (sR fL1 Z (oA Z Z (eN (zX (zO (zH ?_))))))
 have q:=wAS P8
 obtain ⟨Sb,P9,yo⟩:=q
 have q:=wBI cX dO (fu Sb yo)
 obtain rfl:=q
 refine zH (zO (zO (zH ?_)))
 have q:=wAS P9
 obtain ⟨Sc,Qa,yp⟩:=q
 have q:=wBI cU dN (ft Sc yp)
 obtain rfl:=q
 refine zH (zO (zH ?_))
 have hE:=nB Qa;first | subst r | cases hE
 exact ⟨rfl,_,(ZA rfl),lg,_,(jp.pick [] _ (by decide) rfl),rfl,rfl⟩
 intro dF Qb
 refine zd Z Z Z (zJ Z Z (nF (dF.out)) Z) (zd Z Z Z (zJ Z Z (nF (dF.out)) Z) (zd Z Z Z (zJ Z Z (nF (dF.out)) Z) (oR Z (zK Z (nF (dF.out)) Z) (eN (zx Z (sR fL1 Z (oA Z Z (eN (zX (zO (zH ?_)))))))))))
 have q:=wAS Qb
 obtain ⟨Sd,Qc,yq⟩:=q
 have q:=wBI cX dO (fu Sd yq)
 obtain rfl:=q
 refine zH (zO (zO (zH ?_)))
 have q:=wAS Qc
 obtain ⟨Se,Qd,yr⟩:=q
 have q:=wBI cU dN (ft Se yr)
 obtain rfl:=q
 refine zH (zO (zH ?_))
 have hE:=nB Qd;first | subst r | cases hE
 exact ⟨rfl,_,(ZA rfl),lg,_,(jp.pick [] _ (by decide) rfl),rfl,rfl⟩
 intro cL Qe
 refine zd Z Z Z (zJ Z Z (nF (cL.out)) Z) (zd Z Z Z (zJ Z Z (nF (cL.out)) Z) (ZH Z Z Z (zJ Z Z (nF (cL.out)) Z) (zd Z Z Z (zJ Z Z (nF (cL.out)) Z) (oR Z (zK Z (nF (cL.out)) Z) (oM Z Z (oN Z (oN Z (oN Z (oR Z (zK Z Z Z) (eN (zx Z (sR fL1 Z (oA Z Z (eN (zX (zO (zH ?_)))))))))))))))))
 have q:=wAS Qe
 obtain ⟨Sf,Qf,yt⟩:=q
 have q:=wBI cX dO (fu Sf yt)
 obtain rfl:=q
 refine zH (zO (zO (zH ?_)))
 have q:=wAS Qf
 obtain ⟨Sg,Qg,yu⟩:=q
 have q:=wBI cU dN (ft Sg yu)
 obtain rfl:=q
 refine zH (zO (zH ?_))
 have hE:=nB Qg;first | subst r | cases hE
 exact ⟨rfl,_,(ZA rfl),my,_,(lC.pick [] _ (by decide) rfl),rfl,rfl⟩
 intro cK Qh
 refine oT Z cK (oT Z cK (ZH Z Z Z (zJ Z Z (Zo cK.out) Z) (oT Z cK (oR Z (zK Z (Zo cK.out) Z) (oM Z Z (oN Z (oN Z (ZH Z Z Z (zJ Z Z Z Z) (oN Z (oR Z (zK Z Z Z) (oM Z Z (oN Z (oN Z (oN Z (oR Z (zK Z Z Z) (eN (zx Z (sR fL1 Z (oA Z Z (eN (zX (zO (zH ?_)))))))))))))))))))))))
 have q:=wAS Qh
 obtain ⟨Si,Qi,yv⟩:=q
 have q:=wBI cX dO (fu Si yv)
 obtain rfl:=q
 refine zH (zO (zO (zH ?_)))
 have q:=wAS Qi
 obtain ⟨Sj,Qj,yw⟩:=q
 have q:=wBI cU dN (ft Sj yw)
 obtain rfl:=q
 refine zH (zO (zH ?_))
 have hE:=nB Qj;first | subst r | cases hE
 exact ⟨rfl,_,(ZA rfl),eK,_,(fg.pick [] _ (by decide) rfl),rfl,rfl⟩
 intro fb Qk
 refine oT Z fb (oT Z fb (oR Z (zK Z (Zo fb.out) Z) (oM Z Z (oN Z (oN Z (ZH Z Z Z (zJ Z Z Z Z) (oN Z (oR Z (zK Z Z Z) (oM Z Z (oN Z (oN Z (ZH Z Z Z (zJ Z Z Z Z) (oN Z (oR Z (zK Z Z Z) (oM Z Z (oN Z (oN Z (oN Z (oR Z (zK Z Z Z) (eN (zx Z (sR fL1 Z (oA Z Z (eN (zX (zO (zH ?_)))))))))))))))))))))))))))
 have q:=wAS Qk
 obtain ⟨Sk,Ql,yy⟩:=q
 have q:=wBI cX dO (fu Sk yy)
 obtain rfl:=q
 refine zH (zO (zO (zH ?_)))
 have q:=wAS Ql
 obtain ⟨Sm,Qm,yz⟩:=q
 have q:=wBI cU dN (ft Sm yz)
 obtain rfl:=q
 refine zH (zO (zH ?_))
 have hE:=nB Qm;first | subst r | cases hE
 exact ⟨rfl,_,(ZA rfl),eK,_,(fg.pick [] _ (by decide) rfl),rfl,rfl⟩
 intro e9 Qn
 refine oT Z e9 (oT Z e9 (oR Z (zK Z (Zo e9.out) Z) (oM Z Z (oN Z (oN Z (oR Z (zK Z Z Z) (oM Z Z (oN Z (oN Z (ZH Z Z Z (zJ Z Z Z Z) (oN Z (oR Z (zK Z Z Z) (oM Z Z (oN Z (oN Z (ZH Z Z Z (zJ Z Z Z Z) (oN Z (oR Z (zK Z Z Z) (oM Z Z (oN Z (oN Z (oN Z (oR Z (zK Z Z Z) (eN (zx Z (sR fL1 Z (oA Z Z (eN (zX (zO (zH ?_)))))))))))))))))))))))))))))))
 have q:=wAS Qn
 obtain ⟨Sn,Qo,yA⟩:=q
 have q:=wBI cX dO (fu Sn yA)
 obtain rfl:=q
 refine zH (zO (zO (zH ?_)))
 have q:=wAS Qo
 obtain ⟨So,Qp,yB⟩:=q
 have q:=wBI cU dN (ft So yB)
 obtain rfl:=q
 refine zH (zO (zH ?_))
 have hE:=nB Qp;first | subst r | cases hE
 exact ⟨rfl,_,(ZA rfl),eK,_,(fg.pick [] _ (by decide) rfl),rfl,rfl⟩
 intro e8 Qq
 refine oT Z e8 (oT Z e8 (oR Z (zK Z (Zo e8.out) Z) (oM Z Z (oN Z (oN Z (oR Z (zK Z Z Z) (oM Z Z (oN Z (oN Z (oR Z (zK Z Z Z) (oM Z Z (oN Z (oN Z (ZH Z Z Z (zJ Z Z Z Z) (oN Z (oR Z (zK Z Z Z) (oM Z Z (oN Z (oN Z (ZH Z Z Z (zJ Z Z Z Z) (oN Z (oR Z (zK Z Z Z) (oM Z Z (oN Z (oN Z (oN Z (oR Z (zK Z Z Z) (eN (zx Z (sR fL1 Z (oA Z Z (eN (zX (zO (zH ?_)))))))))))))))))))))))))))))))))))
 have q:=wAS Qq
 obtain ⟨Sp,Qr,yC⟩:=q
 have q:=wBI cX dO (fu Sp yC)
 obtain rfl:=q
 refine zH (zO (zO (zH ?_)))
 have q:=wAS Qr
 obtain ⟨Sq,Qs,yD⟩:=q
 have q:=wBI cU dN (ft Sq yD)
 obtain rfl:=q
 refine zH (zO (zH ?_))
 have hE:=nB Qs;first | subst r | cases hE
 exact ⟨rfl,_,(ZA rfl),eK,_,(fg.pick [] _ (by decide) rfl),rfl,rfl⟩
 rintro ⟨⟩ Xb TX ⟨wj,En,DV,DW,DX,DY,DZ,Uu,D0,D5,D6,RK,NL⟩ OX
 have uR:=wDp cX dO OX
 try dsimp only at uR
 have xY:Hid (¬ ((↑(((↑ap.Shots.length:Int):Int) - 0).toNat:Int) < (↑ap.Shots.length:Int))):=zL (wBf)
 refine sR fL1 Z (oR Z (zl Z En D6) (eN (zM (cF Z xY (Ze (zw (zw (ZW (zq (zQ (rR fL2 Z (oR Z (ZL (zh Z D5 Z) (congrArg (jV) O7.out)) (oM Z Z (ZK ?_))))))))))))))
 have q:=nB uR
 obtain rfl:=q
 exact zQ ⟨Z,_,Z,⟨wj,Z,DV,DW,DX,DY,DZ,D0,(cB.trans RK),NL⟩⟩
 rintro ⟨⟩ Xc xw ⟨wk,Eo,Uv,tR,Uw,Ux,D7,D8,pa,ux⟩ OY
 have uS:=wDp cU dN OY
 try dsimp only at uS
 have xZ:Hid (¬ ((↑(((↑ap.Shots.length:Int):Int) - 0).toNat:Int) < (↑ap.Shots.length:Int))):=zL (wBf)
 refine sR fL1 Z (oR Z (zl Z Eo D8) (eN (zM (cF Z xZ (Ze (zw (zw (ZW (zQ (sR (wCl (.fx 3 (wGU gBd) .stop)) Z (oL Z (ux.ldBA (j:=4) Z Z D7 ZI ze (vs:=[.slice dp da.length dD,.slice dq db.length dE,.slice bC bA.length bF]) Z Z) (oM Z tR (oM Z tR ?_)))))))))))))
 have Jz:=uZ.le cQ
 have JA:=Jz.le cA
 have JB:=JA.le pa
 have JC:=u0.le cA
 have JD:=JC.le pa
 have JE:=u4.le pa
 have q:=bnd uS
 obtain ⟨⟨jK,Su⟩,JF,uT⟩:=q
 try dsimp only at uT
 refine zP 0 Z Z Z Z (zN Z Z Zq (zD Z (zD Z (zD Z zV))) Z) ux (fun hs=>wBK (⟨da,db,bA⟩:wAC) dp dD dq dE bC bF (↑ap.Shots.length:Int) (↑ap.Shots.length:Int) xw wk hs JB JD JE JF) (.inr Z) ?_
 rintro lh ST V4 xx VB NM ⟨rfl,rfl⟩
 have NN:sW w U lh [ab,B0,av,aZ,bE] xx:=NM
 refine oM Z Z (oR Z (ZM Z Z (v:=.agg #[jV jK.Lo,jV jK.Hi]) Z) (oR Z (ZM Z Z (v:=jV Su) Z) (ZF (cs:=B8) Z Z Z Z Z ZD Z NN ?_)))
 intro TY mL NO
 let ib:List Value:=[jV jK.Lo,jV jK.Hi]
 refine zu (j:=0) (vs:=ib) Z Z Z Z NO Z Z Z Z zg (zB Z) Z Z Z ?_
 intro mC NP
 have NQ:sW w U lh [.blk mL 66 ib,ab,B0,av,aZ,bE] mC:=NP
 refine OKS.ra rfl rfl rfl rfl rfl rfl (eN (zM (ZQ ZJ [3,3,3,1,2,3,3,3,2,3,3] (wIs (.fx 4 (wQl gBe) .stop)) (by kernel_rfl) ?_)))
 have lD:=NQ.drew
 generalize hw_W3055:({ mC with drawn:=mC.drawn + 1 }:World)=xz at lD ⊢
 refine oM Z Z (oR Z (Runs.eql Z Z Z) (oM Z Z (ifc uT ?_ ?_)))
 intro dG Qu
 refine zi Z Z Z (wT Z dG) (lD.ldBA (j:=0) Z Z Z ZN zg (vs:=ib) Z Z) Z (bnK Qu fun Sv JG Qv=>zP 0 Z Z Z (wT Z dG) (zN Z Z Tryz.call32 (zD Z (zD Z zV)) Z) lD (fun hs=>wCu 2 2 xz lh hs JG) (.inr Z) ?_)
 rintro mz SU V5 qH VC NR ⟨rfl,rfl⟩
 have uy:sW w U mz [.blk mL 66 ib,ab,B0,av,aZ,bE] qH:=NR
 refine rU Z (wT Z dG) (Runs.eqS (enc:=wBd) (a:=jK) (b:=Sv) Z Z Z wMz wMy) (oR Z (zK Z (Zo dG.out) Z) (oM Z Z (ifc Qv ?_ ?_)))
 intro i8 Qw
 refine bnK Qw fun Wr JH Qx=>zP 0 Z Z Z (wT Z i8) (zN Z Z Tryz.call6 zV Z) uy (fun hs=>wCj qH mz hs JH) (.inr Z) ?_
 rintro qq SV V6 xA VD NT ⟨rfl,rfl⟩
 have NU:sW w U qq [.blk mL 66 ib,ab,B0,av,aZ,bE] xA:=NT
 refine oR Z (zK Z (Zo i8.out) Z) (oA Z Z (eN (zX ?_)))
 have hE:=nB Qx;first | subst r | cases hE
 exact ⟨rfl,_,(ZA rfl),qq,_,(NU.pick [] _ (by decide) rfl),rfl,rfl⟩
 intro i8 Qy
 refine ZH Z Z Z (zJ Z Z (zy i8.out) Z) (oR Z (zf Z (zy i8.out) Z) (oA Z Z (eN (zX ?_))))
 have hE:=nB Qy;first | subst r | cases hE
 exact ⟨rfl,_,(ZA rfl),mz,_,(uy.pick [] _ (by decide) rfl),rfl,rfl⟩
 intro dG Qz
 refine oF Z dG (ZH Z Z Z (zJ Z Z (zy dG.out) Z) (oF Z dG (oR Z (zf Z (zy dG.out) Z) (oM Z Z (ZH Z Z Z (zJ Z Z Z Z) (oR Z (zf Z Z Z) (oA Z Z (eN (zX ?_)))))))))
 have hE:=nB Qz;first | subst r | cases hE
 exact ⟨rfl,_,(ZA rfl),lh,_,(lD.pick [] _ (by decide) rfl),rfl,rfl⟩
end Go.Proofs.YtfcmijinklojbaaGreat
