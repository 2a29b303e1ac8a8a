import Derived.Test.YtfcmijinklojbaaS5
import Derived.Test.YtfcmijinklojbaaS4
set_option linter.all false
open List renaming flatMap->hH,getElem_cons_succ->nB,getElem_cons_zero->nD,set->nE,getElem_toArray->nG,length_set->nI
open Option.some renaming inj->nA
open Int renaming toNat_natCast->nH
open Prod.mk renaming injEq->nJ
open Go.Value renaming bool->nK
namespace Go.Proofs.Ytfcmijinklojbaa
open Go.KL
def gAy:Sch:=.fx 3 (.fl 4 .nil) .stop
def gAz:Sch:=.fx 8 (.fl 9 .nil) .stop
def gBa:Sch:=.fl 4 (.fx 6 .nil .stop)
def gBb:Sch:=.fl 18 (.fx 19 .nil .stop)
def gBc:Sch:=.fx 14 (.fl 15 .nil) .stop
def gBd:Sch:=.fl 0 (.fl 1 (.fx 2 .nil .stop))
def gBe:Sch:=.fx 0 (.fl 1 (.fl 2 .nil)) .stop
def gBf:Sch:=.fx 3 (.fx 4 (.fl 5 .nil) .stop) .stop
def gBg:Sch:=.fl 4 (.fx 5 (.fx 6 .nil .stop) .stop)
def gBh:Sch:=.fx 3 gBa .stop
def gBi:Sch:=.fx 1 gBa .stop
def gBj:Sch:=.fl 0 (.fl 1 (.fx 2 (.fx 3 .nil .stop) .stop))
def gBk:Sch:=.fl 0 (.fx 1 (.fl 2 (.fl 3 .nil)) .stop)
def gBl:Sch:=.fl 0 (.fl 1 (.fx 2 (.fl 3 .nil) .stop))
set_option maxHeartbeats 4000000
theorem wEn (p0:wAE) (am:Nat) (ae:Option Addr) (ai:Nat) (ah:Option Addr) (aj:Nat) (ak:Option Addr) (ap:Nat) (ab:Nat) (aq:Array MapEntry) (au:Nat) (p1:Int) (p2:Int) (w:World) (U:PHeap) (hS:St0 w U [.blk am 99 ([.slice ae p0.Bout.Shots.length ai,.slice ah p0.Bout.Down.length aj,.slice ak p0.Bout.Across.length ap,.map (some ab)] ++ ((hH KL.encI p0.hits.l) ++ ((hH KL.encI p0.used.l) ++ (hH KL.encT p0.met.l)))),.obj ab (.map aq au)]) (be:Sl U 1 ae ai p0.Bout.Shots.length (hH KL.encI p0.Bout.Shots)) (bf:Sl U 1 ah aj p0.Bout.Down.length (hH KL.encI p0.Bout.Down)) (bA:Sl U 2 ak ap p0.Bout.Across.length (hH wAB p0.Bout.Across)) (bB:MpR aq wGM wGk p0.may) {r:Int} (hm:wBX p0 p1 p2=some r):Gv Try.prog 65 [.pointer (some ⟨am,0,none⟩),jV p1,jV p2] w (wCp w [.blk am 99 ([.slice ae p0.Bout.Shots.length ai,.slice ah p0.Bout.Down.length aj,.slice ak p0.Bout.Across.length ap,.map (some ab)] ++ ((hH KL.encI p0.hits.l) ++ ((hH KL.encI p0.used.l) ++ (hH KL.encT p0.met.l)))),.obj ab (.map aq au)] U (fun U_ L_ v=>v=jV r/\L_=[.blk am 99 ([.slice ae p0.Bout.Shots.length ai,.slice ah p0.Bout.Down.length aj,.slice ak p0.Bout.Across.length ap,.map (some ab)] ++ ((hH KL.encI p0.hits.l) ++ ((hH KL.encI p0.used.l) ++ (hH KL.encT p0.met.l)))),.obj ab (.map aq au)])):=by
 unfold wBX at hm
 refine Gv.of Try.func65 Z Try.ntmps65 Try.results65 Z (sR fL1 Z (oA Z Z (eN (zF (sR (wGK gAy) Z (oM Z Z (oM Z Z (oM Z Z (bnK hm fun x3 h4 bG=>zM 2 Z Z Z Z (zK Z Z Try.call78 (zD Z (zD Z (zD Z zS))) Z) hS (fun hs=>wCU p0 am ae ai ah aj ak ap ab aq au p1 p2 w U hs be bf bA bB h4) (.inl Z) ?_)))))))))
 rintro U6 L7 v8 W9 bg br ⟨rfl,rfl⟩
 have bb:SW w [.blk am 99 ([.slice ae p0.Bout.Shots.length ai,.slice ah p0.Bout.Down.length aj,.slice ak p0.Bout.Across.length ap,.map (some ab)] ++ ((hH KL.encI p0.hits.l) ++ ((hH KL.encI p0.used.l) ++ (hH KL.encT p0.met.l)))),.obj ab (.map aq au)] U U6 [.blk am 99 ([.slice ae p0.Bout.Shots.length ai,.slice ah p0.Bout.Down.length aj,.slice ak p0.Bout.Across.length ap,.map (some ab)] ++ ((hH KL.encI p0.hits.l) ++ ((hH KL.encI p0.used.l) ++ (hH KL.encT p0.met.l)))),.obj ab (.map aq au)] W9:=br
 refine oR Z (ZS Z Z) (eN (ifc bG ?_ ?_))
 intro aT bC
 refine zn (nC aT.out) (kN (zF (ZJ ZK [3,3,3,3,1,3,3,1,3,3,3,3,1,3,3,1,2,2,3] (wQC (.fx 16 (.fx 17 (.fl 18 .nil) .stop) .stop)) (by kernel_rfl) ?_)))
 have az:=bb.drew
 generalize hw_W16:({ W9 with drawn:=W9.drawn + 1 }:World)=bL at az ⊢
 refine oM Z Z (oR Z (zi Z Z) (oR Z (zI Z Z zN Z zZ) (oR Z (zI Z Z zE Z zY) (oL Z (az.ldB (j:=0) Z Z Z zl (v:=.slice ae p0.Bout.Shots.length ai) Z) (oM Z Z (bnK bC fun bh aU bD=>?_))))))
 have bj:=be.le bg
 have q:=bj.el (fun _=>rfl) (wBU aU)
 obtain ⟨bM,bQ,bn,bp⟩:=q
 refine oR Z (ZF Z Z bn Z zA zC (wEc aU) (wFD aU)) (oL Z (az.ldC (f:=0) bp (v:=jV bh) Z Z zJ Z) (oM Z Z (oR Z (zi Z Z) (oR Z (zI Z Z zN Z zZ) (oR Z (zI Z Z zE Z zY) (oL Z (az.ldB (j:=0) Z Z Z zl (v:=.slice ah p0.Bout.Down.length aj) Z) (oM Z Z (bnK bD fun av aV bE=>?_))))))))
 have bk:=bf.le bg
 have q:=bk.el (fun _=>rfl) (wBU aV)
 obtain ⟨bN,bR,bo,bq⟩:=q
 refine oR Z (ZF Z Z bo Z zA zC (wEc aV) (wFD aV)) (oL Z (az.ldC (f:=0) bq (v:=jV av) Z Z zJ Z) (Za (pv:=[(0,jV av)]) (zs:=[jV 0]) (cs:=[jV av]) Z Z Z Z Z (wAJ Z wAl) zA zC Zi Z Z Z Z Z az ?_))
 intro aR ba bs
 have bt:SW w [.blk am 99 ([.slice ae p0.Bout.Shots.length ai,.slice ah p0.Bout.Down.length aj,.slice ak p0.Bout.Across.length ap,.map (some ab)] ++ ((hH KL.encI p0.hits.l) ++ ((hH KL.encI p0.used.l) ++ (hH KL.encT p0.met.l)))),.obj ab (.map aq au)] U U6 [.row (some ⟨ba,0,none⟩) 1 3 1 (hH KL.encI [av]),.blk am 99 ([.slice ae p0.Bout.Shots.length ai,.slice ah p0.Bout.Down.length aj,.slice ak p0.Bout.Across.length ap,.map (some ab)] ++ ((hH KL.encI p0.hits.l) ++ ((hH KL.encI p0.used.l) ++ (hH KL.encT p0.met.l)))),.obj ab (.map aq au)] aR:=bs
 have q:=bt.freezeR (k:=0) (n:=[av].length) rfl (wAF (f:=KL.encI) (sz:=1) (fun _=>rfl) [av]) (by decide)
 obtain ⟨aY,bO,bI,bu⟩:=q
 have bv:SW w [.blk am 99 ([.slice ae p0.Bout.Shots.length ai,.slice ah p0.Bout.Down.length aj,.slice ak p0.Bout.Across.length ap,.map (some ab)] ++ ((hH KL.encI p0.hits.l) ++ ((hH KL.encI p0.used.l) ++ (hH KL.encT p0.met.l)))),.obj ab (.map aq au)] U aY [.blk am 99 ([.slice ae p0.Bout.Shots.length ai,.slice ah p0.Bout.Down.length aj,.slice ak p0.Bout.Across.length ap,.map (some ab)] ++ ((hH KL.encI p0.hits.l) ++ ((hH KL.encI p0.used.l) ++ (hH KL.encT p0.met.l)))),.obj ab (.map aq au)] aR:=bu
 refine bnK bE fun x43 bm bF=>zM 0 Z Z Z Z (zK Z Z Try.call47 (zD Z (zD Z zS)) Z) bv (fun hs=>wEE bh [av] (some ⟨ba,0,none⟩) 1 aR aY hs bI bm) (.inr Z) ?_
 rintro aZ bJ bS bi bP bw ⟨rfl,rfl⟩
 have bz:SW w [.blk am 99 ([.slice ae p0.Bout.Shots.length ai,.slice ah p0.Bout.Down.length aj,.slice ak p0.Bout.Across.length ap,.map (some ab)] ++ ((hH KL.encI p0.hits.l) ++ ((hH KL.encI p0.used.l) ++ (hH KL.encT p0.met.l)))),.obj ab (.map aq au)] U aZ [.blk am 99 ([.slice ae p0.Bout.Shots.length ai,.slice ah p0.Bout.Down.length aj,.slice ak p0.Bout.Across.length ap,.map (some ab)] ++ ((hH KL.encI p0.hits.l) ++ ((hH KL.encI p0.used.l) ++ (hH KL.encT p0.met.l)))),.obj ab (.map aq au)] bi:=bw
 refine oA Z Z (eN (zQ ?_))
 have hE:=nA bF;first | subst r | cases hE
 exact ⟨Z,_,(zy Z),aZ,_,bz,Z,Z⟩
 intro aT bH
 refine zt (nF (aT.out)) (sR fL1 Z (oA Z Z (eN (zQ (zO ?_)))))
 cases bH
 exact ⟨Z,_,(zy Z),U6,_,bb,Z,Z⟩
theorem wDs (p0:wAE) (aQ:Nat) (ak:Option Addr) (ap:Nat) (am:Option Addr) (aq:Nat) (ae:Option Addr) (ah:Nat) (ab:Nat) (aR:Array MapEntry) (aS:Nat) (p1:Int) (p2:Int) (p3:Int) (w:World) (U:PHeap) (hS:St0 w U [.blk aQ 99 ([.slice ak p0.Bout.Shots.length ap,.slice am p0.Bout.Down.length aq,.slice ae p0.Bout.Across.length ah,.map (some ab)] ++ ((hH KL.encI p0.hits.l) ++ ((hH KL.encI p0.used.l) ++ (hH KL.encT p0.met.l)))),.obj ab (.map aR aS)]) (cD:Sl U 1 ak ap p0.Bout.Shots.length (hH KL.encI p0.Bout.Shots)) (cE:Sl U 1 am aq p0.Bout.Down.length (hH KL.encI p0.Bout.Down)) (cG:Sl U 2 ae ah p0.Bout.Across.length (hH wAB p0.Bout.Across)) (db:MpR aR wGM wGk p0.may) {r:wAE} (hm:wAw p0 p1 p2 p3=some r):Gv Try.prog 64 [.pointer (some ⟨aQ,0,none⟩),jV p1,jV p2,jV p3] w (wCp w [.blk aQ 99 ([.slice ak p0.Bout.Shots.length ap,.slice am p0.Bout.Down.length aq,.slice ae p0.Bout.Across.length ah,.map (some ab)] ++ ((hH KL.encI p0.hits.l) ++ ((hH KL.encI p0.used.l) ++ (hH KL.encT p0.met.l)))),.obj ab (.map aR aS)] U (fun U_ L_ v=>∃ (b0:Nat) (A0p00:Option Addr) (c0p00:Nat) (A0p01:Option Addr) (c0p01:Nat) (A0p02:Option Addr) (c0p02:Nat) (m0p1:Nat) (es0p1:Array MapEntry) (ck0p1:Nat),v=.pointer (some ⟨b0,0,none⟩)/\L_=[.blk b0 99 ([.slice A0p00 r.Bout.Shots.length c0p00,.slice A0p01 r.Bout.Down.length c0p01,.slice A0p02 r.Bout.Across.length c0p02,.map (some m0p1)] ++ ((hH KL.encI r.hits.l) ++ ((hH KL.encI r.used.l) ++ (hH KL.encT r.met.l)))),.obj m0p1 (.map es0p1 ck0p1),.blk aQ 99 ([.slice ak p0.Bout.Shots.length ap,.slice am p0.Bout.Down.length aq,.slice ae p0.Bout.Across.length ah,.map (some ab)] ++ ((hH KL.encI p0.hits.l) ++ ((hH KL.encI p0.used.l) ++ (hH KL.encT p0.met.l)))),.obj ab (.map aR aS)]/\Sl U_ 1 A0p00 c0p00 r.Bout.Shots.length (hH KL.encI r.Bout.Shots)/\Sl U_ 1 A0p01 c0p01 r.Bout.Down.length (hH KL.encI r.Bout.Down)/\Sl U_ 2 A0p02 c0p02 r.Bout.Across.length (hH wAB r.Bout.Across)/\MpR es0p1 wGM wGk r.may)):=by
 unfold wAw at hm
 refine Gv.of Try.func64 rfl Try.ntmps64 Try.results64 rfl (sR fL1 rfl (OKS.ra rfl rfl rfl rfl rfl rfl (eN (zF (ZJ ZK [3,3,3,3,1,2,3,3,3,3,1,2,3,3] (wGL (wNW (.fx 5 (.fx 11 (.fl 12 (.fl 13 .nil)) .stop) .stop))) (by kernel_rfl) ?_)))))
 have bg:=hS.drew
 generalize hw_W4:({ w with drawn:=w.drawn + 1 }:World)=W4 at bg ⊢
 refine oM Z Z (oR Z (zi Z Z) (oR Z (zI Z Z zN Z zZ) (oR Z (zI Z Z zE Z zY) (oL Z (bg.ldB (j:=0) Z Z Z zl (v:=.slice ak p0.Bout.Shots.length ap) Z) (oM Z Z (oR Z (zi Z Z) (oR Z (zI Z Z zN Z zZ) (oR Z (zI Z Z zE Z zY) (oL Z (bg.ldB (j:=0) Z Z Z zl (v:=.slice am p0.Bout.Down.length aq) Z) (bnK hm fun x5 h6 cP=>zM 0 Z Z Z Z (zK Z Z Try.call44 (zD Z zS) Z) bg (fun hs=>wBn p0.Bout.Shots ak ap W4 U hs cD h6) (.inr Z) ?_))))))))))
 rintro U8 L9 df bB bI cq ⟨aV,aX,rfl,rfl⟩
 let B0:Res:=.row aV aX 3 1 (hH KL.encI x5)
 have ct:SW w [.blk aQ 99 ([.slice ak p0.Bout.Shots.length ap,.slice am p0.Bout.Down.length aq,.slice ae p0.Bout.Across.length ah,.map (some ab)] ++ ((hH KL.encI p0.hits.l) ++ ((hH KL.encI p0.used.l) ++ (hH KL.encT p0.met.l)))),.obj ab (.map aR aS)] U U8 [B0,.blk aQ 99 ([.slice ak p0.Bout.Shots.length ap,.slice am p0.Bout.Down.length aq,.slice ae p0.Bout.Across.length ah,.map (some ab)] ++ ((hH KL.encI p0.hits.l) ++ ((hH KL.encI p0.used.l) ++ (hH KL.encT p0.met.l)))),.obj ab (.map aR aS)] bB:=cq
 have bU:=cE.le bI
 refine bnK cP fun au bV cL=>zM 0 Z Z Z Z (zK Z Z Try.call44 (zD Z zS) Z) ct (fun hs=>wBn p0.Bout.Down am aq bB U8 hs bU bV) (.inr Z) ?_
 rintro bl cW dg bL cU cu ⟨aW,aY,rfl,rfl⟩
 let B1:Res:=.row aW aY 3 1 (hH KL.encI au)
 have bq:SW w [.blk aQ 99 ([.slice ak p0.Bout.Shots.length ap,.slice am p0.Bout.Down.length aq,.slice ae p0.Bout.Across.length ah,.map (some ab)] ++ ((hH KL.encI p0.hits.l) ++ ((hH KL.encI p0.used.l) ++ (hH KL.encT p0.met.l)))),.obj ab (.map aR aS)] U bl [B1,B0,.blk aQ 99 ([.slice ak p0.Bout.Shots.length ap,.slice am p0.Bout.Down.length aq,.slice ae p0.Bout.Across.length ah,.map (some ab)] ++ ((hH KL.encI p0.hits.l) ++ ((hH KL.encI p0.used.l) ++ (hH KL.encT p0.met.l)))),.obj ab (.map aR aS)] bL:=cu
 refine oA Z Z (oA Z Z (eN (sR (wHU (.fx 7 .nil .stop)) Z (oM Z Z (oM Z Z (bnK cL fun _ aT cM=>?_))))))
 obtain ⟨cZ,be⟩:=bq.rowSome (j:=1) rfl (by rw [wAF (f:=KL.encI) (sz:=1) (fun _=>rfl) x5];have hz:=wAI aT;omega)
 refine oR Z (ZF Z Z be Z zA zC (wAq aT) (wAr aT)) ?_
 have cH:=wBO (xs:=x5) (wAI aT)
 refine zm rfl rfl rfl rfl (bq.ldR (j:=1) rfl be rfl rfl zJ (wAZ (sz:=1) (fun _=>rfl) _ _ 0 _ cH (by first | omega | rfl | simp) rfl)) rfl (zh rfl rfl rfl rfl rfl rfl (zL rfl rfl rfl rfl (fun _=>Zc rfl rfl rfl) (zL rfl rfl rfl rfl (fun _=>ZF rfl rfl be rfl zA zC (wAq aT) (wAr aT)) ?_)))
 have cI:=wBO (xs:=x5) (wAI aT)
 refine Zh (j:=1) (vs:=[jV (w64 ((gd x5 p1.toNat) - p3))]) (cs':=hH KL.encI (nE x5 p1.toNat (w64 ((gd x5 p1.toNat) - p3)))) rfl rfl rfl rfl bq rfl be rfl rfl rfl zC (by rw [wAF (f:=KL.encI) (sz:=1) (fun _=>rfl)];have hz:=wAI aT;show _ + 1 <= _;first | omega | (simp only [nH];omega) | (simp only [nG,nB,nD];omega)) rfl (wBr (sz:=1) (fo:=0) (fun _=>rfl) _ _ _ _ cI (by first | omega | (simp only [nH];omega) | (simp only [nG,nB,nD];omega)) (zB rfl) rfl) rfl ?_
 intro bM cw
 let B2:Res:=.row aV aX 3 1 (hH KL.encI (nE x5 p1.toNat (w64 ((gd x5 p1.toNat) - p3))))
 have br:SW w [.blk aQ 99 ([.slice ak p0.Bout.Shots.length ap,.slice am p0.Bout.Down.length aq,.slice ae p0.Bout.Across.length ah,.map (some ab)] ++ ((hH KL.encI p0.hits.l) ++ ((hH KL.encI p0.used.l) ++ (hH KL.encT p0.met.l)))),.obj ab (.map aR aS)] U bl [B1,B2,.blk aQ 99 ([.slice ak p0.Bout.Shots.length ap,.slice am p0.Bout.Down.length aq,.slice ae p0.Bout.Across.length ah,.map (some ab)] ++ ((hH KL.encI p0.hits.l) ++ ((hH KL.encI p0.used.l) ++ (hH KL.encT p0.met.l)))),.obj ab (.map aR aS)] bM:=cw
 refine eN (sR (wHU (.fx 7 .nil .stop)) Z (oM Z Z (oM Z Z (bnK cM fun _ aU cN=>?_))))
 obtain ⟨da,bf⟩:=br.rowSome (j:=0) rfl (by rw [wAF (f:=KL.encI) (sz:=1) (fun _=>rfl) au];have hz:=wAI aU;omega)
 refine oR Z (ZF Z Z bf Z zA zC (wAq aU) (wAr aU)) ?_
 have cJ:=wBO (xs:=au) (wAI aU)
 refine zm rfl rfl rfl rfl (br.ldR (j:=0) rfl bf rfl rfl zJ (wAZ (sz:=1) (fun _=>rfl) _ _ 0 _ cJ (by first | omega | rfl | simp) rfl)) rfl (zh rfl rfl rfl rfl rfl rfl (zL rfl rfl rfl rfl (fun _=>Zc rfl rfl rfl) (zL rfl rfl rfl rfl (fun _=>ZF rfl rfl bf rfl zA zC (wAq aU) (wAr aU)) ?_)))
 have cK:=wBO (xs:=au) (wAI aU)
 refine Zh (j:=0) (vs:=[jV (w64 ((gd au p2.toNat) - p3))]) (cs':=hH KL.encI (nE au p2.toNat (w64 ((gd au p2.toNat) - p3)))) rfl rfl rfl rfl br rfl bf rfl rfl rfl zC (by rw [wAF (f:=KL.encI) (sz:=1) (fun _=>rfl)];have hz:=wAI aU;show _ + 1 <= _;first | omega | (simp only [nH];omega) | (simp only [nG,nB,nD];omega)) rfl (wBr (sz:=1) (fo:=0) (fun _=>rfl) _ _ _ _ cK (by first | omega | (simp only [nH];omega) | (simp only [nG,nB,nD];omega)) (zB rfl) rfl) rfl ?_
 intro ba cx
 let B3:Res:=.row aW aY 3 1 (hH KL.encI (nE au p2.toNat (w64 ((gd au p2.toNat) - p3))))
 have bG:SW w [.blk aQ 99 ([.slice ak p0.Bout.Shots.length ap,.slice am p0.Bout.Down.length aq,.slice ae p0.Bout.Across.length ah,.map (some ab)] ++ ((hH KL.encI p0.hits.l) ++ ((hH KL.encI p0.used.l) ++ (hH KL.encT p0.met.l)))),.obj ab (.map aR aS)] U bl [B3,B2,.blk aQ 99 ([.slice ak p0.Bout.Shots.length ap,.slice am p0.Bout.Down.length aq,.slice ae p0.Bout.Across.length ah,.map (some ab)] ++ ((hH KL.encI p0.hits.l) ++ ((hH KL.encI p0.used.l) ++ (hH KL.encT p0.met.l)))),.obj ab (.map aR aS)] ba:=cx
 refine eN (sR (wOp gAz) rfl (zh rfl rfl rfl rfl rfl (Eq.trans (b:=(.slice aV x5.length aX:Value)) (c:=(.slice aV ((nE x5 p1.toNat (w64 ((gd x5 p1.toNat) - p3))).length) aX:Value)) rfl (by simp only [nI])) (zh rfl rfl rfl rfl rfl (Eq.trans (b:=(.slice aW au.length aY:Value)) (c:=(.slice aW ((nE au p2.toNat (w64 ((gd au p2.toNat) - p3))).length) aY:Value)) rfl (by simp only [nI])) (zh rfl rfl rfl rfl rfl rfl (zL rfl rfl rfl rfl (fun _=>zi rfl rfl) (zL rfl rfl rfl rfl (fun _=>zI rfl rfl zN rfl zZ) (zL rfl rfl rfl rfl (fun _=>zI rfl rfl zE rfl ZO) (zm rfl rfl rfl rfl (bG.ldB (j:=2) rfl rfl rfl ZY (v:=.slice ae p0.Bout.Across.length ah) rfl) rfl (zL rfl rfl rfl rfl (fun _=>ZH (pv:=[(0,.slice aV ((nE x5 p1.toNat (w64 ((gd x5 p1.toNat) - p3))).length) aX),(1,.slice aW ((nE au p2.toNat (w64 ((gd au p2.toNat) - p3))).length) aY),(2,.slice ae p0.Bout.Across.length ah)]) (z:=[.slice none 0 0,.slice none 0 0,.slice none 0 0]) (cs:=[.slice aV ((nE x5 p1.toNat (w64 ((gd x5 p1.toNat) - p3))).length) aX,.slice aW ((nE au p2.toNat (w64 ((gd au p2.toNat) - p3))).length) aY,.slice ae p0.Bout.Across.length ah]) rfl (wAJ rfl (wAJ rfl (wAJ rfl wAl))) ZD wDA rfl rfl) ?_)))))))))
 have q:=bG.freezeR (k:=1) (n:=(nE x5 p1.toNat (w64 ((gd x5 p1.toNat) - p3))).length) rfl (wAF (f:=KL.encI) (sz:=1) (fun _=>rfl) (nE x5 p1.toNat (w64 ((gd x5 p1.toNat) - p3)))) (by decide)
 obtain ⟨bK,cV,cR,cy⟩:=q
 have cz:SW w [.blk aQ 99 ([.slice ak p0.Bout.Shots.length ap,.slice am p0.Bout.Down.length aq,.slice ae p0.Bout.Across.length ah,.map (some ab)] ++ ((hH KL.encI p0.hits.l) ++ ((hH KL.encI p0.used.l) ++ (hH KL.encT p0.met.l)))),.obj ab (.map aR aS)] U bK [B3,.blk aQ 99 ([.slice ak p0.Bout.Shots.length ap,.slice am p0.Bout.Down.length aq,.slice ae p0.Bout.Across.length ah,.map (some ab)] ++ ((hH KL.encI p0.hits.l) ++ ((hH KL.encI p0.used.l) ++ (hH KL.encT p0.met.l)))),.obj ab (.map aR aS)] ba:=cy
 have q:=cz.freezeR (k:=0) (n:=(nE au p2.toNat (w64 ((gd au p2.toNat) - p3))).length) rfl (wAF (f:=KL.encI) (sz:=1) (fun _=>rfl) (nE au p2.toNat (w64 ((gd au p2.toNat) - p3)))) (by decide)
 obtain ⟨bz,bJ,cS,cA⟩:=q
 have cB:SW w [.blk aQ 99 ([.slice ak p0.Bout.Shots.length ap,.slice am p0.Bout.Down.length aq,.slice ae p0.Bout.Across.length ah,.map (some ab)] ++ ((hH KL.encI p0.hits.l) ++ ((hH KL.encI p0.used.l) ++ (hH KL.encT p0.met.l)))),.obj ab (.map aR aS)] U bz [.blk aQ 99 ([.slice ak p0.Bout.Shots.length ap,.slice am p0.Bout.Down.length aq,.slice ae p0.Bout.Across.length ah,.map (some ab)] ++ ((hH KL.encI p0.hits.l) ++ ((hH KL.encI p0.used.l) ++ (hH KL.encT p0.met.l)))),.obj ab (.map aR aS)] ba:=cA
 have bX:=cR.le bJ
 have bY:=cG.le bI
 have bZ:=bY.le cU
 have b5:=bZ.le cV
 have b9:=b5.le bJ
 refine bnK cN fun x65 cd cO=>zM 0 Z Z Z Z (zK Z Z Try.call45 (zD Z zS) Z) cB (fun hs=>wCn (⟨(nE x5 p1.toNat (w64 ((gd x5 p1.toNat) - p3))),(nE au p2.toNat (w64 ((gd au p2.toNat) - p3))),p0.Bout.Across⟩:wAC) aV aX aW aY ae ah ba bz hs bX cS b9 cd) (.inr Z) ?_
 rintro bm cX dh bO de cC ⟨bb,bi,bn,bj,bo,bk,bp,aZ,bR,bQ,rfl,rfl,cf,cg,ci,cj⟩
 have bH:SW w [.blk aQ 99 ([.slice ak p0.Bout.Shots.length ap,.slice am p0.Bout.Down.length aq,.slice ae p0.Bout.Across.length ah,.map (some ab)] ++ ((hH KL.encI p0.hits.l) ++ ((hH KL.encI p0.used.l) ++ (hH KL.encT p0.met.l)))),.obj ab (.map aR aS)] U bm [.blk bb 99 ([.slice bi x65.Bout.Shots.length bn,.slice bj x65.Bout.Down.length bo,.slice bk x65.Bout.Across.length bp,.map (some aZ)] ++ ((hH KL.encI x65.hits.l) ++ ((hH KL.encI x65.used.l) ++ (hH KL.encT x65.met.l)))),.obj aZ (.map bR bQ),.blk aQ 99 ([.slice ak p0.Bout.Shots.length ap,.slice am p0.Bout.Down.length aq,.slice ae p0.Bout.Across.length ah,.map (some ab)] ++ ((hH KL.encI p0.hits.l) ++ ((hH KL.encI p0.used.l) ++ (hH KL.encT p0.met.l)))),.obj ab (.map aR aS)] bO:=cC
 refine oA Z Z (eN (zF (CK.fresh fun bs bh=>?_)))
 have bS:bs 1=jV p1:=(bh 1).trans rfl
 have bT:bs 2=jV p2:=(bh 2).trans rfl
 have bF:bs 11=.pointer (some ⟨bb,0,none⟩):=(bh 11).trans rfl
 clear bh
 refine rR (wHU (.fx 7 .nil .stop)) Z (oM Z bF (oR Z (zi Z Z) (oR Z (zI Z Z zN Z Try.sizeOf92) (oL Z (bH.ldB (j:=0) Z Z Z Try.isAgg92 (v:=.map (some aZ)) Z) (oM Z bS (oM Z bT (oR Z (ZH (pv:=[(0,jV p1),(1,jV p2)]) (z:=[jV 0,jV 0]) (cs:=[jV p1,jV p2]) Z (wAJ Z (wAJ Z wAl)) ZM wCd Z Z) (OKS.mapDel (j:=1) (mk:=wGM) (mv:=wGk) (a:=(⟨p1,p2⟩:wAA)) Z Z Z Z bH Z Z Z (wBv Try.runUnderlying92) wJP cj false Z ?_))))))))
 intro bE bD bP cQ cn
 have cp:SW w [.blk aQ 99 ([.slice ak p0.Bout.Shots.length ap,.slice am p0.Bout.Down.length aq,.slice ae p0.Bout.Across.length ah,.map (some ab)] ++ ((hH KL.encI p0.hits.l) ++ ((hH KL.encI p0.used.l) ++ (hH KL.encT p0.met.l)))),.obj ab (.map aR aS)] U bm [.blk bb 99 ([.slice bi x65.Bout.Shots.length bn,.slice bj x65.Bout.Down.length bo,.slice bk x65.Bout.Across.length bp,.map (some aZ)] ++ ((hH KL.encI x65.hits.l) ++ ((hH KL.encI x65.used.l) ++ (hH KL.encT x65.met.l)))),.obj aZ (.map bE bD),.blk aQ 99 ([.slice ak p0.Bout.Shots.length ap,.slice am p0.Bout.Down.length aq,.slice ae p0.Bout.Across.length ah,.map (some ab)] ++ ((hH KL.encI p0.hits.l) ++ ((hH KL.encI p0.used.l) ++ (hH KL.encT p0.met.l)))),.obj ab (.map aR aS)] bP:=cn
 refine eN (sR fL2 Z (oM Z bF (oA Z Z (eN (zQ ?_)))))
 cases cO
 exact ⟨Z,_,(zy Z),bm,_,cp,bb,bi,bn,bj,bo,bk,bp,aZ,bE,bD,Z,Z,cf,cg,ci,cQ⟩
theorem wDB (p0:wAE) (ae:Nat) (ah:Option Addr) (ak:Nat) (ai:Option Addr) (am:Nat) (aj:Option Addr) (ap:Nat) (ab:Nat) (aq:Array MapEntry) (au:Nat) (p1:Int) (p2:Int) (w:World) (U:PHeap) (hS:St0 w U [.blk ae 99 ([.slice ah p0.Bout.Shots.length ak,.slice ai p0.Bout.Down.length am,.slice aj p0.Bout.Across.length ap,.map (some ab)] ++ ((hH KL.encI p0.hits.l) ++ ((hH KL.encI p0.used.l) ++ (hH KL.encT p0.met.l)))),.obj ab (.map aq au)]) (bR:Sl U 1 ah ak p0.Bout.Shots.length (hH KL.encI p0.Bout.Shots)) (bS:Sl U 1 ai am p0.Bout.Down.length (hH KL.encI p0.Bout.Down)) (bT:Sl U 2 aj ap p0.Bout.Across.length (hH wAB p0.Bout.Across)) (bU:MpR aq wGM wGk p0.may) {r:wAb} (hm:wAz p0 p1 p2=some r):Gv Try.prog 48 [.pointer (some ⟨ae,0,none⟩),jV p1,jV p2] w (wCp w [.blk ae 99 ([.slice ah p0.Bout.Shots.length ak,.slice ai p0.Bout.Down.length am,.slice aj p0.Bout.Across.length ap,.map (some ab)] ++ ((hH KL.encI p0.hits.l) ++ ((hH KL.encI p0.used.l) ++ (hH KL.encT p0.met.l)))),.obj ab (.map aq au)] U (fun U_ L_ v=>v=.agg #[jV r.Lo,jV r.Hi]/\L_=[.blk ae 99 ([.slice ah p0.Bout.Shots.length ak,.slice ai p0.Bout.Down.length am,.slice aj p0.Bout.Across.length ap,.map (some ab)] ++ ((hH KL.encI p0.hits.l) ++ ((hH KL.encI p0.used.l) ++ (hH KL.encT p0.met.l)))),.obj ab (.map aq au)])):=by
 unfold wAz at hm
 refine Gv.of Try.func48 Z Try.ntmps48 Try.results48 Z (sR (.fx 0 .nil .stop) Z ?_)
 let B0:List Value:=[jV 0,jV 0]
 refine ZL (cs:=B0) Z Z Z Z Z ZV Z hS ?_
 intro W3 b4 cZ
 refine eN (sR (.fl 0 (.fx 1 (.fx 2 .nil .stop) .stop)) Z ?_)
 let B1:List Value:=[jV (-1),jV 0]
 refine oR Z (ZH (pv:=[(0,jV (-1))]) (z:=B0) (cs:=B1) Z (wAJ Z wAl) ZV wFV Z Z) (ZL (cs:=B0) Z Z Z Z Z ZV Z cZ ?_)
 intro W7 b8 de
 refine ZA (j:=0) (vs:=B1) Z Z Z Z de Z Z Z Z ZE (zB Z) Z Z Z ?_
 intro bw cQ
 have cU:SW w [.blk ae 99 ([.slice ah p0.Bout.Shots.length ak,.slice ai p0.Bout.Down.length am,.slice aj p0.Bout.Across.length ap,.map (some ab)] ++ ((hH KL.encI p0.hits.l) ++ ((hH KL.encI p0.used.l) ++ (hH KL.encT p0.met.l)))),.obj ab (.map aq au)] U U [.blk b8 44 B1,.blk b4 44 B0,.blk ae 99 ([.slice ah p0.Bout.Shots.length ak,.slice ai p0.Bout.Down.length am,.slice aj p0.Bout.Across.length ap,.map (some ab)] ++ ((hH KL.encI p0.hits.l) ++ ((hH KL.encI p0.used.l) ++ (hH KL.encT p0.met.l)))),.obj ab (.map aq au)] bw:=cQ
 refine eN (zF (sR (wGK (.fx 3 (.fl 4 (.fl 5 .nil)) .stop)) Z (oM Z Z (oM Z Z (oM Z Z (bnK hm fun x14 cx dr=>?_))))))
 have cW:SW w [.blk ae 99 ([.slice ah p0.Bout.Shots.length ak,.slice ai p0.Bout.Down.length am,.slice aj p0.Bout.Across.length ap,.map (some ab)] ++ ((hH KL.encI p0.hits.l) ++ ((hH KL.encI p0.used.l) ++ (hH KL.encT p0.met.l)))),.obj ab (.map aq au)] U U [.blk ae 99 ([.slice ah p0.Bout.Shots.length ak,.slice ai p0.Bout.Down.length am,.slice aj p0.Bout.Across.length ap,.map (some ab)] ++ ((hH KL.encI p0.hits.l) ++ ((hH KL.encI p0.used.l) ++ (hH KL.encT p0.met.l)))),.obj ab (.map aq au),.blk b8 44 B1,.blk b4 44 B0] bw:=cU.pick [2,3,0,1] _ (by decide) rfl
 refine zM 2 Z Z Z Z (zK Z Z Try.call65 (zD Z (zD Z (zD Z zS))) Z) cW (fun hs=>wEn p0 ae ah ak ai am aj ap ab aq au p1 p2 bw U hs bR bS bT bU cx) (.inl Z) ?_
 rintro bv dx dH cf bG cX ⟨rfl,rfl⟩
 have cY:SW w [.blk ae 99 ([.slice ah p0.Bout.Shots.length ak,.slice ai p0.Bout.Down.length am,.slice aj p0.Bout.Across.length ap,.map (some ab)] ++ ((hH KL.encI p0.hits.l) ++ ((hH KL.encI p0.used.l) ++ (hH KL.encT p0.met.l)))),.obj ab (.map aq au)] U bv [.blk ae 99 ([.slice ah p0.Bout.Shots.length ak,.slice ai p0.Bout.Down.length am,.slice aj p0.Bout.Across.length ap,.map (some ab)] ++ ((hH KL.encI p0.hits.l) ++ ((hH KL.encI p0.used.l) ++ (hH KL.encT p0.met.l)))),.obj ab (.map aq au),.blk b8 44 B1,.blk b4 44 B0] cf:=cX
 refine oR Z (zW Z Z Z) (oM Z Z (eN (zV ?_)))
 have q:=bnd dr
 obtain ⟨⟨du,dw⟩,dg,bV⟩:=q
 try dsimp only at bV
 have q:=wBf dg
 obtain ⟨bE,dh⟩:=q
 replace bE:=zG bE
 refine CK.forN' (fun az (bo,bu) σ_ w_=>∃ (U_:PHeap),σ_ 15=jV (↑az:Int)/\σ_ 0=.pointer (some ⟨ae,0,none⟩)/\σ_ 1=jV p1/\σ_ 2=jV p2/\σ_ 6=.pointer (some ⟨b4,0,none⟩)/\σ_ 7=.pointer (some ⟨b8,0,none⟩)/\σ_ 14=jV (w64 (x14 + 1))/\PHeap.Le bv U_/\SW w [.blk ae 99 ([.slice ah p0.Bout.Shots.length ak,.slice ai p0.Bout.Down.length am,.slice aj p0.Bout.Across.length ap,.map (some ab)] ++ ((hH KL.encI p0.hits.l) ++ ((hH KL.encI p0.used.l) ++ (hH KL.encT p0.met.l)))),.obj ab (.map aq au)] U U_ [.blk ae 99 ([.slice ah p0.Bout.Shots.length ak,.slice ai p0.Bout.Down.length am,.slice aj p0.Bout.Across.length ap,.map (some ab)] ++ ((hH KL.encI p0.hits.l) ++ ((hH KL.encI p0.used.l) ++ (hH KL.encT p0.met.l)))),.obj ab (.map aq au),.blk b8 44 [jV bo,jV bu],.blk b4 44 B0] w_) dh ?_ ?_ ?_
 exact ⟨bv,Z,Z,Z,Z,Z,Z,Z,(ze _),cY⟩
 rintro az ⟨bo,bu⟩ dK dM cg bD ⟨bY,bk,bq,br,bs,bB,aV,bt,bi,da⟩ bX
 try dsimp only at bX
 have bN:Hid ((↑az:Int) < (w64 (x14 + 1))):=zG (wBe bD)
 replace bD:=zG bD
 have bC:Hid (w64 ((↑az:Int) + 1)=(↑(az + 1):Int)):=zG (by have h1:=bE.out;have h2:=bN.out;rw [wAd] <;> omega)
 refine sR fL1 Z (oR Z (zX Z bk bt) (eN (zF (cT Z bN (kN (zF (zV (sR fL2 Z (oM Z bk (oA Z Z (eN (sR (wHT (.fx 4 (.fx 5 (.fl 6 .nil) .stop) .stop)) Z (oM Z bq (oM Z br (oM Z bs (oM Z Z ?_))))))))))))))))
 have cy:=bR.le bG
 have cz:=cy.le bi
 have cA:=bS.le bG
 have cB:=cA.le bi
 have cC:=bT.le bG
 have cD:=cC.le bi
 refine bnK bX fun av cE dt=>zM 2 Z Z Z Z (zK Z Z Try.call64 (zD Z (zD Z (zD Z (zD Z zS)))) Z) da (fun hs=>wDs p0 ae ah ak ai am aj ap ab aq au p1 p2 (↑az:Int) cg bY hs cz cB cD bU cE) (.inl Z) ?_
 rintro bL dy dI bM bH db ⟨ba,aW,bb,aX,be,aY,bf,aS,bh,bg,rfl,rfl,cG,cH,cI,cJ⟩
 let B2:Res:=.blk b8 44 [jV bo,jV bu]
 have df:SW w [.blk ae 99 ([.slice ah p0.Bout.Shots.length ak,.slice ai p0.Bout.Down.length am,.slice aj p0.Bout.Across.length ap,.map (some ab)] ++ ((hH KL.encI p0.hits.l) ++ ((hH KL.encI p0.used.l) ++ (hH KL.encT p0.met.l)))),.obj ab (.map aq au)] U bL [.blk ba 99 ([.slice aW av.Bout.Shots.length bb,.slice aX av.Bout.Down.length be,.slice aY av.Bout.Across.length bf,.map (some aS)] ++ ((hH KL.encI av.hits.l) ++ ((hH KL.encI av.used.l) ++ (hH KL.encT av.met.l)))),.obj aS (.map bh bg),.blk ae 99 ([.slice ah p0.Bout.Shots.length ak,.slice ai p0.Bout.Down.length am,.slice aj p0.Bout.Across.length ap,.map (some ab)] ++ ((hH KL.encI p0.hits.l) ++ ((hH KL.encI p0.used.l) ++ (hH KL.encT p0.met.l)))),.obj ab (.map aq au),B2,.blk b4 44 B0] bM:=db
 have q:=bnd dt
 obtain ⟨⟨x92,x93⟩,cK,bW⟩:=q
 try dsimp only at bW
 refine zM 2 Z Z Z Z (zK Z Z Try.call46 (zD Z zS) Z) df (fun hs=>wBg av ba aW bb aX be aY bf aS bh bg bM bL hs cG cH cI cJ cK) (.inl Z) ?_
 rintro aU dz dJ ci bF cL ⟨bI,cj,rfl,rfl,cu⟩
 let B3:Res:=.row bI cj 3 1 (hH KL.encI x92)
 have bl:SW w [.blk ae 99 ([.slice ah p0.Bout.Shots.length ak,.slice ai p0.Bout.Down.length am,.slice aj p0.Bout.Across.length ap,.map (some ab)] ++ ((hH KL.encI p0.hits.l) ++ ((hH KL.encI p0.used.l) ++ (hH KL.encT p0.met.l)))),.obj ab (.map aq au)] U aU [B3,.blk ba 99 ([.slice aW av.Bout.Shots.length bb,.slice aX av.Bout.Down.length be,.slice aY av.Bout.Across.length bf,.map (some aS)] ++ ((hH KL.encI x93.1.l) ++ ((hH KL.encI x93.2.1.l) ++ (hH KL.encT x93.2.2.l)))),.obj aS (.map bh bg),.blk ae 99 ([.slice ah p0.Bout.Shots.length ak,.slice ai p0.Bout.Down.length am,.slice aj p0.Bout.Across.length ap,.map (some ab)] ++ ((hH KL.encI p0.hits.l) ++ ((hH KL.encI p0.used.l) ++ (hH KL.encT p0.met.l)))),.obj ab (.map aq au),B2,.blk b4 44 B0] ci:=cL
 have cw:bI.isNone=decide (x92=[]):=wGy (j:=0) bl rfl (fun _=>rfl) (by decide) cu
 refine oR Z (Runs.eqNilR Z Z Z zA cw) (eN (ifc bW ?_ ?_))
 intro bz dk
 refine cT Z bz (zF (sR fL3 Z (oR Z (zI Z aV Try.runUnderlying44 Z zC) (oL Z (bl.ldB (j:=5) Z Z Z zJ (v:=jV bo) Z) (oR Z (zX Z Z Z) (eN (ifc dk ?_ ?_)))))))
 intro bA dm
 refine cT Z bA (rR gBd Z (oM Z Z (oR Z (zI Z aV Try.runUnderlying44 Z zC) (ZA (j:=5) (vs:=[jV (↑az:Int)]) Z Z Z Z bl Z Z Z Z zC (zB Z) Z Z Z ?_))))
 intro bZ cM
 have cN:SW w [.blk ae 99 ([.slice ah p0.Bout.Shots.length ak,.slice ai p0.Bout.Down.length am,.slice aj p0.Bout.Across.length ap,.map (some ab)] ++ ((hH KL.encI p0.hits.l) ++ ((hH KL.encI p0.used.l) ++ (hH KL.encT p0.met.l)))),.obj ab (.map aq au)] U aU [B3,.blk ba 99 ([.slice aW av.Bout.Shots.length bb,.slice aX av.Bout.Down.length be,.slice aY av.Bout.Across.length bf,.map (some aS)] ++ ((hH KL.encI x93.1.l) ++ ((hH KL.encI x93.2.1.l) ++ (hH KL.encT x93.2.2.l)))),.obj aS (.map bh bg),.blk ae 99 ([.slice ah p0.Bout.Shots.length ak,.slice ai p0.Bout.Down.length am,.slice aj p0.Bout.Across.length ap,.map (some ab)] ++ ((hH KL.encI p0.hits.l) ++ ((hH KL.encI p0.used.l) ++ (hH KL.encT p0.met.l)))),.obj ab (.map aq au),.blk b8 44 [jV (↑az:Int),jV bu],.blk b4 44 B0] bZ:=cM
 refine eN (rR gBd Z (oM Z Z (oR Z (zI Z aV Try.runUnderlying44 Z zC) (ZA (j:=5) (vs:=[jV (↑az:Int)]) Z Z Z Z cN Z Z Z Z zC (zB Z) Z Z Z ?_))))
 intro b5 cO
 have cP:SW w [.blk ae 99 ([.slice ah p0.Bout.Shots.length ak,.slice ai p0.Bout.Down.length am,.slice aj p0.Bout.Across.length ap,.map (some ab)] ++ ((hH KL.encI p0.hits.l) ++ ((hH KL.encI p0.used.l) ++ (hH KL.encT p0.met.l)))),.obj ab (.map aq au)] U aU [B3,.blk ba 99 ([.slice aW av.Bout.Shots.length bb,.slice aX av.Bout.Down.length be,.slice aY av.Bout.Across.length bf,.map (some aS)] ++ ((hH KL.encI x93.1.l) ++ ((hH KL.encI x93.2.1.l) ++ (hH KL.encT x93.2.2.l)))),.obj aS (.map bh bg),.blk ae 99 ([.slice ah p0.Bout.Shots.length ak,.slice ai p0.Bout.Down.length am,.slice aj p0.Bout.Across.length ap,.map (some ab)] ++ ((hH KL.encI p0.hits.l) ++ ((hH KL.encI p0.used.l) ++ (hH KL.encT p0.met.l)))),.obj ab (.map aq au),.blk b8 44 [jV (↑az:Int),jV (↑az:Int)],.blk b4 44 B0] b5:=cO
 refine zo (zf (zH (rR fL2 Z (oR Z (zu (zW Z bk Z) (congrArg (jV) bC.out)) (oM Z Z (zo ?_))))))
 cases dm
 exact zH ⟨rfl,⟨aU,rfl,bq,br,bs,bB,aV,bt,((bi.trans bH).trans bF),(cP.pick [3,4,5,6] _ (by decide) rfl)⟩⟩
 intro bA dp
 refine cF Z bA (kN (rR gBd Z (oM Z Z (oR Z (zI Z aV Try.runUnderlying44 Z zC) (ZA (j:=5) (vs:=[jV (↑az:Int)]) Z Z Z Z bl Z Z Z Z zC (zB Z) Z Z Z ?_)))))
 intro b9 cR
 have cS:SW w [.blk ae 99 ([.slice ah p0.Bout.Shots.length ak,.slice ai p0.Bout.Down.length am,.slice aj p0.Bout.Across.length ap,.map (some ab)] ++ ((hH KL.encI p0.hits.l) ++ ((hH KL.encI p0.used.l) ++ (hH KL.encT p0.met.l)))),.obj ab (.map aq au)] U aU [B3,.blk ba 99 ([.slice aW av.Bout.Shots.length bb,.slice aX av.Bout.Down.length be,.slice aY av.Bout.Across.length bf,.map (some aS)] ++ ((hH KL.encI x93.1.l) ++ ((hH KL.encI x93.2.1.l) ++ (hH KL.encT x93.2.2.l)))),.obj aS (.map bh bg),.blk ae 99 ([.slice ah p0.Bout.Shots.length ak,.slice ai p0.Bout.Down.length am,.slice aj p0.Bout.Across.length ap,.map (some ab)] ++ ((hH KL.encI p0.hits.l) ++ ((hH KL.encI p0.used.l) ++ (hH KL.encT p0.met.l)))),.obj ab (.map aq au),.blk b8 44 [jV bo,jV (↑az:Int)],.blk b4 44 B0] b9:=cR
 refine zo (zf (zH (rR fL2 Z (oR Z (zu (zW Z bk Z) (congrArg (jV) bC.out)) (oM Z Z (zo ?_))))))
 cases dp
 exact zH ⟨rfl,⟨aU,rfl,bq,br,bs,bB,aV,bt,((bi.trans bH).trans bF),(cS.pick [3,4,5,6] _ (by decide) rfl)⟩⟩
 intro bz dq
 refine cF Z bz (ZR (zf (zH (rR fL2 Z (oR Z (zu (zW Z bk Z) (congrArg (jV) bC.out)) (oM Z Z (zo ?_)))))))
 cases dq
 exact zH ⟨rfl,⟨aU,rfl,bq,br,bs,bB,aV,bt,((bi.trans bH).trans bF),(bl.pick [3,4,5,6] _ (by decide) rfl)⟩⟩
 rintro dL dA ⟨bK,ct,dD,dE,dF,bO,cp,cq,dG,bP⟩
 have cn:Hid (¬ ((↑((w64 (x14 + 1):Int) - 0).toNat:Int) < (w64 (x14 + 1)))):=zG (wBD)
 refine sR fL1 Z (oR Z (zX Z ct cq) (eN (zF (cF Z cn (ZN (zg (zg (ZB (zH (sR (.fl 0 (.fx 1 .nil .stop)) Z ?_))))))))))
 let B4:List Value:=[jV du,jV dw]
 refine oL Z (bP.ldBA (j:=2) Z Z cp Zk ZE (vs:=B4) Z Z) (ZA (j:=3) (vs:=B4) Z Z Z Z bP Z bO Z Z ZE (zB Z) Z Z Z ?_)
 intro cd cV
 have bQ:SW w [.blk ae 99 ([.slice ah p0.Bout.Shots.length ak,.slice ai p0.Bout.Down.length am,.slice aj p0.Bout.Across.length ap,.map (some ab)] ++ ((hH KL.encI p0.hits.l) ++ ((hH KL.encI p0.used.l) ++ (hH KL.encT p0.met.l)))),.obj ab (.map aq au)] U bK [.blk ae 99 ([.slice ah p0.Bout.Shots.length ak,.slice ai p0.Bout.Down.length am,.slice aj p0.Bout.Across.length ap,.map (some ab)] ++ ((hH KL.encI p0.hits.l) ++ ((hH KL.encI p0.used.l) ++ (hH KL.encT p0.met.l)))),.obj ab (.map aq au),.blk b8 44 B4,.blk b4 44 B4] cd:=cV
 refine eN (zQ ?_)
 cases bV
 exact ⟨rfl,_,(wKH (v:=.agg B4.toArray) ⟨⟨_,bO,(wHc Zk ZE (bQ.blkAt (k:=3) rfl) (vs:=B4) rfl rfl)⟩,trivial⟩),bK,_,(bQ.pick [0,1] _ (by decide) rfl),rfl,rfl⟩
theorem wDc (p0:wAC) (be:Option Addr) (bh:Nat) (bf:Option Addr) (bi:Nat) (bg:Option Addr) (bj:Nat) (w:World) (U:PHeap) (hS:St0 w U []) (cL:Sl U 1 be bh p0.Shots.length (hH KL.encI p0.Shots)) (cM:Sl U 1 bf bi p0.Down.length (hH KL.encI p0.Down)) (cN:Sl U 2 bg bj p0.Across.length (hH wAB p0.Across)) {r:(List wAA) × Int} (hm:wBW p0=some r):Gv Try.prog 13 [.agg #[.slice be p0.Shots.length bh,.slice bf p0.Down.length bi,.slice bg p0.Across.length bj]] w (wCp w [] U (fun U_ L_ v=>∃ (A0:Option Addr) (c0:Nat),v=.tuple #[.slice A0 r.1.length c0,jV r.2]/\L_=[.row A0 c0 35 2 (hH wAB r.1)])):=by
 unfold wBW at hm
 refine Gv.of Try.func13 Z Try.ntmps13 Try.results13 Z (sR gBe Z ?_)
 let B0:List Value:=[.slice be p0.Shots.length bh,.slice bf p0.Down.length bi,.slice bg p0.Across.length bj]
 refine ZX (cs:=B0) rfl rfl rfl rfl rfl rfl (by rfl) hS ?_
 intro W1 b2 bM
 refine oA Z Z (oA Z Z (eN (sR (.fl 0 (.fx 1 (wIq (.nil)) .stop)) Z (oL Z (bM.ldBA (j:=0) Z Z Z ZU zZ (vs:=B0) Z Z) ?_))))
 have q:=bnd hm
 obtain ⟨⟨x5,x6⟩,h7,aW⟩:=q
 try dsimp only at aW
 refine zM 0 Z Z Z Z (zK Z Z Try.call42 (zD Z zS) Z) bM (fun hs=>wDq p0 be bh bf bi bg bj W1 U hs cL cM cN h7) (.inr Z) ?_
 rintro U9 dg dz bC du bL bJ
 rcases x5 with _ | x26
 try dsimp only at aW
 obtain ⟨rfl,rfl⟩:=bJ
 have cG:sW w U U9 [.blk b2 26 B0] bC:=bL
 refine oM Z Z (oR Z (zx Z Z (v:=.pointer none) Z) (oR Z (zx Z Z (v:=jV x6) Z) (oA Z Z (oA Z Z (eN (zF (sR fL2 Z (oM Z Z (oR Z (ZT Z Z Z) (eN (ifc aW ?_ ?_)))))))))))
 intro bn cW
 refine zn (zr (fun h=>h bn.out)) (kN (sR fL1 Z (oA Z Z (eN (zF (sR fL7 Z (oM Z Z ?_)))))))
 cases cW
 intro bn cX
 refine cT Z bn (sR fL3 Z (oM Z Z (oA Z Z (oA Z Z (eN (zQ (zO ?_)))))))
 have cH:=cG.nilrow 35 2
 cases cX
 exact ⟨rfl,_,(wGU rfl rfl),U9,_,(cH.pick [0] _ (by decide) rfl),none,0,rfl,rfl⟩
 try dsimp only at aW
 obtain ⟨ai,am,au,ap,av,ae,aj,aa,aQ,az,rfl,rfl,ci,cj,cn,cp⟩:=bJ
 have bt:sW w U U9 [.blk ai 99 ([.slice am x26.Bout.Shots.length au,.slice ap x26.Bout.Down.length av,.slice ae x26.Bout.Across.length aj,.map (some aa)] ++ ((hH KL.encI x26.hits.l) ++ ((hH KL.encI x26.used.l) ++ (hH KL.encT x26.met.l)))),.obj aa (.map aQ az),.blk b2 26 B0] bC:=bL
 refine oM Z Z (oR Z (zx Z Z (v:=.pointer (some ⟨ai,0,none⟩)) Z) (oR Z (zx Z Z (v:=jV x6) Z) (oA Z Z (oA Z Z (eN (zF (sR fL2 Z (oM Z Z (oR Z (ZT Z Z Z) (eN (ifc aW ?_ ?_)))))))))))
 intro bo cY
 refine zn (zr (fun h=>h bo.out)) (kN (sR fL1 Z (oA Z Z (eN (zF (sR fL7 Z (oM Z Z (oR Z (zi Z Z) (oR Z (zI Z Z zN Z zZ) (oR Z (zI Z Z zE Z ZO) (oL Z (bt.ldB (j:=0) Z Z Z ZY (v:=.slice ae x26.Bout.Across.length aj) Z) (oR Z (ZC Z Z zp) (oM Z Z (eN (zV (bnK cY fun dB cO cZ=>?_))))))))))))))))
 have q:=wBf cO
 obtain ⟨bw,cP⟩:=q
 replace bw:=zG bw
 refine CK.forN' (fun aX aY σ_ w_=>∃ (U_:PHeap) (aS:Option Addr) (aV:Nat),σ_ 23=jV (↑aX:Int)/\σ_ 4=.pointer (some ⟨ai,0,none⟩)/\σ_ 6=.slice aS aY.length aV/\σ_ 21=.slice ae x26.Bout.Across.length aj/\σ_ 22=jV (↑x26.Bout.Across.length:Int)/\PHeap.Le U9 U_/\sW w U U_ [.blk ai 99 ([.slice am x26.Bout.Shots.length au,.slice ap x26.Bout.Down.length av,.slice ae x26.Bout.Across.length aj,.map (some aa)] ++ ((hH KL.encI x26.hits.l) ++ ((hH KL.encI x26.used.l) ++ (hH KL.encT x26.met.l)))),.obj aa (.map aQ az),.blk b2 26 B0,.row aS aV 35 2 (hH wAB aY)] w_) cP ?_ ?_ ?_
 have cI:=bt.nilrow 35 2
 exact ⟨U9,none,0,rfl,rfl,rfl,rfl,rfl,(ze _),(cI.pick [1,2,3,0] _ (by decide) rfl)⟩
 rintro aX aY dA dD dm bv ⟨bk,aS,aV,bb,bp,bG,bq,br,aZ,bN⟩ db
 have bF:Hid ((↑aX:Int) < (↑x26.Bout.Across.length:Int)):=zG (wBe bv)
 replace bv:=zG bv
 have bO:Hid (w64 ((↑aX:Int) + 1)=(↑(aX + 1):Int)):=zG (by have h1:=bw.out;have h2:=bF.out;rw [wAd] <;> omega)
 refine sR fL1 Z (oR Z (zX Z bb br) (eN (zF (cT Z bF (kN (zF (zV (sR gBj Z (bnK db fun x83 bH da=>?_)))))))))
 have bI:=cn.le aZ
 have q:=bI.el (fun _=>rfl) (wBU bH)
 obtain ⟨dq,dx,cw,cx⟩:=q
 refine oR Z (ZG Z bq cw bb zp zw (wCt bH)) (oL Z (bN.ldCA (f:=0) cx Z Z Ze zw (us:=[jV x83.Skier,jV x83.Lane]) Z Z) (ZL (cs:=[jV 0,jV 0]) Z Z Z Z Z ZM Z bN ?_))
 intro dp aU cJ
 let B1:List Value:=[jV x83.Skier,jV x83.Lane]
 refine ZA (j:=0) (vs:=B1) Z Z Z Z cJ Z Z Z Z zw (zB Z) Z Z Z ?_
 intro bl cK
 let B2:Res:=.row aS aV 35 2 (hH wAB aY)
 have bu:sW w U bk [.blk aU 35 B1,.blk ai 99 ([.slice am x26.Bout.Shots.length au,.slice ap x26.Bout.Down.length av,.slice ae x26.Bout.Across.length aj,.map (some aa)] ++ ((hH KL.encI x26.hits.l) ++ ((hH KL.encI x26.used.l) ++ (hH KL.encT x26.met.l)))),.obj aa (.map aQ az),.blk b2 26 B0,B2] bl:=cK
 refine eN (sR (wGL (.fx 5 (.fl 6 (.fl 7 .nil)) .stop)) Z (oM Z bp (oR Z (zI Z Z zq Z zC) (oL Z (bu.ldB (j:=0) Z Z Z zJ (v:=jV x83.Skier) Z) (oR Z (zI Z Z zq Z zC) (oL Z (bu.ldB (j:=0) Z Z Z zJ (v:=jV x83.Lane) Z) ?_))))))
 have ct:=ci.le aZ
 have cu:=cj.le aZ
 refine bnK da fun de cf cQ=>?_
 have cy:sW w U bk [.blk ai 99 ([.slice am x26.Bout.Shots.length au,.slice ap x26.Bout.Down.length av,.slice ae x26.Bout.Across.length aj,.map (some aa)] ++ ((hH KL.encI x26.hits.l) ++ ((hH KL.encI x26.used.l) ++ (hH KL.encT x26.met.l)))),.obj aa (.map aQ az),.blk aU 35 B1,.blk b2 26 B0,B2] bl:=bu.pick [1,2,0,3,4] _ (by decide) rfl
 refine zM 2 Z Z Z Z (zK Z Z Try.call48 (zD Z (zD Z (zD Z zS))) Z) cy (fun hs=>wDB x26 ai am au ap av ae aj aa aQ az x83.Skier x83.Lane bl bk hs ct cu bI cp cf) (.inl Z) ?_
 rintro aT dh dy bU bP cz ⟨rfl,rfl⟩
 have bs:sW w U aT [.blk ai 99 ([.slice am x26.Bout.Shots.length au,.slice ap x26.Bout.Down.length av,.slice ae x26.Bout.Across.length aj,.map (some aa)] ++ ((hH KL.encI x26.hits.l) ++ ((hH KL.encI x26.used.l) ++ (hH KL.encT x26.met.l)))),.obj aa (.map aQ az),.blk aU 35 B1,.blk b2 26 B0,B2] bU:=cz
 refine oR Z (Runs.fld Z Z Try.runUnderlying44 Z (wEY zJ (v:=jV de.Lo) Z)) (oR Z (Runs.gtr Z Z Z) (eN (ifc cQ ?_ ?_)))
 intro bm cR
 refine cT Z bm (rR (.fl 0 (.fl 1 (.fx 2 gAy .stop))) Z (oM Z bG (oL Z (bs.ldBA (j:=2) Z Z Z Ze zw (vs:=B1) Z Z) (Za (pv:=[(0,.agg B1.toArray)]) (zs:=[jV 0,jV 0]) (cs:=B1) Z Z Z Z Z (wAJ Z wAl) zp zw ZM Z Z Z Z Z bs ?_))))
 intro bV bX cA
 let B3:Res:=.row (some ⟨bX,0,none⟩) 1 35 2 (hH wAB [x83])
 have bK:sW w U aT [B3,.blk ai 99 ([.slice am x26.Bout.Shots.length au,.slice ap x26.Bout.Down.length av,.slice ae x26.Bout.Across.length aj,.map (some aa)] ++ ((hH KL.encI x26.hits.l) ++ ((hH KL.encI x26.used.l) ++ (hH KL.encT x26.met.l)))),.obj aa (.map aQ az),.blk aU 35 B1,.blk b2 26 B0,B2] bV:=cA
 refine bnK cR fun x118 cg cS=>OKS.append (j:=5) (enc:=wAB) (xs:=aY) (ys:=[x83]) (zs:=x118) rfl rfl rfl rfl rfl Try.underlying24 wLi rfl rfl rfl rfl rfl rfl bK rfl rfl rfl (bK.srcR (j:=0) rfl (by decide) (wAF (f:=wAB) (sz:=2) (fun _=>rfl) [x83])) (fun _=>rfl) (fun _=>rfl) cg rfl ?_
 intro bA bE bW cB
 have cC:sW w U aT [B3,.blk ai 99 ([.slice am x26.Bout.Shots.length au,.slice ap x26.Bout.Down.length av,.slice ae x26.Bout.Across.length aj,.map (some aa)] ++ ((hH KL.encI x26.hits.l) ++ ((hH KL.encI x26.used.l) ++ (hH KL.encT x26.met.l)))),.obj aa (.map aQ az),.blk aU 35 B1,.blk b2 26 B0,.row bA bE 35 2 (hH wAB x118)] bW:=cB
 refine oA Z Z (zo (zf (zH (rR fL2 Z (oR Z (zu (zW Z bb Z) (congrArg (jV) bO.out)) (oM Z Z (zo ?_)))))))
 cases cS
 exact zH ⟨rfl,⟨aT,bA,bE,rfl,bp,rfl,bq,br,(aZ.trans bP),(cC.pick [1,2,4,5] _ (by decide) rfl)⟩⟩
 intro bm cU
 refine cF Z bm (ZR (zf (zH (rR fL2 Z (oR Z (zu (zW Z bb Z) (congrArg (jV) bO.out)) (oM Z Z (zo ?_)))))))
 cases cU
 exact zH ⟨rfl,⟨aT,aS,aV,rfl,bp,bG,bq,br,(aZ.trans bP),(bs.pick [0,1,3,4] _ (by decide) rfl)⟩⟩
 rintro dC dk ⟨bS,bR,bY,cd,dr,b5,dt,b9,dw,cD⟩
 have bZ:Hid (¬ ((↑(((↑x26.Bout.Across.length:Int):Int) - 0).toNat:Int) < (↑x26.Bout.Across.length:Int))):=zG (wBD)
 refine sR fL1 Z (oR Z (zX Z cd b9) (eN (zF (cF Z bZ (ZN (zg (zg (ZB (zH (sR fL3 Z (oM Z b5 (oA Z Z (oA Z Z (eN (zQ ?_)))))))))))))))
 cases cZ
 exact ⟨rfl,_,(wGU rfl rfl),bS,_,(cD.pick [3] _ (by decide) rfl),bR,bY,rfl,rfl⟩
 intro bo cV
 refine cT Z bo (sR fL3 Z (oM Z Z (oA Z Z (oA Z Z (eN (zQ (zO ?_)))))))
 have cE:=bt.nilrow 35 2
 cases cV
 exact ⟨rfl,_,(wGU rfl rfl),U9,_,(cE.pick [0] _ (by decide) rfl),none,0,rfl,rfl⟩
end Go.Proofs.Ytfcmijinklojbaa
namespace Go.Proofs.Ytfcmijinklojbaa
open Go.KL
set_option maxHeartbeats 4000000
theorem wFN (p0:wAC) (aT:Option Addr) (aV:Nat) (aU:Option Addr) (aW:Nat) (bb:Option Addr) (be:Nat) (p1:Int) (p2:Int) (w:World) (U:PHeap) (hS:St0 w U []) (cz:Sl U 1 aT aV p0.Shots.length (hH KL.encI p0.Shots)) (cA:Sl U 1 aU aW p0.Down.length (hH KL.encI p0.Down)) (cB:Sl U 2 bb be p0.Across.length (hH wAB p0.Across)) {r:(Option wAE) × Int} (hm:wCE p0 p1 p2=some r):Gv Try.prog 49 [.agg #[.slice aT p0.Shots.length aV,.slice aU p0.Down.length aW,.slice bb p0.Across.length be],jV p1,jV p2] w (wCp w [] U (fun U_ L_ v=>match r.1 with | none=>v=.tuple #[.pointer none,jV r.2]/\L_=[] | some d=>∃ (b0:Nat) (A0p00:Option Addr) (c0p00:Nat) (A0p01:Option Addr) (c0p01:Nat) (A0p02:Option Addr) (c0p02:Nat) (m0p1:Nat) (es0p1:Array MapEntry) (ck0p1:Nat),v=.tuple #[.pointer (some ⟨b0,0,none⟩),jV r.2]/\L_=[.blk b0 99 ([.slice A0p00 d.Bout.Shots.length c0p00,.slice A0p01 d.Bout.Down.length c0p01,.slice A0p02 d.Bout.Across.length c0p02,.map (some m0p1)] ++ ((hH KL.encI d.hits.l) ++ ((hH KL.encI d.used.l) ++ (hH KL.encT d.met.l)))),.obj m0p1 (.map es0p1 ck0p1)]/\Sl U_ 1 A0p00 c0p00 d.Bout.Shots.length (hH KL.encI d.Bout.Shots)/\Sl U_ 1 A0p01 c0p01 d.Bout.Down.length (hH KL.encI d.Bout.Down)/\Sl U_ 2 A0p02 c0p02 d.Bout.Across.length (hH wAB d.Bout.Across)/\MpR es0p1 wGM wGk d.may)):=by
 unfold wCE at hm
 refine Gv.of Try.func49 Z Try.ntmps49 Try.results49 Z (sR gBe Z ?_)
 let B0:List Value:=[.slice aT p0.Shots.length aV,.slice aU p0.Down.length aW,.slice bb p0.Across.length be]
 refine ZX (cs:=B0) rfl rfl rfl rfl rfl rfl (by rfl) hS ?_
 intro W1 b2 bK
 refine oA Z Z (oA Z Z (eN (sR (.fl 0 (.fx 1 (wIq (.nil)) .stop)) Z (oL Z (bK.ldBA (j:=0) Z Z Z ZU zZ (vs:=B0) Z Z) ?_))))
 have q:=bnd hm
 obtain ⟨⟨x5,x6⟩,h7,aX⟩:=q
 try dsimp only at aX
 refine zM 0 Z Z Z Z (zK Z Z Try.call69 (zD Z zS) Z) bK (fun hs=>wED p0 aT aV aU aW bb be W1 U hs cz cA cB h7) (.inr Z) ?_
 rintro U9 cX dm aY df bJ bI
 rcases x5 with _ | x26
 try dsimp only at aX
 obtain ⟨rfl,rfl⟩:=bI
 have bp:sW w U U9 [.blk b2 26 B0] aY:=bJ
 refine oM Z Z (oR Z (zx Z Z (v:=.pointer none) Z) (oR Z (zx Z Z (v:=jV x6) Z) (oA Z Z (oA Z Z (eN (zF (zV (sR fL3 Z (oM Z Z (oR Z (ZT Z Z Z) (oA Z Z (eN (ifc aX ?_ ?_)))))))))))))
 intro bk cI
 refine zn (zr (fun h=>h bk.out)) (sR (wGL (.fx 5 (wNX (.fx 13 (wML (.nil)) .stop)) .stop)) Z (oM Z Z (oR Z (zI Z Z zE Z zY) (oL Z (bp.ldB (j:=0) Z Z Z zl (v:=.slice aT p0.Shots.length aV) Z) (oR Z (ZC Z Z zA) (oR Z (Zc Z Z Z) (bnK cI fun du bX cJ=>zM 0 Z Z Z Z (zK Z Z Zl (zD Z (zD Z (zD Z zS))) Z) bp (fun hs=>wBA p1 0 (w64 ((↑p0.Shots.length:Int) - 1)) aY U9 hs bX) (.inr Z) ?_)))))))
 rintro bg cZ dp bA dg ct ⟨rfl,rfl⟩
 have bq:sW w U bg [.blk b2 26 B0] bA:=ct
 refine oR Z (ZS Z Z) (oM Z Z (ifc cJ ?_ ?_))
 intro ab cK
 refine zh Z Z Z (zR Z Z (nC ab.out)) Z Z (zL Z Z Z (zR Z Z (nC ab.out)) (fun _=>zI Z Z zE Z zY) (zm Z Z Z (zR Z Z (nC ab.out)) (bq.ldB (j:=0) Z Z Z zl (v:=.slice aU p0.Down.length aW) Z) Z (zL Z Z Z (zR Z Z (nC ab.out)) (fun _=>ZC Z Z zA) (zL Z Z Z (zR Z Z (nC ab.out)) (fun _=>Zc Z Z Z) (bnK cK fun x42 bY cL=>zM 0 Z Z Z (zR Z Z (nC ab.out)) (zK Z Z Zl (zD Z (zD Z (zD Z zS))) Z) bq (fun hs=>wBA p2 0 (w64 ((↑p0.Down.length:Int) - 1)) bA bg hs bY) (.inr Z) ?_)))))
 rintro bz da dq bQ dh cu ⟨rfl,rfl⟩
 have cw:sW w U bz [.blk b2 26 B0] bQ:=cu
 refine zL Z Z Z (zR Z Z (nC ab.out)) (fun _=>ZS Z Z) (oR Z (zj Z (nC ab.out) Z) (oA Z Z (eN (ifc cL ?_ ?_))))
 intro bl cM
 refine zn (nC bl.out) (sR gBk Z (oM Z Z ?_))
 cases cM
 intro bl cN
 refine zt (nF (bl.out)) (sR fL2 Z (oA Z Z (oA Z Z (eN (zQ (zd (zO ?_)))))))
 cases cN
 exact ⟨rfl,_,(wGU rfl rfl),bz,_,(cw.pick [] _ (by decide) rfl),rfl,rfl⟩
 intro ab cO
 refine zk Z Z Z (zU Z Z (nF (ab.out)) Z) (zk Z Z Z (zU Z Z (nF (ab.out)) Z) (zk Z Z Z (zU Z Z (nF (ab.out)) Z) (zk Z Z Z (zU Z Z (nF (ab.out)) Z) (zk Z Z Z (zU Z Z (nF (ab.out)) Z) (Zb Z Z Z (zU Z Z (nF (ab.out)) Z) (zk Z Z Z (zU Z Z (nF (ab.out)) Z) (oR Z (zP Z (nF (ab.out)) Z) (oA Z Z (eN (zt Z (sR fL2 Z (oA Z Z (oA Z Z (eN (zQ (zd (zO ?_)))))))))))))))))
 cases cO
 exact ⟨rfl,_,(wGU rfl rfl),bg,_,(bq.pick [] _ (by decide) rfl),rfl,rfl⟩
 intro bk cP
 refine cT Z bk (sR fL3 Z (oM Z Z (oA Z Z (oA Z Z (eN (zQ (zd (zO ?_))))))))
 cases cP
 exact ⟨rfl,_,(wGU rfl rfl),U9,_,(bp.pick [] _ (by decide) rfl),rfl,rfl⟩
 try dsimp only at aX
 obtain ⟨aj,am,av,ap,az,aq,aQ,ah,aS,aR,rfl,rfl,bZ,b5,b9,bE⟩:=bI
 have br:sW w U U9 [.blk aj 99 ([.slice am x26.Bout.Shots.length av,.slice ap x26.Bout.Down.length az,.slice aq x26.Bout.Across.length aQ,.map (some ah)] ++ ((hH KL.encI x26.hits.l) ++ ((hH KL.encI x26.used.l) ++ (hH KL.encT x26.met.l)))),.obj ah (.map aS aR),.blk b2 26 B0] aY:=bJ
 refine oM Z Z (oR Z (zx Z Z (v:=.pointer (some ⟨aj,0,none⟩)) Z) (oR Z (zx Z Z (v:=jV x6) Z) (oA Z Z (oA Z Z (eN (zF (zV (sR fL3 Z (oM Z Z (oR Z (ZT Z Z Z) (oA Z Z (eN (ifc aX ?_ ?_)))))))))))))
 intro bm cQ
 refine zn (zr (fun h=>h bm.out)) (sR (wGL (.fx 5 (wNX (.fx 13 (wML (.nil)) .stop)) .stop)) Z (oM Z Z (oR Z (zI Z Z zE Z zY) (oL Z (br.ldB (j:=2) Z Z Z zl (v:=.slice aT p0.Shots.length aV) Z) (oR Z (ZC Z Z zA) (oR Z (Zc Z Z Z) (bnK cQ fun dw cd cR=>zM 0 Z Z Z Z (zK Z Z Zl (zD Z (zD Z (zD Z zS))) Z) br (fun hs=>wBA p1 0 (w64 ((↑p0.Shots.length:Int) - 1)) aY U9 hs cd) (.inr Z) ?_)))))))
 rintro bh db dr bB bu cx ⟨rfl,rfl⟩
 have bs:sW w U bh [.blk aj 99 ([.slice am x26.Bout.Shots.length av,.slice ap x26.Bout.Down.length az,.slice aq x26.Bout.Across.length aQ,.map (some ah)] ++ ((hH KL.encI x26.hits.l) ++ ((hH KL.encI x26.used.l) ++ (hH KL.encT x26.met.l)))),.obj ah (.map aS aR),.blk b2 26 B0] bB:=cx
 refine oR Z (ZS Z Z) (oM Z Z (ifc cR ?_ ?_))
 intro ae cS
 refine zh Z Z Z (zR Z Z (nC ae.out)) Z Z (zL Z Z Z (zR Z Z (nC ae.out)) (fun _=>zI Z Z zE Z zY) (zm Z Z Z (zR Z Z (nC ae.out)) (bs.ldB (j:=2) Z Z Z zl (v:=.slice aU p0.Down.length aW) Z) Z (zL Z Z Z (zR Z Z (nC ae.out)) (fun _=>ZC Z Z zA) (zL Z Z Z (zR Z Z (nC ae.out)) (fun _=>Zc Z Z Z) (bnK cS fun x78 cg cU=>zM 0 Z Z Z (zR Z Z (nC ae.out)) (zK Z Z Zl (zD Z (zD Z (zD Z zS))) Z) bs (fun hs=>wBA p2 0 (w64 ((↑p0.Down.length:Int) - 1)) bB bh hs cg) (.inr Z) ?_)))))
 rintro bi de dt bC bv cy ⟨rfl,rfl⟩
 have bL:sW w U bi [.blk aj 99 ([.slice am x26.Bout.Shots.length av,.slice ap x26.Bout.Down.length az,.slice aq x26.Bout.Across.length aQ,.map (some ah)] ++ ((hH KL.encI x26.hits.l) ++ ((hH KL.encI x26.used.l) ++ (hH KL.encT x26.met.l)))),.obj ah (.map aS aR),.blk b2 26 B0] bC:=cy
 refine zL Z Z Z (zR Z Z (nC ae.out)) (fun _=>ZS Z Z) (oR Z (zj Z (nC ae.out) Z) (oA Z Z (eN (ifc cU ?_ ?_))))
 intro bn cV
 refine zn (nC bn.out) (sR gBk Z (oM Z Z ?_))
 have ci:=bZ.le bu
 have bF:=ci.le bv
 have cj:=b5.le bu
 have bG:=cj.le bv
 have cn:=b9.le bu
 have bH:=cn.le bv
 have q:=bnd cV
 obtain ⟨⟨x96,x97⟩,cp,bM⟩:=q
 try dsimp only at bM
 refine zM 2 Z Z Z Z (zK Z Z Try.call46 (zD Z zS) Z) bL (fun hs=>wBg x26 aj am av ap az aq aQ ah aS aR bC bi hs bF bG bH bE cp) (.inl Z) ?_
 rintro bf cY dk bP bt cq ⟨bw,bR,rfl,rfl,bS⟩
 have bo:sW w U bf [.row bw bR 3 1 (hH KL.encI x96),.blk aj 99 ([.slice am x26.Bout.Shots.length av,.slice ap x26.Bout.Down.length az,.slice aq x26.Bout.Across.length aQ,.map (some ah)] ++ ((hH KL.encI x97.1.l) ++ ((hH KL.encI x97.2.1.l) ++ (hH KL.encT x97.2.2.l)))),.obj ah (.map aS aR),.blk b2 26 B0] bP:=cq
 have bT:bw.isNone=decide (x96=[]):=wGy (j:=0) bo rfl (fun _=>rfl) (by decide) bS
 refine zL rfl rfl rfl rfl (fun _=>Runs.neNilR (b:=decide (¬ (x96=[]))) rfl rfl rfl zA (by simp [bT])) (OKS.ra rfl rfl rfl rfl rfl rfl (eN (ifc bM ?_ ?_)))
 intro bj cC
 refine zn (zr (fun h=>h bj.out)) (ZR (zf (zH (sR fL3 Z (oM Z Z (oA Z Z (oA Z Z (eN (zQ ?_)))))))))
 have bU:=bF.le bt
 have bV:=bG.le bt
 have bW:=bH.le bt
 cases cC
 exact ⟨rfl,_,(wGU rfl rfl),bf,_,(bo.pick [1,2] _ (by decide) rfl),aj,am,av,ap,az,aq,aQ,ah,aS,aR,rfl,rfl,bU,bV,bW,bE⟩
 intro bj cD
 refine cT Z bj (sR fL2 Z (oA Z Z (oA Z Z (eN (zQ (zd (zO ?_)))))))
 cases cD
 exact ⟨rfl,_,(wGU rfl rfl),bf,_,(bo.pick [] _ (by decide) rfl),rfl,rfl⟩
 intro bn cE
 refine zt (nF (bn.out)) (sR fL2 Z (oA Z Z (oA Z Z (eN (zQ (zd (zO ?_)))))))
 cases cE
 exact ⟨rfl,_,(wGU rfl rfl),bi,_,(bL.pick [] _ (by decide) rfl),rfl,rfl⟩
 intro ae cG
 refine zk Z Z Z (zU Z Z (nF (ae.out)) Z) (zk Z Z Z (zU Z Z (nF (ae.out)) Z) (zk Z Z Z (zU Z Z (nF (ae.out)) Z) (zk Z Z Z (zU Z Z (nF (ae.out)) Z) (zk Z Z Z (zU Z Z (nF (ae.out)) Z) (Zb Z Z Z (zU Z Z (nF (ae.out)) Z) (zk Z Z Z (zU Z Z (nF (ae.out)) Z) (oR Z (zP Z (nF (ae.out)) Z) (oA Z Z (eN (zt Z (sR fL2 Z (oA Z Z (oA Z Z (eN (zQ (zd (zO ?_)))))))))))))))))
 cases cG
 exact ⟨rfl,_,(wGU rfl rfl),bh,_,(bs.pick [] _ (by decide) rfl),rfl,rfl⟩
 intro bm cH
 refine cT Z bm (sR fL3 Z (oM Z Z (oA Z Z (oA Z Z (eN (zQ (zd (zO ?_))))))))
 cases cH
 exact ⟨rfl,_,(wGU rfl rfl),U9,_,(br.pick [] _ (by decide) rfl),rfl,rfl⟩
theorem wDU (p0:wAC) (aY:Option Addr) (bb:Nat) (aZ:Option Addr) (be:Nat) (ba:Option Addr) (bf:Nat) (p1:Int) (p2:Int) (w:World) (U:PHeap) (hS:St0 w U []) (bM:Sl U 1 aY bb p0.Shots.length (hH KL.encI p0.Shots)) (bN:Sl U 1 aZ be p0.Down.length (hH KL.encI p0.Down)) (bO:Sl U 2 ba bf p0.Across.length (hH wAB p0.Across)) {r:wAb × Int} (hm:wBM p0 p1 p2=some r):Gv Try.prog 14 [.agg #[.slice aY p0.Shots.length bb,.slice aZ p0.Down.length be,.slice ba p0.Across.length bf],jV p1,jV p2] w (wCp w [] U (fun U_ L_ v=>v=.tuple #[.agg #[jV r.1.Lo,jV r.1.Hi],jV r.2]/\L_=[])):=by
 unfold wBM at hm
 refine Gv.of Try.func14 Z Try.ntmps14 Try.results14 Z (sR (.fx 0 (.fx 1 (.fl 2 .nil) .stop) .stop) Z ?_)
 let B0:List Value:=[.slice aY p0.Shots.length bb,.slice aZ p0.Down.length be,.slice ba p0.Across.length bf]
 refine ZX (cs:=B0) rfl rfl rfl rfl rfl rfl (by rfl) hS ?_
 intro W1 b2 bF
 let B1:List Value:=[jV 0,jV 0]
 refine ZL (cs:=B1) Z Z Z Z Z ZV Z bF ?_
 intro W5 b6 br
 refine oA Z Z (eN (sR (wGK (.fx 3 (fC4_8 (.nil)) .stop)) Z (oL Z (br.ldBA (j:=1) Z Z Z ZU zZ (vs:=B0) Z Z) (oM Z Z (oM Z Z ?_)))))
 have q:=bnd hm
 obtain ⟨⟨x9,bg⟩,bz,aU⟩:=q
 try dsimp only at aU
 refine zM 0 Z Z Z Z (zK Z Z Try.call49 (zD Z (zD Z (zD Z zS))) Z) br (fun hs=>wFN p0 aY bb aZ be ba bf p1 p2 W5 U hs bM bN bO bz) (.inr Z) ?_
 rintro aj bV b5 bi bY bm bl
 rcases x9 with _ | aa
 try dsimp only at aU
 obtain ⟨rfl,rfl⟩:=bl
 have bG:sW w U aj [.blk b6 44 B1,.blk b2 26 B0] bi:=bm
 refine oM Z Z (oR Z (zx Z Z (v:=.pointer none) Z) (oR Z (zx Z Z (v:=jV bg) Z) (oA Z Z (oA Z Z (eN (zF (sR fL2 Z (oM Z Z (oR Z (ZT Z Z Z) (eN (ifc aU ?_ ?_)))))))))))
 intro bj bP
 refine zn (zr (fun h=>h bj.out)) (kN (sR (wGK gBf) Z (oM Z Z (oM Z Z (oM Z Z ?_)))))
 cases bP
 intro bj bQ
 refine cT Z bj (sR gBl Z (oR Z (ZH (pv:=[]) (z:=B1) (cs:=B1) Z wAl ZV wFV Z Z) (oM Z Z (ZA (j:=0) (vs:=B1) Z Z Z Z bG Z Z Z Z ZE (zB Z) Z Z Z ?_))))
 intro bs bH
 have bn:sW w U aj [.blk b6 44 B1,.blk b2 26 B0] bs:=bH
 refine oA Z Z (eN (zQ (zO ?_)))
 cases bQ
 exact ⟨rfl,_,(wKI (rs:=[.cell 6 44,.tmp 7]) (vs:=[.agg B1.toArray,jV bg]) ⟨⟨_,rfl,(wHc Zk ZE (bn.blkAt (k:=0) rfl) (vs:=B1) rfl rfl)⟩,⟨rfl,trivial⟩⟩ rfl),aj,_,(bn.pick [] _ (by decide) rfl),rfl,rfl⟩
 try dsimp only at aU
 obtain ⟨ak,aq,az,au,aQ,av,aR,ah,aT,aS,rfl,rfl,bA,bB,bC,bD⟩:=bl
 have bo:sW w U aj [.blk ak 99 ([.slice aq aa.Bout.Shots.length az,.slice au aa.Bout.Down.length aQ,.slice av aa.Bout.Across.length aR,.map (some ah)] ++ ((hH KL.encI aa.hits.l) ++ ((hH KL.encI aa.used.l) ++ (hH KL.encT aa.met.l)))),.obj ah (.map aT aS),.blk b6 44 B1,.blk b2 26 B0] bi:=bm
 refine oM Z Z (oR Z (zx Z Z (v:=.pointer (some ⟨ak,0,none⟩)) Z) (oR Z (zx Z Z (v:=jV bg) Z) (oA Z Z (oA Z Z (eN (zF (sR fL2 Z (oM Z Z (oR Z (ZT Z Z Z) (eN (ifc aU ?_ ?_)))))))))))
 intro bk bR
 refine zn (zr (fun h=>h bk.out)) (kN (sR (wGK gBf) Z (oM Z Z (oM Z Z (oM Z Z (bnK bR fun x47 bE bS=>zM 2 Z Z Z Z (zK Z Z Try.call48 (zD Z (zD Z (zD Z zS))) Z) bo (fun hs=>wDB aa ak aq az au aQ av aR ah aT aS p1 p2 bi aj hs bA bB bC bD bE) (.inl Z) ?_))))))
 rintro bh bW b9 bu bZ bI ⟨rfl,rfl⟩
 have bJ:sW w U bh [.blk ak 99 ([.slice aq aa.Bout.Shots.length az,.slice au aa.Bout.Down.length aQ,.slice av aa.Bout.Across.length aR,.map (some ah)] ++ ((hH KL.encI aa.hits.l) ++ ((hH KL.encI aa.used.l) ++ (hH KL.encT aa.met.l)))),.obj ah (.map aT aS),.blk b6 44 B1,.blk b2 26 B0] bu:=bI
 let B2:List Value:=[jV x47.Lo,jV x47.Hi]
 refine ZA (j:=2) (vs:=B2) Z Z Z Z bJ Z Z Z Z ZE (zB Z) Z Z Z ?_
 intro bv bK
 have bp:sW w U bh [.blk ak 99 ([.slice aq aa.Bout.Shots.length az,.slice au aa.Bout.Down.length aQ,.slice av aa.Bout.Across.length aR,.map (some ah)] ++ ((hH KL.encI aa.hits.l) ++ ((hH KL.encI aa.used.l) ++ (hH KL.encT aa.met.l)))),.obj ah (.map aT aS),.blk b6 44 B2,.blk b2 26 B0] bv:=bK
 refine oA Z Z (eN (zQ ?_))
 cases bS
 exact ⟨rfl,_,(wKI (rs:=[.cell 6 44,.tmp 7]) (vs:=[.agg B2.toArray,jV 0]) ⟨⟨_,rfl,(wHc Zk ZE (bp.blkAt (k:=2) rfl) (vs:=B2) rfl rfl)⟩,⟨rfl,trivial⟩⟩ rfl),bh,_,(bp.pick [] _ (by decide) rfl),rfl,rfl⟩
 intro bk bT
 refine cT Z bk (sR gBl Z (oR Z (ZH (pv:=[]) (z:=B1) (cs:=B1) Z wAl ZV wFV Z Z) (oM Z Z (ZA (j:=2) (vs:=B1) Z Z Z Z bo Z Z Z Z ZE (zB Z) Z Z Z ?_))))
 intro bw bL
 have bq:sW w U aj [.blk ak 99 ([.slice aq aa.Bout.Shots.length az,.slice au aa.Bout.Down.length aQ,.slice av aa.Bout.Across.length aR,.map (some ah)] ++ ((hH KL.encI aa.hits.l) ++ ((hH KL.encI aa.used.l) ++ (hH KL.encT aa.met.l)))),.obj ah (.map aT aS),.blk b6 44 B1,.blk b2 26 B0] bw:=bL
 refine oA Z Z (eN (zQ (zO ?_)))
 cases bT
 exact ⟨rfl,_,(wKI (rs:=[.cell 6 44,.tmp 7]) (vs:=[.agg B1.toArray,jV bg]) ⟨⟨_,rfl,(wHc Zk ZE (bq.blkAt (k:=2) rfl) (vs:=B1) rfl rfl)⟩,⟨rfl,trivial⟩⟩ rfl),aj,_,(bq.pick [] _ (by decide) rfl),rfl,rfl⟩
theorem wEB (w:World) (U:PHeap) (hS:St0 w U []) {r:Bool} (hm:wBw=some r):Gv Try.prog 15 [] w (wCp w [] U (fun U_ L_ v=>v=.bool r/\L_=[])):=by
 cases hm
 refine (xr15 w).mono ?_
 rintro v w' ⟨rfl,k⟩
 exact ⟨U,[],hS.grow k,Z,Z⟩
theorem wCs (p0:List Int) (gG:Option Addr) (gI:Nat) (p1:List Int) (gH:Option Addr) (gJ:Nat) (w:World) (U:PHeap) (hS:St0 w U []) (vq:Sl U 1 gG gI p0.length (hH KL.encB8 p0)) (vr:Sl U 1 gH gJ p1.length (hH KL.encB8 p1)) {r:Bool} (hm:wBC p0 p1=some r):Gv Try.prog 3 [.slice gG p0.length gI,.slice gH p1.length gJ] w (wCp w [] U (fun U_ L_ v=>v=.bool r/\L_=[])):=by
 unfold wBC at hm
 refine Gv.of Try.func3 Z Try.ntmps3 Try.results3 Z (sR fL1 Z (oA Z Z (eN (sR (.fl 0 (.fx 1 (.fx 2 (fC3_5 (.fx 6 (.fx 7 (.fl 8 .nil) .stop) .stop)) .stop) .stop)) Z (oM Z Z (bnK hm fun x1 h2 wN=>zM 0 Z Z Z Z (zK Z Z Try.call8 (zD Z zS) Z) hS (fun hs=>wDo p0 gG gI w U hs vq h2) (.inr Z) ?_))))))
 rintro U4 L5 v6 W7 xA vg ⟨eX,gQ,iK,rfl,rfl,qm⟩
 have tE:sW w U U4 [.blk eX 87 [.slice gQ x1.bytes.length iK,jV x1.next,.int .u32 x1.state]] W7:=vg
 have q:=bnd wN
 obtain ⟨⟨aa,xO,gK⟩,qn,ln⟩:=q
 try dsimp only at ln
 refine zM 1 Z Z Z Z (zK Z Z Try.call7 (zD Z (zD Z zS)) Z) tE (fun hs=>wEU x1 eX gQ iK 6 W7 U4 hs qm qn) (.inl Z) ?_
 rintro eO xU Aj mA xx ub ⟨bO,bS,b5,cq,b9,ct,gR,iM,mW,lU,mX,rfl,rfl,ju,y8,y9⟩
 let B0:Res:=.blk eX 87 [.slice lU gK.bytes.length mX,jV gK.next,.int .u32 gK.state]
 let B1:Res:=.row b5 cq 3 1 (hH KL.encI aa.Down)
 let B2:Res:=.row bO bS 3 1 (hH KL.encI aa.Shots)
 let B3:Res:=.row gR iM 23 1 mW
 have uw:sW w U eO [B2,B1,B3,B0] mA:=ub
 refine oM Z Z (oR Z (zx Z Z (v:=.agg #[.slice bO aa.Shots.length bS,.slice b5 aa.Down.length cq,.slice b9 aa.Across.length ct]) Z) (oR Z (zx Z Z (v:=.slice gR xO.length iM) Z) ?_))
 let B4:List Value:=[.slice none 0 0,.slice none 0 0,.slice none 0 0]
 refine ZL (cs:=B4) Z Z Z Z Z ZD Z uw ?_
 intro yw ae uz
 let B5:List Value:=[.slice bO aa.Shots.length bS,.slice b5 aa.Down.length cq,.slice b9 aa.Across.length ct]
 refine ZA (j:=0) (vs:=B5) Z Z Z Z uz Z Z Z Z zZ (zB Z) Z Z Z ?_
 intro iv uB
 have j7:sW w U eO [.blk ae 26 B5,B2,B1,B3,B0] iv:=uB
 refine oA Z Z (eN (sR fL4 Z (oR Z (zI Z Z zE Z zY) (oL Z (j7.ldB (j:=0) Z Z Z zl (v:=.slice bO aa.Shots.length bS) Z) (oR Z (ZC Z Z zA) (oA Z Z (eN (sR (.fl 0 (.fx 1 (.fl 2 gAy) .stop)) Z (oM Z Z ?_)))))))))
 have qq:=vr.le xA
 have qu:=qq.le xx
 refine bnK ln fun x54 qF wZ=>zM 0 Z Z Z Z (zK Z Z Try.call8 (zD Z zS) Z) j7 (fun hs=>wDo p1 gH gJ iv eO hs qu qF) (.inr Z) ?_
 rintro ij xZ An iA lM uN ⟨fb,gS,iP,rfl,rfl,qQ⟩
 have uZ:sW w U ij [.blk fb 87 [.slice gS x54.bytes.length iP,jV x54.next,.int .u32 x54.state],.blk ae 26 B5,B2,B1,B3,B0] iA:=uN
 refine oM Z Z ?_
 have q:=bnd wZ
 obtain ⟨⟨x69,x70⟩,rn,lw⟩:=q
 try dsimp only at lw
 refine zM 1 Z Z Z Z (zK Z Z Try.call9 (zD Z (zD Z zS)) Z) uZ (fun hs=>wDF x54 fb gS iP (↑aa.Shots.length:Int) iA ij hs qQ rn) (.inl Z) ?_
 rintro aR yd Au eV lN u7 ⟨bg,bk,lW,m6,rfl,rfl,z4⟩
 let B6:Res:=.blk fb 87 [.slice lW x70.bytes.length m6,jV x70.next,.int .u32 x70.state]
 let B7:Res:=.row bg bk 3 1 (hH KL.encI x69)
 have u9:sW w U aR [B7,B6,.blk ae 26 B5,B2,B1,B3,B0] eV:=u7
 refine oA Z Z (eN ?_)
 have q:=bnd lw
 obtain ⟨⟨gz,gA⟩,xo,lA⟩:=q
 try dsimp only at lA
 refine CK.cut (fun σ_ w_=>∃ (U_:PHeap) (aT:Nat) (az:Option Addr) (aQ:Nat) (au:Option Addr) (av:Nat),σ_ 5=.pointer (some ⟨ae,0,none⟩)/\σ_ 7=jV (↑aa.Shots.length:Int)/\σ_ 8=.slice bg x69.length bk/\σ_ 9=.pointer (some ⟨aT,0,none⟩)/\PHeap.Le aR U_/\sW w U U_ [B6,B2,B1,.blk ae 26 B5,B0,B7,.blk aT 26 [.slice az gz.length aQ,.slice au gA.length av,.slice none 0 0],.row az aQ 3 1 (hH KL.encI gz),.row au av 3 1 (hH KL.encI gA)] w_) ?_ ?_
 refine bnK xo fun x97 z5 wz=>bnK wz fun x105 bI cV=>ZJ ZK [3,2,3,2,3,2,0] (.fl 0 (.fl 2 (.fx 1 (.fx 3 gBg (.fx 5 gBh .stop)) (.fx 3 (.fx 1 gBg (.fx 5 gBi .stop)) (.fx 5 (.fx 1 gBh (.fx 3 gBi .stop)) .stop))))) (by kernel_rfl) ?_
 have d7:=u9.drew
 generalize hw_W123:({ eV with drawn:=eV.drawn + 1 }:World)=yn at d7 ⊢
 refine oM Z Z (oM Z Z (OKS.both ?_ ?_))
 refine ZW (enc:=KL.encI) (z:=(0:Int)) (v:=jV 0) Z Z Z Z Z (wBv zA) wDz Z Z Z Z Z Z bI d7 ?_
 intro mh ci tw
 let B8:Res:=.row (some ⟨ci,0,none⟩) x105.length 3 1 (hH KL.encI x105)
 have j0:sW w U aR [B8,B7,B6,.blk ae 26 B5,B2,B1,B3,B0] mh:=tw
 refine OKS.both ?_ ?_
 refine ZW (enc:=KL.encI) (z:=(0:Int)) (v:=jV 0) Z Z Z Z Z (wBv zA) wDz Z Z Z Z Z Z bI j0 ?_
 intro mi dE tz
 let B9:Res:=.row (some ⟨dE,0,none⟩) x105.length 3 1 (hH KL.encI x105)
 have tA:sW w U aR [B9,B8,B7,B6,.blk ae 26 B5,B2,B1,B3,B0] mi:=tz
 let ei:List Value:=[.slice (some ⟨ci,0,none⟩) x105.length x105.length,.slice (some ⟨dE,0,none⟩) x105.length x105.length,.slice none 0 0]
 refine oR Z (ZH (pv:=[(0,.slice (some ⟨ci,0,none⟩) x105.length x105.length),(1,.slice (some ⟨dE,0,none⟩) x105.length x105.length)]) (z:=B4) (cs:=ei) Z (wAJ Z (wAJ Z wAl)) ZD wDA Z Z) (ZL (cs:=B4) Z Z Z Z Z ZD Z tA ?_)
 intro yo iG tB
 refine ZA (j:=0) (vs:=ei) Z Z Z Z tB Z Z Z Z zZ (zB Z) Z Z Z ?_
 intro mn tC
 have tD:sW w U aR [.blk iG 26 ei,B9,B8,B7,B6,.blk ae 26 B5,B2,B1,B3,B0] mn:=tC
 refine zo ?_
 have jR:=nA cV
 simp only [nJ] at jR
 obtain ⟨sP,sQ⟩:=jR
 subst sP
 subst sQ
 exact zH ⟨rfl,⟨aR,iG,(some ⟨ci,0,none⟩),x105.length,(some ⟨dE,0,none⟩),x105.length,rfl,rfl,rfl,rfl,(ze _),(tD.pick [4,6,7,5,9,3,0,2,1] _ (by decide) rfl)⟩⟩
 refine ZL (cs:=B4) Z Z Z Z Z ZD Z j0 ?_
 intro yp eY tF
 refine ZW (enc:=KL.encI) (z:=(0:Int)) (v:=jV 0) Z Z Z Z Z (wBv zA) wDz Z Z Z Z Z Z bI tF ?_
 intro mo dF tG
 let gT:Res:=.row (some ⟨dF,0,none⟩) x105.length 3 1 (hH KL.encI x105)
 have tH:sW w U aR [gT,.blk eY 26 B4,B8,B7,B6,.blk ae 26 B5,B2,B1,B3,B0] mo:=tG
 let ej:List Value:=[.slice (some ⟨ci,0,none⟩) x105.length x105.length,.slice (some ⟨dF,0,none⟩) x105.length x105.length,.slice none 0 0]
 refine oR Z (ZH (pv:=[(0,.slice (some ⟨ci,0,none⟩) x105.length x105.length),(1,.slice (some ⟨dF,0,none⟩) x105.length x105.length)]) (z:=B4) (cs:=ej) Z (wAJ Z (wAJ Z wAl)) ZD wDA Z Z) (ZA (j:=1) (vs:=ej) Z Z Z Z tH Z Z Z Z zZ (zB Z) Z Z Z ?_)
 intro mp tI
 have tJ:sW w U aR [gT,.blk eY 26 ej,B8,B7,B6,.blk ae 26 B5,B2,B1,B3,B0] mp:=tI
 refine zo ?_
 have jS:=nA cV
 simp only [nJ] at jS
 obtain ⟨sS,sT⟩:=jS
 subst sS
 subst sT
 exact zH ⟨rfl,⟨aR,eY,(some ⟨ci,0,none⟩),x105.length,(some ⟨dF,0,none⟩),x105.length,rfl,rfl,rfl,rfl,(ze _),(tJ.pick [4,6,7,5,9,3,1,2,0] _ (by decide) rfl)⟩⟩
 refine OKS.both ?_ ?_
 refine ZW (enc:=KL.encI) (z:=(0:Int)) (v:=jV 0) Z Z Z Z Z (wBv zA) wDz Z Z Z Z Z Z bI d7 ?_
 intro mq cj tK
 let cY:Res:=.row (some ⟨cj,0,none⟩) x105.length 3 1 (hH KL.encI x105)
 have j4:sW w U aR [cY,B7,B6,.blk ae 26 B5,B2,B1,B3,B0] mq:=tK
 refine OKS.both ?_ ?_
 refine ZW (enc:=KL.encI) (z:=(0:Int)) (v:=jV 0) Z Z Z Z Z (wBv zA) wDz Z Z Z Z Z Z bI j4 ?_
 intro mr dG tL
 let gU:Res:=.row (some ⟨dG,0,none⟩) x105.length 3 1 (hH KL.encI x105)
 have tM:sW w U aR [gU,cY,B7,B6,.blk ae 26 B5,B2,B1,B3,B0] mr:=tL
 let en:List Value:=[.slice (some ⟨dG,0,none⟩) x105.length x105.length,.slice (some ⟨cj,0,none⟩) x105.length x105.length,.slice none 0 0]
 refine oR Z (ZH (pv:=[(0,.slice (some ⟨dG,0,none⟩) x105.length x105.length),(1,.slice (some ⟨cj,0,none⟩) x105.length x105.length)]) (z:=B4) (cs:=en) Z (wAJ Z (wAJ Z wAl)) ZD wDA Z Z) (ZL (cs:=B4) Z Z Z Z Z ZD Z tM ?_)
 intro yq iH tO
 refine ZA (j:=0) (vs:=en) Z Z Z Z tO Z Z Z Z zZ (zB Z) Z Z Z ?_
 intro ms tP
 have tQ:sW w U aR [.blk iH 26 en,gU,cY,B7,B6,.blk ae 26 B5,B2,B1,B3,B0] ms:=tP
 refine zo ?_
 have jU:=nA cV
 simp only [nJ] at jU
 obtain ⟨sU,sV⟩:=jU
 subst sU
 subst sV
 exact zH ⟨rfl,⟨aR,iH,(some ⟨dG,0,none⟩),x105.length,(some ⟨cj,0,none⟩),x105.length,rfl,rfl,rfl,rfl,(ze _),(tQ.pick [4,6,7,5,9,3,0,1,2] _ (by decide) rfl)⟩⟩
 refine ZL (cs:=B4) Z Z Z Z Z ZD Z j4 ?_
 intro yr eZ tR
 refine ZW (enc:=KL.encI) (z:=(0:Int)) (v:=jV 0) Z Z Z Z Z (wBv zA) wDz Z Z Z Z Z Z bI tR ?_
 intro mu dH tS
 let gW:Res:=.row (some ⟨dH,0,none⟩) x105.length 3 1 (hH KL.encI x105)
 have tT:sW w U aR [gW,.blk eZ 26 B4,cY,B7,B6,.blk ae 26 B5,B2,B1,B3,B0] mu:=tS
 let eu:List Value:=[.slice (some ⟨dH,0,none⟩) x105.length x105.length,.slice (some ⟨cj,0,none⟩) x105.length x105.length,.slice none 0 0]
 refine oR Z (ZH (pv:=[(0,.slice (some ⟨dH,0,none⟩) x105.length x105.length),(1,.slice (some ⟨cj,0,none⟩) x105.length x105.length)]) (z:=B4) (cs:=eu) Z (wAJ Z (wAJ Z wAl)) ZD wDA Z Z) (ZA (j:=1) (vs:=eu) Z Z Z Z tT Z Z Z Z zZ (zB Z) Z Z Z ?_)
 intro mw tU
 have tV:sW w U aR [gW,.blk eZ 26 eu,cY,B7,B6,.blk ae 26 B5,B2,B1,B3,B0] mw:=tU
 refine zo ?_
 have jW:=nA cV
 simp only [nJ] at jW
 obtain ⟨sX,sY⟩:=jW
 subst sX
 subst sY
 exact zH ⟨rfl,⟨aR,eZ,(some ⟨dH,0,none⟩),x105.length,(some ⟨cj,0,none⟩),x105.length,rfl,rfl,rfl,rfl,(ze _),(tV.pick [4,6,7,5,9,3,1,0,2] _ (by decide) rfl)⟩⟩
 refine ZL (cs:=B4) Z Z Z Z Z ZD Z d7 ?_
 intro yt bR j5
 refine OKS.both ?_ ?_
 refine ZW (enc:=KL.encI) (z:=(0:Int)) (v:=jV 0) Z Z Z Z Z (wBv zA) wDz Z Z Z Z Z Z bI j5 ?_
 intro my dI tW
 let ey:Res:=.row (some ⟨dI,0,none⟩) x105.length 3 1 (hH KL.encI x105)
 have tX:sW w U aR [ey,.blk bR 26 B4,B7,B6,.blk ae 26 B5,B2,B1,B3,B0] my:=tW
 refine ZW (enc:=KL.encI) (z:=(0:Int)) (v:=jV 0) Z Z Z Z Z (wBv zA) wDz Z Z Z Z Z Z bI tX ?_
 intro mz dJ tY
 let gX:Res:=.row (some ⟨dJ,0,none⟩) x105.length 3 1 (hH KL.encI x105)
 have tZ:sW w U aR [gX,ey,.blk bR 26 B4,B7,B6,.blk ae 26 B5,B2,B1,B3,B0] mz:=tY
 let ez:List Value:=[.slice (some ⟨dI,0,none⟩) x105.length x105.length,.slice (some ⟨dJ,0,none⟩) x105.length x105.length,.slice none 0 0]
 refine oR Z (ZH (pv:=[(0,.slice (some ⟨dI,0,none⟩) x105.length x105.length),(1,.slice (some ⟨dJ,0,none⟩) x105.length x105.length)]) (z:=B4) (cs:=ez) Z (wAJ Z (wAJ Z wAl)) ZD wDA Z Z) (ZA (j:=2) (vs:=ez) Z Z Z Z tZ Z Z Z Z zZ (zB Z) Z Z Z ?_)
 intro mB t7
 have t8:sW w U aR [gX,ey,.blk bR 26 ez,B7,B6,.blk ae 26 B5,B2,B1,B3,B0] mB:=t7
 refine zo ?_
 have jX:=nA cV
 simp only [nJ] at jX
 obtain ⟨sZ,s5⟩:=jX
 subst sZ
 subst s5
 exact zH ⟨rfl,⟨aR,bR,(some ⟨dI,0,none⟩),x105.length,(some ⟨dJ,0,none⟩),x105.length,rfl,rfl,rfl,rfl,(ze _),(t8.pick [4,6,7,5,9,3,2,1,0] _ (by decide) rfl)⟩⟩
 refine ZW (enc:=KL.encI) (z:=(0:Int)) (v:=jV 0) Z Z Z Z Z (wBv zA) wDz Z Z Z Z Z Z bI j5 ?_
 intro mC dK t9
 let eA:Res:=.row (some ⟨dK,0,none⟩) x105.length 3 1 (hH KL.encI x105)
 have ua:sW w U aR [eA,.blk bR 26 B4,B7,B6,.blk ae 26 B5,B2,B1,B3,B0] mC:=t9
 refine ZW (enc:=KL.encI) (z:=(0:Int)) (v:=jV 0) Z Z Z Z Z (wBv zA) wDz Z Z Z Z Z Z bI ua ?_
 intro mD dL uc
 let gZ:Res:=.row (some ⟨dL,0,none⟩) x105.length 3 1 (hH KL.encI x105)
 have ud:sW w U aR [gZ,eA,.blk bR 26 B4,B7,B6,.blk ae 26 B5,B2,B1,B3,B0] mD:=uc
 let eC:List Value:=[.slice (some ⟨dL,0,none⟩) x105.length x105.length,.slice (some ⟨dK,0,none⟩) x105.length x105.length,.slice none 0 0]
 refine oR Z (ZH (pv:=[(0,.slice (some ⟨dL,0,none⟩) x105.length x105.length),(1,.slice (some ⟨dK,0,none⟩) x105.length x105.length)]) (z:=B4) (cs:=eC) Z (wAJ Z (wAJ Z wAl)) ZD wDA Z Z) (ZA (j:=2) (vs:=eC) Z Z Z Z ud Z Z Z Z zZ (zB Z) Z Z Z ?_)
 intro mE ue
 have uf:sW w U aR [gZ,eA,.blk bR 26 eC,B7,B6,.blk ae 26 B5,B2,B1,B3,B0] mE:=ue
 refine zo ?_
 have jY:=nA cV
 simp only [nJ] at jY
 obtain ⟨s7,s8⟩:=jY
 subst s7
 subst s8
 exact zH ⟨rfl,⟨aR,bR,(some ⟨dL,0,none⟩),x105.length,(some ⟨dK,0,none⟩),x105.length,rfl,rfl,rfl,rfl,(ze _),(uf.pick [4,6,7,5,9,3,2,0,1] _ (by decide) rfl)⟩⟩
 rintro AT yu ⟨ib,aT,az,aQ,au,av,pi,pj,iW,pk,lH,ug⟩
 refine zF (sR fL3 Z (oM Z iW (oR Z (ZC Z Z zA) (oM Z Z (eN (zV ?_))))))
 have q:=bnd lA
 obtain ⟨⟨be,bf⟩,vx,lp⟩:=q
 try dsimp only at lp
 have q:=wBf vx
 obtain ⟨gj,vy⟩:=q
 replace gj:=zG gj
 refine CK.forN' (fun am (aY,aU) σ_ w_=>∃ (U_:PHeap),σ_ 50=jV (↑am:Int)/\σ_ 5=.pointer (some ⟨ae,0,none⟩)/\σ_ 7=jV (↑aa.Shots.length:Int)/\σ_ 8=.slice bg x69.length bk/\σ_ 9=.pointer (some ⟨aT,0,none⟩)/\σ_ 48=.slice bg x69.length bk/\σ_ 49=jV (↑x69.length:Int)/\PHeap.Le ib U_/\sW w U U_ [B6,B2,B1,.blk ae 26 B5,B0,.row az aQ 3 1 (hH KL.encI aY),.row au av 3 1 (hH KL.encI aU),.blk aT 26 [.slice az aY.length aQ,.slice au aU.length av,.slice none 0 0],B7] w_/\aY.length=gz.length/\aU.length=gA.length) vy ?_ ?_ ?_
 exact ⟨ib,rfl,pi,pj,iW,pk,rfl,rfl,(ze _),(ug.pick [0,1,2,3,4,7,8,6,5] _ (by decide) rfl),rfl,rfl⟩
 rintro am ⟨aY,aU⟩ AD AU ip gc ⟨bG,dg,dO,iX,iY,dP,ft,fu,lI,fV,jr,jt⟩ lE
 try dsimp only at lE
 have iL:Hid ((↑am:Int) < (↑x69.length:Int)):=zG (wBe gc)
 replace gc:=zG gc
 have lh:Hid (w64 ((↑am:Int) + 1)=(↑(am + 1):Int)):=zG (by have h1:=gj.out;have h2:=iL.out;rw [wAd] <;> omega)
 refine sR fL1 Z (oR Z (zX Z dg fu) (eN (zF (cT Z iL (kN (zF (zV (sR fL5 Z (oM Z dg (bnK lE fun _ fM wO=>?_))))))))))
 obtain ⟨yG,jK⟩:=fV.rowSome (j:=8) rfl (by rw [wAF (f:=KL.encI) (sz:=1) (fun _=>rfl) x69];have hz:=wAI fM;omega)
 refine oR Z (ZG Z ft jK dg zA zC (wAI fM)) ?_
 have vG:=wBO (xs:=x69) (wAI fM)
 refine zm rfl rfl rfl rfl (fV.ldR (j:=8) rfl jK rfl rfl zJ (wAZ (sz:=1) (fun _=>rfl) _ _ 0 _ vG (by first | omega | rfl | simp) rfl)) rfl (OKS.ra rfl rfl rfl rfl rfl rfl (OKS.ra rfl rfl rfl rfl rfl rfl (eN (bnK wO fun _ fN wP=>bnK wP fun _ fO wQ=>bnK wQ fun _ cC wR=>bnK wR fun _ bJ lq=>ZJ ZK [3,1,3,3,2,3,3,1,3,3,1,3,1,3,3,1,3,0,3,0] (wHT (wQH (.fx 4 (.fx 17 gBb .stop) (.fx 17 (.fx 4 gBb .stop) .stop)))) (by kernel_rfl) ?_))))
 have bq:=fV.drew
 generalize hw_W362:({ ip with drawn:=ip.drawn + 1 }:World)=yv at bq ⊢
 refine oR Z (zI Z dP zE Z zY) (oL Z (bq.ldB (j:=7) Z Z Z zl (v:=.slice az aY.length aQ) Z) (oM Z Z (oR Z (zI Z dP zE Z zY) (oM Z Z (oR Z (zI Z dO zE Z zY) (oL Z (bq.ldB (j:=3) Z Z Z zl (v:=.slice bO aa.Shots.length bS) Z) (oM Z Z ?_)))))))
 obtain ⟨yH,jL⟩:=bq.rowSome (j:=1) rfl (by rw [wAF (f:=KL.encI) (sz:=1) (fun _=>rfl) aa.Shots];have hz:=wAI fN;omega)
 refine oR Z (ZG Z Z jL Z zA zC (wAI fN)) ?_
 have vH:=wBO (xs:=aa.Shots) (wAI fN)
 refine zm rfl rfl rfl rfl (bq.ldR (j:=1) rfl jL rfl rfl zJ (wAZ (sz:=1) (fun _=>rfl) _ _ 0 _ vH (by first | omega | rfl | simp) rfl)) rfl (zL rfl rfl rfl rfl (fun _=>zI rfl dO zE rfl zY) (zm rfl rfl rfl rfl (bq.ldB (j:=3) rfl rfl rfl zl (v:=.slice b5 aa.Down.length cq) rfl) rfl (zh rfl rfl rfl rfl rfl rfl ?_)))
 obtain ⟨yI,jM⟩:=bq.rowSome (j:=2) rfl (by rw [wAF (f:=KL.encI) (sz:=1) (fun _=>rfl) aa.Down];have hz:=wAI fO;omega)
 refine oR Z (ZG Z Z jM Z zA zC (wAI fO)) ?_
 have vJ:=wBO (xs:=aa.Down) (wAI fO)
 refine zm rfl rfl rfl rfl (bq.ldR (j:=2) rfl jM rfl rfl zJ (wAZ (sz:=1) (fun _=>rfl) _ _ 0 _ vJ (by first | omega | rfl | simp) rfl)) rfl ?_
 obtain ⟨yJ,fT⟩:=bq.rowSome (j:=5) rfl (by rw [wAF (f:=KL.encI) (sz:=1) (fun _=>rfl) aY];have hz:=wAI cC;omega)
 refine oR Z (ZF Z Z fT Z zA zC (wAq cC) (wAr cC)) (OKS.both ?_ ?_)
 refine OKS.mx2 Z Z Z Z (bq.ldB (j:=7) Z Z Z zl (v:=.slice au aU.length av) Z) ?_
 have vK:=wBO (xs:=aY) (wAI cC)
 refine Zh (j:=5) (vs:=[jV (gd aa.Shots am)]) (cs':=hH KL.encI (nE aY (gd x69 am).toNat (gd aa.Shots am))) rfl rfl rfl rfl bq rfl fT rfl rfl rfl zC (by rw [wAF (f:=KL.encI) (sz:=1) (fun _=>rfl)];have hz:=wAI cC;show _ + 1 <= _;first | omega | (simp only [nH];omega) | (simp only [nG,nB,nD];omega)) rfl (wBr (sz:=1) (fo:=0) (fun _=>rfl) _ _ _ _ vK (by first | omega | (simp only [nH];omega) | (simp only [nG,nB,nD];omega)) (zB rfl) rfl) rfl ?_
 intro iq uh
 let cL:Res:=.row az aQ 3 1 (hH KL.encI (nE aY (gd x69 am).toNat (gd aa.Shots am)))
 let eD:Res:=.row au av 3 1 (hH KL.encI aU)
 have ui:sW w U bG [B6,B2,B1,.blk ae 26 B5,B0,cL,eD,.blk aT 26 [.slice az aY.length aQ,.slice au aU.length av,.slice none 0 0],B7] iq:=uh
 let dy:Res:=.blk aT 26 [.slice az ((nE aY (gd x69 am).toNat (gd aa.Shots am)).length) aQ,.slice au aU.length av,.slice none 0 0]
 have j6:sW w U bG [B6,B2,B1,.blk ae 26 B5,B0,cL,eD,dy,B7] iq:=by simpa only [B0,B1,B2,cL,eD,dy,B5,B6,B7,nI] using ui
 obtain ⟨yK,jN⟩:=j6.rowSome (j:=6) rfl (by rw [wAF (f:=KL.encI) (sz:=1) (fun _=>rfl) aU];have hz:=wAI bJ;omega)
 refine oR Z (ZF Z Z jN Z zA zC (wAq bJ) (wAr bJ)) ?_
 have vL:=wBO (xs:=aU) (wAI bJ)
 refine Zh (j:=6) (vs:=[jV (gd aa.Down am)]) (cs':=hH KL.encI (nE aU (gd x69 am).toNat (gd aa.Down am))) rfl rfl rfl rfl j6 rfl jN rfl rfl rfl zC (by rw [wAF (f:=KL.encI) (sz:=1) (fun _=>rfl)];have hz:=wAI bJ;show _ + 1 <= _;first | omega | (simp only [nH];omega) | (simp only [nG,nB,nD];omega)) rfl (wBr (sz:=1) (fo:=0) (fun _=>rfl) _ _ _ _ vL (by first | omega | (simp only [nH];omega) | (simp only [nG,nB,nD];omega)) (zB rfl) rfl) rfl ?_
 intro ir uj
 let eE:Res:=.row au av 3 1 (hH KL.encI (nE aU (gd x69 am).toNat (gd aa.Down am)))
 have uk:sW w U bG [B6,B2,B1,.blk ae 26 B5,B0,cL,eE,dy,B7] ir:=uj
 have ul:sW w U bG [B6,B2,B1,.blk ae 26 B5,B0,cL,eE,.blk aT 26 [.slice az ((nE aY (gd x69 am).toNat (gd aa.Shots am)).length) aQ,.slice au ((nE aU (gd x69 am).toNat (gd aa.Down am)).length) av,.slice none 0 0],B7] ir:=by simpa only [B0,B1,B2,cL,dy,eE,B5,B6,B7,nI] using uk
 refine zo (zf (zH (rR fL2 Z (oR Z (zu (zW Z dg Z) (congrArg (jV) lh.out)) (oM Z Z (zo ?_))))))
 cases lq
 exact zH ⟨Z,⟨bG,Z,dO,iX,iY,dP,ft,fu,lI,ul,(nI.trans jr),(nI.trans jt)⟩⟩
 have vM:=wBO (xs:=aY) (wAI cC)
 refine Zh (j:=5) (vs:=[jV (gd aa.Shots am)]) (cs':=hH KL.encI (nE aY (gd x69 am).toNat (gd aa.Shots am))) rfl rfl rfl rfl bq rfl fT rfl rfl rfl zC (by rw [wAF (f:=KL.encI) (sz:=1) (fun _=>rfl)];have hz:=wAI cC;show _ + 1 <= _;first | omega | (simp only [nH];omega) | (simp only [nG,nB,nD];omega)) rfl (wBr (sz:=1) (fo:=0) (fun _=>rfl) _ _ _ _ vM (by first | omega | (simp only [nH];omega) | (simp only [nG,nB,nD];omega)) (zB rfl) rfl) rfl ?_
 intro it um
 let cM:Res:=.row az aQ 3 1 (hH KL.encI (nE aY (gd x69 am).toNat (gd aa.Shots am)))
 let eF:Res:=.row au av 3 1 (hH KL.encI aU)
 have uo:sW w U bG [B6,B2,B1,.blk ae 26 B5,B0,cM,eF,.blk aT 26 [.slice az aY.length aQ,.slice au aU.length av,.slice none 0 0],B7] it:=um
 let dz:Res:=.blk aT 26 [.slice az ((nE aY (gd x69 am).toNat (gd aa.Shots am)).length) aQ,.slice au aU.length av,.slice none 0 0]
 have fW:sW w U bG [B6,B2,B1,.blk ae 26 B5,B0,cM,eF,dz,B7] it:=by simpa only [B0,B1,B2,cM,eF,dz,B5,B6,B7,nI] using uo
 refine OKS.mx2 Z Z Z Z (fW.ldB (j:=7) Z Z Z zl (v:=.slice au aU.length av) Z) ?_
 obtain ⟨yL,jO⟩:=fW.rowSome (j:=6) rfl (by rw [wAF (f:=KL.encI) (sz:=1) (fun _=>rfl) aU];have hz:=wAI bJ;omega)
 refine oR Z (ZF Z Z jO Z zA zC (wAq bJ) (wAr bJ)) ?_
 have vN:=wBO (xs:=aU) (wAI bJ)
 refine Zh (j:=6) (vs:=[jV (gd aa.Down am)]) (cs':=hH KL.encI (nE aU (gd x69 am).toNat (gd aa.Down am))) rfl rfl rfl rfl fW rfl jO rfl rfl rfl zC (by rw [wAF (f:=KL.encI) (sz:=1) (fun _=>rfl)];have hz:=wAI bJ;show _ + 1 <= _;first | omega | (simp only [nH];omega) | (simp only [nG,nB,nD];omega)) rfl (wBr (sz:=1) (fo:=0) (fun _=>rfl) _ _ _ _ vN (by first | omega | (simp only [nH];omega) | (simp only [nG,nB,nD];omega)) (zB rfl) rfl) rfl ?_
 intro iu up
 let eG:Res:=.row au av 3 1 (hH KL.encI (nE aU (gd x69 am).toNat (gd aa.Down am)))
 have uq:sW w U bG [B6,B2,B1,.blk ae 26 B5,B0,cM,eG,dz,B7] iu:=up
 have ur:sW w U bG [B6,B2,B1,.blk ae 26 B5,B0,cM,eG,.blk aT 26 [.slice az ((nE aY (gd x69 am).toNat (gd aa.Shots am)).length) aQ,.slice au ((nE aU (gd x69 am).toNat (gd aa.Down am)).length) av,.slice none 0 0],B7] iu:=by simpa only [B0,B1,B2,cM,dz,eG,B5,B6,B7,nI] using uq
 refine zo (zf (zH (rR fL2 Z (oR Z (zu (zW Z dg Z) (congrArg (jV) lh.out)) (oM Z Z (zo ?_))))))
 cases lq
 exact zH ⟨Z,⟨bG,Z,dO,iX,iY,dP,ft,fu,lI,ur,(nI.trans jr),(nI.trans jt)⟩⟩
 rintro AW mF ⟨yh,pY,pn,iZ,po,pp,y4,pq,lJ,ut,y6,y7⟩
 have mY:Hid (¬ ((↑(((↑x69.length:Int):Int) - 0).toNat:Int) < (↑x69.length:Int))):=zG (wBD)
 refine sR fL1 Z (oR Z (zX Z pY pq) (eN (zF (cF Z mY (ZN (zg (zg (ZB (zH (zF (sR fL2 Z (oM Z iZ (oM Z Z (eN (zV ?_)))))))))))))))
 have q:=ut.freezeR (k:=8) (n:=x69.length) rfl (wAF (f:=KL.encI) (sz:=1) (fun _=>rfl) x69) (by decide)
 obtain ⟨eP,lK,gx,uu⟩:=q
 let bh:Res:=.row au av 3 1 (hH KL.encI bf)
 let bp:Res:=.row az aQ 3 1 (hH KL.encI be)
 have uv:sW w U eP [B6,B2,B1,.blk ae 26 B5,B0,bp,bh,.blk aT 26 [.slice az be.length aQ,.slice au bf.length av,.slice none 0 0]] mF:=uu
 refine bnK lp fun bN vz wS=>?_
 have q:=wBf vz
 obtain ⟨gm,vA⟩:=q
 replace gm:=zG gm
 refine CK.forN' (fun bn gy σ_ w_=>∃ (U_:PHeap) (dw:Option Addr) (dM:Nat),σ_ 75=jV (↑bn:Int)/\σ_ 5=.pointer (some ⟨ae,0,none⟩)/\σ_ 7=jV (↑aa.Shots.length:Int)/\σ_ 8=.slice bg x69.length bk/\σ_ 9=.pointer (some ⟨aT,0,none⟩)/\σ_ 74=jV (↑aa.Shots.length:Int)/\PHeap.Le eP U_/\sW w U U_ [B6,B2,B1,.blk ae 26 B5,B0,bp,bh,.row dw dM 35 2 (hH wAB gy),.blk aT 26 [.slice az be.length aQ,.slice au bf.length av,.slice dw gy.length dM]] w_) vA ?_ ?_ ?_
 have ux:=uv.nilrow 35 2
 exact ⟨eP,none,0,rfl,pn,iZ,po,pp,rfl,(ze _),(ux.pick [1,2,3,4,5,6,7,0,8] _ (by decide) rfl)⟩
 rintro bn gy AE AX yy ge ⟨ie,dw,dM,fG,pt,i3,pu,py,i5,gC,uy⟩ xl
 have iN:Hid ((↑bn:Int) < (↑aa.Shots.length:Int)):=zG (wBe ge)
 replace ge:=zG ge
 have vR:Hid (w64 ((↑bn:Int) + 1)=(↑(bn + 1):Int)):=zG (by have h1:=gm.out;have h2:=iN.out;rw [wAd] <;> omega)
 refine sR fL1 Z (oR Z (zX Z fG i5) (eN (zF (cT Z iN (kN (zF (zV (sR fL2 Z (oM Z fG (oA Z Z (eN (sR fL2 Z (oM Z i3 (oM Z Z (eN (zV (bnK xl fun AL vB wU=>?_)))))))))))))))))
 have q:=wBf vB
 obtain ⟨gp,vC⟩:=q
 replace gp:=zG gp
 refine CK.forN' (fun bz cG σ_ w_=>∃ (U_:PHeap) (cd:Option Addr) (cu:Nat),σ_ 79=jV (↑bz:Int)/\σ_ 5=.pointer (some ⟨ae,0,none⟩)/\σ_ 7=jV (↑aa.Shots.length:Int)/\σ_ 8=.slice bg x69.length bk/\σ_ 9=.pointer (some ⟨aT,0,none⟩)/\σ_ 12=jV (↑bn:Int)/\σ_ 74=jV (↑aa.Shots.length:Int)/\σ_ 75=jV (↑bn:Int)/\σ_ 78=jV (↑aa.Shots.length:Int)/\PHeap.Le ie U_/\sW w U U_ [B6,B2,B1,.blk ae 26 B5,B0,bp,bh,.row cd cu 35 2 (hH wAB cG),.blk aT 26 [.slice az be.length aQ,.slice au bf.length av,.slice cd cG.length cu]] w_) vC ?_ ?_ ?_
 exact ⟨ie,dw,dM,Z,pt,i3,pu,py,Z,i5,fG,Z,(ze _),uy⟩
 rintro bz cG AG AY iw gf ⟨lZ,cd,cu,dW,fw,i6,dQ,dR,dS,i7,i8,fy,d9,uA⟩ xm
 have iO:Hid ((↑bz:Int) < (↑aa.Shots.length:Int)):=zG (wBe gf)
 replace gf:=zG gf
 have li:Hid (w64 ((↑bz:Int) + 1)=(↑(bz + 1):Int)):=zG (by have h1:=gp.out;have h2:=iO.out;rw [wAd] <;> omega)
 refine sR fL1 rfl (zL rfl rfl rfl rfl (fun _=>zX rfl dW fy) (eN (zF (cT Z iO (kN (zF (zV (sR fL2 rfl (zh rfl rfl rfl rfl rfl dW (OKS.ra rfl rfl rfl rfl rfl rfl (eN (zF (ZJ ZK [3,1,3,3,2,3,3,2,3,2] (wHT (.fl 5 (.fl 6 (.fx 4 (.fx 7 (.fl 8 (.fx 9 .nil .stop)) .stop) .stop)))) (by kernel_rfl) ?_)))))))))))))
 have fY:=uA.drew
 generalize hw_W510:({ iw with drawn:=iw.drawn + 1 }:World)=mG at fY ⊢
 refine oR Z (zI Z fw zE Z ZO) (oL Z (fY.ldB (j:=3) Z Z Z ZY (v:=.slice b9 aa.Across.length ct) Z) (oM Z dQ (oM Z dS (oM Z dQ (oM Z Z ?_)))))
 have qo:=gx.le gC
 have jv:=qo.le d9
 refine bnK xm fun gL qp wV=>zM 0 Z Z Z Z (zK Z Z Try.call11 (zD Z (zD Z zS)) Z) fY (fun hs=>wCP x69 bg bk (↑bn:Int) mG lZ hs jv qp) (.inr Z) ?_
 rintro ig xW Ak iy eb uC ⟨rfl,rfl⟩
 let cZ:Res:=.blk aT 26 [.slice az be.length aQ,.slice au bf.length av,.slice cd cG.length cu]
 let dA:Res:=.row cd cu 35 2 (hH wAB cG)
 have uD:sW w U ig [B6,B2,B1,.blk ae 26 B5,B0,bp,bh,dA,cZ] iy:=uC
 have qr:=jv.le eb
 refine bnK wV fun gM qt wW=>zM 0 Z Z Z Z (zK Z Z Try.call11 (zD Z (zD Z zS)) Z) uD (fun hs=>wCP x69 bg bk (↑bz:Int) iy ig hs qr qt) (.inr Z) ?_
 rintro ii xX Al iz gD uE ⟨rfl,rfl⟩
 have uF:sW w U ii [B6,B2,B1,.blk ae 26 B5,B0,bp,bh,dA,cZ] iz:=uE
 let eH:List Value:=[jV 0,jV 0]
 refine oR Z (ZH (pv:=[(0,jV gL),(1,jV gM)]) (z:=eH) (cs:=[jV gL,jV gM]) Z (wAJ Z (wAJ Z wAl)) ZM wCd Z Z) ?_
 have qv:=ju.le lM
 have qw:=qv.le lN
 have qx:=qw.le lH
 have qy:=qx.le lJ
 have qz:=qy.le lK
 have qA:=qz.le gC
 have qB:=qA.le d9
 have qC:=qB.le eb
 have qD:=qC.le gD
 refine bnK wW fun Az qE wX=>zM 0 Z Z Z Z (zK Z Z Try.call10 (zD Z (zD Z zS)) Z) uF (fun hs=>wAU aa.Across b9 ct (⟨gL,gM⟩:wAA) iz ii hs qD qE) (.inr Z) ?_
 rintro cO xY Am mH lL uG ⟨rfl,rfl⟩
 have fZ:sW w U cO [B6,B2,B1,.blk ae 26 B5,B0,bp,bh,dA,cZ] mH:=uG
 refine eN (ifc wX ?_ ?_)
 intro fg wY
 refine zt (congrArg nK fg.out) (rR (wGL (.fx 5 (.fx 6 (.fl 7 (.fx 8 .nil .stop)) .stop) .stop)) Z (oR Z (zI Z dR zE Z ZO) (oL Z (fZ.ldB (j:=8) Z Z Z ZY (v:=.slice cd cG.length cu) Z) (oM Z dS (oM Z Z ?_)))))
 let eI:List Value:=[jV (↑bn:Int),jV (↑bz:Int)]
 refine oR Z (ZH (pv:=[(0,jV (↑bn:Int)),(1,jV (↑bz:Int))]) (z:=eH) (cs:=eI) Z (wAJ Z (wAJ Z wAl)) ZM wCd Z Z) (Za (pv:=[(0,.agg eI.toArray)]) (zs:=eH) (cs:=eI) Z Z Z Z Z (wAJ Z wAl) zp zw ZM Z Z Z Z Z fZ ?_)
 intro mI mS uH
 let eJ:Res:=.row (some ⟨mS,0,none⟩) 1 35 2 (hH wAB [(⟨(↑bn:Int),(↑bz:Int)⟩:wAA)])
 have j8:sW w U cO [eJ,B6,B2,B1,.blk ae 26 B5,B0,bp,bh,dA,cZ] mI:=uH
 refine bnK wY fun eh qG w5=>OKS.append (j:=8) (enc:=wAB) (xs:=cG) (ys:=[(⟨(↑bn:Int),(↑bz:Int)⟩:wAA)]) (zs:=eh) rfl rfl rfl rfl rfl Try.underlying24 wLi rfl rfl rfl rfl rfl rfl j8 rfl rfl rfl (j8.srcR (j:=0) rfl (by decide) (wAF (f:=wAB) (sz:=2) (fun _=>rfl) [(⟨(↑bn:Int),(↑bz:Int)⟩:wAA)])) (fun _=>rfl) (fun _=>rfl) qG rfl ?_
 intro dx dN mJ uI
 let g7:Res:=.row dx dN 35 2 (hH wAB eh)
 have uJ:sW w U cO [eJ,B6,B2,B1,.blk ae 26 B5,B0,bp,bh,g7,cZ] mJ:=uI
 refine oR Z (zI Z dR zE Z ZO) (ZA (j:=9) (vs:=[.slice dx eh.length dN]) Z Z Z Z uJ Z Z Z Z ZO (zB Z) Z Z Z ?_)
 intro mK uK
 have uL:sW w U cO [eJ,B6,B2,B1,.blk ae 26 B5,B0,bp,bh,g7,.blk aT 26 [.slice az be.length aQ,.slice au bf.length av,.slice dx eh.length dN]] mK:=uK
 refine zo (zf (zH (rR fL2 Z (oR Z (zu (zW Z dW Z) (congrArg (jV) li.out)) (oM Z Z (zo ?_))))))
 cases w5
 exact zH ⟨rfl,⟨cO,dx,dN,rfl,fw,i6,dQ,dR,dS,i7,i8,fy,(((d9.trans eb).trans gD).trans lL),(uL.pick [1,2,3,4,5,6,7,8,9] _ (by decide) rfl)⟩⟩
 intro fg w6
 refine zn (congrArg nK (Bool.eq_false_iff.2 fg.out)) (ZR (zf (zH (rR fL2 Z (oR Z (zu (zW Z dW Z) (congrArg (jV) li.out)) (oM Z Z (zo ?_)))))))
 cases w6
 exact zH ⟨Z,⟨cO,cd,cu,Z,fw,i6,dQ,dR,dS,i7,i8,fy,(((d9.trans eb).trans gD).trans lL),fZ⟩⟩
 rintro AZ yz ⟨l3,lV,mZ,pZ,pz,pB,pC,pD,y5,pE,pF,pG,xz,uM⟩
 have m4:Hid (¬ ((↑(((↑aa.Shots.length:Int):Int) - 0).toNat:Int) < (↑aa.Shots.length:Int))):=zG (wBD)
 refine sR fL1 Z (oR Z (zX Z pZ pG) (eN (zF (cF Z m4 (ZN (zg (zg (ZB (zf (zH (rR fL2 Z (oR Z (zu (zW Z pF Z) (congrArg (jV) vR.out)) (oM Z Z (zo ?_))))))))))))))
 cases wU
 exact zH ⟨Z,⟨l3,lV,mZ,Z,pz,pB,pC,pD,pE,(gC.trans xz),uM⟩⟩
 rintro A4 eU ⟨yi,cf,cw,p6,fz,pH,pI,fA,pJ,gE,j9⟩
 have m5:Hid (¬ ((↑(((↑aa.Shots.length:Int):Int) - 0).toNat:Int) < (↑aa.Shots.length:Int))):=zG (wBD)
 refine sR fL1 Z (oR Z (zX Z p6 pJ) (eN (zF (cF Z m5 (ZN (zg (zg (ZB (zH (sR (.fl 0 (.fx 1 (wIq (.nil)) .stop)) Z (oL Z (j9.ldBA (j:=3) Z Z fz ZU zZ (vs:=B5) Z Z) ?_)))))))))))
 have q:=j9.freezeR (k:=1) (n:=aa.Shots.length) rfl (wAF (f:=KL.encI) (sz:=1) (fun _=>rfl) aa.Shots) (by decide)
 obtain ⟨l4,gF,xi,uO⟩:=q
 let aS:Res:=.blk aT 26 [.slice az be.length aQ,.slice au bf.length av,.slice cf bN.length cw]
 let da:Res:=.row cf cw 35 2 (hH wAB bN)
 have uP:sW w U l4 [B6,B1,.blk ae 26 B5,B0,bp,bh,da,aS] eU:=uO
 have q:=uP.freezeR (k:=1) (n:=aa.Down.length) rfl (wAF (f:=KL.encI) (sz:=1) (fun _=>rfl) aa.Down) (by decide)
 obtain ⟨ik,ec,lB,uQ⟩:=q
 have uR:sW w U ik [B6,.blk ae 26 B5,B0,bp,bh,da,aS] eU:=uQ
 have jw:=xi.le ec
 have qH:=ju.le lM
 have qI:=qH.le lN
 have qJ:=qI.le lH
 have qK:=qJ.le lJ
 have qL:=qK.le lK
 have qM:=qL.le gE
 have qN:=qM.le gF
 have jx:=qN.le ec
 have q:=bnd wS
 obtain ⟨⟨bD,lO⟩,qO,ls⟩:=q
 try dsimp only at ls
 refine zM 0 Z Z Z Z (zK Z Z Try.call12 (zD Z zS) Z) uR (fun hs=>wDr aa bO bS b5 cq b9 ct eU ik hs jw lB jx qO) (.inr Z) ?_
 rintro l5 x4 Ap df dp uS ⟨cJ,cP,rfl,rfl⟩
 let aZ:Res:=.row cJ cP 44 2 (hH wAQ bD)
 have k9:sW w U l5 [aZ,B6,.blk ae 26 B5,B0,bp,bh,da,aS] df:=uS
 refine oM Z Z (oR Z (zx Z Z (v:=.slice cJ bD.length cP) Z) (oR Z (zx Z Z (v:=jV lO) Z) (oA Z Z (oA Z Z (eN (sR (.fl 0 (.fx 1 (wIq (.nil)) .stop)) Z ?_))))))
 let eK:List Value:=[.slice az be.length aQ,.slice au bf.length av,.slice cf bN.length cw]
 refine oL Z (k9.ldBA (j:=7) Z Z fA ZU zZ (vs:=eK) Z Z) ?_
 have q:=k9.freezeR (k:=4) (n:=be.length) rfl (wAF (f:=KL.encI) (sz:=1) (fun _=>rfl) be) (by decide)
 obtain ⟨l6,dq,xj,uT⟩:=q
 have uU:sW w U l6 [aZ,B6,.blk ae 26 B5,B0,bh,da,aS] df:=uT
 have q:=uU.freezeR (k:=4) (n:=bf.length) rfl (wAF (f:=KL.encI) (sz:=1) (fun _=>rfl) bf) (by decide)
 obtain ⟨l7,cX,xk,uV⟩:=q
 have uW:sW w U l7 [aZ,B6,.blk ae 26 B5,B0,da,aS] df:=uV
 have q:=uW.freezeR (k:=4) (n:=bN.length) rfl (wAF (f:=wAB) (sz:=2) (fun _=>rfl) bN) (by decide)
 obtain ⟨il,cH,lC,uX⟩:=q
 have uY:sW w U il [aZ,B6,.blk ae 26 B5,B0,aS] df:=uX
 have qP:=xj.le cX
 have jy:=qP.le cH
 have jz:=xk.le cH
 have q:=bnd ls
 obtain ⟨⟨bE,lP⟩,qR,lu⟩:=q
 try dsimp only at lu
 refine zM 0 Z Z Z Z (zK Z Z Try.call12 (zD Z zS) Z) uY (fun hs=>wDr (⟨be,bf,bN⟩:wAC) az aQ au av cf cw df il hs jy jz lC qR) (.inr Z) ?_
 rintro im ya Aq iB bX u0 ⟨cK,cQ,rfl,rfl⟩
 let bi:Res:=.row cK cQ 44 2 (hH wAQ bE)
 have lc:sW w U im [bi,aZ,B6,.blk ae 26 B5,B0,aS] iB:=u0
 refine oM Z Z (oR Z (zx Z Z (v:=.slice cK bE.length cQ) Z) (oR Z (zx Z Z (v:=jV lP) Z) (oA Z Z (oA Z Z (eN (sR (.fl 0 (.fx 1 (wIq (.nil)) .stop)) Z (oL Z (lc.ldBA (j:=3) Z Z fz ZU zZ (vs:=B5) Z Z) ?_)))))))
 have qS:=jw.le dp
 have qT:=qS.le dq
 have qU:=qT.le cX
 have qV:=qU.le cH
 have jA:=qV.le bX
 have qW:=lB.le dp
 have qX:=qW.le dq
 have qY:=qX.le cX
 have qZ:=qY.le cH
 have jB:=qZ.le bX
 have rc:=jx.le dp
 have re:=rc.le dq
 have ri:=re.le cX
 have rj:=ri.le cH
 have jC:=rj.le bX
 have q:=bnd lu
 obtain ⟨⟨aV,lQ⟩,rk,lv⟩:=q
 try dsimp only at lv
 refine zM 0 Z Z Z Z (zK Z Z Try.call13 (zD Z zS) Z) lc (fun hs=>wDc aa bO bS b5 cq b9 ct iB im hs jA jB jC rk) (.inr Z) ?_
 rintro io yb Ar iD bY u4 ⟨cg,cx,rfl,rfl⟩
 let ba:Res:=.row cg cx 35 2 (hH wAB aV)
 have lf:sW w U io [ba,bi,aZ,B6,.blk ae 26 B5,B0,aS] iD:=u4
 refine oM Z Z (oR Z (zx Z Z (v:=.slice cg aV.length cx) Z) (oR Z (zx Z Z (v:=jV lQ) Z) (oA Z Z (oA Z Z (eN (sR (.fl 0 (.fx 1 (wIq (.nil)) .stop)) Z (oL Z (lf.ldBA (j:=6) Z Z fA ZU zZ (vs:=eK) Z Z) ?_)))))))
 have ro:=jy.le bX
 have fP:=ro.le bY
 have rp:=jz.le bX
 have fQ:=rp.le bY
 have rq:=lC.le bX
 have fR:=rq.le bY
 have q:=bnd lv
 obtain ⟨⟨bK,lR⟩,rt,lx⟩:=q
 try dsimp only at lx
 refine zM 0 Z Z Z Z (zK Z Z Try.call13 (zD Z zS) Z) lf (fun hs=>wDc (⟨be,bf,bN⟩:wAC) az aQ au av cf cw iD io hs fP fQ fR rt) (.inr Z) ?_
 rintro bH yc As mL bA u5 ⟨bP,bT,rfl,rfl⟩
 let bF:Res:=.row bP bT 35 2 (hH wAB bK)
 have bU:sW w U bH [bF,ba,bi,aZ,B6,.blk ae 26 B5,B0,aS] mL:=u5
 refine oM Z Z (oR Z (zx Z Z (v:=.slice bP bK.length bT) Z) (oR Z (zx Z Z (v:=jV lR) Z) (oA Z Z (oA Z Z (eN (zF (zF (CK.fresh fun bs bl=>?_))))))))
 have pK:bs 5=.pointer (some ⟨ae,0,none⟩):=(bl 5).trans fz
 have dT:bs 7=jV (↑aa.Shots.length:Int):=(bl 7).trans pH
 have pL:bs 8=.slice bg x69.length bk:=(bl 8).trans pI
 have pM:bs 9=.pointer (some ⟨aT,0,none⟩):=(bl 9).trans fA
 have i9:bs 14=.slice cJ bD.length cP:=(bl 14).trans rfl
 have pN:bs 15=jV lO:=(bl 15).trans rfl
 have ja:bs 16=.slice cK bE.length cQ:=(bl 16).trans rfl
 have pO:bs 17=jV lP:=(bl 17).trans rfl
 have jb:bs 18=.slice cg aV.length cx:=(bl 18).trans rfl
 have pP:bs 19=jV lQ:=(bl 19).trans rfl
 have jc:bs 20=.slice bP bK.length bT:=(bl 20).trans rfl
 have pQ:bs 21=jV lR:=(bl 21).trans rfl
 clear bl
 refine rR fL33 Z (oM Z pN (oR Z (ZT Z Z Z) (oM Z Z (ifc lx ?_ ?_))))
 intro cy w7
 refine zh Z Z Z (zR Z Z (zr (fun h=>h cy.out))) Z pO (zL Z Z Z (zR Z Z (zr (fun h=>h cy.out))) (fun _=>ZT Z Z Z) (oR Z (zj Z (zr (fun h=>h cy.out)) Z) (oM Z Z (ifc w7 ?_ ?_))))
 intro cz w8
 refine zh Z Z Z (zR Z Z (zr (fun h=>h cz.out))) Z pP (zL Z Z Z (zR Z Z (zr (fun h=>h cz.out))) (fun _=>ZT Z Z Z) (oR Z (zj Z (zr (fun h=>h cz.out)) Z) (oM Z Z (ifc w8 ?_ ?_))))
 intro cA w9
 refine zh Z Z Z (zR Z Z (zr (fun h=>h cA.out))) Z pQ (zL Z Z Z (zR Z Z (zr (fun h=>h cA.out))) (fun _=>ZT Z Z Z) (oR Z (zj Z (zr (fun h=>h cA.out)) Z) (oM Z Z (ifc w9 ?_ ?_))))
 intro bv xa
 refine zh Z Z Z (zR Z Z (zr (fun h=>h bv.out))) Z i9 (zL Z Z Z (zR Z Z (zr (fun h=>h bv.out))) (fun _=>ZC Z Z Try.runUnderlying37) (zh Z Z Z (zR Z Z (zr (fun h=>h bv.out))) Z dT (zL Z Z Z (zR Z Z (zr (fun h=>h bv.out))) (fun _=>ZT Z Z Z) (oR Z (zj Z (zr (fun h=>h bv.out)) Z) (oM Z Z (ifc xa ?_ ?_))))))
 intro bw xb
 refine zh Z Z Z (zR Z Z (zr (fun h=>h bw.out))) Z ja (zL Z Z Z (zR Z Z (zr (fun h=>h bw.out))) (fun _=>ZC Z Z Try.runUnderlying37) (zh Z Z Z (zR Z Z (zr (fun h=>h bw.out))) Z dT (zL Z Z Z (zR Z Z (zr (fun h=>h bw.out))) (fun _=>ZT Z Z Z) (oR Z (zj Z (zr (fun h=>h bw.out)) Z) (oM Z Z (ifc xb ?_ ?_))))))
 intro bj xc
 refine zh Z Z Z (zR Z Z (zr (fun h=>h bj.out))) Z jb (zL Z Z Z (zR Z Z (zr (fun h=>h bj.out))) (fun _=>ZC Z Z zp) (zh Z Z Z (zR Z Z (zr (fun h=>h bj.out))) Z jc (zL Z Z Z (zR Z Z (zr (fun h=>h bj.out))) (fun _=>ZC Z Z zp) (zL Z Z Z (zR Z Z (zr (fun h=>h bj.out))) (fun _=>ZT Z Z Z) (oR Z (zj Z (zr (fun h=>h bj.out)) Z) (eN (ifc xc ?_ ?_)))))))
 intro fh cW
 refine zn (zr (fun h=>h fh.out)) (kN (zF (sR fL2 Z (oM Z dT (oM Z Z (eN (zV ?_)))))))
 have q:=wCj cW
 obtain ⟨Ae,cU⟩:=q
 have q:=wCi cU
 obtain ⟨gu,vD⟩:=q
 replace gu:=zG gu
 refine CK.forN (fun bo _ σ_ w_=>∃ (U_:PHeap),σ_ 156=jV (↑bo:Int)/\σ_ 5=.pointer (some ⟨ae,0,none⟩)/\σ_ 7=jV (↑aa.Shots.length:Int)/\σ_ 8=.slice bg x69.length bk/\σ_ 9=.pointer (some ⟨aT,0,none⟩)/\σ_ 14=.slice cJ bD.length cP/\σ_ 16=.slice cK bE.length cQ/\σ_ 18=.slice cg aV.length cx/\σ_ 20=.slice bP bK.length bT/\σ_ 155=jV (↑aa.Shots.length:Int)/\PHeap.Le bH U_/\sW w U U_ [B6,.blk ae 26 B5,B0,aS,aZ,bi,ba,bF] w_) vD ?_ ?_ ?_
 exact ⟨bH,rfl,pK,dT,pL,pM,i9,ja,jb,jc,rfl,(ze _),(bU.pick [4,5,6,7,3,2,1,0] _ (by decide) rfl)⟩
 rintro bo ⟨⟩ AI A5 iE gg ⟨eQ,fH,pR,jd,je,pS,jf,jg,pT,pU,jh,bB,u6⟩ lF d8
 try dsimp only at lF
 have iQ:Hid ((↑bo:Int) < (↑aa.Shots.length:Int)):=zG (wBe gg)
 replace gg:=zG gg
 have vS:Hid (w64 ((↑bo:Int) + 1)=(↑(bo + 1):Int)):=zG (by have h1:=gu.out;have h2:=iQ.out;rw [wAd] <;> omega)
 refine sR fL1 rfl (zL rfl rfl rfl rfl (fun _=>zX rfl fH jh) (eN (zF (cT Z iQ (kN (zF (zV (sR fL2 rfl (zh rfl rfl rfl rfl rfl fH (OKS.ra rfl rfl rfl rfl rfl rfl (eN (zF (zF (ZJ ZK [3,3,3,1,3,3,3,3,1,3,1,3] fL12 (by kernel_rfl) ?_))))))))))))))
 have bV:=u6.drew
 generalize hw_W791:({ iE with drawn:=iE.drawn + 1 }:World)=yA at bV ⊢
 refine oM Z jf (oM Z Z (bnK lF fun _ fS xd=>?_))
 obtain ⟨yM,jP⟩:=bV.rowSome (j:=4) rfl (by rw [wAF (f:=wAQ) (sz:=2) (fun _=>rfl) bD];have hz:=wAI fS;omega)
 refine oR Z (ZG Z Z jP Z Try.runUnderlying37 ZE (wAI fS)) ?_
 have vO:=wBO (xs:=bD) (wAI fS)
 refine zm rfl rfl rfl rfl (bV.ldRA (j:=4) rfl jP rfl rfl Zk ZE (vs:=[jV ((gd bD bo).Lo),jV ((gd bD bo).Hi)]) (wEJ (sz:=2) (fun _=>rfl) _ _ _ vO (by first | omega | rfl | simp) rfl) rfl) rfl (zh rfl rfl rfl rfl rfl jg (zh rfl rfl rfl rfl rfl je (zh rfl rfl rfl rfl rfl rfl (bnK xd fun cI dY xe=>?_))))
 have ru:=gx.le gE
 have rx:=ru.le gF
 have ry:=rx.le ec
 have rA:=ry.le dp
 have rB:=rA.le dq
 have rC:=rB.le cX
 have rD:=rC.le cH
 have rE:=rD.le bX
 have rF:=rE.le bY
 have rG:=rF.le bA
 have jD:=rG.le bB
 have q:=jD.el (fun _=>rfl) (wBU dY)
 obtain ⟨yN,Aa,sH,sM⟩:=q
 refine oR Z (ZG Z Z sH Z zA zC (wCt dY)) (oL Z (bV.ldC (f:=0) sM (v:=jV cI) Z Z zJ Z) (bnK xe fun _ dZ xf=>?_))
 obtain ⟨yO,jQ⟩:=bV.rowSome (j:=5) rfl (by rw [wAF (f:=wAQ) (sz:=2) (fun _=>rfl) bE];have hz:=wAI dZ;omega)
 refine oR Z (ZF Z Z jQ Z Try.runUnderlying37 ZE (wAq dZ) (wAr dZ)) ?_
 have vP:=wBO (xs:=bE) (wAI dZ)
 refine zm rfl rfl rfl rfl (bV.ldRA (j:=5) rfl jQ rfl rfl Zk ZE (vs:=[jV ((gd bE cI.toNat).Lo),jV ((gd bE cI.toNat).Hi)]) (wEJ (sz:=2) (fun _=>rfl) _ _ _ vP (by first | omega | rfl | simp) rfl) rfl) rfl (zL rfl rfl rfl rfl (fun _=>zu (Runs.neS (enc:=wAQ) (a:=(gd bD bo)) (b:=(gd bE cI.toNat)) rfl rfl rfl wPx wPw) (congrArg nK (decide_not).symm)) (eN (ifc xf ?_ ?_)))
 intro fj dm
 refine zn (zr (fun h=>h fj.out)) (kN (sR fL2 Z (oM Z jd (oM Z Z (eN (zV ?_))))))
 have q:=wCj dm
 obtain ⟨Af,dh⟩:=q
 have q:=wCi dh
 obtain ⟨gv,vE⟩:=q
 replace gv:=zG gv
 refine CK.forN (fun cE _ σ_ w_=>∃ (U_:PHeap),σ_ 172=jV (↑cE:Int)/\σ_ 5=.pointer (some ⟨ae,0,none⟩)/\σ_ 7=jV (↑aa.Shots.length:Int)/\σ_ 8=.slice bg x69.length bk/\σ_ 9=.pointer (some ⟨aT,0,none⟩)/\σ_ 14=.slice cJ bD.length cP/\σ_ 16=.slice cK bE.length cQ/\σ_ 18=.slice cg aV.length cx/\σ_ 20=.slice bP bK.length bT/\σ_ 22=jV (↑bo:Int)/\σ_ 155=jV (↑aa.Shots.length:Int)/\σ_ 156=jV (↑bo:Int)/\σ_ 171=jV (↑aa.Shots.length:Int)/\PHeap.Le eQ U_/\sW w U U_ [B6,.blk ae 26 B5,B0,aS,aZ,bi,ba,bF] w_) vE ?_ ?_ ?_
 exact ⟨eQ,Z,pR,jd,je,pS,jf,jg,pT,pU,Z,jh,fH,Z,(ze _),bV⟩
 rintro cE ⟨⟩ AJ A6 mM gh ⟨l8,dX,fB,ji,dU,fC,jj,jk,jl,jm,dV,jo,jp,fD,bC,lg⟩ lG ga
 try dsimp only at lG
 have iR:Hid ((↑cE:Int) < (↑aa.Shots.length:Int)):=zG (wBe gh)
 replace gh:=zG gh
 have vT:Hid (w64 ((↑cE:Int) + 1)=(↑(cE + 1):Int)):=zG (by have h1:=gv.out;have h2:=iR.out;rw [wAd] <;> omega)
 refine sR fL1 Z (oR Z (zX Z dX fD) (eN (zF (cT Z iR (kN (zF (zV (sR fL2 Z (oM Z dX (oA Z Z (eN (sR (wGK (.fx 3 (wQG (.fx 7 gAz .stop)) .stop)) Z (oL Z (lg.ldBA (j:=1) Z Z fB ZU zZ (vs:=B5) Z Z) (oM Z dV (oM Z Z ?_)))))))))))))))
 have rH:=jA.le bY
 have rI:=rH.le bA
 have rJ:=rI.le bB
 have rK:=rJ.le bC
 have rL:=jB.le bY
 have rM:=rL.le bA
 have rN:=rM.le bB
 have rO:=rN.le bC
 have rP:=jC.le bY
 have rQ:=rP.le bA
 have rS:=rQ.le bB
 have rT:=rS.le bC
 have q:=bnd lG
 obtain ⟨⟨du,lS⟩,rV,ly⟩:=q
 try dsimp only at ly
 refine zM 0 Z Z Z Z (zK Z Z Try.call14 (zD Z (zD Z (zD Z zS))) Z) lg (fun hs=>wDU aa bO bS b5 cq b9 ct (↑bo:Int) (↑cE:Int) mM l8 hs rK rO rT rV) (.inr Z) ?_
 rintro de ye Av mN bZ va ⟨rfl,rfl⟩
 have vb:sW w U de [B6,.blk ae 26 B5,B0,aS,aZ,bi,ba,bF] mN:=va
 refine oM Z Z (oR Z (zx Z Z (v:=.agg #[jV du.Lo,jV du.Hi]) Z) (oR Z (zx Z Z (v:=jV lS) Z) ?_))
 let dB:List Value:=[jV 0,jV 0]
 refine ZL (cs:=dB) Z Z Z Z Z ZV Z vb ?_
 intro yB cn vc
 let bQ:List Value:=[jV du.Lo,jV du.Hi]
 refine ZA (j:=0) (vs:=bQ) Z Z Z Z vc Z Z Z Z ZE (zB Z) Z Z Z ?_
 intro eW vd
 have ve:sW w U de [.blk cn 44 bQ,B6,.blk ae 26 B5,B0,aS,aZ,bi,ba,bF] eW:=vd
 refine oA Z Z (eN ?_)
 have q:=bnd ly
 obtain ⟨⟨gN,gO,xP⟩,xn,lz⟩:=q
 try dsimp only at lz
 refine CK.cut (fun σ_ w_=>∃ (U_:PHeap) (fc:Nat),σ_ 5=.pointer (some ⟨ae,0,none⟩)/\σ_ 7=jV (↑aa.Shots.length:Int)/\σ_ 8=.slice bg x69.length bk/\σ_ 9=.pointer (some ⟨aT,0,none⟩)/\σ_ 14=.slice cJ bD.length cP/\σ_ 16=.slice cK bE.length cQ/\σ_ 18=.slice cg aV.length cx/\σ_ 20=.slice bP bK.length bT/\σ_ 22=jV (↑bo:Int)/\σ_ 24=.pointer (some ⟨cn,0,none⟩)/\σ_ 25=jV lS/\σ_ 26=.pointer (some ⟨fc,0,none⟩)/\σ_ 27=jV xP/\σ_ 155=jV (↑aa.Shots.length:Int)/\σ_ 156=jV (↑bo:Int)/\σ_ 171=jV (↑aa.Shots.length:Int)/\σ_ 172=jV (↑cE:Int)/\PHeap.Le de U_/\sW w U U_ [.blk cn 44 bQ,B6,.blk ae 26 B5,B0,aS,aZ,bi,ba,bF,.blk fc 44 [jV gN,jV gO]] w_) ?_ ?_
 refine bnK xn fun gP jE xg=>?_
 have q:=bnd xg
 obtain ⟨⟨br,lT⟩,jG,gw⟩:=q
 try dsimp only at gw
 refine ZJ ZK [1,3,3,3,1,3,3,3,1,2,3,3,3,2,0,3] (fC0_8 (.fx 9 (wMK (.fx 13 gBc .stop)) (.fx 13 (.fx 9 (wMK gBc) (.stop)) (.stop)))) (by kernel_rfl) ?_
 have cS:=ve.drew
 generalize hw_W937:({ eW with drawn:=eW.drawn + 1 }:World)=mO at cS ⊢
 refine oL Z (cS.ldBA (j:=4) Z Z fC ZU zZ (vs:=eK) Z Z) (oM Z dU (oM Z dV ?_))
 have rW:=jD.le bC
 have jH:=rW.le bZ
 have q:=jH.el (fun _=>rfl) (wBU dY)
 obtain ⟨yP,Ab,sI,sN⟩:=q
 refine oR Z (ZG Z Z sI Z zA zC (wCt dY)) (oL Z (cS.ldC (f:=0) sN (v:=jV cI) Z Z zJ Z) (oM Z dU (oM Z Z ?_)))
 have q:=jH.el (fun _=>rfl) (wBU jE)
 obtain ⟨yQ,Ac,sJ,sO⟩:=q
 refine oR Z (ZG Z Z sJ Z zA zC (wCt jE)) (oL Z (cS.ldC (f:=0) sO (v:=jV gP) Z Z zJ Z) (OKS.both ?_ ?_))
 have rX:=fP.le bA
 have rY:=rX.le bB
 have rZ:=rY.le bC
 have r6:=rZ.le bZ
 have r8:=fQ.le bA
 have r9:=r8.le bB
 have sb:=r9.le bC
 have sc:=sb.le bZ
 have sd:=fR.le bA
 have se:=sd.le bB
 have sf:=se.le bC
 have sg:=sf.le bZ
 refine zM 0 Z Z Z Z (zK Z Z Try.call14 (zD Z (zD Z (zD Z zS))) Z) cS (fun hs=>wDU (⟨be,bf,bN⟩:wAC) az aQ au av cf cw cI gP mO de hs r6 sc sg jG) (.inr Z) ?_
 rintro eR yf Aw mP xB vh ⟨rfl,rfl⟩
 have vi:sW w U eR [.blk cn 44 bQ,B6,.blk ae 26 B5,B0,aS,aZ,bi,ba,bF] mP:=vh
 refine oM Z Z (oR Z (zx Z Z (v:=.agg #[jV br.Lo,jV br.Hi]) Z) (oR Z (zx Z Z (v:=jV lT) Z) (ZL (cs:=dB) Z Z Z Z Z ZV Z vi ?_)))
 intro yC iI vj
 refine ZA (j:=0) (vs:=[jV br.Lo,jV br.Hi]) Z Z Z Z vj Z Z Z Z ZE (zB Z) Z Z Z ?_
 intro mQ vk
 have vm:sW w U eR [.blk iI 44 [jV br.Lo,jV br.Hi],.blk cn 44 bQ,B6,.blk ae 26 B5,B0,aS,aZ,bi,ba,bF] mQ:=vk
 refine oA Z Z (zo ?_)
 cases gw
 exact zH ⟨rfl,⟨eR,iI,fB,ji,dU,fC,jj,jk,jl,jm,dV,rfl,rfl,rfl,rfl,jo,jp,fD,dX,xB,(vm.pick [1,2,3,4,5,6,7,8,9,0] _ (by decide) rfl)⟩⟩
 refine ZL (cs:=dB) Z Z Z Z Z ZV Z cS ?_
 intro mR fd vp
 have sj:=fP.le bA
 have sk:=sj.le bB
 have sn:=sk.le bC
 have sq:=sn.le bZ
 have ss:=fQ.le bA
 have su:=ss.le bB
 have sw:=su.le bC
 have sA:=sw.le bZ
 have sB:=fR.le bA
 have sC:=sB.le bB
 have sD:=sC.le bC
 have sE:=sD.le bZ
 refine zM 0 Z Z Z Z (zK Z Z Try.call14 (zD Z (zD Z (zD Z zS))) Z) vp (fun hs=>wDU (⟨be,bf,bN⟩:wAC) az aQ au av cf cw cI gP mR de hs sq sA sE jG) (.inr Z) ?_
 rintro eS xR Ag l9 xp s9 ⟨rfl,rfl⟩
 have tc:sW w U eS [.blk fd 44 dB,.blk cn 44 bQ,B6,.blk ae 26 B5,B0,aS,aZ,bi,ba,bF] l9:=s9
 refine oM Z Z (oR Z (zx Z Z (v:=.agg #[jV br.Lo,jV br.Hi]) Z) (oR Z (zx Z Z (v:=jV lT) Z) (ZA (j:=0) (vs:=[jV br.Lo,jV br.Hi]) Z Z Z Z tc Z Z Z Z ZE (zB Z) Z Z Z ?_)))
 intro ma td
 have te:sW w U eS [.blk fd 44 [jV br.Lo,jV br.Hi],.blk cn 44 bQ,B6,.blk ae 26 B5,B0,aS,aZ,bi,ba,bF] ma:=td
 refine oA Z Z (zo ?_)
 cases gw
 exact zH ⟨rfl,⟨eS,fd,fB,ji,dU,fC,jj,jk,jl,jm,dV,rfl,rfl,rfl,rfl,jo,jp,fD,dX,xp,(te.pick [1,2,3,4,5,6,7,8,9,0] _ (by decide) rfl)⟩⟩
 rintro AM yj ⟨dD,fc,oi,oj,ol,om,oq,ot,ou,ow,ox,oy,oz,oB,oG,oH,oI,oK,oO,xq,cR⟩
 refine sR fL11 Z (oM Z oz (oR Z (ZT Z Z Z) (oM Z Z (ifc lz ?_ ?_))))
 intro cp vU
 refine zh Z Z Z (zR Z Z (zr (fun h=>h cp.out))) Z oG (zL Z Z Z (zR Z Z (zr (fun h=>h cp.out))) (fun _=>ZT Z Z Z) (oR Z (zj Z (zr (fun h=>h cp.out)) Z) (oM Z Z (ifc vU ?_ ?_))))
 intro bL vV
 refine zm Z Z Z (zR Z Z (zr (fun h=>h bL.out))) (cR.ldBA (j:=0) Z Z oy Zk ZE (vs:=bQ) Z Z) Z (zm Z Z Z (zR Z Z (zr (fun h=>h bL.out))) (cR.ldBA (j:=9) Z Z oB Zk ZE (vs:=[jV gN,jV gO]) Z Z) Z (zL Z Z Z (zR Z Z (zr (fun h=>h bL.out))) (fun _=>zu (Runs.neS (enc:=wAQ) (a:=du) (b:=(⟨gN,gO⟩:wAb)) Z Z Z wPx wPw) (congrArg nK (decide_not).symm)) (oR Z (zj Z (zr (fun h=>h bL.out)) Z) (eN (ifc vV ?_ ?_)))))
 intro fe vW
 refine zn (zr (fun h=>h fe.out)) (ZR (zf (zH (rR fL2 Z (oR Z (zu (zW Z oO Z) (congrArg (jV) vT.out)) (oM Z Z (zo ?_)))))))
 have q:=nA vW
 obtain rfl:=q
 exact zH ⟨rfl,_,rfl,⟨dD,rfl,oi,oj,ol,om,oq,ot,ou,ow,ox,oH,oI,oK,((bC.trans bZ).trans xq),(cR.pick [1,2,3,4,5,6,7,8] _ (by decide) rfl)⟩⟩
 intro fe vX
 refine cT Z fe (sR fL1 Z (oA Z Z (eN (zQ (zd (zO ?_))))))
 have q:=wAo vX
 obtain ⟨xC,vY,m7⟩:=q
 have q:=wBz dm dh (ga xC m7)
 obtain rfl:=q
 refine zO (zd (zd (zO ?_)))
 have q:=wAo vY
 obtain ⟨xD,vZ,m8⟩:=q
 have q:=wBz cW cU (d8 xD m8)
 obtain rfl:=q
 refine zO (zd (zO ?_))
 have hE:=nA vZ;first | subst r | cases hE
 exact ⟨rfl,_,(zy rfl),dD,_,(cR.pick [] _ (by decide) rfl),rfl,rfl⟩
 intro bL v4
 refine oT Z bL (oT Z bL (oT Z bL (oR Z (zP Z (Zf bL.out) Z) (eN (zt Z (sR fL1 Z (oA Z Z (eN (zQ (zd (zO ?_)))))))))))
 have q:=wAo v4
 obtain ⟨xE,v5,m9⟩:=q
 have q:=wBz dm dh (ga xE m9)
 obtain rfl:=q
 refine zO (zd (zd (zO ?_)))
 have q:=wAo v5
 obtain ⟨xF,v7,n5⟩:=q
 have q:=wBz cW cU (d8 xF n5)
 obtain rfl:=q
 refine zO (zd (zO ?_))
 have hE:=nA v7;first | subst r | cases hE
 exact ⟨rfl,_,(zy rfl),dD,_,(cR.pick [] _ (by decide) rfl),rfl,rfl⟩
 intro cp v9
 refine oT Z cp (oT Z cp (oR Z (zP Z (Zf cp.out) Z) (oM Z Z (oN Z (oN Z (oN Z (oR Z (zP Z Z Z) (eN (zt Z (sR fL1 Z (oA Z Z (eN (zQ (zd (zO ?_)))))))))))))))
 have q:=wAo v9
 obtain ⟨xG,wa,n7⟩:=q
 have q:=wBz dm dh (ga xG n7)
 obtain rfl:=q
 refine zO (zd (zd (zO ?_)))
 have q:=wAo wa
 obtain ⟨xH,wb,n9⟩:=q
 have q:=wBz cW cU (d8 xH n9)
 obtain rfl:=q
 refine zO (zd (zO ?_))
 have hE:=nA wb;first | subst r | cases hE
 exact ⟨rfl,_,(zy rfl),dD,_,(cR.pick [] _ (by decide) rfl),rfl,rfl⟩
 rintro ⟨⟩ AN yk ⟨lX,pV,oP,oU,oW,oX,oY,o0,o5,o6,yR,o7,o8,o9,xr,tf⟩ vt
 have lj:=wDh dm dh vt
 try dsimp only at lj
 have mT:Hid (¬ ((↑(((↑aa.Shots.length:Int):Int) - 0).toNat:Int) < (↑aa.Shots.length:Int))):=zG (wBD)
 refine sR fL1 Z (oR Z (zX Z pV o9) (eN (zF (cF Z mT (ZN (zg (zg (ZB (zf (zH (rR fL2 Z (oR Z (zu (zW Z o8 Z) (congrArg (jV) vS.out)) (oM Z Z (zo ?_))))))))))))))
 have q:=nA lj
 obtain rfl:=q
 exact zH ⟨Z,_,Z,⟨lX,Z,oP,oU,oW,oX,oY,o0,o5,o6,o7,(bB.trans xr),tf⟩⟩
 intro fj wc
 refine cT Z fj (sR fL1 Z (oA Z Z (eN (zQ (zO (zd (zO ?_)))))))
 have q:=wAo wc
 obtain ⟨xI,wd,oa⟩:=q
 have q:=wBz cW cU (d8 xI oa)
 obtain rfl:=q
 refine zO (zd (zO ?_))
 have hE:=nA wd;first | subst r | cases hE
 exact ⟨rfl,_,(zy rfl),eQ,_,(bV.pick [] _ (by decide) rfl),rfl,rfl⟩
 rintro ⟨⟩ AP mb ⟨yg,pW,yS,pa,pb,yT,yU,yV,pe,pf,pg,xt,tg⟩ vu
 have bW:=wDh cW cU vu
 try dsimp only at bW
 have mU:Hid (¬ ((↑(((↑aa.Shots.length:Int):Int) - 0).toNat:Int) < (↑aa.Shots.length:Int))):=zG (wBD)
 refine sR fL1 Z (oR Z (zX Z pW pg) (eN (zF (cF Z mU (ZN (zg (zg (ZB (zH (zF (sR fL3 Z (oM Z pe (oR Z (ZC Z Z zp) (oM Z Z (eN (zV ?_))))))))))))))))
 have q:=tg.freezeR (k:=7) (n:=bK.length) rfl (wAF (f:=wAB) (sz:=2) (fun _=>rfl) bK) (by decide)
 obtain ⟨eL,xu,xh,th⟩:=q
 have tj:sW w U eL [B6,.blk ae 26 B5,B0,aS,aZ,bi,ba] mb:=th
 have q:=wCj bW
 obtain ⟨Ad,cD⟩:=q
 have q:=wCi cD
 obtain ⟨gi,vw⟩:=q
 replace gi:=zG gi
 refine CK.forN (fun bm _ σ_ w_=>∃ (U_:PHeap),σ_ 210=jV (↑bm:Int)/\σ_ 7=jV (↑aa.Shots.length:Int)/\σ_ 8=.slice bg x69.length bk/\σ_ 20=.slice bP bK.length bT/\σ_ 208=.slice cg aV.length cx/\σ_ 209=jV (↑aV.length:Int)/\PHeap.Le eL U_/\sW w U U_ [B6,.blk ae 26 B5,B0,aS,ba] w_) vw ?_ ?_ ?_
 exact ⟨eL,rfl,pa,pb,pf,rfl,rfl,(ze _),(tj.pick [0,1,2,3,6] _ (by decide) rfl)⟩
 rintro bm ⟨⟩ AA AQ yl gb ⟨cN,fE,fm,fq,iT,iU,iV,gB,fU⟩ lD dk
 try dsimp only at lD
 have iJ:Hid ((↑bm:Int) < (↑aV.length:Int)):=zG (wBe gb)
 replace gb:=zG gb
 have vQ:Hid (w64 ((↑bm:Int) + 1)=(↑(bm + 1):Int)):=zG (by have h1:=gi.out;have h2:=iJ.out;rw [wAd] <;> omega)
 refine sR fL1 Z (oR Z (zX Z fE iV) (eN (zF (cT Z iJ (kN (zF (zV (sR gBj Z (bnK lD fun _ fJ we=>?_)))))))))
 obtain ⟨yD,jJ⟩:=fU.rowSome (j:=4) rfl (by rw [wAF (f:=wAB) (sz:=2) (fun _=>rfl) aV];have hz:=wAI fJ;omega)
 refine oR Z (ZG Z iU jJ fE zp zw (wAI fJ)) ?_
 have vF:=wBO (xs:=aV) (wAI fJ)
 let dC:List Value:=[jV ((gd aV bm).Skier),jV ((gd aV bm).Lane)]
 refine zm rfl rfl rfl rfl (fU.ldRA (j:=4) rfl jJ rfl rfl Ze zw (vs:=dC) (wEJ (sz:=2) (fun _=>rfl) _ _ _ vF (by first | omega | rfl | simp) rfl) rfl) rfl (ZL (cs:=[jV 0,jV 0]) rfl rfl rfl rfl rfl ZM rfl fU ?_)
 intro ym iF tm
 refine ZA (j:=0) (vs:=dC) Z Z Z Z tm Z Z Z Z zw (zB Z) Z Z Z ?_
 intro eT tn
 have tp:sW w U cN [.blk iF 35 dC,B6,.blk ae 26 B5,B0,aS,ba] eT:=tn
 refine eN (zF (ZJ ZK [3,1,3,3,3,1,3,3,3,3,3,1,3,3,3,3,1,3,3,3,3,3,3,3,1,3,1,3,3,1,3,1,3,2,3,3] (wQE (.fx 33 (.fl 34 (.fl 35 .nil)) .stop)) (by kernel_rfl) ?_))
 have bb:=tp.drew
 generalize hw_W1149:({ eT with drawn:=eT.drawn + 1 }:World)=mc at bb ⊢
 refine oR Z (zI Z Z zq Z zC) (oL Z (bb.ldB (j:=0) Z Z Z zJ (v:=jV ((gd aV bm).Skier)) Z) (oR Z (zX Z Z Z) (oM Z Z (ifc we ?_ ?_))))
 intro bt wg
 refine oT Z bt (oT Z bt (oT Z bt (oT Z bt (oR Z (zP Z (Zf bt.out) Z) (oM Z Z (oN Z (oN Z (oN Z (oR Z (zP Z Z Z) (oM Z Z (oN Z (oN Z (oN Z (oN Z (oR Z (zP Z Z Z) (oM Z Z (oN Z (oN Z (oN Z (oN Z (oN Z (oN Z (oN Z (oN Z (oN Z (oN Z (oN Z (oN Z (Zb Z Z Z (zU Z Z Z Z) (oN Z (oR Z (zP Z Z Z) (eN (zt Z (sR fL1 Z (oA Z Z (eN (zQ (zd (zO ?_)))))))))))))))))))))))))))))))))))))))
 have q:=wAo wg
 obtain ⟨xJ,wh,oc⟩:=q
 have q:=wBz bW cD (dk xJ oc)
 obtain rfl:=q
 refine zO (zd (zO ?_))
 have hE:=nA wh;first | subst r | cases hE
 exact ⟨rfl,_,(zy rfl),cN,_,(bb.pick [] _ (by decide) rfl),rfl,rfl⟩
 intro bt wi
 refine rU Z (wF Z bt) (zI Z Z zq Z zC) (zm Z Z Z (wF Z bt) (bb.ldB (j:=0) Z Z Z zJ (v:=jV ((gd aV bm).Skier)) Z) Z (zh Z Z Z (wF Z bt) Z fm (rU Z (wF Z bt) (Runs.geq Z Z Z) (oR Z (zj Z (zr bt.out) Z) (oM Z Z (ifc wi ?_ ?_))))))
 intro bM wj
 refine oT Z bM (oT Z bM (oT Z bM (oR Z (zP Z (Zf bM.out) Z) (oM Z Z (oN Z (oN Z (oN Z (oN Z (oR Z (zP Z Z Z) (oM Z Z (oN Z (oN Z (oN Z (oN Z (oN Z (oN Z (oN Z (oN Z (oN Z (oN Z (oN Z (oN Z (Zb Z Z Z (zU Z Z Z Z) (oN Z (oR Z (zP Z Z Z) (eN (zt Z (sR fL1 Z (oA Z Z (eN (zQ (zd (zO ?_)))))))))))))))))))))))))))))))))
 have q:=wAo wj
 obtain ⟨xK,wk,od⟩:=q
 have q:=wBz bW cD (dk xK od)
 obtain rfl:=q
 refine zO (zd (zO ?_))
 have hE:=nA wk;first | subst r | cases hE
 exact ⟨rfl,_,(zy rfl),cN,_,(bb.pick [] _ (by decide) rfl),rfl,rfl⟩
 intro bM wn
 refine rU Z (wF Z bM) (zI Z Z zq Z zC) (zm Z Z Z (wF Z bM) (bb.ldB (j:=0) Z Z Z zJ (v:=jV ((gd aV bm).Lane)) Z) Z (rU Z (wF Z bM) (zX Z Z Z) (oR Z (zj Z (zr bM.out) Z) (oM Z Z (ifc wn ?_ ?_)))))
 intro bu wp
 refine oT Z bu (oT Z bu (oT Z bu (oT Z bu (oR Z (zP Z (Zf bu.out) Z) (oM Z Z (oN Z (oN Z (oN Z (oN Z (oN Z (oN Z (oN Z (oN Z (oN Z (oN Z (oN Z (oN Z (Zb Z Z Z (zU Z Z Z Z) (oN Z (oR Z (zP Z Z Z) (eN (zt Z (sR fL1 Z (oA Z Z (eN (zQ (zd (zO ?_))))))))))))))))))))))))))))
 have q:=wAo wp
 obtain ⟨xL,wq,oe⟩:=q
 have q:=wBz bW cD (dk xL oe)
 obtain rfl:=q
 refine zO (zd (zO ?_))
 have hE:=nA wq;first | subst r | cases hE
 exact ⟨rfl,_,(zy rfl),cN,_,(bb.pick [] _ (by decide) rfl),rfl,rfl⟩
 intro bu wt
 refine rU Z (wF Z bu) (zI Z Z zq Z zC) (zm Z Z Z (wF Z bu) (bb.ldB (j:=0) Z Z Z zJ (v:=jV ((gd aV bm).Lane)) Z) Z (zh Z Z Z (wF Z bu) Z fm (rU Z (wF Z bu) (Runs.geq Z Z Z) (oR Z (zj Z (zr bu.out) Z) (oM Z Z (ifc wt ?_ ?_))))))
 intro aq wu
 refine oT Z aq (oT Z aq (oT Z aq (oT Z aq (oT Z aq (oT Z aq (oT Z aq (oT Z aq (oT Z aq (oT Z aq (oT Z aq (oT Z aq (Zb Z Z Z (zU Z Z (Zf aq.out) Z) (oT Z aq (oR Z (zP Z (Zf aq.out) Z) (eN (zt Z (sR fL1 Z (oA Z Z (eN (zQ (zd (zO ?_))))))))))))))))))))))
 have q:=wAo wu
 obtain ⟨xM,wv,og⟩:=q
 have q:=wBz bW cD (dk xM og)
 obtain rfl:=q
 refine zO (zd (zO ?_))
 have hE:=nA wv;first | subst r | cases hE
 exact ⟨rfl,_,(zy rfl),cN,_,(bb.pick [] _ (by decide) rfl),rfl,rfl⟩
 intro aq ww
 refine zh Z Z Z (wF Z aq) Z iT (zh Z Z Z (wF Z aq) Z fq (rU Z (wF Z aq) (zI Z Z zq Z zC) (zm Z Z Z (wF Z aq) (bb.ldB (j:=0) Z Z Z zJ (v:=jV ((gd aV bm).Skier)) Z) Z (bnK ww fun ef fK wx=>?_))))
 have p7:=gx.le gE
 have p8:=p7.le gF
 have p9:=p8.le ec
 have qa:=p9.le dp
 have qb:=qa.le dq
 have qc:=qb.le cX
 have qd:=qc.le cH
 have qe:=qd.le bX
 have qf:=qe.le bY
 have qg:=qf.le bA
 have qh:=qg.le xt
 have qi:=qh.le xu
 have jq:=qi.le gB
 have q:=jq.el (fun _=>rfl) (wBU fK)
 obtain ⟨yE,z8,sF,sK⟩:=q
 refine rU Z (wF Z aq) (ZF Z Z sF Z zA zC (wEc fK) (wFD fK)) (zm Z Z Z (wF Z aq) (bb.ldC (f:=0) sK (v:=jV ef) Z Z zJ Z) Z (zh Z Z Z (wF Z aq) Z fq (rU Z (wF Z aq) (zI Z Z zq Z zC) (zm Z Z Z (wF Z aq) (bb.ldB (j:=0) Z Z Z zJ (v:=jV ((gd aV bm).Lane)) Z) Z (bnK wx fun eg fL wy=>?_)))))
 have q:=jq.el (fun _=>rfl) (wBU fL)
 obtain ⟨yF,z9,sG,sL⟩:=q
 refine rU Z (wF Z aq) (ZF Z Z sG Z zA zC (wEc fL) (wFD fL)) (zm Z Z Z (wF Z aq) (bb.ldC (f:=0) sL (v:=jV eg) Z Z zJ Z) Z (rU Z (wF Z aq) (ZH (pv:=[(0,jV ef),(1,jV eg)]) (z:=[jV 0,jV 0]) (cs:=[jV ef,jV eg]) Z (wAJ Z (wAJ Z wAl)) ZM wCd Z Z) ?_))
 have qj:=xh.le gB
 refine bnK wy fun Ax qk wA=>zM 0 Z Z Z (wF Z aq) (zK Z Z Try.call10 (zD Z (zD Z zS)) Z) bb (fun hs=>wAU bK bP bT (⟨ef,eg⟩:wAA) mc cN hs qj qk) (.inr Z) ?_
 rintro eM xS Ah md xw tq ⟨rfl,rfl⟩
 have jZ:sW w U eM [.blk iF 35 dC,B6,.blk ae 26 B5,B0,aS,ba] md:=tq
 refine rU Z (wF Z aq) (ZS Z Z) (oR Z (zj Z (zr aq.out) Z) (eN (ifc wA ?_ ?_)))
 intro ff wB
 refine zn (nC ff.out) (ZR (zf (zH (rR fL2 Z (oR Z (zu (zW Z fE Z) (congrArg (jV) vQ.out)) (oM Z Z (zo ?_)))))))
 have q:=nA wB
 obtain rfl:=q
 exact zH ⟨rfl,_,rfl,⟨eM,rfl,fm,fq,iT,iU,iV,(gB.trans xw),(jZ.pick [1,2,3,4,5] _ (by decide) rfl)⟩⟩
 intro ff wC
 refine zt (nF (ff.out)) (sR fL1 Z (oA Z Z (eN (zQ (zd (zO ?_))))))
 have q:=wAo wC
 obtain ⟨xN,wD,oh⟩:=q
 have q:=wBz bW cD (dk xN oh)
 obtain rfl:=q
 refine zO (zd (zO ?_))
 have hE:=nA wD;first | subst r | cases hE
 exact ⟨rfl,_,(zy rfl),eM,_,(jZ.pick [] _ (by decide) rfl),rfl,rfl⟩
 rintro ⟨⟩ AS mf ⟨lY,pX,yW,yX,yY,yZ,ph,z6,tr⟩ vv
 have lm:=wDh bW cD vv
 try dsimp only at lm
 have mV:Hid (¬ ((↑(((↑aV.length:Int):Int) - 0).toNat:Int) < (↑aV.length:Int))):=zG (wBD)
 refine sR fL1 Z (oR Z (zX Z pX ph) (eN (zF (cF Z mV (ZN (zg (zg (ZB (zH (sR (.fx 0 (.fl 1 .nil) .stop) Z (bnK lm fun Ay ql wE=>zM 0 Z Z Z Z (zK Z Z Try.call15 zS Z) tr (fun hs=>wEB mf lY hs ql) (.inr Z) ?_)))))))))))
 rintro g9 xT Ai mg z7 tu ⟨rfl,rfl⟩
 have tv:sW w U g9 [B6,.blk ae 26 B5,B0,aS,ba] mg:=tu
 refine oA Z Z (eN (zQ ?_))
 have hE:=nA wE;first | subst r | cases hE
 exact ⟨rfl,_,(zy rfl),g9,_,(tv.pick [] _ (by decide) rfl),rfl,rfl⟩
 intro fh wG
 refine cT Z fh (sR fL1 Z (oA Z Z (eN (zQ (zO ?_)))))
 have hE:=nA wG;first | subst r | cases hE
 exact ⟨rfl,_,(zy rfl),bH,_,(bU.pick [] _ (by decide) rfl),rfl,rfl⟩
 intro bj wH
 refine oT Z bj (oT Z bj (oT Z bj (oT Z bj (oT Z bj (oR Z (zP Z (Zf bj.out) Z) (eN (zt Z (sR fL1 Z (oA Z Z (eN (zQ (zO ?_))))))))))))
 have hE:=nA wH;first | subst r | cases hE
 exact ⟨rfl,_,(zy rfl),bH,_,(bU.pick [] _ (by decide) rfl),rfl,rfl⟩
 intro bw wI
 refine oT Z bw (oT Z bw (oT Z bw (oT Z bw (oR Z (zP Z (Zf bw.out) Z) (oM Z Z (oN Z (oN Z (oN Z (oN Z (oN Z (oR Z (zP Z Z Z) (eN (zt Z (sR fL1 Z (oA Z Z (eN (zQ (zO ?_))))))))))))))))))
 have hE:=nA wI;first | subst r | cases hE
 exact ⟨rfl,_,(zy rfl),bH,_,(bU.pick [] _ (by decide) rfl),rfl,rfl⟩
 intro bv wJ
 refine oT Z bv (oT Z bv (oT Z bv (oT Z bv (oR Z (zP Z (Zf bv.out) Z) (oM Z Z (oN Z (oN Z (oN Z (oN Z (oR Z (zP Z Z Z) (oM Z Z (oN Z (oN Z (oN Z (oN Z (oN Z (oR Z (zP Z Z Z) (eN (zt Z (sR fL1 Z (oA Z Z (eN (zQ (zO ?_))))))))))))))))))))))))
 have hE:=nA wJ;first | subst r | cases hE
 exact ⟨rfl,_,(zy rfl),bH,_,(bU.pick [] _ (by decide) rfl),rfl,rfl⟩
 intro cA wK
 refine oT Z cA (oT Z cA (oR Z (zP Z (Zf cA.out) Z) (oM Z Z (oN Z (oN Z (oN Z (oN Z (oR Z (zP Z Z Z) (oM Z Z (oN Z (oN Z (oN Z (oN Z (oR Z (zP Z Z Z) (oM Z Z (oN Z (oN Z (oN Z (oN Z (oN Z (oR Z (zP Z Z Z) (eN (zt Z (sR fL1 Z (oA Z Z (eN (zQ (zO ?_))))))))))))))))))))))))))))
 have hE:=nA wK;first | subst r | cases hE
 exact ⟨rfl,_,(zy rfl),bH,_,(bU.pick [] _ (by decide) rfl),rfl,rfl⟩
 intro cz wL
 refine oT Z cz (oT Z cz (oR Z (zP Z (Zf cz.out) Z) (oM Z Z (oN Z (oN Z (oR Z (zP Z Z Z) (oM Z Z (oN Z (oN Z (oN Z (oN Z (oR Z (zP Z Z Z) (oM Z Z (oN Z (oN Z (oN Z (oN Z (oR Z (zP Z Z Z) (oM Z Z (oN Z (oN Z (oN Z (oN Z (oN Z (oR Z (zP Z Z Z) (eN (zt Z (sR fL1 Z (oA Z Z (eN (zQ (zO ?_))))))))))))))))))))))))))))))))
 have hE:=nA wL;first | subst r | cases hE
 exact ⟨rfl,_,(zy rfl),bH,_,(bU.pick [] _ (by decide) rfl),rfl,rfl⟩
 intro cy wM
 refine oT Z cy (oT Z cy (oR Z (zP Z (Zf cy.out) Z) (oM Z Z (oN Z (oN Z (oR Z (zP Z Z Z) (oM Z Z (oN Z (oN Z (oR Z (zP Z Z Z) (oM Z Z (oN Z (oN Z (oN Z (oN Z (oR Z (zP Z Z Z) (oM Z Z (oN Z (oN Z (oN Z (oN Z (oR Z (zP Z Z Z) (oM Z Z (oN Z (oN Z (oN Z (oN Z (oN Z (oR Z (zP Z Z Z) (eN (zt Z (sR fL1 Z (oA Z Z (eN (zQ (zO ?_))))))))))))))))))))))))))))))))))))
 have hE:=nA wM;first | subst r | cases hE
 exact ⟨rfl,_,(zy rfl),bH,_,(bU.pick [] _ (by decide) rfl),rfl,rfl⟩
end Go.Proofs.Ytfcmijinklojbaa
