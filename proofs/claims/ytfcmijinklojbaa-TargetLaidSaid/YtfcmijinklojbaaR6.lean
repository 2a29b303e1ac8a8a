import Derived.Test.YtfcmijinklojbaaR5
import Derived.Test.YtfcmijinklojbaaR4
set_option linter.all false
open List renaming flatMap->hH,set->nB,getElem_cons_succ->nD,getElem_cons_zero->nE,getElem_toArray->nG,length_set->nI
open Option.some renaming inj->nA
open Int renaming toNat_natCast->nH
open Go.Value renaming bool->nJ
namespace Go.Proofs.Ytfcmijinklojbaa
open Go.KL
def gAv:Sch:=.fx 3 (.fl 4 .nil) .stop
def gAw:Sch:=.fx 0 (.fl 1 .nil) .stop
def gAx:Sch:=.fl 0 (.fx 1 .nil .stop)
def gAy:Sch:=.fx 1 (.fl 2 .nil) .stop
def gAz:Sch:=.fx 5 (.fl 6 .nil) .stop
def gBa:Sch:=.fx 8 (.fl 9 .nil) .stop
def gBb:Sch:=.fx 0 (.fl 1 (.fl 2 .nil)) .stop
def gBc:Sch:=.fx 4 (.fl 5 (.fl 6 .nil)) .stop
def gBd:Sch:=.fl 0 (.fl 1 (.fx 2 .nil .stop))
def gBe:Sch:=.fx 3 (.fx 4 (.fl 5 .nil) .stop) .stop
def gBf:Sch:=.fx 7 gBa .stop
def gBg:Sch:=.fl 0 (.fl 1 (.fx 2 (.fl 3 .nil) .stop))
def gBh:Sch:=.fl 0 (.fx 1 (.fl 2 (.fl 3 .nil)) .stop)
def gBi:Sch:=.fl 0 (.fl 1 (.fx 2 gAv .stop))
set_option maxHeartbeats 4000000
theorem wER (p0:wAE) (ah:Nat) (ak:Option Addr) (ap:Nat) (ai:Option Addr) (aj:Nat) (am:Option Addr) (aq:Nat) (ab:Nat) (au:Array MapEntry) (az:Nat) (w:World) (U:PHeap) (hS:St0 w U [.blk ah 99 ([.slice ak p0.Bout.Shots.length ap,.slice ai p0.Bout.Down.length aj,.slice am p0.Bout.Across.length aq,.map (some ab)] ++ ((hH KL.encI p0.hits.l) ++ ((hH KL.encI p0.used.l) ++ (hH KL.encT p0.met.l)))),.obj ab (.map au az)]) (bW:Sl U 1 ak ap p0.Bout.Shots.length (hH KL.encI p0.Bout.Shots)) (bX:Sl U 1 ai aj p0.Bout.Down.length (hH KL.encI p0.Bout.Down)) (bY:Sl U 2 am aq p0.Bout.Across.length (hH wAB p0.Bout.Across)) (bZ:MpR au wGl wHL p0.may) {r:(List Int)} (hm:wAs p0=some r):Gv Try.prog 85 [.pointer (some ⟨ah,0,none⟩)] w (wCg w [.blk ah 99 ([.slice ak p0.Bout.Shots.length ap,.slice ai p0.Bout.Down.length aj,.slice am p0.Bout.Across.length aq,.map (some ab)] ++ ((hH KL.encI p0.hits.l) ++ ((hH KL.encI p0.used.l) ++ (hH KL.encT p0.met.l)))),.obj ab (.map au az)] U (fun U_ L_ v=>∃ (A0:Option Addr) (c0:Nat),v=.slice A0 r.length c0/\L_=[.row A0 c0 3 1 (hH KL.encI r),.blk ah 99 ([.slice ak p0.Bout.Shots.length ap,.slice ai p0.Bout.Down.length aj,.slice am p0.Bout.Across.length aq,.map (some ab)] ++ ((hH KL.encI p0.hits.l) ++ ((hH KL.encI p0.used.l) ++ (hH KL.encT p0.met.l)))),.obj ab (.map au az)])):=by
 unfold wAs at hm
 refine Gv.of Try.func85 Z Try.ntmps85 Try.results85 Z (sR fL1 Z (oA Z Z (eN (sR fL1 Z (oA Z Z (eN (zG (sR fL7 Z (oM Z Z (oR Z (zl Z Z) (oR Z (zK Z Z zV Z zj) (oR Z (zK Z Z zF Z zW) (oL Z (hS.ldB (j:=0) Z Z Z ze (v:=.slice ai p0.Bout.Down.length aj) Z) (oR Z (zt Z Z zA) (oM Z Z (eN (zd (bnK hm fun cd bK bN=>?_))))))))))))))))))
 have q:=wCO bK
 obtain ⟨bh,bL⟩:=q
 replace bh:=zL bh
 refine CK.forN' (fun ae aW σ_ w_=>∃ (U_:PHeap) (aU:Option Addr) (aV:Nat),σ_ 11=jV (↑ae:Int)/\σ_ 0=.pointer (some ⟨ah,0,none⟩)/\σ_ 3=.slice aU aW.length aV/\σ_ 10=jV (↑p0.Bout.Down.length:Int)/\PHeap.Le U U_/\SW w [.blk ah 99 ([.slice ak p0.Bout.Shots.length ap,.slice ai p0.Bout.Down.length aj,.slice am p0.Bout.Across.length aq,.map (some ab)] ++ ((hH KL.encI p0.hits.l) ++ ((hH KL.encI p0.used.l) ++ (hH KL.encT p0.met.l)))),.obj ab (.map au az)] U U_ [.blk ah 99 ([.slice ak p0.Bout.Shots.length ap,.slice ai p0.Bout.Down.length aj,.slice am p0.Bout.Across.length aq,.map (some ab)] ++ ((hH KL.encI p0.hits.l) ++ ((hH KL.encI p0.used.l) ++ (hH KL.encT p0.met.l)))),.obj ab (.map au az),.row aU aV 3 1 (hH KL.encI aW)] w_) bL ?_ ?_ ?_
 have bF:=hS.nilrow 3 1
 exact ⟨U,none,0,rfl,rfl,rfl,rfl,(zo _),(bF.pick [1,2,0] _ (by decide) rfl)⟩
 rintro ae aW b9 cf bT bg ⟨aX,aU,aV,aY,ba,bo,bb,br,bf⟩ bS
 have bm:Hid ((↑ae:Int) < (↑p0.Bout.Down.length:Int)):=zL (wBm bg)
 replace bg:=zL bg
 have bq:Hid (w64 ((↑ae:Int) + 1)=(↑(ae + 1):Int)):=zL (by have h1:=bh.out;have h2:=bm.out;rw [wAY] <;> omega)
 refine sR fL1 rfl (zO rfl rfl rfl rfl (fun _=>zg rfl aY bb) (eN (zG (cT Z bm (kN (zG (zd (sR fL2 rfl (zZ rfl rfl rfl rfl rfl aY (OKS.ra rfl rfl rfl rfl rfl rfl (eN (sR fL7 rfl (zZ rfl rfl rfl rfl rfl ba (zZ rfl rfl rfl rfl rfl rfl (zO rfl rfl rfl rfl (fun _=>zl rfl rfl) (zO rfl rfl rfl rfl (fun _=>zK rfl rfl zV rfl Try.sizeOf97) (zO rfl rfl rfl rfl (fun _=>ZB (ZQ rfl rfl rfl Try.runUnderlying97 Try.sizeOf96 (by decide) (by decide)) rfl) (bnK bS fun _ be bO=>zO rfl rfl rfl rfl (fun _=>ZQ rfl rfl rfl Try.runUnderlying96 Zl (wBB be) (wBC be)) ?_))))))))))))))))))
 have bM:=Arr.at_ p0.met (k:=(8 + ae)) (by have hz0:=wAI be;omega)
 refine zm rfl rfl rfl rfl (bf.ldB (j:=0) rfl rfl ((rfl:ev _ _=.pointer (some ⟨ah,84 + ae * 1,none⟩)).trans (wDK (by omega))) Try.isAgg4 (wDJ (n:=4) rfl (wDJ (n:=64) (wAP (f:=KL.encI) (sz:=1) (N:=64) p0.hits (fun _=>rfl) rfl) (wDJ (n:=8) (wAP (f:=KL.encI) (sz:=1) (N:=8) p0.used (fun _=>rfl) rfl) (wPp (sz:=1) (fun _=>rfl) _ _ 0 _ bM rfl))))) rfl (eN (ifc bO ?_ ?_))
 intro aZ bP
 refine zp (congrArg nJ aZ.out) (rR gBi Z (oM Z bo (oM Z Z (Zi (pv:=[(0,jV (↑ae:Int))]) (zs:=[jV 0]) (cs:=[jV (↑ae:Int)]) Z Z Z Z Z (wAT Z wBY) zA zB Ze Z Z Z Z Z bf ?_))))
 intro bu bw bG
 let B0:Res:=.row (some ⟨bw,0,none⟩) 1 3 1 (hH KL.encI [(↑ae:Int)])
 have bp:SW w [.blk ah 99 ([.slice ak p0.Bout.Shots.length ap,.slice ai p0.Bout.Down.length aj,.slice am p0.Bout.Across.length aq,.map (some ab)] ++ ((hH KL.encI p0.hits.l) ++ ((hH KL.encI p0.used.l) ++ (hH KL.encT p0.met.l)))),.obj ab (.map au az)] U aX [B0,.blk ah 99 ([.slice ak p0.Bout.Shots.length ap,.slice ai p0.Bout.Down.length aj,.slice am p0.Bout.Across.length aq,.map (some ab)] ++ ((hH KL.encI p0.hits.l) ++ ((hH KL.encI p0.used.l) ++ (hH KL.encT p0.met.l)))),.obj ab (.map au az),.row aU aV 3 1 (hH KL.encI aW)] bu:=bG
 refine bnK bP fun x53 bE bQ=>OKS.append (j:=3) (enc:=KL.encI) (xs:=aW) (ys:=[(↑ae:Int)]) (zs:=x53) rfl rfl rfl rfl rfl Try.underlying23 wMH rfl rfl rfl rfl rfl rfl bp rfl rfl rfl (bp.srcR (j:=0) rfl (by decide) (wAG (f:=KL.encI) (sz:=1) (fun _=>rfl) [(↑ae:Int)])) (fun _=>rfl) (fun _=>rfl) bE rfl ?_
 intro bj bn bv bH
 have bI:SW w [.blk ah 99 ([.slice ak p0.Bout.Shots.length ap,.slice ai p0.Bout.Down.length aj,.slice am p0.Bout.Across.length aq,.map (some ab)] ++ ((hH KL.encI p0.hits.l) ++ ((hH KL.encI p0.used.l) ++ (hH KL.encT p0.met.l)))),.obj ab (.map au az)] U aX [B0,.blk ah 99 ([.slice ak p0.Bout.Shots.length ap,.slice ai p0.Bout.Down.length aj,.slice am p0.Bout.Across.length aq,.map (some ab)] ++ ((hH KL.encI p0.hits.l) ++ ((hH KL.encI p0.used.l) ++ (hH KL.encT p0.met.l)))),.obj ab (.map au az),.row bj bn 3 1 (hH KL.encI x53)] bv:=bH
 refine oA Z Z (ZA (zk (zM (rR fL2 Z (oR Z (ZB (zh Z aY Z) (congrArg (jV) bq.out)) (oM Z Z (ZA ?_)))))))
 cases bQ
 exact zM ⟨rfl,⟨aX,bj,bn,rfl,ba,rfl,bb,br,(bI.pick [1,2,3] _ (by decide) rfl)⟩⟩
 intro aZ bR
 refine zi (congrArg nJ (Bool.eq_false_iff.2 aZ.out)) (ZN (zk (zM (rR fL2 Z (oR Z (ZB (zh Z aY Z) (congrArg (jV) bq.out)) (oM Z Z (ZA ?_)))))))
 cases bR
 exact zM ⟨Z,⟨aX,aU,aV,Z,ba,bo,bb,br,bf⟩⟩
 rintro cg bU ⟨bt,bs,bz,bD,bV,bB,bC,b5,bJ⟩
 have bA:Hid (¬ ((↑(((↑p0.Bout.Down.length:Int):Int) - 0).toNat:Int) < (↑p0.Bout.Down.length:Int))):=zL (wBK)
 refine sR fL1 Z (oR Z (zg Z bD bC) (eN (zG (cF Z bA (ZM (zn (zn (ZE (zM (sR fL2 Z (oM Z bB (oA Z Z (eN (zR ?_))))))))))))))
 have hE:=nA bN;first | subst r | cases hE
 exact ⟨rfl,_,(zz rfl),bt,_,(bJ.pick [2,0,1] _ (by decide) rfl),bs,bz,rfl,rfl⟩
theorem wBf (p0:wAE) (ah:Nat) (aj:Option Addr) (am:Nat) (ae:Option Addr) (ai:Nat) (ak:Option Addr) (ap:Nat) (ab:Nat) (aq:Array MapEntry) (au:Nat) (w:World) (U:PHeap) (hS:St0 w U [.blk ah 99 ([.slice aj p0.Bout.Shots.length am,.slice ae p0.Bout.Down.length ai,.slice ak p0.Bout.Across.length ap,.map (some ab)] ++ ((hH KL.encI p0.hits.l) ++ ((hH KL.encI p0.used.l) ++ (hH KL.encT p0.met.l)))),.obj ab (.map aq au)]) (dM:Sl U 1 aj am p0.Bout.Shots.length (hH KL.encI p0.Bout.Shots)) (dN:Sl U 1 ae ai p0.Bout.Down.length (hH KL.encI p0.Bout.Down)) (dO:Sl U 2 ak ap p0.Bout.Across.length (hH wAB p0.Bout.Across)) (cq:MpR aq wGl wHL p0.may) {r:(List Int) × (Arr Int 64 × Arr Int 8 × Arr Bool 16)} (hm:wAM p0=some r):Gv Try.prog 46 [.pointer (some ⟨ah,0,none⟩)] w (wCg w [.blk ah 99 ([.slice aj p0.Bout.Shots.length am,.slice ae p0.Bout.Down.length ai,.slice ak p0.Bout.Across.length ap,.map (some ab)] ++ ((hH KL.encI p0.hits.l) ++ ((hH KL.encI p0.used.l) ++ (hH KL.encT p0.met.l)))),.obj ab (.map aq au)] U (fun U_ L_ v=>∃ (A0:Option Addr) (c0:Nat),v=.slice A0 r.1.length c0/\L_=[.row A0 c0 3 1 (hH KL.encI r.1),.blk ah 99 ([.slice aj p0.Bout.Shots.length am,.slice ae p0.Bout.Down.length ai,.slice ak p0.Bout.Across.length ap,.map (some ab)] ++ ((hH KL.encI r.2.1.l) ++ ((hH KL.encI r.2.2.1.l) ++ (hH KL.encT r.2.2.2.l)))),.obj ab (.map aq au)]/\(r.1=[]->A0=none))):=by
 unfold wAM at hm
 refine Gv.of Try.func46 Z Try.ntmps46 Try.results46 Z (sR gAw Z ?_)
 let B0:List Value:=[.pointer (some ⟨ah,0,none⟩)]
 refine ZT (cs:=B0) rfl rfl rfl rfl rfl rfl (by rfl) hS ?_
 intro W3 b4 dL
 have q:=dL.freeze (k:=0) rfl
 obtain ⟨U7,bE,aZ,dy⟩:=q
 replace aZ:=Cl.of aZ
 have dz:SW w [.blk ah 99 ([.slice aj p0.Bout.Shots.length am,.slice ae p0.Bout.Down.length ai,.slice ak p0.Bout.Across.length ap,.map (some ab)] ++ ((hH KL.encI p0.hits.l) ++ ((hH KL.encI p0.used.l) ++ (hH KL.encT p0.met.l)))),.obj ab (.map aq au)] U U7 [.blk ah 99 ([.slice aj p0.Bout.Shots.length am,.slice ae p0.Bout.Down.length ai,.slice ak p0.Bout.Across.length ap,.map (some ab)] ++ ((hH KL.encI p0.hits.l) ++ ((hH KL.encI p0.used.l) ++ (hH KL.encT p0.met.l)))),.obj ab (.map aq au)] W3:=dy
 replace aZ:Cl U7 b4 0 B0:=aZ
 refine oA Z Z (eN (sR (.fx 0 .nil .stop) Z (ZR (cs:=[.nilFunc]) Z Z Z Z Z Try.zeroValue74 Z dz ?_)))
 intro ei aX dC
 refine eN (sR gAx Z (oR Z (Runs.mkf Z zU (zC Z (zC Z zU))) ?_))
 let B1:List Value:=[.func (.func 84) #[] #[.pointer (some ⟨b4,0,none⟩),.pointer (some ⟨aX,0,none⟩)]]
 refine ZG (j:=0) (vs:=B1) Z Z Z Z dC Z Z Z Z Try.sizeOf74 (zD Z) Z Z Z ?_
 intro bM dF
 have bu:SW w [.blk ah 99 ([.slice aj p0.Bout.Shots.length am,.slice ae p0.Bout.Down.length ai,.slice ak p0.Bout.Across.length ap,.map (some ab)] ++ ((hH KL.encI p0.hits.l) ++ ((hH KL.encI p0.used.l) ++ (hH KL.encT p0.met.l)))),.obj ab (.map aq au)] U U7 [.blk aX 74 B1,.blk ah 99 ([.slice aj p0.Bout.Shots.length am,.slice ae p0.Bout.Down.length ai,.slice ak p0.Bout.Across.length ap,.map (some ab)] ++ ((hH KL.encI p0.hits.l) ++ ((hH KL.encI p0.used.l) ++ (hH KL.encT p0.met.l)))),.obj ab (.map aq au)] bM:=dF
 refine eN (zG (sR fL7 Z (oL Z (bu.ldC (f:=0) aZ (v:=.pointer (some ⟨ah,0,none⟩)) Z Z ZD Z) (oR Z (zl Z Z) (oR Z (zK Z Z zV Z zj) (oR Z (zK Z Z zF Z zW) (oL Z (bu.ldB (j:=1) Z Z Z ze (v:=.slice ae p0.Bout.Down.length ai) Z) (oR Z (zt Z Z zA) (oM Z Z (eN (zd ?_)))))))))))
 have q:=bu.freeze (k:=0) rfl
 obtain ⟨bi,bl,be,dJ⟩:=q
 replace be:=Cl.of be
 have dK:SW w [.blk ah 99 ([.slice aj p0.Bout.Shots.length am,.slice ae p0.Bout.Down.length ai,.slice ak p0.Bout.Across.length ap,.map (some ab)] ++ ((hH KL.encI p0.hits.l) ++ ((hH KL.encI p0.used.l) ++ (hH KL.encT p0.met.l)))),.obj ab (.map aq au)] U bi [.blk ah 99 ([.slice aj p0.Bout.Shots.length am,.slice ae p0.Bout.Down.length ai,.slice ak p0.Bout.Across.length ap,.map (some ab)] ++ ((hH KL.encI p0.hits.l) ++ ((hH KL.encI p0.used.l) ++ (hH KL.encT p0.met.l)))),.obj ab (.map aq au)] bM:=dJ
 replace be:Cl bi aX 0 B1:=be
 have q:=wCT hm
 obtain ⟨eI,bv⟩:=q
 have q:=wCS bv
 obtain ⟨bB,dT⟩:=q
 replace bB:=zL bB
 refine Zm (fun aU (bN,bO,bP) σ_ w_=>∃ (U_:PHeap),σ_ 13=jV (↑aU:Int)/\σ_ 1=.pointer (some ⟨b4,0,none⟩)/\σ_ 3=.pointer (some ⟨aX,0,none⟩)/\σ_ 11=.slice ae p0.Bout.Down.length ai/\σ_ 12=jV (↑p0.Bout.Down.length:Int)/\PHeap.Le bi U_/\SW w [.blk ah 99 ([.slice aj p0.Bout.Shots.length am,.slice ae p0.Bout.Down.length ai,.slice ak p0.Bout.Across.length ap,.map (some ab)] ++ ((hH KL.encI p0.hits.l) ++ ((hH KL.encI p0.used.l) ++ (hH KL.encT p0.met.l)))),.obj ab (.map aq au)] U U_ [.blk ah 99 ([.slice aj p0.Bout.Shots.length am,.slice ae p0.Bout.Down.length ai,.slice ak p0.Bout.Across.length ap,.map (some ab)] ++ ((hH KL.encI bN.l) ++ ((hH KL.encI bO.l) ++ (hH KL.encT bP.l)))),.obj ab (.map aq au)] w_) dT ?_ ?_ ?_
 exact ⟨bi,Z,Z,Z,Z,Z,(zo _),dK⟩
 rintro aU ⟨bN,bO,bP⟩ eP eZ eu bz ⟨bI,bk,cR,cS,bX,bY,ba,cn⟩ cw dR
 try dsimp only at cw
 have bT:Hid ((↑aU:Int) < (↑p0.Bout.Down.length:Int)):=zL (wBm bz)
 replace bz:=zL bz
 have dW:Hid (w64 ((↑aU:Int) + 1)=(↑(aU + 1):Int)):=zL (by have h1:=bB.out;have h2:=bT.out;rw [wAY] <;> omega)
 refine sR fL1 Z (oR Z (zg Z bk bY) (eN (zG (cT Z bT (kN (zG (zd (sR fL5 Z (oM Z bk (bnK cw fun bh cg bD=>?_))))))))))
 have du:=dN.le bE
 have dv:=du.le bl
 have ci:=dv.le ba
 have q:=ci.el (fun _=>rfl) (wAx cg)
 obtain ⟨ez,eH,dw,dx⟩:=q
 refine oR Z (zu Z bX dw bk zA zB (wCA cg)) (oL Z (cn.ldC (f:=0) dx (v:=jV bh) Z Z zH Z) (oA Z Z (oA Z Z (eN (sR fL2 Z (oM Z Z (oM Z Z (eN (zd ?_)))))))))
 have q:=wCT bD
 obtain ⟨eJ,bw⟩:=q
 have q:=wCS bw
 obtain ⟨bC,dU⟩:=q
 replace bC:=zL bC
 refine Zm (fun bf (aV,aW,bj) σ_ w_=>∃ (U_:PHeap),σ_ 19=jV (↑bf:Int)/\σ_ 1=.pointer (some ⟨b4,0,none⟩)/\σ_ 3=.pointer (some ⟨aX,0,none⟩)/\σ_ 4=jV (↑aU:Int)/\σ_ 11=.slice ae p0.Bout.Down.length ai/\σ_ 12=jV (↑p0.Bout.Down.length:Int)/\σ_ 13=jV (↑aU:Int)/\σ_ 18=jV bh/\PHeap.Le bI U_/\SW w [.blk ah 99 ([.slice aj p0.Bout.Shots.length am,.slice ae p0.Bout.Down.length ai,.slice ak p0.Bout.Across.length ap,.map (some ab)] ++ ((hH KL.encI p0.hits.l) ++ ((hH KL.encI p0.used.l) ++ (hH KL.encT p0.met.l)))),.obj ab (.map aq au)] U U_ [.blk ah 99 ([.slice aj p0.Bout.Shots.length am,.slice ae p0.Bout.Down.length ai,.slice ak p0.Bout.Across.length ap,.map (some ab)] ++ ((hH KL.encI aV.l) ++ ((hH KL.encI aW.l) ++ (hH KL.encT bj.l)))),.obj ab (.map aq au)] w_) dU ?_ ?_ ?_
 exact ⟨bI,Z,cR,cS,Z,bX,bY,bk,Z,(zo _),cn⟩
 rintro bf ⟨aV,aW,bj⟩ eQ e9 ey bA ⟨bJ,bZ,br,bU,bV,cH,cI,cJ,bW,bb,cp⟩ cx dS
 try dsimp only at cx
 have bR:Hid ((↑bf:Int) < bh):=zL (wBm bA)
 replace bA:=zL bA
 have dV:Hid (w64 ((↑bf:Int) + 1)=(↑(bf + 1):Int)):=zL (by have h1:=bC.out;have h2:=bR.out;rw [wAY] <;> omega)
 refine sR fL1 Z (oR Z (zg Z bZ bW) (eN (zG (cT Z bR (kN (zG (zd (sR (wJK (.fx 4 .nil .stop)) Z ?_))))))))
 have cW:=aZ.le bl
 have cX:=cW.le ba
 have bs:=cX.le bb
 refine zm rfl rfl rfl rfl (cp.ldC (f:=0) bs (v:=.pointer (some ⟨ah,0,none⟩)) rfl br ZD rfl) rfl (zO rfl rfl rfl rfl (fun _=>zl rfl rfl) (zO rfl rfl rfl rfl (fun _=>zK rfl rfl zV rfl Try.sizeOf97) (zO rfl rfl rfl rfl (fun _=>Runs.slA rfl rfl Try.runUnderlying97 Try.sizeOf96) (OKS.clearB (j:=0) (off:=76) (vs:=hH KL.encT (Arr.fill 16 false).l) (cs':=[.slice aj p0.Bout.Shots.length am,.slice ae p0.Bout.Down.length ai,.slice ak p0.Bout.Across.length ap,.map (some ab)] ++ ((hH KL.encI aV.l) ++ ((hH KL.encI aW.l) ++ (hH KL.encT (Arr.fill 16 false).l)))) rfl rfl rfl rfl cp rfl rfl Try.runUnderlying139 Try.zeroValue96 (by kernel_rfl) (by simp only [List.length_append,List.length_cons,List.length_nil,wAP (f:=KL.encI) (sz:=1) (N:=64) aV (fun _=>rfl) rfl,wAP (f:=KL.encI) (sz:=1) (N:=8) aW (fun _=>rfl) rfl,wAP (f:=KL.encT) (sz:=1) (N:=16) bj (fun _=>rfl) rfl,wAP (f:=KL.encT) (sz:=1) (N:=16) (Arr.fill 16 false) (fun _=>rfl) rfl];omega) (wHy (fun _=>rfl) _) (wBy (n:=4) rfl (wBy (n:=64) (wAP (f:=KL.encI) (sz:=1) (N:=64) aV (fun _=>rfl) rfl) (wBy (n:=8) (wAP (f:=KL.encI) (sz:=1) (N:=8) aW (fun _=>rfl) rfl) (wMq _ _ (by rw [wAP (f:=KL.encT) (sz:=1) (N:=16) (Arr.fill 16 false) (fun _=>rfl) rfl,wAP (f:=KL.encT) (sz:=1) (N:=16) bj (fun _=>rfl) rfl]))))) rfl ?_))))
 intro bK dA
 have cj:SW w [.blk ah 99 ([.slice aj p0.Bout.Shots.length am,.slice ae p0.Bout.Down.length ai,.slice ak p0.Bout.Across.length ap,.map (some ab)] ++ ((hH KL.encI p0.hits.l) ++ ((hH KL.encI p0.used.l) ++ (hH KL.encT p0.met.l)))),.obj ab (.map aq au)] U bJ [.blk ah 99 ([.slice aj p0.Bout.Shots.length am,.slice ae p0.Bout.Down.length ai,.slice ak p0.Bout.Across.length ap,.map (some ab)] ++ ((hH KL.encI aV.l) ++ ((hH KL.encI aW.l) ++ (hH KL.encT (Arr.fill 16 false).l)))),.obj ab (.map aq au)] bK:=dA
 refine eN (sR gBg Z ?_)
 have cY:=be.le ba
 have b5:=cY.le bb
 refine oL Z (cj.ldC (f:=0) b5 (v:=.func (.func 84) #[] #[.pointer (some ⟨b4,0,none⟩),.pointer (some ⟨aX,0,none⟩)]) Z bU Try.isAgg74 Z) (oM Z bV ?_)
 have cZ:=dM.le bE
 have da:=cZ.le bl
 have db:=da.le ba
 have b9:=db.le bb
 have cd:=ci.le bb
 have de:=dO.le bE
 have df:=de.le bl
 have dg:=df.le ba
 have cf:=dg.le bb
 have q:=bnd cx
 obtain ⟨⟨eM,az⟩,dh,cr⟩:=q
 try dsimp only at cr
 refine zP 2 Z Z Z Z (zN Z Z Try.call84 (zC Z zU) Z) cj (fun hs=>wEF 1000 (↑aU:Int) (⟨p0.Bout,p0.may,aV,aW,(Arr.fill 16 false)⟩:wAE) b4 ah aj am ae ai ak ap ab aq au () aX bK bJ hs bs b9 cd cf cq b5 dh) (.inl Z) ?_
 rintro bo eg eK bL bg dB ⟨rfl,rfl⟩
 have bt:SW w [.blk ah 99 ([.slice aj p0.Bout.Shots.length am,.slice ae p0.Bout.Down.length ai,.slice ak p0.Bout.Across.length ap,.map (some ab)] ++ ((hH KL.encI p0.hits.l) ++ ((hH KL.encI p0.used.l) ++ (hH KL.encT p0.met.l)))),.obj ab (.map aq au)] U bo [.blk ah 99 ([.slice aj p0.Bout.Shots.length am,.slice ae p0.Bout.Down.length ai,.slice ak p0.Bout.Across.length ap,.map (some ab)] ++ ((hH KL.encI az.1.l) ++ ((hH KL.encI az.2.1.l) ++ (hH KL.encT az.2.2.l)))),.obj ab (.map aq au)] bL:=dB
 refine oR Z (ZC Z Z) (eN (ifc cr ?_ ?_))
 intro bq dX
 refine zi (nC bq.out) (ZN (zk (zM (rR fL2 Z (oR Z (ZB (zh Z bZ Z) (congrArg (jV) dV.out)) (oM Z Z (ZA ?_)))))))
 have q:=nA dX
 obtain rfl:=q
 exact zM ⟨Z,_,Z,⟨bo,Z,br,bU,bV,cH,cI,cJ,bW,(bb.trans bg),bt⟩⟩
 intro bq dY
 refine zp (nF (bq.out)) (sR (.fl 0 gAy) Z ?_)
 have dk:=bs.le bg
 refine oL Z (bt.ldC (f:=0) dk (v:=.pointer (some ⟨ah,0,none⟩)) Z br ZD Z) ?_
 have dm:=b9.le bg
 have dp:=cd.le bg
 have dq:=cf.le bg
 refine bnK dY fun ef dr dZ=>zP 2 Z Z Z Z (zN Z Z Try.call85 (zC Z zU) Z) bt (fun hs=>wER (⟨p0.Bout,p0.may,az.1,az.2.1,az.2.2⟩:wAE) ah aj am ae ai ak ap ab aq au bL bo hs dm dp dq cq dr) (.inl Z) ?_
 rintro bH eh eL cA eF dD ⟨bF,bS,rfl,rfl⟩
 have dE:SW w [.blk ah 99 ([.slice aj p0.Bout.Shots.length am,.slice ae p0.Bout.Down.length ai,.slice ak p0.Bout.Across.length ap,.map (some ab)] ++ ((hH KL.encI p0.hits.l) ++ ((hH KL.encI p0.used.l) ++ (hH KL.encT p0.met.l)))),.obj ab (.map aq au)] U bH [.row bF bS 3 1 (hH KL.encI ef),.blk ah 99 ([.slice aj p0.Bout.Shots.length am,.slice ae p0.Bout.Down.length ai,.slice ak p0.Bout.Across.length ap,.map (some ab)] ++ ((hH KL.encI az.1.l) ++ ((hH KL.encI az.2.1.l) ++ (hH KL.encT az.2.2.l)))),.obj ab (.map aq au)] cA:=dD
 refine oA Z Z (eN (zR (zX (zJ ?_))))
 have q:=wAc dZ
 obtain ⟨ec,d7,cE⟩:=q
 have q:=wBi bD bw (dS ec cE)
 obtain rfl:=q
 refine zJ (zX (zX (zJ ?_)))
 have q:=wAc d7
 obtain ⟨ed,d8,cG⟩:=q
 have q:=wBi hm bv (dR ed cG)
 obtain rfl:=q
 refine zJ (zX (zJ (bnK d8 fun eO dt d9=>?_)))
 cases d9
 exact ⟨Z,_,(zz Z),bH,_,dE,bF,bS,Z,Z,(fun h=>absurd h (wMv dt))⟩
 rintro ⟨eR,eS,eT⟩ eX ej ⟨cy,cU,cK,cL,eA,cM,cN,cO,cP,eb,dG⟩ dP
 have ct:=wCw bD bw dP
 try dsimp only at ct
 have cC:Hid (¬ ((↑((bh:Int) - 0).toNat:Int) < bh)):=zL (wBK)
 refine sR fL1 Z (oR Z (zg Z cU cP) (eN (zG (cF Z cC (ZM (zn (zn (ZE (zk (zM (rR fL2 Z (oR Z (ZB (zh Z cO Z) (congrArg (jV) dW.out)) (oM Z Z (ZA ?_))))))))))))))
 have q:=nA ct
 obtain rfl:=q
 exact zM ⟨Z,_,Z,⟨cy,Z,cK,cL,cM,cN,(ba.trans eb),dG⟩⟩
 rintro ⟨eU,eV,eW⟩ eY en ⟨cz,cV,eC,eD,eE,cQ,eG,dH⟩ dQ
 have cu:=wCw hm bv dQ
 try dsimp only at cu
 have cD:Hid (¬ ((↑(((↑p0.Bout.Down.length:Int):Int) - 0).toNat:Int) < (↑p0.Bout.Down.length:Int))):=zL (wBK)
 refine sR fL1 Z (oR Z (zg Z cV cQ) (eN (zG (cF Z cD (ZM (zn (zn (ZE (zM (sR fL1 Z (oA Z Z (eN (zR ?_)))))))))))))
 have dI:=dH.nilrow 3 1
 cases cu
 exact ⟨Z,_,(zz Z),cz,_,dI,none,0,Z,Z,(fun _=>Z)⟩
theorem wDD (p0:wAC) (bf:Option Addr) (bi:Nat) (bg:Option Addr) (bj:Nat) (bh:Option Addr) (bk:Nat) (w:World) (U:PHeap) (hS:St0 w U []) (bR:Sl U 1 bf bi p0.Shots.length (hH KL.encI p0.Shots)) (bS:Sl U 1 bg bj p0.Down.length (hH KL.encI p0.Down)) (bT:Sl U 2 bh bk p0.Across.length (hH wAB p0.Across)) {r:(Option wAE) × Int} (hm:wBO p0=some r):Gv Try.prog 42 [.agg #[.slice bf p0.Shots.length bi,.slice bg p0.Down.length bj,.slice bh p0.Across.length bk]] w (wCg w [] U (fun U_ L_ v=>match r.1 with | none=>v=.tuple #[.pointer none,jV r.2]/\L_=[] | some d=>∃ (b0:Nat) (A0p00:Option Addr) (c0p00:Nat) (A0p01:Option Addr) (c0p01:Nat) (A0p02:Option Addr) (c0p02:Nat) (m0p1:Nat) (es0p1:Array MapEntry) (ck0p1:Nat),v=.tuple #[.pointer (some ⟨b0,0,none⟩),jV r.2]/\L_=[.blk b0 99 ([.slice A0p00 d.Bout.Shots.length c0p00,.slice A0p01 d.Bout.Down.length c0p01,.slice A0p02 d.Bout.Across.length c0p02,.map (some m0p1)] ++ ((hH KL.encI d.hits.l) ++ ((hH KL.encI d.used.l) ++ (hH KL.encT d.met.l)))),.obj m0p1 (.map es0p1 ck0p1)]/\Sl U_ 1 A0p00 c0p00 d.Bout.Shots.length (hH KL.encI d.Bout.Shots)/\Sl U_ 1 A0p01 c0p01 d.Bout.Down.length (hH KL.encI d.Bout.Down)/\Sl U_ 2 A0p02 c0p02 d.Bout.Across.length (hH wAB d.Bout.Across)/\MpR es0p1 wGl wHL d.may)):=by
 unfold wBO at hm
 refine Gv.of Try.func42 Z Try.ntmps42 Try.results42 Z (sR gBb Z ?_)
 let B0:List Value:=[.slice bf p0.Shots.length bi,.slice bg p0.Down.length bj,.slice bh p0.Across.length bk]
 refine ZT (cs:=B0) rfl rfl rfl rfl rfl rfl (by rfl) hS ?_
 intro W1 b2 bw
 refine oA Z Z (oA Z Z (eN (sR (.fl 0 (.fx 1 (wGt (.nil)) .stop)) Z (oL Z (bw.ldBA (j:=0) Z Z Z ZK zj (vs:=B0) Z Z) ?_))))
 have q:=bnd hm
 obtain ⟨⟨x5,x6⟩,h7,aY⟩:=q
 try dsimp only at aY
 refine zP 0 Z Z Z Z (zN Z Z Try.call69 (zC Z zU) Z) bw (fun hs=>wCo p0 bf bi bg bj bh bk W1 U hs bR bS bT h7) (.inr Z) ?_
 rintro U9 b9 cg bm cf bv bu
 rcases x5 with _ | x26
 try dsimp only at aY
 obtain ⟨rfl,rfl⟩:=bu
 have bP:sW w U U9 [.blk b2 26 B0] bm:=bv
 refine oM Z Z (oR Z (zq Z Z (v:=.pointer none) Z) (oR Z (zq Z Z (v:=jV x6) Z) (oA Z Z (oA Z Z (eN (zG (sR (wJK gBc) Z (oM Z Z (oR Z (Zn Z Z Z) (oM Z Z (ifc aY ?_ ?_)))))))))))
 intro az bU
 refine zZ Z Z Z (wT Z az) Z Z ?_
 cases bU
 intro az bV
 refine oF Z az (ZS Z Z Z (zQ Z Z (zf az.out) Z) (oF Z az (oR Z (zY Z (zf az.out) Z) (eN (zi Z (kN (sR fL4 Z (oM Z Z (oM Z Z (oA Z Z (oA Z Z (eN (zR ?_)))))))))))))
 cases bV
 exact ⟨rfl,_,(wDZ rfl rfl),U9,_,(bP.pick [] _ (by decide) rfl),rfl,rfl⟩
 try dsimp only at aY
 obtain ⟨ah,ai,am,aj,ap,ak,aq,ae,aU,au,rfl,rfl,aZ,ba,bb,be⟩:=bu
 have bz:sW w U U9 [.blk ah 99 ([.slice ai x26.Bout.Shots.length am,.slice aj x26.Bout.Down.length ap,.slice ak x26.Bout.Across.length aq,.map (some ae)] ++ ((hH KL.encI x26.hits.l) ++ ((hH KL.encI x26.used.l) ++ (hH KL.encT x26.met.l)))),.obj ae (.map aU au),.blk b2 26 B0] bm:=bv
 refine oM Z Z (oR Z (zq Z Z (v:=.pointer (some ⟨ah,0,none⟩)) Z) (oR Z (zq Z Z (v:=jV x6) Z) (oA Z Z (oA Z Z (eN (zG (sR (wJK gBc) Z (oM Z Z (oR Z (Zn Z Z Z) (oM Z Z (ifc aY ?_ ?_)))))))))))
 intro ab bW
 refine zZ Z Z Z (wT Z ab) Z Z ?_
 have q:=bnd bW
 obtain ⟨⟨bq,br⟩,bF,bA⟩:=q
 try dsimp only at bA
 refine zP 2 Z Z Z (wT Z ab) (zN Z Z Try.call46 (zC Z zU) Z) bz (fun hs=>wBf x26 ah ai am aj ap ak aq ae aU au bm U9 hs aZ ba bb be bF) (.inl Z) ?_
 rintro bl cd ci bD aV bQ ⟨bs,bE,rfl,rfl,bG⟩
 have bp:sW w U bl [.row bs bE 3 1 (hH KL.encI bq),.blk ah 99 ([.slice ai x26.Bout.Shots.length am,.slice aj x26.Bout.Down.length ap,.slice ak x26.Bout.Across.length aq,.map (some ae)] ++ ((hH KL.encI br.1.l) ++ ((hH KL.encI br.2.1.l) ++ (hH KL.encT br.2.2.l)))),.obj ae (.map aU au),.blk b2 26 B0] bD:=bQ
 have bH:bs.isNone=decide (bq=[]):=wGI (j:=0) bp rfl (fun _=>rfl) (by decide) bG
 refine zO rfl rfl rfl (zI rfl rfl (ZO ab.out)) (fun _=>Runs.neNilR (b:=decide (¬ (bq=[]))) rfl rfl rfl zA (by simp [bH])) (zO rfl rfl rfl rfl (fun _=>zS rfl (ZO ab.out) rfl) (eN (ifc bA ?_ ?_)))
 intro bo bX
 refine zi (zf (fun h=>h bo.out)) (kN (sR fL4 Z (oM Z Z (oM Z Z (oA Z Z (oA Z Z (eN (zR ?_))))))))
 have bI:=aZ.le aV
 have bJ:=ba.le aV
 have bK:=bb.le aV
 cases bX
 exact ⟨rfl,_,(wDZ rfl rfl),bl,_,(bp.pick [1,2] _ (by decide) rfl),ah,ai,am,aj,ap,ak,aq,ae,aU,au,rfl,rfl,bI,bJ,bK,be⟩
 intro bo bY
 refine cT Z bo (rR fL1 Z (oA Z Z (eN (sR fL4 Z (oM Z Z (oM Z Z (oA Z Z (oA Z Z (eN (zR ?_))))))))))
 have bL:=aZ.le aV
 have bM:=ba.le aV
 have bN:=bb.le aV
 cases bY
 exact ⟨rfl,_,(wDZ rfl rfl),bl,_,(bp.pick [1,2] _ (by decide) rfl),ah,ai,am,aj,ap,ak,aq,ae,aU,au,rfl,rfl,bL,bM,bN,be⟩
 intro ab bZ
 refine oF Z ab (ZS Z Z Z (zQ Z Z (zf ab.out) Z) (oF Z ab (oR Z (zY Z (zf ab.out) Z) (eN (zi Z (kN (sR fL4 Z (oM Z Z (oM Z Z (oA Z Z (oA Z Z (eN (zR ?_)))))))))))))
 cases bZ
 exact ⟨rfl,_,(wDZ rfl rfl),U9,_,(bz.pick [0,1] _ (by decide) rfl),ah,ai,am,aj,ap,ak,aq,ae,aU,au,rfl,rfl,aZ,ba,bb,be⟩
theorem wGb (p0:wAC) (bk:Option Addr) (bn:Nat) (bl:Option Addr) (bo:Nat) (bm:Option Addr) (bp:Nat) (w:World) (U:PHeap) (hS:St0 w U []) (cY:Sl U 1 bk bn p0.Shots.length (hH KL.encI p0.Shots)) (cZ:Sl U 1 bl bo p0.Down.length (hH KL.encI p0.Down)) (da:Sl U 2 bm bp p0.Across.length (hH wAB p0.Across)) {r:(List (List Int)) × Int} (hm:wCB p0=some r):Gv Try.prog 30 [.agg #[.slice bk p0.Shots.length bn,.slice bl p0.Down.length bo,.slice bm p0.Across.length bp]] w (wCg w [] U (fun U_ L_ v=>∃ (A0:Option Addr) (c0:Nat) (bN:List Value),v=.tuple #[.slice A0 r.1.length c0,jV r.2]/\L_=[.row A0 c0 23 1 bN]/\RlL U_ wIX r.1 bN)):=by
 unfold wCB at hm
 refine Gv.of Try.func30 Z Try.ntmps30 Try.results30 Z (sR gBb Z ?_)
 let B0:List Value:=[.slice bk p0.Shots.length bn,.slice bl p0.Down.length bo,.slice bm p0.Across.length bp]
 refine ZT (cs:=B0) rfl rfl rfl rfl rfl rfl (by rfl) hS ?_
 intro W1 b2 bU
 refine oA Z Z (oA Z Z (eN (sR (.fl 0 (.fx 1 (wGt (.nil)) .stop)) Z (oL Z (bU.ldBA (j:=0) Z Z Z ZK zj (vs:=B0) Z Z) ?_))))
 have q:=bnd hm
 obtain ⟨⟨x5,x6⟩,h7,ba⟩:=q
 try dsimp only at ba
 refine zP 0 Z Z Z Z (zN Z Z Try.call42 (zC Z zU) Z) bU (fun hs=>wDD p0 bk bn bl bo bm bp W1 U hs cY cZ da h7) (.inr Z) ?_
 rintro U9 dF dT bH dR bT bR
 rcases x5 with _ | x26
 try dsimp only at ba
 obtain ⟨rfl,rfl⟩:=bR
 have cU:sW w U U9 [.blk b2 26 B0] bH:=bT
 refine oM Z Z (oR Z (zq Z Z (v:=.pointer none) Z) (oR Z (zq Z Z (v:=jV x6) Z) (oA Z Z (oA Z Z (eN (zG (sR fL2 Z (oM Z Z (oR Z (ZF Z Z Z) (eN (ifc ba ?_ ?_)))))))))))
 intro br dp
 refine zi (zf (fun h=>h br.out)) (kN (sR fL1 Z (oA Z Z (eN (zG (sR fL7 Z (oM Z Z ?_)))))))
 cases dp
 intro br dq
 refine cT Z br (sR fL3 Z (oM Z Z (oA Z Z (oA Z Z (eN (zR (zJ ?_)))))))
 have cV:=cU.nilrow 23 1
 cases dq
 exact ⟨rfl,_,(wDZ rfl rfl),U9,_,(cV.pick [0] _ (by decide) rfl),none,0,[],rfl,rfl,RlL.nil⟩
 try dsimp only at ba
 obtain ⟨ah,ap,au,aq,az,aU,aW,aa,am,ak,rfl,rfl,dK,dL,dM,dN⟩:=bR
 have bw:sW w U U9 [.blk ah 99 ([.slice ap x26.Bout.Shots.length au,.slice aq x26.Bout.Down.length az,.slice aU x26.Bout.Across.length aW,.map (some aa)] ++ ((hH KL.encI x26.hits.l) ++ ((hH KL.encI x26.used.l) ++ (hH KL.encT x26.met.l)))),.obj aa (.map am ak),.blk b2 26 B0] bH:=bT
 refine oM Z Z (oR Z (zq Z Z (v:=.pointer (some ⟨ah,0,none⟩)) Z) (oR Z (zq Z Z (v:=jV x6) Z) (oA Z Z (oA Z Z (eN (zG (sR fL2 Z (oM Z Z (oR Z (ZF Z Z Z) (eN (ifc ba ?_ ?_)))))))))))
 intro bs dr
 refine zi (zf (fun h=>h bs.out)) (kN (sR fL1 Z (oA Z Z (eN (zG (sR fL7 Z (oM Z Z (oR Z (zl Z Z) (oR Z (zK Z Z zV Z zj) (oR Z (zK Z Z zF Z zW) (oL Z (bw.ldB (j:=0) Z Z Z ze (v:=.slice ap x26.Bout.Shots.length au) Z) (oR Z (zt Z Z zA) (oM Z Z (eN (zd (bnK dr fun dW de dt=>?_))))))))))))))))
 have q:=wCO de
 obtain ⟨bB,df⟩:=q
 replace bB:=zL bB
 refine CK.forN' (fun ai bj σ_ w_=>∃ (U_:PHeap) (be:Option Addr) (bh:Nat) (bi:List Value),σ_ 22=jV (↑ai:Int)/\σ_ 4=.pointer (some ⟨ah,0,none⟩)/\σ_ 6=.slice be bj.length bh/\σ_ 21=jV (↑x26.Bout.Shots.length:Int)/\PHeap.Le U9 U_/\sW w U U_ [.blk ah 99 ([.slice ap x26.Bout.Shots.length au,.slice aq x26.Bout.Down.length az,.slice aU x26.Bout.Across.length aW,.map (some aa)] ++ ((hH KL.encI x26.hits.l) ++ ((hH KL.encI x26.used.l) ++ (hH KL.encT x26.met.l)))),.obj aa (.map am ak),.blk b2 26 B0,.row be bh 23 1 bi] w_/\RlL U_ wIX bj bi) df ?_ ?_ ?_
 have cW:=bw.nilrow 23 1
 exact ⟨U9,none,0,[],rfl,rfl,rfl,rfl,(zo _),(cW.pick [1,2,3,0] _ (by decide) rfl),RlL.nil⟩
 rintro ai bj dV dY bI bA ⟨dH,be,bh,bi,bu,bt,cw,bP,dB,cX,cD⟩ dz
 have bM:Hid ((↑ai:Int) < (↑x26.Bout.Shots.length:Int)):=zL (wBm bA)
 replace bA:=zL bA
 have dg:Hid (w64 ((↑ai:Int) + 1)=(↑(ai + 1):Int)):=zL (by have h1:=bB.out;have h2:=bM.out;rw [wAY] <;> omega)
 refine sR fL1 rfl (zO rfl rfl rfl rfl (fun _=>zg rfl bu bP) (eN (zG (cT Z bM (kN (zG (zd (sR fL2 rfl (zZ rfl rfl rfl rfl rfl bu (OKS.ra rfl rfl rfl rfl rfl rfl (eN (ZI ZJ [3,3,3,3,3,3,3,3,3,3,1,3,3,2,2,0,3] (wHP (.fx 13 (.fx 14 (.fx 15 (.fl 16 .nil) .stop) .stop) .stop)) (by kernel_rfl) ?_))))))))))))
 have bz:=cX.drew
 generalize hw_W88:({ bI with drawn:=bI.drawn + 1 }:World)=bJ at bz ⊢
 refine oM Z cw (oM Z bt (oM Z Z (oR Z (zl Z Z) (oR Z (zK Z Z zV Z Zo) (bnK dz fun _ bv du=>oR Z (ZQ Z Z Z Za Zh (wBB bv) (wBC bv)) (oM Z bt (oR Z (zl Z Z) (oR Z (zK Z Z zV Z zj) (oR Z (zK Z Z zF Z zW) (oL Z (bz.ldB (j:=0) Z Z Z ze (v:=.slice aq x26.Bout.Down.length az) Z) (oR Z (zt Z Z zA) (bnK du fun x91 cE dv=>?_))))))))))))
 have q:=wPt cE
 obtain ⟨dO,dP,aX,db,bV⟩:=q
 have aX:x26.Bout.Down.length <= 8:=by have h1:=aX;rw [List.length_take] at h1;omega
 refine zO (v:=.slice (some ⟨ah,4 + ai * 8,none⟩) x91.length 8) rfl rfl rfl rfl (fun _=>ZB (Runs.slAh (k:=x26.Bout.Down.length) rfl rfl rfl ZP zB aX) (by rw [bV];rfl)) ?_
 obtain ⟨bG,dQ,dx,cG,dC⟩:=St.freezeTP (c:=8) (xs:=x91) (off:=4 + ai * 8) (f:=KL.encI) (sz:=1) bz (k:=0) rfl (fun _=>rfl) (wOX (f:=KL.encI) (sz:=1) (s:=(ai * 8)) (n:=x26.Bout.Down.length) (len:=8) (fun _=>rfl) (by first | omega | (simp only [List.length_cons,List.length_nil];omega) | (show _=4 + _;omega) | (simp;done)) db aX (by have h9:=x26.hits.h;have h8:(ai * 8) < 64:=(by have hz0:=wAI bv;omega);have h7:=aX;rw [h9];omega)) (by rw [bV];exact aX)
 let B1:Res:=.row be bh 23 1 bi
 have cH:sW w U bG [.obj aa (.map am ak),.blk b2 26 B0,B1] bJ:=cG
 refine bnK dv fun x105 cy dh=>zP 0 Z Z Z Z (zN Z Z Try.call44 (zC Z zU) Z) cH (fun hs=>wAb x91 (some ⟨ah,4 + ai * 8,none⟩) 8 bJ bG hs dx cy) (.inr Z) ?_
 rintro b9 dG dU bq dA cI ⟨bb,bg,rfl,rfl⟩
 let B2:Res:=.row bb bg 3 1 (hH KL.encI x105)
 have cJ:sW w U b9 [B2,.obj aa (.map am ak),.blk b2 26 B0,B1] bq:=cI
 have q:=dC _ _ _ dA cJ
 obtain ⟨cd,bX,cK⟩:=q
 have cL:sW w U cd [.blk ah 99 ([.slice ap x26.Bout.Shots.length au,.slice aq x26.Bout.Down.length az,.slice aU x26.Bout.Across.length aW,.map (some aa)] ++ ((hH KL.encI x26.hits.l) ++ ((hH KL.encI x26.used.l) ++ (hH KL.encT x26.met.l)))),B2,.obj aa (.map am ak),.blk b2 26 B0,B1] bq:=cK
 have q:=cL.freezeR (k:=1) (n:=x105.length) rfl (wAG (f:=KL.encI) (sz:=1) (fun _=>rfl) x105) (by decide)
 obtain ⟨aZ,bY,dy,cN⟩:=q
 have cO:sW w U aZ [.blk ah 99 ([.slice ap x26.Bout.Shots.length au,.slice aq x26.Bout.Down.length az,.slice aU x26.Bout.Across.length aW,.map (some aa)] ++ ((hH KL.encI x26.hits.l) ++ ((hH KL.encI x26.used.l) ++ (hH KL.encT x26.met.l)))),.obj aa (.map am ak),.blk b2 26 B0,B1] bq:=cN
 let B3:List Value:=[.slice bb x105.length bg]
 refine Zi (pv:=[(0,.slice bb x105.length bg)]) (zs:=[.slice none 0 0]) (cs:=B3) Z Z Z Z Z (wAT Z wBY) zx zW Try.zeroValue23 Z Z Z Z Z cO ?_
 intro ci cn cM
 have bW:RlL aZ wIX [x105] B3:=(RlL.cons (R:=wIX) (x:=x105) (vs:=B3) ⟨bb,bg,rfl,dy⟩ RlL.nil)
 let B4:Res:=.row (some ⟨cn,0,none⟩) 1 23 1 B3
 have bS:sW w U aZ [B4,.blk ah 99 ([.slice ap x26.Bout.Shots.length au,.slice aq x26.Bout.Down.length az,.slice aU x26.Bout.Across.length aW,.map (some aa)] ++ ((hH KL.encI x26.hits.l) ++ ((hH KL.encI x26.used.l) ++ (hH KL.encT x26.met.l)))),.obj aa (.map am ak),.blk b2 26 B0,B1] ci:=cM
 refine bnK dh fun dD cz dk=>?_
 have cA:=cD.le bX
 have cB:=cA.le bY
 refine OKS.appendR (R:=wIX) (j:=4) (xs:=bj) (ys:=[x105]) (zs:=dD) rfl rfl rfl rfl rfl Try.underlying27 wNy rfl rfl rfl rfl rfl rfl rfl bS rfl rfl rfl cB bW (bS.srcR (j:=0) rfl (by decide) (RlL.len bW)) cz rfl ?_
 intro bD bL bO cj cP dw
 have cQ:sW w U aZ [B4,.blk ah 99 ([.slice ap x26.Bout.Shots.length au,.slice aq x26.Bout.Down.length az,.slice aU x26.Bout.Across.length aW,.map (some aa)] ++ ((hH KL.encI x26.hits.l) ++ ((hH KL.encI x26.used.l) ++ (hH KL.encT x26.met.l)))),.obj aa (.map am ak),.blk b2 26 B0,.row bD bL 23 1 bO] cj:=cP
 refine oA Z Z (ZA (zk (zM (rR fL2 Z (oR Z (ZB (zh Z bu Z) (congrArg (jV) dg.out)) (oM Z Z (ZA ?_)))))))
 cases dk
 exact zM ⟨rfl,⟨aZ,bD,bL,bO,rfl,bt,rfl,bP,((dB.trans bX).trans bY),(cQ.pick [1,2,3,4] _ (by decide) rfl),dw⟩⟩
 rintro dX dI ⟨cf,b5,cp,cq,cx,dJ,ct,cu,dS,cR,cC⟩
 have cr:Hid (¬ ((↑(((↑x26.Bout.Shots.length:Int):Int) - 0).toNat:Int) < (↑x26.Bout.Shots.length:Int))):=zL (wBK)
 refine sR fL1 Z (oR Z (zg Z cx cu) (eN (zG (cF Z cr (ZM (zn (zn (ZE (zM (sR fL3 Z (oM Z ct (oA Z Z (oA Z Z (eN (zR ?_)))))))))))))))
 cases dt
 exact ⟨rfl,_,(wDZ rfl rfl),cf,_,(cR.pick [3] _ (by decide) rfl),b5,cp,cq,rfl,rfl,cC⟩
 intro bs dm
 refine cT Z bs (sR fL3 Z (oM Z Z (oA Z Z (oA Z Z (eN (zR (zJ ?_)))))))
 have cS:=bw.nilrow 23 1
 cases dm
 exact ⟨rfl,_,(wDZ rfl rfl),U9,_,(cS.pick [0] _ (by decide) rfl),none,0,[],rfl,rfl,RlL.nil⟩
theorem wGs (p0:wAC) (ak:Option Addr) (aq:Nat) (am:Option Addr) (au:Nat) (ap:Option Addr) (az:Nat) (w:World) (U:PHeap) (hS:St0 w U []) (bM:Sl U 1 ak aq p0.Shots.length (hH KL.encI p0.Shots)) (bN:Sl U 1 am au p0.Down.length (hH KL.encI p0.Down)) (bO:Sl U 2 ap az p0.Across.length (hH wAB p0.Across)) {r:(List Int) × Int} (hm:wCK p0=some r):Gv Try.prog 31 [.agg #[.slice ak p0.Shots.length aq,.slice am p0.Down.length au,.slice ap p0.Across.length az]] w (wCg w [] U (fun U_ L_ v=>∃ (A0:Option Addr) (c0:Nat),v=.tuple #[.slice A0 r.1.length c0,jV r.2]/\L_=[.row A0 c0 3 1 (hH KL.encI r.1)])):=by
 unfold wCK at hm
 refine Gv.of Try.func31 Z Try.ntmps31 Try.results31 Z (sR gBb Z ?_)
 let B0:List Value:=[.slice ak p0.Shots.length aq,.slice am p0.Down.length au,.slice ap p0.Across.length az]
 refine ZT (cs:=B0) rfl rfl rfl rfl rfl rfl (by rfl) hS ?_
 intro W1 b2 br
 refine oA Z Z (oA Z Z (eN (sR (.fl 0 (.fx 1 (wGt (.nil)) .stop)) Z (oL Z (br.ldBA (j:=0) Z Z Z ZK zj (vs:=B0) Z Z) ?_))))
 have q:=bnd hm
 obtain ⟨⟨x5,x6⟩,h7,ah⟩:=q
 try dsimp only at ah
 refine zP 0 Z Z Z Z (zN Z Z Try.call69 (zC Z zU) Z) br (fun hs=>wCo p0 ak aq am au ap az W1 U hs bM bN bO h7) (.inr Z) ?_
 rintro U9 bW b5 aZ bY bq bp
 rcases x5 with _ | x26
 try dsimp only at ah
 obtain ⟨rfl,rfl⟩:=bp
 have bH:sW w U U9 [.blk b2 26 B0] aZ:=bq
 refine oM Z Z (oR Z (zq Z Z (v:=.pointer none) Z) (oR Z (zq Z Z (v:=jV x6) Z) (oA Z Z (oA Z Z (eN (zG (sR fL2 Z (oM Z Z (oR Z (ZF Z Z Z) (eN (ifc ah ?_ ?_)))))))))))
 intro bh bP
 refine zi (zf (fun h=>h bh.out)) (kN (zG (sR (.fl 0 gAy) Z (oM Z Z ?_))))
 cases bP
 intro bh bQ
 refine cT Z bh (sR fL3 Z (oM Z Z (oA Z Z (oA Z Z (eN (zR (zJ ?_)))))))
 have bI:=bH.nilrow 3 1
 cases bQ
 exact ⟨rfl,_,(wDZ rfl rfl),U9,_,(bI.pick [0] _ (by decide) rfl),none,0,rfl,rfl⟩
 try dsimp only at ah
 obtain ⟨aj,aU,bb,aV,be,aW,bf,ai,bk,bg,rfl,rfl,bz,bA,bB,bC⟩:=bp
 have bs:sW w U U9 [.blk aj 99 ([.slice aU x26.Bout.Shots.length bb,.slice aV x26.Bout.Down.length be,.slice aW x26.Bout.Across.length bf,.map (some ai)] ++ ((hH KL.encI x26.hits.l) ++ ((hH KL.encI x26.used.l) ++ (hH KL.encT x26.met.l)))),.obj ai (.map bk bg),.blk b2 26 B0] aZ:=bq
 refine oM Z Z (oR Z (zq Z Z (v:=.pointer (some ⟨aj,0,none⟩)) Z) (oR Z (zq Z Z (v:=jV x6) Z) (oA Z Z (oA Z Z (eN (zG (sR fL2 Z (oM Z Z (oR Z (ZF Z Z Z) (eN (ifc ah ?_ ?_)))))))))))
 intro bi bR
 refine zi (zf (fun h=>h bi.out)) (kN (zG (sR (.fl 0 gAy) Z (oM Z Z ?_))))
 have q:=bnd bR
 obtain ⟨⟨x42,x43⟩,bD,bt⟩:=q
 try dsimp only at bt
 refine zP 2 Z Z Z Z (zN Z Z Try.call46 (zC Z zU) Z) bs (fun hs=>wBf x26 aj aU bb aV be aW bf ai bk bg aZ U9 hs bz bA bB bC bD) (.inl Z) ?_
 rintro aY bX b9 bw bZ bJ ⟨aX,bo,rfl,rfl,bE⟩
 have bl:sW w U aY [.row aX bo 3 1 (hH KL.encI x42),.blk aj 99 ([.slice aU x26.Bout.Shots.length bb,.slice aV x26.Bout.Down.length be,.slice aW x26.Bout.Across.length bf,.map (some ai)] ++ ((hH KL.encI x43.1.l) ++ ((hH KL.encI x43.2.1.l) ++ (hH KL.encT x43.2.2.l)))),.obj ai (.map bk bg),.blk b2 26 B0] bw:=bJ
 refine oA Z Z (eN (sR fL2 Z (oM Z Z ?_)))
 have bF:aX.isNone=decide (x42=[]):=wGI (j:=0) bl rfl (fun _=>rfl) (by decide) bE
 refine zO rfl rfl rfl rfl (fun _=>Runs.neNilR (b:=decide (¬ (x42=[]))) rfl rfl rfl zA (by simp [bF])) (eN (ifc bt ?_ ?_))
 intro bj bS
 refine zi (zf (fun h=>h bj.out)) (kN (sR fL2 Z (oA Z Z (oA Z Z (eN (zR ?_))))))
 have bK:=bl.nilrow 3 1
 cases bS
 exact ⟨rfl,_,(wDZ rfl rfl),aY,_,(bK.pick [0] _ (by decide) rfl),none,0,rfl,rfl⟩
 intro bj bT
 refine cT Z bj (sR fL3 Z (oM Z Z (oA Z Z (oA Z Z (eN (zR (zJ ?_)))))))
 cases bT
 exact ⟨rfl,_,(wDZ rfl rfl),aY,_,(bl.pick [0] _ (by decide) rfl),aX,bo,rfl,rfl⟩
 intro bi bU
 refine cT Z bi (sR fL3 Z (oM Z Z (oA Z Z (oA Z Z (eN (zR (zJ ?_)))))))
 have bL:=bs.nilrow 3 1
 cases bU
 exact ⟨rfl,_,(wDZ rfl rfl),U9,_,(bL.pick [0] _ (by decide) rfl),none,0,rfl,rfl⟩
end Go.Proofs.Ytfcmijinklojbaa
namespace Go.Proofs.Ytfcmijinklojbaa
open Go.KL
set_option maxHeartbeats 4000000
theorem wEU (p0:Int) (p1:List Int) (aj:Option Addr) (ak:Nat) (w:World) (U:PHeap) (hS:St0 w U []) (bk:Sl U 1 aj ak p1.length (hH KL.encI p1)) {r:Int} (hm:wBv p0 p1=some r):Gv Try.prog 47 [jV p0,.slice aj p1.length ak] w (wCg w [] U (fun U_ L_ v=>v=jV r/\L_=[])):=by
 unfold wBv at hm
 refine Gv.of Try.func47 Z Try.ntmps47 Try.results47 Z (sR fL1 Z (oA Z Z (eN (zG (sR fL3 Z (oM Z Z (oR Z (zt Z Z zA) (oM Z Z (eN (zd (bnK hm fun bA bm bp=>?_)))))))))))
 have q:=wCO bm
 obtain ⟨ai,bl⟩:=q
 replace ai:=zL ai
 refine CK.forN' (fun k7 x6 σ_ w_=>∃ (U_:PHeap),σ_ 9=jV (↑k7:Int)/\σ_ 0=jV x6/\σ_ 7=.slice aj p1.length ak/\σ_ 8=jV (↑p1.length:Int)/\PHeap.Le U U_/\sW w U U_ [] w_) bl ?_ ?_ ?_
 exact ⟨U,Z,Z,Z,Z,(zo _),hS⟩
 rintro k7 x6 bz bB br ah ⟨aX,ae,ba,ap,aq,aU,az⟩ bq
 have am:Hid ((↑k7:Int) < (↑p1.length:Int)):=zL (wBm ah)
 replace ah:=zL ah
 have bn:Hid (w64 ((↑k7:Int) + 1)=(↑(k7 + 1):Int)):=zL (by have h1:=ai.out;have h2:=am.out;rw [wAY] <;> omega)
 refine sR fL1 Z (oR Z (zg Z ae aq) (eN (zG (cT Z am (kN (zG (zd (sR fL3 Z (bnK bq fun x28 au bo=>?_)))))))))
 have bg:=bk.le aU
 have q:=bg.el (fun _=>rfl) (wAx au)
 obtain ⟨bt,bw,bh,bi⟩:=q
 refine oR Z (zu Z ap bh ae zA zB (wCA au)) (oL Z (az.ldC (f:=0) bi (v:=jV x28) Z Z zH Z) (oA Z Z (eN (rR fL4 Z (oM Z ba (oM Z Z (oR Z (Runs.min Z Z Z) (oA Z Z (ZA (zk (zM (rR fL2 Z (oR Z (ZB (zh Z ae Z) (congrArg (jV) bn.out)) (oM Z Z (ZA ?_)))))))))))))))
 cases bo
 exact zM ⟨Z,⟨aX,Z,Z,ap,aq,aU,az⟩⟩
 rintro bC bs ⟨aY,bf,bb,bu,be,bv,bj⟩
 have aZ:Hid (¬ ((↑(((↑p1.length:Int):Int) - 0).toNat:Int) < (↑p1.length:Int))):=zL (wBK)
 refine sR fL1 Z (oR Z (zg Z bf be) (eN (zG (cF Z aZ (ZM (zn (zn (ZE (zM (sR fL2 Z (oM Z bb (oA Z Z (eN (zR ?_))))))))))))))
 have hE:=nA bp;first | subst r | cases hE
 exact ⟨Z,_,(zz Z),aY,_,bj,Z,Z⟩
theorem wGc (p0:wAC) (bS:Option Addr) (bV:Nat) (bT:Option Addr) (bW:Nat) (bU:Option Addr) (bX:Nat) (w:World) (U:PHeap) (hS:St0 w U []) (iC:Sl U 1 bS bV p0.Shots.length (hH KL.encI p0.Shots)) (iD:Sl U 1 bT bW p0.Down.length (hH KL.encI p0.Down)) (iE:Sl U 2 bU bX p0.Across.length (hH wAB p0.Across)) {r:(List wAS) × Int} (hm:wCC p0=some r):Gv Try.prog 12 [.agg #[.slice bS p0.Shots.length bV,.slice bT p0.Down.length bW,.slice bU p0.Across.length bX]] w (wCg w [] U (fun U_ L_ v=>∃ (A0:Option Addr) (c0:Nat),v=.tuple #[.slice A0 r.1.length c0,jV r.2]/\L_=[.row A0 c0 44 2 (hH wAd r.1)])):=by
 unfold wCC at hm
 refine Go.KX.Gv.ofM Try.func12 Z Try.ntmps12 Try.results12 (zD Z) ?_
 have cJ:=hS.mks0
 refine sR gBb Z ?_
 let B0:List Value:=[.slice bS p0.Shots.length bV,.slice bT p0.Down.length bW,.slice bU p0.Across.length bX]
 refine ZT (cs:=B0) rfl rfl rfl rfl rfl rfl (by rfl) cJ ?_
 intro W3 b4 d8
 refine oA Z Z (oA Z Z (eN (sR (.fl 0 (.fx 1 (fC2_4 (.fx 5 (.fx 6 (.fl 7 .nil) .stop) .stop)) .stop)) Z (oL Z (d8.ldBA (j:=0) Z Z Z ZK zj (vs:=B0) Z Z) ?_))))
 have q:=bnd hm
 obtain ⟨⟨x7,x8⟩,h9,bE⟩:=q
 try dsimp only at bE
 refine zP 0 Z Z Z Z (zN Z Z Try.call42 (zC Z zU) Z) d8 (fun hs=>wDD p0 bS bV bT bW bU bX W3 U hs iC iD iE h9) (.inr Z) ?_
 rintro bh jm j0 dp jR dW dU
 rcases x7 with _ | x28
 try dsimp only at bE
 obtain ⟨rfl,rfl⟩:=dU
 have gO:sW w U bh [.blk b4 26 B0,mks []] dp:=dW
 refine oM Z Z (oR Z (zq Z Z (v:=.pointer none) Z) (oR Z (zq Z Z (v:=jV x8) Z) (ZR (cs:=[.pointer none]) Z Z Z Z Z Try.zeroValue89 Z gO ?_)))
 intro jy eW gT
 refine ZG (j:=0) (vs:=[.pointer none]) Z Z Z Z gT Z Z Z Z Try.sizeOf89 (zD Z) Z Z Z ?_
 intro eM gX
 let B1:Res:=.blk eW 89 [.pointer none]
 have dY:sW w U bh [B1,.blk b4 26 B0,mks []] eM:=gX
 refine oA Z Z (eN (zG (sR fL2 Z (oM Z Z (oR Z (ZF Z Z Z) (eN (ifc bE ?_ ?_)))))))
 intro cx iW
 refine zi (zf (fun h=>h cx.out)) (kN (sR fL1 Z (oA Z Z (eN (zG (sR fL7 Z (oL Z (dY.ldB (j:=0) Z Z Z ZD (v:=.pointer none) Z) ?_)))))))
 cases iW
 intro cx iX
 refine cT Z cx (sR fL3 Z (oM Z Z (oA Z Z (oA Z Z (eN (zR (zJ ?_)))))))
 have ic:=dY.nilrow 44 2
 refine wEK (by first | exact .inl rfl | exact .inr rfl) (rbs:=[]) (L:=[.row none 0 44 2 [],B1,.blk b4 26 B0]) (ic.pick [3,0,1,2] _ (by decide) rfl) fun eS il=>?_
 have io:sW w U bh [.row none 0 44 2 [],B1,.blk b4 26 B0] eS:=il
 cases iX
 exact ⟨_,(wDZ rfl rfl),bh,_,(io.pick [0] _ (by decide) rfl),none,0,rfl,rfl⟩
 try dsimp only at bE
 obtain ⟨ab,ae,ah,ai,aj,ak,ap,aa,aU,az,rfl,rfl,gh,gi,gj,gm⟩:=dU
 have iv:sW w U bh [.blk ab 99 ([.slice ae x28.Bout.Shots.length ah,.slice ai x28.Bout.Down.length aj,.slice ak x28.Bout.Across.length ap,.map (some aa)] ++ ((hH KL.encI x28.hits.l) ++ ((hH KL.encI x28.used.l) ++ (hH KL.encT x28.met.l)))),.obj aa (.map aU az),.blk b4 26 B0,mks []] dp:=dW
 refine oM Z Z (oR Z (zq Z Z (v:=.pointer (some ⟨ab,0,none⟩)) Z) (oR Z (zq Z Z (v:=jV x8) Z) (ZR (cs:=[.pointer none]) Z Z Z Z Z Try.zeroValue89 Z iv ?_)))
 intro jB au iw
 let B2:List Value:=[.pointer (some ⟨ab,0,none⟩)]
 refine ZG (j:=0) (vs:=B2) Z Z Z Z iw Z Z Z Z Try.sizeOf89 (zD Z) Z Z Z ?_
 intro eV iy
 have bM:sW w U bh [.blk au 89 B2,.blk ab 99 ([.slice ae x28.Bout.Shots.length ah,.slice ai x28.Bout.Down.length aj,.slice ak x28.Bout.Across.length ap,.map (some aa)] ++ ((hH KL.encI x28.hits.l) ++ ((hH KL.encI x28.used.l) ++ (hH KL.encT x28.met.l)))),.obj aa (.map aU az),.blk b4 26 B0,mks []] eV:=iy
 refine oA Z Z (eN (zG (sR fL2 Z (oM Z Z (oR Z (ZF Z Z Z) (eN (ifc bE ?_ ?_)))))))
 intro cy i3
 refine zi (zf (fun h=>h cy.out)) (kN (sR fL1 Z (oA Z Z (eN (zG (sR fL7 Z (oL Z (bM.ldB (j:=0) Z Z Z ZD (v:=.pointer (some ⟨ab,0,none⟩)) Z) (oR Z (zl Z Z) (oR Z (zK Z Z zV Z zj) (oR Z (zK Z Z zF Z zW) (oL Z (bM.ldB (j:=1) Z Z Z ze (v:=.slice ae x28.Bout.Shots.length ah) Z) (oR Z (zt Z Z zA) (oM Z Z (eN (zd (bnK i3 fun jl iG i5=>?_))))))))))))))))
 have q:=wCO iG
 obtain ⟨cM,iH⟩:=q
 replace cM:=zL cM
 refine CK.forN'D (fun aX bk D_ σ_ w_=>∃ (U_:PHeap) (aW:List Nat) (bo:Option Addr) (bp:Nat),D_=List.map Go.KX.mark aW/\σ_ 27=jV (↑aX:Int)/\σ_ 4=.pointer (some ⟨au,0,none⟩)/\σ_ 6=.slice bo bk.length bp/\σ_ 25=.slice ae x28.Bout.Shots.length ah/\σ_ 26=jV (↑x28.Bout.Shots.length:Int)/\PHeap.Le bh U_/\sW w U U_ [.blk au 89 B2,.blk ab 99 ([.slice ae x28.Bout.Shots.length ah,.slice ai x28.Bout.Down.length aj,.slice ak x28.Bout.Across.length ap,.map (some aa)] ++ ((hH KL.encI x28.hits.l) ++ ((hH KL.encI x28.used.l) ++ (hH KL.encT x28.met.l)))),.obj aa (.map aU az),.blk b4 26 B0,mks aW,.row bo bp 44 2 (hH wAd bk)] w_) iH ?_ ?_ ?_
 have iz:=bM.nilrow 44 2
 exact ⟨bh,[],none,0,rfl,rfl,rfl,rfl,rfl,rfl,(zo _),(iz.pick [1,2,3,4,5,0] _ (by decide) rfl)⟩
 rintro aX bk k9 D_ lh jC cL ⟨dk,aW,bo,bp,rfl,bJ,dC,fd,dD,dE,bR,d9⟩ i9
 have dz:Hid ((↑aX:Int) < (↑x28.Bout.Shots.length:Int)):=zL (wBm cL)
 replace cL:=zL cL
 have iJ:Hid (w64 ((↑aX:Int) + 1)=(↑(aX + 1):Int)):=zL (by have h1:=cM.out;have h2:=dz.out;rw [wAY] <;> omega)
 refine sR fL1 Z (oR Z (zg Z bJ dE) (eN (zG (cT Z dz (kN (zG (zd (sR fL5 Z (oM Z bJ (bnK i9 fun x106 dP iL=>?_))))))))))
 have dQ:=gh.le bR
 have q:=dQ.el (fun _=>rfl) (wAx dP)
 obtain ⟨jD,jU,gu,gw⟩:=q
 refine oR Z (zu Z dD gu bJ zA zB (wCA dP)) (oL Z (d9.ldC (f:=0) gw (v:=jV x106) Z Z zH Z) (oA Z Z (oA Z Z (eN (sR (.fx 0 (.fx 1 .nil .stop) .stop) Z (ZR (cs:=[jV 0]) Z Z Z Z Z Ze Z d9 ?_))))))
 intro jw bi gA
 refine ZG (j:=0) (vs:=[jV 0]) Z Z Z Z gA Z Z Z Z zB (zD Z) Z Z Z ?_
 intro dm gB
 let B3:Res:=.row bo bp 44 2 (hH wAd bk)
 have dV:sW w U dk [.blk bi 3 [jV 0],.blk au 89 B2,.blk ab 99 ([.slice ae x28.Bout.Shots.length ah,.slice ai x28.Bout.Down.length aj,.slice ak x28.Bout.Across.length ap,.map (some aa)] ++ ((hH KL.encI x28.hits.l) ++ ((hH KL.encI x28.used.l) ++ (hH KL.encT x28.met.l)))),.obj aa (.map aU az),.blk b4 26 B0,mks aW,B3] dm:=gB
 refine eN (zG (sR gBd Z (oL Z (dV.ldB (j:=1) Z Z dC ZD (v:=.pointer (some ⟨ab,0,none⟩)) Z) (oM Z Z ?_))))
 have q:=bnd iL
 obtain ⟨⟨⟩,fB,ed⟩:=q
 try dsimp only at ed
 refine zP 0 Z Z Z Z (zN Z Z Try.call43 (zC Z (zC Z zU)) Z) dV (fun hs=>wDC () ab (↑aX:Int) dm dk hs fB) (.inr Z) ?_
 rintro cZ jo jZ eH bN gC ⟨du,dv,dw,rfl,rfl,fC,fD,fE⟩
 have gD:sW w U cZ [.blk bi 3 [jV 0],.blk au 89 B2,.blk ab 99 ([.slice ae x28.Bout.Shots.length ah,.slice ai x28.Bout.Down.length aj,.slice ak x28.Bout.Across.length ap,.map (some aa)] ++ ((hH KL.encI x28.hits.l) ++ ((hH KL.encI x28.used.l) ++ (hH KL.encT x28.met.l)))),.obj aa (.map aU az),.blk b4 26 B0,mks aW,B3] eH:=gC
 refine eN (zd (Zf fun bn bj=>?_))
 have dF:bn 4=.pointer (some ⟨au,0,none⟩):=(bj 4).trans dC
 have dG:bn 6=.slice bo bk.length bp:=(bj 6).trans fd
 have dH:bn 7=jV (↑aX:Int):=(bj 7).trans rfl
 have dI:bn 8=jV x106:=(bj 8).trans rfl
 have dJ:bn 9=.pointer (some ⟨bi,0,none⟩):=(bj 9).trans rfl
 have dK:bn 25=.slice ae x28.Bout.Shots.length ah:=(bj 25).trans dD
 have dL:bn 26=jV (↑x28.Bout.Shots.length:Int):=(bj 26).trans dE
 have dM:bn 27=jV (↑aX:Int):=(bj 27).trans bJ
 have fe:bn 34=.func (.func 83) #[] #[.pointer (some ⟨du,0,none⟩),.pointer (some ⟨dv,0,none⟩),.pointer (some ⟨dw,0,none⟩)]:=(bj 34).trans rfl
 clear bj
 refine bnK ed fun ez iK ef=>?_
 have dR:=dQ.le bN
 have fG:=gi.le bR
 have cH:=fG.le bN
 have fH:=gj.le bR
 have dS:=fH.le bN
 refine CK.rangeYV (fun U_ L_=>∃ (i_ j_:Nat) (a0_:Arr Int 64) (a1_:Arr Int 8) (a2_:Arr Bool 16),L_[i_]?=some (.blk ab 99 ([.slice ae x28.Bout.Shots.length ah,.slice ai x28.Bout.Down.length aj,.slice ak x28.Bout.Across.length ap,.map (some aa)] ++ ((hH KL.encI a0_.l) ++ ((hH KL.encI a1_.l) ++ (hH KL.encT a2_.l)))))/\L_[j_]?=some (.obj aa (.map aU az))) (by rintro _ _ _ ⟨i,j,a0,a1,a2,hi,hj⟩;exact ⟨i + 1,j + 1,a0,a1,a2,hi,hj⟩) (S:=Int) (E:=Empty) (ar:=wJk) (PY:=(fun (bu:Int) (U_:PHeap) (L_:List Res)=>L_=[.blk bi 3 [jV bu],.blk au 89 B2,.blk ab 99 ([.slice ae x28.Bout.Shots.length ah,.slice ai x28.Bout.Down.length aj,.slice ak x28.Bout.Across.length ap,.map (some aa)] ++ ((hH KL.encI x28.hits.l) ++ ((hH KL.encI x28.used.l) ++ (hH KL.encT x28.met.l)))),.obj aa (.map aU az),.blk b4 26 B0,mks aW,.row bo bp 44 2 (hH wAd bk)])) (PE:=(fun (_:Empty) _ _=>False)) (exO:=Empty.elim) (s0:=0) (rr:=ez) fe Try.call83 gD (by decide) (fun _ _ _ h=>by obtain rfl:=h;rfl) (fun e=>nomatch e) rfl (by rintro bu _ _ rfl;exact ⟨2,3,x28.hits,x28.used,x28.met,rfl,rfl⟩) (fun l w1 L1 PY' PE' cJ gy iB iA=>wCr PY' PE' _ l _ x28 du ab ae ah ai aj ak ap aa aU az () dv (↑aX:Int) dw w1 L1 cZ cJ gy iB iA fC dR cH dS gm fD fE iK) ?_ ?_
 rintro cN jY jQ bu eA j8 jX cO jp jj je cd ja gE gz iF ec bl be
 obtain rfl:=gz
 obtain rfl:=iF
 replace be:∀ t,bl t=upd bn 35 (jV eA) t:=be
 have ff:bl 35=jV eA:=(be 35).trans (wCN _ _ _)
 have fg:bl 4=.pointer (some ⟨au,0,none⟩):=(be 4).trans ((wBl _ _ (by decide)).trans dF)
 have jH:bl 6=.slice bo bk.length bp:=(be 6).trans ((wBl _ _ (by decide)).trans dG)
 have jJ:bl 7=jV (↑aX:Int):=(be 7).trans ((wBl _ _ (by decide)).trans dH)
 have jK:bl 8=jV x106:=(be 8).trans ((wBl _ _ (by decide)).trans dI)
 have dN:bl 9=.pointer (some ⟨bi,0,none⟩):=(be 9).trans ((wBl _ _ (by decide)).trans dJ)
 have jL:bl 25=.slice ae x28.Bout.Shots.length ah:=(be 25).trans ((wBl _ _ (by decide)).trans dK)
 have jM:bl 26=jV (↑x28.Bout.Shots.length:Int):=(be 26).trans ((wBl _ _ (by decide)).trans dL)
 have jN:bl 27=jV (↑aX:Int):=(be 27).trans ((wBl _ _ (by decide)).trans dM)
 clear be
 let B4:Res:=.blk bi 3 [jV bu]
 have gF:St cd cO [.obj cN je,B4,.blk au 89 B2,.blk ab 99 ([.slice ae x28.Bout.Shots.length ah,.slice ai x28.Bout.Down.length aj,.slice ak x28.Bout.Across.length ap,.map (some aa)] ++ ((hH KL.encI x28.hits.l) ++ ((hH KL.encI x28.used.l) ++ (hH KL.encT x28.met.l)))),.obj aa (.map aU az),.blk b4 26 B0,mks aW,B3] jj:=gE
 try dsimp only at ec
 refine rR fL1 Z (oA Z ff (ZA ⟨Z,Z,_,_,gF,fun ci ey gG=>?_⟩))
 have gH:St cd cO [.obj cN ey,B4,.blk au 89 B2,.blk ab 99 ([.slice ae x28.Bout.Shots.length ah,.slice ai x28.Bout.Down.length aj,.slice ak x28.Bout.Across.length ap,.map (some aa)] ++ ((hH KL.encI x28.hits.l) ++ ((hH KL.encI x28.used.l) ++ (hH KL.encT x28.met.l)))),.obj aa (.map aU az),.blk b4 26 B0,mks aW,B3] ci:=gG
 refine zd (ZI ZJ [1,1,3,3,3,1,3,3,1,3,0] (wQi (.fx 10 .nil .stop)) (by kernel_rfl) ?_)
 have bw:=gH.drew
 generalize hw_W226:({ ci with drawn:=ci.drawn + 1 }:World)=jx at bw ⊢
 refine oL Z (bw.ldB (j:=1) Z Z dN zH (v:=jV bu) Z) (oL Z (bw.ldB (j:=2) Z Z fg ZD (v:=.pointer (some ⟨ab,0,none⟩)) Z) (oR Z (zl Z Z) (oR Z (zK Z Z zV Z zj) (oR Z (zK Z Z zF Z zW) (oL Z (bw.ldB (j:=3) Z Z Z ze (v:=.slice ai x28.Bout.Down.length aj) Z) (oM Z Z (bnK ec fun cP cI iM=>?_)))))))
 have fJ:=cH.le ja
 have q:=fJ.el (fun _=>rfl) (wAx cI)
 obtain ⟨jE,jW,gv,gx⟩:=q
 refine oR Z (ZU Z Z gv Z zA zB (wEr cI) (wFV cI)) (oL Z (bw.ldC (f:=0) gx (v:=jV cP) Z Z zH Z) (oR Z (zh Z Z Z) (ZG (j:=1) (vs:=[jV (w64 (bu + cP))]) Z Z Z Z bw Z dN Z Z zB (zD Z) Z Z Z ?_)))
 intro eI gI
 have gJ:St cd cO [.obj cN ey,.blk bi 3 [jV (w64 (bu + cP))],.blk au 89 B2,.blk ab 99 ([.slice ae x28.Bout.Shots.length ah,.slice ai x28.Bout.Down.length aj,.slice ak x28.Bout.Across.length ap,.map (some aa)] ++ ((hH KL.encI x28.hits.l) ++ ((hH KL.encI x28.used.l) ++ (hH KL.encT x28.met.l)))),.obj aa (.map aU az),.blk b4 26 B0,mks aW,B3] eI:=gI
 refine ZA (zk ?_)
 have q:=nA iM
 obtain rfl:=q
 exact ⟨_,_,gJ,Z,Z⟩
 rintro aZ bC jq dq bO gK
 rcases ez with br | e9
 try dsimp only at ef
 rintro rfl
 let B5:Res:=.blk bi 3 [jV br]
 have gL:sW w U bC [B5,.blk au 89 B2,.blk ab 99 ([.slice ae x28.Bout.Shots.length ah,.slice ai x28.Bout.Down.length aj,.slice ak x28.Bout.Across.length ap,.map (some aa)] ++ ((hH KL.encI x28.hits.l) ++ ((hH KL.encI x28.used.l) ++ (hH KL.encT x28.met.l)))),.obj aa (.map aU az),.blk b4 26 B0,mks aW,B3,.obj aZ (.deferred (some []))] dq:=gK
 have gM:sW w U bC [mks (aZ :: aW),B5,.blk au 89 B2,.blk ab 99 ([.slice ae x28.Bout.Shots.length ah,.slice ai x28.Bout.Down.length aj,.slice ak x28.Bout.Across.length ap,.map (some aa)] ++ ((hH KL.encI x28.hits.l) ++ ((hH KL.encI x28.used.l) ++ (hH KL.encT x28.met.l)))),.obj aa (.map aU az),.blk b4 26 B0,B3] dq:=(gL.pick [5,7,0,1,2,3,4,6] _ (by decide) rfl).mksAdd
 refine zk (zM (sR fL1 Z (oA Z Z (eN (bnK ef fun bB i8 iN=>CK.cutD (fun D_ σ_ w_=>∃ (U_:PHeap),D_=List.map Go.KX.mark (aZ :: aW)/\σ_ 4=.pointer (some ⟨au,0,none⟩)/\σ_ 6=.slice bo bk.length bp/\σ_ 8=jV x106/\σ_ 9=.pointer (some ⟨bi,0,none⟩)/\σ_ 11=jV bB/\σ_ 25=.slice ae x28.Bout.Shots.length ah/\σ_ 26=jV (↑x28.Bout.Shots.length:Int)/\σ_ 27=jV (↑aX:Int)/\PHeap.Le bC U_/\sW w U U_ [mks (aZ :: aW),B5,.blk au 89 B2,.blk ab 99 ([.slice ae x28.Bout.Shots.length ah,.slice ai x28.Bout.Down.length aj,.slice ak x28.Bout.Across.length ap,.map (some aa)] ++ ((hH KL.encI x28.hits.l) ++ ((hH KL.encI x28.used.l) ++ (hH KL.encT x28.met.l)))),.obj aa (.map aU az),.blk b4 26 B0,B3] w_) ?_ ?_)))))
 refine zd (CK.iterD (fun bf D_ σ_ w_=>∃ (U_:PHeap),D_=List.map Go.KX.mark (aZ :: aW)/\σ_ 4=.pointer (some ⟨au,0,none⟩)/\σ_ 6=.slice bo bk.length bp/\σ_ 7=jV (↑aX:Int)/\σ_ 8=jV x106/\σ_ 9=.pointer (some ⟨bi,0,none⟩)/\σ_ 11=jV bf/\σ_ 25=.slice ae x28.Bout.Shots.length ah/\σ_ 26=jV (↑x28.Bout.Shots.length:Int)/\σ_ 27=jV (↑aX:Int)/\PHeap.Le bC U_/\sW w U U_ [mks (aZ :: aW),B5,.blk au 89 B2,.blk ab 99 ([.slice ae x28.Bout.Shots.length ah,.slice ai x28.Bout.Down.length aj,.slice ak x28.Bout.Across.length ap,.map (some aa)] ++ ((hH KL.encI x28.hits.l) ++ ((hH KL.encI x28.used.l) ++ (hH KL.encT x28.met.l)))),.obj aa (.map aU az),.blk b4 26 B0,B3] w_) i8 ?_ ?_)
 exact ⟨bC,Z,dF,dG,dH,dI,dJ,Z,dK,dL,dM,(zo _),gM⟩
 rintro bf j9 D_ lc eJ ⟨da,rfl,bv,cA,dO,bI,cB,bD,cC,cD,cE,bA,bL⟩ ej eb
 refine zG (sR fL3 Z (oM Z bD (oM Z bI (oR Z (zg Z Z Z) (eN ?_)))))
 by_cases bq:bf < x106
 have eg:=ej;rw [if_pos bq] at eg;replace bq:=zL bq
 refine cT Z bq (kN (zd (sR (wFT gAz) Z (oL Z (bL.ldB (j:=2) Z Z bv ZD (v:=.pointer (some ⟨ab,0,none⟩)) Z) (oR Z (zl Z Z) (oR Z (zK Z Z zV Z zj) (oR Z (zK Z Z zF Z zW) (oL Z (bL.ldB (j:=3) Z Z Z ze (v:=.slice ae x28.Bout.Shots.length ah) Z) ?_))))))))
 have fK:=dR.le bO
 have fL:=fK.le bA
 refine bnK eg fun bg fM iO=>zP 0 Z Z Z Z (zN Z Z Try.call44 (zC Z zU) Z) bL (fun hs=>wAb x28.Bout.Shots ae ah eJ da hs fL fM) (.inr Z) ?_
 rintro db jr j4 eK bP gN ⟨bs,bt,rfl,rfl⟩
 have dX:sW w U db [.row bs bt 3 1 (hH KL.encI bg),mks (aZ :: aW),B5,.blk au 89 B2,.blk ab 99 ([.slice ae x28.Bout.Shots.length ah,.slice ai x28.Bout.Down.length aj,.slice ak x28.Bout.Across.length ap,.map (some aa)] ++ ((hH KL.encI x28.hits.l) ++ ((hH KL.encI x28.used.l) ++ (hH KL.encT x28.met.l)))),.obj aa (.map aU az),.blk b4 26 B0,B3] eK:=gN
 refine oA Z Z (eN (sR (wJK (.fx 4 .nil .stop)) Z (oM Z Z (oM Z dO (oM Z bD (bnK iO fun _ bK iP=>?_))))))
 obtain ⟨jG,dT⟩:=dX.rowSome (j:=0) rfl (by rw [wAG (f:=KL.encI) (sz:=1) (fun _=>rfl) bg];have hz:=wAI bK;omega)
 refine oR Z (zu Z Z dT Z zA zB (wAI bK)) ?_
 have iI:=wBX (xs:=bg) (wAI bK)
 refine Zk (j:=0) (vs:=[jV bf]) (cs':=hH KL.encI (nB bg aX bf)) rfl rfl rfl rfl dX rfl dT rfl rfl rfl zB (by rw [wAG (f:=KL.encI) (sz:=1) (fun _=>rfl)];have hz:=wAI bK;show _ + 1 <= _;first | omega | (simp only [nH];omega) | (simp only [nG,nD,nE];omega)) rfl (wCU (sz:=1) (fo:=0) (fun _=>rfl) _ _ _ _ iI (by first | omega | (simp only [nH];omega) | (simp only [nG,nD,nE];omega)) (zD rfl) rfl) rfl ?_
 intro cj gP
 have gQ:sW w U db [.row bs bt 3 1 (hH KL.encI (nB bg aX bf)),mks (aZ :: aW),B5,.blk au 89 B2,.blk ab 99 ([.slice ae x28.Bout.Shots.length ah,.slice ai x28.Bout.Down.length aj,.slice ak x28.Bout.Across.length ap,.map (some aa)] ++ ((hH KL.encI x28.hits.l) ++ ((hH KL.encI x28.used.l) ++ (hH KL.encT x28.met.l)))),.obj aa (.map aU az),.blk b4 26 B0,B3] cj:=gP
 refine eN (zG (zG (ZI ZJ [3,1,3,3,3,1,1,3,3,3,1,3,2,0,3] (wQj (.fx 12 (.fx 13 (.fl 14 .nil) .stop) .stop)) (by kernel_rfl) ?_)))
 have bz:=gQ.drew
 generalize hw_W303:({ cj with drawn:=cj.drawn + 1 }:World)=dr at bz ⊢
 refine zZ rfl rfl rfl rfl rfl (Eq.trans (b:=(.slice bs bg.length bt:Value)) (c:=(.slice bs ((nB bg aX bf).length) bt:Value)) rfl (by simp only [nI])) (zm rfl rfl rfl rfl (bz.ldB (j:=3) rfl rfl bv ZD (v:=.pointer (some ⟨ab,0,none⟩)) rfl) rfl (zO rfl rfl rfl rfl (fun _=>zl rfl rfl) (zO rfl rfl rfl rfl (fun _=>zK rfl rfl zV rfl zj) (zO rfl rfl rfl rfl (fun _=>zK rfl rfl zF rfl zW) (zm rfl rfl rfl rfl (bz.ldB (j:=4) rfl rfl rfl ze (v:=.slice ai x28.Bout.Down.length aj) rfl) rfl (zm rfl rfl rfl rfl (bz.ldB (j:=3) rfl rfl bv ZD (v:=.pointer (some ⟨ab,0,none⟩)) rfl) rfl (zO rfl rfl rfl rfl (fun _=>zl rfl rfl) (zO rfl rfl rfl rfl (fun _=>zK rfl rfl zV rfl zj) (zO rfl rfl rfl rfl (fun _=>zK rfl rfl zF rfl ZW) (zm rfl rfl rfl rfl (bz.ldB (j:=4) rfl rfl rfl Zd (v:=.slice ak x28.Bout.Across.length ap) rfl) rfl (zO rfl rfl rfl rfl (fun _=>Zb (pv:=[(0,.slice bs ((nB bg aX bf).length) bt),(1,.slice ai x28.Bout.Down.length aj),(2,.slice ak x28.Bout.Across.length ap)]) (z:=[.slice none 0 0,.slice none 0 0,.slice none 0 0]) (cs:=[.slice bs ((nB bg aX bf).length) bt,.slice ai x28.Bout.Down.length aj,.slice ak x28.Bout.Across.length ap]) rfl (wAT rfl (wAT rfl (wAT rfl wBY))) Try.zeroValue26 wJl rfl rfl) ?_)))))))))))
 have q:=bz.freezeR (k:=0) (n:=(nB bg aX bf).length) rfl (wAG (f:=KL.encI) (sz:=1) (fun _=>rfl) (nB bg aX bf)) (by decide)
 obtain ⟨de,bQ,i6,gR⟩:=q
 have gS:sW w U de [mks (aZ :: aW),B5,.blk au 89 B2,.blk ab 99 ([.slice ae x28.Bout.Shots.length ah,.slice ai x28.Bout.Down.length aj,.slice ak x28.Bout.Across.length ap,.map (some aa)] ++ ((hH KL.encI x28.hits.l) ++ ((hH KL.encI x28.used.l) ++ (hH KL.encT x28.met.l)))),.obj aa (.map aU az),.blk b4 26 B0,B3] dr:=gR
 have fN:=cH.le bO
 have fO:=fN.le bA
 have fP:=fO.le bP
 have fQ:=fP.le bQ
 have fR:=dS.le bO
 have fS:=fR.le bA
 have fT:=fS.le bP
 have fU:=fT.le bQ
 refine bnK iP fun bm fV iQ=>zP 0 Z Z Z Z (zN Z Z Try.call45 (zC Z zU) Z) gS (fun hs=>wDA (⟨(nB bg aX bf),x28.Bout.Down,x28.Bout.Across⟩:wAC) bs bt ai aj ak ap dr de hs i6 fQ fU fV) (.inr Z) ?_
 rintro df jt j5 dt en gU ⟨cp,bY,cq,bZ,cr,b5,ct,bF,cz,cu,rfl,rfl,fW,fY,fZ,ga⟩
 have gW:sW w U df [.blk cp 99 ([.slice bY bm.Bout.Shots.length cq,.slice bZ bm.Bout.Down.length cr,.slice b5 bm.Bout.Across.length ct,.map (some bF)] ++ ((hH KL.encI bm.hits.l) ++ ((hH KL.encI bm.used.l) ++ (hH KL.encT bm.met.l)))),.obj bF (.map cz cu),mks (aZ :: aW),B5,.blk au 89 B2,.blk ab 99 ([.slice ae x28.Bout.Shots.length ah,.slice ai x28.Bout.Down.length aj,.slice ak x28.Bout.Across.length ap,.map (some aa)] ++ ((hH KL.encI x28.hits.l) ++ ((hH KL.encI x28.used.l) ++ (hH KL.encT x28.met.l)))),.obj aa (.map aU az),.blk b4 26 B0,B3] dt:=gU
 have q:=bnd iQ
 obtain ⟨⟨eC,cQ⟩,gb,eh⟩:=q
 try dsimp only at eh
 refine zP 2 Z Z Z Z (zN Z Z Try.call46 (zC Z zU) Z) gW (fun hs=>wBf bm cp bY cq bZ cr b5 ct bF cz cu dt df hs fW fY fZ ga gb) (.inl Z) ?_
 rintro cg ju j6 eO eu gZ ⟨cS,eY,rfl,rfl,gc⟩
 have cK:sW w U cg [.row cS eY 3 1 (hH KL.encI eC),.blk cp 99 ([.slice bY bm.Bout.Shots.length cq,.slice bZ bm.Bout.Down.length cr,.slice b5 bm.Bout.Across.length ct,.map (some bF)] ++ ((hH KL.encI cQ.1.l) ++ ((hH KL.encI cQ.2.1.l) ++ (hH KL.encT cQ.2.2.l)))),.obj bF (.map cz cu),mks (aZ :: aW),B5,.blk au 89 B2,.blk ab 99 ([.slice ae x28.Bout.Shots.length ah,.slice ai x28.Bout.Down.length aj,.slice ak x28.Bout.Across.length ap,.map (some aa)] ++ ((hH KL.encI x28.hits.l) ++ ((hH KL.encI x28.used.l) ++ (hH KL.encT x28.met.l)))),.obj aa (.map aU az),.blk b4 26 B0,B3] eO:=gZ
 have ge:cS.isNone=decide (eC=[]):=wGI (j:=0) cK rfl (fun _=>rfl) (by decide) gc
 refine oR Z (Runs.eqNilR Z Z Z zA ge) (eN (ifc eh ?_ ?_))
 intro cw iR
 refine cT Z cw (ZM (zn (wJN ?_)))
 have q:=wAc iR
 obtain ⟨jg,iT,fb⟩:=q
 have q:=eb jg fb
 obtain rfl:=q
 refine zn (ZE ?_)
 cases iT
 exact zM ⟨cg,rfl,bv,cA,bI,cB,bD,cC,cD,cE,((((bA.trans bP).trans bQ).trans en).trans eu),(cK.pick [3,4,5,6,7,8,9] _ (by decide) rfl)⟩
 intro cw iU
 refine cF Z cw (kN (rR fL3 Z (oM Z bD (oR Z (zh Z Z Z) (oA Z Z (ZA (zk ?_)))))))
 have q:=nA iU
 obtain rfl:=q
 exact zM ⟨_,rfl,⟨cg,rfl,bv,cA,dO,bI,cB,rfl,cC,cD,cE,((((bA.trans bP).trans bQ).trans en).trans eu),(cK.pick [3,4,5,6,7,8,9] _ (by decide) rfl)⟩⟩
 have ei:=ej;rw [if_neg bq] at ei;replace bq:=zL bq
 refine cF Z bq (ZM (zn ?_))
 have q:=wAc ei
 obtain ⟨jh,iV,fc⟩:=q
 have q:=eb jh fc
 obtain rfl:=q
 refine zn (ZE ?_)
 cases iV
 exact zM ⟨da,Z,bv,cA,bI,cB,bD,cC,cD,cE,bA,bL⟩
 rintro D_ lf jz ⟨eG,rfl,fh,fj,cG,fm,fq,ft,fu,fw,jb,dZ⟩
 refine rR (wJK (.fx 4 (.fx 5 (wOF (.fx 11 (.fx 12 (.fl 13 .nil) .stop) .stop)) .stop) .stop)) Z (oM Z fj (oM Z cG (oM Z cG (oL Z (dZ.ldB (j:=1) Z Z fm zH (v:=jV br) Z) (Zi (pv:=[(0,jV br)]) (zs:=[jV 0]) (cs:=[jV br]) Z Z Z Z Z (wAT Z wBY) zA zB Ze Z Z Z Z Z dZ ?_)))))
 intro cn dx g7
 have g8:sW w U eG [.row (some ⟨dx,0,none⟩) 1 3 1 (hH KL.encI [br]),mks (aZ :: aW),B5,.blk au 89 B2,.blk ab 99 ([.slice ae x28.Bout.Shots.length ah,.slice ai x28.Bout.Down.length aj,.slice ak x28.Bout.Across.length ap,.map (some aa)] ++ ((hH KL.encI x28.hits.l) ++ ((hH KL.encI x28.used.l) ++ (hH KL.encT x28.met.l)))),.obj aa (.map aU az),.blk b4 26 B0,B3] cn:=g7
 have q:=g8.freezeR (k:=0) (n:=[br].length) rfl (wAG (f:=KL.encI) (sz:=1) (fun _=>rfl) [br]) (by decide)
 obtain ⟨dg,jc,i7,g9⟩:=q
 have ib:sW w U dg [mks (aZ :: aW),B5,.blk au 89 B2,.blk ab 99 ([.slice ae x28.Bout.Shots.length ah,.slice ai x28.Bout.Down.length aj,.slice ak x28.Bout.Across.length ap,.map (some aa)] ++ ((hH KL.encI x28.hits.l) ++ ((hH KL.encI x28.used.l) ++ (hH KL.encT x28.met.l)))),.obj aa (.map aU az),.blk b4 26 B0,B3] cn:=g9
 refine bnK iN fun bG gf iY=>zP 0 Z Z Z Z (zN Z Z Try.call47 (zC Z (zC Z zU)) Z) ib (fun hs=>wEU x106 [br] (some ⟨dx,0,none⟩) 1 cn dg hs i7 gf) (.inr Z) ?_
 rintro bH jv j7 eP jd ie ⟨rfl,rfl⟩
 have ig:sW w U bH [mks (aZ :: aW),B5,.blk au 89 B2,.blk ab 99 ([.slice ae x28.Bout.Shots.length ah,.slice ai x28.Bout.Down.length aj,.slice ak x28.Bout.Across.length ap,.map (some aa)] ++ ((hH KL.encI x28.hits.l) ++ ((hH KL.encI x28.used.l) ++ (hH KL.encT x28.met.l)))),.obj aa (.map aU az),.blk b4 26 B0,B3] eP:=ie
 refine oR Z (ZV Z Z Z) (oM Z cG (oM Z fq (oR Z (ZV Z Z Z) ?_)))
 let B6:List Value:=[jV (w64 (x106 - bG)),jV (w64 (x106 - bB))]
 refine oR Z (Zb (pv:=[(0,jV (w64 (x106 - bG))),(1,jV (w64 (x106 - bB)))]) (z:=[jV 0,jV 0]) (cs:=B6) Z (wAT Z (wAT Z wBY)) ZX wFB Z Z) (Zi (pv:=[(0,.agg B6.toArray)]) (zs:=[jV 0,jV 0]) (cs:=B6) Z Z Z Z Z (wAT Z wBY) Try.runUnderlying37 ZH ZX Z Z Z Z Z ig ?_)
 intro eQ eX ii
 let B7:Res:=.row (some ⟨eX,0,none⟩) 1 44 2 (hH wAd [(⟨w64 (x106 - bG),w64 (x106 - bB)⟩:wAS)])
 have d7:sW w U bH [B7,mks (aZ :: aW),B5,.blk au 89 B2,.blk ab 99 ([.slice ae x28.Bout.Shots.length ah,.slice ai x28.Bout.Down.length aj,.slice ak x28.Bout.Across.length ap,.map (some aa)] ++ ((hH KL.encI x28.hits.l) ++ ((hH KL.encI x28.used.l) ++ (hH KL.encT x28.met.l)))),.obj aa (.map aU az),.blk b4 26 B0,B3] eQ:=ii
 refine bnK iY fun eD gg iZ=>OKS.append (j:=7) (enc:=wAd) (xs:=bk) (ys:=[(⟨w64 (x106 - bG),w64 (x106 - bB)⟩:wAS)]) (zs:=eD) rfl rfl rfl rfl rfl Try.underlying37 wQd rfl rfl rfl rfl rfl rfl d7 rfl rfl rfl (d7.srcR (j:=0) rfl (by decide) (wAG (f:=wAd) (sz:=2) (fun _=>rfl) [(⟨w64 (x106 - bG),w64 (x106 - bB)⟩:wAS)])) (fun _=>rfl) (fun _=>rfl) gg rfl ?_
 intro cU dA eR ij
 have ik:sW w U bH [B7,mks (aZ :: aW),B5,.blk au 89 B2,.blk ab 99 ([.slice ae x28.Bout.Shots.length ah,.slice ai x28.Bout.Down.length aj,.slice ak x28.Bout.Across.length ap,.map (some aa)] ++ ((hH KL.encI x28.hits.l) ++ ((hH KL.encI x28.used.l) ++ (hH KL.encT x28.met.l)))),.obj aa (.map aU az),.blk b4 26 B0,.row cU dA 44 2 (hH wAd eD)] eR:=ij
 refine oA Z Z (ZA (zk (zM (rR fL2 Z (oR Z (ZB (zh Z fw Z) (congrArg (jV) iJ.out)) (oM Z Z (ZA ?_)))))))
 cases iZ
 exact zM ⟨bH,(aZ :: aW),cU,dA,rfl,rfl,fh,rfl,ft,fu,(((((bR.trans bN).trans bO).trans jb).trans jc).trans jd),(ik.pick [3,4,5,6,1,7] _ (by decide) rfl)⟩
 exact e9.elim
 rintro D_ lg jA ⟨dh,jf,cV,dB,rfl,fA,jO,fy,jP,fz,jS,im⟩
 have eZ:Hid (¬ ((↑(((↑x28.Bout.Shots.length:Int):Int) - 0).toNat:Int) < (↑x28.Bout.Shots.length:Int))):=zL (wBK)
 refine sR fL1 Z (oR Z (zg Z fA fz) (eN (zG (cF Z eZ (ZM (zn (zn (ZE (zM (sR fL3 Z (oM Z fy (oA Z Z (oA Z Z (eN (zR ?_)))))))))))))))
 let B8:Res:=.row cV dB 44 2 (hH wAd jl)
 refine wEK (by first | exact .inl rfl | exact .inr rfl) (rbs:=jf) (L:=[.blk au 89 B2,.blk ab 99 ([.slice ae x28.Bout.Shots.length ah,.slice ai x28.Bout.Down.length aj,.slice ak x28.Bout.Across.length ap,.map (some aa)] ++ ((hH KL.encI x28.hits.l) ++ ((hH KL.encI x28.used.l) ++ (hH KL.encT x28.met.l)))),.obj aa (.map aU az),.blk b4 26 B0,B8]) (im.pick [4,0,1,2,3,5] _ (by decide) rfl) fun eT ip=>?_
 have iq:sW w U dh [.blk au 89 B2,.blk ab 99 ([.slice ae x28.Bout.Shots.length ah,.slice ai x28.Bout.Down.length aj,.slice ak x28.Bout.Across.length ap,.map (some aa)] ++ ((hH KL.encI x28.hits.l) ++ ((hH KL.encI x28.used.l) ++ (hH KL.encT x28.met.l)))),.obj aa (.map aU az),.blk b4 26 B0,B8] eT:=ip
 cases i5
 exact ⟨_,(wDZ rfl rfl),dh,_,(iq.pick [4] _ (by decide) rfl),cV,dB,rfl,rfl⟩
 intro cy i0
 refine cT Z cy (sR fL3 Z (oM Z Z (oA Z Z (oA Z Z (eN (zR (zJ ?_)))))))
 have ir:=bM.nilrow 44 2
 refine wEK (by first | exact .inl rfl | exact .inr rfl) (rbs:=[]) (L:=[.row none 0 44 2 [],.blk au 89 B2,.blk ab 99 ([.slice ae x28.Bout.Shots.length ah,.slice ai x28.Bout.Down.length aj,.slice ak x28.Bout.Across.length ap,.map (some aa)] ++ ((hH KL.encI x28.hits.l) ++ ((hH KL.encI x28.used.l) ++ (hH KL.encT x28.met.l)))),.obj aa (.map aU az),.blk b4 26 B0]) (ir.pick [5,0,1,2,3,4] _ (by decide) rfl) fun eU it=>?_
 have iu:sW w U bh [.row none 0 44 2 [],.blk au 89 B2,.blk ab 99 ([.slice ae x28.Bout.Shots.length ah,.slice ai x28.Bout.Down.length aj,.slice ak x28.Bout.Across.length ap,.map (some aa)] ++ ((hH KL.encI x28.hits.l) ++ ((hH KL.encI x28.used.l) ++ (hH KL.encT x28.met.l)))),.obj aa (.map aU az),.blk b4 26 B0] eU:=it
 cases i0
 exact ⟨_,(wDZ rfl rfl),bh,_,(iu.pick [0] _ (by decide) rfl),none,0,rfl,rfl⟩
theorem wFE (p0:wAE) (am:Nat) (ae:Option Addr) (ai:Nat) (ah:Option Addr) (aj:Nat) (ak:Option Addr) (ap:Nat) (ab:Nat) (aq:Array MapEntry) (au:Nat) (p1:Int) (p2:Int) (w:World) (U:PHeap) (hS:St0 w U [.blk am 99 ([.slice ae p0.Bout.Shots.length ai,.slice ah p0.Bout.Down.length aj,.slice ak p0.Bout.Across.length ap,.map (some ab)] ++ ((hH KL.encI p0.hits.l) ++ ((hH KL.encI p0.used.l) ++ (hH KL.encT p0.met.l)))),.obj ab (.map aq au)]) (bj:Sl U 1 ae ai p0.Bout.Shots.length (hH KL.encI p0.Bout.Shots)) (bk:Sl U 1 ah aj p0.Bout.Down.length (hH KL.encI p0.Bout.Down)) (bF:Sl U 2 ak ap p0.Bout.Across.length (hH wAB p0.Bout.Across)) (bG:MpR aq wGl wHL p0.may) {r:Int} (hm:wBj p0 p1 p2=some r):Gv Try.prog 65 [.pointer (some ⟨am,0,none⟩),jV p1,jV p2] w (wCg w [.blk am 99 ([.slice ae p0.Bout.Shots.length ai,.slice ah p0.Bout.Down.length aj,.slice ak p0.Bout.Across.length ap,.map (some ab)] ++ ((hH KL.encI p0.hits.l) ++ ((hH KL.encI p0.used.l) ++ (hH KL.encT p0.met.l)))),.obj ab (.map aq au)] U (fun U_ L_ v=>v=jV r/\L_=[.blk am 99 ([.slice ae p0.Bout.Shots.length ai,.slice ah p0.Bout.Down.length aj,.slice ak p0.Bout.Across.length ap,.map (some ab)] ++ ((hH KL.encI p0.hits.l) ++ ((hH KL.encI p0.used.l) ++ (hH KL.encT p0.met.l)))),.obj ab (.map aq au)])):=by
 unfold wBj at hm
 refine Gv.of Try.func65 Z Try.ntmps65 Try.results65 Z (sR fL1 Z (oA Z Z (eN (zG (sR (wDt gAv) Z (oM Z Z (oM Z Z (oM Z Z (bnK hm fun x3 h4 bL=>zP 2 Z Z Z Z (zN Z Z Try.call78 (zC Z (zC Z (zC Z zU))) Z) hS (fun hs=>wCF p0 am ae ai ah aj ak ap ab aq au p1 p2 w U hs bj bk bF bG h4) (.inl Z) ?_)))))))))
 rintro U6 L7 v8 W9 bl bw ⟨rfl,rfl⟩
 have bi:SW w [.blk am 99 ([.slice ae p0.Bout.Shots.length ai,.slice ah p0.Bout.Down.length aj,.slice ak p0.Bout.Across.length ap,.map (some ab)] ++ ((hH KL.encI p0.hits.l) ++ ((hH KL.encI p0.used.l) ++ (hH KL.encT p0.met.l)))),.obj ab (.map aq au)] U U6 [.blk am 99 ([.slice ae p0.Bout.Shots.length ai,.slice ah p0.Bout.Down.length aj,.slice ak p0.Bout.Across.length ap,.map (some ab)] ++ ((hH KL.encI p0.hits.l) ++ ((hH KL.encI p0.used.l) ++ (hH KL.encT p0.met.l)))),.obj ab (.map aq au)] W9:=bw
 refine oR Z (ZC Z Z) (eN (ifc bL ?_ ?_))
 intro aY bH
 refine zi (nC aY.out) (kN (zG (ZI ZJ [3,3,3,3,1,3,3,1,3,3,3,3,1,3,3,1,2,2,3] (wQm (.fx 16 (.fx 17 (.fl 18 .nil) .stop) .stop)) (by kernel_rfl) ?_)))
 have aU:=bi.drew
 generalize hw_W16:({ W9 with drawn:=W9.drawn + 1 }:World)=bQ at aU ⊢
 refine oM Z Z (oR Z (zl Z Z) (oR Z (zK Z Z zV Z zj) (oR Z (zK Z Z zF Z zW) (oL Z (aU.ldB (j:=0) Z Z Z ze (v:=.slice ae p0.Bout.Shots.length ai) Z) (oM Z Z (bnK bH fun bm aZ bI=>?_))))))
 have bo:=bj.le bl
 have q:=bo.el (fun _=>rfl) (wAx aZ)
 obtain ⟨bR,bV,bs,bu⟩:=q
 refine oR Z (ZU Z Z bs Z zA zB (wEr aZ) (wFV aZ)) (oL Z (aU.ldC (f:=0) bu (v:=jV bm) Z Z zH Z) (oM Z Z (oR Z (zl Z Z) (oR Z (zK Z Z zV Z zj) (oR Z (zK Z Z zF Z zW) (oL Z (aU.ldB (j:=0) Z Z Z ze (v:=.slice ah p0.Bout.Down.length aj) Z) (oM Z Z (bnK bI fun az ba bJ=>?_))))))))
 have bp:=bk.le bl
 have q:=bp.el (fun _=>rfl) (wAx ba)
 obtain ⟨bS,bW,bt,bv⟩:=q
 refine oR Z (ZU Z Z bt Z zA zB (wEr ba) (wFV ba)) (oL Z (aU.ldC (f:=0) bv (v:=jV az) Z Z zH Z) (Zi (pv:=[(0,jV az)]) (zs:=[jV 0]) (cs:=[jV az]) Z Z Z Z Z (wAT Z wBY) zA zB Ze Z Z Z Z Z aU ?_))
 intro aW bh bz
 have bA:SW w [.blk am 99 ([.slice ae p0.Bout.Shots.length ai,.slice ah p0.Bout.Down.length aj,.slice ak p0.Bout.Across.length ap,.map (some ab)] ++ ((hH KL.encI p0.hits.l) ++ ((hH KL.encI p0.used.l) ++ (hH KL.encT p0.met.l)))),.obj ab (.map aq au)] U U6 [.row (some ⟨bh,0,none⟩) 1 3 1 (hH KL.encI [az]),.blk am 99 ([.slice ae p0.Bout.Shots.length ai,.slice ah p0.Bout.Down.length aj,.slice ak p0.Bout.Across.length ap,.map (some ab)] ++ ((hH KL.encI p0.hits.l) ++ ((hH KL.encI p0.used.l) ++ (hH KL.encT p0.met.l)))),.obj ab (.map aq au)] aW:=bz
 have q:=bA.freezeR (k:=0) (n:=[az].length) rfl (wAG (f:=KL.encI) (sz:=1) (fun _=>rfl) [az]) (by decide)
 obtain ⟨bf,bT,bN,bB⟩:=q
 have bC:SW w [.blk am 99 ([.slice ae p0.Bout.Shots.length ai,.slice ah p0.Bout.Down.length aj,.slice ak p0.Bout.Across.length ap,.map (some ab)] ++ ((hH KL.encI p0.hits.l) ++ ((hH KL.encI p0.used.l) ++ (hH KL.encT p0.met.l)))),.obj ab (.map aq au)] U bf [.blk am 99 ([.slice ae p0.Bout.Shots.length ai,.slice ah p0.Bout.Down.length aj,.slice ak p0.Bout.Across.length ap,.map (some ab)] ++ ((hH KL.encI p0.hits.l) ++ ((hH KL.encI p0.used.l) ++ (hH KL.encT p0.met.l)))),.obj ab (.map aq au)] aW:=bB
 refine bnK bJ fun x43 br bK=>zP 0 Z Z Z Z (zN Z Z Try.call47 (zC Z (zC Z zU)) Z) bC (fun hs=>wEU bm [az] (some ⟨bh,0,none⟩) 1 aW bf hs bN br) (.inr Z) ?_
 rintro bg bO bX bn bU bD ⟨rfl,rfl⟩
 have bE:SW w [.blk am 99 ([.slice ae p0.Bout.Shots.length ai,.slice ah p0.Bout.Down.length aj,.slice ak p0.Bout.Across.length ap,.map (some ab)] ++ ((hH KL.encI p0.hits.l) ++ ((hH KL.encI p0.used.l) ++ (hH KL.encT p0.met.l)))),.obj ab (.map aq au)] U bg [.blk am 99 ([.slice ae p0.Bout.Shots.length ai,.slice ah p0.Bout.Down.length aj,.slice ak p0.Bout.Across.length ap,.map (some ab)] ++ ((hH KL.encI p0.hits.l) ++ ((hH KL.encI p0.used.l) ++ (hH KL.encT p0.met.l)))),.obj ab (.map aq au)] bn:=bD
 refine oA Z Z (eN (zR ?_))
 have hE:=nA bK;first | subst r | cases hE
 exact ⟨Z,_,(zz Z),bg,_,bE,Z,Z⟩
 intro aY bM
 refine zp (nF (aY.out)) (sR fL1 Z (oA Z Z (eN (zR (zJ ?_)))))
 cases bM
 exact ⟨Z,_,(zz Z),U6,_,bi,Z,Z⟩
end Go.Proofs.Ytfcmijinklojbaa
namespace Go.Proofs.Ytfcmijinklojbaa
open Go.KL
set_option maxHeartbeats 4000000
theorem wEG (p0:wAE) (aV:Nat) (ak:Option Addr) (ap:Nat) (am:Option Addr) (aq:Nat) (ae:Option Addr) (ah:Nat) (ab:Nat) (aW:Array MapEntry) (aX:Nat) (p1:Int) (p2:Int) (p3:Int) (w:World) (U:PHeap) (hS:St0 w U [.blk aV 99 ([.slice ak p0.Bout.Shots.length ap,.slice am p0.Bout.Down.length aq,.slice ae p0.Bout.Across.length ah,.map (some ab)] ++ ((hH KL.encI p0.hits.l) ++ ((hH KL.encI p0.used.l) ++ (hH KL.encT p0.met.l)))),.obj ab (.map aW aX)]) (cI:Sl U 1 ak ap p0.Bout.Shots.length (hH KL.encI p0.Bout.Shots)) (cJ:Sl U 1 am aq p0.Bout.Down.length (hH KL.encI p0.Bout.Down)) (cK:Sl U 2 ae ah p0.Bout.Across.length (hH wAB p0.Bout.Across)) (dh:MpR aW wGl wHL p0.may) {r:wAE} (hm:wAz p0 p1 p2 p3=some r):Gv Try.prog 64 [.pointer (some ⟨aV,0,none⟩),jV p1,jV p2,jV p3] w (wCg w [.blk aV 99 ([.slice ak p0.Bout.Shots.length ap,.slice am p0.Bout.Down.length aq,.slice ae p0.Bout.Across.length ah,.map (some ab)] ++ ((hH KL.encI p0.hits.l) ++ ((hH KL.encI p0.used.l) ++ (hH KL.encT p0.met.l)))),.obj ab (.map aW aX)] U (fun U_ L_ v=>∃ (b0:Nat) (A0p00:Option Addr) (c0p00:Nat) (A0p01:Option Addr) (c0p01:Nat) (A0p02:Option Addr) (c0p02:Nat) (m0p1:Nat) (es0p1:Array MapEntry) (ck0p1:Nat),v=.pointer (some ⟨b0,0,none⟩)/\L_=[.blk b0 99 ([.slice A0p00 r.Bout.Shots.length c0p00,.slice A0p01 r.Bout.Down.length c0p01,.slice A0p02 r.Bout.Across.length c0p02,.map (some m0p1)] ++ ((hH KL.encI r.hits.l) ++ ((hH KL.encI r.used.l) ++ (hH KL.encT r.met.l)))),.obj m0p1 (.map es0p1 ck0p1),.blk aV 99 ([.slice ak p0.Bout.Shots.length ap,.slice am p0.Bout.Down.length aq,.slice ae p0.Bout.Across.length ah,.map (some ab)] ++ ((hH KL.encI p0.hits.l) ++ ((hH KL.encI p0.used.l) ++ (hH KL.encT p0.met.l)))),.obj ab (.map aW aX)]/\Sl U_ 1 A0p00 c0p00 r.Bout.Shots.length (hH KL.encI r.Bout.Shots)/\Sl U_ 1 A0p01 c0p01 r.Bout.Down.length (hH KL.encI r.Bout.Down)/\Sl U_ 2 A0p02 c0p02 r.Bout.Across.length (hH wAB r.Bout.Across)/\MpR es0p1 wGl wHL r.may)):=by
 unfold wAz at hm
 refine Gv.of Try.func64 rfl Try.ntmps64 Try.results64 rfl (sR fL1 rfl (OKS.ra rfl rfl rfl rfl rfl rfl (eN (zG (ZI ZJ [3,3,3,3,1,2,3,3,3,3,1,2,3,3] (wFT (wOF (.fx 5 (.fx 11 (.fl 12 (.fl 13 .nil)) .stop) .stop))) (by kernel_rfl) ?_)))))
 have bl:=hS.drew
 generalize hw_W4:({ w with drawn:=w.drawn + 1 }:World)=W4 at bl ⊢
 refine oM Z Z (oR Z (zl Z Z) (oR Z (zK Z Z zV Z zj) (oR Z (zK Z Z zF Z zW) (oL Z (bl.ldB (j:=0) Z Z Z ze (v:=.slice ak p0.Bout.Shots.length ap) Z) (oM Z Z (oR Z (zl Z Z) (oR Z (zK Z Z zV Z zj) (oR Z (zK Z Z zF Z zW) (oL Z (bl.ldB (j:=0) Z Z Z ze (v:=.slice am p0.Bout.Down.length aq) Z) (bnK hm fun x5 h6 cU=>zP 0 Z Z Z Z (zN Z Z Try.call44 (zC Z zU) Z) bl (fun hs=>wAb p0.Bout.Shots ak ap W4 U hs cI h6) (.inr Z) ?_))))))))))
 rintro U8 L9 dm bG bN cx ⟨ba,be,rfl,rfl⟩
 let B0:Res:=.row ba be 3 1 (hH KL.encI x5)
 have cy:SW w [.blk aV 99 ([.slice ak p0.Bout.Shots.length ap,.slice am p0.Bout.Down.length aq,.slice ae p0.Bout.Across.length ah,.map (some ab)] ++ ((hH KL.encI p0.hits.l) ++ ((hH KL.encI p0.used.l) ++ (hH KL.encT p0.met.l)))),.obj ab (.map aW aX)] U U8 [B0,.blk aV 99 ([.slice ak p0.Bout.Shots.length ap,.slice am p0.Bout.Down.length aq,.slice ae p0.Bout.Across.length ah,.map (some ab)] ++ ((hH KL.encI p0.hits.l) ++ ((hH KL.encI p0.used.l) ++ (hH KL.encT p0.met.l)))),.obj ab (.map aW aX)] bG:=cx
 have bZ:=cJ.le bN
 refine bnK cU fun au b5 cP=>zP 0 Z Z Z Z (zN Z Z Try.call44 (zC Z zU) Z) cy (fun hs=>wAb p0.Bout.Down am aq bG U8 hs bZ b5) (.inr Z) ?_
 rintro bq da dp bQ cY cz ⟨bb,bf,rfl,rfl⟩
 let B1:Res:=.row bb bf 3 1 (hH KL.encI au)
 have bv:SW w [.blk aV 99 ([.slice ak p0.Bout.Shots.length ap,.slice am p0.Bout.Down.length aq,.slice ae p0.Bout.Across.length ah,.map (some ab)] ++ ((hH KL.encI p0.hits.l) ++ ((hH KL.encI p0.used.l) ++ (hH KL.encT p0.met.l)))),.obj ab (.map aW aX)] U bq [B1,B0,.blk aV 99 ([.slice ak p0.Bout.Shots.length ap,.slice am p0.Bout.Down.length aq,.slice ae p0.Bout.Across.length ah,.map (some ab)] ++ ((hH KL.encI p0.hits.l) ++ ((hH KL.encI p0.used.l) ++ (hH KL.encT p0.met.l)))),.obj ab (.map aW aX)] bQ:=cz
 refine oA Z Z (oA Z Z (eN (sR (wGk (.fx 7 .nil .stop)) Z (oM Z Z (oM Z Z (bnK cP fun _ aY cQ=>?_))))))
 obtain ⟨df,bj⟩:=bv.rowSome (j:=1) rfl (by rw [wAG (f:=KL.encI) (sz:=1) (fun _=>rfl) x5];have hz:=wAI aY;omega)
 refine oR Z (ZU Z Z bj Z zA zB (wBB aY) (wBC aY)) ?_
 have cL:=wBX (xs:=x5) (wAI aY)
 refine zm rfl rfl rfl rfl (bv.ldR (j:=1) rfl bj rfl rfl zH (wAR (sz:=1) (fun _=>rfl) _ _ 0 _ cL (by first | omega | rfl | simp) rfl)) rfl (zZ rfl rfl rfl rfl rfl rfl (zO rfl rfl rfl rfl (fun _=>ZV rfl rfl rfl) (zO rfl rfl rfl rfl (fun _=>ZU rfl rfl bj rfl zA zB (wBB aY) (wBC aY)) ?_)))
 have cM:=wBX (xs:=x5) (wAI aY)
 refine Zk (j:=1) (vs:=[jV (w64 ((gd x5 p1.toNat) - p3))]) (cs':=hH KL.encI (nB x5 p1.toNat (w64 ((gd x5 p1.toNat) - p3)))) rfl rfl rfl rfl bv rfl bj rfl rfl rfl zB (by rw [wAG (f:=KL.encI) (sz:=1) (fun _=>rfl)];have hz:=wAI aY;show _ + 1 <= _;first | omega | (simp only [nH];omega) | (simp only [nG,nD,nE];omega)) rfl (wCU (sz:=1) (fo:=0) (fun _=>rfl) _ _ _ _ cM (by first | omega | (simp only [nH];omega) | (simp only [nG,nD,nE];omega)) (zD rfl) rfl) rfl ?_
 intro bR cA
 let B2:Res:=.row ba be 3 1 (hH KL.encI (nB x5 p1.toNat (w64 ((gd x5 p1.toNat) - p3))))
 have bw:SW w [.blk aV 99 ([.slice ak p0.Bout.Shots.length ap,.slice am p0.Bout.Down.length aq,.slice ae p0.Bout.Across.length ah,.map (some ab)] ++ ((hH KL.encI p0.hits.l) ++ ((hH KL.encI p0.used.l) ++ (hH KL.encT p0.met.l)))),.obj ab (.map aW aX)] U bq [B1,B2,.blk aV 99 ([.slice ak p0.Bout.Shots.length ap,.slice am p0.Bout.Down.length aq,.slice ae p0.Bout.Across.length ah,.map (some ab)] ++ ((hH KL.encI p0.hits.l) ++ ((hH KL.encI p0.used.l) ++ (hH KL.encT p0.met.l)))),.obj ab (.map aW aX)] bR:=cA
 refine eN (sR (wGk (.fx 7 .nil .stop)) Z (oM Z Z (oM Z Z (bnK cQ fun _ aZ cR=>?_))))
 obtain ⟨dg,bk⟩:=bw.rowSome (j:=0) rfl (by rw [wAG (f:=KL.encI) (sz:=1) (fun _=>rfl) au];have hz:=wAI aZ;omega)
 refine oR Z (ZU Z Z bk Z zA zB (wBB aZ) (wBC aZ)) ?_
 have cN:=wBX (xs:=au) (wAI aZ)
 refine zm rfl rfl rfl rfl (bw.ldR (j:=0) rfl bk rfl rfl zH (wAR (sz:=1) (fun _=>rfl) _ _ 0 _ cN (by first | omega | rfl | simp) rfl)) rfl (zZ rfl rfl rfl rfl rfl rfl (zO rfl rfl rfl rfl (fun _=>ZV rfl rfl rfl) (zO rfl rfl rfl rfl (fun _=>ZU rfl rfl bk rfl zA zB (wBB aZ) (wBC aZ)) ?_)))
 have cO:=wBX (xs:=au) (wAI aZ)
 refine Zk (j:=0) (vs:=[jV (w64 ((gd au p2.toNat) - p3))]) (cs':=hH KL.encI (nB au p2.toNat (w64 ((gd au p2.toNat) - p3)))) rfl rfl rfl rfl bw rfl bk rfl rfl rfl zB (by rw [wAG (f:=KL.encI) (sz:=1) (fun _=>rfl)];have hz:=wAI aZ;show _ + 1 <= _;first | omega | (simp only [nH];omega) | (simp only [nG,nD,nE];omega)) rfl (wCU (sz:=1) (fo:=0) (fun _=>rfl) _ _ _ _ cO (by first | omega | (simp only [nH];omega) | (simp only [nG,nD,nE];omega)) (zD rfl) rfl) rfl ?_
 intro bh cB
 let B3:Res:=.row bb bf 3 1 (hH KL.encI (nB au p2.toNat (w64 ((gd au p2.toNat) - p3))))
 have bL:SW w [.blk aV 99 ([.slice ak p0.Bout.Shots.length ap,.slice am p0.Bout.Down.length aq,.slice ae p0.Bout.Across.length ah,.map (some ab)] ++ ((hH KL.encI p0.hits.l) ++ ((hH KL.encI p0.used.l) ++ (hH KL.encT p0.met.l)))),.obj ab (.map aW aX)] U bq [B3,B2,.blk aV 99 ([.slice ak p0.Bout.Shots.length ap,.slice am p0.Bout.Down.length aq,.slice ae p0.Bout.Across.length ah,.map (some ab)] ++ ((hH KL.encI p0.hits.l) ++ ((hH KL.encI p0.used.l) ++ (hH KL.encT p0.met.l)))),.obj ab (.map aW aX)] bh:=cB
 refine eN (sR (wPZ gBa) rfl (zZ rfl rfl rfl rfl rfl (Eq.trans (b:=(.slice ba x5.length be:Value)) (c:=(.slice ba ((nB x5 p1.toNat (w64 ((gd x5 p1.toNat) - p3))).length) be:Value)) rfl (by simp only [nI])) (zZ rfl rfl rfl rfl rfl (Eq.trans (b:=(.slice bb au.length bf:Value)) (c:=(.slice bb ((nB au p2.toNat (w64 ((gd au p2.toNat) - p3))).length) bf:Value)) rfl (by simp only [nI])) (zZ rfl rfl rfl rfl rfl rfl (zO rfl rfl rfl rfl (fun _=>zl rfl rfl) (zO rfl rfl rfl rfl (fun _=>zK rfl rfl zV rfl zj) (zO rfl rfl rfl rfl (fun _=>zK rfl rfl zF rfl ZW) (zm rfl rfl rfl rfl (bL.ldB (j:=2) rfl rfl rfl Zd (v:=.slice ae p0.Bout.Across.length ah) rfl) rfl (zO rfl rfl rfl rfl (fun _=>Zb (pv:=[(0,.slice ba ((nB x5 p1.toNat (w64 ((gd x5 p1.toNat) - p3))).length) be),(1,.slice bb ((nB au p2.toNat (w64 ((gd au p2.toNat) - p3))).length) bf),(2,.slice ae p0.Bout.Across.length ah)]) (z:=[.slice none 0 0,.slice none 0 0,.slice none 0 0]) (cs:=[.slice ba ((nB x5 p1.toNat (w64 ((gd x5 p1.toNat) - p3))).length) be,.slice bb ((nB au p2.toNat (w64 ((gd au p2.toNat) - p3))).length) bf,.slice ae p0.Bout.Across.length ah]) rfl (wAT rfl (wAT rfl (wAT rfl wBY))) Try.zeroValue26 wJl rfl rfl) ?_)))))))))
 have q:=bL.freezeR (k:=1) (n:=(nB x5 p1.toNat (w64 ((gd x5 p1.toNat) - p3))).length) rfl (wAG (f:=KL.encI) (sz:=1) (fun _=>rfl) (nB x5 p1.toNat (w64 ((gd x5 p1.toNat) - p3)))) (by decide)
 obtain ⟨bP,cZ,cW,cC⟩:=q
 have cD:SW w [.blk aV 99 ([.slice ak p0.Bout.Shots.length ap,.slice am p0.Bout.Down.length aq,.slice ae p0.Bout.Across.length ah,.map (some ab)] ++ ((hH KL.encI p0.hits.l) ++ ((hH KL.encI p0.used.l) ++ (hH KL.encT p0.met.l)))),.obj ab (.map aW aX)] U bP [B3,.blk aV 99 ([.slice ak p0.Bout.Shots.length ap,.slice am p0.Bout.Down.length aq,.slice ae p0.Bout.Across.length ah,.map (some ab)] ++ ((hH KL.encI p0.hits.l) ++ ((hH KL.encI p0.used.l) ++ (hH KL.encT p0.met.l)))),.obj ab (.map aW aX)] bh:=cC
 have q:=cD.freezeR (k:=0) (n:=(nB au p2.toNat (w64 ((gd au p2.toNat) - p3))).length) rfl (wAG (f:=KL.encI) (sz:=1) (fun _=>rfl) (nB au p2.toNat (w64 ((gd au p2.toNat) - p3)))) (by decide)
 obtain ⟨bE,bO,cX,cE⟩:=q
 have cG:SW w [.blk aV 99 ([.slice ak p0.Bout.Shots.length ap,.slice am p0.Bout.Down.length aq,.slice ae p0.Bout.Across.length ah,.map (some ab)] ++ ((hH KL.encI p0.hits.l) ++ ((hH KL.encI p0.used.l) ++ (hH KL.encT p0.met.l)))),.obj ab (.map aW aX)] U bE [.blk aV 99 ([.slice ak p0.Bout.Shots.length ap,.slice am p0.Bout.Down.length aq,.slice ae p0.Bout.Across.length ah,.map (some ab)] ++ ((hH KL.encI p0.hits.l) ++ ((hH KL.encI p0.used.l) ++ (hH KL.encT p0.met.l)))),.obj ab (.map aW aX)] bh:=cE
 have cd:=cW.le bO
 have cf:=cK.le bN
 have cg:=cf.le cY
 have ci:=cg.le cZ
 have cj:=ci.le bO
 refine bnK cR fun x65 cn cS=>zP 0 Z Z Z Z (zN Z Z Try.call45 (zC Z zU) Z) cG (fun hs=>wDA (⟨(nB x5 p1.toNat (w64 ((gd x5 p1.toNat) - p3))),(nB au p2.toNat (w64 ((gd au p2.toNat) - p3))),p0.Bout.Across⟩:wAC) ba be bb bf ae ah bh bE hs cd cX cj cn) (.inr Z) ?_
 rintro br db dq bT dk cH ⟨bi,bn,bs,bo,bt,bp,bu,bg,bW,bV,rfl,rfl,cp,cq,cr,ct⟩
 have bM:SW w [.blk aV 99 ([.slice ak p0.Bout.Shots.length ap,.slice am p0.Bout.Down.length aq,.slice ae p0.Bout.Across.length ah,.map (some ab)] ++ ((hH KL.encI p0.hits.l) ++ ((hH KL.encI p0.used.l) ++ (hH KL.encT p0.met.l)))),.obj ab (.map aW aX)] U br [.blk bi 99 ([.slice bn x65.Bout.Shots.length bs,.slice bo x65.Bout.Down.length bt,.slice bp x65.Bout.Across.length bu,.map (some bg)] ++ ((hH KL.encI x65.hits.l) ++ ((hH KL.encI x65.used.l) ++ (hH KL.encT x65.met.l)))),.obj bg (.map bW bV),.blk aV 99 ([.slice ak p0.Bout.Shots.length ap,.slice am p0.Bout.Down.length aq,.slice ae p0.Bout.Across.length ah,.map (some ab)] ++ ((hH KL.encI p0.hits.l) ++ ((hH KL.encI p0.used.l) ++ (hH KL.encT p0.met.l)))),.obj ab (.map aW aX)] bT:=cH
 refine oA Z Z (eN (zG (Zf fun bz bm=>?_)))
 have bX:bz 1=jV p1:=(bm 1).trans rfl
 have bY:bz 2=jV p2:=(bm 2).trans rfl
 have bK:bz 11=.pointer (some ⟨bi,0,none⟩):=(bm 11).trans rfl
 clear bm
 refine rR (wGk (.fx 7 .nil .stop)) Z (oM Z bK (oR Z (zl Z Z) (oR Z (zK Z Z zV Z Try.sizeOf92) (oL Z (bM.ldB (j:=0) Z Z Z Try.isAgg92 (v:=.map (some bg)) Z) (oM Z bX (oM Z bY (oR Z (Zb (pv:=[(0,jV p1),(1,jV p2)]) (z:=[jV 0,jV 0]) (cs:=[jV p1,jV p2]) Z (wAT Z (wAT Z wBY)) ZY wEO Z Z) (OKS.mapDel (j:=1) (mk:=wGl) (mv:=wHL) (a:=(⟨p1,p2⟩:wAA)) Z Z Z Z bM Z Z Z (wDn Try.runUnderlying92) wJm ct false Z ?_))))))))
 intro bJ bI bU cV cu
 have cw:SW w [.blk aV 99 ([.slice ak p0.Bout.Shots.length ap,.slice am p0.Bout.Down.length aq,.slice ae p0.Bout.Across.length ah,.map (some ab)] ++ ((hH KL.encI p0.hits.l) ++ ((hH KL.encI p0.used.l) ++ (hH KL.encT p0.met.l)))),.obj ab (.map aW aX)] U br [.blk bi 99 ([.slice bn x65.Bout.Shots.length bs,.slice bo x65.Bout.Down.length bt,.slice bp x65.Bout.Across.length bu,.map (some bg)] ++ ((hH KL.encI x65.hits.l) ++ ((hH KL.encI x65.used.l) ++ (hH KL.encT x65.met.l)))),.obj bg (.map bJ bI),.blk aV 99 ([.slice ak p0.Bout.Shots.length ap,.slice am p0.Bout.Down.length aq,.slice ae p0.Bout.Across.length ah,.map (some ab)] ++ ((hH KL.encI p0.hits.l) ++ ((hH KL.encI p0.used.l) ++ (hH KL.encT p0.met.l)))),.obj ab (.map aW aX)] bU:=cu
 refine eN (sR fL2 Z (oM Z bK (oA Z Z (eN (zR ?_)))))
 cases cS
 exact ⟨Z,_,(zz Z),br,_,cw,bi,bn,bs,bo,bt,bp,bu,bg,bJ,bI,Z,Z,cp,cq,cr,cV⟩
theorem wDO (p0:wAE) (ae:Nat) (ah:Option Addr) (ak:Nat) (ai:Option Addr) (am:Nat) (aj:Option Addr) (ap:Nat) (ab:Nat) (aq:Array MapEntry) (au:Nat) (p1:Int) (p2:Int) (w:World) (U:PHeap) (hS:St0 w U [.blk ae 99 ([.slice ah p0.Bout.Shots.length ak,.slice ai p0.Bout.Down.length am,.slice aj p0.Bout.Across.length ap,.map (some ab)] ++ ((hH KL.encI p0.hits.l) ++ ((hH KL.encI p0.used.l) ++ (hH KL.encT p0.met.l)))),.obj ab (.map aq au)]) (bW:Sl U 1 ah ak p0.Bout.Shots.length (hH KL.encI p0.Bout.Shots)) (bX:Sl U 1 ai am p0.Bout.Down.length (hH KL.encI p0.Bout.Down)) (bY:Sl U 2 aj ap p0.Bout.Across.length (hH wAB p0.Bout.Across)) (bZ:MpR aq wGl wHL p0.may) {r:wAS} (hm:wBH p0 p1 p2=some r):Gv Try.prog 48 [.pointer (some ⟨ae,0,none⟩),jV p1,jV p2] w (wCg w [.blk ae 99 ([.slice ah p0.Bout.Shots.length ak,.slice ai p0.Bout.Down.length am,.slice aj p0.Bout.Across.length ap,.map (some ab)] ++ ((hH KL.encI p0.hits.l) ++ ((hH KL.encI p0.used.l) ++ (hH KL.encT p0.met.l)))),.obj ab (.map aq au)] U (fun U_ L_ v=>v=.agg #[jV r.Lo,jV r.Hi]/\L_=[.blk ae 99 ([.slice ah p0.Bout.Shots.length ak,.slice ai p0.Bout.Down.length am,.slice aj p0.Bout.Across.length ap,.map (some ab)] ++ ((hH KL.encI p0.hits.l) ++ ((hH KL.encI p0.used.l) ++ (hH KL.encT p0.met.l)))),.obj ab (.map aq au)])):=by
 unfold wBH at hm
 refine Gv.of Try.func48 Z Try.ntmps48 Try.results48 Z (sR (.fx 0 .nil .stop) Z ?_)
 let B0:List Value:=[jV 0,jV 0]
 refine ZR (cs:=B0) Z Z Z Z Z ZX Z hS ?_
 intro W3 b4 df
 refine eN (sR (.fl 0 (.fx 1 (.fx 2 .nil .stop) .stop)) Z ?_)
 let B1:List Value:=[jV (-1),jV 0]
 refine oR Z (Zb (pv:=[(0,jV (-1))]) (z:=B0) (cs:=B1) Z (wAT Z wBY) ZX wFB Z Z) (ZR (cs:=B0) Z Z Z Z Z ZX Z df ?_)
 intro W7 b8 dk
 refine ZG (j:=0) (vs:=B1) Z Z Z Z dk Z Z Z Z ZH (zD Z) Z Z Z ?_
 intro bD cV
 have cY:SW w [.blk ae 99 ([.slice ah p0.Bout.Shots.length ak,.slice ai p0.Bout.Down.length am,.slice aj p0.Bout.Across.length ap,.map (some ab)] ++ ((hH KL.encI p0.hits.l) ++ ((hH KL.encI p0.used.l) ++ (hH KL.encT p0.met.l)))),.obj ab (.map aq au)] U U [.blk b8 44 B1,.blk b4 44 B0,.blk ae 99 ([.slice ah p0.Bout.Shots.length ak,.slice ai p0.Bout.Down.length am,.slice aj p0.Bout.Across.length ap,.map (some ab)] ++ ((hH KL.encI p0.hits.l) ++ ((hH KL.encI p0.used.l) ++ (hH KL.encT p0.met.l)))),.obj ab (.map aq au)] bD:=cV
 refine eN (zG (sR (wDt (.fx 3 (.fl 4 (.fl 5 .nil)) .stop)) Z (oM Z Z (oM Z Z (oM Z Z (bnK hm fun x14 cB dw=>?_))))))
 have da:SW w [.blk ae 99 ([.slice ah p0.Bout.Shots.length ak,.slice ai p0.Bout.Down.length am,.slice aj p0.Bout.Across.length ap,.map (some ab)] ++ ((hH KL.encI p0.hits.l) ++ ((hH KL.encI p0.used.l) ++ (hH KL.encT p0.met.l)))),.obj ab (.map aq au)] U U [.blk ae 99 ([.slice ah p0.Bout.Shots.length ak,.slice ai p0.Bout.Down.length am,.slice aj p0.Bout.Across.length ap,.map (some ab)] ++ ((hH KL.encI p0.hits.l) ++ ((hH KL.encI p0.used.l) ++ (hH KL.encT p0.met.l)))),.obj ab (.map aq au),.blk b8 44 B1,.blk b4 44 B0] bD:=cY.pick [2,3,0,1] _ (by decide) rfl
 refine zP 2 Z Z Z Z (zN Z Z Try.call65 (zC Z (zC Z (zC Z zU))) Z) da (fun hs=>wFE p0 ae ah ak ai am aj ap ab aq au p1 p2 bD U hs bW bX bY bZ cB) (.inl Z) ?_
 rintro bC dA dK cp bL db ⟨rfl,rfl⟩
 have de:SW w [.blk ae 99 ([.slice ah p0.Bout.Shots.length ak,.slice ai p0.Bout.Down.length am,.slice aj p0.Bout.Across.length ap,.map (some ab)] ++ ((hH KL.encI p0.hits.l) ++ ((hH KL.encI p0.used.l) ++ (hH KL.encT p0.met.l)))),.obj ab (.map aq au)] U bC [.blk ae 99 ([.slice ah p0.Bout.Shots.length ak,.slice ai p0.Bout.Down.length am,.slice aj p0.Bout.Across.length ap,.map (some ab)] ++ ((hH KL.encI p0.hits.l) ++ ((hH KL.encI p0.used.l) ++ (hH KL.encT p0.met.l)))),.obj ab (.map aq au),.blk b8 44 B1,.blk b4 44 B0] cp:=db
 refine oR Z (zh Z Z Z) (oM Z Z (eN (zd ?_)))
 have q:=bnd dw
 obtain ⟨⟨dy,dz⟩,dp,b5⟩:=q
 try dsimp only at b5
 have q:=wCO dp
 obtain ⟨bJ,dq⟩:=q
 replace bJ:=zL bJ
 refine CK.forN' (fun aU (bt,bB) σ_ w_=>∃ (U_:PHeap),σ_ 15=jV (↑aU:Int)/\σ_ 0=.pointer (some ⟨ae,0,none⟩)/\σ_ 1=jV p1/\σ_ 2=jV p2/\σ_ 6=.pointer (some ⟨b4,0,none⟩)/\σ_ 7=.pointer (some ⟨b8,0,none⟩)/\σ_ 14=jV (w64 (x14 + 1))/\PHeap.Le bC U_/\SW w [.blk ae 99 ([.slice ah p0.Bout.Shots.length ak,.slice ai p0.Bout.Down.length am,.slice aj p0.Bout.Across.length ap,.map (some ab)] ++ ((hH KL.encI p0.hits.l) ++ ((hH KL.encI p0.used.l) ++ (hH KL.encT p0.met.l)))),.obj ab (.map aq au)] U U_ [.blk ae 99 ([.slice ah p0.Bout.Shots.length ak,.slice ai p0.Bout.Down.length am,.slice aj p0.Bout.Across.length ap,.map (some ab)] ++ ((hH KL.encI p0.hits.l) ++ ((hH KL.encI p0.used.l) ++ (hH KL.encT p0.met.l)))),.obj ab (.map aq au),.blk b8 44 [jV bt,jV bB],.blk b4 44 B0] w_) dq ?_ ?_ ?_
 exact ⟨bC,Z,Z,Z,Z,Z,Z,Z,(zo _),de⟩
 rintro aU ⟨bt,bB⟩ dN dP cq bI ⟨cf,bp,bv,bw,bz,bG,ba,bA,bn,dg⟩ cd
 try dsimp only at cd
 have bS:Hid ((↑aU:Int) < (w64 (x14 + 1))):=zL (wBm bI)
 replace bI:=zL bI
 have bH:Hid (w64 ((↑aU:Int) + 1)=(↑(aU + 1):Int)):=zL (by have h1:=bJ.out;have h2:=bS.out;rw [wAY] <;> omega)
 refine sR fL1 Z (oR Z (zg Z bp bA) (eN (zG (cT Z bS (kN (zG (zd (sR fL2 Z (oM Z bp (oA Z Z (eN (sR (wJK (.fx 4 gAz .stop)) Z (oM Z bv (oM Z bw (oM Z bz (oM Z Z ?_))))))))))))))))
 have cC:=bW.le bL
 have cD:=cC.le bn
 have cE:=bX.le bL
 have cG:=cE.le bn
 have cH:=bY.le bL
 have cI:=cH.le bn
 refine bnK cd fun az cJ dx=>zP 2 Z Z Z Z (zN Z Z Try.call64 (zC Z (zC Z (zC Z (zC Z zU)))) Z) dg (fun hs=>wEG p0 ae ah ak ai am aj ap ab aq au p1 p2 (↑aU:Int) cq cf hs cD cG cI bZ cJ) (.inl Z) ?_
 rintro bQ dB dL bR bM dh ⟨bh,bb,bi,be,bj,bf,bk,aX,bm,bl,rfl,rfl,cK,cL,cM,cN⟩
 let B2:Res:=.blk b8 44 [jV bt,jV bB]
 have dm:SW w [.blk ae 99 ([.slice ah p0.Bout.Shots.length ak,.slice ai p0.Bout.Down.length am,.slice aj p0.Bout.Across.length ap,.map (some ab)] ++ ((hH KL.encI p0.hits.l) ++ ((hH KL.encI p0.used.l) ++ (hH KL.encT p0.met.l)))),.obj ab (.map aq au)] U bQ [.blk bh 99 ([.slice bb az.Bout.Shots.length bi,.slice be az.Bout.Down.length bj,.slice bf az.Bout.Across.length bk,.map (some aX)] ++ ((hH KL.encI az.hits.l) ++ ((hH KL.encI az.used.l) ++ (hH KL.encT az.met.l)))),.obj aX (.map bm bl),.blk ae 99 ([.slice ah p0.Bout.Shots.length ak,.slice ai p0.Bout.Down.length am,.slice aj p0.Bout.Across.length ap,.map (some ab)] ++ ((hH KL.encI p0.hits.l) ++ ((hH KL.encI p0.used.l) ++ (hH KL.encT p0.met.l)))),.obj ab (.map aq au),B2,.blk b4 44 B0] bR:=dh
 have q:=bnd dx
 obtain ⟨⟨x92,x93⟩,cO,b9⟩:=q
 try dsimp only at b9
 refine zP 2 Z Z Z Z (zN Z Z Try.call46 (zC Z zU) Z) dm (fun hs=>wBf az bh bb bi be bj bf bk aX bm bl bR bQ hs cK cL cM cN cO) (.inl Z) ?_
 rintro aZ dC dM cr bK cP ⟨bN,ct,rfl,rfl,cz⟩
 let B3:Res:=.row bN ct 3 1 (hH KL.encI x92)
 have bq:SW w [.blk ae 99 ([.slice ah p0.Bout.Shots.length ak,.slice ai p0.Bout.Down.length am,.slice aj p0.Bout.Across.length ap,.map (some ab)] ++ ((hH KL.encI p0.hits.l) ++ ((hH KL.encI p0.used.l) ++ (hH KL.encT p0.met.l)))),.obj ab (.map aq au)] U aZ [B3,.blk bh 99 ([.slice bb az.Bout.Shots.length bi,.slice be az.Bout.Down.length bj,.slice bf az.Bout.Across.length bk,.map (some aX)] ++ ((hH KL.encI x93.1.l) ++ ((hH KL.encI x93.2.1.l) ++ (hH KL.encT x93.2.2.l)))),.obj aX (.map bm bl),.blk ae 99 ([.slice ah p0.Bout.Shots.length ak,.slice ai p0.Bout.Down.length am,.slice aj p0.Bout.Across.length ap,.map (some ab)] ++ ((hH KL.encI p0.hits.l) ++ ((hH KL.encI p0.used.l) ++ (hH KL.encT p0.met.l)))),.obj ab (.map aq au),B2,.blk b4 44 B0] cr:=cP
 have cA:bN.isNone=decide (x92=[]):=wGI (j:=0) bq rfl (fun _=>rfl) (by decide) cz
 refine oR Z (Runs.eqNilR Z Z Z zA cA) (eN (ifc b9 ?_ ?_))
 intro bE dr
 refine cT Z bE (zG (sR fL3 Z (oR Z (zK Z ba Zg Z zB) (oL Z (bq.ldB (j:=5) Z Z Z zH (v:=jV bt) Z) (oR Z (zg Z Z Z) (eN (ifc dr ?_ ?_)))))))
 intro bF dt
 refine cT Z bF (rR gBd Z (oM Z Z (oR Z (zK Z ba Zg Z zB) (ZG (j:=5) (vs:=[jV (↑aU:Int)]) Z Z Z Z bq Z Z Z Z zB (zD Z) Z Z Z ?_))))
 intro cg cQ
 have cR:SW w [.blk ae 99 ([.slice ah p0.Bout.Shots.length ak,.slice ai p0.Bout.Down.length am,.slice aj p0.Bout.Across.length ap,.map (some ab)] ++ ((hH KL.encI p0.hits.l) ++ ((hH KL.encI p0.used.l) ++ (hH KL.encT p0.met.l)))),.obj ab (.map aq au)] U aZ [B3,.blk bh 99 ([.slice bb az.Bout.Shots.length bi,.slice be az.Bout.Down.length bj,.slice bf az.Bout.Across.length bk,.map (some aX)] ++ ((hH KL.encI x93.1.l) ++ ((hH KL.encI x93.2.1.l) ++ (hH KL.encT x93.2.2.l)))),.obj aX (.map bm bl),.blk ae 99 ([.slice ah p0.Bout.Shots.length ak,.slice ai p0.Bout.Down.length am,.slice aj p0.Bout.Across.length ap,.map (some ab)] ++ ((hH KL.encI p0.hits.l) ++ ((hH KL.encI p0.used.l) ++ (hH KL.encT p0.met.l)))),.obj ab (.map aq au),.blk b8 44 [jV (↑aU:Int),jV bB],.blk b4 44 B0] cg:=cQ
 refine eN (rR gBd Z (oM Z Z (oR Z (zK Z ba Zg Z zB) (ZG (j:=5) (vs:=[jV (↑aU:Int)]) Z Z Z Z cR Z Z Z Z zB (zD Z) Z Z Z ?_))))
 intro ci cS
 have cU:SW w [.blk ae 99 ([.slice ah p0.Bout.Shots.length ak,.slice ai p0.Bout.Down.length am,.slice aj p0.Bout.Across.length ap,.map (some ab)] ++ ((hH KL.encI p0.hits.l) ++ ((hH KL.encI p0.used.l) ++ (hH KL.encT p0.met.l)))),.obj ab (.map aq au)] U aZ [B3,.blk bh 99 ([.slice bb az.Bout.Shots.length bi,.slice be az.Bout.Down.length bj,.slice bf az.Bout.Across.length bk,.map (some aX)] ++ ((hH KL.encI x93.1.l) ++ ((hH KL.encI x93.2.1.l) ++ (hH KL.encT x93.2.2.l)))),.obj aX (.map bm bl),.blk ae 99 ([.slice ah p0.Bout.Shots.length ak,.slice ai p0.Bout.Down.length am,.slice aj p0.Bout.Across.length ap,.map (some ab)] ++ ((hH KL.encI p0.hits.l) ++ ((hH KL.encI p0.used.l) ++ (hH KL.encT p0.met.l)))),.obj ab (.map aq au),.blk b8 44 [jV (↑aU:Int),jV (↑aU:Int)],.blk b4 44 B0] ci:=cS
 refine ZA (zk (zM (rR fL2 Z (oR Z (ZB (zh Z bp Z) (congrArg (jV) bH.out)) (oM Z Z (ZA ?_))))))
 cases dt
 exact zM ⟨rfl,⟨aZ,rfl,bv,bw,bz,bG,ba,bA,((bn.trans bM).trans bK),(cU.pick [3,4,5,6] _ (by decide) rfl)⟩⟩
 intro bF du
 refine cF Z bF (kN (rR gBd Z (oM Z Z (oR Z (zK Z ba Zg Z zB) (ZG (j:=5) (vs:=[jV (↑aU:Int)]) Z Z Z Z bq Z Z Z Z zB (zD Z) Z Z Z ?_)))))
 intro cj cW
 have cX:SW w [.blk ae 99 ([.slice ah p0.Bout.Shots.length ak,.slice ai p0.Bout.Down.length am,.slice aj p0.Bout.Across.length ap,.map (some ab)] ++ ((hH KL.encI p0.hits.l) ++ ((hH KL.encI p0.used.l) ++ (hH KL.encT p0.met.l)))),.obj ab (.map aq au)] U aZ [B3,.blk bh 99 ([.slice bb az.Bout.Shots.length bi,.slice be az.Bout.Down.length bj,.slice bf az.Bout.Across.length bk,.map (some aX)] ++ ((hH KL.encI x93.1.l) ++ ((hH KL.encI x93.2.1.l) ++ (hH KL.encT x93.2.2.l)))),.obj aX (.map bm bl),.blk ae 99 ([.slice ah p0.Bout.Shots.length ak,.slice ai p0.Bout.Down.length am,.slice aj p0.Bout.Across.length ap,.map (some ab)] ++ ((hH KL.encI p0.hits.l) ++ ((hH KL.encI p0.used.l) ++ (hH KL.encT p0.met.l)))),.obj ab (.map aq au),.blk b8 44 [jV bt,jV (↑aU:Int)],.blk b4 44 B0] cj:=cW
 refine ZA (zk (zM (rR fL2 Z (oR Z (ZB (zh Z bp Z) (congrArg (jV) bH.out)) (oM Z Z (ZA ?_))))))
 cases du
 exact zM ⟨rfl,⟨aZ,rfl,bv,bw,bz,bG,ba,bA,((bn.trans bM).trans bK),(cX.pick [3,4,5,6] _ (by decide) rfl)⟩⟩
 intro bE dv
 refine cF Z bE (ZN (zk (zM (rR fL2 Z (oR Z (ZB (zh Z bp Z) (congrArg (jV) bH.out)) (oM Z Z (ZA ?_)))))))
 cases dv
 exact zM ⟨rfl,⟨aZ,rfl,bv,bw,bz,bG,ba,bA,((bn.trans bM).trans bK),(bq.pick [3,4,5,6] _ (by decide) rfl)⟩⟩
 rintro dO dD ⟨bP,cy,dG,dH,dI,bT,cw,cx,dJ,bU⟩
 have cu:Hid (¬ ((↑((w64 (x14 + 1):Int) - 0).toNat:Int) < (w64 (x14 + 1)))):=zL (wBK)
 refine sR fL1 Z (oR Z (zg Z cy cx) (eN (zG (cF Z cu (ZM (zn (zn (ZE (zM (sR gAx Z ?_))))))))))
 let B4:List Value:=[jV dy,jV dz]
 refine oL Z (bU.ldBA (j:=2) Z Z cw Zj ZH (vs:=B4) Z Z) (ZG (j:=3) (vs:=B4) Z Z Z Z bU Z bT Z Z ZH (zD Z) Z Z Z ?_)
 intro cn cZ
 have bV:SW w [.blk ae 99 ([.slice ah p0.Bout.Shots.length ak,.slice ai p0.Bout.Down.length am,.slice aj p0.Bout.Across.length ap,.map (some ab)] ++ ((hH KL.encI p0.hits.l) ++ ((hH KL.encI p0.used.l) ++ (hH KL.encT p0.met.l)))),.obj ab (.map aq au)] U bP [.blk ae 99 ([.slice ah p0.Bout.Shots.length ak,.slice ai p0.Bout.Down.length am,.slice aj p0.Bout.Across.length ap,.map (some ab)] ++ ((hH KL.encI p0.hits.l) ++ ((hH KL.encI p0.used.l) ++ (hH KL.encT p0.met.l)))),.obj ab (.map aq au),.blk b8 44 B4,.blk b4 44 B4] cn:=cZ
 refine eN (zR ?_)
 cases b5
 exact ⟨rfl,_,(wJx (v:=.agg B4.toArray) ⟨⟨_,bT,(wGx Zj ZH (bV.blkAt (k:=3) rfl) (vs:=B4) rfl rfl)⟩,trivial⟩),bP,_,(bV.pick [0,1] _ (by decide) rfl),rfl,rfl⟩
theorem wFh (p0:wAC) (bj:Option Addr) (bm:Nat) (bk:Option Addr) (bn:Nat) (bl:Option Addr) (bo:Nat) (w:World) (U:PHeap) (hS:St0 w U []) (cP:Sl U 1 bj bm p0.Shots.length (hH KL.encI p0.Shots)) (cQ:Sl U 1 bk bn p0.Down.length (hH KL.encI p0.Down)) (cR:Sl U 2 bl bo p0.Across.length (hH wAB p0.Across)) {r:(List wAA) × Int} (hm:wBt p0=some r):Gv Try.prog 13 [.agg #[.slice bj p0.Shots.length bm,.slice bk p0.Down.length bn,.slice bl p0.Across.length bo]] w (wCg w [] U (fun U_ L_ v=>∃ (A0:Option Addr) (c0:Nat),v=.tuple #[.slice A0 r.1.length c0,jV r.2]/\L_=[.row A0 c0 35 2 (hH wAB r.1)])):=by
 unfold wBt at hm
 refine Gv.of Try.func13 Z Try.ntmps13 Try.results13 Z (sR gBb Z ?_)
 let B0:List Value:=[.slice bj p0.Shots.length bm,.slice bk p0.Down.length bn,.slice bl p0.Across.length bo]
 refine ZT (cs:=B0) rfl rfl rfl rfl rfl rfl (by rfl) hS ?_
 intro W1 b2 bR
 refine oA Z Z (oA Z Z (eN (sR (.fl 0 (.fx 1 (wGt (.nil)) .stop)) Z (oL Z (bR.ldBA (j:=0) Z Z Z ZK zj (vs:=B0) Z Z) ?_))))
 have q:=bnd hm
 obtain ⟨⟨x5,x6⟩,h7,bb⟩:=q
 try dsimp only at bb
 refine zP 0 Z Z Z Z (zN Z Z Try.call42 (zC Z zU) Z) bR (fun hs=>wDD p0 bj bm bk bn bl bo W1 U hs cP cQ cR h7) (.inr Z) ?_
 rintro U9 dp dC bH dy bQ bO
 rcases x5 with _ | x26
 try dsimp only at bb
 obtain ⟨rfl,rfl⟩:=bO
 have cK:sW w U U9 [.blk b2 26 B0] bH:=bQ
 refine oM Z Z (oR Z (zq Z Z (v:=.pointer none) Z) (oR Z (zq Z Z (v:=jV x6) Z) (oA Z Z (oA Z Z (eN (zG (sR fL2 Z (oM Z Z (oR Z (ZF Z Z Z) (eN (ifc bb ?_ ?_)))))))))))
 intro bs da
 refine zi (zf (fun h=>h bs.out)) (kN (sR fL1 Z (oA Z Z (eN (zG (sR fL7 Z (oM Z Z ?_)))))))
 cases da
 intro bs db
 refine cT Z bs (sR fL3 Z (oM Z Z (oA Z Z (oA Z Z (eN (zR (zJ ?_)))))))
 have cL:=cK.nilrow 35 2
 cases db
 exact ⟨rfl,_,(wDZ rfl rfl),U9,_,(cL.pick [0] _ (by decide) rfl),none,0,rfl,rfl⟩
 try dsimp only at bb
 obtain ⟨ai,am,au,ap,az,ae,aj,aa,aV,aU,rfl,rfl,cr,ct,cu,cw⟩:=bO
 have bA:sW w U U9 [.blk ai 99 ([.slice am x26.Bout.Shots.length au,.slice ap x26.Bout.Down.length az,.slice ae x26.Bout.Across.length aj,.map (some aa)] ++ ((hH KL.encI x26.hits.l) ++ ((hH KL.encI x26.used.l) ++ (hH KL.encT x26.met.l)))),.obj aa (.map aV aU),.blk b2 26 B0] bH:=bQ
 refine oM Z Z (oR Z (zq Z Z (v:=.pointer (some ⟨ai,0,none⟩)) Z) (oR Z (zq Z Z (v:=jV x6) Z) (oA Z Z (oA Z Z (eN (zG (sR fL2 Z (oM Z Z (oR Z (ZF Z Z Z) (eN (ifc bb ?_ ?_)))))))))))
 intro bt de
 refine zi (zf (fun h=>h bt.out)) (kN (sR fL1 Z (oA Z Z (eN (zG (sR fL7 Z (oM Z Z (oR Z (zl Z Z) (oR Z (zK Z Z zV Z zj) (oR Z (zK Z Z zF Z ZW) (oL Z (bA.ldB (j:=0) Z Z Z Zd (v:=.slice ae x26.Bout.Across.length aj) Z) (oR Z (zt Z Z zw) (oM Z Z (eN (zd (bnK de fun dE cS df=>?_))))))))))))))))
 have q:=wCO cS
 obtain ⟨bD,cU⟩:=q
 replace bD:=zL bD
 refine CK.forN' (fun be bf σ_ w_=>∃ (U_:PHeap) (aX:Option Addr) (ba:Nat),σ_ 23=jV (↑be:Int)/\σ_ 4=.pointer (some ⟨ai,0,none⟩)/\σ_ 6=.slice aX bf.length ba/\σ_ 21=.slice ae x26.Bout.Across.length aj/\σ_ 22=jV (↑x26.Bout.Across.length:Int)/\PHeap.Le U9 U_/\sW w U U_ [.blk ai 99 ([.slice am x26.Bout.Shots.length au,.slice ap x26.Bout.Down.length az,.slice ae x26.Bout.Across.length aj,.map (some aa)] ++ ((hH KL.encI x26.hits.l) ++ ((hH KL.encI x26.used.l) ++ (hH KL.encT x26.met.l)))),.obj aa (.map aV aU),.blk b2 26 B0,.row aX ba 35 2 (hH wAB bf)] w_) cU ?_ ?_ ?_
 have cM:=bA.nilrow 35 2
 exact ⟨U9,none,0,rfl,rfl,rfl,rfl,rfl,(zo _),(cM.pick [1,2,3,0] _ (by decide) rfl)⟩
 rintro be bf dD dG dt bC ⟨bp,aX,ba,bi,bu,bL,bv,bw,bg,bS⟩ dh
 have bK:Hid ((↑be:Int) < (↑x26.Bout.Across.length:Int)):=zL (wBm bC)
 replace bC:=zL bC
 have bT:Hid (w64 ((↑be:Int) + 1)=(↑(be + 1):Int)):=zL (by have h1:=bD.out;have h2:=bK.out;rw [wAY] <;> omega)
 refine sR fL1 Z (oR Z (zg Z bi bw) (eN (zG (cT Z bK (kN (zG (zd (sR (.fl 0 (.fl 1 (.fx 2 (.fx 3 .nil .stop) .stop))) Z (bnK dh fun x83 bM dg=>?_)))))))))
 have bN:=cu.le bg
 have q:=bN.el (fun _=>rfl) (wAx bM)
 obtain ⟨dv,dA,cA,cB⟩:=q
 refine oR Z (zu Z bv cA bi zw zy (wCA bM)) (oL Z (bS.ldCA (f:=0) cB Z Z Zc zy (us:=[jV x83.Skier,jV x83.Lane]) Z Z) (ZR (cs:=[jV 0,jV 0]) Z Z Z Z Z ZY Z bS ?_))
 intro du aZ cN
 let B1:List Value:=[jV x83.Skier,jV x83.Lane]
 refine ZG (j:=0) (vs:=B1) Z Z Z Z cN Z Z Z Z zy (zD Z) Z Z Z ?_
 intro bq cO
 let B2:Res:=.row aX ba 35 2 (hH wAB bf)
 have bB:sW w U bp [.blk aZ 35 B1,.blk ai 99 ([.slice am x26.Bout.Shots.length au,.slice ap x26.Bout.Down.length az,.slice ae x26.Bout.Across.length aj,.map (some aa)] ++ ((hH KL.encI x26.hits.l) ++ ((hH KL.encI x26.used.l) ++ (hH KL.encT x26.met.l)))),.obj aa (.map aV aU),.blk b2 26 B0,B2] bq:=cO
 refine eN (sR (wFT (.fx 5 (.fl 6 (.fl 7 .nil)) .stop)) Z (oM Z bu (oR Z (zK Z Z zr Z zB) (oL Z (bB.ldB (j:=0) Z Z Z zH (v:=jV x83.Skier) Z) (oR Z (zK Z Z zr Z zB) (oL Z (bB.ldB (j:=0) Z Z Z zH (v:=jV x83.Lane) Z) ?_))))))
 have cy:=cr.le bg
 have cz:=ct.le bg
 refine bnK dg fun dk cp cV=>?_
 have cC:sW w U bp [.blk ai 99 ([.slice am x26.Bout.Shots.length au,.slice ap x26.Bout.Down.length az,.slice ae x26.Bout.Across.length aj,.map (some aa)] ++ ((hH KL.encI x26.hits.l) ++ ((hH KL.encI x26.used.l) ++ (hH KL.encT x26.met.l)))),.obj aa (.map aV aU),.blk aZ 35 B1,.blk b2 26 B0,B2] bq:=bB.pick [1,2,0,3,4] _ (by decide) rfl
 refine zP 2 Z Z Z Z (zN Z Z Try.call48 (zC Z (zC Z (zC Z zU))) Z) cC (fun hs=>wDO x26 ai am au ap az ae aj aa aV aU x83.Skier x83.Lane bq bp hs cy cz bN cw cp) (.inl Z) ?_
 rintro aY dq dB bZ bU cD ⟨rfl,rfl⟩
 have bz:sW w U aY [.blk ai 99 ([.slice am x26.Bout.Shots.length au,.slice ap x26.Bout.Down.length az,.slice ae x26.Bout.Across.length aj,.map (some aa)] ++ ((hH KL.encI x26.hits.l) ++ ((hH KL.encI x26.used.l) ++ (hH KL.encT x26.met.l)))),.obj aa (.map aV aU),.blk aZ 35 B1,.blk b2 26 B0,B2] bZ:=cD
 refine oR Z (Runs.fld Z Z Zg Z (wEo zH (v:=jV dk.Lo) Z)) (oR Z (Runs.gtr Z Z Z) (eN (ifc cV ?_ ?_)))
 intro br cW
 refine cT Z br (rR gBi Z (oM Z bL (oL Z (bz.ldBA (j:=2) Z Z Z Zc zy (vs:=B1) Z Z) (Zi (pv:=[(0,.agg B1.toArray)]) (zs:=[jV 0,jV 0]) (cs:=B1) Z Z Z Z Z (wAT Z wBY) zw zy ZY Z Z Z Z Z bz ?_))))
 intro b5 cd cE
 let B3:Res:=.row (some ⟨cd,0,none⟩) 1 35 2 (hH wAB [x83])
 have bP:sW w U aY [B3,.blk ai 99 ([.slice am x26.Bout.Shots.length au,.slice ap x26.Bout.Down.length az,.slice ae x26.Bout.Across.length aj,.map (some aa)] ++ ((hH KL.encI x26.hits.l) ++ ((hH KL.encI x26.used.l) ++ (hH KL.encT x26.met.l)))),.obj aa (.map aV aU),.blk aZ 35 B1,.blk b2 26 B0,B2] b5:=cE
 refine bnK cW fun x118 cq cX=>OKS.append (j:=5) (enc:=wAB) (xs:=bf) (ys:=[x83]) (zs:=x118) rfl rfl rfl rfl rfl Try.underlying24 wNz rfl rfl rfl rfl rfl rfl bP rfl rfl rfl (bP.srcR (j:=0) rfl (by decide) (wAG (f:=wAB) (sz:=2) (fun _=>rfl) [x83])) (fun _=>rfl) (fun _=>rfl) cq rfl ?_
 intro bF bJ b9 cG
 have cH:sW w U aY [B3,.blk ai 99 ([.slice am x26.Bout.Shots.length au,.slice ap x26.Bout.Down.length az,.slice ae x26.Bout.Across.length aj,.map (some aa)] ++ ((hH KL.encI x26.hits.l) ++ ((hH KL.encI x26.used.l) ++ (hH KL.encT x26.met.l)))),.obj aa (.map aV aU),.blk aZ 35 B1,.blk b2 26 B0,.row bF bJ 35 2 (hH wAB x118)] b9:=cG
 refine oA Z Z (ZA (zk (zM (rR fL2 Z (oR Z (ZB (zh Z bi Z) (congrArg (jV) bT.out)) (oM Z Z (ZA ?_)))))))
 cases cX
 exact zM ⟨rfl,⟨aY,bF,bJ,rfl,bu,rfl,bv,bw,(bg.trans bU),(cH.pick [1,2,4,5] _ (by decide) rfl)⟩⟩
 intro br cY
 refine cF Z br (ZN (zk (zM (rR fL2 Z (oR Z (ZB (zh Z bi Z) (congrArg (jV) bT.out)) (oM Z Z (ZA ?_)))))))
 cases cY
 exact zM ⟨rfl,⟨aY,aX,ba,rfl,bu,bL,bv,bw,(bg.trans bU),(bz.pick [0,1,3,4] _ (by decide) rfl)⟩⟩
 rintro dF dr ⟨bX,bW,cf,cn,dw,ci,dx,cj,dz,cI⟩
 have cg:Hid (¬ ((↑(((↑x26.Bout.Across.length:Int):Int) - 0).toNat:Int) < (↑x26.Bout.Across.length:Int))):=zL (wBK)
 refine sR fL1 Z (oR Z (zg Z cn cj) (eN (zG (cF Z cg (ZM (zn (zn (ZE (zM (sR fL3 Z (oM Z ci (oA Z Z (oA Z Z (eN (zR ?_)))))))))))))))
 cases df
 exact ⟨rfl,_,(wDZ rfl rfl),bX,_,(cI.pick [3] _ (by decide) rfl),bW,cf,rfl,rfl⟩
 intro bt cZ
 refine cT Z bt (sR fL3 Z (oM Z Z (oA Z Z (oA Z Z (eN (zR (zJ ?_)))))))
 have cJ:=bA.nilrow 35 2
 cases cZ
 exact ⟨rfl,_,(wDZ rfl rfl),U9,_,(cJ.pick [0] _ (by decide) rfl),none,0,rfl,rfl⟩
theorem wFi (p0:wAC) (aY:Option Addr) (ba:Nat) (aZ:Option Addr) (bb:Nat) (bi:Option Addr) (bj:Nat) (p1:Int) (p2:Int) (w:World) (U:PHeap) (hS:St0 w U []) (cD:Sl U 1 aY ba p0.Shots.length (hH KL.encI p0.Shots)) (cE:Sl U 1 aZ bb p0.Down.length (hH KL.encI p0.Down)) (cG:Sl U 2 bi bj p0.Across.length (hH wAB p0.Across)) {r:(Option wAE) × Int} (hm:wCP p0 p1 p2=some r):Gv Try.prog 49 [.agg #[.slice aY p0.Shots.length ba,.slice aZ p0.Down.length bb,.slice bi p0.Across.length bj],jV p1,jV p2] w (wCg w [] U (fun U_ L_ v=>match r.1 with | none=>v=.tuple #[.pointer none,jV r.2]/\L_=[] | some d=>∃ (b0:Nat) (A0p00:Option Addr) (c0p00:Nat) (A0p01:Option Addr) (c0p01:Nat) (A0p02:Option Addr) (c0p02:Nat) (m0p1:Nat) (es0p1:Array MapEntry) (ck0p1:Nat),v=.tuple #[.pointer (some ⟨b0,0,none⟩),jV r.2]/\L_=[.blk b0 99 ([.slice A0p00 d.Bout.Shots.length c0p00,.slice A0p01 d.Bout.Down.length c0p01,.slice A0p02 d.Bout.Across.length c0p02,.map (some m0p1)] ++ ((hH KL.encI d.hits.l) ++ ((hH KL.encI d.used.l) ++ (hH KL.encT d.met.l)))),.obj m0p1 (.map es0p1 ck0p1)]/\Sl U_ 1 A0p00 c0p00 d.Bout.Shots.length (hH KL.encI d.Bout.Shots)/\Sl U_ 1 A0p01 c0p01 d.Bout.Down.length (hH KL.encI d.Bout.Down)/\Sl U_ 2 A0p02 c0p02 d.Bout.Across.length (hH wAB d.Bout.Across)/\MpR es0p1 wGl wHL d.may)):=by
 unfold wCP at hm
 refine Gv.of Try.func49 Z Try.ntmps49 Try.results49 Z (sR gBb Z ?_)
 let B0:List Value:=[.slice aY p0.Shots.length ba,.slice aZ p0.Down.length bb,.slice bi p0.Across.length bj]
 refine ZT (cs:=B0) rfl rfl rfl rfl rfl rfl (by rfl) hS ?_
 intro W1 b2 bP
 refine oA Z Z (oA Z Z (eN (sR (.fl 0 (.fx 1 (wGt (.nil)) .stop)) Z (oL Z (bP.ldBA (j:=0) Z Z Z ZK zj (vs:=B0) Z Z) ?_))))
 have q:=bnd hm
 obtain ⟨⟨x5,x6⟩,h7,be⟩:=q
 try dsimp only at be
 refine zP 0 Z Z Z Z (zN Z Z Try.call69 (zC Z zU) Z) bP (fun hs=>wCo p0 aY ba aZ bb bi bj W1 U hs cD cE cG h7) (.inr Z) ?_
 rintro U9 db dt bf dm bO bN
 rcases x5 with _ | x26
 try dsimp only at be
 obtain ⟨rfl,rfl⟩:=bN
 have bu:sW w U U9 [.blk b2 26 B0] bf:=bO
 refine oM Z Z (oR Z (zq Z Z (v:=.pointer none) Z) (oR Z (zq Z Z (v:=jV x6) Z) (oA Z Z (oA Z Z (eN (zG (zd (sR fL3 Z (oM Z Z (oR Z (ZF Z Z Z) (oA Z Z (eN (ifc be ?_ ?_)))))))))))))
 intro bp cM
 refine zi (zf (fun h=>h bp.out)) (sR (wFT (.fx 5 (wOG (.fx 13 (wHq (.nil)) .stop)) .stop)) Z (oM Z Z (oR Z (zK Z Z zF Z zW) (oL Z (bu.ldB (j:=0) Z Z Z ze (v:=.slice aY p0.Shots.length ba) Z) (oR Z (zt Z Z zA) (oR Z (ZV Z Z Z) (bnK cM fun dy cd cN=>zP 0 Z Z Z Z (zN Z Z Zp (zC Z (zC Z (zC Z zU))) Z) bu (fun hs=>wBI p1 0 (w64 ((↑p0.Shots.length:Int) - 1)) bf U9 hs cd) (.inr Z) ?_)))))))
 rintro bl df du bF dp cy ⟨rfl,rfl⟩
 have bv:sW w U bl [.blk b2 26 B0] bF:=cy
 refine oR Z (ZC Z Z) (oM Z Z (ifc cN ?_ ?_))
 intro ab cO
 refine zZ Z Z Z (zI Z Z (nC ab.out)) Z Z (zO Z Z Z (zI Z Z (nC ab.out)) (fun _=>zK Z Z zF Z zW) (zm Z Z Z (zI Z Z (nC ab.out)) (bv.ldB (j:=0) Z Z Z ze (v:=.slice aZ p0.Down.length bb) Z) Z (zO Z Z Z (zI Z Z (nC ab.out)) (fun _=>zt Z Z zA) (zO Z Z Z (zI Z Z (nC ab.out)) (fun _=>ZV Z Z Z) (bnK cO fun x42 cf cP=>zP 0 Z Z Z (zI Z Z (nC ab.out)) (zN Z Z Zp (zC Z (zC Z (zC Z zU))) Z) bv (fun hs=>wBI p2 0 (w64 ((↑p0.Down.length:Int) - 1)) bF bl hs cf) (.inr Z) ?_)))))
 rintro bE dg dv bV dq cz ⟨rfl,rfl⟩
 have cA:sW w U bE [.blk b2 26 B0] bV:=cz
 refine zO Z Z Z (zI Z Z (nC ab.out)) (fun _=>ZC Z Z) (oR Z (zY Z (nC ab.out) Z) (oA Z Z (eN (ifc cP ?_ ?_))))
 intro bq cQ
 refine zi (nC bq.out) (sR gBh Z (oM Z Z ?_))
 cases cQ
 intro bq cR
 refine zp (nF (bq.out)) (sR fL2 Z (oA Z Z (oA Z Z (eN (zR (zX (zJ ?_)))))))
 cases cR
 exact ⟨rfl,_,(wDZ rfl rfl),bE,_,(cA.pick [] _ (by decide) rfl),rfl,rfl⟩
 intro ab cS
 refine zE Z Z Z (zQ Z Z (nF (ab.out)) Z) (zE Z Z Z (zQ Z Z (nF (ab.out)) Z) (zE Z Z Z (zQ Z Z (nF (ab.out)) Z) (zE Z Z Z (zQ Z Z (nF (ab.out)) Z) (zE Z Z Z (zQ Z Z (nF (ab.out)) Z) (ZS Z Z Z (zQ Z Z (nF (ab.out)) Z) (zE Z Z Z (zQ Z Z (nF (ab.out)) Z) (oR Z (zS Z (nF (ab.out)) Z) (oA Z Z (eN (zp Z (sR fL2 Z (oA Z Z (oA Z Z (eN (zR (zX (zJ ?_)))))))))))))))))
 cases cS
 exact ⟨rfl,_,(wDZ rfl rfl),bl,_,(bv.pick [] _ (by decide) rfl),rfl,rfl⟩
 intro bp cU
 refine cT Z bp (sR fL3 Z (oM Z Z (oA Z Z (oA Z Z (eN (zR (zX (zJ ?_))))))))
 cases cU
 exact ⟨rfl,_,(wDZ rfl rfl),U9,_,(bu.pick [] _ (by decide) rfl),rfl,rfl⟩
 try dsimp only at be
 obtain ⟨aj,am,az,ap,aU,aq,aV,ah,aX,aW,rfl,rfl,cg,ci,cj,bJ⟩:=bN
 have bw:sW w U U9 [.blk aj 99 ([.slice am x26.Bout.Shots.length az,.slice ap x26.Bout.Down.length aU,.slice aq x26.Bout.Across.length aV,.map (some ah)] ++ ((hH KL.encI x26.hits.l) ++ ((hH KL.encI x26.used.l) ++ (hH KL.encT x26.met.l)))),.obj ah (.map aX aW),.blk b2 26 B0] bf:=bO
 refine oM Z Z (oR Z (zq Z Z (v:=.pointer (some ⟨aj,0,none⟩)) Z) (oR Z (zq Z Z (v:=jV x6) Z) (oA Z Z (oA Z Z (eN (zG (zd (sR fL3 Z (oM Z Z (oR Z (ZF Z Z Z) (oA Z Z (eN (ifc be ?_ ?_)))))))))))))
 intro br cV
 refine zi (zf (fun h=>h br.out)) (sR (wFT (.fx 5 (wOG (.fx 13 (wHq (.nil)) .stop)) .stop)) Z (oM Z Z (oR Z (zK Z Z zF Z zW) (oL Z (bw.ldB (j:=2) Z Z Z ze (v:=.slice aY p0.Shots.length ba) Z) (oR Z (zt Z Z zA) (oR Z (ZV Z Z Z) (bnK cV fun dz cn cW=>zP 0 Z Z Z Z (zN Z Z Zp (zC Z (zC Z (zC Z zU))) Z) bw (fun hs=>wBI p1 0 (w64 ((↑p0.Shots.length:Int) - 1)) bf U9 hs cn) (.inr Z) ?_)))))))
 rintro bm dh dw bG bB cB ⟨rfl,rfl⟩
 have bz:sW w U bm [.blk aj 99 ([.slice am x26.Bout.Shots.length az,.slice ap x26.Bout.Down.length aU,.slice aq x26.Bout.Across.length aV,.map (some ah)] ++ ((hH KL.encI x26.hits.l) ++ ((hH KL.encI x26.used.l) ++ (hH KL.encT x26.met.l)))),.obj ah (.map aX aW),.blk b2 26 B0] bG:=cB
 refine oR Z (ZC Z Z) (oM Z Z (ifc cW ?_ ?_))
 intro ae cX
 refine zZ Z Z Z (zI Z Z (nC ae.out)) Z Z (zO Z Z Z (zI Z Z (nC ae.out)) (fun _=>zK Z Z zF Z zW) (zm Z Z Z (zI Z Z (nC ae.out)) (bz.ldB (j:=2) Z Z Z ze (v:=.slice aZ p0.Down.length bb) Z) Z (zO Z Z Z (zI Z Z (nC ae.out)) (fun _=>zt Z Z zA) (zO Z Z Z (zI Z Z (nC ae.out)) (fun _=>ZV Z Z Z) (bnK cX fun x78 cq cY=>zP 0 Z Z Z (zI Z Z (nC ae.out)) (zN Z Z Zp (zC Z (zC Z (zC Z zU))) Z) bz (fun hs=>wBI p2 0 (w64 ((↑p0.Down.length:Int) - 1)) bG bm hs cq) (.inr Z) ?_)))))
 rintro bn dk dx bH bC cC ⟨rfl,rfl⟩
 have bQ:sW w U bn [.blk aj 99 ([.slice am x26.Bout.Shots.length az,.slice ap x26.Bout.Down.length aU,.slice aq x26.Bout.Across.length aV,.map (some ah)] ++ ((hH KL.encI x26.hits.l) ++ ((hH KL.encI x26.used.l) ++ (hH KL.encT x26.met.l)))),.obj ah (.map aX aW),.blk b2 26 B0] bH:=cC
 refine zO Z Z Z (zI Z Z (nC ae.out)) (fun _=>ZC Z Z) (oR Z (zY Z (nC ae.out) Z) (oA Z Z (eN (ifc cY ?_ ?_))))
 intro bs cZ
 refine zi (nC bs.out) (sR gBh Z (oM Z Z ?_))
 have cr:=cg.le bB
 have bK:=cr.le bC
 have ct:=ci.le bB
 have bL:=ct.le bC
 have cu:=cj.le bB
 have bM:=cu.le bC
 have q:=bnd cZ
 obtain ⟨⟨x96,x97⟩,cw,bR⟩:=q
 try dsimp only at bR
 refine zP 2 Z Z Z Z (zN Z Z Try.call46 (zC Z zU) Z) bQ (fun hs=>wBf x26 aj am az ap aU aq aV ah aX aW bH bn hs bK bL bM bJ cw) (.inl Z) ?_
 rintro bk de dr bU bA cx ⟨bD,bW,rfl,rfl,bX⟩
 have bt:sW w U bk [.row bD bW 3 1 (hH KL.encI x96),.blk aj 99 ([.slice am x26.Bout.Shots.length az,.slice ap x26.Bout.Down.length aU,.slice aq x26.Bout.Across.length aV,.map (some ah)] ++ ((hH KL.encI x97.1.l) ++ ((hH KL.encI x97.2.1.l) ++ (hH KL.encT x97.2.2.l)))),.obj ah (.map aX aW),.blk b2 26 B0] bU:=cx
 have bY:bD.isNone=decide (x96=[]):=wGI (j:=0) bt rfl (fun _=>rfl) (by decide) bX
 refine zO rfl rfl rfl rfl (fun _=>Runs.neNilR (b:=decide (¬ (x96=[]))) rfl rfl rfl zA (by simp [bY])) (OKS.ra rfl rfl rfl rfl rfl rfl (eN (ifc bR ?_ ?_)))
 intro bo cH
 refine zi (zf (fun h=>h bo.out)) (ZN (zk (zM (sR fL3 Z (oM Z Z (oA Z Z (oA Z Z (eN (zR ?_)))))))))
 have bZ:=bK.le bA
 have b5:=bL.le bA
 have b9:=bM.le bA
 cases cH
 exact ⟨rfl,_,(wDZ rfl rfl),bk,_,(bt.pick [1,2] _ (by decide) rfl),aj,am,az,ap,aU,aq,aV,ah,aX,aW,rfl,rfl,bZ,b5,b9,bJ⟩
 intro bo cI
 refine cT Z bo (sR fL2 Z (oA Z Z (oA Z Z (eN (zR (zX (zJ ?_)))))))
 cases cI
 exact ⟨rfl,_,(wDZ rfl rfl),bk,_,(bt.pick [] _ (by decide) rfl),rfl,rfl⟩
 intro bs cJ
 refine zp (nF (bs.out)) (sR fL2 Z (oA Z Z (oA Z Z (eN (zR (zX (zJ ?_)))))))
 cases cJ
 exact ⟨rfl,_,(wDZ rfl rfl),bn,_,(bQ.pick [] _ (by decide) rfl),rfl,rfl⟩
 intro ae cK
 refine zE Z Z Z (zQ Z Z (nF (ae.out)) Z) (zE Z Z Z (zQ Z Z (nF (ae.out)) Z) (zE Z Z Z (zQ Z Z (nF (ae.out)) Z) (zE Z Z Z (zQ Z Z (nF (ae.out)) Z) (zE Z Z Z (zQ Z Z (nF (ae.out)) Z) (ZS Z Z Z (zQ Z Z (nF (ae.out)) Z) (zE Z Z Z (zQ Z Z (nF (ae.out)) Z) (oR Z (zS Z (nF (ae.out)) Z) (oA Z Z (eN (zp Z (sR fL2 Z (oA Z Z (oA Z Z (eN (zR (zX (zJ ?_)))))))))))))))))
 cases cK
 exact ⟨rfl,_,(wDZ rfl rfl),bm,_,(bz.pick [] _ (by decide) rfl),rfl,rfl⟩
 intro br cL
 refine cT Z br (sR fL3 Z (oM Z Z (oA Z Z (oA Z Z (eN (zR (zX (zJ ?_))))))))
 cases cL
 exact ⟨rfl,_,(wDZ rfl rfl),U9,_,(bw.pick [] _ (by decide) rfl),rfl,rfl⟩
end Go.Proofs.Ytfcmijinklojbaa
namespace Go.Proofs.Ytfcmijinklojbaa
open Go.KL
set_option maxHeartbeats 4000000
theorem wFF (p0:wAC) (bf:Option Addr) (bi:Nat) (bg:Option Addr) (bj:Nat) (bh:Option Addr) (bk:Nat) (p1:Int) (p2:Int) (w:World) (U:PHeap) (hS:St0 w U []) (bR:Sl U 1 bf bi p0.Shots.length (hH KL.encI p0.Shots)) (bS:Sl U 1 bg bj p0.Down.length (hH KL.encI p0.Down)) (bT:Sl U 2 bh bk p0.Across.length (hH wAB p0.Across)) {r:wAS × Int} (hm:wBp p0 p1 p2=some r):Gv Try.prog 14 [.agg #[.slice bf p0.Shots.length bi,.slice bg p0.Down.length bj,.slice bh p0.Across.length bk],jV p1,jV p2] w (wCg w [] U (fun U_ L_ v=>v=.tuple #[.agg #[jV r.1.Lo,jV r.1.Hi],jV r.2]/\L_=[])):=by
 unfold wBp at hm
 refine Gv.of Try.func14 Z Try.ntmps14 Try.results14 Z (sR (.fx 0 gAy .stop) Z ?_)
 let B0:List Value:=[.slice bf p0.Shots.length bi,.slice bg p0.Down.length bj,.slice bh p0.Across.length bk]
 refine ZT (cs:=B0) rfl rfl rfl rfl rfl rfl (by rfl) hS ?_
 intro W1 b2 bK
 let B1:List Value:=[jV 0,jV 0]
 refine ZR (cs:=B1) Z Z Z Z Z ZX Z bK ?_
 intro W5 b6 bw
 refine oA Z Z (eN (sR (wDt (.fx 3 (fC4_8 (.nil)) .stop)) Z (oL Z (bw.ldBA (j:=1) Z Z Z ZK zj (vs:=B0) Z Z) (oM Z Z (oM Z Z ?_)))))
 have q:=bnd hm
 obtain ⟨⟨x9,bl⟩,bE,aZ⟩:=q
 try dsimp only at aZ
 refine zP 0 Z Z Z Z (zN Z Z Try.call49 (zC Z (zC Z (zC Z zU))) Z) bw (fun hs=>wFi p0 bf bi bg bj bh bk p1 p2 W5 U hs bR bS bT bE) (.inr Z) ?_
 rintro aj b5 ci bn cf br bq
 rcases x9 with _ | aa
 try dsimp only at aZ
 obtain ⟨rfl,rfl⟩:=bq
 have bL:sW w U aj [.blk b6 44 B1,.blk b2 26 B0] bn:=br
 refine oM Z Z (oR Z (zq Z Z (v:=.pointer none) Z) (oR Z (zq Z Z (v:=jV bl) Z) (oA Z Z (oA Z Z (eN (zG (sR fL2 Z (oM Z Z (oR Z (ZF Z Z Z) (eN (ifc aZ ?_ ?_)))))))))))
 intro bo bU
 refine zi (zf (fun h=>h bo.out)) (kN (sR (wDt gBe) Z (oM Z Z (oM Z Z (oM Z Z ?_)))))
 cases bU
 intro bo bV
 refine cT Z bo (sR gBg Z (oR Z (Zb (pv:=[]) (z:=B1) (cs:=B1) Z wBY ZX wFB Z Z) (oM Z Z (ZG (j:=0) (vs:=B1) Z Z Z Z bL Z Z Z Z ZH (zD Z) Z Z Z ?_))))
 intro bz bM
 have bs:sW w U aj [.blk b6 44 B1,.blk b2 26 B0] bz:=bM
 refine oA Z Z (eN (zR (zJ ?_)))
 cases bV
 exact ⟨rfl,_,(wKf (rs:=[.cell 6 44,.tmp 7]) (vs:=[.agg B1.toArray,jV bl]) ⟨⟨_,rfl,(wGx Zj ZH (bs.blkAt (k:=0) rfl) (vs:=B1) rfl rfl)⟩,⟨rfl,trivial⟩⟩ rfl),aj,_,(bs.pick [] _ (by decide) rfl),rfl,rfl⟩
 try dsimp only at aZ
 obtain ⟨ak,aq,aU,au,aV,az,aW,ah,aY,aX,rfl,rfl,bF,bG,bH,bI⟩:=bq
 have bt:sW w U aj [.blk ak 99 ([.slice aq aa.Bout.Shots.length aU,.slice au aa.Bout.Down.length aV,.slice az aa.Bout.Across.length aW,.map (some ah)] ++ ((hH KL.encI aa.hits.l) ++ ((hH KL.encI aa.used.l) ++ (hH KL.encT aa.met.l)))),.obj ah (.map aY aX),.blk b6 44 B1,.blk b2 26 B0] bn:=br
 refine oM Z Z (oR Z (zq Z Z (v:=.pointer (some ⟨ak,0,none⟩)) Z) (oR Z (zq Z Z (v:=jV bl) Z) (oA Z Z (oA Z Z (eN (zG (sR fL2 Z (oM Z Z (oR Z (ZF Z Z Z) (eN (ifc aZ ?_ ?_)))))))))))
 intro bp bW
 refine zi (zf (fun h=>h bp.out)) (kN (sR (wDt gBe) Z (oM Z Z (oM Z Z (oM Z Z (bnK bW fun x47 bJ bX=>zP 2 Z Z Z Z (zN Z Z Try.call48 (zC Z (zC Z (zC Z zU))) Z) bt (fun hs=>wDO aa ak aq aU au aV az aW ah aY aX p1 p2 bn aj hs bF bG bH bI bJ) (.inl Z) ?_))))))
 rintro bm b9 cj bB cg bN ⟨rfl,rfl⟩
 have bO:sW w U bm [.blk ak 99 ([.slice aq aa.Bout.Shots.length aU,.slice au aa.Bout.Down.length aV,.slice az aa.Bout.Across.length aW,.map (some ah)] ++ ((hH KL.encI aa.hits.l) ++ ((hH KL.encI aa.used.l) ++ (hH KL.encT aa.met.l)))),.obj ah (.map aY aX),.blk b6 44 B1,.blk b2 26 B0] bB:=bN
 let B2:List Value:=[jV x47.Lo,jV x47.Hi]
 refine ZG (j:=2) (vs:=B2) Z Z Z Z bO Z Z Z Z ZH (zD Z) Z Z Z ?_
 intro bC bP
 have bu:sW w U bm [.blk ak 99 ([.slice aq aa.Bout.Shots.length aU,.slice au aa.Bout.Down.length aV,.slice az aa.Bout.Across.length aW,.map (some ah)] ++ ((hH KL.encI aa.hits.l) ++ ((hH KL.encI aa.used.l) ++ (hH KL.encT aa.met.l)))),.obj ah (.map aY aX),.blk b6 44 B2,.blk b2 26 B0] bC:=bP
 refine oA Z Z (eN (zR ?_))
 cases bX
 exact ⟨rfl,_,(wKf (rs:=[.cell 6 44,.tmp 7]) (vs:=[.agg B2.toArray,jV 0]) ⟨⟨_,rfl,(wGx Zj ZH (bu.blkAt (k:=2) rfl) (vs:=B2) rfl rfl)⟩,⟨rfl,trivial⟩⟩ rfl),bm,_,(bu.pick [] _ (by decide) rfl),rfl,rfl⟩
 intro bp bY
 refine cT Z bp (sR gBg Z (oR Z (Zb (pv:=[]) (z:=B1) (cs:=B1) Z wBY ZX wFB Z Z) (oM Z Z (ZG (j:=2) (vs:=B1) Z Z Z Z bt Z Z Z Z ZH (zD Z) Z Z Z ?_))))
 intro bD bQ
 have bv:sW w U aj [.blk ak 99 ([.slice aq aa.Bout.Shots.length aU,.slice au aa.Bout.Down.length aV,.slice az aa.Bout.Across.length aW,.map (some ah)] ++ ((hH KL.encI aa.hits.l) ++ ((hH KL.encI aa.used.l) ++ (hH KL.encT aa.met.l)))),.obj ah (.map aY aX),.blk b6 44 B1,.blk b2 26 B0] bD:=bQ
 refine oA Z Z (eN (zR (zJ ?_)))
 cases bY
 exact ⟨rfl,_,(wKf (rs:=[.cell 6 44,.tmp 7]) (vs:=[.agg B1.toArray,jV bl]) ⟨⟨_,rfl,(wGx Zj ZH (bv.blkAt (k:=2) rfl) (vs:=B1) rfl rfl)⟩,⟨rfl,trivial⟩⟩ rfl),aj,_,(bv.pick [] _ (by decide) rfl),rfl,rfl⟩
theorem wCf (p0:wAS) (p1:Int) (w:World) (U:PHeap) (hS:St0 w U [])  {r:Bool} (hm:wAm p0 p1=some r):Gv Try.prog 36 [.agg #[jV p0.Lo,jV p0.Hi],jV p1] w (wCg w [] U (fun U_ L_ v=>v=.bool r/\L_=[])):=by
 unfold wAm at hm
 refine Gv.of Try.func36 rfl Try.ntmps36 Try.results36 rfl (sR gAw rfl (ZT (cs:=[jV p0.Lo,jV p0.Hi]) rfl rfl rfl rfl rfl rfl (by rfl) hS ?_))
 intro W1 b2 ae
 refine oA Z Z (eN (sR fL11 Z (oR Z (zK Z Z Zg Z zB) (oL Z (ae.ldB (j:=0) Z Z Z zH (v:=jV p0.Lo) Z) (oM Z Z (oR Z (Runs.leq Z Z Z) (oM Z Z ?_)))))))
 by_cases c5:p0.Lo <= p1
 have ah:=hm;rw [if_pos c5] at ah;replace c5:=zL c5
 refine zZ Z Z Z (wT Z c5) Z Z (rU Z (wT Z c5) (zK Z Z Zg Z zB) (zm Z Z Z (wT Z c5) (ae.ldB (j:=0) Z Z Z zH (v:=jV p0.Hi) Z) Z (rU Z (wT Z c5) (Runs.leq Z Z Z) (oR Z (zS Z (ZO c5.out) Z) (oA Z Z (eN (zR ?_)))))))
 first | (obtain rfl:=nA ah) | cases ah
 exact ⟨rfl,_,(zz rfl),U,_,(ae.pick [] _ (by decide) rfl),rfl,rfl⟩
 have aj:=hm;rw [if_neg c5] at aj;replace c5:=zL c5
 refine oF Z c5 (oF Z c5 (oF Z c5 (oF Z c5 (oR Z (zY Z (zf c5.out) Z) (oA Z Z (eN (zR ?_)))))))
 have hE:=nA aj;first | subst r | cases hE
 exact ⟨rfl,_,(zz rfl),U,_,(ae.pick [] _ (by decide) rfl),rfl,rfl⟩
theorem wDE (p0:wAA) (p1:Int) (ah:Nat) (w:World) (U:PHeap) (hS:St0 w U []) (ai:Cl U ah 0 [jV p1]) {r:Bool} (hm:wAg p0 p1=some r):Gv Try.prog 38 [.agg #[jV p0.Skier,jV p0.Lane],.pointer (some ⟨ah,0,none⟩)] w (wCg w [] U (fun U_ L_ v=>v=.bool r/\L_=[])):=by
 unfold wAg at hm
 refine Gv.of Try.func38 rfl Try.ntmps38 Try.results38 rfl (sR gAw rfl (ZT (cs:=[jV p0.Skier,jV p0.Lane]) rfl rfl rfl rfl rfl rfl (by rfl) hS ?_))
 intro W1 b2 ab
 refine oA Z Z (eN (sR fL5 Z (oR Z (zK Z Z zr Z zB) (oL Z (ab.ldB (j:=0) Z Z Z zH (v:=jV p0.Lane) Z) (oL Z (ab.ldC (f:=0) ai (v:=jV p1) Z Z zH Z) (oR Z (Zn Z Z Z) (oA Z Z (eN (zR ?_)))))))))
 first | (obtain rfl:=nA hm) | cases hm
 exact ⟨rfl,_,(zz rfl),U,_,(ab.pick [] _ (by decide) rfl),rfl,rfl⟩
theorem wEk (p0:Int) (p1:Int) (w:World) (U:PHeap) (hS:St0 w U [])  {r:wAS} (hm:wBq p0 p1=some r):Gv Try.prog 39 [jV p0,jV p1] w (wCg w [] U (fun U_ L_ v=>v=.agg #[jV r.Lo,jV r.Hi]/\L_=[])):=by
 unfold wBq at hm
 refine Gv.of Try.func39 Z Try.ntmps39 Try.results39 Z (sR (.fx 0 .nil .stop) Z (ZR (cs:=[jV 0,jV 0]) Z Z Z Z Z ZX Z hS ?_))
 intro W1 b2 ak
 refine eN (sR (wDt (.fx 3 .nil .stop)) Z (oM Z Z (oM Z Z ?_)))
 let B0:List Value:=[jV p0,jV p1]
 refine oR Z (Zb (pv:=[(0,jV p0),(1,jV p1)]) (z:=[jV 0,jV 0]) (cs:=B0) Z (wAT Z (wAT Z wBY)) ZX wFB Z Z) (ZG (j:=0) (vs:=B0) Z Z Z Z ak Z Z Z Z ZH (zD Z) Z Z Z ?_)
 intro W5 am
 have ah:sW w U U [.blk b2 44 B0] W5:=am
 refine eN (zR ?_)
 cases hm
 exact ⟨rfl,_,(wJx (v:=.agg B0.toArray) ⟨⟨_,rfl,(wGx Zj ZH (ah.blkAt (k:=0) rfl) (vs:=B0) rfl rfl)⟩,trivial⟩),U,_,(ah.pick [] _ (by decide) rfl),rfl,rfl⟩
theorem wES (w:World) (U:PHeap) (hS:St0 w U []) {r:Bool} (hm:wCG=some r):Gv Try.prog 15 [] w (wCg w [] U (fun U_ L_ v=>v=.bool r/\L_=[])):=by
 cases hm
 refine (xr15 w).mono ?_
 rintro v w' ⟨rfl,k⟩
 exact ⟨U,[],hS.grow k,Z,Z⟩
theorem wDT (p0:List Int) (eK:Option Addr) (eM:Nat) (w:World) (U:PHeap) (hS:St0 w U []) (pD:Sl U 1 eK eM p0.length (hH KL.encB8 p0)) {r:Bool} (hm:wBN p0=some r):Gv Try.prog 6 [.slice eK p0.length eM] w (wCg w [] U (fun U_ L_ v=>v=.bool r/\L_=[])):=by
 unfold wBN at hm
 refine Gv.of Try.func6 Z Try.ntmps6 Try.results6 Z (sR fL1 Z (oA Z Z (eN (sR (.fl 0 (.fx 1 (.fx 2 (fC3_5 (.fx 6 (.fx 7 (.fl 8 .nil) .stop) .stop)) .stop) .stop)) Z (oM Z Z (bnK hm fun x1 h2 p8=>zP 0 Z Z Z Z (zN Z Z Try.call8 (zC Z zU) Z) hS (fun hs=>wGa p0 eK eM w U hs pD h2) (.inr Z) ?_))))))
 rintro U4 L5 v6 W7 tC pB ⟨dL,eQ,fz,rfl,rfl,lv⟩
 have oj:sW w U U4 [.blk dL 87 [.slice eQ x1.bytes.length fz,jV x1.next,.int .u32 x1.state]] W7:=pB
 have q:=bnd p8
 obtain ⟨⟨ap,aZ,eP⟩,lB,gW⟩:=q
 try dsimp only at gW
 refine zP 1 Z Z Z Z (zN Z Z Try.call7 (zC Z (zC Z zU)) Z) oj (fun hs=>wEj x1 dL eQ fz 6 W7 U4 hs lv lB) (.inl Z) ?_
 rintro eW sE tR iK tz ou ⟨bn,bo,bf,bl,ba,bb,bg,bm,i7,iC,i8,rfl,rfl,l8,l9,tw⟩
 let B0:Res:=.blk dL 87 [.slice iC eP.bytes.length i8,jV eP.next,.int .u32 eP.state]
 let B1:Res:=.row bf bl 3 1 (hH KL.encI ap.Down)
 let B2:Res:=.row bg bm 23 1 i7
 let B3:Res:=.row bn bo 3 1 (hH KL.encI ap.Shots)
 have oO:sW w U eW [B3,B1,B2,B0] iK:=ou
 refine oM Z Z (oR Z (zq Z Z (v:=.agg #[.slice bn ap.Shots.length bo,.slice bf ap.Down.length bl,.slice ba ap.Across.length bb]) Z) (oR Z (zq Z Z (v:=.slice bg aZ.length bm) Z) (ZR (cs:=[.slice none 0 0,.slice none 0 0,.slice none 0 0]) Z Z Z Z Z Try.zeroValue26 Z oO ?_)))
 intro sV ab oP
 let B4:List Value:=[.slice bn ap.Shots.length bo,.slice bf ap.Down.length bl,.slice ba ap.Across.length bb]
 refine ZG (j:=0) (vs:=B4) Z Z Z Z oP Z Z Z Z zj (zD Z) Z Z Z ?_
 intro cE o0
 have gN:sW w U eW [.blk ab 26 B4,B3,B1,B2,B0] cE:=o0
 refine oA Z Z (eN (sR (.fl 0 (.fl 1 (.fx 2 (wQo (.nil)) .stop))) Z (oL Z (gN.ldBA (j:=0) Z Z Z ZK zj (vs:=B4) Z Z) (oM Z Z ?_))))
 have q:=gN.freezeR (k:=1) (n:=ap.Shots.length) rfl (wAG (f:=KL.encI) (sz:=1) (fun _=>rfl) ap.Shots) (by decide)
 obtain ⟨iG,ij,rG,pb⟩:=q
 have pf:sW w U iG [.blk ab 26 B4,B1,B2,B0] cE:=pb
 have q:=pf.freezeR (k:=1) (n:=ap.Down.length) rfl (wAG (f:=KL.encI) (sz:=1) (fun _=>rfl) ap.Down) (by decide)
 obtain ⟨iH,eI,rH,ph⟩:=q
 have pi:sW w U iH [.blk ab 26 B4,B2,B0] cE:=ph
 have mO:=l9.le ij
 have mQ:=mO.le eI
 have q:=pi.freezeRR (R:=wIX) (k:=1) rfl mQ rfl (by decide)
 obtain ⟨fb,eJ,eG,pp⟩:=q
 have pq:sW w U fb [.blk ab 26 B4,B0] cE:=pp
 have mR:=rG.le eI
 have gB:=mR.le eJ
 have gC:=rH.le eJ
 have mS:=l8.le ij
 have mT:=mS.le eI
 have gD:=mT.le eJ
 have q:=bnd gW
 obtain ⟨⟨x75,iB⟩,mV,g8⟩:=q
 try dsimp only at g8
 refine zP 0 Z Z Z Z (zN Z Z Try.call35 (zC Z (zC Z zU)) Z) pq (fun hs=>wFD ap bn bo bf bl ba bb aZ bg bm cE fb hs gB gC gD eG mV) (.inr Z) ?_
 rintro fd sP t9 fq cO pz ⟨rfl,rfl⟩
 have gP:sW w U fd [.blk ab 26 B4,B0] fq:=pz
 refine oM Z Z (oR Z (zq Z Z (v:=.bool x75) Z) (oR Z (zq Z Z (v:=jV iB) Z) (oA Z Z (oA Z Z (eN (sR (.fl 0 (.fx 1 (wGt (.nil)) .stop)) Z (oL Z (gP.ldBA (j:=0) Z Z Z ZK zj (vs:=B4) Z Z) ?_)))))))
 have gE:=gB.le cO
 have gF:=gC.le cO
 have gG:=gD.le cO
 have q:=bnd g8
 obtain ⟨⟨x89,x90⟩,mW,g9⟩:=q
 try dsimp only at g9
 refine zP 0 Z Z Z Z (zN Z Z Try.call30 (zC Z zU) Z) gP (fun hs=>wGb ap bn bo bf bl ba bb fq fd hs gE gF gG mW) (.inr Z) ?_
 rintro fe sQ ua ft cP pC ⟨bH,bI,i6,rfl,rfl,lq⟩
 let B5:Res:=.row bH bI 23 1 i6
 have gI:sW w U fe [B5,.blk ab 26 B4,B0] ft:=pC
 refine oM Z Z (oR Z (zq Z Z (v:=.slice bH x89.length bI) Z) (oR Z (zq Z Z (v:=jV x90) Z) (oA Z Z (oA Z Z (eN (sR (.fl 0 (.fx 1 (wGt (.nil)) .stop)) Z (oL Z (gI.ldBA (j:=1) Z Z Z ZK zj (vs:=B4) Z Z) ?_)))))))
 have fZ:=gE.le cP
 have ga:=gF.le cP
 have gb:=gG.le cP
 have q:=bnd g9
 obtain ⟨⟨x108,x109⟩,ls,gR⟩:=q
 try dsimp only at gR
 refine zP 0 Z Z Z Z (zN Z Z Try.call31 (zC Z zU) Z) gI (fun hs=>wGs ap bn bo bf bl ba bb ft fe hs fZ ga gb ls) (.inr Z) ?_
 rintro eT sA tM ff cr oh ⟨eR,fy,rfl,rfl⟩
 let B6:Res:=.row eR fy 3 1 (hH KL.encI x108)
 have gJ:sW w U eT [B6,B5,.blk ab 26 B4,B0] ff:=oh
 refine oM Z Z (oR Z (zq Z Z (v:=.slice eR x108.length fy) Z) (oR Z (zq Z Z (v:=jV x109) Z) (oA Z Z (oA Z Z (eN (sR (.fl 0 (.fx 1 (wGt (.nil)) .stop)) Z (oL Z (gJ.ldBA (j:=2) Z Z Z ZK zj (vs:=B4) Z Z) ?_)))))))
 have gc:=fZ.le cr
 have ge:=ga.le cr
 have gf:=gb.le cr
 have q:=bnd gR
 obtain ⟨⟨bq,it⟩,lu,gS⟩:=q
 try dsimp only at gS
 refine zP 0 Z Z Z Z (zN Z Z Try.call12 (zC Z zU) Z) gJ (fun hs=>wGc ap bn bo bf bl ba bb ff eT hs gc ge gf lu) (.inr Z) ?_
 rintro eU sB tO fg ct oi ⟨bX,b9,rfl,rfl⟩
 let B7:Res:=.row bX b9 44 2 (hH wAd bq)
 have gK:sW w U eU [B7,B6,B5,.blk ab 26 B4,B0] fg:=oi
 refine oM Z Z (oR Z (zq Z Z (v:=.slice bX bq.length b9) Z) (oR Z (zq Z Z (v:=jV it) Z) (oA Z Z (oA Z Z (eN (zG (Zf fun bD bs=>?_)))))))
 have dV:bD 3=.pointer (some ⟨ab,0,none⟩):=(bs 3).trans rfl
 have fD:bD 4=.slice bg aZ.length bm:=(bs 4).trans rfl
 have jr:bD 5=.bool x75:=(bs 5).trans rfl
 have jt:bD 6=jV iB:=(bs 6).trans rfl
 have fE:bD 7=.slice bH x89.length bI:=(bs 7).trans rfl
 have ju:bD 8=jV x90:=(bs 8).trans rfl
 have jv:bD 10=jV x109:=(bs 10).trans rfl
 have fG:bD 11=.slice bX bq.length b9:=(bs 11).trans rfl
 have jw:bD 12=jV it:=(bs 12).trans rfl
 clear bs
 refine rR (.fl 0 (.fx 1 (wGt (.nil)) .stop)) Z (oL Z (gK.ldBA (j:=3) Z Z dV ZK zj (vs:=B4) Z Z) ?_)
 have gg:=gc.le ct
 have gh:=ge.le ct
 have gi:=gf.le ct
 have q:=bnd gS
 obtain ⟨⟨ae,sk⟩,lw,gT⟩:=q
 try dsimp only at gT
 refine zP 0 Z Z Z Z (zN Z Z Try.call13 (zC Z zU) Z) gK (fun hs=>wFh ap bn bo bf bl ba bb fg eU hs gg gh gi lw) (.inr Z) ?_
 rintro bE sC tP dG cu ol ⟨be,bi,rfl,rfl⟩
 let B8:Res:=.row be bi 35 2 (hH wAB ae)
 have bw:sW w U bE [B8,B7,B6,B5,.blk ab 26 B4,B0] dG:=ol
 refine oM Z Z (oR Z (zq Z Z (v:=.slice be ae.length bi) Z) (oR Z (zq Z Z (v:=jV sk) Z) (oA Z Z (oA Z Z (eN (zG (sR fL29 Z (oM Z jt (oR Z (ZF Z Z Z) (oM Z Z (ifc gT ?_ ?_)))))))))))
 intro bJ pQ
 refine zZ Z Z Z (zI Z Z (zf (fun h=>h bJ.out))) Z ju (zO Z Z Z (zI Z Z (zf (fun h=>h bJ.out))) (fun _=>ZF Z Z Z) (oR Z (zY Z (zf (fun h=>h bJ.out)) Z) (oM Z Z (ifc pQ ?_ ?_))))
 intro bK pR
 refine zZ Z Z Z (zI Z Z (zf (fun h=>h bK.out))) Z jv (zO Z Z Z (zI Z Z (zf (fun h=>h bK.out))) (fun _=>ZF Z Z Z) (oR Z (zY Z (zf (fun h=>h bK.out)) Z) (oM Z Z (ifc pR ?_ ?_))))
 intro bL pS
 refine zZ Z Z Z (zI Z Z (zf (fun h=>h bL.out))) Z jw (zO Z Z Z (zI Z Z (zf (fun h=>h bL.out))) (fun _=>ZF Z Z Z) (oR Z (zY Z (zf (fun h=>h bL.out)) Z) (oM Z Z (ifc pS ?_ ?_))))
 intro bM pT
 refine zZ Z Z Z (zI Z Z (zf (fun h=>h bM.out))) Z Z (zO Z Z Z (zI Z Z (zf (fun h=>h bM.out))) (fun _=>ZF Z Z Z) (oR Z (zY Z (zf (fun h=>h bM.out)) Z) (oM Z Z (ifc pT ?_ ?_))))
 intro bN pU
 refine zZ Z Z Z (zI Z Z (zf (fun h=>h bN.out))) Z jr (zO Z Z Z (zI Z Z (zf (fun h=>h bN.out))) (fun _=>ZC Z Z) (oR Z (zY Z (zf (fun h=>h bN.out)) Z) (oM Z Z (ifc pU ?_ ?_))))
 intro bj pV
 refine zZ Z Z Z (zI Z Z (nC bj.out)) Z fG (zO Z Z Z (zI Z Z (nC bj.out)) (fun _=>zt Z Z Try.runUnderlying37) (zZ Z Z Z (zI Z Z (nC bj.out)) Z fD (zO Z Z Z (zI Z Z (nC bj.out)) (fun _=>zt Z Z zx) (zO Z Z Z (zI Z Z (nC bj.out)) (fun _=>ZF Z Z Z) (oR Z (zY Z (nC bj.out) Z) (eN (ifc pV ?_ ?_)))))))
 intro dN pW
 refine zi (zf (fun h=>h dN.out)) (kN (zG (sR (.fl 0 (.fl 1 (.fx 2 (wQo (.nil)) .stop))) Z (oL Z (bw.ldBA (j:=4) Z Z dV ZK zj (vs:=B4) Z Z) (oM Z fE ?_)))))
 have lx:=lq.le cr
 have ly:=lx.le ct
 have lz:=ly.le cu
 have q:=bw.freezeRR (R:=wIX) (k:=3) rfl lz rfl (by decide)
 obtain ⟨eV,cJ,ib,om⟩:=q
 have oq:sW w U eV [B8,B7,B6,.blk ab 26 B4,B0] dG:=om
 have lA:=gg.le cu
 have gj:=lA.le cJ
 have lC:=gh.le cu
 have dZ:=lC.le cJ
 have lD:=gi.le cu
 have dk:=lD.le cJ
 have q:=bnd pW
 obtain ⟨⟨iu,iv⟩,lE,gU⟩:=q
 try dsimp only at gU
 refine zP 0 Z Z Z Z (zN Z Z Try.call35 (zC Z (zC Z zU)) Z) oq (fun hs=>wFD ap bn bo bf bl ba bb x89 bH bI dG eV hs gj dZ dk ib lE) (.inr Z) ?_
 rintro bZ sD tQ iJ bB ot ⟨rfl,rfl⟩
 have dr:sW w U bZ [B8,B7,B6,.blk ab 26 B4,B0] iJ:=ot
 refine oM Z Z (oR Z (zq Z Z (v:=.bool iu) Z) (oR Z (zq Z Z (v:=jV iv) Z) (oA Z Z (oA Z Z (eN (zG (Zf fun bW bG=>?_)))))))
 have jx:bW 3=.pointer (some ⟨ab,0,none⟩):=(bG 3).trans dV
 have dW:bW 4=.slice bg aZ.length bm:=(bG 4).trans fD
 have fH:bW 7=.slice bH x89.length bI:=(bG 7).trans fE
 have jy:bW 11=.slice bX bq.length b9:=(bG 11).trans fG
 have jz:bW 13=.slice be ae.length bi:=(bG 13).trans rfl
 have jA:bW 15=.bool iu:=(bG 15).trans rfl
 have jB:bW 16=jV iv:=(bG 16).trans rfl
 clear bG
 refine rR fL13 Z (oM Z jB (oR Z (ZF Z Z Z) (oM Z Z (ifc gU ?_ ?_))))
 intro bO pX
 refine zZ Z Z Z (zI Z Z (zf (fun h=>h bO.out))) Z jA (zO Z Z Z (zI Z Z (zf (fun h=>h bO.out))) (fun _=>ZC Z Z) (oR Z (zY Z (zf (fun h=>h bO.out)) Z) (oM Z Z (ifc pX ?_ ?_))))
 intro bk pY
 refine zZ Z Z Z (zI Z Z (nC bk.out)) Z fH (zO Z Z Z (zI Z Z (nC bk.out)) (fun _=>zt Z Z zx) (zZ Z Z Z (zI Z Z (nC bk.out)) Z dW (zO Z Z Z (zI Z Z (nC bk.out)) (fun _=>zt Z Z zx) (zO Z Z Z (zI Z Z (nC bk.out)) (fun _=>ZF Z Z Z) (oR Z (zY Z (nC bk.out) Z) (eN (ifc pY ?_ ?_)))))))
 intro dO bA
 refine zi (zf (fun h=>h dO.out)) (kN (zG (sR fL3 Z (oM Z dW (oR Z (zt Z Z zx) (oM Z Z (eN (zd ?_))))))))
 have q:=wCT bA
 obtain ⟨tJ,bz⟩:=q
 have q:=wCS bz
 obtain ⟨eD,pH⟩:=q
 replace eD:=zL eD
 refine Zm (fun ak _ σ_ w_=>∃ (U_:PHeap),σ_ 110=jV (↑ak:Int)/\σ_ 3=.pointer (some ⟨ab,0,none⟩)/\σ_ 4=.slice bg aZ.length bm/\σ_ 7=.slice bH x89.length bI/\σ_ 11=.slice bX bq.length b9/\σ_ 13=.slice be ae.length bi/\σ_ 108=.slice bg aZ.length bm/\σ_ 109=jV (↑aZ.length:Int)/\PHeap.Le bZ U_/\sW w U U_ [.blk ab 26 B4,B0,B7,B8] w_) pH ?_ ?_ ?_
 exact ⟨bZ,rfl,jx,dW,fH,jy,jz,rfl,rfl,(zo _),(dr.pick [3,4,1,0] _ (by decide) rfl)⟩
 rintro ak ⟨⟩ ul up sS ez ⟨b5,dg,fJ,jC,fK,jD,jE,fL,fM,bC,gL⟩ ic bQ
 try dsimp only at ic
 have fA:Hid ((↑ak:Int) < (↑aZ.length:Int)):=zL (wBm ez)
 replace ez:=zL ez
 have gQ:Hid (w64 ((↑ak:Int) + 1)=(↑(ak + 1):Int)):=zL (by have h1:=eD.out;have h2:=fA.out;rw [wAY] <;> omega)
 refine sR fL1 Z (oR Z (zg Z dg fM) (eN (zG (cT Z fA (kN (zG (zd (sR (wDt gBe) Z (oM Z dg (bnK ic fun bV gm pZ=>?_))))))))))
 have lF:=eG.le cO
 have lG:=lF.le cP
 have lH:=lG.le cr
 have lI:=lH.le ct
 have lJ:=lI.le cu
 have lK:=lJ.le cJ
 have lL:=lK.le bB
 have lM:=lL.le bC
 have q:=lM.el (wAx gm)
 obtain ⟨iZ,rP,ub,mX,ef,rC⟩:=q
 obtain ⟨eL,eO,rfl,lN⟩:=rC
 replace ef:Cl b5 iZ (rP + ak * 1) [.slice eL bV.length eO]:=ef
 refine oR Z (zu Z fL mX dg zx zW (wCA gm)) (oL Z (gL.ldC (f:=0) ef (v:=.slice eL bV.length eO) Z Z ze Z) (ZR (cs:=[jV 0]) Z Z Z Z Z Ze Z gL ?_))
 intro sT bh ow
 let B9:List Value:=[jV (↑ak:Int)]
 refine ZG (j:=0) (vs:=B9) Z Z Z Z ow Z Z Z Z zB (zD Z) Z Z Z ?_
 intro iL ox
 have bP:sW w U b5 [.blk bh 3 B9,.blk ab 26 B4,B0,B7,B8] iL:=ox
 refine oA Z Z (eN (zG (sR fL8 Z (oM Z fK (oL Z (bP.ldB (j:=0) Z Z Z zH (v:=jV (↑ak:Int)) Z) (bnK pZ fun dA dp p6=>?_))))))
 have lO:=ib.le bB
 have gp:=lO.le bC
 have q:=gp.el (wAx dp)
 obtain ⟨i0,rQ,uc,mY,eg,rD⟩:=q
 obtain ⟨il,ip,rfl,tv⟩:=rD
 replace eg:Cl b5 i0 (rQ + ak * 1) [.slice il dA.length ip]:=eg
 refine oR Z (zu Z Z mY Z zx zW (wCA dp)) (oL Z (bP.ldC (f:=0) eg (v:=.slice il dA.length ip) Z Z ze Z) (oR Z (zt Z Z zA) (oM Z Z (oR Z (zt Z Z zA) (oR Z (ZF Z Z Z) (eN (ifc p6 ?_ ?_)))))))
 intro dP p7
 refine zi (zf (fun h=>h dP.out)) (kN (sR fL6 Z (oR Z (zK Z fJ zF Z zW) (oL Z (bP.ldB (j:=1) Z Z Z ze (v:=.slice bn ap.Shots.length bo) Z) (oL Z (bP.ldB (j:=0) Z Z Z zH (v:=jV (↑ak:Int)) Z) (bnK p7 fun sn gu cI=>?_))))))
 have lP:=gj.le bB
 have d7:=lP.le bC
 have q:=d7.el (fun _=>rfl) (wAx gu)
 obtain ⟨s7,tD,mZ,n7⟩:=q
 refine oR Z (zu Z Z mZ Z zA zB (wCA gu)) (oL Z (bP.ldC (f:=0) n7 (v:=jV sn) Z Z zH Z) (oA Z Z (eN (zG (sR fL3 Z (oM Z Z (oR Z (zt Z Z zA) (oM Z Z (eN (zd ?_))))))))))
 have q:=wCT cI
 obtain ⟨tK,cH⟩:=q
 have q:=wCS cH
 obtain ⟨eE,pI⟩:=q
 replace eE:=zL eE
 refine Zm (fun cq iw σ_ w_=>∃ (U_:PHeap),σ_ 130=jV (↑cq:Int)/\σ_ 3=.pointer (some ⟨ab,0,none⟩)/\σ_ 4=.slice bg aZ.length bm/\σ_ 7=.slice bH x89.length bI/\σ_ 11=.slice bX bq.length b9/\σ_ 13=.slice be ae.length bi/\σ_ 17=.pointer (some ⟨bh,0,none⟩)/\σ_ 19=jV iw/\σ_ 108=.slice bg aZ.length bm/\σ_ 109=jV (↑aZ.length:Int)/\σ_ 110=jV (↑ak:Int)/\σ_ 128=.slice eL bV.length eO/\σ_ 129=jV (↑bV.length:Int)/\PHeap.Le b5 U_/\sW w U U_ [.blk bh 3 B9,.blk ab 26 B4,B0,B7,B8] w_) pI ?_ ?_ ?_
 exact ⟨b5,Z,fJ,jC,fK,jD,jE,Z,Z,fL,fM,dg,Z,Z,(zo _),bP⟩
 rintro cq iw um uq iM eA ⟨iE,dh,fN,jG,fO,jH,jJ,dX,jK,jL,jM,jN,fP,fQ,cw,dt⟩ rI eu
 have fB:Hid ((↑cq:Int) < (↑bV.length:Int)):=zL (wBm eA)
 replace eA:=zL eA
 have pP:Hid (w64 ((↑cq:Int) + 1)=(↑(cq + 1):Int)):=zL (by have h1:=eE.out;have h2:=fB.out;rw [wAY] <;> omega)
 refine sR fL1 Z (oR Z (zg Z dh fQ) (eN (zG (cT Z fB (kN (zG (zd (sR fL5 Z (oM Z dh (bnK rI fun iy gv p9=>?_))))))))))
 have lQ:=lN.le cw
 have q:=lQ.el (fun _=>rfl) (wAx gv)
 obtain ⟨s8,tE,m4,n9⟩:=q
 refine oR Z (zu Z fP m4 dh zA zB (wCA gv)) (oL Z (dt.ldC (f:=0) n9 (v:=jV iy) Z Z zH Z) (oA Z Z (oA Z Z (eN (sR (wDt (.fx 3 (wPa gBf) .stop)) Z (oL Z (dt.ldBA (j:=1) Z Z fN ZK zj (vs:=B4) Z Z) (oL Z (dt.ldB (j:=0) Z Z dX zH (v:=jV (↑ak:Int)) Z) (oM Z Z ?_))))))))
 have lR:=d7.le cw
 have lS:=dZ.le bB
 have lT:=lS.le bC
 have lU:=lT.le cw
 have lV:=dk.le bB
 have lW:=lV.le bC
 have lX:=lW.le cw
 have q:=bnd p9
 obtain ⟨⟨cy,sq⟩,lY,gX⟩:=q
 try dsimp only at gX
 refine zP 0 Z Z Z Z (zN Z Z Try.call14 (zC Z (zC Z (zC Z zU))) Z) dt (fun hs=>wFF ap bn bo bf bl ba bb (↑ak:Int) (↑cq:Int) iM iE hs lR lU lX lY) (.inr Z) ?_
 rintro cW sF tS iN ig oy ⟨rfl,rfl⟩
 have oz:sW w U cW [.blk bh 3 B9,.blk ab 26 B4,B0,B7,B8] iN:=oy
 refine oM Z Z (oR Z (zq Z Z (v:=.agg #[jV cy.Lo,jV cy.Hi]) Z) (oR Z (zq Z Z (v:=jV sq) Z) (ZR (cs:=[jV 0,jV 0]) Z Z Z Z Z ZX Z oz ?_)))
 intro sU dM oB
 let bY:List Value:=[jV cy.Lo,jV cy.Hi]
 refine ZG (j:=0) (vs:=bY) Z Z Z Z oB Z Z Z Z ZH (zD Z) Z Z Z ?_
 intro dH oG
 have oH:sW w U cW [.blk dM 44 bY,.blk bh 3 B9,.blk ab 26 B4,B0,B7,B8] dH:=oG
 refine OKS.ra rfl rfl rfl rfl rfl rfl (eN (zG (zG (ZI ZJ [3,3,3,1,3,2,3,3,3,1,3,1,3,1,3,3,1,2,3,3] (wFT (.fx 5 (wQr (.fx 17 (.fl 18 (.fl 19 .nil)) .stop)) .stop)) (by kernel_rfl) ?_))))
 have du:=oH.drew
 generalize hw_W368:({ dH with drawn:=dH.drawn + 1 }:World)=iO at du ⊢
 refine oM Z Z (oR Z (ZF Z Z Z) (oM Z Z (ifc gX ?_ ?_)))
 intro bp qa
 refine zm Z Z Z (zI Z Z (zf (fun h=>h bp.out))) (du.ldBA (j:=0) Z Z Z Zj ZH (vs:=bY) Z Z) Z (zZ Z Z Z (zI Z Z (zf (fun h=>h bp.out))) Z Z (bnK qa fun uf lZ qb=>zP 0 Z Z Z (zI Z Z (zf (fun h=>h bp.out))) (zN Z Z Try.call36 (zC Z (zC Z zU)) Z) du (fun hs=>wCf cy iy iO cW hs lZ) (.inr Z) ?_))
 rintro cX sG tT fh ii oI ⟨rfl,rfl⟩
 have cn:sW w U cX [.blk dM 44 bY,.blk bh 3 B9,.blk ab 26 B4,B0,B7,B8] fh:=oI
 refine zO Z Z Z (zI Z Z (zf (fun h=>h bp.out))) (fun _=>ZC Z Z) (oR Z (zY Z (zf (fun h=>h bp.out)) Z) (oM Z Z (ifc qb ?_ ?_)))
 intro aq qc
 refine zm Z Z Z (zI Z Z (nC aq.out)) (cn.ldBA (j:=0) Z Z Z Zj ZH (vs:=bY) Z Z) Z (zZ Z Z Z (zI Z Z (nC aq.out)) Z fO (zm Z Z Z (zI Z Z (nC aq.out)) (cn.ldB (j:=1) Z Z dX zH (v:=jV (↑ak:Int)) Z) Z ?_))
 have l3:=gp.le cw
 have l4:=l3.le ig
 have l5:=l4.le ii
 have q:=l5.el (wAx dp)
 obtain ⟨i3,rS,ud,m5,eh,rE⟩:=q
 obtain ⟨im,iq,rfl,l6⟩:=rE
 replace eh:Cl cX i3 (rS + ak * 1) [.slice im dA.length iq]:=eh
 refine zO Z Z Z (zI Z Z (nC aq.out)) (fun _=>zu Z Z m5 Z zx zW (wCA dp)) (zm Z Z Z (zI Z Z (nC aq.out)) (cn.ldC (f:=0) eh (v:=.slice im dA.length iq) Z Z ze Z) Z (zZ Z Z Z (zI Z Z (nC aq.out)) Z Z (bnK qc fun iz gw qd=>?_)))
 have q:=l6.el (fun _=>rfl) (wAx gw)
 obtain ⟨s9,tF,m6,oa⟩:=q
 refine zO Z Z Z (zI Z Z (nC aq.out)) (fun _=>zu Z Z m6 Z zA zB (wCA gw)) (zm Z Z Z (zI Z Z (nC aq.out)) (cn.ldC (f:=0) oa (v:=jV iz) Z Z zH Z) Z (bnK qd fun ug l7 qe=>zP 0 Z Z Z (zI Z Z (nC aq.out)) (zN Z Z Try.call36 (zC Z (zC Z zU)) Z) cn (fun hs=>wCf cy iz fh cX hs l7) (.inr Z) ?_))
 rintro dD sH tU iP rN oK ⟨rfl,rfl⟩
 have gM:sW w U dD [.blk dM 44 bY,.blk bh 3 B9,.blk ab 26 B4,B0,B7,B8] iP:=oK
 refine zO Z Z Z (zI Z Z (nC aq.out)) (fun _=>ZC Z Z) (oR Z (zY Z (nC aq.out) Z) (eN (ifc qe ?_ ?_)))
 intro dQ qf
 refine zi (nC dQ.out) (kN (rR fL4 Z (oM Z jK (oM Z Z (oR Z (ZV Z Z Z) (oA Z Z (ZA (zk (zM (rR fL2 Z (oR Z (ZB (zh Z dh Z) (congrArg (jV) pP.out)) (oM Z Z (ZA ?_)))))))))))))
 have q:=nA qf
 obtain rfl:=q
 exact zM ⟨rfl,_,rfl,⟨dD,rfl,fN,jG,fO,jH,jJ,dX,rfl,jL,jM,jN,fP,fQ,(((cw.trans ig).trans ii).trans rN),(gM.pick [1,2,3,4,5] _ (by decide) rfl)⟩⟩
 intro dQ qg
 refine zp (nF (dQ.out)) (sR fL1 Z (oA Z Z (eN (zR (zJ (zX (zJ ?_)))))))
 have q:=wAc qg
 obtain ⟨rV,qh,jc⟩:=q
 have q:=wBi cI cH (eu rV jc)
 obtain rfl:=q
 refine zJ (zX (zJ (zX (zJ ?_))))
 have q:=wAc qh
 obtain ⟨rW,qi,jd⟩:=q
 have q:=wBi bA bz (bQ rW jd)
 obtain rfl:=q
 refine zJ (zX (zJ ?_))
 have hE:=nA qi;first | subst r | cases hE
 exact ⟨rfl,_,(zz rfl),dD,_,(gM.pick [] _ (by decide) rfl),rfl,rfl⟩
 intro aq qj
 refine zE Z Z Z (zQ Z Z (nF (aq.out)) Z) (zE Z Z Z (zQ Z Z (nF (aq.out)) Z) (zE Z Z Z (zQ Z Z (nF (aq.out)) Z) (zE Z Z Z (zQ Z Z (nF (aq.out)) Z) (zE Z Z Z (zQ Z Z (nF (aq.out)) Z) (zE Z Z Z (zQ Z Z (nF (aq.out)) Z) (zE Z Z Z (zQ Z Z (nF (aq.out)) Z) (zE Z Z Z (zQ Z Z (nF (aq.out)) Z) (ZS Z Z Z (zQ Z Z (nF (aq.out)) Z) (zE Z Z Z (zQ Z Z (nF (aq.out)) Z) (oR Z (zS Z (nF (aq.out)) Z) (eN (zp Z (sR fL1 Z (oA Z Z (eN (zR (zJ (zX (zJ ?_)))))))))))))))))))
 have q:=wAc qj
 obtain ⟨rX,qk,je⟩:=q
 have q:=wBi cI cH (eu rX je)
 obtain rfl:=q
 refine zJ (zX (zJ (zX (zJ ?_))))
 have q:=wAc qk
 obtain ⟨rY,ql,jf⟩:=q
 have q:=wBi bA bz (bQ rY jf)
 obtain rfl:=q
 refine zJ (zX (zJ ?_))
 have hE:=nA ql;first | subst r | cases hE
 exact ⟨rfl,_,(zz rfl),cX,_,(cn.pick [] _ (by decide) rfl),rfl,rfl⟩
 intro bp qm
 refine oT Z bp (oT Z bp (ZS Z Z Z (zQ Z Z (ZO bp.out) Z) (oT Z bp (oR Z (zS Z (ZO bp.out) Z) (oM Z Z (oN Z (oN Z (oN Z (oN Z (oN Z (oN Z (oN Z (oN Z (ZS Z Z Z (zQ Z Z Z Z) (oN Z (oR Z (zS Z Z Z) (eN (zp Z (sR fL1 Z (oA Z Z (eN (zR (zJ (zX (zJ ?_)))))))))))))))))))))))))
 have q:=wAc qm
 obtain ⟨rZ,qn,jg⟩:=q
 have q:=wBi cI cH (eu rZ jg)
 obtain rfl:=q
 refine zJ (zX (zJ (zX (zJ ?_))))
 have q:=wAc qn
 obtain ⟨r6,qo,jh⟩:=q
 have q:=wBi bA bz (bQ r6 jh)
 obtain rfl:=q
 refine zJ (zX (zJ ?_))
 have hE:=nA qo;first | subst r | cases hE
 exact ⟨rfl,_,(zz rfl),cW,_,(du.pick [] _ (by decide) rfl),rfl,rfl⟩
 rintro sw ur iQ ⟨iF,lm,cd,fR,fS,dY,fT,cf,jO,fU,fV,fW,th,jP,cK,dv⟩ pE
 have qp:=wCw cI cH pE
 have i9:Hid (¬ ((↑(((↑bV.length:Int):Int) - 0).toNat:Int) < (↑bV.length:Int))):=zL (wBK)
 refine sR fL1 Z (oR Z (zg Z lm jP) (eN (zG (cF Z i9 (ZM (zn (zn (ZE (zM (zG (sR (wFT gAz) Z (oM Z dY (oL Z (dv.ldB (j:=0) Z Z cf zH (v:=jV (↑ak:Int)) Z) (bnK qp fun _ d8 qq=>?_))))))))))))))
 obtain ⟨tc,gH⟩:=dv.rowSome (j:=3) rfl (by rw [wAG (f:=wAd) (sz:=2) (fun _=>rfl) bq];have hz:=wAI d8;omega)
 refine oR Z (zu Z Z gH Z Try.runUnderlying37 ZH (wAI d8)) ?_
 have pK:=wBX (xs:=bq) (wAI d8)
 refine zm rfl rfl rfl rfl (dv.ldRA (j:=3) rfl gH rfl rfl Zj ZH (vs:=[jV ((gd bq ak).Lo),jV ((gd bq ak).Hi)]) (wFz (sz:=2) (fun _=>rfl) _ _ _ pK (by first | omega | rfl | simp) rfl) rfl) rfl (zZ rfl rfl rfl rfl rfl jO (bnK qq fun uh ma qr=>zP 0 rfl rfl rfl rfl (zN rfl rfl Try.call36 (zC rfl (zC rfl zU)) rfl) dv (fun hs=>wCf (gd bq ak) sw iQ iF hs ma) (.inr rfl) ?_))
 rintro eY sI tV dI cL oU ⟨rfl,rfl⟩
 have ej:sW w U eY [.blk bh 3 B9,.blk ab 26 B4,B0,B7,B8] dI:=oU
 refine oR Z (ZC Z Z) (eN (ifc qr ?_ ?_))
 intro dR qt
 refine zi (nC dR.out) (kN (sR (wDt gAv) Z (oR Z (zK Z cd zF Z ZW) (oL Z (ej.ldB (j:=1) Z Z Z Zd (v:=.slice ba ap.Across.length bb) Z) ?_))))
 have q:=ej.freeze (k:=0) rfl
 obtain ⟨cY,cM,cj,oW⟩:=q
 replace cj:=Cl.of cj
 have oX:sW w U cY [.blk ab 26 B4,B0,B7,B8] dI:=oW
 replace cj:Cl cY bh 0 B9:=cj
 refine oR Z (Runs.mkf Z zU (zC cf zU)) ?_
 have mb:=dk.le bB
 have mc:=mb.le bC
 have md:=mc.le cK
 have mf:=md.le cL
 have gx:=mf.le cM
 have og:FnOK Try.prog cY (.func (.func 38) #[] #[.pointer (some ⟨bh,0,none⟩)]) wPK wPL (fun x=>wAg x (↑ak:Int)):=⟨38,[],[.pointer (some ⟨bh,0,none⟩)],rfl,Try.call38,fun U1 w1 x y vs le hs ha hm=>by obtain rfl:=ha;exact wDE x (↑ak:Int) bh w1 U1 hs (cj.le le) hm⟩
 refine bnK qt fun ui mg qu=>zP 0 Z Z Z Z (zN Z Z Try.call37 (zC Z (zC Z zU)) Z) oX (fun hs=>wBA ap.Across ba bb (fun x=>wAg x (↑ak:Int)) (.func (.func 38) #[] #[.pointer (some ⟨bh,0,none⟩)]) dI cY hs gx og mg) (.inr Z) ?_
 rintro dE sJ tW fj cx oY ⟨rfl,rfl⟩
 have cG:sW w U dE [.blk ab 26 B4,B0,B7,B8] fj:=oY
 refine oR Z (ZC Z Z) (eN (ifc qu ?_ ?_))
 intro dS qv
 refine zi (nC dS.out) (ZN (zk (zM (rR fL2 Z (oR Z (ZB (zh Z fW Z) (congrArg (jV) gQ.out)) (oM Z Z (ZA ?_)))))))
 have q:=nA qv
 obtain rfl:=q
 exact zM ⟨Z,_,Z,⟨dE,Z,cd,fR,fS,dY,fT,fU,fV,((((bC.trans cK).trans cL).trans cM).trans cx),cG⟩⟩
 intro dS qw
 refine zp (nF (dS.out)) (sR (wDt (.fx 3 (wPa gBf) .stop)) Z (oL Z (cG.ldBA (j:=0) Z Z cd ZK zj (vs:=B4) Z Z) ?_))
 have d9:=cj.le cx
 refine oL Z (cG.ldC (f:=0) d9 (v:=jV (↑ak:Int)) Z cf zH Z) (oL Z (cG.ldC (f:=0) d9 (v:=jV (↑ak:Int)) Z cf zH Z) ?_)
 have mh:=d7.le cK
 have mi:=mh.le cL
 have mn:=mi.le cM
 have mo:=mn.le cx
 have mp:=dZ.le bB
 have mq:=mp.le bC
 have mr:=mq.le cK
 have ms:=mr.le cL
 have mu:=ms.le cM
 have gy:=mu.le cx
 have mw:=gx.le cx
 have q:=bnd qw
 obtain ⟨⟨cR,ss⟩,my,gZ⟩:=q
 try dsimp only at gZ
 refine zP 0 Z Z Z Z (zN Z Z Try.call14 (zC Z (zC Z (zC Z zU))) Z) cG (fun hs=>wFF ap bn bo bf bl ba bb (↑ak:Int) (↑ak:Int) fj dE hs mo gy mw my) (.inr Z) ?_
 rintro cZ sL tX iR eH o5 ⟨rfl,rfl⟩
 have o6:sW w U cZ [.blk ab 26 B4,B0,B7,B8] iR:=o5
 refine oM Z Z (oR Z (zq Z Z (v:=.agg #[jV cR.Lo,jV cR.Hi]) Z) (oR Z (zq Z Z (v:=jV ss) Z) (ZR (cs:=[jV 0,jV 0]) Z Z Z Z Z ZX Z o6 ?_)))
 intro sX fu o7
 let cS:List Value:=[jV cR.Lo,jV cR.Hi]
 refine ZG (j:=0) (vs:=cS) Z Z Z Z o7 Z Z Z Z ZH (zD Z) Z Z Z ?_
 intro dJ o8
 have o9:sW w U cZ [.blk fu 44 cS,.blk ab 26 B4,B0,B7,B8] dJ:=o8
 refine OKS.ra rfl rfl rfl rfl rfl rfl (eN (zG (ZI ZJ [3,3,3,1,3,1,1,3,1,3,1,1,3,1,2,3,3] (wQk (.fx 14 (.fl 15 (.fl 16 .nil)) .stop)) (by kernel_rfl) ?_)))
 have br:=o9.drew
 generalize hw_W530:({ dJ with drawn:=dJ.drawn + 1 }:World)=iT at br ⊢
 refine oM Z Z (oR Z (ZF Z Z Z) (oM Z Z (ifc gZ ?_ ?_)))
 intro ai qx
 refine zm Z Z Z (zI Z Z (zf (fun h=>h ai.out))) (br.ldBA (j:=0) Z Z Z Zj ZH (vs:=cS) Z Z) Z (zO Z Z Z (zI Z Z (zf (fun h=>h ai.out))) (fun _=>zK Z cd zF Z zW) (zm Z Z Z (zI Z Z (zf (fun h=>h ai.out))) (br.ldB (j:=1) Z Z Z ze (v:=.slice bf ap.Down.length bl) Z) Z ?_))
 have gz:=d9.le eH
 refine zm Z Z Z (zI Z Z (zf (fun h=>h ai.out))) (br.ldC (f:=0) gz (v:=jV (↑ak:Int)) Z cf zH Z) Z (bnK qx fun dB dq qy=>?_)
 have gA:=gy.le eH
 have q:=gA.el (fun _=>rfl) (wAx dq)
 obtain ⟨td,tG,m7,oc⟩:=q
 refine zO Z Z Z (zI Z Z (zf (fun h=>h ai.out))) (fun _=>zu Z Z m7 Z zA zB (wCA dq)) (zm Z Z Z (zI Z Z (zf (fun h=>h ai.out))) (br.ldC (f:=0) oc (v:=jV dB) Z Z zH Z) Z (zO Z Z Z (zI Z Z (zf (fun h=>h ai.out))) (fun _=>zK Z cd zF Z zW) (zm Z Z Z (zI Z Z (zf (fun h=>h ai.out))) (br.ldB (j:=1) Z Z Z ze (v:=.slice bf ap.Down.length bl) Z) Z (zm Z Z Z (zI Z Z (zf (fun h=>h ai.out))) (br.ldC (f:=0) gz (v:=jV (↑ak:Int)) Z cf zH Z) Z ?_))))
 have q:=gA.el (fun _=>rfl) (wAx dq)
 obtain ⟨te,tH,m8,od⟩:=q
 refine zO Z Z Z (zI Z Z (zf (fun h=>h ai.out))) (fun _=>zu Z Z m8 Z zA zB (wCA dq)) (zm Z Z Z (zI Z Z (zf (fun h=>h ai.out))) (br.ldC (f:=0) od (v:=jV dB) Z Z zH Z) Z (bnK qy fun su mz qz=>zP 0 Z Z Z (zI Z Z (zf (fun h=>h ai.out))) (zN Z Z Try.call39 (zC Z (zC Z zU)) Z) br (fun hs=>wEk dB dB iT cZ hs mz) (.inr Z) ?_))
 rintro dF sM tY iU rO pe ⟨rfl,rfl⟩
 have gO:sW w U dF [.blk fu 44 cS,.blk ab 26 B4,B0,B7,B8] iU:=pe
 refine zO Z Z Z (zI Z Z (zf (fun h=>h ai.out))) (fun _=>ZB (Runs.neS (enc:=wAd) (a:=cR) (b:=su) Z Z Z eqT44 eqG44) (congrArg nJ (decide_not).symm)) (oR Z (zY Z (zf (fun h=>h ai.out)) Z) (eN (ifc qz ?_ ?_)))
 intro dT qA
 refine zi (zf (fun h=>h dT.out)) (ZN (zk (zM (rR fL2 Z (oR Z (ZB (zh Z fW Z) (congrArg (jV) gQ.out)) (oM Z Z (ZA ?_)))))))
 have q:=nA qA
 obtain rfl:=q
 exact zM ⟨rfl,_,rfl,⟨dF,rfl,cd,fR,fS,dY,fT,fU,fV,((((((bC.trans cK).trans cL).trans cM).trans cx).trans eH).trans rO),(gO.pick [1,2,3,4] _ (by decide) rfl)⟩⟩
 intro dT qB
 refine cT Z dT (sR fL1 Z (oA Z Z (eN (zR (zX (zJ ?_))))))
 have q:=wAc qB
 obtain ⟨r8,qC,ji⟩:=q
 have q:=wBi bA bz (bQ r8 ji)
 obtain rfl:=q
 refine zJ (zX (zJ ?_))
 have hE:=nA qC;first | subst r | cases hE
 exact ⟨rfl,_,(zz rfl),dF,_,(gO.pick [] _ (by decide) rfl),rfl,rfl⟩
 intro ai qD
 refine oT Z ai (oT Z ai (oT Z ai (oT Z ai (oT Z ai (oT Z ai (oT Z ai (oT Z ai (oT Z ai (oT Z ai (oT Z ai (ZS Z Z Z (zQ Z Z (ZO ai.out) Z) (oT Z ai (oR Z (zS Z (ZO ai.out) Z) (eN (zp Z (sR fL1 Z (oA Z Z (eN (zR (zX (zJ ?_)))))))))))))))))))))
 have q:=wAc qD
 obtain ⟨r9,qE,jj⟩:=q
 have q:=wBi bA bz (bQ r9 jj)
 obtain rfl:=q
 refine zJ (zX (zJ ?_))
 have hE:=nA qE;first | subst r | cases hE
 exact ⟨rfl,_,(zz rfl),cZ,_,(br.pick [] _ (by decide) rfl),rfl,rfl⟩
 intro dR qF
 refine zp (nF (dR.out)) (sR fL1 Z (oA Z Z (eN (zR (zJ (zX (zJ ?_)))))))
 have q:=wAc qF
 obtain ⟨sb,qG,jk⟩:=q
 have q:=wBi bA bz (bQ sb jk)
 obtain rfl:=q
 refine zJ (zX (zJ ?_))
 have hE:=nA qG;first | subst r | cases hE
 exact ⟨rfl,_,(zz rfl),eY,_,(ej.pick [] _ (by decide) rfl),rfl,rfl⟩
 intro dP qH
 refine cT Z dP (sR fL1 Z (oA Z Z (eN (zR (zJ (zX (zJ ?_)))))))
 have q:=wAc qH
 obtain ⟨sc,qI,jl⟩:=q
 have q:=wBi bA bz (bQ sc jl)
 obtain rfl:=q
 refine zJ (zX (zJ ?_))
 have hE:=nA qI;first | subst r | cases hE
 exact ⟨rfl,_,(zz rfl),b5,_,(bP.pick [] _ (by decide) rfl),rfl,rfl⟩
 rintro ⟨⟩ ut sY ⟨eZ,ln,jQ,jR,tj,tm,fY,tn,jS,ik,pg⟩ pF
 have bR:=wCw bA bz pF
 try dsimp only at bR
 have ja:Hid (¬ ((↑(((↑aZ.length:Int):Int) - 0).toNat:Int) < (↑aZ.length:Int))):=zL (wBK)
 refine sR fL1 Z (oR Z (zg Z ln jS) (eN (zG (cF Z ja (ZM (zn (zn (ZE (zM (zG (sR fL3 Z (oM Z fY (oR Z (zt Z Z zw) (oM Z Z (eN (zd ?_))))))))))))))))
 have q:=wCT bR
 obtain ⟨tL,cp⟩:=q
 have q:=wCS cp
 obtain ⟨eF,pJ⟩:=q
 replace eF:=zL eF
 refine Zm (fun aY _ σ_ w_=>∃ (U_:PHeap),σ_ 205=jV (↑aY:Int)/\σ_ 3=.pointer (some ⟨ab,0,none⟩)/\σ_ 4=.slice bg aZ.length bm/\σ_ 13=.slice be ae.length bi/\σ_ 203=.slice be ae.length bi/\σ_ 204=jV (↑ae.length:Int)/\PHeap.Le eZ U_/\sW w U U_ [.blk ab 26 B4,B0,B8] w_) pJ ?_ ?_ ?_
 exact ⟨eZ,rfl,jQ,jR,fY,rfl,rfl,(zo _),(pg.pick [0,1,3] _ (by decide) rfl)⟩
 rintro aY ⟨⟩ uo uu sZ eC ⟨e9,ci,da,db,cg,de,df,cN,en⟩ ie dx
 try dsimp only at ie
 have fC:Hid ((↑aY:Int) < (↑ae.length:Int)):=zL (wBm eC)
 replace eC:=zL eC
 have ey:Hid (w64 ((↑aY:Int) + 1)=(↑(aY + 1):Int)):=zL (by have h1:=eF.out;have h2:=fC.out;rw [wAY] <;> omega)
 refine sR fL1 Z (oR Z (zg Z ci df) (eN (zG (cT Z fC (kN (zG (zd (sR (wDt (.fx 3 (.fl 4 (.fx 5 .nil .stop)) .stop)) Z (oM Z ci (bnK ie fun _ eb qJ=>?_))))))))))
 obtain ⟨tf,bF⟩:=en.rowSome (j:=2) rfl (by rw [wAG (f:=wAB) (sz:=2) (fun _=>rfl) ae];have hz:=wAI eb;omega)
 refine oR Z (zu Z de bF ci zw zy (wAI eb)) ?_
 have pL:=wBX (xs:=ae) (wAI eb)
 let cC:List Value:=[jV ((gd ae aY).Skier),jV ((gd ae aY).Lane)]
 refine zm rfl rfl rfl rfl (en.ldRA (j:=2) rfl bF rfl rfl Zc zy (vs:=cC) (wFz (sz:=2) (fun _=>rfl) _ _ _ pL (by first | omega | rfl | simp) rfl) rfl) rfl (ZR (cs:=[jV 0,jV 0]) rfl rfl rfl rfl rfl ZY rfl en ?_)
 intro s5 fw pj
 refine oA Z Z (ZG (j:=0) (vs:=cC) Z Z Z Z pj Z Z Z Z zy (zD Z) Z Z Z ?_)
 intro dK pk
 have pn:sW w U e9 [.blk fw 35 cC,.blk ab 26 B4,B0,B8] dK:=pk
 refine eN (zG (ZI ZJ [3,1,1,2,3,3,3,3,1,3,1,3,1,3,1,3,3,3,3,3,3,3,3,3,3,3,1,3,1,3,3,3,3,3,3,3,1,3,1,3,3,3,3,3,3,3,1,3,1,3,3,3,3,3] (wDt (.fx 3 (wQp (.nil)) .stop)) (by kernel_rfl) ?_))
 have dw:=pn.drew
 generalize hw_W627:({ dK with drawn:=dK.drawn + 1 }:World)=iV at dw ⊢
 refine oR Z (zK Z da zF Z ZW) (oL Z (dw.ldB (j:=1) Z Z Z Zd (v:=.slice ba ap.Across.length bb) Z) (oL Z (dw.ldBA (j:=0) Z Z Z Zc zy (vs:=cC) Z Z) ?_))
 have mA:=dk.le bB
 have mB:=mA.le ik
 have mC:=mB.le cN
 refine bnK qJ fun uj mD qK=>zP 0 Z Z Z Z (zN Z Z Try.call10 (zC Z (zC Z zU)) Z) dw (fun hs=>wAk ap.Across ba bb (gd ae aY) iV e9 hs mC mD) (.inr Z) ?_
 rintro bu sN t7 iW dy po ⟨rfl,rfl⟩
 have aX:sW w U bu [.blk fw 35 cC,.blk ab 26 B4,B0,B8] iW:=po
 refine oR Z (ZC Z Z) (oM Z Z (ifc qK ?_ ?_))
 intro au qL
 refine zZ Z Z Z (zI Z Z (nC au.out)) Z db (zO Z Z Z (zI Z Z (nC au.out)) (fun _=>zK Z Z zr Z zB) (zm Z Z Z (zI Z Z (nC au.out)) (aX.ldB (j:=0) Z Z Z zH (v:=jV ((gd ae aY).Skier)) Z) Z (bnK qL fun iA ec qM=>?_)))
 have mE:=eG.le cO
 have mF:=mE.le cP
 have mG:=mF.le cr
 have mH:=mG.le ct
 have mI:=mH.le cu
 have mJ:=mI.le cJ
 have mK:=mJ.le bB
 have mL:=mK.le ik
 have mM:=mL.le cN
 have mN:=mM.le dy
 have q:=mN.el (wAx ec)
 obtain ⟨i5,rT,ue,m9,ei,rF⟩:=q
 obtain ⟨io,ir,rfl,mP⟩:=rF
 replace ei:Cl bu i5 (rT + ((gd ae aY).Skier).toNat * 1) [.slice io iA.length ir]:=ei
 refine zO Z Z Z (zI Z Z (nC au.out)) (fun _=>ZU Z Z m9 Z zx zW (wEr ec) (wFV ec)) (zm Z Z Z (zI Z Z (nC au.out)) (aX.ldC (f:=0) ei (v:=.slice io iA.length ir) Z Z ze Z) Z (zO Z Z Z (zI Z Z (nC au.out)) (fun _=>zK Z Z zr Z zB) (zm Z Z Z (zI Z Z (nC au.out)) (aX.ldB (j:=0) Z Z Z zH (v:=jV ((gd ae aY).Lane)) Z) Z (bnK qM fun sv ed qN=>?_))))
 have q:=mP.el (fun _=>rfl) (wAx ed)
 obtain ⟨tg,tI,n5,oe⟩:=q
 refine zO Z Z Z (zI Z Z (nC au.out)) (fun _=>ZU Z Z n5 Z zA zB (wEr ed) (wFV ed)) (zm Z Z Z (zI Z Z (nC au.out)) (aX.ldC (f:=0) oe (v:=jV sv) Z Z zH Z) Z (zO Z Z Z (zI Z Z (nC au.out)) (fun _=>zg Z Z Z) (oR Z (zY Z (nC au.out) Z) (oM Z Z (ifc qN ?_ ?_)))))
 intro aW qO
 refine oT Z aW (oT Z aW (oT Z aW (zE Z Z Z (wAD Z Z Z) (zE Z Z Z (wAD Z Z Z) (zE Z Z Z (wAD Z Z Z) (zE Z Z Z (wAD Z Z Z) (zE Z Z Z (wAD Z Z Z) (zE Z Z Z (wAD Z Z Z) (zE Z Z Z (wAD Z Z Z) (zE Z Z Z (wAD Z Z Z) (zE Z Z Z (wAD Z Z Z) (zE Z Z Z (wAD Z Z Z) (zE Z Z Z (wAD Z Z Z) (zE Z Z Z (wAD Z Z Z) (zE Z Z Z (wAD Z Z Z) (zE Z Z Z (wAD Z Z Z) (zE Z Z Z (wAD Z Z Z) (zE Z Z Z (wAD Z Z Z) (zE Z Z Z (wAD Z Z Z) (zE Z Z Z (wAD Z Z Z) (zE Z Z Z (wAD Z Z Z) (zE Z Z Z (wAD Z Z Z) (zE Z Z Z (wAD Z Z Z) (zE Z Z Z (wAD Z Z Z) (zE Z Z Z (wAD Z Z Z) (zE Z Z Z (wAD Z Z Z) (zE Z Z Z (wAD Z Z Z) (zE Z Z Z (wAD Z Z Z) (zE Z Z Z (wAD Z Z Z) (zE Z Z Z (wAD Z Z Z) (zE Z Z Z (wAD Z Z Z) (zE Z Z Z (wAD Z Z Z) (zE Z Z Z (wAD Z Z Z) (oT Z aW (oR Z (zS Z (ZO aW.out) Z) (eN (zp Z (zG (Zf fun uv rJ=>?_)))))))))))))))))))))))))))))))))))))))
 clear rJ
 refine rR fL1 Z (oA Z Z (eN (zR (zX (zJ ?_)))))
 have q:=wAc qO
 obtain ⟨sd,qP,jm⟩:=q
 have q:=wBi bR cp (dx sd jm)
 obtain rfl:=q
 refine zJ (zX (zJ ?_))
 have hE:=nA qP;first | subst r | cases hE
 exact ⟨rfl,_,(zz rfl),bu,_,(aX.pick [] _ (by decide) rfl),rfl,rfl⟩
 intro aW qQ
 refine zZ Z Z Z (wF Z aW) Z Z (rU Z (wF Z aW) (Runs.gtr Z Z Z) (zZ Z Z Z (wF Z aW) Z Z (ifc qQ ?_ ?_)))
 intro aj qR
 refine zZ Z Z Z (wT Z aj) Z cg (zZ Z Z Z (wT Z aj) Z Z (rU Z (wT Z aj) (ZV Z Z Z) (bnK qR fun _ bv qS=>rU Z (wT Z aj) (ZU Z Z bF Z zw zy (wBB bv) (wBC bv)) (rU Z (wT Z aj) (zK Z Z zr Z zB) ?_))))
 have pM:=wBX (xs:=ae) (wAI bv)
 refine zm rfl rfl rfl (zI rfl rfl (ZO aj.out)) (aX.ldR (j:=3) rfl bF rfl rfl zH (wAR (sz:=2) (fun _=>rfl) _ _ 0 _ pM (by first | omega | rfl | simp) rfl)) rfl (zO rfl rfl rfl (zI rfl rfl (ZO aj.out)) (fun _=>zK rfl rfl zr rfl zB) (zm rfl rfl rfl (zI rfl rfl (ZO aj.out)) (aX.ldB (j:=0) rfl rfl rfl zH (v:=jV ((gd ae aY).Skier)) rfl) rfl (zO rfl rfl rfl (zI rfl rfl (ZO aj.out)) (fun _=>Runs.gtr rfl rfl rfl) (zZ rfl rfl rfl (zI rfl rfl (ZO aj.out)) rfl rfl (ifc qS ?_ ?_)))))
 intro am qT
 refine oT Z am (oT Z am (oT Z am (oT Z am (oT Z am (oT Z am (oT Z am (oT Z am (oT Z am (oT Z am (zE Z Z Z (wAD Z Z Z) (zE Z Z Z (wAD Z Z Z) (zE Z Z Z (wAD Z Z Z) (zE Z Z Z (wAD Z Z Z) (zE Z Z Z (wAD Z Z Z) (zE Z Z Z (wAD Z Z Z) (zE Z Z Z (wAD Z Z Z) (zE Z Z Z (wAD Z Z Z) (zE Z Z Z (wAD Z Z Z) (oT Z am (rU Z (wT Z aj) (zS Z (ZO am.out) Z) (rU Z (wF Z aW) (zS Z (ZO aj.out) Z) (oR Z (zY Z (zf aW.out) Z) (eN (zp Z (zG (Zf fun uw rK=>?_))))))))))))))))))))))))))
 clear rK
 refine rR fL1 Z (oA Z Z (eN (zR (zX (zJ ?_)))))
 have q:=wAc qT
 obtain ⟨se,qU,jo⟩:=q
 have q:=wBi bR cp (dx se jo)
 obtain rfl:=q
 refine zJ (zX (zJ ?_))
 have hE:=nA qU;first | subst r | cases hE
 exact ⟨rfl,_,(zz rfl),bu,_,(aX.pick [] _ (by decide) rfl),rfl,rfl⟩
 intro am qV
 refine zZ Z Z Z (wF Z am) Z cg (zZ Z Z Z (wF Z am) Z Z (rU Z (wF Z am) (ZV Z Z Z) (rU Z (wF Z am) (ZU Z Z bF Z zw zy (wBB bv) (wBC bv)) (rU Z (wF Z am) (zK Z Z zr Z zB) ?_))))
 have pN:=wBX (xs:=ae) (wAI bv)
 refine zm rfl rfl rfl (zI rfl rfl (zf am.out)) (aX.ldR (j:=3) rfl bF rfl rfl zH (wAR (sz:=2) (fun _=>rfl) _ _ 0 _ pN (by first | omega | rfl | simp) rfl)) rfl (zO rfl rfl rfl (zI rfl rfl (zf am.out)) (fun _=>zK rfl rfl zr rfl zB) (zm rfl rfl rfl (zI rfl rfl (zf am.out)) (aX.ldB (j:=0) rfl rfl rfl zH (v:=jV ((gd ae aY).Skier)) rfl) rfl (zO rfl rfl rfl (zI rfl rfl (zf am.out)) (fun _=>Zn rfl rfl rfl) (zZ rfl rfl rfl (zI rfl rfl (zf am.out)) rfl rfl (ifc qV ?_ ?_)))))
 intro az qW
 refine zZ Z Z Z (wT Z az) Z cg (zZ Z Z Z (wT Z az) Z Z (rU Z (wT Z az) (ZV Z Z Z) (rU Z (wT Z az) (ZU Z Z bF Z zw zy (wBB bv) (wBC bv)) (rU Z (wT Z az) (zK Z Z zr Z zB) ?_))))
 have pO:=wBX (xs:=ae) (wAI bv)
 refine zm rfl rfl rfl (zI rfl rfl (ZO az.out)) (aX.ldR (j:=3) rfl bF rfl rfl zH (wAR (sz:=2) (fun _=>rfl) _ _ 1 _ pO (by first | omega | rfl | simp) rfl)) rfl (zO rfl rfl rfl (zI rfl rfl (ZO az.out)) (fun _=>zK rfl rfl zr rfl zB) (zm rfl rfl rfl (zI rfl rfl (ZO az.out)) (aX.ldB (j:=0) rfl rfl rfl zH (v:=jV ((gd ae aY).Lane)) rfl) rfl (zO rfl rfl rfl (zI rfl rfl (ZO az.out)) (fun _=>Runs.geq rfl rfl rfl) (zO rfl rfl rfl (zI rfl rfl (zf am.out)) (fun _=>zS rfl (ZO az.out) rfl) (zO rfl rfl rfl (zI rfl rfl (ZO aj.out)) (fun _=>zY rfl (zf am.out) rfl) (zO rfl rfl rfl (zI rfl rfl (zf aW.out)) (fun _=>zS rfl (ZO aj.out) rfl) (zO rfl rfl rfl rfl (fun _=>zY rfl (zf aW.out) rfl) (eN (ifc qW ?_ ?_)))))))))
 intro dU qX
 refine cT Z dU (zG (Zf fun ux rL=>?_))
 clear rL
 refine rR fL1 Z (oA Z Z (eN (zR (zX (zJ ?_)))))
 have q:=wAc qX
 obtain ⟨sf,qY,jp⟩:=q
 have q:=wBi bR cp (dx sf jp)
 obtain rfl:=q
 refine zJ (zX (zJ ?_))
 have hE:=nA qY;first | subst r | cases hE
 exact ⟨rfl,_,(zz rfl),bu,_,(aX.pick [] _ (by decide) rfl),rfl,rfl⟩
 intro dU qZ
 refine cF Z dU (ZN (zk (zM (Zf fun cz bS=>?_))))
 have jU:cz 3=.pointer (some ⟨ab,0,none⟩):=(bS 3).trans da
 have jW:cz 4=.slice bg aZ.length bm:=(bS 4).trans db
 have jX:cz 13=.slice be ae.length bi:=(bS 13).trans cg
 have jY:cz 203=.slice be ae.length bi:=(bS 203).trans de
 have jZ:cz 204=jV (↑ae.length:Int):=(bS 204).trans df
 have j0:cz 205=jV (↑aY:Int):=(bS 205).trans ci
 clear bS
 refine rR fL2 Z (oR Z (ZB (zh Z j0 Z) (congrArg (jV) ey.out)) (oM Z Z (ZA ?_)))
 have q:=nA qZ
 obtain rfl:=q
 exact zM ⟨rfl,_,rfl,⟨bu,rfl,jU,jW,jX,jY,jZ,(cN.trans dy),(aX.pick [1,2,3] _ (by decide) rfl)⟩⟩
 intro az rc
 refine oF Z az (oF Z az (oF Z az (oF Z az (oF Z az (oF Z az (oF Z az (oF Z az (oF Z az (rU Z (wF Z am) (zY Z (zf az.out) Z) (rU Z (wT Z aj) (zY Z (zf am.out) Z) (rU Z (wF Z aW) (zS Z (ZO aj.out) Z) (oR Z (zY Z (zf aW.out) Z) (eN (zi Z (ZN (zk (zM (Zf fun cA bT=>?_))))))))))))))))))
 have j4:cA 3=.pointer (some ⟨ab,0,none⟩):=(bT 3).trans da
 have j5:cA 4=.slice bg aZ.length bm:=(bT 4).trans db
 have j6:cA 13=.slice be ae.length bi:=(bT 13).trans cg
 have j7:cA 203=.slice be ae.length bi:=(bT 203).trans de
 have j8:cA 204=jV (↑ae.length:Int):=(bT 204).trans df
 have j9:cA 205=jV (↑aY:Int):=(bT 205).trans ci
 clear bT
 refine rR fL2 Z (oR Z (ZB (zh Z j9 Z) (congrArg (jV) ey.out)) (oM Z Z (ZA ?_)))
 have q:=nA rc
 obtain rfl:=q
 exact zM ⟨rfl,_,rfl,⟨bu,rfl,j4,j5,j6,j7,j8,(cN.trans dy),(aX.pick [1,2,3] _ (by decide) rfl)⟩⟩
 intro aj re
 refine oF Z aj (oF Z aj (oF Z aj (oF Z aj (oF Z aj (oF Z aj (oF Z aj (oF Z aj (oF Z aj (oF Z aj (zE Z Z Z (wAD Z Z Z) (zE Z Z Z (wAD Z Z Z) (zE Z Z Z (wAD Z Z Z) (zE Z Z Z (wAD Z Z Z) (zE Z Z Z (wAD Z Z Z) (zE Z Z Z (wAD Z Z Z) (zE Z Z Z (wAD Z Z Z) (zE Z Z Z (wAD Z Z Z) (zE Z Z Z (wAD Z Z Z) (zE Z Z Z (wAD Z Z Z) (zE Z Z Z (wAD Z Z Z) (zE Z Z Z (wAD Z Z Z) (zE Z Z Z (wAD Z Z Z) (zE Z Z Z (wAD Z Z Z) (zE Z Z Z (wAD Z Z Z) (zE Z Z Z (wAD Z Z Z) (zE Z Z Z (wAD Z Z Z) (zE Z Z Z (wAD Z Z Z) (zE Z Z Z (wAD Z Z Z) (zE Z Z Z (wAD Z Z Z) (oF Z aj (rU Z (wF Z aW) (zY Z (zf aj.out) Z) (oR Z (zY Z (zf aW.out) Z) (eN (zi Z (ZN (zk (zM (Zf fun cB bU=>?_))))))))))))))))))))))))))))))))))))))
 have k9:cB 3=.pointer (some ⟨ab,0,none⟩):=(bU 3).trans da
 have lc:cB 4=.slice bg aZ.length bm:=(bU 4).trans db
 have lf:cB 13=.slice be ae.length bi:=(bU 13).trans cg
 have lg:cB 203=.slice be ae.length bi:=(bU 203).trans de
 have lh:cB 204=jV (↑ae.length:Int):=(bU 204).trans df
 have li:cB 205=jV (↑aY:Int):=(bU 205).trans ci
 clear bU
 refine rR fL2 Z (oR Z (ZB (zh Z li Z) (congrArg (jV) ey.out)) (oM Z Z (ZA ?_)))
 have q:=nA re
 obtain rfl:=q
 exact zM ⟨rfl,_,rfl,⟨bu,rfl,k9,lc,lf,lg,lh,(cN.trans dy),(aX.pick [1,2,3] _ (by decide) rfl)⟩⟩
 intro au ri
 refine zE Z Z Z (zQ Z Z (nF (au.out)) Z) (zE Z Z Z (zQ Z Z (nF (au.out)) Z) (zE Z Z Z (zQ Z Z (nF (au.out)) Z) (zE Z Z Z (zQ Z Z (nF (au.out)) Z) (zE Z Z Z (zQ Z Z (nF (au.out)) Z) (zE Z Z Z (zQ Z Z (nF (au.out)) Z) (zE Z Z Z (zQ Z Z (nF (au.out)) Z) (zE Z Z Z (zQ Z Z (nF (au.out)) Z) (zE Z Z Z (zQ Z Z (nF (au.out)) Z) (zE Z Z Z (zQ Z Z (nF (au.out)) Z) (oR Z (zS Z (nF (au.out)) Z) (oM Z Z (oN Z (oN Z (oN Z (zE Z Z Z (wAD Z Z Z) (zE Z Z Z (wAD Z Z Z) (zE Z Z Z (wAD Z Z Z) (zE Z Z Z (wAD Z Z Z) (zE Z Z Z (wAD Z Z Z) (zE Z Z Z (wAD Z Z Z) (zE Z Z Z (wAD Z Z Z) (zE Z Z Z (wAD Z Z Z) (zE Z Z Z (wAD Z Z Z) (zE Z Z Z (wAD Z Z Z) (zE Z Z Z (wAD Z Z Z) (zE Z Z Z (wAD Z Z Z) (zE Z Z Z (wAD Z Z Z) (zE Z Z Z (wAD Z Z Z) (zE Z Z Z (wAD Z Z Z) (zE Z Z Z (wAD Z Z Z) (zE Z Z Z (wAD Z Z Z) (zE Z Z Z (wAD Z Z Z) (zE Z Z Z (wAD Z Z Z) (zE Z Z Z (wAD Z Z Z) (zE Z Z Z (wAD Z Z Z) (zE Z Z Z (wAD Z Z Z) (zE Z Z Z (wAD Z Z Z) (zE Z Z Z (wAD Z Z Z) (zE Z Z Z (wAD Z Z Z) (zE Z Z Z (wAD Z Z Z) (zE Z Z Z (wAD Z Z Z) (zE Z Z Z (wAD Z Z Z) (zE Z Z Z (wAD Z Z Z) (zE Z Z Z (wAD Z Z Z) (zE Z Z Z (wAD Z Z Z) (oN Z (oR Z (zS Z Z Z) (eN (zp Z (zG (Zf fun uy rM=>?_)))))))))))))))))))))))))))))))))))))))))))))))))))
 clear rM
 refine rR fL1 Z (oA Z Z (eN (zR (zX (zJ ?_)))))
 have q:=wAc ri
 obtain ⟨sg,rj,jq⟩:=q
 have q:=wBi bR cp (dx sg jq)
 obtain rfl:=q
 refine zJ (zX (zJ ?_))
 have hE:=nA rj;first | subst r | cases hE
 exact ⟨rfl,_,(zz rfl),bu,_,(aX.pick [] _ (by decide) rfl),rfl,rfl⟩
 rintro ⟨⟩ uz iX ⟨iI,lp,tp,tq,tr,tu,lj,tA,pt⟩ pG
 have g7:=wCw bR cp pG
 try dsimp only at g7
 have jb:Hid (¬ ((↑(((↑ae.length:Int):Int) - 0).toNat:Int) < (↑ae.length:Int))):=zL (wBK)
 refine sR fL1 Z (oR Z (zg Z lp lj) (eN (zG (cF Z jb (ZM (zn (zn (ZE (zM (sR gAw Z (bnK g7 fun uk mU rk=>zP 0 Z Z Z Z (zN Z Z Try.call15 zU Z) pt (fun hs=>wES iX iI hs mU) (.inr Z) ?_)))))))))))
 rintro fc sO t8 iY tB pu ⟨rfl,rfl⟩
 have py:sW w U fc [.blk ab 26 B4,B0,B8] iY:=pu
 refine oA Z Z (eN (zR ?_))
 have hE:=nA rk;first | subst r | cases hE
 exact ⟨rfl,_,(zz rfl),fc,_,(py.pick [] _ (by decide) rfl),rfl,rfl⟩
 intro dO rn
 refine cT Z dO (sR fL1 Z (oA Z Z (eN (zR (zJ ?_)))))
 have hE:=nA rn;first | subst r | cases hE
 exact ⟨rfl,_,(zz rfl),bZ,_,(dr.pick [] _ (by decide) rfl),rfl,rfl⟩
 intro bk ro
 refine zE Z Z Z (zQ Z Z (nF (bk.out)) Z) (zE Z Z Z (zQ Z Z (nF (bk.out)) Z) (zE Z Z Z (zQ Z Z (nF (bk.out)) Z) (zE Z Z Z (zQ Z Z (nF (bk.out)) Z) (zE Z Z Z (zQ Z Z (nF (bk.out)) Z) (oR Z (zS Z (nF (bk.out)) Z) (eN (zp Z (sR fL1 Z (oA Z Z (eN (zR (zJ ?_))))))))))))
 have hE:=nA ro;first | subst r | cases hE
 exact ⟨rfl,_,(zz rfl),bZ,_,(dr.pick [] _ (by decide) rfl),rfl,rfl⟩
 intro bO rp
 refine oT Z bO (oT Z bO (oR Z (zS Z (ZO bO.out) Z) (oM Z Z (oN Z (oN Z (oN Z (oN Z (oN Z (oR Z (zS Z Z Z) (eN (zp Z (sR fL1 Z (oA Z Z (eN (zR (zJ ?_))))))))))))))))
 have hE:=nA rp;first | subst r | cases hE
 exact ⟨rfl,_,(zz rfl),bZ,_,(dr.pick [] _ (by decide) rfl),rfl,rfl⟩
 intro dN rq
 refine cT Z dN (sR fL1 Z (oA Z Z (eN (zR (zJ ?_)))))
 have hE:=nA rq;first | subst r | cases hE
 exact ⟨rfl,_,(zz rfl),bE,_,(bw.pick [] _ (by decide) rfl),rfl,rfl⟩
 intro bj rt
 refine zE Z Z Z (zQ Z Z (nF (bj.out)) Z) (zE Z Z Z (zQ Z Z (nF (bj.out)) Z) (zE Z Z Z (zQ Z Z (nF (bj.out)) Z) (zE Z Z Z (zQ Z Z (nF (bj.out)) Z) (zE Z Z Z (zQ Z Z (nF (bj.out)) Z) (oR Z (zS Z (nF (bj.out)) Z) (eN (zp Z (sR fL1 Z (oA Z Z (eN (zR (zJ ?_))))))))))))
 have hE:=nA rt;first | subst r | cases hE
 exact ⟨rfl,_,(zz rfl),bE,_,(bw.pick [] _ (by decide) rfl),rfl,rfl⟩
 intro bN ru
 refine oT Z bN (oT Z bN (oR Z (zS Z (ZO bN.out) Z) (oM Z Z (oN Z (oN Z (oN Z (oN Z (oN Z (oR Z (zS Z Z Z) (eN (zp Z (sR fL1 Z (oA Z Z (eN (zR (zJ ?_))))))))))))))))
 have hE:=nA ru;first | subst r | cases hE
 exact ⟨rfl,_,(zz rfl),bE,_,(bw.pick [] _ (by decide) rfl),rfl,rfl⟩
 intro bM rx
 refine oT Z bM (oT Z bM (oR Z (zS Z (ZO bM.out) Z) (oM Z Z (oN Z (oN Z (oR Z (zS Z Z Z) (oM Z Z (oN Z (oN Z (oN Z (oN Z (oN Z (oR Z (zS Z Z Z) (eN (zp Z (sR fL1 Z (oA Z Z (eN (zR (zJ ?_))))))))))))))))))))
 have hE:=nA rx;first | subst r | cases hE
 exact ⟨rfl,_,(zz rfl),bE,_,(bw.pick [] _ (by decide) rfl),rfl,rfl⟩
 intro bL ry
 refine oT Z bL (oT Z bL (oR Z (zS Z (ZO bL.out) Z) (oM Z Z (oN Z (oN Z (oR Z (zS Z Z Z) (oM Z Z (oN Z (oN Z (oR Z (zS Z Z Z) (oM Z Z (oN Z (oN Z (oN Z (oN Z (oN Z (oR Z (zS Z Z Z) (eN (zp Z (sR fL1 Z (oA Z Z (eN (zR (zJ ?_))))))))))))))))))))))))
 have hE:=nA ry;first | subst r | cases hE
 exact ⟨rfl,_,(zz rfl),bE,_,(bw.pick [] _ (by decide) rfl),rfl,rfl⟩
 intro bK rA
 refine oT Z bK (oT Z bK (oR Z (zS Z (ZO bK.out) Z) (oM Z Z (oN Z (oN Z (oR Z (zS Z Z Z) (oM Z Z (oN Z (oN Z (oR Z (zS Z Z Z) (oM Z Z (oN Z (oN Z (oR Z (zS Z Z Z) (oM Z Z (oN Z (oN Z (oN Z (oN Z (oN Z (oR Z (zS Z Z Z) (eN (zp Z (sR fL1 Z (oA Z Z (eN (zR (zJ ?_))))))))))))))))))))))))))))
 have hE:=nA rA;first | subst r | cases hE
 exact ⟨rfl,_,(zz rfl),bE,_,(bw.pick [] _ (by decide) rfl),rfl,rfl⟩
 intro bJ rB
 refine oT Z bJ (oT Z bJ (oR Z (zS Z (ZO bJ.out) Z) (oM Z Z (oN Z (oN Z (oR Z (zS Z Z Z) (oM Z Z (oN Z (oN Z (oR Z (zS Z Z Z) (oM Z Z (oN Z (oN Z (oR Z (zS Z Z Z) (oM Z Z (oN Z (oN Z (oR Z (zS Z Z Z) (oM Z Z (oN Z (oN Z (oN Z (oN Z (oN Z (oR Z (zS Z Z Z) (eN (zp Z (sR fL1 Z (oA Z Z (eN (zR (zJ ?_))))))))))))))))))))))))))))))))
 have hE:=nA rB;first | subst r | cases hE
 exact ⟨rfl,_,(zz rfl),bE,_,(bw.pick [] _ (by decide) rfl),rfl,rfl⟩
end Go.Proofs.Ytfcmijinklojbaa
