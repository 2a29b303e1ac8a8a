import Derived.Test.YtlmekamhphnmjaaGreatQ4
import Derived.Test.YtlmekamhphnmjaaGreatQ3
import Derived.Test.YtlmekamhphnmjaaGreatQ5
set_option linter.all false
open List renaming flatMap->hD,length_set->hM,getElem_cons_succ->nA,getElem_cons_zero->nB,getElem_toArray->nD,set->nE
open Option.some renaming inj->hJ
open Int renaming toNat_natCast->nG
open Eq renaming trans->nH
open Go.Value renaming bool->nI
open Bool renaming eq_false_iff->nJ
namespace Go.Proofs.YtlmekamhphnmjaaGreat
open Go.KL
def gBp:Sch:=.fx 15 (.fl 16 (.fx 17 .nil .stop)) .stop
def gBq:Sch:=.fx 11 (.fl 12 (.fl 13 .nil)) .stop
def gBr:Sch:=.fx 6 (.fx 7 (.fl 8 .nil) .stop) .stop
def gBs:Sch:=.fl 0 (.fx 1 (.fl 2 .nil) .stop)
def gBt:Sch:=.fx 8 (.fx 9 (.fl 10 (.fx 11 .nil .stop)) .stop) .stop
set_option maxHeartbeats 4000000
theorem wFv (p0:Int) (p1:Int) (p2:List Int) (aF:Nat) (af:Option Addr) (ah:Nat) (p3:List wAJ) (aG:Nat) (ag:Option Addr) (ai:Nat) (w:World) (U:PHeap) (hS:St0 w U []) (ay:Cl U aF 0 [.slice af p2.length ah]) (az:Sl U 1 af ah p2.length (hD KL.encI p2)) (aA:Cl U aG 0 [.slice ag p3.length ai]) (aB:Sl U 2 ag ai p3.length (hD wAt p3)) {r:Int} (hm:wBe p0 p1 p2 p3=some r):Gv Tryz.prog 39 [jV p0,jV p1,.pointer (some ⟨aF,0,none⟩),.pointer (some ⟨aG,0,none⟩)] w (wBu w [] U (fun U_ L_ v=>v=jV r/\L_=[])):=by
 unfold wBe at hm
 refine Gv.of Tryz.func39 rfl Tryz.ntmps39 Tryz.results39 rfl (sR fL1 rfl (Zz rfl rfl rfl rfl rfl rfl (eN (zH (zx zp [1,3,3,1,1,3,3,1,2,1,3,3,3,1,1,3,3,3,1,2,2,2,3] (wLS (wNa (.fx 8 (.fx 19 (.fx 20 (.fx 21 (.fl 22 .nil) .stop) .stop) .stop) .stop))) (by kernel_rfl) ?_)))))
 have J:=hS.drew
 generalize hw_W2:({ w with drawn:=w.drawn + 1 }:World)=W2 at J ⊢
 refine oL Z (J.ldC (f:=0) ay (v:=.slice af p2.length ah) Z Z Tryz.isAgg31 Z) (oM Z Z (bnK hm fun x3 h4 bq=>?_))
 have q:=az.el (fun _=>rfl) (wBW h4)
 obtain ⟨b6,bL,aU,aY⟩:=q
 refine oR Z (zm Z Z aU Z zN zB (wFE h4) (wFV h4)) (oL Z (J.ldC (f:=0) aY (v:=jV x3) Z Z zM Z) (oL Z (J.ldC (f:=0) ay (v:=.slice af p2.length ah) Z Z Tryz.isAgg31 Z) (oM Z Z (bnK bq fun aH ak bj=>?_))))
 have q:=az.el (fun _=>rfl) (wBW ak)
 obtain ⟨bA,bI,aR,aV⟩:=q
 refine oR Z (zm Z Z aR Z zN zB (wFE ak) (wFV ak)) (oL Z (J.ldC (f:=0) aV (v:=jV aH) Z Z zM Z) (oL Z (J.ldC (f:=0) aA (v:=.slice ag p3.length ai) Z Z Tryz.isAgg50 Z) (oM Z Z (bnK bj fun aI am bk=>?_))))
 have q:=aB.el (fun _=>rfl) (wBW am)
 obtain ⟨bB,bJ,aS,aW⟩:=q
 refine oR Z (zm Z Z aS Z ZQ Za (wFE am) (wFV am)) (oR Z (zO Z Z Zs Z zB) (oL Z (J.ldC (f:=1) aW (v:=jV aI.Time) Z Z zM Z) (oL Z (J.ldC (f:=0) aA (v:=.slice ag p3.length ai) Z Z Tryz.isAgg50 Z) (oM Z Z (bnK bk fun aJ an bm=>?_)))))
 have q:=aB.el (fun _=>rfl) (wBW an)
 obtain ⟨bC,bK,aT,aX⟩:=q
 refine oR Z (zm Z Z aT Z ZQ Za (wFE an) (wFV an)) (oR Z (zO Z Z Zs Z zB) (oL Z (J.ldC (f:=1) aX (v:=jV aJ.Time) Z Z zM Z) (bnK bm fun ac aO bn=>zG 0 Z Z Z Z (zF Z Z Tryz.call41 (zA Z (zA Z zL)) Z) J (fun hs=>wCZ x3 aH W2 U hs aO) (.inr Z) ?_)))
 rintro ap bw bM aw bE aZ ⟨rfl,rfl⟩
 have a7:sW w U ap [] aw:=aZ
 refine bnK bn fun ae aP bp=>zG 0 Z Z Z Z (zF Z Z Tryz.call41 (zA Z (zA Z zL)) Z) a7 (fun hs=>wCZ aI.Time aJ.Time aw ap hs aP) (.inr Z) ?_
 rintro aq bx bN aM bF a8 ⟨rfl,rfl⟩
 have ba:sW w U aq [] aM:=a8
 refine ZM (pv:=[(0,jV ac),(1,jV ae)]) (zs:=[jV 0,jV 0]) (cs:=[jV ac,jV ae]) Z Z Z Z Z (wAI Z (wAI Z wAd)) zN zB Zw Z Z Z Z Z ba ?_
 intro aj ax bb
 have bc:sW w U aq [.row (some ⟨ax,0,none⟩) 2 3 1 (hD KL.encI [ac,ae])] aj:=bb
 have q:=bc.freezeR (k:=0) (n:=[ac,ae].length) rfl (wAG (f:=KL.encI) (sz:=1) (fun _=>rfl) [ac,ae]) (by decide)
 obtain ⟨au,bG,bu,be⟩:=q
 have bg:sW w U au [] aj:=be
 refine bnK bp fun bP aQ br=>zG 0 Z Z Z Z (zF Z Z Tryz.call40 (zA Z zL) Z) bg (fun hs=>wHz [ac,ae] (some ⟨ax,0,none⟩) 2 aj au hs bu aQ) (.inr Z) ?_
 rintro av bz bO aN bH bh ⟨rfl,rfl⟩
 have bi:sW w U av [] aN:=bh
 refine oA Z Z (eN (zR ?_))
 have hE:=hJ br;first | subst r | cases hE
 exact ⟨Z,_,(zh Z),av,_,bi,Z,Z⟩
theorem wCL (p0:List Int) (ac:Option Addr) (ae:Nat) (p1:Int) (p2:Int) (p3:((Int × Int)->Option Int)) (aB:Value) (w:World) (U:PHeap) (hS:St0 w U [.row ac ae 3 1 (hD KL.encI p0)]) (bx:FnOK Tryz.prog U aB wLs wLt p3) {r:(List Int)} (hm:wAS p0 p1 p2 p3=some r):Gv Tryz.prog 145 [.slice ac p0.length ae,jV p1,jV p2,aB] w (wBu w [.row ac ae 3 1 (hD KL.encI p0)] U (fun U_ L_ v=>v=.tuple #[]/\L_=[.row ac ae 3 1 (hD KL.encI r)]/\r.length=p0.length)):=by
 unfold wAS at hm
 refine Gv.of Tryz.func145 Z Tryz.ntmps145 Tryz.results145 Z (sR fL3 Z (oM Z Z (oR Z (zQ Z Z Z) (oA Z Z (eN (zP ?_))))))
 let B0:Res:=.row ac ae 3 1 (hD KL.encI p0)
 refine Zm (fun (l8,x9) σ_ w_=>∃ (U_:PHeap),σ_ 0=.slice ac l8.length ae/\σ_ 1=jV p1/\σ_ 2=jV p2/\σ_ 3=aB/\σ_ 8=jV x9/\PHeap.Le U U_/\SW w [B0] U U_ [.row ac ae 3 1 (hD KL.encI l8)] w_/\l8.length=p0.length) hm ?_ ?_
 exact ⟨U,Z,Z,Z,Z,Z,(zS _),hS,Z⟩
 rintro ⟨l8,x9⟩ bZ b8 bT ⟨aD,bg,bh,aP,bi,aH,aN,aR,aQ⟩ aL bz
 try dsimp only at aL
 refine zH (sR fL3 Z (oM Z aH (oM Z aP (oR Z (zK Z Z Z) (eN ?_)))))
 by_cases ai:x9 < p2
 have aW:=aL;rw [if_pos ai] at aW;replace ai:=zD ai
 refine cT Z ai (kN (zH (zP (sR fL2 Z (oM Z aH (oA Z Z (eN (zP (Zm (fun (J,ab) σ_ w_=>∃ (U_:PHeap),σ_ 0=.slice ac J.length ae/\σ_ 1=jV p1/\σ_ 2=jV p2/\σ_ 3=aB/\σ_ 8=jV x9/\σ_ 9=jV ab/\PHeap.Le aD U_/\SW w [B0] U U_ [.row ac ae 3 1 (hD KL.encI J)] w_/\J.length=p0.length) aW ?_ ?_)))))))))
 exact ⟨aD,bg,bh,aP,bi,aH,Z,(zS _),aR,aQ⟩
 rintro ⟨J,ab⟩ b4 b9 aO ⟨a7,ah,aw,aI,ax,aJ,aj,aA,bn,aK⟩ aM aT
 try dsimp only at aM
 refine zH (zH (zx zp [3,3,3,3,3,3,3,3,1,3,3,3,3,1,2,3,3] (wLi (.fx 14 (.fl 15 (.fl 16 .nil)) .stop)) (by kernel_rfl) ?_))
 have an:=bn.drew
 generalize hw_W54:({ aO with drawn:=aO.drawn + 1 }:World)=bU at an ⊢
 refine oM Z aj (oM Z aw (oR Z (Zy Z Z Z) (oM Z Z ?_)))
 by_cases aa:p1 < ab
 have aX:=aM;rw [if_pos aa] at aX;replace aa:=zD aa
 refine zC Z Z Z (wT Z aa) Z ax (zC Z Z Z (wT Z aa) Z ah (zC Z Z Z (wT Z aa) Z aj (bnK aX fun _ ag bI=>?_)))
 obtain ⟨bW,af⟩:=an.rowSome (j:=0) rfl (by rw [wAG (f:=KL.encI) (sz:=1) (fun _=>rfl) J];have hz:=wAK ag;omega)
 refine rU Z (wT Z aa) (zm Z Z af Z zN zB (wAh ag) (wAi ag)) ?_
 have bA:=wAv (xs:=J) (wAK ag)
 refine zn rfl rfl rfl (zU rfl rfl (ZJ aa.out)) (an.ldR (j:=0) rfl af rfl rfl zM (wAT (sz:=1) (fun _=>rfl) _ _ 0 _ bA (by first | omega | rfl | simp) rfl)) rfl (zC rfl rfl rfl (zU rfl rfl (ZJ aa.out)) rfl ah (zC rfl rfl rfl (zU rfl rfl (ZJ aa.out)) rfl aj (zT rfl rfl rfl (zU rfl rfl (ZJ aa.out)) (fun _=>zg rfl rfl rfl) (bnK bI fun _ am bJ=>zT rfl rfl rfl (zU rfl rfl (ZJ aa.out)) (fun _=>zm rfl rfl af rfl zN zB (wAh am) (wAi am)) ?_))))
 have bB:=wAv (xs:=J) (wAK am)
 refine zn rfl rfl rfl (zU rfl rfl (ZJ aa.out)) (an.ldR (j:=0) rfl af rfl rfl zM (wAT (sz:=1) (fun _=>rfl) _ _ 0 _ bB (by first | omega | rfl | simp) rfl)) rfl (bnK bJ fun bY bj bK=>?_)
 have bk:=bx.le aN
 have bm:=bk.le aA
 refine Zk (a:=((gd J ab.toNat),(gd J (w64 (ab - 1)).toNat))) Z Z Z (wT Z aa) Z Z (zA Z (zA Z zL)) an bm Z bj ?_
 rintro ap bS bX aF aY bp ⟨rfl,rfl⟩
 have aS:SW w [B0] U ap [.row ac ae 3 1 (hD KL.encI J)] aF:=bp
 refine rU Z (wT Z aa) (zK Z Z Z) (oR Z (zb Z (ZJ aa.out) Z) (eN (ifc bK ?_ ?_)))
 intro aG bL
 refine cT Z aG (kN (zH (zP (zx zp [3,3,3,3,3,3,3,3,3,1,3,3,3,1,3,0,3,0] (wGl gBp) (by kernel_rfl) ?_))))
 have ay:=aS.drew
 generalize hw_W80:({ aF with drawn:=aF.drawn + 1 }:World)=bV at ay ⊢
 refine oM Z ah (oM Z aj (oM Z ah (oM Z aj (oR Z (zg Z Z Z) (oM Z ah (oM Z aj (oR Z (zg Z Z Z) (oR Z (zm Z Z af Z zN zB (wAh am) (wAi am)) ?_))))))))
 have bC:=wAv (xs:=J) (wAK am)
 refine zn rfl rfl rfl rfl (ay.ldR (j:=0) rfl af rfl rfl zM (wAT (sz:=1) (fun _=>rfl) _ _ 0 _ bC (by first | omega | rfl | simp) rfl)) rfl (zC rfl rfl rfl rfl rfl ah (zC rfl rfl rfl rfl rfl aj (zT rfl rfl rfl rfl (fun _=>zm rfl rfl af rfl zN zB (wAh ag) (wAi ag)) ?_)))
 have bD:=wAv (xs:=J) (wAK ag)
 refine zn rfl rfl rfl rfl (ay.ldR (j:=0) rfl af rfl rfl zM (wAT (sz:=1) (fun _=>rfl) _ _ 0 _ bD (by first | omega | rfl | simp) rfl)) rfl (zT rfl rfl rfl rfl (fun _=>zm rfl rfl af rfl zN zB (wAh ag) (wAi ag)) ?_)
 have bE:=wAv (xs:=J) (wAK ag)
 refine yJ (j:=0) (vs:=[jV (gd J (w64 (ab - 1)).toNat)]) (cs':=hD KL.encI (nE J ab.toNat (gd J (w64 (ab - 1)).toNat))) rfl rfl rfl rfl ay rfl af rfl rfl rfl zB (by rw [wAG (f:=KL.encI) (sz:=1) (fun _=>rfl)];have hz:=wAK ag;show _ + 1 <= _;first | omega | (simp only [nG];omega) | (simp only [nD,nA,nB];omega)) rfl (wCN (sz:=1) (fo:=0) (fun _=>rfl) _ _ _ _ bE (by first | omega | (simp only [nG];omega) | (simp only [nD,nA,nB];omega)) (zJ rfl) rfl) rfl ?_
 intro a8 bq
 have br:SW w [B0] U ap [.row ac ae 3 1 (hD KL.encI (nE J ab.toNat (gd J (w64 (ab - 1)).toNat)))] a8:=bq
 refine bnK bL fun _ aq bM=>zT rfl rfl rfl rfl (fun _=>zm rfl (nH (b:=(.slice ac J.length ae:Value)) (c:=(.slice ac ((nE J ab.toNat (gd J (w64 (ab - 1)).toNat)).length) ae:Value)) rfl (by simp only [hM])) af rfl zN zB (wAh aq) (wAi aq)) ?_
 have bF:=wAv (xs:=(nE J ab.toNat (gd J (w64 (ab - 1)).toNat))) (by first | exact wAK aq | (have hz:=wAK aq;simpa only [hM] using hz))
 refine yJ (j:=0) (vs:=[jV (gd J ab.toNat)]) (cs':=hD KL.encI (nE (nE J ab.toNat (gd J (w64 (ab - 1)).toNat)) (w64 (ab - 1)).toNat (gd J ab.toNat))) rfl rfl rfl rfl br rfl af rfl rfl rfl zB (by rw [wAG (f:=KL.encI) (sz:=1) (fun _=>rfl)];have hz:=wAK aq;show _ + 1 <= _;first | omega | (simp only [hM];omega) | (simp only [nD,nA,nB,hM];omega) | (simp only [nG];omega) | (simp only [nD,nA,nB];omega)) rfl (wCN (sz:=1) (fo:=0) (fun _=>rfl) _ _ _ _ bF (by first | omega | (simp only [nG];omega) | (simp only [nD,nA,nB];omega)) (zJ rfl) rfl) rfl ?_
 intro ba bu
 have bw:SW w [B0] U ap [.row ac ae 3 1 (hD KL.encI (nE (nE J ab.toNat (gd J (w64 (ab - 1)).toNat)) (w64 (ab - 1)).toNat (gd J ab.toNat)))] ba:=bu
 refine zY (zd (zI (rR fL3 Z (oM Z aj (oR Z (zg Z Z Z) (oA Z Z (zY ?_)))))))
 have q:=hJ bM
 obtain rfl:=q
 exact zI ⟨rfl,_,rfl,⟨ap,(nH (b:=(.slice ac ((nE J ab.toNat (gd J (w64 (ab - 1)).toNat)).length) ae:Value)) (c:=(.slice ac ((nE (nE J ab.toNat (gd J (w64 (ab - 1)).toNat)) (w64 (ab - 1)).toNat (gd J ab.toNat)).length) ae:Value)) (nH (b:=(.slice ac J.length ae:Value)) (c:=(.slice ac ((nE J ab.toNat (gd J (w64 (ab - 1)).toNat)).length) ae:Value)) ah (by simp only [hM])) (by simp only [hM])),aw,aI,ax,aJ,rfl,(aA.trans aY),bw,((hM.trans hM).trans aK)⟩⟩
 intro aG bN
 refine cF Z aG (zr (zV ?_))
 have q:=wAe bN
 obtain ⟨bR,bO,be⟩:=q
 have q:=aT bR be
 obtain rfl:=q
 refine zV (zk (zd (zI (rR fL3 Z (oM Z aJ (oR Z (zQ Z Z Z) (oA Z Z (zY ?_))))))))
 have q:=hJ bO
 obtain rfl:=q
 exact zI ⟨Z,_,Z,⟨ap,ah,aw,aI,ax,Z,((aN.trans aA).trans aY),aS,aK⟩⟩
 have aU:=aM;rw [if_neg aa] at aU;replace aa:=zD aa
 refine oF Z aa (oF Z aa (oF Z aa (oF Z aa (oF Z aa (oF Z aa (oF Z aa (oF Z aa (oF Z aa (oF Z aa (Zg Z Z Z (zf Z Z (zt aa.out) Z) (oF Z aa (oR Z (zX Z (zt aa.out) Z) (eN (ze Z (zr (zV ?_))))))))))))))))
 have q:=wAe aU
 obtain ⟨bP,bG,bb⟩:=q
 have q:=aT bP bb
 obtain rfl:=q
 refine zV (zk (zd (zI (rR fL3 Z (oM Z aJ (oR Z (zQ Z Z Z) (oA Z Z (zY ?_))))))))
 have q:=hJ bG
 obtain rfl:=q
 exact zI ⟨Z,_,Z,⟨a7,ah,aw,aI,ax,Z,(aN.trans aA),an,aK⟩⟩
 have aV:=aL;rw [if_neg ai] at aV;replace ai:=zD ai
 refine cF Z ai (zr (zV ?_))
 have q:=wAe aV
 obtain ⟨bQ,bH,bc⟩:=q
 have q:=bz bQ bc
 obtain rfl:=q
 refine zV (zk ?_)
 have hE:=hJ bH;first | subst r | cases hE
 exact ⟨Z,_,(wCM),aD,_,aR,Z,Z,aQ⟩
theorem wBt (p0:List Int) (ae:Option Addr) (af:Nat) (p1:Int) (p2:Int) (p3:Int) (p4:((Int × Int)->Option Int)) (aD:Value) (w:World) (U:PHeap) (hS:St0 w U [.row ae af 3 1 (hD KL.encI p0)]) (bn:FnOK Tryz.prog U aD wLs wLt p4) {r:(List Int)} (hm:wAM p0 p1 p2 p3 p4=some r):Gv Tryz.prog 269 [.slice ae p0.length af,jV p1,jV p2,jV p3,aD] w (wBu w [.row ae af 3 1 (hD KL.encI p0)] U (fun U_ L_ v=>v=.tuple #[]/\L_=[.row ae af 3 1 (hD KL.encI r)]/\r.length=p0.length)):=by
 unfold wAM at hm
 refine Gv.of Tryz.func269 Z Tryz.ntmps269 Tryz.results269 Z (sR fL1 Z (oA Z Z (eN (zP (bnK hm fun br aT bb=>?_)))))
 have q:=wBY aT
 obtain ⟨ay,aU⟩:=q
 replace ay:=zD ay
 let B0:Res:=.row ae af 3 1 (hD KL.encI p0)
 refine CK.forN' (fun k8 J σ_ w_=>∃ (U_:PHeap),σ_ 10=jV (↑k8:Int)/\σ_ 0=.slice ae J.length af/\σ_ 1=jV p1/\σ_ 2=jV p2/\σ_ 3=jV p3/\PHeap.Le U U_/\SW w [B0] U U_ [.row ae af 3 1 (hD KL.encI J)] w_/\J.length=p0.length) aU ?_ ?_ ?_
 exact ⟨U,Z,Z,Z,Z,Z,(zS _),hS,Z⟩
 rintro k8 J bq bu az ax ⟨au,aj,am,av,aw,aB,be,aN,aL⟩ bc
 have aA:Hid ((↑k8:Int) < p3):=zD (wBh ax)
 replace ax:=zD ax
 have aZ:Hid (w64 ((↑k8:Int) + 1)=(↑(k8 + 1):Int)):=zD (by have h1:=ay.out;have h2:=aA.out;rw [wAf] <;> omega)
 refine zH (sR fL3 rfl (zC rfl rfl rfl rfl rfl aj (zC rfl rfl rfl rfl rfl aB (zT rfl rfl rfl rfl (fun _=>zK rfl rfl rfl) (eN (cT Z aA (kN (zH (zP (zx zp [3,3,3,3,3,3,3,3,3,3,3,3,3,1,3,3,3,3,3,1,3,0,3,0] (wKd (.fx 21 (.fl 22 (.fx 23 .nil .stop)) .stop)) (by kernel_rfl) ?_))))))))))
 have ao:=aN.drew
 generalize hw_W32:({ az with drawn:=az.drawn + 1 }:World)=bg at ao ⊢
 refine oM Z am (oM Z av (oM Z aj (oR Z (zQ Z Z Z) (oM Z am (oM Z aw (oM Z aj (oR Z (zQ Z Z Z) (oM Z am (oM Z aw (oM Z aj (oR Z (zQ Z Z Z) (bnK bc fun _ ap a7=>?_))))))))))))
 obtain ⟨bi,ag⟩:=ao.rowSome (j:=0) rfl (by rw [wAG (f:=KL.encI) (sz:=1) (fun _=>rfl) J];have hz:=wAK ap;omega)
 refine oR Z (zm Z Z ag Z zN zB (wAh ap) (wAi ap)) ?_
 have aV:=wAv (xs:=J) (wAK ap)
 refine zn rfl rfl rfl rfl (ao.ldR (j:=0) rfl ag rfl rfl zM (wAT (sz:=1) (fun _=>rfl) _ _ 0 _ aV (by first | omega | rfl | simp) rfl)) rfl (zC rfl rfl rfl rfl rfl am (zC rfl rfl rfl rfl rfl av (zC rfl rfl rfl rfl rfl aj (zT rfl rfl rfl rfl (fun _=>zQ rfl rfl rfl) (bnK a7 fun _ ah a8=>zT rfl rfl rfl rfl (fun _=>zm rfl rfl ag rfl zN zB (wAh ah) (wAi ah)) ?_)))))
 have aW:=wAv (xs:=J) (wAK ah)
 refine zn rfl rfl rfl rfl (ao.ldR (j:=0) rfl ag rfl rfl zM (wAT (sz:=1) (fun _=>rfl) _ _ 0 _ aW (by first | omega | rfl | simp) rfl)) rfl (zT rfl rfl rfl rfl (fun _=>zm rfl rfl ag rfl zN zB (wAh ah) (wAi ah)) ?_)
 have aX:=wAv (xs:=J) (wAK ah)
 refine yJ (j:=0) (vs:=[jV (gd J (w64 (p2 + (↑k8:Int))).toNat)]) (cs':=hD KL.encI (nE J (w64 (p1 + (↑k8:Int))).toNat (gd J (w64 (p2 + (↑k8:Int))).toNat))) rfl rfl rfl rfl ao rfl ag rfl rfl rfl zB (by rw [wAG (f:=KL.encI) (sz:=1) (fun _=>rfl)];have hz:=wAK ah;show _ + 1 <= _;first | omega | (simp only [nG];omega) | (simp only [nD,nA,nB];omega)) rfl (wCN (sz:=1) (fo:=0) (fun _=>rfl) _ _ _ _ aX (by first | omega | (simp only [nG];omega) | (simp only [nD,nA,nB];omega)) (zJ rfl) rfl) rfl ?_
 intro aG aO
 have aP:SW w [B0] U au [.row ae af 3 1 (hD KL.encI (nE J (w64 (p1 + (↑k8:Int))).toNat (gd J (w64 (p2 + (↑k8:Int))).toNat)))] aG:=aO
 refine bnK a8 fun _ an ba=>zT rfl rfl rfl rfl (fun _=>zm rfl (nH (b:=(.slice ae J.length af:Value)) (c:=(.slice ae ((nE J (w64 (p1 + (↑k8:Int))).toNat (gd J (w64 (p2 + (↑k8:Int))).toNat)).length) af:Value)) rfl (by simp only [hM])) ag rfl zN zB (wAh an) (wAi an)) ?_
 have aY:=wAv (xs:=(nE J (w64 (p1 + (↑k8:Int))).toNat (gd J (w64 (p2 + (↑k8:Int))).toNat))) (by first | exact wAK an | (have hz:=wAK an;simpa only [hM] using hz))
 refine yJ (j:=0) (vs:=[jV (gd J (w64 (p1 + (↑k8:Int))).toNat)]) (cs':=hD KL.encI (nE (nE J (w64 (p1 + (↑k8:Int))).toNat (gd J (w64 (p2 + (↑k8:Int))).toNat)) (w64 (p2 + (↑k8:Int))).toNat (gd J (w64 (p1 + (↑k8:Int))).toNat))) rfl rfl rfl rfl aP rfl ag rfl rfl rfl zB (by rw [wAG (f:=KL.encI) (sz:=1) (fun _=>rfl)];have hz:=wAK an;show _ + 1 <= _;first | omega | (simp only [hM];omega) | (simp only [nD,nA,nB,hM];omega) | (simp only [nG];omega) | (simp only [nD,nA,nB];omega)) rfl (wCN (sz:=1) (fo:=0) (fun _=>rfl) _ _ _ _ aY (by first | omega | (simp only [nG];omega) | (simp only [nD,nA,nB];omega)) (zJ rfl) rfl) rfl ?_
 intro aH aQ
 have aR:SW w [B0] U au [.row ae af 3 1 (hD KL.encI (nE (nE J (w64 (p1 + (↑k8:Int))).toNat (gd J (w64 (p2 + (↑k8:Int))).toNat)) (w64 (p2 + (↑k8:Int))).toNat (gd J (w64 (p1 + (↑k8:Int))).toNat)))] aH:=aQ
 refine zY (zd (zI (rR fL3 Z (oM Z aj (oR Z (ZE (zQ Z Z Z) (congrArg (jV) aZ.out)) (oA Z Z (zY ?_)))))))
 cases ba
 exact zI ⟨rfl,⟨au,rfl,(nH (b:=(.slice ae ((nE J (w64 (p1 + (↑k8:Int))).toNat (gd J (w64 (p2 + (↑k8:Int))).toNat)).length) af:Value)) (c:=(.slice ae ((nE (nE J (w64 (p1 + (↑k8:Int))).toNat (gd J (w64 (p2 + (↑k8:Int))).toNat)) (w64 (p2 + (↑k8:Int))).toNat (gd J (w64 (p1 + (↑k8:Int))).toNat)).length) af:Value)) (nH (b:=(.slice ae J.length af:Value)) (c:=(.slice ae ((nE J (w64 (p1 + (↑k8:Int))).toNat (gd J (w64 (p2 + (↑k8:Int))).toNat)).length) af:Value)) am (by simp only [hM])) (by simp only [hM])),av,aw,aB,be,aR,((hM.trans hM).trans aL)⟩⟩
 rintro bw bh ⟨aF,aK,bj,bk,bm,aJ,bp,aS,aM⟩
 have aI:Hid (¬ ((↑((p3:Int) - 0).toNat:Int) < p3)):=zD (wBG)
 refine zH (sR fL3 Z (oM Z aK (oM Z aJ (oR Z (zK Z Z Z) (eN (cF Z aI (zr (zV (zV (zk ?_))))))))))
 have hE:=hJ bb;first | subst r | cases hE
 exact ⟨Z,_,(wCM),aF,_,aS,Z,Z,aM⟩
theorem wDF (p0:List Int) (J:Option Addr) (aa:Nat) (p1:Int) (p2:Int) (p3:Int) (p4:((Int × Int)->Option Int)) (aj:Value) (w:World) (U:PHeap) (hS:St0 w U [.row J aa 3 1 (hD KL.encI p0)]) (aA:FnOK Tryz.prog U aj wLs wLt p4) {r:(List Int)} (hm:wAs p0 p1 p2 p3 p4=some r):Gv Tryz.prog 220 [.slice J p0.length aa,jV p1,jV p2,jV p3,aj] w (wBu w [.row J aa 3 1 (hD KL.encI p0)] U (fun U_ L_ v=>v=.tuple #[]/\L_=[.row J aa 3 1 (hD KL.encI r)]/\r.length=p0.length)):=by
 unfold wAs at hm
 refine Gv.of Tryz.func220 Z Tryz.ntmps220 Tryz.results220 Z (sR fL4 Z (oM Z Z (oM Z Z (oR Z (zg Z Z Z) (oA Z Z (eN (sR fL4 Z (oM Z Z (oM Z Z (oR Z (zg Z Z Z) (oA Z Z (eN ?_))))))))))))
 have q:=bnd hm
 obtain ⟨⟨l2,x3⟩,bD,aO⟩:=q
 try dsimp only at aO
 let B0:Res:=.row J aa 3 1 (hD KL.encI p0)
 refine yH (fun σ_ w_=>∃ (U_:PHeap),σ_ 0=.slice J l2.length aa/\σ_ 2=jV p2/\σ_ 4=aj/\σ_ 10=jV x3/\PHeap.Le U U_/\SW w [B0] U U_ [.row J aa 3 1 (hD KL.encI l2)] w_/\l2.length=p0.length) ?_ ?_
 refine zP (Zm (fun (af,ak,au) σ_ w_=>∃ (U_:PHeap),σ_ 0=.slice J af.length aa/\σ_ 2=jV p2/\σ_ 4=aj/\σ_ 10=jV ak/\σ_ 11=jV au/\PHeap.Le U U_/\SW w [B0] U U_ [.row J aa 3 1 (hD KL.encI af)] w_/\af.length=p0.length) bD ?_ ?_)
 exact ⟨U,Z,Z,Z,Z,Z,(zS _),hS,Z⟩
 rintro ⟨af,ak,au⟩ bQ bR aH ⟨aw,an,ah,ao,ab,ai,ap,az,ay⟩ aB bu
 try dsimp only at aB
 refine zH (sR fL3 Z (oM Z ab (oM Z ai (oR Z (Zf Z Z Z) (eN ?_)))))
 by_cases ae:ak=au
 have aM:=aB;rw [if_pos ae] at aM;replace ae:=zD ae
 refine ze (zt (fun h=>h ae.out)) (zr (zV ?_))
 have q:=wAe aM
 obtain ⟨bH,bw,aY⟩:=q
 have q:=bu bH aY
 obtain rfl:=q
 refine zV (zk ?_)
 cases bw
 exact zI ⟨Z,⟨aw,an,ah,ao,ab,ap,az,ay⟩⟩
 have aN:=aB;rw [if_neg ae] at aN;replace ae:=zD ae
 refine cT Z ae (kN (zP (sR fL3 Z (oM Z ab (oM Z ai (oR Z (Zy Z Z Z) (eN (ifc aN ?_ ?_))))))))
 intro ax bx
 refine cT Z ax (sR (wHc (.fx 7 .nil .stop)) Z (oM Z an (oM Z ah (oM Z ab (oR Z (zg Z Z Z) (oM Z ah (oM Z ai (oM Z ao ?_))))))))
 have a8:=aA.le ap
 refine bnK bx fun aR ba bz=>zG 1 Z Z Z Z (zF Z Z Tryz.call269 (zA Z (zA Z (zA Z (zA Z (zA Z zL))))) Z) az (fun hs=>wBt af J aa (w64 (p2 - ak)) p2 au p4 aj aH aw hs a8 ba) (.inl Z) ?_
 rintro aD bJ bN aU bE bj ⟨rfl,rfl,aK⟩
 have bk:SW w [B0] U aD [.row J aa 3 1 (hD KL.encI aR)] aU:=bj
 refine eN (rR fL4 Z (oM Z ab (oM Z ai (oR Z (zg Z Z Z) (oA Z Z (zY (zd ?_)))))))
 have q:=hJ bz
 obtain rfl:=q
 exact zI ⟨rfl,_,rfl,⟨aD,(nH (b:=(.slice J af.length aa:Value)) (c:=(.slice J aR.length aa:Value)) an (by rw [aK])),ah,ao,rfl,ai,(ap.trans bE),bk,(aK.trans ay)⟩⟩
 intro ax bA
 refine cF Z ax (sR (wGk (.fx 11 .nil .stop)) Z (oM Z an (oM Z ah (oM Z ab (oR Z (zg Z Z Z) (oM Z ah (oM Z ai (oR Z (zQ Z Z Z) (oM Z ab (oR Z (zg Z Z Z) (oM Z ab (oM Z ao ?_))))))))))))
 have bb:=aA.le ap
 refine bnK bA fun aS bc bB=>zG 1 Z Z Z Z (zF Z Z Tryz.call269 (zA Z (zA Z (zA Z (zA Z (zA Z zL))))) Z) az (fun hs=>wBt af J aa (w64 (p2 - ak)) (w64 ((w64 (p2 + au)) - ak)) ak p4 aj aH aw hs bb bc) (.inl Z) ?_
 rintro aF bK bO aV bF bm ⟨rfl,rfl,aL⟩
 have bn:SW w [B0] U aF [.row J aa 3 1 (hD KL.encI aS)] aV:=bm
 refine eN (rR fL4 Z (oM Z ai (oM Z ab (oR Z (zg Z Z Z) (oA Z Z (zY (zd ?_)))))))
 have q:=hJ bB
 obtain rfl:=q
 exact zI ⟨rfl,_,rfl,⟨aF,(nH (b:=(.slice J af.length aa:Value)) (c:=(.slice J aS.length aa:Value)) an (by rw [aL])),ah,ao,ab,rfl,(ap.trans bF),bn,(aL.trans ay)⟩⟩
 rintro bS aW ⟨aT,aZ,aI,a7,aJ,bG,bp,be⟩
 refine rR (wHc (.fx 7 .nil .stop)) Z (oM Z aZ (oM Z aI (oM Z aJ (oR Z (zg Z Z Z) (oM Z aI (oM Z aJ (oM Z a7 ?_)))))))
 have bg:=aA.le bG
 refine bnK aO fun bI bh bC=>zG 1 Z Z Z Z (zF Z Z Tryz.call269 (zA Z (zA Z (zA Z (zA Z (zA Z zL))))) Z) bp (fun hs=>wBt l2 J aa (w64 (p2 - x3)) p2 x3 p4 aj aW aT hs bg bh) (.inl Z) ?_
 rintro aG bL bP aX bM bq ⟨rfl,rfl,bi⟩
 have br:SW w [B0] U aG [.row J aa 3 1 (hD KL.encI bI)] aX:=bq
 refine zY ?_
 have hE:=hJ bC;first | subst r | cases hE
 exact ⟨Z,_,(wCM),aG,_,br,Z,Z,(bi.trans be)⟩
theorem wCu (n_:Nat):∀ (p0:List Int) (J:Option Addr) (aa:Nat) (p1:Int) (p2:Int) (p3:Int) (p4:((Int × Int)->Option Int)) (ai:Value) (w:World) (U:PHeap) (hS:St0 w U [.row J aa 3 1 (hD KL.encI p0)]) (aC:FnOK Tryz.prog U ai wLs wLt p4) {r:(List Int)} (hm:wAN n_ p0 p1 p2 p3 p4=some r),Gv Tryz.prog 146 [.slice J p0.length aa,jV p1,jV p2,jV p3,ai] w (wBu w [.row J aa 3 1 (hD KL.encI p0)] U (fun U_ L_ v=>v=.tuple #[]/\L_=[.row J aa 3 1 (hD KL.encI r)]/\r.length=p0.length)):=by
 induction n_ with
 | zero =>
  intros
  rename_i hm
  have lW:(none:Option ((List Int)))=some _:=hm
  cases lW
 | succ n_ ih =>
  intro p0 J aa p1 p2 p3 p4 ai w U hS aC r hm
  have hm:wBF (wAN n_) p0 p1 p2 p3 p4=some r:=hm
  unfold wBF at hm
  refine Gv.of Tryz.func146 Z Tryz.ntmps146 Tryz.results146 Z (zH (sR fL4 Z (oM Z Z (oM Z Z (oR Z (zg Z Z Z) (oR Z (Zr Z Z Z) (eN ?_)))))))
  by_cases c2:(w64 (p2 - p1))=1
  ·have gi:=hm;rw [if_pos c2] at gi;replace c2:=zD c2
   refine cT Z c2 (sR fL2 Z (oM Z Z (oA Z Z (eN (sR fL2 Z (oM Z Z (oA Z Z (eN (bnK gi fun x4 pD o3=>?_)))))))))
   let B0:Res:=.row J aa 3 1 (hD KL.encI p0)
   refine yH (fun σ_ w_=>∃ (U_:PHeap),σ_ 0=.slice J p0.length aa/\σ_ 1=jV p1/\σ_ 10=jV x4/\PHeap.Le U U_/\SW w [B0] U U_ [B0] w_) ?_ ?_
   ·refine zP (Zm (fun (de,df) σ_ w_=>∃ (U_:PHeap),σ_ 0=.slice J p0.length aa/\σ_ 1=jV p1/\σ_ 4=ai/\σ_ 10=jV de/\σ_ 11=jV df/\PHeap.Le U U_/\SW w [B0] U U_ [B0] w_) pD ?_ ?_)
    ·exact ⟨U,Z,Z,Z,Z,Z,(zS _),hS⟩
    ·rintro ⟨de,df⟩ ry rE ff ⟨gG,bJ,cn,dX,cq,d7,cU,fV⟩ eD lB
     try dsimp only at eD
     refine zH (sR fL3 Z (oM Z cq (oM Z d7 (oR Z (zK Z Z Z) (eN ?_)))))
     by_cases bn:de < df
     ·have gk:=eD;rw [if_pos bn] at gk;replace bn:=zD bn
      refine cT Z bn (kN (zP (sR fL7 rfl (zC rfl rfl rfl rfl rfl cq (zC rfl rfl rfl rfl rfl d7 (zT rfl rfl rfl rfl (fun _=>zQ rfl rfl rfl) (zT rfl rfl rfl rfl (fun _=>yb rfl rfl zu zz rfl rfl) (zT rfl rfl rfl rfl (fun _=>yc rfl rfl rfl) (zT rfl rfl rfl rfl (fun _=>yU rfl rfl zz zu rfl rfl) (Zz rfl rfl rfl rfl rfl rfl (eN (zH (zx zp [3,3,3,3,1,3,3,3,1,2,3] (wKc (.fx 9 (.fl 10 .nil) .stop)) (by kernel_rfl) ?_)))))))))))))
      have bS:=fV.drew
      generalize hw_W34:({ ff with drawn:=ff.drawn + 1 }:World)=qy at bS ⊢
      refine oM Z dX (oM Z bJ (oM Z Z (bnK gk fun _ cG mA=>?_)))
      obtain ⟨qH,cQ⟩:=bS.rowSome (j:=0) rfl (by rw [wAG (f:=KL.encI) (sz:=1) (fun _=>rfl) p0];have hz:=wAK cG;omega)
      refine oR Z (zm Z Z cQ Z zN zB (wAh cG) (wAi cG)) ?_
      have lS:=wAv (xs:=p0) (wAK cG)
      refine zn rfl rfl rfl rfl (bS.ldR (j:=0) rfl cQ rfl rfl zM (wAT (sz:=1) (fun _=>rfl) _ _ 0 _ lS (by first | omega | rfl | simp) rfl)) rfl (zC rfl rfl rfl rfl rfl bJ (zC rfl rfl rfl rfl rfl cn (bnK mA fun _ en mM=>zT rfl rfl rfl rfl (fun _=>zm rfl rfl cQ rfl zN zB (wAh en) (wAi en)) ?_)))
      have lT:=wAv (xs:=p0) (wAK en)
      refine zn rfl rfl rfl rfl (bS.ldR (j:=0) rfl cQ rfl rfl zM (wAT (sz:=1) (fun _=>rfl) _ _ 0 _ lT (by first | omega | rfl | simp) rfl)) rfl (bnK mM fun ru iU m0=>?_)
      have jg:=aC.le cU
      refine Zk (a:=((gd p0 (w64 ((wAP (w64 (de + df))) / 2)).toNat),(gd p0 p1.toNat))) Z Z Z Z Z Z (zA Z (zA Z zL)) bS jg Z iU ?_
      rintro dn qg rc gV gD ky ⟨rfl,rfl⟩
      have f4:SW w [B0] U dn [B0] gV:=ky
      refine oR Z (zK Z Z Z) (eN (ifc m0 ?_ ?_))
      ·intro dF og
       refine cT Z dF (rR fL3 Z (oM Z Z (oR Z (zQ Z Z Z) (oA Z Z (zY (zd ?_))))))
       have q:=hJ og
       obtain rfl:=q
       exact zI ⟨Z,_,Z,⟨dn,bJ,cn,dX,Z,d7,(cU.trans gD),f4⟩⟩
      ·intro dF oq
       refine cF Z dF (rR fL2 Z (oM Z Z (oA Z Z (zY (zd ?_)))))
       have q:=hJ oq
       obtain rfl:=q
       exact zI ⟨Z,_,Z,⟨dn,bJ,cn,dX,cq,Z,(cU.trans gD),f4⟩⟩
     ·have gv:=eD;rw [if_neg bn] at gv;replace bn:=zD bn
      refine cF Z bn (zr (zV ?_))
      have q:=wAe gv
      obtain ⟨pP,oy,iq⟩:=q
      have q:=lB pP iq
      obtain rfl:=q
      refine zV (zk ?_)
      cases oy
      exact zI ⟨Z,⟨gG,bJ,cn,cq,cU,fV⟩⟩
   ·rintro rN qB ⟨e7,iB,iC,iD,qS,ll⟩
    refine zH (sR fL2 Z (oM Z iC (oA Z Z (eN (zP (Zm (fun (ah,ak) σ_ w_=>∃ (U_:PHeap),σ_ 0=.slice J ah.length aa/\σ_ 10=jV x4/\σ_ 13=jV ak/\PHeap.Le e7 U_/\SW w [B0] U U_ [.row J aa 3 1 (hD KL.encI ah)] w_/\ah.length=p0.length) o3 ?_ ?_))))))
    ·exact ⟨e7,iB,iD,Z,(zS _),ll,Z⟩
    ·rintro ⟨ah,ak⟩ rC rO fu ⟨cc,bM,fL,bG,pJ,f9,fR⟩ eH lF
     try dsimp only at eH
     refine zH (sR fL4 Z (oM Z bG (oM Z fL (oR Z (zg Z Z Z) (oR Z (zK Z Z Z) (eN ?_))))))
     by_cases bq:ak < (w64 (x4 - 1))
     ·have gw:=eH;rw [if_pos bq] at gw;replace bq:=zD bq
      refine cT Z bq (kN (zH (zP (zx zp [3,3,3,3,3,3,3,3,3,1,3,3,3,1,3,0,3,0] (wGl gBp) (by kernel_rfl) ?_))))
      have bU:=f9.drew
      generalize hw_W99:({ fu with drawn:=fu.drawn + 1 }:World)=qC at bU ⊢
      refine oM Z bM (oM Z bG (oM Z bM (oM Z bG (oR Z (zQ Z Z Z) (oM Z bM (oM Z bG (oR Z (zQ Z Z Z) (bnK gw fun _ cB lX=>?_))))))))
      obtain ⟨qD,br⟩:=bU.rowSome (j:=0) rfl (by rw [wAG (f:=KL.encI) (sz:=1) (fun _=>rfl) ah];have hz:=wAK cB;omega)
      refine oR Z (zm Z Z br Z zN zB (wAh cB) (wAi cB)) ?_
      have lG:=wAv (xs:=ah) (wAK cB)
      refine zn rfl rfl rfl rfl (bU.ldR (j:=0) rfl br rfl rfl zM (wAT (sz:=1) (fun _=>rfl) _ _ 0 _ lG (by first | omega | rfl | simp) rfl)) rfl (zC rfl rfl rfl rfl rfl bM (zC rfl rfl rfl rfl rfl bG (bnK lX fun _ bB lY=>zT rfl rfl rfl rfl (fun _=>zm rfl rfl br rfl zN zB (wAh bB) (wAi bB)) ?_)))
      have lH:=wAv (xs:=ah) (wAK bB)
      refine zn rfl rfl rfl rfl (bU.ldR (j:=0) rfl br rfl rfl zM (wAT (sz:=1) (fun _=>rfl) _ _ 0 _ lH (by first | omega | rfl | simp) rfl)) rfl (zT rfl rfl rfl rfl (fun _=>zm rfl rfl br rfl zN zB (wAh bB) (wAi bB)) ?_)
      have lI:=wAv (xs:=ah) (wAK bB)
      refine yJ (j:=0) (vs:=[jV (gd ah (w64 (ak + 1)).toNat)]) (cs':=hD KL.encI (nE ah ak.toNat (gd ah (w64 (ak + 1)).toNat))) rfl rfl rfl rfl bU rfl br rfl rfl rfl zB (by rw [wAG (f:=KL.encI) (sz:=1) (fun _=>rfl)];have hz:=wAK bB;show _ + 1 <= _;first | omega | (simp only [nG];omega) | (simp only [nD,nA,nB];omega)) rfl (wCN (sz:=1) (fo:=0) (fun _=>rfl) _ _ _ _ lI (by first | omega | (simp only [nG];omega) | (simp only [nD,nA,nB];omega)) (zJ rfl) rfl) rfl ?_
      intro gJ jK
      have jL:SW w [B0] U cc [.row J aa 3 1 (hD KL.encI (nE ah ak.toNat (gd ah (w64 (ak + 1)).toNat)))] gJ:=jK
      refine bnK lY fun _ bN lZ=>zT rfl rfl rfl rfl (fun _=>zm rfl (nH (b:=(.slice J ah.length aa:Value)) (c:=(.slice J ((nE ah ak.toNat (gd ah (w64 (ak + 1)).toNat)).length) aa:Value)) rfl (by simp only [hM])) br rfl zN zB (wAh bN) (wAi bN)) ?_
      have lJ:=wAv (xs:=(nE ah ak.toNat (gd ah (w64 (ak + 1)).toNat))) (by first | exact wAK bN | (have hz:=wAK bN;simpa only [hM] using hz))
      refine yJ (j:=0) (vs:=[jV (gd ah ak.toNat)]) (cs':=hD KL.encI (nE (nE ah ak.toNat (gd ah (w64 (ak + 1)).toNat)) (w64 (ak + 1)).toNat (gd ah ak.toNat))) rfl rfl rfl rfl jL rfl br rfl rfl rfl zB (by rw [wAG (f:=KL.encI) (sz:=1) (fun _=>rfl)];have hz:=wAK bN;show _ + 1 <= _;first | omega | (simp only [hM];omega) | (simp only [nD,nA,nB,hM];omega) | (simp only [nG];omega) | (simp only [nD,nA,nB];omega)) rfl (wCN (sz:=1) (fo:=0) (fun _=>rfl) _ _ _ _ lJ (by first | omega | (simp only [nG];omega) | (simp only [nD,nA,nB];omega)) (zJ rfl) rfl) rfl ?_
      intro gK jM
      have jN:SW w [B0] U cc [.row J aa 3 1 (hD KL.encI (nE (nE ah ak.toNat (gd ah (w64 (ak + 1)).toNat)) (w64 (ak + 1)).toNat (gd ah ak.toNat)))] gK:=jM
      refine zY (zd (zI (rR fL3 Z (oM Z bG (oR Z (zQ Z Z Z) (oA Z Z (zY ?_)))))))
      have q:=hJ lZ
      obtain rfl:=q
      exact zI ⟨rfl,_,rfl,⟨cc,(nH (b:=(.slice J ((nE ah ak.toNat (gd ah (w64 (ak + 1)).toNat)).length) aa:Value)) (c:=(.slice J ((nE (nE ah ak.toNat (gd ah (w64 (ak + 1)).toNat)) (w64 (ak + 1)).toNat (gd ah ak.toNat)).length) aa:Value)) (nH (b:=(.slice J ah.length aa:Value)) (c:=(.slice J ((nE ah ak.toNat (gd ah (w64 (ak + 1)).toNat)).length) aa:Value)) bM (by simp only [hM])) (by simp only [hM])),fL,rfl,pJ,jN,((hM.trans hM).trans fR)⟩⟩
     ·have ga:=eH;rw [if_neg bq] at ga;replace bq:=zD bq
      refine cF Z bq (zr (zV ?_))
      have q:=wAe ga
      obtain ⟨pK,l0,ik⟩:=q
      have q:=lF pK ik
      obtain rfl:=q
      refine zV (zk (zI (zR (zc ?_))))
      have hE:=hJ l0;first | subst r | cases hE
      exact ⟨Z,_,(wCM),cc,_,f9,Z,Z,fR⟩
  ·have gb:=hm;rw [if_neg c2] at gb;replace c2:=zD c2
   refine cF Z c2 (kN (zH (sR fL4 Z (oM Z Z (oM Z Z (oR Z (zg Z Z Z) (oR Z (Zr Z Z Z) (eN (ifc gb ?_ ?_)))))))))
   ·intro dr l4
    refine cT Z dr (sR fL2 Z (oM Z Z (oA Z Z (eN (sR fL2 Z (oM Z Z (oA Z Z (eN (bnK l4 fun eK pz l5=>?_)))))))))
    let B1:Res:=.row J aa 3 1 (hD KL.encI p0)
    refine yH (fun σ_ w_=>∃ (U_:PHeap),σ_ 0=.slice J p0.length aa/\σ_ 2=jV p2/\σ_ 14=jV eK/\PHeap.Le U U_/\SW w [B1] U U_ [B1] w_) ?_ ?_
    ·refine zP (Zm (fun (c8,dd) σ_ w_=>∃ (U_:PHeap),σ_ 0=.slice J p0.length aa/\σ_ 2=jV p2/\σ_ 4=ai/\σ_ 14=jV c8/\σ_ 15=jV dd/\PHeap.Le U U_/\SW w [B1] U U_ [B1] w_) pz ?_ ?_)
     ·exact ⟨U,Z,Z,Z,Z,Z,(zS _),hS⟩
     ·rintro ⟨c8,dd⟩ rx rD fd ⟨gF,bH,cj,dQ,cm,dR,cS,fS⟩ eC lA
      try dsimp only at eC
      refine zH (sR fL3 Z (oM Z cm (oM Z dR (oR Z (zK Z Z Z) (eN ?_)))))
      by_cases bi:c8 < dd
      ·have gc:=eC;rw [if_pos bi] at gc;replace bi:=zD bi
       refine cT Z bi (kN (zP (sR fL7 rfl (zC rfl rfl rfl rfl rfl cm (zC rfl rfl rfl rfl rfl dR (zT rfl rfl rfl rfl (fun _=>zQ rfl rfl rfl) (zT rfl rfl rfl rfl (fun _=>yb rfl rfl zu zz rfl rfl) (zT rfl rfl rfl rfl (fun _=>yc rfl rfl rfl) (zT rfl rfl rfl rfl (fun _=>yU rfl rfl zz zu rfl rfl) (Zz rfl rfl rfl rfl rfl rfl (eN (zH (zx zp [3,3,3,3,1,3,3,3,1,2,3,3] (wKc (.fx 9 (.fl 10 (.fl 11 .nil)) .stop)) (by kernel_rfl) ?_)))))))))))))
       have bP:=fS.drew
       generalize hw_W157:({ fd with drawn:=fd.drawn + 1 }:World)=qt at bP ⊢
       refine oM Z dQ (oM Z bH (oM Z cj (bnK gc fun _ cC l6=>?_)))
       obtain ⟨qE,cO⟩:=bP.rowSome (j:=0) rfl (by rw [wAG (f:=KL.encI) (sz:=1) (fun _=>rfl) p0];have hz:=wAK cC;omega)
       refine oR Z (zm Z Z cO Z zN zB (wAh cC) (wAi cC)) ?_
       have lK:=wAv (xs:=p0) (wAK cC)
       refine zn rfl rfl rfl rfl (bP.ldR (j:=0) rfl cO rfl rfl zM (wAT (sz:=1) (fun _=>rfl) _ _ 0 _ lK (by first | omega | rfl | simp) rfl)) rfl (zC rfl rfl rfl rfl rfl bH (zC rfl rfl rfl rfl rfl rfl (bnK l6 fun _ ej l9=>zT rfl rfl rfl rfl (fun _=>zm rfl rfl cO rfl zN zB (wAh ej) (wAi ej)) ?_)))
       have lL:=wAv (xs:=p0) (wAK ej)
       refine zn rfl rfl rfl rfl (bP.ldR (j:=0) rfl cO rfl rfl zM (wAT (sz:=1) (fun _=>rfl) _ _ 0 _ lL (by first | omega | rfl | simp) rfl)) rfl (bnK l9 fun rq iE ma=>?_)
       have iF:=aC.le cS
       refine Zk (a:=((gd p0 p2.toNat),(gd p0 (w64 ((wAP (w64 (c8 + dd))) / 2)).toNat))) Z Z Z Z Z Z (zA Z (zA Z zL)) bP iF Z iE ?_
       rintro dh p7 qX gL gB jO ⟨rfl,rfl⟩
       have fT:SW w [B1] U dh [B1] gL:=jO
       refine oR Z (zK Z Z Z) (oR Z (Runs.notP Z Z) (eN (ifc ma ?_ ?_)))
       ·intro dt mb
        refine ze (zt (fun h=>h dt.out)) (rR fL2 Z (oM Z Z (oA Z Z (zY (zd ?_)))))
        have q:=hJ mb
        obtain rfl:=q
        exact zI ⟨Z,_,Z,⟨dh,bH,cj,dQ,cm,Z,(cS.trans gB),fT⟩⟩
       ·intro dt mc
        refine cT Z dt (rR fL3 Z (oM Z Z (oR Z (zQ Z Z Z) (oA Z Z (zY (zd ?_))))))
        have q:=hJ mc
        obtain rfl:=q
        exact zI ⟨Z,_,Z,⟨dh,bH,cj,dQ,Z,dR,(cS.trans gB),fT⟩⟩
      ·have ge:=eC;rw [if_neg bi] at ge;replace bi:=zD bi
       refine cF Z bi (zr (zV ?_))
       have q:=wAe ge
       obtain ⟨pL,md,il⟩:=q
       have q:=lA pL il
       obtain rfl:=q
       refine zV (zk ?_)
       cases md
       exact zI ⟨Z,⟨gF,bH,cj,cm,cS,fS⟩⟩
    ·rintro rF qu ⟨eR,ir,it,iu,qJ,jP⟩
     refine zH (sR fL2 Z (oM Z it (oA Z Z (eN (zP (Zm (fun (ag,aj) σ_ w_=>∃ (U_:PHeap),σ_ 0=.slice J ag.length aa/\σ_ 14=jV eK/\σ_ 17=jV aj/\PHeap.Le eR U_/\SW w [B1] U U_ [.row J aa 3 1 (hD KL.encI ag)] w_/\ag.length=p0.length) l5 ?_ ?_))))))
     ·exact ⟨eR,ir,iu,Z,(zS _),jP,Z⟩
     ·rintro ⟨ag,aj⟩ rz rG fg ⟨bZ,bI,fw,bF,pE,fU,fM⟩ eE lC
      try dsimp only at eE
      refine zH (sR fL3 Z (oM Z bF (oM Z fw (oR Z (Zy Z Z Z) (eN ?_)))))
      by_cases bk:eK < aj
      ·have gf:=eE;rw [if_pos bk] at gf;replace bk:=zD bk
       refine cT Z bk (kN (zH (zP (zx zp [3,3,3,3,3,3,3,3,3,1,3,3,3,1,3,0,3,0] (wGl gBp) (by kernel_rfl) ?_))))
       have bQ:=fU.drew
       generalize hw_W222:({ fg with drawn:=fg.drawn + 1 }:World)=qv at bQ ⊢
       refine oM Z bI (oM Z bF (oM Z bI (oM Z bF (oR Z (zg Z Z Z) (oM Z bI (oM Z bF (oR Z (zg Z Z Z) (bnK gf fun _ cD me=>?_))))))))
       obtain ⟨qF,bu⟩:=bQ.rowSome (j:=0) rfl (by rw [wAG (f:=KL.encI) (sz:=1) (fun _=>rfl) ag];have hz:=wAK cD;omega)
       refine oR Z (zm Z Z bu Z zN zB (wAh cD) (wAi cD)) ?_
       have lM:=wAv (xs:=ag) (wAK cD)
       refine zn rfl rfl rfl rfl (bQ.ldR (j:=0) rfl bu rfl rfl zM (wAT (sz:=1) (fun _=>rfl) _ _ 0 _ lM (by first | omega | rfl | simp) rfl)) rfl (zC rfl rfl rfl rfl rfl bI (zC rfl rfl rfl rfl rfl bF (bnK me fun _ bC mf=>zT rfl rfl rfl rfl (fun _=>zm rfl rfl bu rfl zN zB (wAh bC) (wAi bC)) ?_)))
       have lN:=wAv (xs:=ag) (wAK bC)
       refine zn rfl rfl rfl rfl (bQ.ldR (j:=0) rfl bu rfl rfl zM (wAT (sz:=1) (fun _=>rfl) _ _ 0 _ lN (by first | omega | rfl | simp) rfl)) rfl (zT rfl rfl rfl rfl (fun _=>zm rfl rfl bu rfl zN zB (wAh bC) (wAi bC)) ?_)
       have lO:=wAv (xs:=ag) (wAK bC)
       refine yJ (j:=0) (vs:=[jV (gd ag (w64 (aj - 1)).toNat)]) (cs':=hD KL.encI (nE ag aj.toNat (gd ag (w64 (aj - 1)).toNat))) rfl rfl rfl rfl bQ rfl bu rfl rfl rfl zB (by rw [wAG (f:=KL.encI) (sz:=1) (fun _=>rfl)];have hz:=wAK bC;show _ + 1 <= _;first | omega | (simp only [nG];omega) | (simp only [nD,nA,nB];omega)) rfl (wCN (sz:=1) (fo:=0) (fun _=>rfl) _ _ _ _ lO (by first | omega | (simp only [nG];omega) | (simp only [nD,nA,nB];omega)) (zJ rfl) rfl) rfl ?_
       intro gM jQ
       have jR:SW w [B1] U bZ [.row J aa 3 1 (hD KL.encI (nE ag aj.toNat (gd ag (w64 (aj - 1)).toNat)))] gM:=jQ
       refine bnK mf fun _ bO mg=>zT rfl rfl rfl rfl (fun _=>zm rfl (nH (b:=(.slice J ag.length aa:Value)) (c:=(.slice J ((nE ag aj.toNat (gd ag (w64 (aj - 1)).toNat)).length) aa:Value)) rfl (by simp only [hM])) bu rfl zN zB (wAh bO) (wAi bO)) ?_
       have lP:=wAv (xs:=(nE ag aj.toNat (gd ag (w64 (aj - 1)).toNat))) (by first | exact wAK bO | (have hz:=wAK bO;simpa only [hM] using hz))
       refine yJ (j:=0) (vs:=[jV (gd ag aj.toNat)]) (cs':=hD KL.encI (nE (nE ag aj.toNat (gd ag (w64 (aj - 1)).toNat)) (w64 (aj - 1)).toNat (gd ag aj.toNat))) rfl rfl rfl rfl jR rfl bu rfl rfl rfl zB (by rw [wAG (f:=KL.encI) (sz:=1) (fun _=>rfl)];have hz:=wAK bO;show _ + 1 <= _;first | omega | (simp only [hM];omega) | (simp only [nD,nA,nB,hM];omega) | (simp only [nG];omega) | (simp only [nD,nA,nB];omega)) rfl (wCN (sz:=1) (fo:=0) (fun _=>rfl) _ _ _ _ lP (by first | omega | (simp only [nG];omega) | (simp only [nD,nA,nB];omega)) (zJ rfl) rfl) rfl ?_
       intro gN jS
       have jT:SW w [B1] U bZ [.row J aa 3 1 (hD KL.encI (nE (nE ag aj.toNat (gd ag (w64 (aj - 1)).toNat)) (w64 (aj - 1)).toNat (gd ag aj.toNat)))] gN:=jS
       refine zY (zd (zI (rR fL3 Z (oM Z bF (oR Z (zg Z Z Z) (oA Z Z (zY ?_)))))))
       have q:=hJ mg
       obtain rfl:=q
       exact zI ⟨rfl,_,rfl,⟨bZ,(nH (b:=(.slice J ((nE ag aj.toNat (gd ag (w64 (aj - 1)).toNat)).length) aa:Value)) (c:=(.slice J ((nE (nE ag aj.toNat (gd ag (w64 (aj - 1)).toNat)) (w64 (aj - 1)).toNat (gd ag aj.toNat)).length) aa:Value)) (nH (b:=(.slice J ag.length aa:Value)) (c:=(.slice J ((nE ag aj.toNat (gd ag (w64 (aj - 1)).toNat)).length) aa:Value)) bI (by simp only [hM])) (by simp only [hM])),fw,rfl,pE,jT,((hM.trans hM).trans fM)⟩⟩
      ·have gg:=eE;rw [if_neg bk] at gg;replace bk:=zD bk
       refine cF Z bk (zr (zV ?_))
       have q:=wAe gg
       obtain ⟨pM,mh,im⟩:=q
       have q:=lC pM im
       obtain rfl:=q
       refine zV (zk (zI (zR (zc ?_))))
       have hE:=hJ mh;first | subst r | cases hE
       exact ⟨Z,_,(wCM),bZ,_,fU,Z,Z,fM⟩
   ·intro dr mi
    refine cF Z dr (kN (sR fL7 Z (oM Z Z (oM Z Z (oR Z (zQ Z Z Z) (oR Z (yb Z Z zu zz Z Z) (oR Z (yc Z Z Z) (oR Z (yU Z Z zz zu Z Z) (oA Z Z (eN (sR fL4 Z (oM Z Z (oM Z Z (oR Z (zQ Z Z Z) (oA Z Z (eN (sR fL2 Z (oA Z Z (oA Z Z (eN (zH (sR fL3 Z (oM Z Z (oM Z Z (oR Z (Zy Z Z Z) (eN (ifc mi ?_ ?_)))))))))))))))))))))))))))
    ·intro du mj
     refine cT Z du (sR fL4 Z (oM Z Z (oM Z Z (oR Z (zg Z Z Z) (oA Z Z (eN (rR fL2 Z (oM Z Z (oA Z Z (eN (sR fL3 Z (oM Z Z (oR Z (zg Z Z Z) (oA Z Z (eN (bnK mj fun ay pB mm=>?_))))))))))))))))
     let B2:Res:=.row J aa 3 1 (hD KL.encI p0)
     refine yH (fun σ_ w_=>∃ (U_:PHeap),σ_ 0=.slice J p0.length aa/\σ_ 1=jV p1/\σ_ 2=jV p2/\σ_ 3=jV p3/\σ_ 4=ai/\σ_ 18=jV (w64 ((wAP (w64 (p1 + p3))) / 2))/\σ_ 19=jV (w64 ((w64 ((wAP (w64 (p1 + p3))) / 2)) + p2))/\σ_ 20=jV ay/\PHeap.Le U U_/\SW w [B2] U U_ [B2] w_) ?_ ?_
     ·refine zP (Zm (fun (bV,bW) σ_ w_=>∃ (U_:PHeap),σ_ 0=.slice J p0.length aa/\σ_ 1=jV p1/\σ_ 2=jV p2/\σ_ 3=jV p3/\σ_ 4=ai/\σ_ 18=jV (w64 ((wAP (w64 (p1 + p3))) / 2))/\σ_ 19=jV (w64 ((w64 ((wAP (w64 (p1 + p3))) / 2)) + p2))/\σ_ 20=jV bV/\σ_ 21=jV bW/\σ_ 22=jV (w64 ((w64 ((w64 ((wAP (w64 (p1 + p3))) / 2)) + p2)) - 1))/\PHeap.Le U U_/\SW w [B2] U U_ [B2] w_) pB ?_ ?_)
      ·exact ⟨U,Z,Z,Z,Z,Z,Z,Z,Z,Z,Z,(zS _),hS⟩
      ·rintro ⟨bV,bW⟩ rA rH fh ⟨gH,bK,dS,dT,dU,co,dV,dW,cp,dY,dZ,cV,fW⟩ eF lD
       try dsimp only at eF
       refine zH (sR fL3 Z (oM Z cp (oM Z dY (oR Z (zK Z Z Z) (eN ?_)))))
       by_cases bm:bV < bW
       ·have gh:=eF;rw [if_pos bm] at gh;replace bm:=zD bm
        refine cT Z bm (kN (zP (sR fL7 rfl (zC rfl rfl rfl rfl rfl cp (zC rfl rfl rfl rfl rfl dY (zT rfl rfl rfl rfl (fun _=>zQ rfl rfl rfl) (zT rfl rfl rfl rfl (fun _=>yb rfl rfl zu zz rfl rfl) (zT rfl rfl rfl rfl (fun _=>yc rfl rfl rfl) (zT rfl rfl rfl rfl (fun _=>yU rfl rfl zz zu rfl rfl) (Zz rfl rfl rfl rfl rfl rfl (eN (zH (zx zp [3,3,3,3,3,3,1,3,3,3,1,2,3,3] (wGk gBq) (by kernel_rfl) ?_)))))))))))))
        have bR:=fW.drew
        generalize hw_W285:({ fh with drawn:=fh.drawn + 1 }:World)=qw at bR ⊢
        refine oM Z co (oM Z bK (oM Z dZ (oM Z Z (oR Z (zg Z Z Z) (bnK gh fun _ cE mn=>?_)))))
        obtain ⟨qG,cP⟩:=bR.rowSome (j:=0) rfl (by rw [wAG (f:=KL.encI) (sz:=1) (fun _=>rfl) p0];have hz:=wAK cE;omega)
        refine oR Z (zm Z Z cP Z zN zB (wAh cE) (wAi cE)) ?_
        have lQ:=wAv (xs:=p0) (wAK cE)
        refine zn rfl rfl rfl rfl (bR.ldR (j:=0) rfl cP rfl rfl zM (wAT (sz:=1) (fun _=>rfl) _ _ 0 _ lQ (by first | omega | rfl | simp) rfl)) rfl (zC rfl rfl rfl rfl rfl bK (zC rfl rfl rfl rfl rfl rfl (bnK mn fun _ ek mo=>zT rfl rfl rfl rfl (fun _=>zm rfl rfl cP rfl zN zB (wAh ek) (wAi ek)) ?_)))
        have lR:=wAv (xs:=p0) (wAK ek)
        refine zn rfl rfl rfl rfl (bR.ldR (j:=0) rfl cP rfl rfl zM (wAT (sz:=1) (fun _=>rfl) _ _ 0 _ lR (by first | omega | rfl | simp) rfl)) rfl (bnK mo fun rt iG mp=>?_)
        have iH:=aC.le cV
        refine Zk (a:=((gd p0 (w64 ((w64 ((w64 ((w64 ((wAP (w64 (p1 + p3))) / 2)) + p2)) - 1)) - (w64 ((wAP (w64 (bV + bW))) / 2)))).toNat),(gd p0 (w64 ((wAP (w64 (bV + bW))) / 2)).toNat))) Z Z Z Z Z Z (zA Z (zA Z zL)) bR iH Z iG ?_
        rintro di p8 qY gO gC jU ⟨rfl,rfl⟩
        have fY:SW w [B2] U di [B2] gO:=jU
        refine oR Z (zK Z Z Z) (oR Z (Runs.notP Z Z) (eN (ifc mp ?_ ?_)))
        ·intro dv mr
         refine ze (zt (fun h=>h dv.out)) (rR fL2 Z (oM Z Z (oA Z Z (zY (zd ?_)))))
         have q:=hJ mr
         obtain rfl:=q
         exact zI ⟨Z,_,Z,⟨di,bK,dS,dT,dU,co,dV,dW,cp,Z,dZ,(cV.trans gC),fY⟩⟩
        ·intro dv ms
         refine cT Z dv (rR fL3 Z (oM Z Z (oR Z (zQ Z Z Z) (oA Z Z (zY (zd ?_))))))
         have q:=hJ ms
         obtain rfl:=q
         exact zI ⟨Z,_,Z,⟨di,bK,dS,dT,dU,co,dV,dW,Z,dY,dZ,(cV.trans gC),fY⟩⟩
       ·have gj:=eF;rw [if_neg bm] at gj;replace bm:=zD bm
        refine cF Z bm (zr (zV ?_))
        have q:=wAe gj
        obtain ⟨pN,mu,io⟩:=q
        have q:=lD pN io
        obtain rfl:=q
        refine zV (zk ?_)
        cases mu
        exact zI ⟨Z,⟨gH,bK,dS,dT,dU,co,dV,dW,cp,cV,fW⟩⟩
     ·rintro rI qx ⟨dm,fy,fz,cr,fA,fB,fC,iv,ct,cW,fZ⟩
      refine sR fL4 Z (oM Z iv (oM Z ct (oR Z (zg Z Z Z) (oA Z Z (eN (zH (bnK mm fun ii gz mw=>yH (fun σ_ w_=>∃ (U_:PHeap),σ_ 0=.slice J p0.length aa/\σ_ 1=jV p1/\σ_ 2=jV p2/\σ_ 3=jV p3/\σ_ 4=ai/\σ_ 18=jV (w64 ((wAP (w64 (p1 + p3))) / 2))/\σ_ 20=jV ay/\σ_ 24=jV (w64 ((w64 ((w64 ((wAP (w64 (p1 + p3))) / 2)) + p2)) - ay))/\σ_ 185=.bool ii/\PHeap.Le dm U_/\SW w [B2] U U_ [B2] w_) ?_ ?_)))))))
      ·refine rR fL8 Z (oM Z ct (oM Z cr (oR Z (zK Z Z Z) (oM Z Z ?_))))
       by_cases aw:ay < p2
       ·have gl:=gz;rw [if_pos aw] at gl;replace aw:=zD aw
        refine zC Z Z Z (wT Z aw) Z cr (zC Z Z Z (wT Z aw) Z Z (rU Z (wT Z aw) (zK Z Z Z) (oR Z (zb Z (ZJ aw.out) Z) (zY ?_))))
        have q:=hJ gl
        obtain rfl:=q
        exact zI ⟨Z,⟨dm,fy,fz,cr,fA,fB,fC,ct,Z,Z,(zS _),fZ⟩⟩
       ·have gm:=gz;rw [if_neg aw] at gm;replace aw:=zD aw
        refine oF Z aw (oF Z aw (oF Z aw (oR Z (zX Z (zt aw.out) Z) (zY ?_))))
        cases gm
        exact zI ⟨Z,⟨dm,fy,fz,cr,fA,fB,fC,ct,Z,Z,(zS _),fZ⟩⟩
      ·rintro rJ cd ⟨bc,aY,cu,iw,aD,aZ,au,bz,an,fD,cX,bw⟩
       refine ifc mw ?_ ?_
       ·intro dw my
        refine ZB (fD.trans (congrArg nI dw.out)) (rR (wCA (.fx 5 .nil .stop)) Z (oM Z aY (oM Z bz (oM Z iw (oM Z an (oM Z aZ ?_))))))
        have iI:=aC.le cW
        have cH:=iI.le cX
        refine bnK my fun ba iJ mz=>zG 1 Z Z Z Z (zF Z Z Tryz.call220 (zA Z (zA Z (zA Z (zA Z (zA Z zL))))) Z) bw (fun hs=>wDF p0 J aa ay p2 (w64 ((w64 ((w64 ((wAP (w64 (p1 + p3))) / 2)) + p2)) - ay)) p4 ai cd bc hs cH iJ) (.inl Z) ?_
        rintro be p9 qZ cg eI jW ⟨rfl,rfl,aA⟩
        have bD:SW w [B2] U be [.row J aa 3 1 (hD KL.encI ba)] cg:=jW
        refine eN (zH (sR fL8 Z (oM Z cu (oM Z bz (oR Z (zK Z Z Z) (oM Z Z (ifc mz ?_ ?_)))))))
        ·intro aI mB
         refine zC Z Z Z (wT Z aI) Z bz (zC Z Z Z (wT Z aI) Z au (rU Z (wT Z aI) (zK Z Z Z) (oR Z (zb Z (ZJ aI.out) Z) (eN (ifc mB ?_ ?_)))))
         ·intro dx mC
          refine cT Z dx (rR (wCA (.fx 5 .nil .stop)) rfl (zC rfl rfl rfl rfl rfl (nH (b:=(.slice J p0.length aa:Value)) (c:=(.slice J ba.length aa:Value)) aY (by rw [aA])) (zC rfl rfl rfl rfl rfl cu (zC rfl rfl rfl rfl rfl bz (zC rfl rfl rfl rfl rfl au (zC rfl rfl rfl rfl rfl aZ ?_))))))
          have fN:=cH.le eI
          refine bnK mC fun eL iK mD=>zG 1 Z Z Z Z (zF Z Z Zd (zA Z (zA Z (zA Z (zA Z (zA Z zL))))) Z) bD (fun hs=>ih ba J aa p1 ay (w64 ((wAP (w64 (p1 + p3))) / 2)) p4 ai cg be hs fN iK) (.inl Z) ?_
          rintro b4 qa q4 fj pF jX ⟨rfl,rfl,cI⟩
          have eu:SW w [B2] U b4 [.row J aa 3 1 (hD KL.encI eL)] fj:=jX
          refine eN (sR fL8 Z (oM Z au (oM Z an (oR Z (zK Z Z Z) (oM Z Z (ifc mD ?_ ?_))))))
          ·intro aJ mE
           refine zC Z Z Z (wT Z aJ) Z an (zC Z Z Z (wT Z aJ) Z aD (rU Z (wT Z aJ) (zK Z Z Z) (oR Z (zb Z (ZJ aJ.out) Z) (eN (ifc mE ?_ ?_)))))
           ·intro dy mF
            refine cT Z dy (rR (wCA (.fx 5 .nil .stop)) rfl (zC rfl rfl rfl rfl rfl (nH (b:=(.slice J ba.length aa:Value)) (c:=(.slice J eL.length aa:Value)) (nH (b:=(.slice J p0.length aa:Value)) (c:=(.slice J ba.length aa:Value)) aY (by rw [aA])) (by rw [cI])) (zC rfl rfl rfl rfl rfl au (zC rfl rfl rfl rfl rfl an (zC rfl rfl rfl rfl rfl aD (zC rfl rfl rfl rfl rfl aZ ?_))))))
            have iL:=fN.le pF
            refine bnK mF fun pQ iM mG=>zG 1 Z Z Z Z (zF Z Z Zd (zA Z (zA Z (zA Z (zA Z (zA Z zL))))) Z) eu (fun hs=>ih eL J aa (w64 ((wAP (w64 (p1 + p3))) / 2)) (w64 ((w64 ((w64 ((wAP (w64 (p1 + p3))) / 2)) + p2)) - ay)) p3 p4 ai fj b4 hs iL iM) (.inl Z) ?_
            rintro eS qb q5 gP qK jY ⟨rfl,rfl,iN⟩
            have jZ:SW w [B2] U eS [.row J aa 3 1 (hD KL.encI pQ)] gP:=jY
            refine zY ?_
            have hE:=hJ mG;first | subst r | cases hE
            exact ⟨Z,_,(wCM),eS,_,jZ,Z,Z,((iN.trans cI).trans aA)⟩
           ·intro dy mH
            refine cF Z dy (zo ?_)
            have hE:=hJ mH;first | subst r | cases hE
            exact ⟨Z,_,(wCM),b4,_,eu,Z,Z,(cI.trans aA)⟩
          ·intro aJ mI
           refine oF Z aJ (oF Z aJ (oF Z aJ (oR Z (zX Z (zt aJ.out) Z) (eN (ze Z (zo ?_))))))
           have hE:=hJ mI;first | subst r | cases hE
           exact ⟨Z,_,(wCM),b4,_,eu,Z,Z,(cI.trans aA)⟩
         ·intro dx mJ
          refine cF Z dx (kN (sR fL8 Z (oM Z au (oM Z an (oR Z (zK Z Z Z) (oM Z Z (ifc mJ ?_ ?_)))))))
          ·intro aK mK
           refine zC Z Z Z (wT Z aK) Z an (zC Z Z Z (wT Z aK) Z aD (rU Z (wT Z aK) (zK Z Z Z) (oR Z (zb Z (ZJ aK.out) Z) (eN (ifc mK ?_ ?_)))))
           ·intro dz mL
            refine cT Z dz (rR (wCA (.fx 5 .nil .stop)) rfl (zC rfl rfl rfl rfl rfl (nH (b:=(.slice J p0.length aa:Value)) (c:=(.slice J ba.length aa:Value)) aY (by rw [aA])) (zC rfl rfl rfl rfl rfl au (zC rfl rfl rfl rfl rfl an (zC rfl rfl rfl rfl rfl aD (zC rfl rfl rfl rfl rfl aZ ?_))))))
            have iO:=cH.le eI
            refine bnK mL fun pR iP mN=>zG 1 Z Z Z Z (zF Z Z Zd (zA Z (zA Z (zA Z (zA Z (zA Z zL))))) Z) bD (fun hs=>ih ba J aa (w64 ((wAP (w64 (p1 + p3))) / 2)) (w64 ((w64 ((w64 ((wAP (w64 (p1 + p3))) / 2)) + p2)) - ay)) p3 p4 ai cg be hs iO iP) (.inl Z) ?_
            rintro eT qc q6 gR qL j0 ⟨rfl,rfl,iQ⟩
            have j3:SW w [B2] U eT [.row J aa 3 1 (hD KL.encI pR)] gR:=j0
            refine zY ?_
            have hE:=hJ mN;first | subst r | cases hE
            exact ⟨Z,_,(wCM),eT,_,j3,Z,Z,(iQ.trans aA)⟩
           ·intro dz mO
            refine cF Z dz (zo ?_)
            have hE:=hJ mO;first | subst r | cases hE
            exact ⟨Z,_,(wCM),be,_,bD,Z,Z,aA⟩
          ·intro aK mP
           refine oF Z aK (oF Z aK (oF Z aK (oR Z (zX Z (zt aK.out) Z) (eN (ze Z (zo ?_))))))
           have hE:=hJ mP;first | subst r | cases hE
           exact ⟨Z,_,(wCM),be,_,bD,Z,Z,aA⟩
        ·intro aI mQ
         refine oF Z aI (oF Z aI (oF Z aI (oR Z (zX Z (zt aI.out) Z) (eN (ze Z (kN (sR fL8 Z (oM Z au (oM Z an (oR Z (zK Z Z Z) (oM Z Z (ifc mQ ?_ ?_))))))))))))
         ·intro aL mR
          refine zC Z Z Z (wT Z aL) Z an (zC Z Z Z (wT Z aL) Z aD (rU Z (wT Z aL) (zK Z Z Z) (oR Z (zb Z (ZJ aL.out) Z) (eN (ifc mR ?_ ?_)))))
          ·intro dA mS
           refine cT Z dA (rR (wCA (.fx 5 .nil .stop)) rfl (zC rfl rfl rfl rfl rfl (nH (b:=(.slice J p0.length aa:Value)) (c:=(.slice J ba.length aa:Value)) aY (by rw [aA])) (zC rfl rfl rfl rfl rfl au (zC rfl rfl rfl rfl rfl an (zC rfl rfl rfl rfl rfl aD (zC rfl rfl rfl rfl rfl aZ ?_))))))
           have iR:=cH.le eI
           refine bnK mS fun pS iS mT=>zG 1 Z Z Z Z (zF Z Z Zd (zA Z (zA Z (zA Z (zA Z (zA Z zL))))) Z) bD (fun hs=>ih ba J aa (w64 ((wAP (w64 (p1 + p3))) / 2)) (w64 ((w64 ((w64 ((wAP (w64 (p1 + p3))) / 2)) + p2)) - ay)) p3 p4 ai cg be hs iR iS) (.inl Z) ?_
           rintro eU qd q7 gS qM j4 ⟨rfl,rfl,iT⟩
           have j5:SW w [B2] U eU [.row J aa 3 1 (hD KL.encI pS)] gS:=j4
           refine zY ?_
           have hE:=hJ mT;first | subst r | cases hE
           exact ⟨Z,_,(wCM),eU,_,j5,Z,Z,(iT.trans aA)⟩
          ·intro dA mU
           refine cF Z dA (zo ?_)
           have hE:=hJ mU;first | subst r | cases hE
           exact ⟨Z,_,(wCM),be,_,bD,Z,Z,aA⟩
         ·intro aL mV
          refine oF Z aL (oF Z aL (oF Z aL (oR Z (zX Z (zt aL.out) Z) (eN (ze Z (zo ?_))))))
          have hE:=hJ mV;first | subst r | cases hE
          exact ⟨Z,_,(wCM),be,_,bD,Z,Z,aA⟩
       ·intro dw mW
        refine ze (fD.trans (congrArg nI (nJ.2 dw.out))) (kN (zH (sR fL8 Z (oM Z cu (oM Z bz (oR Z (zK Z Z Z) (oM Z Z (ifc mW ?_ ?_))))))))
        ·intro aM mX
         refine zC Z Z Z (wT Z aM) Z bz (zC Z Z Z (wT Z aM) Z au (rU Z (wT Z aM) (zK Z Z Z) (oR Z (zb Z (ZJ aM.out) Z) (eN (ifc mX ?_ ?_)))))
         ·intro dB mY
          refine cT Z dB (rR (wCA (.fx 5 .nil .stop)) Z (oM Z aY (oM Z cu (oM Z bz (oM Z au (oM Z aZ ?_))))))
          have iV:=aC.le cW
          have fO:=iV.le cX
          refine bnK mY fun eO iW mZ=>zG 1 Z Z Z Z (zF Z Z Zd (zA Z (zA Z (zA Z (zA Z (zA Z zL))))) Z) bw (fun hs=>ih p0 J aa p1 ay (w64 ((wAP (w64 (p1 + p3))) / 2)) p4 ai cd bc hs fO iW) (.inl Z) ?_
          rintro b8 qe q8 fk pG j6 ⟨rfl,rfl,cJ⟩
          have ez:SW w [B2] U b8 [.row J aa 3 1 (hD KL.encI eO)] fk:=j6
          refine eN (sR fL8 Z (oM Z au (oM Z an (oR Z (zK Z Z Z) (oM Z Z (ifc mZ ?_ ?_))))))
          ·intro aN m2
           refine zC Z Z Z (wT Z aN) Z an (zC Z Z Z (wT Z aN) Z aD (rU Z (wT Z aN) (zK Z Z Z) (oR Z (zb Z (ZJ aN.out) Z) (eN (ifc m2 ?_ ?_)))))
           ·intro dC m3
            refine cT Z dC (rR (wCA (.fx 5 .nil .stop)) rfl (zC rfl rfl rfl rfl rfl (nH (b:=(.slice J p0.length aa:Value)) (c:=(.slice J eO.length aa:Value)) aY (by rw [cJ])) (zC rfl rfl rfl rfl rfl au (zC rfl rfl rfl rfl rfl an (zC rfl rfl rfl rfl rfl aD (zC rfl rfl rfl rfl rfl aZ ?_))))))
            have iX:=fO.le pG
            refine bnK m3 fun pT iY m4=>zG 1 Z Z Z Z (zF Z Z Zd (zA Z (zA Z (zA Z (zA Z (zA Z zL))))) Z) ez (fun hs=>ih eO J aa (w64 ((wAP (w64 (p1 + p3))) / 2)) (w64 ((w64 ((w64 ((wAP (w64 (p1 + p3))) / 2)) + p2)) - ay)) p3 p4 ai fk b8 hs iX iY) (.inl Z) ?_
            rintro eV qf q9 gT qN j7 ⟨rfl,rfl,iZ⟩
            have j8:SW w [B2] U eV [.row J aa 3 1 (hD KL.encI pT)] gT:=j7
            refine zY ?_
            have hE:=hJ m4;first | subst r | cases hE
            exact ⟨Z,_,(wCM),eV,_,j8,Z,Z,(iZ.trans cJ)⟩
           ·intro dC m5
            refine cF Z dC (zo ?_)
            have hE:=hJ m5;first | subst r | cases hE
            exact ⟨Z,_,(wCM),b8,_,ez,Z,Z,cJ⟩
          ·intro aN m6
           refine oF Z aN (oF Z aN (oF Z aN (oR Z (zX Z (zt aN.out) Z) (eN (ze Z (zo ?_))))))
           have hE:=hJ m6;first | subst r | cases hE
           exact ⟨Z,_,(wCM),b8,_,ez,Z,Z,cJ⟩
         ·intro dB m7
          refine cF Z dB (kN (sR fL8 Z (oM Z au (oM Z an (oR Z (zK Z Z Z) (oM Z Z (ifc m7 ?_ ?_)))))))
          ·intro aO m8
           refine zC Z Z Z (wT Z aO) Z an (zC Z Z Z (wT Z aO) Z aD (rU Z (wT Z aO) (zK Z Z Z) (oR Z (zb Z (ZJ aO.out) Z) (eN (ifc m8 ?_ ?_)))))
           ·intro dD m9
            refine cT Z dD (rR (wCA (.fx 5 .nil .stop)) Z (oM Z aY (oM Z au (oM Z an (oM Z aD (oM Z aZ ?_))))))
            have i8:=aC.le cW
            have i9:=i8.le cX
            refine bnK m9 fun pU ja n2=>zG 1 Z Z Z Z (zF Z Z Zd (zA Z (zA Z (zA Z (zA Z (zA Z zL))))) Z) bw (fun hs=>ih p0 J aa (w64 ((wAP (w64 (p1 + p3))) / 2)) (w64 ((w64 ((w64 ((wAP (w64 (p1 + p3))) / 2)) + p2)) - ay)) p3 p4 ai cd bc hs i9 ja) (.inl Z) ?_
            rintro eW qh rd gU qO j9 ⟨rfl,rfl,jb⟩
            have kx:SW w [B2] U eW [.row J aa 3 1 (hD KL.encI pU)] gU:=j9
            refine zY ?_
            have hE:=hJ n2;first | subst r | cases hE
            exact ⟨Z,_,(wCM),eW,_,kx,Z,Z,jb⟩
           ·intro dD n3
            refine cF Z dD (zo ?_)
            have hE:=hJ n3;first | subst r | cases hE
            exact ⟨Z,_,(wCM),bc,_,bw,Z,Z,Z⟩
          ·intro aO n4
           refine oF Z aO (oF Z aO (oF Z aO (oR Z (zX Z (zt aO.out) Z) (eN (ze Z (zo ?_))))))
           have hE:=hJ n4;first | subst r | cases hE
           exact ⟨Z,_,(wCM),bc,_,bw,Z,Z,Z⟩
        ·intro aM n5
         refine oF Z aM (oF Z aM (oF Z aM (oR Z (zX Z (zt aM.out) Z) (eN (ze Z (kN (sR fL8 Z (oM Z au (oM Z an (oR Z (zK Z Z Z) (oM Z Z (ifc n5 ?_ ?_))))))))))))
         ·intro aP n7
          refine zC Z Z Z (wT Z aP) Z an (zC Z Z Z (wT Z aP) Z aD (rU Z (wT Z aP) (zK Z Z Z) (oR Z (zb Z (ZJ aP.out) Z) (eN (ifc n7 ?_ ?_)))))
          ·intro dE n8
           refine cT Z dE (rR (wCA (.fx 5 .nil .stop)) Z (oM Z aY (oM Z au (oM Z an (oM Z aD (oM Z aZ ?_))))))
           have jc:=aC.le cW
           have jd:=jc.le cX
           refine bnK n8 fun pV je n9=>zG 1 Z Z Z Z (zF Z Z Zd (zA Z (zA Z (zA Z (zA Z (zA Z zL))))) Z) bw (fun hs=>ih p0 J aa (w64 ((wAP (w64 (p1 + p3))) / 2)) (w64 ((w64 ((w64 ((wAP (w64 (p1 + p3))) / 2)) + p2)) - ay)) p3 p4 ai cd bc hs jd je) (.inl Z) ?_
           rintro eX qi re gW qP kz ⟨rfl,rfl,jf⟩
           have k9:SW w [B2] U eX [.row J aa 3 1 (hD KL.encI pV)] gW:=kz
           refine zY ?_
           have hE:=hJ n9;first | subst r | cases hE
           exact ⟨Z,_,(wCM),eX,_,k9,Z,Z,jf⟩
          ·intro dE oa
           refine cF Z dE (zo ?_)
           have hE:=hJ oa;first | subst r | cases hE
           exact ⟨Z,_,(wCM),bc,_,bw,Z,Z,Z⟩
         ·intro aP oc
          refine oF Z aP (oF Z aP (oF Z aP (oR Z (zX Z (zt aP.out) Z) (eN (ze Z (zo ?_))))))
          have hE:=hJ oc;first | subst r | cases hE
          exact ⟨Z,_,(wCM),bc,_,bw,Z,Z,Z⟩
    ·intro du od
     refine cF Z du (sR fL2 Z (oM Z Z (oA Z Z (eN (rR fL2 Z (oM Z Z (oA Z Z (eN (sR fL3 Z (oM Z Z (oR Z (zg Z Z Z) (oA Z Z (eN (bnK od fun az pC oe=>?_))))))))))))))
     let B3:Res:=.row J aa 3 1 (hD KL.encI p0)
     refine yH (fun σ_ w_=>∃ (U_:PHeap),σ_ 0=.slice J p0.length aa/\σ_ 1=jV p1/\σ_ 2=jV p2/\σ_ 3=jV p3/\σ_ 4=ai/\σ_ 18=jV (w64 ((wAP (w64 (p1 + p3))) / 2))/\σ_ 19=jV (w64 ((w64 ((wAP (w64 (p1 + p3))) / 2)) + p2))/\σ_ 20=jV az/\PHeap.Le U U_/\SW w [B3] U U_ [B3] w_) ?_ ?_
     ·refine zP (Zm (fun (bX,bY) σ_ w_=>∃ (U_:PHeap),σ_ 0=.slice J p0.length aa/\σ_ 1=jV p1/\σ_ 2=jV p2/\σ_ 3=jV p3/\σ_ 4=ai/\σ_ 18=jV (w64 ((wAP (w64 (p1 + p3))) / 2))/\σ_ 19=jV (w64 ((w64 ((wAP (w64 (p1 + p3))) / 2)) + p2))/\σ_ 20=jV bX/\σ_ 21=jV bY/\σ_ 22=jV (w64 ((w64 ((w64 ((wAP (w64 (p1 + p3))) / 2)) + p2)) - 1))/\PHeap.Le U U_/\SW w [B3] U U_ [B3] w_) pC ?_ ?_)
      ·exact ⟨U,Z,Z,Z,Z,Z,Z,Z,Z,Z,Z,(zS _),hS⟩
      ·rintro ⟨bX,bY⟩ rB rK fm ⟨gI,bL,d8,d9,ec,cw,ed,ee,cx,eh,ei,cY,f5⟩ eG lE
       try dsimp only at eG
       refine zH (sR fL3 Z (oM Z cx (oM Z eh (oR Z (zK Z Z Z) (eN ?_)))))
       by_cases bp:bX < bY
       ·have gq:=eG;rw [if_pos bp] at gq;replace bp:=zD bp
        refine cT Z bp (kN (zP (sR fL7 rfl (zC rfl rfl rfl rfl rfl cx (zC rfl rfl rfl rfl rfl eh (zT rfl rfl rfl rfl (fun _=>zQ rfl rfl rfl) (zT rfl rfl rfl rfl (fun _=>yb rfl rfl zu zz rfl rfl) (zT rfl rfl rfl rfl (fun _=>yc rfl rfl rfl) (zT rfl rfl rfl rfl (fun _=>yU rfl rfl zz zu rfl rfl) (Zz rfl rfl rfl rfl rfl rfl (eN (zH (zx zp [3,3,3,3,3,3,1,3,3,3,1,2,3,3] (wGk gBq) (by kernel_rfl) ?_)))))))))))))
        have bT:=f5.drew
        generalize hw_W552:({ fm with drawn:=fm.drawn + 1 }:World)=qz at bT ⊢
        refine oM Z cw (oM Z bL (oM Z ei (oM Z Z (oR Z (zg Z Z Z) (bnK gq fun _ cK oh=>?_)))))
        obtain ⟨qI,cR⟩:=bT.rowSome (j:=0) rfl (by rw [wAG (f:=KL.encI) (sz:=1) (fun _=>rfl) p0];have hz:=wAK cK;omega)
        refine oR Z (zm Z Z cR Z zN zB (wAh cK) (wAi cK)) ?_
        have lU:=wAv (xs:=p0) (wAK cK)
        refine zn rfl rfl rfl rfl (bT.ldR (j:=0) rfl cR rfl rfl zM (wAT (sz:=1) (fun _=>rfl) _ _ 0 _ lU (by first | omega | rfl | simp) rfl)) rfl (zC rfl rfl rfl rfl rfl bL (zC rfl rfl rfl rfl rfl rfl (bnK oh fun _ eo oi=>zT rfl rfl rfl rfl (fun _=>zm rfl rfl cR rfl zN zB (wAh eo) (wAi eo)) ?_)))
        have lV:=wAv (xs:=p0) (wAK eo)
        refine zn rfl rfl rfl rfl (bT.ldR (j:=0) rfl cR rfl rfl zM (wAT (sz:=1) (fun _=>rfl) _ _ 0 _ lV (by first | omega | rfl | simp) rfl)) rfl (bnK oi fun rv jh oj=>?_)
        have ji:=aC.le cY
        refine Zk (a:=((gd p0 (w64 ((w64 ((w64 ((w64 ((wAP (w64 (p1 + p3))) / 2)) + p2)) - 1)) - (w64 ((wAP (w64 (bX + bY))) / 2)))).toNat),(gd p0 (w64 ((wAP (w64 (bX + bY))) / 2)).toNat))) Z Z Z Z Z Z (zA Z (zA Z zL)) bT ji Z jh ?_
        rintro dp qj rf gX gE lb ⟨rfl,rfl⟩
        have f7:SW w [B3] U dp [B3] gX:=lb
        refine oR Z (zK Z Z Z) (oR Z (Runs.notP Z Z) (eN (ifc oj ?_ ?_)))
        ·intro dG om
         refine ze (zt (fun h=>h dG.out)) (rR fL2 Z (oM Z Z (oA Z Z (zY (zd ?_)))))
         have q:=hJ om
         obtain rfl:=q
         exact zI ⟨Z,_,Z,⟨dp,bL,d8,d9,ec,cw,ed,ee,cx,Z,ei,(cY.trans gE),f7⟩⟩
        ·intro dG oo
         refine cT Z dG (rR fL3 Z (oM Z Z (oR Z (zQ Z Z Z) (oA Z Z (zY (zd ?_))))))
         have q:=hJ oo
         obtain rfl:=q
         exact zI ⟨Z,_,Z,⟨dp,bL,d8,d9,ec,cw,ed,ee,Z,eh,ei,(cY.trans gE),f7⟩⟩
       ·have gr:=eG;rw [if_neg bp] at gr;replace bp:=zD bp
        refine cF Z bp (zr (zV ?_))
        have q:=wAe gr
        obtain ⟨pO,ot,ip⟩:=q
        have q:=lE pO ip
        obtain rfl:=q
        refine zV (zk ?_)
        cases ot
        exact zI ⟨Z,⟨gI,bL,d8,d9,ec,cw,ed,ee,cx,cY,f5⟩⟩
     ·rintro rL qA ⟨dq,fE,fG,cy,fH,fI,fJ,iz,cz,cZ,f8⟩
      refine sR fL4 Z (oM Z iz (oM Z cz (oR Z (zg Z Z Z) (oA Z Z (eN (zH (bnK oe fun ij gA ou=>yH (fun σ_ w_=>∃ (U_:PHeap),σ_ 0=.slice J p0.length aa/\σ_ 1=jV p1/\σ_ 2=jV p2/\σ_ 3=jV p3/\σ_ 4=ai/\σ_ 18=jV (w64 ((wAP (w64 (p1 + p3))) / 2))/\σ_ 20=jV az/\σ_ 24=jV (w64 ((w64 ((w64 ((wAP (w64 (p1 + p3))) / 2)) + p2)) - az))/\σ_ 185=.bool ij/\PHeap.Le dq U_/\SW w [B3] U U_ [B3] w_) ?_ ?_)))))))
      ·refine rR fL8 Z (oM Z cz (oM Z cy (oR Z (zK Z Z Z) (oM Z Z ?_))))
       by_cases ax:az < p2
       ·have gt:=gA;rw [if_pos ax] at gt;replace ax:=zD ax
        refine zC Z Z Z (wT Z ax) Z cy (zC Z Z Z (wT Z ax) Z Z (rU Z (wT Z ax) (zK Z Z Z) (oR Z (zb Z (ZJ ax.out) Z) (zY ?_))))
        have q:=hJ gt
        obtain rfl:=q
        exact zI ⟨Z,⟨dq,fE,fG,cy,fH,fI,fJ,cz,Z,Z,(zS _),f8⟩⟩
       ·have gu:=gA;rw [if_neg ax] at gu;replace ax:=zD ax
        refine oF Z ax (oF Z ax (oF Z ax (oR Z (zX Z (zt ax.out) Z) (zY ?_))))
        cases gu
        exact zI ⟨Z,⟨dq,fE,fG,cy,fH,fI,fJ,cz,Z,Z,(zS _),f8⟩⟩
      ·rintro rM ch ⟨bg,a7,cA,iA,aF,a8,av,bA,ao,fK,c7,bx⟩
       refine ifc ou ?_ ?_
       ·intro dH ov
        refine ZB (fK.trans (congrArg nI dH.out)) (rR (wCA (.fx 5 .nil .stop)) Z (oM Z a7 (oM Z bA (oM Z iA (oM Z ao (oM Z a8 ?_))))))
        have jj:=aC.le cZ
        have cL:=jj.le c7
        refine bnK ov fun bb jk ox=>zG 1 Z Z Z Z (zF Z Z Tryz.call220 (zA Z (zA Z (zA Z (zA Z (zA Z zL))))) Z) bx (fun hs=>wDF p0 J aa az p2 (w64 ((w64 ((w64 ((wAP (w64 (p1 + p3))) / 2)) + p2)) - az)) p4 ai ch bg hs cL jk) (.inl Z) ?_
        rintro bh qk rg ci eJ lc ⟨rfl,rfl,aB⟩
        have bE:SW w [B3] U bh [.row J aa 3 1 (hD KL.encI bb)] ci:=lc
        refine eN (zH (sR fL8 Z (oM Z cA (oM Z bA (oR Z (zK Z Z Z) (oM Z Z (ifc ox ?_ ?_)))))))
        ·intro aQ oz
         refine zC Z Z Z (wT Z aQ) Z bA (zC Z Z Z (wT Z aQ) Z av (rU Z (wT Z aQ) (zK Z Z Z) (oR Z (zb Z (ZJ aQ.out) Z) (eN (ifc oz ?_ ?_)))))
         ·intro dI oB
          refine cT Z dI (rR (wCA (.fx 5 .nil .stop)) rfl (zC rfl rfl rfl rfl rfl (nH (b:=(.slice J p0.length aa:Value)) (c:=(.slice J bb.length aa:Value)) a7 (by rw [aB])) (zC rfl rfl rfl rfl rfl cA (zC rfl rfl rfl rfl rfl bA (zC rfl rfl rfl rfl rfl av (zC rfl rfl rfl rfl rfl a8 ?_))))))
          have fP:=cL.le eJ
          refine bnK oB fun eP jl oC=>zG 1 Z Z Z Z (zF Z Z Zd (zA Z (zA Z (zA Z (zA Z (zA Z zL))))) Z) bE (fun hs=>ih bb J aa p1 az (w64 ((wAP (w64 (p1 + p3))) / 2)) p4 ai ci bh hs fP jl) (.inl Z) ?_
          rintro b9 ql rh fq pH lf ⟨rfl,rfl,cM⟩
          have eA:SW w [B3] U b9 [.row J aa 3 1 (hD KL.encI eP)] fq:=lf
          refine eN (sR fL8 Z (oM Z av (oM Z ao (oR Z (zK Z Z Z) (oM Z Z (ifc oC ?_ ?_))))))
          ·intro aR oD
           refine zC Z Z Z (wT Z aR) Z ao (zC Z Z Z (wT Z aR) Z aF (rU Z (wT Z aR) (zK Z Z Z) (oR Z (zb Z (ZJ aR.out) Z) (eN (ifc oD ?_ ?_)))))
           ·intro dJ oE
            refine cT Z dJ (rR (wCA (.fx 5 .nil .stop)) rfl (zC rfl rfl rfl rfl rfl (nH (b:=(.slice J bb.length aa:Value)) (c:=(.slice J eP.length aa:Value)) (nH (b:=(.slice J p0.length aa:Value)) (c:=(.slice J bb.length aa:Value)) a7 (by rw [aB])) (by rw [cM])) (zC rfl rfl rfl rfl rfl av (zC rfl rfl rfl rfl rfl ao (zC rfl rfl rfl rfl rfl aF (zC rfl rfl rfl rfl rfl a8 ?_))))))
            have jm:=fP.le pH
            refine bnK oE fun pW jo oG=>zG 1 Z Z Z Z (zF Z Z Zd (zA Z (zA Z (zA Z (zA Z (zA Z zL))))) Z) eA (fun hs=>ih eP J aa (w64 ((wAP (w64 (p1 + p3))) / 2)) (w64 ((w64 ((w64 ((wAP (w64 (p1 + p3))) / 2)) + p2)) - az)) p3 p4 ai fq b9 hs jm jo) (.inl Z) ?_
            rintro eY qm ri gY qQ lg ⟨rfl,rfl,jp⟩
            have lh:SW w [B3] U eY [.row J aa 3 1 (hD KL.encI pW)] gY:=lg
            refine zY ?_
            have hE:=hJ oG;first | subst r | cases hE
            exact ⟨Z,_,(wCM),eY,_,lh,Z,Z,((jp.trans cM).trans aB)⟩
           ·intro dJ oH
            refine cF Z dJ (zo ?_)
            have hE:=hJ oH;first | subst r | cases hE
            exact ⟨Z,_,(wCM),b9,_,eA,Z,Z,(cM.trans aB)⟩
          ·intro aR oI
           refine oF Z aR (oF Z aR (oF Z aR (oR Z (zX Z (zt aR.out) Z) (eN (ze Z (zo ?_))))))
           have hE:=hJ oI;first | subst r | cases hE
           exact ⟨Z,_,(wCM),b9,_,eA,Z,Z,(cM.trans aB)⟩
         ·intro dI oJ
          refine cF Z dI (kN (sR fL8 Z (oM Z av (oM Z ao (oR Z (zK Z Z Z) (oM Z Z (ifc oJ ?_ ?_)))))))
          ·intro aS oK
           refine zC Z Z Z (wT Z aS) Z ao (zC Z Z Z (wT Z aS) Z aF (rU Z (wT Z aS) (zK Z Z Z) (oR Z (zb Z (ZJ aS.out) Z) (eN (ifc oK ?_ ?_)))))
           ·intro dK oO
            refine cT Z dK (rR (wCA (.fx 5 .nil .stop)) rfl (zC rfl rfl rfl rfl rfl (nH (b:=(.slice J p0.length aa:Value)) (c:=(.slice J bb.length aa:Value)) a7 (by rw [aB])) (zC rfl rfl rfl rfl rfl av (zC rfl rfl rfl rfl rfl ao (zC rfl rfl rfl rfl rfl aF (zC rfl rfl rfl rfl rfl a8 ?_))))))
            have jq:=cL.le eJ
            refine bnK oO fun pX jr oP=>zG 1 Z Z Z Z (zF Z Z Zd (zA Z (zA Z (zA Z (zA Z (zA Z zL))))) Z) bE (fun hs=>ih bb J aa (w64 ((wAP (w64 (p1 + p3))) / 2)) (w64 ((w64 ((w64 ((wAP (w64 (p1 + p3))) / 2)) + p2)) - az)) p3 p4 ai ci bh hs jq jr) (.inl Z) ?_
            rintro eZ qn rj gZ qR li ⟨rfl,rfl,jt⟩
            have lj:SW w [B3] U eZ [.row J aa 3 1 (hD KL.encI pX)] gZ:=li
            refine zY ?_
            have hE:=hJ oP;first | subst r | cases hE
            exact ⟨Z,_,(wCM),eZ,_,lj,Z,Z,(jt.trans aB)⟩
           ·intro dK oQ
            refine cF Z dK (zo ?_)
            have hE:=hJ oQ;first | subst r | cases hE
            exact ⟨Z,_,(wCM),bh,_,bE,Z,Z,aB⟩
          ·intro aS oS
           refine oF Z aS (oF Z aS (oF Z aS (oR Z (zX Z (zt aS.out) Z) (eN (ze Z (zo ?_))))))
           have hE:=hJ oS;first | subst r | cases hE
           exact ⟨Z,_,(wCM),bh,_,bE,Z,Z,aB⟩
        ·intro aQ oU
         refine oF Z aQ (oF Z aQ (oF Z aQ (oR Z (zX Z (zt aQ.out) Z) (eN (ze Z (kN (sR fL8 Z (oM Z av (oM Z ao (oR Z (zK Z Z Z) (oM Z Z (ifc oU ?_ ?_))))))))))))
         ·intro aT oV
          refine zC Z Z Z (wT Z aT) Z ao (zC Z Z Z (wT Z aT) Z aF (rU Z (wT Z aT) (zK Z Z Z) (oR Z (zb Z (ZJ aT.out) Z) (eN (ifc oV ?_ ?_)))))
          ·intro dL oW
           refine cT Z dL (rR (wCA (.fx 5 .nil .stop)) rfl (zC rfl rfl rfl rfl rfl (nH (b:=(.slice J p0.length aa:Value)) (c:=(.slice J bb.length aa:Value)) a7 (by rw [aB])) (zC rfl rfl rfl rfl rfl av (zC rfl rfl rfl rfl rfl ao (zC rfl rfl rfl rfl rfl aF (zC rfl rfl rfl rfl rfl a8 ?_))))))
           have ju:=cL.le eJ
           refine bnK oW fun pY jv oZ=>zG 1 Z Z Z Z (zF Z Z Zd (zA Z (zA Z (zA Z (zA Z (zA Z zL))))) Z) bE (fun hs=>ih bb J aa (w64 ((wAP (w64 (p1 + p3))) / 2)) (w64 ((w64 ((w64 ((wAP (w64 (p1 + p3))) / 2)) + p2)) - az)) p3 p4 ai ci bh hs ju jv) (.inl Z) ?_
           rintro e8 qo rk ib qT lm ⟨rfl,rfl,jw⟩
           have ln:SW w [B3] U e8 [.row J aa 3 1 (hD KL.encI pY)] ib:=lm
           refine zY ?_
           have hE:=hJ oZ;first | subst r | cases hE
           exact ⟨Z,_,(wCM),e8,_,ln,Z,Z,(jw.trans aB)⟩
          ·intro dL o5
           refine cF Z dL (zo ?_)
           have hE:=hJ o5;first | subst r | cases hE
           exact ⟨Z,_,(wCM),bh,_,bE,Z,Z,aB⟩
         ·intro aT o6
          refine oF Z aT (oF Z aT (oF Z aT (oR Z (zX Z (zt aT.out) Z) (eN (ze Z (zo ?_))))))
          have hE:=hJ o6;first | subst r | cases hE
          exact ⟨Z,_,(wCM),bh,_,bE,Z,Z,aB⟩
       ·intro dH o7
        refine ze (fK.trans (congrArg nI (nJ.2 dH.out))) (kN (zH (sR fL8 Z (oM Z cA (oM Z bA (oR Z (zK Z Z Z) (oM Z Z (ifc o7 ?_ ?_))))))))
        ·intro aU o8
         refine zC Z Z Z (wT Z aU) Z bA (zC Z Z Z (wT Z aU) Z av (rU Z (wT Z aU) (zK Z Z Z) (oR Z (zb Z (ZJ aU.out) Z) (eN (ifc o8 ?_ ?_)))))
         ·intro dM o9
          refine cT Z dM (rR (wCA (.fx 5 .nil .stop)) Z (oM Z a7 (oM Z cA (oM Z bA (oM Z av (oM Z a8 ?_))))))
          have jx:=aC.le cZ
          have fQ:=jx.le c7
          refine bnK o9 fun eQ jy pa=>zG 1 Z Z Z Z (zF Z Z Zd (zA Z (zA Z (zA Z (zA Z (zA Z zL))))) Z) bx (fun hs=>ih p0 J aa p1 az (w64 ((wAP (w64 (p1 + p3))) / 2)) p4 ai ch bg hs fQ jy) (.inl Z) ?_
          rintro ca qp rl ft pI lp ⟨rfl,rfl,cN⟩
          have eB:SW w [B3] U ca [.row J aa 3 1 (hD KL.encI eQ)] ft:=lp
          refine eN (sR fL8 Z (oM Z av (oM Z ao (oR Z (zK Z Z Z) (oM Z Z (ifc pa ?_ ?_))))))
          ·intro aV pb
           refine zC Z Z Z (wT Z aV) Z ao (zC Z Z Z (wT Z aV) Z aF (rU Z (wT Z aV) (zK Z Z Z) (oR Z (zb Z (ZJ aV.out) Z) (eN (ifc pb ?_ ?_)))))
           ·intro dN pd
            refine cT Z dN (rR (wCA (.fx 5 .nil .stop)) rfl (zC rfl rfl rfl rfl rfl (nH (b:=(.slice J p0.length aa:Value)) (c:=(.slice J eQ.length aa:Value)) a7 (by rw [cN])) (zC rfl rfl rfl rfl rfl av (zC rfl rfl rfl rfl rfl ao (zC rfl rfl rfl rfl rfl aF (zC rfl rfl rfl rfl rfl a8 ?_))))))
            have jz:=fQ.le pI
            refine bnK pd fun pZ jA pe=>zG 1 Z Z Z Z (zF Z Z Zd (zA Z (zA Z (zA Z (zA Z (zA Z zL))))) Z) eB (fun hs=>ih eQ J aa (w64 ((wAP (w64 (p1 + p3))) / 2)) (w64 ((w64 ((w64 ((wAP (w64 (p1 + p3))) / 2)) + p2)) - az)) p3 p4 ai ft ca hs jz jA) (.inl Z) ?_
            rintro e9 qq rn ic qU lq ⟨rfl,rfl,jB⟩
            have lu:SW w [B3] U e9 [.row J aa 3 1 (hD KL.encI pZ)] ic:=lq
            refine zY ?_
            have hE:=hJ pe;first | subst r | cases hE
            exact ⟨Z,_,(wCM),e9,_,lu,Z,Z,(jB.trans cN)⟩
           ·intro dN pf
            refine cF Z dN (zo ?_)
            have hE:=hJ pf;first | subst r | cases hE
            exact ⟨Z,_,(wCM),ca,_,eB,Z,Z,cN⟩
          ·intro aV pg
           refine oF Z aV (oF Z aV (oF Z aV (oR Z (zX Z (zt aV.out) Z) (eN (ze Z (zo ?_))))))
           have hE:=hJ pg;first | subst r | cases hE
           exact ⟨Z,_,(wCM),ca,_,eB,Z,Z,cN⟩
         ·intro dM ph
          refine cF Z dM (kN (sR fL8 Z (oM Z av (oM Z ao (oR Z (zK Z Z Z) (oM Z Z (ifc ph ?_ ?_)))))))
          ·intro aW pi
           refine zC Z Z Z (wT Z aW) Z ao (zC Z Z Z (wT Z aW) Z aF (rU Z (wT Z aW) (zK Z Z Z) (oR Z (zb Z (ZJ aW.out) Z) (eN (ifc pi ?_ ?_)))))
           ·intro dO pj
            refine cT Z dO (rR (wCA (.fx 5 .nil .stop)) Z (oM Z a7 (oM Z av (oM Z ao (oM Z aF (oM Z a8 ?_))))))
            have jC:=aC.le cZ
            have jD:=jC.le c7
            refine bnK pj fun p5 jE pk=>zG 1 Z Z Z Z (zF Z Z Zd (zA Z (zA Z (zA Z (zA Z (zA Z zL))))) Z) bx (fun hs=>ih p0 J aa (w64 ((wAP (w64 (p1 + p3))) / 2)) (w64 ((w64 ((w64 ((wAP (w64 (p1 + p3))) / 2)) + p2)) - az)) p3 p4 ai ch bg hs jD jE) (.inl Z) ?_
            rintro fb qr ro ie qV lv ⟨rfl,rfl,jF⟩
            have lw:SW w [B3] U fb [.row J aa 3 1 (hD KL.encI p5)] ie:=lv
            refine zY ?_
            have hE:=hJ pk;first | subst r | cases hE
            exact ⟨Z,_,(wCM),fb,_,lw,Z,Z,jF⟩
           ·intro dO pm
            refine cF Z dO (zo ?_)
            have hE:=hJ pm;first | subst r | cases hE
            exact ⟨Z,_,(wCM),bg,_,bx,Z,Z,Z⟩
          ·intro aW pn
           refine oF Z aW (oF Z aW (oF Z aW (oR Z (zX Z (zt aW.out) Z) (eN (ze Z (zo ?_))))))
           have hE:=hJ pn;first | subst r | cases hE
           exact ⟨Z,_,(wCM),bg,_,bx,Z,Z,Z⟩
        ·intro aU po
         refine oF Z aU (oF Z aU (oF Z aU (oR Z (zX Z (zt aU.out) Z) (eN (ze Z (kN (sR fL8 Z (oM Z av (oM Z ao (oR Z (zK Z Z Z) (oM Z Z (ifc po ?_ ?_))))))))))))
         ·intro aX pp
          refine zC Z Z Z (wT Z aX) Z ao (zC Z Z Z (wT Z aX) Z aF (rU Z (wT Z aX) (zK Z Z Z) (oR Z (zb Z (ZJ aX.out) Z) (eN (ifc pp ?_ ?_)))))
          ·intro dP pq
           refine cT Z dP (rR (wCA (.fx 5 .nil .stop)) Z (oM Z a7 (oM Z av (oM Z ao (oM Z aF (oM Z a8 ?_))))))
           have jG:=aC.le cZ
           have jH:=jG.le c7
           refine bnK pq fun p6 jI pt=>zG 1 Z Z Z Z (zF Z Z Zd (zA Z (zA Z (zA Z (zA Z (zA Z zL))))) Z) bx (fun hs=>ih p0 J aa (w64 ((wAP (w64 (p1 + p3))) / 2)) (w64 ((w64 ((w64 ((wAP (w64 (p1 + p3))) / 2)) + p2)) - az)) p3 p4 ai ch bg hs jH jI) (.inl Z) ?_
           rintro fc qs rp ig qW lx ⟨rfl,rfl,jJ⟩
           have ly:SW w [B3] U fc [.row J aa 3 1 (hD KL.encI p6)] ig:=lx
           refine zY ?_
           have hE:=hJ pt;first | subst r | cases hE
           exact ⟨Z,_,(wCM),fc,_,ly,Z,Z,jJ⟩
          ·intro dP pu
           refine cF Z dP (zo ?_)
           have hE:=hJ pu;first | subst r | cases hE
           exact ⟨Z,_,(wCM),bg,_,bx,Z,Z,Z⟩
         ·intro aX py
          refine oF Z aX (oF Z aX (oF Z aX (oR Z (zX Z (zt aX.out) Z) (eN (ze Z (zo ?_))))))
          have hE:=hJ py;first | subst r | cases hE
          exact ⟨Z,_,(wCM),bg,_,bx,Z,Z,Z⟩
end Go.Proofs.YtlmekamhphnmjaaGreat
namespace Go.Proofs.YtlmekamhphnmjaaGreat
open Go.KL
set_option maxHeartbeats 4000000
theorem wEA (p0:List Int) (J:Option Addr) (aa:Nat) (p1:Int) (p2:((Int × Int)->Option Int)) (ae:Value) (w:World) (U:PHeap) (hS:St0 w U [.row J aa 3 1 (hD KL.encI p0)]) (bF:FnOK Tryz.prog U ae wLs wLt p2) {r:(List Int)} (hm:wBl p0 p1 p2=some r):Gv Tryz.prog 93 [.slice J p0.length aa,jV p1,ae] w (wBu w [.row J aa 3 1 (hD KL.encI p0)] U (fun U_ L_ v=>v=.tuple #[]/\L_=[.row J aa 3 1 (hD KL.encI r)]/\r.length=p0.length)):=by
 unfold wBl at hm
 refine Gv.of Tryz.func93 Z Tryz.ntmps93 Tryz.results93 Z (sR fL1 Z (oA Z Z (eN (sR fL3 Z (oM Z Z (oA Z Z (oA Z Z (eN ?_))))))))
 have q:=bnd hm
 obtain ⟨⟨l2,x3⟩,cY,bN⟩:=q
 try dsimp only at bN
 let B0:Res:=.row J aa 3 1 (hD KL.encI p0)
 refine yH (fun σ_ w_=>∃ (U_:PHeap),σ_ 0=.slice J l2.length aa/\σ_ 1=jV p1/\σ_ 2=ae/\σ_ 6=jV 20/\σ_ 7=jV x3/\PHeap.Le U U_/\SW w [B0] U U_ [.row J aa 3 1 (hD KL.encI l2)] w_/\l2.length=p0.length) ?_ ?_
 refine zP (Zm (fun (am,a7,aC) σ_ w_=>∃ (U_:PHeap),σ_ 0=.slice J am.length aa/\σ_ 1=jV p1/\σ_ 2=ae/\σ_ 6=jV 20/\σ_ 7=jV a7/\σ_ 8=jV aC/\PHeap.Le U U_/\SW w [B0] U U_ [.row J aa 3 1 (hD KL.encI am)] w_/\am.length=p0.length) cY ?_ ?_)
 exact ⟨U,Z,Z,Z,Z,Z,Z,(zS _),hS,Z⟩
 rintro ⟨am,a7,aC⟩ dx dB bZ ⟨be,aO,aP,aQ,aR,bj,ax,aY,bD,bx⟩ aU cL
 try dsimp only at aU
 refine zH (sR fL3 Z (oM Z ax (oM Z aP (oR Z (Runs.leq Z Z Z) (eN ?_)))))
 by_cases ai:aC <= p1
 have bL:=aU;rw [if_pos ai] at bL;replace ai:=zD ai
 refine cT Z ai (kN (zP (sR (wEu (.fx 4 .nil .stop)) Z (oM Z aO (oM Z bj (oM Z ax (oM Z aQ ?_)))))))
 have cw:=bF.le aY
 refine bnK bL fun bS cx cU=>zG 1 Z Z Z Z (zF Z Z Tryz.call145 (zA Z (zA Z (zA Z (zA Z zL)))) Z) bD (fun hs=>wCL am J aa a7 aC p2 ae bZ be hs cw cx) (.inl Z) ?_
 rintro bg dn du b4 c8 cE ⟨rfl,rfl,bz⟩
 have cG:SW w [B0] U bg [.row J aa 3 1 (hD KL.encI bS)] b4:=cE
 refine eN (sR fL2 Z (oM Z ax (oA Z Z (eN (rR fL4 Z (oM Z ax (oM Z aR (oR Z (zQ Z Z Z) (oA Z Z (zY (zd ?_)))))))))))
 have q:=hJ cU
 obtain rfl:=q
 exact zI ⟨rfl,_,rfl,⟨bg,(nH (b:=(.slice J am.length aa:Value)) (c:=(.slice J bS.length aa:Value)) aO (by rw [bz])),aP,aQ,aR,rfl,rfl,(aY.trans c8),cG,(bz.trans bx)⟩⟩
 have bM:=aU;rw [if_neg ai] at bM;replace ai:=zD ai
 refine cF Z ai (zr (zV ?_))
 have q:=wAe bM
 obtain ⟨dh,cV,cd⟩:=q
 have q:=cL dh cd
 obtain rfl:=q
 refine zV (zk ?_)
 cases cV
 exact zI ⟨Z,⟨be,aO,aP,aQ,aR,bj,aY,bD,bx⟩⟩
 rintro dC b8 ⟨bU,bk,bm,bn,ci,cj,dd,cH,cy⟩
 refine sR (wEu (.fx 4 .nil .stop)) Z (oM Z bk (oM Z cj (oM Z bm (oM Z bn ?_))))
 have aS:=bF.le dd
 refine bnK bN fun bT cz cW=>zG 1 Z Z Z Z (zF Z Z Tryz.call145 (zA Z (zA Z (zA Z (zA Z zL)))) Z) cH (fun hs=>wCL l2 J aa x3 p1 p2 ae b8 bU hs aS cz) (.inl Z) ?_
 rintro aD dp dv b9 bO cI ⟨rfl,rfl,bA⟩
 have cJ:SW w [B0] U aD [.row J aa 3 1 (hD KL.encI bT)] b9:=cI
 refine eN (zP (Zm (fun (ay,aj) σ_ w_=>∃ (U_:PHeap),σ_ 0=.slice J ay.length aa/\σ_ 1=jV p1/\σ_ 2=ae/\σ_ 6=jV aj/\PHeap.Le aD U_/\SW w [B0] U U_ [.row J aa 3 1 (hD KL.encI ay)] w_/\ay.length=p0.length) cW ?_ ?_))
 exact ⟨aD,(nH (b:=(.slice J l2.length aa:Value)) (c:=(.slice J bT.length aa:Value)) bk (by rw [bA])),bm,bn,ci,(zS _),cJ,(bA.trans cy)⟩
 rintro ⟨ay,aj⟩ dy dD dq ⟨aq,cg,bh,ch,aG,az,bE,bp⟩ aV cM
 try dsimp only at aV
 refine zH (sR fL3 Z (oM Z aG (oM Z bh (oR Z (zK Z Z Z) (eN ?_)))))
 by_cases ag:aj < p1
 have bG:=aV;rw [if_pos ag] at bG;replace ag:=zD ag
 refine cT Z ag (kN (zP (sR fL4 Z (oM Z aG (oR Z (yV Z Z Z) (oA Z Z (oA Z Z (eN ?_))))))))
 have q:=bnd bG
 obtain ⟨⟨ao,aZ⟩,cX,bH⟩:=q
 try dsimp only at bH
 refine yH (fun σ_ w_=>∃ (U_:PHeap),σ_ 0=.slice J ao.length aa/\σ_ 1=jV p1/\σ_ 2=ae/\σ_ 6=jV aj/\σ_ 7=jV aZ/\PHeap.Le aq U_/\SW w [B0] U U_ [.row J aa 3 1 (hD KL.encI ao)] w_/\ao.length=p0.length) ?_ ?_
 refine zP (Zm (fun (ak,aA,aB) σ_ w_=>∃ (U_:PHeap),σ_ 0=.slice J ak.length aa/\σ_ 1=jV p1/\σ_ 2=ae/\σ_ 6=jV aj/\σ_ 7=jV aA/\σ_ 8=jV aB/\PHeap.Le aq U_/\SW w [B0] U U_ [.row J aa 3 1 (hD KL.encI ak)] w_/\ak.length=p0.length) cX ?_ ?_)
 exact ⟨aq,cg,bh,ch,aG,Z,Z,(zS _),bE,bp⟩
 rintro ⟨ak,aA,aB⟩ dw dz bV ⟨a8,aH,aI,aJ,au,aK,av,aW,bB,bq⟩ aT cK
 try dsimp only at aT
 refine zH (sR fL3 Z (oM Z av (oM Z aI (oR Z (Runs.leq Z Z Z) (eN ?_)))))
 by_cases ah:aB <= p1
 have bI:=aT;rw [if_pos ah] at bI;replace ah:=zD ah
 refine cT Z ah (kN (zP (sR (wHc (.fx 7 .nil .stop)) Z (oM Z aH (oM Z aK (oM Z aK (oM Z au (oR Z (zQ Z Z Z) (oM Z av (oM Z aJ ?_))))))))))
 have cm:=aS.le bO
 have cn:=cm.le az
 have co:=cn.le aW
 refine bnK bI fun bP cp cN=>zG 1 Z Z Z Z (zF Z Z Zd (zA Z (zA Z (zA Z (zA Z (zA Z zL))))) Z) bB (fun hs=>wCu 1000 ak J aa aA (w64 (aA + aj)) aB p2 ae bV a8 hs co cp) (.inl Z) ?_
 rintro ba di dr bW cZ cA ⟨rfl,rfl,br⟩
 have cB:SW w [B0] U ba [.row J aa 3 1 (hD KL.encI bP)] bW:=cA
 refine eN (sR fL2 Z (oM Z av (oA Z Z (eN (rR fL5 Z (oM Z av (oM Z au (oR Z (yV Z Z Z) (oR Z (zQ Z Z Z) (oA Z Z (zY (zd ?_))))))))))))
 have q:=hJ cN
 obtain rfl:=q
 exact zI ⟨rfl,_,rfl,⟨ba,(nH (b:=(.slice J ak.length aa:Value)) (c:=(.slice J bP.length aa:Value)) aH (by rw [br])),aI,aJ,au,rfl,rfl,(aW.trans cZ),cB,(br.trans bq)⟩⟩
 have bJ:=aT;rw [if_neg ah] at bJ;replace ah:=zD ah
 refine cF Z ah (zr (zV ?_))
 have q:=wAe bJ
 obtain ⟨de,cO,ca⟩:=q
 have q:=cK de ca
 obtain rfl:=q
 refine zV (zk ?_)
 cases cO
 exact zI ⟨Z,⟨a8,aH,aI,aJ,au,aK,aW,bB,bq⟩⟩
 rintro dA bX ⟨bb,aL,aw,aM,aN,bi,aX,bC,bu⟩
 refine zH (sR fL4 Z (oM Z bi (oM Z aN (oR Z (zQ Z Z Z) (oA Z Z (eN (sR fL3 Z (oM Z Z (oM Z aw (oR Z (zK Z Z Z) (eN (ifc bH ?_ ?_))))))))))))
 intro aF cP
 refine cT Z aF (rR (wCA (.fx 5 .nil .stop)) Z (oM Z aL (oM Z bi (oM Z Z (oM Z aw (oM Z aM ?_))))))
 have cq:=aS.le bO
 have cr:=cq.le az
 have ct:=cr.le aX
 refine bnK cP fun bQ cu cQ=>zG 1 Z Z Z Z (zF Z Z Zd (zA Z (zA Z (zA Z (zA Z (zA Z zL))))) Z) bC (fun hs=>wCu 1000 ao J aa aZ (w64 (aZ + aj)) p1 p2 ae bX bb hs ct cu) (.inl Z) ?_
 rintro bc dm dt bY c7 cC ⟨rfl,rfl,bw⟩
 have cD:SW w [B0] U bc [.row J aa 3 1 (hD KL.encI bQ)] bY:=cC
 refine eN (rR fL3 Z (oM Z aN (oR Z (yV Z Z Z) (oA Z Z (zY (zd ?_))))))
 have q:=hJ cQ
 obtain rfl:=q
 exact zI ⟨rfl,_,rfl,⟨bc,(nH (b:=(.slice J ao.length aa:Value)) (c:=(.slice J bQ.length aa:Value)) aL (by rw [bw])),aw,aM,rfl,((az.trans aX).trans c7),cD,(bw.trans bu)⟩⟩
 intro aF cR
 refine cF Z aF (kN (rR fL3 Z (oM Z aN (oR Z (yV Z Z Z) (oA Z Z (zY (zd ?_)))))))
 have q:=hJ cR
 obtain rfl:=q
 exact zI ⟨Z,_,Z,⟨bb,aL,aw,aM,Z,(az.trans aX),bC,bu⟩⟩
 have bK:=aV;rw [if_neg ag] at bK;replace ag:=zD ag
 refine cF Z ag (zr (zV ?_))
 have q:=wAe bK
 obtain ⟨df,cS,cc⟩:=q
 have q:=cM df cc
 obtain rfl:=q
 refine zV (zk ?_)
 have hE:=hJ cS;first | subst r | cases hE
 exact ⟨Z,_,(wCM),aq,_,bE,Z,Z,bp⟩
theorem wDi (J:List Int) (aa:Option Addr) (ab:Nat) (p1:((Int × Int)->Option Int)) (ae:Value) (w:World) (U:PHeap) (hS:St0 w U [.row aa ab 3 1 (hD KL.encI J)]) (am:FnOK Tryz.prog U ae wLs wLt p1) {r:(List Int)} (hm:wBD J p1=some r):Gv Tryz.prog 38 [.slice aa J.length ab,ae] w (wBu w [.row aa ab 3 1 (hD KL.encI J)] U (fun U_ L_ v=>v=.tuple #[]/\L_=[.row aa ab 3 1 (hD KL.encI r)]/\r.length=J.length)):=by
 unfold wBD at hm
 refine Gv.of Tryz.func38 Z Tryz.ntmps38 Tryz.results38 Z (rR (wEu (.fx 4 .nil .stop)) Z (oM Z Z (oM Z Z (oR Z (zw Z Z zN) (oM Z Z (bnK hm fun x2 h3 an=>zG 1 Z Z Z Z (zF Z Z Tryz.call93 (zA Z (zA Z (zA Z zL))) Z) hS (fun hs=>wEA J aa ab (↑J.length:Int) p1 ae w U hs am h3) (.inl Z) ?_))))))
 rintro U5 L6 v7 W8 aq aj ⟨rfl,rfl,ah⟩
 have ak:SW w [.row aa ab 3 1 (hD KL.encI J)] U U5 [.row aa ab 3 1 (hD KL.encI x2)] W8:=aj
 refine zY ?_
 have hE:=hJ an;first | subst r | cases hE
 exact ⟨Z,_,(wCM),U5,_,ak,Z,Z,ah⟩
theorem wGZ (J:List wAJ) (af:Option Addr) (ag:Nat) (p1:wAX) (w:World) (U:PHeap) (hS:St0 w U []) (dI:Sl U 2 af ag J.length (hD wAt J)) {r:(List wBn) × Int} (hm:wCB J p1=some r):Gv Tryz.prog 12 [.slice af J.length ag,.agg #[jV p1.Unit,jV p1.Limit]] w (wBu w [] U (fun U_ L_ v=>∃ (A0:Option Addr) (c0:Nat),v=.tuple #[.slice A0 r.1.length c0,jV r.2]/\L_=[.row A0 c0 60 3 (hD wBa r.1)])):=by
 unfold wCB at hm
 refine Gv.of Tryz.func12 rfl Tryz.ntmps12 Tryz.results12 rfl (sR (.fx 0 (.fx 1 (.fl 2 (.fl 3 .nil)) .stop) .stop) rfl (ZG (cs:=[.slice af J.length ag]) rfl rfl rfl rfl rfl rfl (by rfl) hS ?_))
 intro W1 b2 dy
 have q:=dy.freeze (k:=0) rfl
 obtain ⟨U5,ec,ap,dD⟩:=q
 replace ap:=Cl.of ap
 have dF:sW w U U5 [] W1:=dD
 replace ap:Cl U5 b2 0 [.slice af J.length ag]:=ap
 let B0:List Value:=[jV p1.Unit,jV p1.Limit]
 refine ZG (cs:=B0) rfl rfl rfl rfl rfl rfl (by rfl) dF ?_
 intro b9 ab a7
 refine oA Z Z (oA Z Z (eN (sR (.fl 0 (.fl 1 (.fx 2 (wKe gBr) .stop))) Z (oL Z (a7.ldC (f:=0) ap (v:=.slice af J.length ag) Z Z Tryz.isAgg50 Z) (oL Z (a7.ldBA (j:=0) Z Z Z Tryz.isAgg58 Tryz.sizeOf58 (vs:=B0) Z Z) ?_)))))
 have bM:=dI.le ec
 have q:=bnd hm
 obtain ⟨⟨ai,eh⟩,cK,bR⟩:=q
 try dsimp only at bR
 refine zG 0 Z Z Z Z (zF Z Z Tryz.call37 (zA Z (zA Z zL)) Z) a7 (fun hs=>wGJ J af ag p1 b9 U5 hs bM cK) (.inr Z) ?_
 rintro aA ej eK cd bU du ⟨ax,aB,rfl,rfl⟩
 let B1:Res:=.row ax aB 3 1 (hD KL.encI ai)
 have dx:sW w U aA [B1,.blk ab 58 B0] cd:=du
 refine oM Z Z (oR Z (ZX Z Z (v:=.slice ax ai.length aB) Z) (oR Z (ZX Z Z (v:=jV eh) Z) (ZI (cs:=[.slice none 0 0]) Z Z Z Z Z Tryz.zeroValue31 Z dx ?_)))
 intro eu ac dz
 let B2:List Value:=[.slice ax ai.length aB]
 refine ZN (j:=0) (vs:=B2) Z Z Z Z dz Z Z Z Z Tryz.sizeOf31 (zJ Z) Z Z Z ?_
 intro ch dA
 have ba:sW w U aA [.blk ac 31 B2,B1,.blk ab 58 B0] ch:=dA
 refine oA Z Z (eN (zH (sR fL2 Z (oM Z Z (oR Z (Zf Z Z Z) (eN (ifc bR ?_ ?_)))))))
 intro aU dX
 refine ze (zt (fun h=>h aU.out)) (kN (sR fL1 Z (oA Z Z (eN (zH (sR fL3 Z ?_))))))
 have bN:=ap.le bU
 refine oL Z (ba.ldC (f:=0) bN (v:=.slice af J.length ag) Z Z Tryz.isAgg50 Z) (oR Z (zw Z Z ZQ) (oM Z Z (eN (zP (bnK dX fun bi dL dY=>?_)))))
 have q:=wBY dL
 obtain ⟨bg,dM⟩:=q
 replace bg:=zD bg
 refine CK.forN' (fun ae aF σ_ w_=>∃ (U_:PHeap) (aI:Option Addr) (aM:Nat),σ_ 24=jV (↑ae:Int)/\σ_ 2=.pointer (some ⟨b2,0,none⟩)/\σ_ 6=.pointer (some ⟨ac,0,none⟩)/\σ_ 8=.slice aI aF.length aM/\σ_ 23=jV (↑J.length:Int)/\PHeap.Le aA U_/\sW w U U_ [B1,.blk ac 31 B2,.blk ab 58 B0,.row aI aM 3 1 (hD KL.encI aF)] w_) dM ?_ ?_ ?_
 have dB:=ba.nilrow 3 1
 exact ⟨aA,none,0,rfl,rfl,rfl,rfl,rfl,(zS _),(dB.pick [2,1,3,0] _ (by decide) rfl)⟩
 rintro ae aF eM eR ez bc ⟨aT,aI,aM,aW,cx,cy,cz,bI,ed,dC⟩ d9
 have bz:Hid ((↑ae:Int) < (↑J.length:Int)):=zD (wBh bc)
 replace bc:=zD bc
 have dP:Hid (w64 ((↑ae:Int) + 1)=(↑(ae + 1):Int)):=zD (by have h1:=bg.out;have h2:=bz.out;rw [wAf] <;> omega)
 refine sR fL1 Z (oR Z (zK Z aW bI) (eN (zH (cT Z bz (kN (zH (zP (sR fL2 Z (oM Z aW (oA Z Z (eN (rR (.fl 0 (.fl 1 (.fx 2 (.fx 3 (.fl 4 .nil) .stop) .stop))) Z (oM Z cz (oM Z Z (ZM (pv:=[(0,jV (↑ae:Int))]) (zs:=[jV 0]) (cs:=[jV (↑ae:Int)]) Z Z Z Z Z (wAI Z wAd) zN zB Zw Z Z Z Z Z dC ?_)))))))))))))))
 intro ci cn dE
 let B3:Res:=.row (some ⟨cn,0,none⟩) 1 3 1 (hD KL.encI [(↑ae:Int)])
 have bQ:sW w U aT [B3,B1,.blk ac 31 B2,.blk ab 58 B0,.row aI aM 3 1 (hD KL.encI aF)] ci:=dE
 refine bnK d9 fun bW cV dZ=>yB (j:=4) (enc:=KL.encI) (xs:=aF) (ys:=[(↑ae:Int)]) (zs:=bW) rfl rfl rfl rfl rfl yO wIb rfl rfl rfl rfl rfl rfl bQ rfl rfl rfl (bQ.srcR (j:=0) rfl (by decide) (wAG (f:=KL.encI) (sz:=1) (fun _=>rfl) [(↑ae:Int)])) (fun _=>rfl) (fun _=>rfl) cV rfl ?_
 intro bm bA cj dG
 have dH:sW w U aT [B3,B1,.blk ac 31 B2,.blk ab 58 B0,.row bm bA 3 1 (hD KL.encI bW)] cj:=dG
 refine oA Z Z (zY (zd (zI (rR fL2 Z (oR Z (ZE (zQ Z aW Z) (congrArg (jV) dP.out)) (oM Z Z (zY ?_)))))))
 cases dZ
 exact zI ⟨rfl,⟨aT,bm,bA,rfl,cx,cy,rfl,bI,ed,(dH.pick [1,2,3,4] _ (by decide) rfl)⟩⟩
 rintro eS aK ⟨ek,am,an,cB,bB,bC,bD,cr,bS,c8⟩
 have co:Hid (¬ ((↑(((↑J.length:Int):Int) - 0).toNat:Int) < (↑J.length:Int))):=zD (wBG)
 refine sR fL1 Z (oR Z (zK Z cB cr) (eN (zH (cF Z co (zr (zV (zV (zk (zI (sR (.fl 0 (.fl 1 (.fx 2 .nil .stop))) Z (oM Z bD ?_)))))))))))
 have q:=c8.freezeR (k:=0) (n:=ai.length) rfl (wAG (f:=KL.encI) (sz:=1) (fun _=>rfl) ai) (by decide)
 obtain ⟨bZ,bT,d7,de⟩:=q
 let B4:Res:=.row am an 3 1 (hD KL.encI bi)
 have df:sW w U bZ [.blk ac 31 B2,.blk ab 58 B0,B4] aK:=de
 have q:=df.freeze (k:=0) rfl
 obtain ⟨az,bh,ao,dd⟩:=q
 replace ao:=Cl.of ao
 have dh:sW w U az [.blk ab 58 B0,B4] aK:=dd
 replace ao:Cl az ac 0 B2:=ao
 refine oR Z (yF Z zL (zA bC (zA bB zL))) ?_
 have bJ:=d7.le bh
 have cC:=bN.le bS
 have cD:=cC.le bT
 have bK:=cD.le bh
 have cE:=bM.le bU
 have cG:=cE.le bS
 have cH:=cG.le bT
 have bL:=cH.le bh
 have c7:FnOK Tryz.prog az (.func (.func 39) #[] #[.pointer (some ⟨ac,0,none⟩),.pointer (some ⟨b2,0,none⟩)]) wLs wLt (fun x=>wBe x.1 x.2 ai J):=⟨39,[],[.pointer (some ⟨ac,0,none⟩),.pointer (some ⟨b2,0,none⟩)],rfl,Tryz.call39,fun U1 w1 x y vs le hs ha hm=>by obtain rfl:=ha;exact wFv x.1 x.2 ai ac ax aB J b2 af ag w1 U1 hs (ao.le le) (bJ.le le) (bK.le le) (bL.le le) hm⟩
 refine bnK dY fun ah cI dQ=>?_
 have di:sW w U az [B4,.blk ab 58 B0] aK:=dh.pick [1,0] _ (by decide) rfl
 refine zG 1 Z Z Z Z (zF Z Z Tryz.call38 (zA Z (zA Z zL)) Z) di (fun hs=>wDi bi am an (fun x=>wBe x.1 x.2 ai J) (.func (.func 39) #[] #[.pointer (some ⟨ac,0,none⟩),.pointer (some ⟨b2,0,none⟩)]) aK az hs c7 cI) (.inl Z) ?_
 rintro aQ ei eJ ca aN dm ⟨rfl,rfl,cJ⟩
 let B5:Res:=.row am an 3 1 (hD KL.encI ah)
 have dn:sW w U aQ [B5,.blk ab 58 B0] ca:=dm
 refine eN (sR fL1 rfl (Zz rfl rfl rfl rfl rfl rfl (eN (zH (sR fL3 rfl (zC rfl rfl rfl rfl rfl (nH (b:=(.slice am bi.length an:Value)) (c:=(.slice am ah.length an:Value)) bD (by rw [cJ])) (zT rfl rfl rfl rfl (fun _=>zw rfl rfl zN) (zC rfl rfl rfl rfl rfl rfl (eN (zP (bnK dQ fun eO dJ dR=>?_)))))))))))
 have q:=wBY dJ
 obtain ⟨be,dK⟩:=q
 replace be:=zD be
 refine CK.forN' (fun aC aD σ_ w_=>∃ (U_:PHeap) (aH:Option Addr) (aL:Nat),σ_ 37=jV (↑aC:Int)/\σ_ 2=.pointer (some ⟨b2,0,none⟩)/\σ_ 6=.pointer (some ⟨ac,0,none⟩)/\σ_ 10=.slice aH aD.length aL/\σ_ 35=.slice am ah.length an/\σ_ 36=jV (↑ah.length:Int)/\PHeap.Le aQ U_/\sW w U U_ [.blk ab 58 B0,.row aH aL 60 3 (hD wBa aD),B5] w_) dK ?_ ?_ ?_
 have dp:=dn.nilrow 60 3
 exact ⟨aQ,none,0,rfl,bB,bC,rfl,rfl,rfl,(zS _),(dp.pick [2,0,1] _ (by decide) rfl)⟩
 rintro aC aD eL eP br bb ⟨aR,aH,aL,aV,bE,bF,ct,bG,bH,aG,a8⟩ d8
 have bw:Hid ((↑aC:Int) < (↑ah.length:Int)):=zD (wBh bb)
 replace bb:=zD bb
 have dO:Hid (w64 ((↑aC:Int) + 1)=(↑(aC + 1):Int)):=zD (by have h1:=be.out;have h2:=bw.out;rw [wAf] <;> omega)
 refine sR fL1 Z (oR Z (zK Z aV bH) (eN (zH (cT Z bw (kN (zH (zP (sR fL3 Z (bnK d8 fun _ aX dS=>?_)))))))))
 obtain ⟨eA,bO⟩:=a8.rowSome (j:=2) rfl (by rw [wAG (f:=KL.encI) (sz:=1) (fun _=>rfl) ah];have hz:=wAK aX;omega)
 refine oR Z (ZS Z bG bO aV zN zB (wAK aX)) ?_
 have dN:=wAv (xs:=ah) (wAK aX)
 refine zn rfl rfl rfl rfl (a8.ldR (j:=2) rfl bO rfl rfl zM (wAT (sz:=1) (fun _=>rfl) _ _ 0 _ dN (by first | omega | rfl | simp) rfl)) rfl (Zz rfl rfl rfl rfl rfl rfl (eN (zx zp [3,1,3,3,3,1,1,3,3,1,3,2,0,3] (wGk (.fx 11 (.fx 12 (.fl 13 .nil) .stop) .stop)) (by kernel_rfl) ?_)))
 have aq:=a8.drew
 generalize hw_W192:({ br with drawn:=br.drawn + 1 }:World)=en at aq ⊢
 refine oM Z ct ?_
 have cL:=bK.le aN
 have cM:=cL.le aG
 refine oL Z (aq.ldC (f:=0) cM (v:=.slice af J.length ag) Z bE Tryz.isAgg50 Z) (oM Z Z (bnK dS fun av aY dT=>?_))
 have cN:=bL.le aN
 have cO:=cN.le aG
 have q:=cO.el (fun _=>rfl) (wBW aY)
 obtain ⟨eB,eH,cW,cY⟩:=q
 refine oR Z (zm Z Z cW Z ZQ Za (wFE aY) (wFV aY)) (oR Z (zO Z Z Zs Z zB) (oL Z (aq.ldC (f:=0) cY (v:=jV av.Bib) Z Z zM Z) ?_))
 have cP:=ao.le aN
 have cQ:=cP.le aG
 refine oL Z (aq.ldC (f:=0) cQ (v:=.slice ax ai.length aB) Z bF Tryz.isAgg31 Z) (oM Z Z (bnK dT fun aw aZ dU=>?_))
 have cR:=bJ.le aN
 have cS:=cR.le aG
 have q:=cS.el (fun _=>rfl) (wBW aZ)
 obtain ⟨eC,eI,cX,cZ⟩:=q
 refine oR Z (zm Z Z cX Z zN zB (wFE aZ) (wFV aZ)) (oL Z (aq.ldC (f:=0) cZ (v:=jV aw) Z Z zM Z) ?_)
 let B6:List Value:=[jV av.Bib,jV aw,jV 0]
 let B7:List Value:=[jV 0,jV 0,jV 0]
 refine oR Z (ZD (pv:=[(0,jV av.Bib),(1,jV aw)]) (z:=B7) (cs:=B6) Z (wAI Z (wAI Z wAd)) Tryz.zeroValue60 wKv Z Z) (ZM (pv:=[(0,.agg B6.toArray)]) (zs:=B7) (cs:=B6) Z Z Z Z Z (wAI Z wAd) Tryz.runUnderlying54 Tryz.sizeOf60 Tryz.zeroValue60 Z Z Z Z Z aq ?_)
 intro cc cm dq
 let B8:Res:=.row (some ⟨cm,0,none⟩) 1 60 3 (hD wBa [(⟨av.Bib,aw,0⟩:wBn)])
 have bP:sW w U aR [B8,.blk ab 58 B0,.row aH aL 60 3 (hD wBa aD),B5] cc:=dq
 refine bnK dU fun bV cU dV=>yB (j:=2) (enc:=wBa) (xs:=aD) (ys:=[(⟨av.Bib,aw,0⟩:wBn)]) (zs:=bV) rfl rfl rfl rfl rfl Tryz.underlying54 wMq rfl rfl rfl rfl rfl rfl bP rfl rfl rfl (bP.srcR (j:=0) rfl (by decide) (wAG (f:=wBa) (sz:=3) (fun _=>rfl) [(⟨av.Bib,aw,0⟩:wBn)])) (fun _=>rfl) (fun _=>rfl) cU rfl ?_
 intro bk bx cg dr
 have dt:sW w U aR [B8,.blk ab 58 B0,.row bk bx 60 3 (hD wBa bV),B5] cg:=dr
 refine oA Z Z (zY (zd (zI (rR fL2 Z (oR Z (ZE (zQ Z aV Z) (congrArg (jV) dO.out)) (oM Z Z (zY ?_)))))))
 cases dV
 exact zI ⟨rfl,⟨aR,bk,bx,rfl,bE,bF,rfl,bG,bH,aG,(dt.pick [1,2,3] _ (by decide) rfl)⟩⟩
 rintro eQ eo ⟨b4,bX,cp,cA,eD,eE,cu,eF,cw,eG,dv⟩
 have cq:Hid (¬ ((↑(((↑ah.length:Int):Int) - 0).toNat:Int) < (↑ah.length:Int))):=zD (wBG)
 refine sR fL1 Z (oR Z (zK Z cA cw) (eN (zH (cF Z cq (zr (zV (zV (zk (zI (sR fL3 Z (oM Z cu (oA Z Z (oA Z Z (eN (zR ?_)))))))))))))))
 cases dR
 exact ⟨rfl,_,(wHg rfl rfl),b4,_,(dv.pick [1] _ (by decide) rfl),bX,cp,rfl,rfl⟩
 intro aU dW
 refine cT Z aU (sR fL3 Z (oM Z Z (oA Z Z (oA Z Z (eN (zR (zc ?_)))))))
 have dw:=ba.nilrow 60 3
 cases dW
 exact ⟨rfl,_,(wHg rfl rfl),aA,_,(dw.pick [0] _ (by decide) rfl),none,0,rfl,rfl⟩
theorem wET (p0:List Int) (eC:Option Addr) (eD:Nat) (w:World) (U:PHeap) (hS:St0 w U []) (m4:Sl U 1 eC eD p0.length (hD KL.encB8 p0)) {r:Bool} (hm:wBy p0=some r):Gv Tryz.prog 3 [.slice eC p0.length eD] w (wBu w [] U (fun U_ L_ v=>v=.bool r/\L_=[])):=by
 unfold wBy at hm
 refine Gv.of Tryz.func3 Z Tryz.ntmps3 Tryz.results3 Z (sR fL1 Z (oA Z Z (eN (sR gBs Z (oM Z Z (bnK hm fun x1 h2 oo=>zG 0 Z Z Z Z (zF Z Z Tryz.call7 (zA Z zL) Z) hS (fun hs=>wGT p0 eC eD w U hs m4 h2) (.inr Z) ?_))))))
 rintro U4 L5 v6 W7 qR m2 ⟨ai,eL,fz,rfl,rfl,jF⟩
 let B0:Res:=.blk ai 126 [.slice eL x1.bytes.length fz,jV x1.next,.int .u32 x1.state]
 have lF:sW w U U4 [B0] W7:=m2
 refine oA Z Z (eN (sR (.fl 0 (.fx 1 (.fx 2 .nil .stop) .stop)) Z ?_))
 let B1:List Value:=[jV 0,.slice none 0 0,.slice none 0 0]
 refine oR Z (ZD (pv:=[]) (z:=B1) (cs:=B1) Z wAd ZT wED Z Z) (ZI (cs:=B1) Z Z Z Z Z ZT Z lF ?_)
 intro qk ae lI
 refine ZN (j:=0) (vs:=B1) Z Z Z Z lI Z Z Z Z ZK (zJ Z) Z Z Z ?_
 intro dp lN
 have lP:sW w U U4 [.blk ae 28 B1,B0] dp:=lN
 refine eN (sR fL1 Z (oA Z Z (eN (sR fL1 Z (oA Z Z (eN (sR fL1 Z (oA Z Z (eN (zH (sR gBs Z (oM Z Z ?_))))))))))))
 have q:=bnd oo
 obtain ⟨⟨bL,eG⟩,jS,gz⟩:=q
 try dsimp only at gz
 have l9:sW w U U4 [B0,.blk ae 28 B1] dp:=lP.pick [1,0] _ (by decide) rfl
 refine zG 1 Z Z Z Z (zF Z Z Tryz.call8 (zA Z (zA Z (zA Z zL))) Z) l9 (fun hs=>wEI x1 ai eL fz 1 6 dp U4 hs jF jS) (.inl Z) ?_
 rintro dn qc q5 ik qJ mf ⟨eR,fG,rfl,rfl,kz⟩
 have mm:sW w U dn [.blk ai 126 [.slice eR eG.bytes.length fG,jV eG.next,.int .u32 eG.state],.blk ae 28 B1] ik:=mf
 refine oM Z Z (eN (zP ?_))
 have q:=bnd gz
 obtain ⟨⟨pY,pZ,p5,aK,p6,p7,ao⟩,m8,gr⟩:=q
 try dsimp only at gr
 have q:=wBY m8
 obtain ⟨ei,m9⟩:=q
 replace ei:=zD ei
 refine CK.forN' (fun aG (bH,eE,eF,bh,cD,cE,bI) σ_ w_=>∃ (U_:PHeap) (bP:Option Addr) (cc:Nat) (bk:Option Addr) (bm:Nat) (bQ:Option Addr) (cd:Nat) (cn:List Value) (bR:Option Addr) (cg:Nat) (co:List Value) (bS:Option Addr) (ch:Nat),σ_ 30=jV (↑aG:Int)/\σ_ 3=.pointer (some ⟨ai,0,none⟩)/\σ_ 4=.pointer (some ⟨ae,0,none⟩)/\σ_ 5=.slice bQ cD.length cd/\σ_ 6=.slice bR cE.length cg/\σ_ 7=.slice bS bI.length ch/\σ_ 29=jV bL/\PHeap.Le dn U_/\sW w U U_ [.blk ai 126 [.slice bP bH.length cc,jV eE,.int .u32 eF],.row bk bm 40 2 (hD wAF bh),.blk ae 28 [jV 0,.slice bk bh.length bm,.slice none 0 0],.row bQ cd 31 1 cn,.row bR cg 38 1 co,.row bS ch 3 1 (hD KL.encI bI)] w_/\Sl U_ 1 bP cc bH.length (hD KL.encB8 bH)/\RlL U_ wMT cD cn/\RlL U_ wMU cE co) m9 ?_ ?_ ?_
 have lB:=mm.nilrow 40 2
 have lC:=lB.nilrow 31 1
 have lD:=lC.nilrow 38 1
 have lE:=lD.nilrow 3 1
 exact ⟨dn,eR,fG,none,0,none,0,[],none,0,[],none,0,rfl,rfl,rfl,rfl,rfl,rfl,rfl,(zS _),(lE.pick [4,3,5,2,1,0] _ (by decide) rfl),kz,RlL.nil,RlL.nil⟩
 rintro aG ⟨bH,eE,eF,bh,cD,cE,bI⟩ re rj gZ ec ⟨gU,bP,cc,bk,bm,bQ,cd,cn,bR,cg,co,bS,ch,dQ,bA,iY,iZ,i8,i9,fO,pH,lG,jG,jH,jI⟩ gI
 try dsimp only at gI
 have fA:Hid ((↑aG:Int) < bL):=zD (wBh ec)
 replace ec:=zD ec
 have gq:Hid (w64 ((↑aG:Int) + 1)=(↑(aG + 1):Int)):=zD (by have h1:=ei.out;have h2:=fA.out;rw [wAf] <;> omega)
 refine sR fL1 Z (oR Z (zK Z dQ fO) (eN (zH (cT Z fA (kN (zH (zP (sR fL2 Z (oM Z dQ (oA Z Z (eN (sR (.fl 0 (.fx 1 (.fl 2 (.fx 3 (.fl 4 (.fl 5 .nil)) .stop)) .stop)) Z (oM Z bA ?_)))))))))))))
 have q:=bnd gI
 obtain ⟨⟨ab,cJ⟩,jJ,gt⟩:=q
 try dsimp only at gt
 refine zG 1 Z Z Z Z (zF Z Z Tryz.call9 (zA Z (zA Z zL)) Z) lG (fun hs=>wBV (⟨bH,eE,eF⟩:wAW) ai bP cc 6 gZ gU hs jG jJ) (.inl Z) ?_
 rintro e9 p8 qX fj eo lH ⟨eM,fB,rfl,rfl,jK⟩
 let B2:Res:=.blk ae 28 [jV 0,.slice bk bh.length bm,.slice none 0 0]
 let B3:Res:=.row bk bm 40 2 (hD wAF bh)
 let B4:Res:=.row bS ch 3 1 (hD KL.encI bI)
 let B5:Res:=.row bR cg 38 1 co
 let B6:Res:=.row bQ cd 31 1 cn
 have lJ:sW w U e9 [.blk ai 126 [.slice eM cJ.bytes.length fB,jV cJ.next,.int .u32 cJ.state],B3,B2,B6,B5,B4] fj:=lH
 refine oM Z bA ?_
 have q:=bnd gt
 obtain ⟨⟨ac,cK⟩,jL,gu⟩:=q
 try dsimp only at gu
 refine zG 1 Z Z Z Z (zF Z Z Tryz.call9 (zA Z (zA Z zL)) Z) lJ (fun hs=>wBV cJ ai eM fB 6 fj e9 hs jK jL) (.inl Z) ?_
 rintro fb p9 qY fk eu lK ⟨eO,fC,rfl,rfl,jM⟩
 have lL:sW w U fb [.blk ai 126 [.slice eO cK.bytes.length fC,jV cK.next,.int .u32 cK.state],B3,B2,B6,B5,B4] fk:=lK
 refine oA Z Z (oA Z Z (eN (sR (wEu (.fx 4 (.fl 5 (.fx 6 (wKf (.nil)) .stop)) .stop)) Z (oM Z Z (oM Z Z (oR Z (zQ Z Z Z) (oM Z bA ?_)))))))
 have q:=bnd gu
 obtain ⟨⟨ag,cL⟩,jN,gv⟩:=q
 try dsimp only at gv
 refine zG 1 Z Z Z Z (zF Z Z Tryz.call9 (zA Z (zA Z zL)) Z) lL (fun hs=>wBV cK ai eO fC 3 fk fb hs jM jN) (.inl Z) ?_
 rintro fc qa qZ fm ez lM ⟨eP,fD,rfl,rfl,jO⟩
 have lO:sW w U fc [.blk ai 126 [.slice eP cL.bytes.length fD,jV cL.next,.int .u32 cL.state],B3,B2,B6,B5,B4] fm:=lM
 refine oM Z bA ?_
 have q:=bnd gv
 obtain ⟨⟨ah,cM⟩,jP,gw⟩:=q
 try dsimp only at gw
 refine zG 1 Z Z Z Z (zF Z Z Tryz.call9 (zA Z (zA Z zL)) Z) lO (fun hs=>wBV cL ai eP fD 2 fm fc hs jO jP) (.inl Z) ?_
 rintro fd qb q4 ib eA lQ ⟨eQ,fE,rfl,rfl,jQ⟩
 let B7:Res:=.blk ai 126 [.slice eQ cM.bytes.length fE,jV cM.next,.int .u32 cM.state]
 have lR:sW w U fd [B7,B3,B2,B6,B5,B4] ib:=lQ
 refine oR Z (yV Z Z Z) (oR Z (zg Z Z Z) (oR Z (Runs.max Z Z Z) (oA Z Z (eN (sR (wFi (.fx 3 (.fx 4 (.fx 5 (.fl 6 .nil) .stop) .stop) .stop)) Z (oM Z iZ (oM Z Z (oM Z Z (ZM (pv:=[(0,jV ab),(1,jV ac)]) (zs:=[jV 0,jV 0]) (cs:=[jV ab,jV ac]) Z Z Z Z Z (wAI Z (wAI Z wAd)) zN zB Zw Z Z Z Z Z lR ?_)))))))))
 intro fq b9 lS
 have lT:sW w U fd [.row (some ⟨b9,0,none⟩) 2 3 1 (hD KL.encI [ab,ac]),B7,B3,B2,B6,B5,B4] fq:=lS
 have q:=lT.freezeR (k:=0) (n:=[ab,ac].length) rfl (wAG (f:=KL.encI) (sz:=1) (fun _=>rfl) [ab,ac]) (by decide)
 obtain ⟨br,cG,py,lV⟩:=q
 have lW:sW w U br [B7,B3,B2,B6,B5,B4] fq:=lV
 let B8:List Value:=[.slice (some ⟨b9,0,none⟩) 2 2]
 refine ZM (pv:=[(0,.slice (some ⟨b9,0,none⟩) 2 2)]) (zs:=[.slice none 0 0]) (cs:=B8) Z Z Z Z Z (wAI Z wAd) Tryz.runUnderlying29 Tryz.sizeOf31 Tryz.zeroValue31 Z Z Z Z Z lW ?_
 intro ic iC lU
 have gG:RlL br wMT [[ab,ac]] B8:=(RlL.cons (R:=wMT) (x:=[ab,ac]) (vs:=B8) ⟨(some ⟨b9,0,none⟩),2,rfl,py⟩ RlL.nil)
 let B9:Res:=.row (some ⟨iC,0,none⟩) 1 31 1 B8
 have ge:sW w U br [B9,B7,B3,B2,B6,B5,B4] ic:=lU
 refine bnK gw fun gN jR oi=>?_
 have jT:=jH.le eo
 have jU:=jT.le eu
 have jW:=jU.le ez
 have jX:=jW.le eA
 have jY:=jX.le cG
 refine OKS.appendR (R:=wMT) (j:=4) (xs:=cD) (ys:=[[ab,ac]]) (zs:=gN) rfl rfl rfl rfl rfl Tryz.underlying29 wMn rfl rfl rfl rfl rfl rfl rfl ge rfl rfl rfl jY gG (ge.srcR (j:=0) rfl (by decide) (RlL.len gG)) jR rfl ?_
 intro cP dx fM ie lX pt
 let ay:Res:=.row cP dx 31 1 fM
 have lY:sW w U br [B9,B7,B3,B2,ay,B5,B4] ie:=lX
 refine oA Z Z (eN (sR (wCA (.fx 5 gBr .stop)) Z (oM Z i8 (oM Z Z (oM Z Z ?_)))))
 let eU:List Value:=[jV (max 0 (w64 ((w64 (ab + ac)) - (w64 (ag * ah))))),jV (max 0 (w64 ((w64 (ab + ac)) - (w64 (ag * ah)))))]
 let cY:List Value:=[jV 0,jV 0]
 refine oR Z (ZD (pv:=[(0,jV (max 0 (w64 ((w64 (ab + ac)) - (w64 (ag * ah)))))),(1,jV (max 0 (w64 ((w64 (ab + ac)) - (w64 (ag * ah))))))]) (z:=cY) (cs:=eU) Z (wAI Z (wAI Z wAd)) Tryz.zeroValue35 wKq Z Z) ?_
 let cZ:List Value:=[jV 0,jV 1,jV (max 0 (w64 ((w64 (ab + ac)) - (w64 (ag * ah))))),jV (max 0 (w64 ((w64 (ab + ac)) - (w64 (ag * ah)))))]
 let eV:List Value:=[jV 0,jV 0,jV 0,jV 0]
 refine oR Z (ZD (pv:=[(0,jV 0),(1,jV 1),(2,.agg eU.toArray)]) (z:=eV) (cs:=cZ) Z (wAI Z (wAI Z (wAI Z wAd))) Tryz.zeroValue37 wKr Z Z) (ZM (pv:=[(0,.agg cZ.toArray)]) (zs:=eV) (cs:=cZ) Z Z Z Z Z (wAI Z wAd) yK ya Tryz.zeroValue37 Z Z Z Z Z lY ?_)
 intro ft ca lZ
 have l0:sW w U br [.row (some ⟨ca,0,none⟩) 1 37 4 (hD wBL [(⟨0,1,(⟨max 0 (w64 ((w64 (ab + ac)) - (w64 (ag * ah)))),max 0 (w64 ((w64 (ab + ac)) - (w64 (ag * ah))))⟩:wDD)⟩:wAE)]),B9,B7,B3,B2,ay,B5,B4] ft:=lZ
 have q:=l0.freezeR (k:=0) (n:=[(⟨0,1,(⟨max 0 (w64 ((w64 (ab + ac)) - (w64 (ag * ah)))),max 0 (w64 ((w64 (ab + ac)) - (w64 (ag * ah))))⟩:wDD)⟩:wAE)].length) rfl (wAG (f:=wBL) (sz:=4) (fun _=>rfl) [(⟨0,1,(⟨max 0 (w64 ((w64 (ab + ac)) - (w64 (ag * ah)))),max 0 (w64 ((w64 (ab + ac)) - (w64 (ag * ah))))⟩:wDD)⟩:wAE)]) (by decide)
 obtain ⟨aS,cH,pz,l5⟩:=q
 have l6:sW w U aS [B9,B7,B3,B2,ay,B5,B4] ft:=l5
 let bW:List Value:=[.slice (some ⟨ca,0,none⟩) 1 1]
 refine ZM (pv:=[(0,.slice (some ⟨ca,0,none⟩) 1 1)]) (zs:=[.slice none 0 0]) (cs:=bW) Z Z Z Z Z (wAI Z wAd) Tryz.runUnderlying30 Tryz.sizeOf38 Tryz.zeroValue38 Z Z Z Z Z l6 ?_
 intro ig iD l4
 have gH:RlL aS wMU [[(⟨0,1,(⟨max 0 (w64 ((w64 (ab + ac)) - (w64 (ag * ah)))),max 0 (w64 ((w64 (ab + ac)) - (w64 (ag * ah))))⟩:wDD)⟩:wAE)]] bW:=(RlL.cons (R:=wMU) (x:=[(⟨0,1,(⟨max 0 (w64 ((w64 (ab + ac)) - (w64 (ag * ah)))),max 0 (w64 ((w64 (ab + ac)) - (w64 (ag * ah))))⟩:wDD)⟩:wAE)]) (vs:=bW) ⟨(some ⟨ca,0,none⟩),1,rfl,pz⟩ RlL.nil)
 let aI:Res:=.row (some ⟨iD,0,none⟩) 1 38 1 bW
 have gf:sW w U aS [aI,B9,B7,B3,B2,ay,B5,B4] ig:=l4
 refine bnK oi fun gO jZ oj=>?_
 have j0:=jI.le eo
 have j3:=j0.le eu
 have j4:=j3.le ez
 have j5:=j4.le eA
 have j6:=j5.le cG
 have j7:=j6.le cH
 refine OKS.appendR (R:=wMU) (j:=6) (xs:=cE) (ys:=[[(⟨0,1,(⟨max 0 (w64 ((w64 (ab + ac)) - (w64 (ag * ah)))),max 0 (w64 ((w64 (ab + ac)) - (w64 (ag * ah))))⟩:wDD)⟩:wAE)]]) (zs:=gO) rfl rfl rfl rfl rfl Tryz.underlying30 wMo rfl rfl rfl rfl rfl rfl rfl gf rfl rfl rfl j7 gH (gf.srcR (j:=0) rfl (by decide) (RlL.len gH)) jZ rfl ?_
 intro cQ dy fN ii ma pu
 let aL:Res:=.row cQ dy 38 1 fN
 have mb:sW w U aS [aI,B9,B7,B3,B2,ay,aL,B4] ii:=ma
 refine oA Z Z (eN (sR (wIM gBr) Z (oM Z i9 (oM Z Z (oM Z Z (oR Z (zQ Z Z Z) (oM Z Z (oR Z (zg Z Z Z) (ZM (pv:=[(0,jV (w64 ((w64 (ab + ac)) - (max 0 (w64 ((w64 (ab + ac)) - (w64 (ag * ah))))))))]) (zs:=[jV 0]) (cs:=[jV (w64 ((w64 (ab + ac)) - (max 0 (w64 ((w64 (ab + ac)) - (w64 (ag * ah)))))))]) Z Z Z Z Z (wAI Z wAd) zN zB Zw Z Z Z Z Z mb ?_)))))))))
 intro ij iE mc
 let aQ:Res:=.row (some ⟨iE,0,none⟩) 1 3 1 (hD KL.encI [w64 ((w64 (ab + ac)) - (max 0 (w64 ((w64 (ab + ac)) - (w64 (ag * ah))))))])
 have gg:sW w U aS [aQ,aI,B9,B7,B3,B2,ay,aL,B4] ij:=mc
 refine bnK oj fun eH j8 om=>yB (j:=8) (enc:=KL.encI) (xs:=bI) (ys:=[w64 ((w64 (ab + ac)) - (max 0 (w64 ((w64 (ab + ac)) - (w64 (ag * ah))))))]) (zs:=eH) rfl rfl rfl rfl rfl yO wIb rfl rfl rfl rfl rfl rfl gg rfl rfl rfl (gg.srcR (j:=0) rfl (by decide) (wAG (f:=KL.encI) (sz:=1) (fun _=>rfl) [w64 ((w64 (ab + ac)) - (max 0 (w64 ((w64 (ab + ac)) - (w64 (ag * ah))))))])) (fun _=>rfl) (fun _=>rfl) j8 rfl ?_
 intro cR dz dq md
 let aZ:Res:=.row cR dz 3 1 (hD KL.encI eH)
 have me:sW w U aS [aQ,aI,B9,B7,B3,B2,ay,aL,aZ] dq:=md
 refine oA Z Z (eN (CK.fresh fun aV aO=>?_))
 have fP:aV 3=.pointer (some ⟨ai,0,none⟩):=(aO 3).trans bA
 have dM:aV 4=.pointer (some ⟨ae,0,none⟩):=(aO 4).trans iY
 have ja:aV 5=.slice cP gN.length dx:=(aO 5).trans rfl
 have jb:aV 6=.slice cQ gO.length dy:=(aO 6).trans rfl
 have jc:aV 7=.slice cR eH.length dz:=(aO 7).trans rfl
 have jd:aV 8=jV (↑aG:Int):=(aO 8).trans rfl
 have je:aV 29=jV bL:=(aO 29).trans fO
 have jf:aV 30=jV (↑aG:Int):=(aO 30).trans dQ
 clear aO
 refine zx zp [3,1004,3,3,3,1005,3,3,2,0,3,0,ai] (wCA (.fx 5 (.fl 6 (.fl 7 gBt)) .stop)) (by kernel_rfl) ?_
 have dW:=me.drew
 generalize hw_W346:({ dq with drawn:=dq.drawn + 1 }:World)=fu at dW ⊢
 refine zT rfl rfl rfl rfl (fun _=>zO rfl dM zj rfl Zu) (OKS.mt (T:=[ai]) [3] [0,1,2,4,5,6,7,8] [aQ,aI,B9,B3,B2,ay,aL,aZ] rfl rfl rfl rfl dW rfl ⟨⟨3,by decide,_,rfl,rfl⟩,trivial⟩ (by decide) rfl (by decide) (fun _ m3=>(m3.ldB (j:=4) rfl rfl rfl yL (v:=.slice bk bh.length bm) rfl)) rfl (zC rfl rfl rfl rfl rfl jd (zT rfl rfl rfl rfl (fun _=>ZE (zQ rfl rfl rfl) (congrArg (jV) gq.out)) (zC rfl rfl rfl rfl rfl fP ?_))))
 have j9:=jQ.le cG
 have kx:=j9.le cH
 have q:=bnd om
 obtain ⟨⟨bM,eI⟩,ky,gA⟩:=q
 try dsimp only at gA
 have mg:sW w U aS [B7,aQ,aI,B9,B3,B2,ay,aL,aZ] fu:=dW.pick [3,0,1,2,4,5,6,7,8] _ (by decide) rfl
 refine OKS.callHT 1 rfl rfl rfl rfl (zF rfl rfl Tryz.call9 (zA rfl (zA rfl zL)) rfl) mg (fun hs=>wBV cM ai eQ fE 500 fu aS hs kx ky) rfl (T:=[ai]) rfl ⟨fun b h=>(by cases h;exact .head _),trivial⟩ ?_
 rintro bu qd q6 il eB mh ⟨eS,fH,rfl,rfl,k9⟩
 let bX:Res:=.blk ai 126 [.slice eS eI.bytes.length fH,jV eI.next,.int .u32 eI.state]
 have mi:sW w U bu [bX,aQ,aI,B9,B3,B2,ay,aL,aZ] il:=mh
 refine oR Z (zQ Z Z Z) ?_
 let c7:List Value:=[jV (↑(aG + 1):Int),jV (w64 (14000 + bM))]
 refine oR Z (ZD (pv:=[(0,jV (↑(aG + 1):Int)),(1,jV (w64 (14000 + bM)))]) (z:=cY) (cs:=c7) Z (wAI Z (wAI Z wAd)) Tryz.zeroValue40 wKs Z Z) (ZM (pv:=[(0,.agg c7.toArray)]) (zs:=cY) (cs:=c7) Z Z Z Z Z (wAI Z wAd) ZL Zh Tryz.zeroValue40 Z Z Z Z Z mi ?_)
 intro im iF mj
 let c8:Res:=.row (some ⟨iF,0,none⟩) 1 40 2 (hD wAF [(⟨(↑(aG + 1):Int),w64 (14000 + bM)⟩:wAH)])
 have gh:sW w U bu [c8,bX,aQ,aI,B9,B3,B2,ay,aL,aZ] im:=mj
 refine bnK gA fun cN lb oq=>yB (j:=5) (enc:=wAF) (xs:=bh) (ys:=[(⟨(↑(aG + 1):Int),w64 (14000 + bM)⟩:wAH)]) (zs:=cN) rfl rfl rfl rfl rfl Tryz.underlying25 wGy rfl rfl rfl rfl rfl rfl gh rfl rfl rfl (gh.srcR (j:=0) rfl (by decide) (wAG (f:=wAF) (sz:=2) (fun _=>rfl) [(⟨(↑(aG + 1):Int),w64 (14000 + bM)⟩:wAH)])) (fun _=>rfl) (fun _=>rfl) lb rfl ?_
 intro bT ci io mn
 let eW:Res:=.row bT ci 40 2 (hD wAF cN)
 have mo:sW w U bu [c8,bX,aQ,aI,B9,eW,B2,ay,aL,aZ] io:=mn
 refine oR Z (zO Z dM zj Z Zu) (ZN (j:=6) (vs:=[.slice bT cN.length ci]) Z Z Z Z mo Z Z Z Z Zu (zJ Z) Z Z Z ?_)
 intro ip mp
 have mr:sW w U bu [c8,bX,aQ,aI,B9,eW,.blk ae 28 [jV 0,.slice bT cN.length ci,.slice none 0 0],ay,aL,aZ] ip:=mp
 refine zY (zd (zI (rR fL2 Z (oR Z (ZE (zQ Z jf Z) (congrArg (jV) gq.out)) (oM Z Z (zY ?_))))))
 cases oq
 have lc:=pt.le cH
 have lf:=lc.le eB
 have lg:=pu.le eB
 exact zI ⟨rfl,⟨bu,eS,fH,bT,ci,cP,dx,fM,cQ,dy,fN,cR,dz,rfl,fP,dM,ja,jb,jc,je,(((((((pH.trans eo).trans eu).trans ez).trans eA).trans cG).trans cH).trans eB),(mr.pick [1,5,6,7,8,9] _ (by decide) rfl),k9,lf,lg⟩⟩
 rintro rk dr ⟨qi,gR,iJ,aP,aT,gS,iK,qA,eT,fI,iL,bp,bz,jB,qB,jg,jh,ji,fQ,jj,qK,ms,qI,lh,li⟩
 have iM:Hid (¬ ((↑((bL:Int) - 0).toNat:Int) < bL)):=zD (wBG)
 refine sR fL1 Z (oR Z (zK Z jB jj) (eN (zH (cF Z iM (zr (zV (zV (zk (zI (sR (.fl 0 (.fl 1 (.fx 2 (wNP (.nil)) .stop))) Z (oM Z jh (oM Z ji ?_))))))))))))
 have q:=ms.freezeRR (R:=wMT) (k:=3) rfl lh rfl (by decide)
 obtain ⟨gV,pI,pB,mu⟩:=q
 let am:Res:=.blk ai 126 [.slice gR pY.length iJ,jV pZ,.int .u32 p5]
 let aq:Res:=.row bp bz 3 1 (hD KL.encI ao)
 let a7:Res:=.row aP aT 40 2 (hD wAF aK)
 let dd:Res:=.blk ae 28 [jV 0,.slice aP aK.length aT,.slice none 0 0]
 have mw:sW w U gV [am,a7,dd,.row eT fI 38 1 iL,aq] dr:=mu
 have lj:=li.le pI
 have q:=mw.freezeRR (R:=wMU) (k:=3) rfl lj rfl (by decide)
 obtain ⟨ff,pJ,pC,my⟩:=q
 have mz:sW w U ff [am,a7,dd,aq] dr:=my
 have ll:=pB.le pJ
 have q:=bnd gr
 obtain ⟨⟨bN,pU⟩,lm,gB⟩:=q
 try dsimp only at gB
 refine zG 0 Z Z Z Z (zF Z Z Tryz.call10 (zA Z (zA Z zL)) Z) mz (fun hs=>wHw p6 gS iK p7 eT fI dr ff hs ll pC lm) (.inr Z) ?_
 rintro b4 qe q7 iq qL mA ⟨cS,dA,rfl,rfl⟩
 let aR:Res:=.row cS dA 3 1 (hD KL.encI bN)
 have gi:sW w U b4 [aR,am,a7,dd,aq] iq:=mA
 refine oM Z Z (oR Z (ZX Z Z (v:=.slice cS bN.length dA) Z) (oR Z (ZX Z Z (v:=jV pU) Z) (oA Z Z (oA Z Z (eN (zH (sR fL2 Z (oM Z Z (oR Z (Zf Z Z Z) (eN (ifc gB ?_ ?_)))))))))))
 intro dB cB
 refine ze (zt (fun h=>h dB.out)) (kN (sR fL1 Z (oA Z Z (eN (zH (sR fL3 Z (oM Z fQ (oR Z (zw Z Z zN) (oM Z Z (eN (zP ?_)))))))))))
 have q:=wDW cB
 obtain ⟨qU,cy⟩:=q
 have q:=wDV cy
 obtain ⟨ej,n2⟩:=q
 replace ej:=zD ej
 refine yW (fun aj (bi,gP) σ_ w_=>∃ (U_:PHeap) (aW:Option Addr) (bc:Nat),σ_ 91=jV (↑aj:Int)/\σ_ 4=.pointer (some ⟨ae,0,none⟩)/\σ_ 7=.slice bp ao.length bz/\σ_ 12=.slice cS bN.length dA/\σ_ 14=jV gP/\σ_ 89=.slice bp ao.length bz/\σ_ 90=jV (↑ao.length:Int)/\PHeap.Le b4 U_/\sW w U U_ [am,a7,.row aW bc 46 6 (hD wAD bi),.blk ae 28 [jV 0,.slice aP aK.length aT,.slice aW bi.length bc],aq,aR] w_) n2 ?_ ?_ ?_
 have mB:=gi.nilrow 46 6
 exact ⟨b4,none,0,rfl,jg,fQ,rfl,rfl,rfl,rfl,(zS _),(mB.pick [2,3,0,4,5,1] _ (by decide) rfl)⟩
 rintro aj ⟨bi,gP⟩ rf rl ql ed ⟨ba,aW,bc,bB,cp,fR,cq,cr,dN,dO,gL,aN⟩ gJ gl
 try dsimp only at gJ
 have fJ:Hid ((↑aj:Int) < (↑ao.length:Int)):=zD (wBh ed)
 replace ed:=zD ed
 have cA:Hid (w64 ((↑aj:Int) + 1)=(↑(aj + 1):Int)):=zD (by have h1:=ej.out;have h2:=fJ.out;rw [wAf] <;> omega)
 refine sR fL1 Z (oR Z (zK Z bB dO) (eN (zH (cT Z fJ (kN (zH (zP (sR fL5 Z (oM Z bB (bnK gJ fun _ dS ot=>?_))))))))))
 obtain ⟨qt,f8⟩:=aN.rowSome (j:=4) rfl (by rw [wAG (f:=KL.encI) (sz:=1) (fun _=>rfl) ao];have hz:=wAK dS;omega)
 refine oR Z (ZS Z dN f8 bB zN zB (wAK dS)) ?_
 have n5:=wAv (xs:=ao) (wAK dS)
 refine zn rfl rfl rfl rfl (aN.ldR (j:=4) rfl f8 rfl rfl zM (wAT (sz:=1) (fun _=>rfl) _ _ 0 _ n5 (by first | omega | rfl | simp) rfl)) rfl (Zz rfl rfl rfl rfl rfl rfl (Zz rfl rfl rfl rfl rfl rfl (eN (sR fL2 rfl (zC rfl rfl rfl rfl rfl rfl (zT rfl rfl rfl rfl (fun _=>Zy rfl rfl rfl) (eN (ifc ot ?_ ?_))))))))
 intro dC ou
 refine cT Z dC (zH (sR fL12 Z (oM Z cr (oM Z cq (oR Z (zw Z Z zN) (oR Z (Runs.geq Z Z Z) (oM Z Z (ifc ou ?_ ?_))))))))
 intro av ov
 refine oT Z av (oT Z av (oT Z av (oT Z av (oT Z av (oT Z av (oR Z (zb Z (ZJ av.out) Z) (eN (ZB Z (sR fL1 Z (oA Z Z (eN (zR (zc (zq (zc ?_)))))))))))))))
 have q:=wAe ov
 obtain ⟨pN,ox,iR⟩:=q
 have q:=wDf cB cy (gl pN iR)
 obtain rfl:=q
 refine zc (zq (zc ?_))
 have hE:=hJ ox;first | subst r | cases hE
 exact ⟨rfl,_,(zh rfl),ba,_,(aN.pick [] _ (by decide) rfl),rfl,rfl⟩
 intro av oy
 refine zC Z Z Z (wF Z av) Z cq (zC Z Z Z (wF Z av) Z cr (bnK oy fun _ cw oz=>?_))
 obtain ⟨qu,f9⟩:=aN.rowSome (j:=5) rfl (by rw [wAG (f:=KL.encI) (sz:=1) (fun _=>rfl) bN];have hz:=wAK cw;omega)
 refine rU Z (wF Z av) (zm Z Z f9 Z zN zB (wAh cw) (wAi cw)) ?_
 have n7:=wAv (xs:=bN) (wAK cw)
 refine zn rfl rfl rfl (zU rfl rfl (zt av.out)) (aN.ldR (j:=5) rfl f9 rfl rfl zM (wAT (sz:=1) (fun _=>rfl) _ _ 0 _ n7 (by first | omega | rfl | simp) rfl)) rfl (zC rfl rfl rfl (zU rfl rfl (zt av.out)) rfl rfl (zT rfl rfl rfl (zU rfl rfl (zt av.out)) (fun _=>Zf rfl rfl rfl) (zT rfl rfl rfl rfl (fun _=>zX rfl (zt av.out) rfl) (eN (ifc oz ?_ ?_)))))
 intro dD oB
 refine ze (zt (fun h=>h dD.out)) (kN (sR fL3 Z (oM Z cr (oR Z (zQ Z Z Z) (oA Z Z (eN (rR (wLS gBt) Z (oR Z (zO Z cp zj Z Zi) (oL Z (aN.ldB (j:=3) Z Z Z Zq (v:=.slice aW bi.length bc) Z) (oM Z Z (oR Z (ZE (zQ Z Z Z) (congrArg (jV) cA.out)) (oM Z Z (oR Z (ZE (zQ Z Z Z) (congrArg (jV) cA.out)) (oM Z Z ?_))))))))))))))
 let de:List Value:=[jV (↑(aj + 1):Int),jV 2,jV 0,jV (↑(aj + 1):Int),jV (gd ao aj),jV 0]
 let eX:List Value:=[jV 0,jV 0,jV 0,jV 0,jV 0,jV 0]
 refine oR Z (ZD (pv:=[(0,jV (↑(aj + 1):Int)),(1,jV 2),(3,jV (↑(aj + 1):Int)),(4,jV (gd ao aj))]) (z:=eX) (cs:=de) Z (wAI Z (wAI Z (wAI Z (wAI Z wAd)))) Zl wJI Z Z) (ZM (pv:=[(0,.agg de.toArray)]) (zs:=eX) (cs:=de) Z Z Z Z Z (wAI Z wAd) ZC zi Zl Z Z Z Z Z aN ?_)
 intro ir iG mC
 let df:Res:=.row (some ⟨iG,0,none⟩) 1 46 6 (hD wAD [(⟨(↑(aj + 1):Int),2,0,(↑(aj + 1):Int),(gd ao aj),0⟩:wAC)])
 let eY:Res:=.blk ae 28 [jV 0,.slice aP aK.length aT,.slice aW bi.length bc]
 have gj:sW w U ba [df,am,a7,.row aW bc 46 6 (hD wAD bi),eY,aq,aR] ir:=mC
 refine bnK oB fun cO ln oC=>yB (j:=3) (enc:=wAD) (xs:=bi) (ys:=[(⟨(↑(aj + 1):Int),2,0,(↑(aj + 1):Int),(gd ao aj),0⟩:wAC)]) (zs:=cO) rfl rfl rfl rfl rfl Tryz.underlying26 wGz rfl rfl rfl rfl rfl rfl gj rfl rfl rfl (gj.srcR (j:=0) rfl (by decide) (wAG (f:=wAD) (sz:=6) (fun _=>rfl) [(⟨(↑(aj + 1):Int),2,0,(↑(aj + 1):Int),(gd ao aj),0⟩:wAC)])) (fun _=>rfl) (fun _=>rfl) ln rfl ?_
 intro bU cj it mD
 let eZ:Res:=.row bU cj 46 6 (hD wAD cO)
 have mE:sW w U ba [df,am,a7,eZ,eY,aq,aR] it:=mD
 refine oR Z (zO Z cp zj Z Zi) (ZN (j:=4) (vs:=[.slice bU cO.length cj]) Z Z Z Z mE Z Z Z Z Zi (zJ Z) Z Z Z ?_)
 intro iu mF
 have mG:sW w U ba [df,am,a7,eZ,.blk ae 28 [jV 0,.slice aP aK.length aT,.slice bU cO.length cj],aq,aR] iu:=mF
 refine zY (zd (zI (rR fL2 Z (oR Z (ZE (zQ Z bB Z) (congrArg (jV) cA.out)) (oM Z Z (zY ?_))))))
 have q:=hJ oC
 obtain rfl:=q
 exact zI ⟨rfl,_,rfl,⟨ba,bU,cj,rfl,cp,fR,cq,rfl,dN,dO,gL,(mG.pick [1,2,3,4,5,6] _ (by decide) rfl)⟩⟩
 intro dD oD
 refine cT Z dD (sR fL1 Z (oA Z Z (eN (zR (zc (zq (zc ?_)))))))
 have q:=wAe oD
 obtain ⟨pO,oE,iS⟩:=q
 have q:=wDf cB cy (gl pO iS)
 obtain rfl:=q
 refine zc (zq (zc ?_))
 have hE:=hJ oE;first | subst r | cases hE
 exact ⟨rfl,_,(zh rfl),ba,_,(aN.pick [] _ (by decide) rfl),rfl,rfl⟩
 intro dC oG
 refine cF Z dC (zo (zd (zI (rR fL2 Z (oR Z (ZE (zQ Z bB Z) (congrArg (jV) cA.out)) (oM Z Z (zY ?_)))))))
 have q:=hJ oG
 obtain rfl:=q
 exact zI ⟨Z,_,Z,⟨ba,aW,bc,Z,cp,fR,cq,cr,dN,dO,gL,aN⟩⟩
 rintro ⟨bO,ri⟩ rn dt ⟨gW,cU,dE,jC,fS,fT,jk,jl,qC,jm,qM,dX⟩ m5
 have gC:=wEB cB cy m5
 try dsimp only at gC
 have iN:Hid (¬ ((↑(((↑ao.length:Int):Int) - 0).toNat:Int) < (↑ao.length:Int))):=zD (wBG)
 refine sR fL1 Z (oR Z (zK Z jC jm) (eN (zH (cF Z iN (zr (zV (zV (zk (zI (zH (sR fL4 Z (oM Z jl (oM Z jk (oR Z (zw Z Z zN) (oR Z (Zf Z Z Z) (eN (ifc gC ?_ ?_)))))))))))))))))
 intro dF oH
 refine ze (zt (fun h=>h dF.out)) (kN (sR (.fl 0 (.fx 1 (wNO (.nil)) .stop)) Z ?_))
 let aD:List Value:=[jV 0,.slice aP aK.length aT,.slice cU bO.length dE]
 refine oL Z (dX.ldBA (j:=3) Z Z fS yD ZK (vs:=aD) Z Z) ?_
 have q:=dX.freezeR (k:=1) (n:=aK.length) rfl (wAG (f:=wAF) (sz:=2) (fun _=>rfl) aK) (by decide)
 obtain ⟨gX,qN,pD,mH⟩:=q
 have mI:sW w U gX [am,.row cU dE 46 6 (hD wAD bO),.blk ae 28 aD,aq,aR] dt:=mH
 have q:=mI.freezeR (k:=1) (n:=bO.length) rfl (wAG (f:=wAD) (sz:=6) (fun _=>rfl) bO) (by decide)
 obtain ⟨fg,pK,pE,mJ⟩:=q
 have mK:sW w U fg [am,.blk ae 28 aD,aq,aR] dt:=mJ
 have f5:=pD.le pK
 have q:=bnd oH
 obtain ⟨⟨aa,pV⟩,lp,gD⟩:=q
 try dsimp only at gD
 refine zG 0 Z Z Z Z (zF Z Z Tryz.call11 (zA Z zL) Z) mK (fun hs=>wHJ (⟨0,aK,bO⟩:wAO) aP aT cU dE dt fg hs f5 pE lp) (.inr Z) ?_
 rintro bw qg q9 iv pL mL ⟨aX,be,rfl,rfl⟩
 let aM:Res:=.row aX be 52 3 (hD wAB aa)
 have dY:sW w U bw [aM,am,.blk ae 28 aD,aq,aR] iv:=mL
 refine oM Z Z (oR Z (ZX Z Z (v:=.slice aX aa.length be) Z) (oR Z (ZX Z Z (v:=jV pV) Z) (oA Z Z (oA Z Z (eN (zH (sR fL9 Z (oM Z Z (oR Z (Zf Z Z Z) (oM Z Z (ifc gD ?_ ?_)))))))))))
 intro aA oI
 refine zC Z Z Z (zU Z Z (zt (fun h=>h aA.out))) Z Z (zT Z Z Z (zU Z Z (zt (fun h=>h aA.out))) (fun _=>zw Z Z za) (zC Z Z Z (zU Z Z (zt (fun h=>h aA.out))) Z fT (zT Z Z Z (zU Z Z (zt (fun h=>h aA.out))) (fun _=>zw Z Z zN) (zT Z Z Z (zU Z Z (zt (fun h=>h aA.out))) (fun _=>Zf Z Z Z) (oR Z (zX Z (zt (fun h=>h aA.out)) Z) (eN (ifc oI ?_ ?_)))))))
 intro dG bG
 refine ze (zt (fun h=>h dG.out)) (kN (sR fL1 Z (oA Z Z (eN (zH (sR fL3 Z (oM Z Z (oR Z (zw Z Z za) (oM Z Z (eN (zP ?_)))))))))))
 have q:=wDW bG
 obtain ⟨qV,bF⟩:=q
 have q:=wDV bF
 obtain ⟨ek,n3⟩:=q
 replace ek:=zD ek
 refine yW (fun af bJ σ_ w_=>∃ (U_:PHeap) (bV:Option Addr) (cm:Nat),σ_ 144=jV (↑af:Int)/\σ_ 4=.pointer (some ⟨ae,0,none⟩)/\σ_ 7=.slice bp ao.length bz/\σ_ 17=.slice aX aa.length be/\σ_ 18=.slice bV bJ.length cm/\σ_ 142=.slice aX aa.length be/\σ_ 143=jV (↑aa.length:Int)/\PHeap.Le bw U_/\sW w U U_ [am,.blk ae 28 aD,aq,aM,.row bV cm 53 2 (hD wAt bJ)] w_) n3 ?_ ?_ ?_
 have mM:=dY.nilrow 53 2
 exact ⟨bw,none,0,rfl,fS,fT,rfl,rfl,rfl,rfl,(zS _),(mM.pick [2,3,4,1,0] _ (by decide) rfl)⟩
 rintro af bJ rg ro qm ee ⟨bb,bV,cm,dR,fU,dP,jo,jp,fV,fW,gM,dZ⟩ pG d9
 have fK:Hid ((↑af:Int) < (↑aa.length:Int)):=zD (wBh ee)
 replace ee:=zD ee
 have og:Hid (w64 ((↑af:Int) + 1)=(↑(af + 1):Int)):=zD (by have h1:=ek.out;have h2:=fK.out;rw [wAf] <;> omega)
 refine sR fL1 Z (oR Z (zK Z dR fW) (eN (zH (cT Z fK (kN (zH (zP (sR (.fl 0 (.fl 1 (.fx 2 (.fx 3 .nil .stop) .stop))) Z (bnK pG fun _ dT oJ=>?_)))))))))
 obtain ⟨qv,ga⟩:=dZ.rowSome (j:=3) rfl (by rw [wAG (f:=wAB) (sz:=3) (fun _=>rfl) aa];have hz:=wAK dT;omega)
 refine oR Z (ZS Z fV ga dR za zZ (wAK dT)) ?_
 have n8:=wAv (xs:=aa) (wAK dT)
 let bq:List Value:=[jV ((gd aa af).Bib),jV ((gd aa af).Place),jV ((gd aa af).Total)]
 refine zn rfl rfl rfl rfl (dZ.ldRA (j:=3) rfl ga rfl rfl ZZ zZ (vs:=bq) (wAy (sz:=3) (fun _=>rfl) _ _ _ n8 (by first | omega | rfl | simp) rfl) rfl) rfl (ZI (cs:=[jV 0,jV 0,jV 0]) rfl rfl rfl rfl rfl Tryz.zeroValue52 rfl dZ ?_)
 intro qn dw mN
 refine ZN (j:=0) (vs:=bq) Z Z Z Z mN Z Z Z Z zZ (zJ Z) Z Z Z ?_
 intro du mO
 let e7:Res:=.row bV cm 53 2 (hD wAt bJ)
 have mP:sW w U bb [.blk dw 52 bq,am,.blk ae 28 aD,aq,aM,e7] du:=mO
 refine eN (zH (zH (zx zp [3,1,3,3,3,1,3,3,3,3,3,3,1,3,1,3,1,3,3,3,1,3,3,1,3,3,1,3,3,3,3] fL31 (by kernel_rfl) ?_)))
 have au:=mP.drew
 generalize hw_W679:({ du with drawn:=du.drawn + 1 }:World)=qo at au ⊢
 refine oR Z (zO Z Z ZH Z zB) (oL Z (au.ldB (j:=0) Z Z Z zM (v:=jV ((gd aa af).Bib)) Z) (oR Z (zK Z Z Z) (oM Z Z (ifc oJ ?_ ?_))))
 intro aB oK
 refine oT Z aB (oT Z aB (oT Z aB (oT Z aB (oT Z aB (oR Z (zb Z (ZJ aB.out) Z) (oM Z Z (oN Z (oN Z (oN Z (oN Z (oN Z (oN Z (oN Z (oN Z (oN Z (oN Z (oN Z (oN Z (oN Z (oN Z (oN Z (oN Z (oN Z (oN Z (oN Z (oR Z (zb Z Z Z) (eN (ZB Z (sR fL1 Z (oA Z Z (eN (zR (zc (zq (zc ?_)))))))))))))))))))))))))))))))))))
 have q:=wAe oK
 obtain ⟨pP,oO,iT⟩:=q
 have q:=wDf bG bF (d9 pP iT)
 obtain rfl:=q
 refine zc (zq (zc ?_))
 have hE:=hJ oO;first | subst r | cases hE
 exact ⟨rfl,_,(zh rfl),bb,_,(au.pick [] _ (by decide) rfl),rfl,rfl⟩
 intro aB oP
 refine rU Z (wF Z aB) (zO Z Z ZH Z zB) (zn Z Z Z (wF Z aB) (au.ldB (j:=0) Z Z Z zM (v:=jV ((gd aa af).Bib)) Z) Z (zC Z Z Z (wF Z aB) Z dP (rU Z (wF Z aB) (zw Z Z zN) (rU Z (wF Z aB) (Zy Z Z Z) (oR Z (zX Z (zt aB.out) Z) (oM Z Z (ifc oP ?_ ?_)))))))
 intro J oQ
 refine oT Z J (oT Z J (oT Z J (oT Z J (oT Z J (oT Z J (oT Z J (oT Z J (oT Z J (oT Z J (oT Z J (oT Z J (oT Z J (oT Z J (oT Z J (oT Z J (oT Z J (oT Z J (oT Z J (oR Z (zb Z (ZJ J.out) Z) (eN (ZB Z (sR fL1 Z (oA Z Z (eN (zR (zc (zq (zc ?_))))))))))))))))))))))))))))
 have q:=wAe oQ
 obtain ⟨pQ,oS,iU⟩:=q
 have q:=wDf bG bF (d9 pQ iU)
 obtain rfl:=q
 refine zc (zq (zc ?_))
 have hE:=hJ oS;first | subst r | cases hE
 exact ⟨rfl,_,(zh rfl),bb,_,(au.pick [] _ (by decide) rfl),rfl,rfl⟩
 intro J oU
 refine rU Z (wF Z J) (zO Z Z ZH Z zB) (zn Z Z Z (wF Z J) (au.ldB (j:=0) Z Z Z zM (v:=jV ((gd aa af).Total)) Z) Z (rU Z (wF Z J) (zO Z fU zj Z Zu) (zn Z Z Z (wF Z J) (au.ldB (j:=2) Z Z Z yL (v:=.slice aP aK.length aT) Z) Z (rU Z (wF Z J) (zO Z Z ZH Z zB) (zn Z Z Z (wF Z J) (au.ldB (j:=0) Z Z Z zM (v:=jV ((gd aa af).Bib)) Z) Z (rU Z (wF Z J) (zg Z Z Z) (bnK oU fun pW dU oV=>?_)))))))
 have lq:=f5.le pL
 have lu:=lq.le gM
 have q:=lu.el (fun _=>rfl) (wBW dU)
 obtain ⟨qw,qT,ly,lA⟩:=q
 refine rU Z (wF Z J) (zm Z Z ly Z ZL Zh (wFE dU) (wFV dU)) (rU Z (wF Z J) (zO Z Z Zb Z zB) (zn Z Z Z (wF Z J) (au.ldC (f:=1) lA (v:=jV pW.Time) Z Z zM Z) Z (zC Z Z Z (wF Z J) Z dP (rU Z (wF Z J) (zO Z Z ZH Z zB) (zn Z Z Z (wF Z J) (au.ldB (j:=0) Z Z Z zM (v:=jV ((gd aa af).Bib)) Z) Z (rU Z (wF Z J) (zg Z Z Z) (bnK oV fun _ cx oW=>?_)))))))
 obtain ⟨qx,gb⟩:=au.rowSome (j:=3) rfl (by rw [wAG (f:=KL.encI) (sz:=1) (fun _=>rfl) ao];have hz:=wAK cx;omega)
 refine rU Z (wF Z J) (zm Z Z gb Z zN zB (wAh cx) (wAi cx)) ?_
 have n9:=wAv (xs:=ao) (wAK cx)
 refine zn rfl rfl rfl (zU rfl rfl (zt J.out)) (au.ldR (j:=3) rfl gb rfl rfl zM (wAT (sz:=1) (fun _=>rfl) _ _ 0 _ n9 (by first | omega | rfl | simp) rfl)) rfl (zT rfl rfl rfl (zU rfl rfl (zt J.out)) (fun _=>yV rfl rfl rfl) (zT rfl rfl rfl (zU rfl rfl (zt J.out)) (fun _=>zQ rfl rfl rfl) (zT rfl rfl rfl (zU rfl rfl (zt J.out)) (fun _=>Zf rfl rfl rfl) (zT rfl rfl rfl rfl (fun _=>zX rfl (zt J.out) rfl) (eN (ifc oW ?_ ?_))))))
 intro dH oZ
 refine ze (zt (fun h=>h dH.out)) (kN (rR (wIM gBr) Z (oM Z jp (oR Z (zO Z Z ZH Z zB) (oL Z (au.ldB (j:=0) Z Z Z zM (v:=jV ((gd aa af).Bib)) Z) (oR Z (zO Z Z ZH Z zB) (oL Z (au.ldB (j:=0) Z Z Z zM (v:=jV ((gd aa af).Total)) Z) ?_)))))))
 let dh:List Value:=[jV ((gd aa af).Bib),jV ((gd aa af).Total)]
 refine oR Z (ZD (pv:=[(0,jV ((gd aa af).Bib)),(1,jV ((gd aa af).Total))]) (z:=[jV 0,jV 0]) (cs:=dh) Z (wAI Z (wAI Z wAd)) yZ wKt Z Z) (ZM (pv:=[(0,.agg dh.toArray)]) (zs:=[jV 0,jV 0]) (cs:=dh) Z Z Z Z Z (wAI Z wAd) ZQ Za yZ Z Z Z Z Z au ?_)
 intro iz iH mQ
 let e8:Res:=.row (some ⟨iH,0,none⟩) 1 53 2 (hD wAt [(⟨(gd aa af).Bib,(gd aa af).Total⟩:wAJ)])
 have gk:sW w U bb [e8,.blk dw 52 bq,am,.blk ae 28 aD,aq,aM,e7] iz:=mQ
 refine bnK oZ fun eJ lv o3=>yB (j:=6) (enc:=wAt) (xs:=bJ) (ys:=[(⟨(gd aa af).Bib,(gd aa af).Total⟩:wAJ)]) (zs:=eJ) rfl rfl rfl rfl rfl Tryz.underlying50 wMp rfl rfl rfl rfl rfl rfl gk rfl rfl rfl (gk.srcR (j:=0) rfl (by decide) (wAG (f:=wAt) (sz:=2) (fun _=>rfl) [(⟨(gd aa af).Bib,(gd aa af).Total⟩:wAJ)])) (fun _=>rfl) (fun _=>rfl) lv rfl ?_
 intro cV dI iA mR
 have mS:sW w U bb [e8,.blk dw 52 bq,am,.blk ae 28 aD,aq,aM,.row cV dI 53 2 (hD wAt eJ)] iA:=mR
 refine oA Z Z (zY (zd (zI (CK.fresh fun bj aU=>?_))))
 have jq:bj 4=.pointer (some ⟨ae,0,none⟩):=(aU 4).trans fU
 have jr:bj 7=.slice bp ao.length bz:=(aU 7).trans dP
 have jt:bj 17=.slice aX aa.length be:=(aU 17).trans jo
 have ju:bj 18=.slice cV eJ.length dI:=(aU 18).trans rfl
 have jv:bj 142=.slice aX aa.length be:=(aU 142).trans fV
 have jw:bj 143=jV (↑aa.length:Int):=(aU 143).trans fW
 have jx:bj 144=jV (↑af:Int):=(aU 144).trans dR
 clear aU
 refine rR fL2 Z (oR Z (ZE (zQ Z jx Z) (congrArg (jV) og.out)) (oM Z Z (zY ?_)))
 have q:=hJ o3
 obtain rfl:=q
 exact zI ⟨rfl,_,rfl,⟨bb,cV,dI,rfl,jq,jr,jt,ju,jv,jw,gM,(mS.pick [2,3,4,5,6] _ (by decide) rfl)⟩⟩
 intro dH o5
 refine cT Z dH (sR fL1 Z (oA Z Z (eN (zR (zc (zq (zc ?_)))))))
 have q:=wAe o5
 obtain ⟨pR,o6,iV⟩:=q
 have q:=wDf bG bF (d9 pR iV)
 obtain rfl:=q
 refine zc (zq (zc ?_))
 have hE:=hJ o6;first | subst r | cases hE
 exact ⟨rfl,_,(zh rfl),bb,_,(au.pick [] _ (by decide) rfl),rfl,rfl⟩
 rintro eK rp fw ⟨qj,gT,iO,jD,qD,qE,fY,jy,qF,jz,qO,mT⟩ m6
 have o7:=wEB bG bF m6
 have iP:Hid (¬ ((↑(((↑aa.length:Int):Int) - 0).toNat:Int) < (↑aa.length:Int))):=zD (wBG)
 refine sR fL1 Z (oR Z (zK Z jD jz) (eN (zH (cF Z iP (zr (zV (zV (zk (zI (sR (.fl 0 (.fl 1 (.fx 2 (wNP (.nil)) .stop))) Z (oM Z jy (oR Z (ZD (pv:=[(0,jV 10),(1,jV 360000)]) (z:=[jV 0,jV 0]) (cs:=[jV 10,jV 360000]) Z (wAI Z (wAI Z wAd)) Tryz.zeroValue58 wKu Z Z) ?_))))))))))))
 have q:=mT.freezeR (k:=4) (n:=eK.length) rfl (wAG (f:=wAt) (sz:=2) (fun _=>rfl) eK) (by decide)
 obtain ⟨fh,qP,pF,mU⟩:=q
 have mV:sW w U fh [am,.blk ae 28 aD,aq,aM] fw:=mU
 have q:=bnd o7
 obtain ⟨⟨ax,pX⟩,lw,gE⟩:=q
 try dsimp only at gE
 refine zG 0 Z Z Z Z (zF Z Z Tryz.call12 (zA Z (zA Z zL)) Z) mV (fun hs=>wGZ eK gT iO (⟨10,360000⟩:wAX) fw fh hs pF lw) (.inr Z) ?_
 rintro bx qh rc iB qQ mW ⟨cW,dJ,rfl,rfl⟩
 let di:Res:=.row cW dJ 60 3 (hD wBa ax)
 have d7:sW w U bx [di,am,.blk ae 28 aD,aq,aM] iB:=mW
 refine oM Z Z (oR Z (ZX Z Z (v:=.slice cW ax.length dJ) Z) (oR Z (ZX Z Z (v:=jV pX) Z) (oA Z Z (oA Z Z (eN (zH (sR fL9 Z (oM Z Z (oR Z (Zf Z Z Z) (oM Z Z (ifc gE ?_ ?_)))))))))))
 intro aC o8
 refine zC Z Z Z (zU Z Z (zt (fun h=>h aC.out))) Z Z (zT Z Z Z (zU Z Z (zt (fun h=>h aC.out))) (fun _=>zw Z Z Tryz.runUnderlying54) (zC Z Z Z (zU Z Z (zt (fun h=>h aC.out))) Z fY (zT Z Z Z (zU Z Z (zt (fun h=>h aC.out))) (fun _=>zw Z Z za) (zT Z Z Z (zU Z Z (zt (fun h=>h aC.out))) (fun _=>Zf Z Z Z) (oR Z (zX Z (zt (fun h=>h aC.out)) Z) (eN (ifc o8 ?_ ?_)))))))
 intro dK cC
 refine ze (zt (fun h=>h dK.out)) (kN (zH (sR fL3 Z (oM Z Z (oR Z (zw Z Z Tryz.runUnderlying54) (oM Z Z (eN (zP ?_))))))))
 have q:=wDW cC
 obtain ⟨qW,cz⟩:=q
 have q:=wDV cz
 obtain ⟨en,n4⟩:=q
 replace en:=zD en
 refine yW (fun aJ _ σ_ w_=>∃ (U_:PHeap),σ_ 205=jV (↑aJ:Int)/\σ_ 17=.slice aX aa.length be/\σ_ 203=.slice cW ax.length dJ/\σ_ 204=jV (↑ax.length:Int)/\PHeap.Le bx U_/\sW w U U_ [am,.blk ae 28 aD,aM,di] w_) n4 ?_ ?_ ?_
 exact ⟨bx,rfl,fY,rfl,rfl,(zS _),(d7.pick [1,2,4,0] _ (by decide) rfl)⟩
 rintro aJ ⟨⟩ rh rq qp eh ⟨b8,cu,ct,fZ,f4,pM,d8⟩ gK gm
 try dsimp only at gK
 have fL:Hid ((↑aJ:Int) < (↑ax.length:Int)):=zD (wBh eh)
 replace eh:=zD eh
 have oh:Hid (w64 ((↑aJ:Int) + 1)=(↑(aJ + 1):Int)):=zD (by have h1:=en.out;have h2:=fL.out;rw [wAf] <;> omega)
 refine sR fL1 Z (oR Z (zK Z cu f4) (eN (zH (cT Z fL (kN (zH (zP (sR (wFi (.fx 3 (.fl 4 (.fx 5 .nil .stop)) .stop)) Z (oM Z cu (bnK gK fun _ dV o9=>?_))))))))))
 obtain ⟨qy,gc⟩:=d8.rowSome (j:=3) rfl (by rw [wAG (f:=wBa) (sz:=3) (fun _=>rfl) ax];have hz:=wAK dV;omega)
 refine oR Z (ZS Z fZ gc cu Tryz.runUnderlying54 Tryz.sizeOf60 (wAK dV)) ?_
 have oa:=wAv (xs:=ax) (wAK dV)
 let dm:List Value:=[jV ((gd ax aJ).Bib),jV ((gd ax aJ).Time),jV ((gd ax aJ).Gate)]
 refine zn rfl rfl rfl rfl (d8.ldRA (j:=3) rfl gc rfl rfl Tryz.isAgg60 Tryz.sizeOf60 (vs:=dm) (wAy (sz:=3) (fun _=>rfl) _ _ _ oa (by first | omega | rfl | simp) rfl) rfl) rfl (ZI (cs:=[jV 0,jV 0,jV 0]) rfl rfl rfl rfl rfl Tryz.zeroValue60 rfl d8 ?_)
 intro qq iI mX
 refine oA Z Z (ZN (j:=0) (vs:=dm) Z Z Z Z mX Z Z Z Z Tryz.sizeOf60 (zJ Z) Z Z Z ?_)
 intro dv mY
 have mZ:sW w U b8 [.blk iI 60 dm,am,.blk ae 28 aD,aM,di] dv:=mY
 refine eN (zH (zx zp [3,3,3,3,1,3,3,3,1,3,3] fL11 (by kernel_rfl) ?_))
 have bE:=mZ.drew
 generalize hw_W813:({ dv with drawn:=dv.drawn + 1 }:World)=fy at bE ⊢
 refine oM Z ct (oM Z Z (bnK o9 fun _ bD pa=>?_))
 obtain ⟨qz,bn⟩:=bE.rowSome (j:=3) rfl (by rw [wAG (f:=wAB) (sz:=3) (fun _=>rfl) aa];have hz:=wAK bD;omega)
 refine oR Z (ZS Z Z bn Z za zZ (wAK bD)) (oR Z (zO Z Z ZH Z zB) ?_)
 have oc:=wAv (xs:=aa) (wAK bD)
 refine zn rfl rfl rfl rfl (bE.ldR (j:=3) rfl bn rfl rfl zM (wAT (sz:=3) (fun _=>rfl) _ _ 2 _ oc (by first | omega | rfl | simp) rfl)) rfl (zC rfl rfl rfl rfl rfl ct (bnK pa fun _ f7 pb=>zT rfl rfl rfl rfl (fun _=>ZS rfl rfl bn rfl za zZ (wAK f7)) (zT rfl rfl rfl rfl (fun _=>zO rfl rfl ZH rfl zB) ?_)))
 have od:=wAv (xs:=aa) (wAK f7)
 refine zn rfl rfl rfl rfl (bE.ldR (j:=3) rfl bn rfl rfl zM (wAT (sz:=3) (fun _=>rfl) _ _ 2 _ od (by first | omega | rfl | simp) rfl)) rfl (zT rfl rfl rfl rfl (fun _=>zg rfl rfl rfl) (Zz rfl rfl rfl rfl rfl rfl (eN (zH (zx zp [3,1,3,3,3,3,1,3,3,3,1,3,3,3,3,3,3] fL17 (by kernel_rfl) ?_)))))
 have bg:=bE.drew
 generalize hw_W823:({ fy with drawn:=fy.drawn + 1 }:World)=qr at bg ⊢
 refine oR Z (zO Z Z Tryz.runUnderlying60 Z zB) (oL Z (bg.ldB (j:=0) Z Z Z zM (v:=jV ((gd ax aJ).Bib)) Z) (oM Z ct (oM Z Z (oR Z (ZS Z Z bn Z za zZ (wAK bD)) (oR Z (zO Z Z ZH Z zB) ?_)))))
 have oe:=wAv (xs:=aa) (wAK bD)
 refine zn rfl rfl rfl rfl (bg.ldR (j:=3) rfl bn rfl rfl zM (wAT (sz:=3) (fun _=>rfl) _ _ 0 _ oe (by first | omega | rfl | simp) rfl)) rfl (zT rfl rfl rfl rfl (fun _=>Zf rfl rfl rfl) (zC rfl rfl rfl rfl rfl rfl (ifc pb ?_ ?_)))
 intro ap pd
 refine zT Z Z Z (zU Z Z (zt (fun h=>h ap.out))) (fun _=>zO Z Z Tryz.runUnderlying60 Z zB) (zn Z Z Z (zU Z Z (zt (fun h=>h ap.out))) (bg.ldB (j:=0) Z Z Z zM (v:=jV ((gd ax aJ).Time)) Z) Z (zC Z Z Z (zU Z Z (zt (fun h=>h ap.out))) Z Z (zC Z Z Z (zU Z Z (zt (fun h=>h ap.out))) Z Z (bnK pd fun rd lx pe=>zT Z Z Z (zU Z Z (zt (fun h=>h ap.out))) (fun _=>Runs.rem Z Z Z lx) (zT Z Z Z (zU Z Z (zt (fun h=>h ap.out))) (fun _=>zg Z Z Z) (zT Z Z Z (zU Z Z (zt (fun h=>h ap.out))) (fun _=>Zf Z Z Z) (oR Z (zX Z (zt (fun h=>h ap.out)) Z) (eN (ifc pe ?_ ?_)))))))))
 intro dL pf
 refine ze (zt (fun h=>h dL.out)) (zo (zd (zI (rR fL2 Z (oR Z (ZE (zQ Z cu Z) (congrArg (jV) oh.out)) (oM Z Z (zY ?_)))))))
 have q:=hJ pf
 obtain rfl:=q
 exact zI ⟨rfl,_,rfl,⟨b8,rfl,ct,fZ,f4,pM,(bg.pick [1,2,3,4] _ (by decide) rfl)⟩⟩
 intro dL pg
 refine cT Z dL (sR fL1 Z (oA Z Z (eN (zR (zq (zc ?_))))))
 have q:=wAe pg
 obtain ⟨pS,ph,iW⟩:=q
 have q:=wDf cC cz (gm pS iW)
 obtain rfl:=q
 refine zc (zq (zc ?_))
 have hE:=hJ ph;first | subst r | cases hE
 exact ⟨rfl,_,(zh rfl),b8,_,(bg.pick [] _ (by decide) rfl),rfl,rfl⟩
 intro ap pi
 refine oT Z ap (oT Z ap (oT Z ap (oT Z ap (oT Z ap (oT Z ap (oT Z ap (oR Z (zb Z (ZJ ap.out) Z) (eN (ZB Z (sR fL1 Z (oA Z Z (eN (zR (zq (zc ?_)))))))))))))))
 have q:=wAe pi
 obtain ⟨pT,pj,iX⟩:=q
 have q:=wDf cC cz (gm pT iX)
 obtain rfl:=q
 refine zc (zq (zc ?_))
 have hE:=hJ pj;first | subst r | cases hE
 exact ⟨rfl,_,(zh rfl),b8,_,(bg.pick [] _ (by decide) rfl),rfl,rfl⟩
 rintro ⟨⟩ rt qs ⟨gY,jE,qG,qH,jA,qS,m0⟩ m7
 have gF:=wEB cC cz m7
 try dsimp only at gF
 have iQ:Hid (¬ ((↑(((↑ax.length:Int):Int) - 0).toNat:Int) < (↑ax.length:Int))):=zD (wBG)
 refine sR fL1 Z (oR Z (zK Z jE jA) (eN (zH (cF Z iQ (zr (zV (zV (zk (zI (sR fL1 Z (oA Z Z (eN (zR ?_)))))))))))))
 have hE:=hJ gF;first | subst r | cases hE
 exact ⟨rfl,_,(zh rfl),gY,_,(m0.pick [] _ (by decide) rfl),rfl,rfl⟩
 intro dK pk
 refine cT Z dK (sR fL1 Z (oA Z Z (eN (zR (zc ?_)))))
 have hE:=hJ pk;first | subst r | cases hE
 exact ⟨rfl,_,(zh rfl),bx,_,(d7.pick [] _ (by decide) rfl),rfl,rfl⟩
 intro aC pm
 refine oT Z aC (oT Z aC (oT Z aC (oT Z aC (oT Z aC (oR Z (zb Z (ZJ aC.out) Z) (eN (ZB Z (sR fL1 Z (oA Z Z (eN (zR (zc ?_))))))))))))
 have hE:=hJ pm;first | subst r | cases hE
 exact ⟨rfl,_,(zh rfl),bx,_,(d7.pick [] _ (by decide) rfl),rfl,rfl⟩
 intro dG pn
 refine cT Z dG (sR fL1 Z (oA Z Z (eN (zR (zc ?_)))))
 have hE:=hJ pn;first | subst r | cases hE
 exact ⟨rfl,_,(zh rfl),bw,_,(dY.pick [] _ (by decide) rfl),rfl,rfl⟩
 intro aA po
 refine oT Z aA (oT Z aA (oT Z aA (oT Z aA (oT Z aA (oR Z (zb Z (ZJ aA.out) Z) (eN (ZB Z (sR fL1 Z (oA Z Z (eN (zR (zc ?_))))))))))))
 have hE:=hJ po;first | subst r | cases hE
 exact ⟨rfl,_,(zh rfl),bw,_,(dY.pick [] _ (by decide) rfl),rfl,rfl⟩
 intro dF pp
 refine cT Z dF (sR fL1 Z (oA Z Z (eN (zR (zc ?_)))))
 have hE:=hJ pp;first | subst r | cases hE
 exact ⟨rfl,_,(zh rfl),gW,_,(dX.pick [] _ (by decide) rfl),rfl,rfl⟩
 intro dB pq
 refine cT Z dB (sR fL1 Z (oA Z Z (eN (zR (zc ?_)))))
 have hE:=hJ pq;first | subst r | cases hE
 exact ⟨rfl,_,(zh rfl),b4,_,(gi.pick [] _ (by decide) rfl),rfl,rfl⟩
end Go.Proofs.YtlmekamhphnmjaaGreat
