import Derived.Test.YtghaibkggdecnaaGreatY8
import Derived.Test.YtghaibkggdecnaaGreatY7
set_option linter.all false
open Option.some renaming inj->nA
open List renaming flatMap->nB,getElem_cons_succ->nG,getElem_cons_zero->nH,getElem_toArray->nI,length_set->nK,set->nL
open Go.Value renaming bool->nD
open Bool renaming eq_false_iff->nE
open Int renaming toNat_natCast->nJ
namespace Go.Proofs.YtghaibkggdecnaaGreat
open Go.KL
set_option maxHeartbeats 4000000
theorem wCf (p0:List wAE) (pA0:Option Addr) (pc0:Nat) (p1:List wAE) (pA1:Option Addr) (pc1:Nat) (w:World) (U:PHeap) (hS:St0 w U []) (ha0:Sl U 3 pA0 pc0 p0.length (nB wAQ p0)) (ha1:Sl U 3 pA1 pc1 p1.length (nB wAQ p1)) {r:Bool} (hm:wAj p0 p1=some r):Gv Tryz.prog 50 [.slice pA0 p0.length pc0,.slice pA1 p1.length pc1] w (wCQ w [] U (fun U_ L_ v=>v=.bool r/\L_=[])):=by
 unfold wAj at hm
 refine Gv.of Tryz.func50 Z Tryz.ntmps50 Tryz.results50 Z (sR fL1 Z (oA Z Z (eN (zA (sR fL5 Z (oM Z Z (oR Z (zV Z Z zr) (oM Z Z (oR Z (zV Z Z zr) (oR Z (ZU Z Z Z) (eN ?_)))))))))))
 by_cases c1:(↑p0.length:Int)=(↑p1.length:Int)
 ·have hm2:=hm;rw [if_pos c1] at hm2;replace c1:=zC c1
  refine zg (ZN (fun h=>h c1.out)) (kN (zA (sR fL3 Z (oM Z Z (oR Z (zV Z Z zr) (oM Z Z (eN (zM ?_))))))))
  have q:=wBs hm2
  obtain ⟨r5,hX6⟩:=q
  have q:=wBr hX6
  obtain ⟨hle7,hf8⟩:=q
  replace hle7:=zC hle7
  refine ZV (fun k4 _ σ_ w_=>∃ (U_:PHeap),σ_ 13=jV (↑k4:Int)/\σ_ 0=.slice pA0 p0.length pc0/\σ_ 1=.slice pA1 p1.length pc1/\σ_ 12=jV (↑p0.length:Int)/\PHeap.Le U U_/\sW w U U_ [] w_) hf8 ?_ ?_ ?_
  ·exact ⟨U,Z,Z,Z,Z,(zS _),hS⟩
  ·rintro k4 ⟨⟩ xx11 σ9 W10 hk14 ⟨U16,fi15,f19,f20,f21,le17,hS18⟩ hx12 hb13
   try dsimp only at hx12
   have c22:Hid ((↑k4:Int) < (↑p0.length:Int)):=zC (wBL hk14)
   replace hk14:=zC hk14
   have hi23:Hid (w64 ((↑k4:Int) + 1)=(↑(k4 + 1):Int)):=zC (by have h1:=hle7.out;have h2:=c22.out;rw [wAe] <;> omega)
   refine sR fL1 rfl (zx rfl rfl rfl rfl (fun _=>zN rfl fi15 f21) (eN (zA (cT Z c22 (kN (zA (zM (sR fL2 rfl (zk rfl rfl rfl rfl rfl fi15 (OKS.ra rfl rfl rfl rfl rfl rfl (eN (zA (ZK ZJ [3,3,3,1,3,3,3,1,3] fL9 (by kernel_rfl) ?_)))))))))))))
   have hS24:=hS18.drew
   generalize hw_W25:({ W10 with drawn:=W10.drawn + 1 }:World)=W25 at hS24 ⊢
   refine oM Z f19 (oM Z Z (bnK hx12 fun x26 h27 hm28=>?_))
   have h29:=ha0.le le17
   have q:=h29.el (fun _=>rfl) (wAU h27)
   obtain ⟨b30,off31,hA32,hC33⟩:=q
   refine oR Z (ze Z Z hA32 Z zr ZH (wAu h27)) (oL Z (hS24.ldCA (f:=0) hC33 Z Z Tryz.isAgg62 ZH (us:=[jV x26.Bib,jV x26.Nation,jV x26.Rank]) Z Z) (oM Z f20 (oM Z Z (bnK hm28 fun x34 h35 hm36=>?_))))
   have h37:=ha1.le le17
   have q:=h37.el (fun _=>rfl) (wAU h35)
   obtain ⟨b38,off39,hA40,hC41⟩:=q
   refine oR Z (ze Z Z hA40 Z zr ZH (wAu h35)) (oL Z (hS24.ldCA (f:=0) hC41 Z Z Tryz.isAgg62 ZH (us:=[jV x34.Bib,jV x34.Nation,jV x34.Rank]) Z Z) (oR Z (zl (Runs.neS (enc:=wAQ) (a:=x26) (b:=x34) Z Z Z eqT62 eqG62) (congrArg nD (decide_not).symm)) (eN (ifc hm36 ?_ ?_))))
   ·intro c42 hm43
    refine zg (ZN (fun h=>h c42.out)) (ZF (zX (zE (rR fL2 Z (oR Z (zl (zU Z fi15 Z) (congrArg (jV) hi23.out)) (oM Z Z (zi ?_)))))))
    obtain rfl:=nA hm43
    exact zE ⟨Z,_,Z,⟨U16,Z,f19,f20,f21,le17,hS24⟩⟩
   ·intro c42 hm44
    refine cT Z c42 (sR fL1 Z (oA Z Z (eN (zK (zW (zG ?_))))))
    have q:=wAl hm44
    obtain ⟨v45,hm46,e47⟩:=q
    obtain rfl:=wBt hm2 hX6 (hb13 v45 e47)
    refine zG (zW (zG ?_))
    have hE:=nA hm46;first | subst r | cases hE
    exact ⟨Z,_,(zm Z),U16,_,hS24,Z,Z⟩
  ·rintro ⟨⟩ σ48 W49 ⟨U52,fi51,f55,f56,f57,le53,hS54⟩ hb50
   have hm58:=wCR hm2 hX6 hb50
   try dsimp only at hm58
   have c59:Hid (¬ ((↑(((↑p0.length:Int):Int) - 0).toNat:Int) < (↑p0.length:Int))):=zC (wAv)
   refine sR fL1 Z (oR Z (zN Z fi51 f57) (eN (zA (cF Z c59 (zt (zQ (zQ (zn (zE (sR fL1 Z (oA Z Z (eN (zK ?_)))))))))))))
   have hE:=nA hm58;first | subst r | cases hE
   exact ⟨Z,_,(zm Z),U52,_,hS54,Z,Z⟩
 ·have hm60:=hm;rw [if_neg c1] at hm60;replace c1:=zC c1
  refine cT Z c1 (sR fL1 Z (oA Z Z (eN (zK (zG ?_)))))
  have hE:=nA hm60;first | subst r | cases hE
  exact ⟨Z,_,(zm Z),U,_,hS,Z,Z⟩
theorem wCg (p0:List wAA) (pA0:Option Addr) (pc0:Nat) (p1:List wAA) (pA1:Option Addr) (pc1:Nat) (w:World) (U:PHeap) (hS:St0 w U []) (ha0:Sl U 3 pA0 pc0 p0.length (nB wAC p0)) (ha1:Sl U 3 pA1 pc1 p1.length (nB wAC p1)) {r:Bool} (hm:wAk p0 p1=some r):Gv Tryz.prog 27 [.slice pA0 p0.length pc0,.slice pA1 p1.length pc1] w (wCQ w [] U (fun U_ L_ v=>v=.bool r/\L_=[])):=by
 unfold wAk at hm
 refine Gv.of Tryz.func27 Z Tryz.ntmps27 Tryz.results27 Z (sR fL1 Z (oA Z Z (eN (zA (sR fL5 Z (oM Z Z (oR Z (zV Z Z zL) (oM Z Z (oR Z (zV Z Z zL) (oR Z (ZU Z Z Z) (eN ?_)))))))))))
 by_cases c1:(↑p0.length:Int)=(↑p1.length:Int)
 ·have hm2:=hm;rw [if_pos c1] at hm2;replace c1:=zC c1
  refine zg (ZN (fun h=>h c1.out)) (kN (zA (sR fL3 Z (oM Z Z (oR Z (zV Z Z zL) (oM Z Z (eN (zM ?_))))))))
  have q:=wBs hm2
  obtain ⟨r5,hX6⟩:=q
  have q:=wBr hX6
  obtain ⟨hle7,hf8⟩:=q
  replace hle7:=zC hle7
  refine ZV (fun k4 _ σ_ w_=>∃ (U_:PHeap),σ_ 13=jV (↑k4:Int)/\σ_ 0=.slice pA0 p0.length pc0/\σ_ 1=.slice pA1 p1.length pc1/\σ_ 12=jV (↑p0.length:Int)/\PHeap.Le U U_/\sW w U U_ [] w_) hf8 ?_ ?_ ?_
  ·exact ⟨U,Z,Z,Z,Z,(zS _),hS⟩
  ·rintro k4 ⟨⟩ xx11 σ9 W10 hk14 ⟨U16,fi15,f19,f20,f21,le17,hS18⟩ hx12 hb13
   try dsimp only at hx12
   have c22:Hid ((↑k4:Int) < (↑p0.length:Int)):=zC (wBL hk14)
   replace hk14:=zC hk14
   have hi23:Hid (w64 ((↑k4:Int) + 1)=(↑(k4 + 1):Int)):=zC (by have h1:=hle7.out;have h2:=c22.out;rw [wAe] <;> omega)
   refine sR fL1 rfl (zx rfl rfl rfl rfl (fun _=>zN rfl fi15 f21) (eN (zA (cT Z c22 (kN (zA (zM (sR fL2 rfl (zk rfl rfl rfl rfl rfl fi15 (OKS.ra rfl rfl rfl rfl rfl rfl (eN (zA (ZK ZJ [3,3,3,1,3,3,3,1,3] fL9 (by kernel_rfl) ?_)))))))))))))
   have hS24:=hS18.drew
   generalize hw_W25:({ W10 with drawn:=W10.drawn + 1 }:World)=W25 at hS24 ⊢
   refine oM Z f19 (oM Z Z (bnK hx12 fun x26 h27 hm28=>?_))
   have h29:=ha0.le le17
   have q:=h29.el (fun _=>rfl) (wAU h27)
   obtain ⟨b30,off31,hA32,hC33⟩:=q
   refine oR Z (ze Z Z hA32 Z zL zf (wAu h27)) (oL Z (hS24.ldCA (f:=0) hC33 Z Z ZW zf (us:=[jV x26.Bib,jV x26.Time,jV x26.Gate]) Z Z) (oM Z f20 (oM Z Z (bnK hm28 fun x34 h35 hm36=>?_))))
   have h37:=ha1.le le17
   have q:=h37.el (fun _=>rfl) (wAU h35)
   obtain ⟨b38,off39,hA40,hC41⟩:=q
   refine oR Z (ze Z Z hA40 Z zL zf (wAu h35)) (oL Z (hS24.ldCA (f:=0) hC41 Z Z ZW zf (us:=[jV x34.Bib,jV x34.Time,jV x34.Gate]) Z Z) (oR Z (zl (Runs.neS (enc:=wAC) (a:=x26) (b:=x34) Z Z Z eqT54 eqG54) (congrArg nD (decide_not).symm)) (eN (ifc hm36 ?_ ?_))))
   ·intro c42 hm43
    refine zg (ZN (fun h=>h c42.out)) (ZF (zX (zE (rR fL2 Z (oR Z (zl (zU Z fi15 Z) (congrArg (jV) hi23.out)) (oM Z Z (zi ?_)))))))
    obtain rfl:=nA hm43
    exact zE ⟨Z,_,Z,⟨U16,Z,f19,f20,f21,le17,hS24⟩⟩
   ·intro c42 hm44
    refine cT Z c42 (sR fL1 Z (oA Z Z (eN (zK (zW (zG ?_))))))
    have q:=wAl hm44
    obtain ⟨v45,hm46,e47⟩:=q
    obtain rfl:=wBt hm2 hX6 (hb13 v45 e47)
    refine zG (zW (zG ?_))
    have hE:=nA hm46;first | subst r | cases hE
    exact ⟨Z,_,(zm Z),U16,_,hS24,Z,Z⟩
  ·rintro ⟨⟩ σ48 W49 ⟨U52,fi51,f55,f56,f57,le53,hS54⟩ hb50
   have hm58:=wCR hm2 hX6 hb50
   try dsimp only at hm58
   have c59:Hid (¬ ((↑(((↑p0.length:Int):Int) - 0).toNat:Int) < (↑p0.length:Int))):=zC (wAv)
   refine sR fL1 Z (oR Z (zN Z fi51 f57) (eN (zA (cF Z c59 (zt (zQ (zQ (zn (zE (sR fL1 Z (oA Z Z (eN (zK ?_)))))))))))))
   have hE:=nA hm58;first | subst r | cases hE
   exact ⟨Z,_,(zm Z),U52,_,hS54,Z,Z⟩
 ·have hm60:=hm;rw [if_neg c1] at hm60;replace c1:=zC c1
  refine cT Z c1 (sR fL1 Z (oA Z Z (eN (zK (zG ?_)))))
  have hE:=nA hm60;first | subst r | cases hE
  exact ⟨Z,_,(zm Z),U,_,hS,Z,Z⟩
theorem wDI (p0:List wAE) (pA0:Option Addr) (pc0:Nat) (p1:Int) (p2:List wAA) (pA2:Option Addr) (pc2:Nat) (p3:Int) (p4:Int) (w:World) (U:PHeap) (hS:St0 w U []) (ha0:Sl U 3 pA0 pc0 p0.length (nB wAQ p0)) (ha1:Sl U 3 pA2 pc2 p2.length (nB wAC p2)) {r:Bool} (hm:wBH p0 p1 p2 p3 p4=some r):Gv Tryz.prog 10 [.slice pA0 p0.length pc0,jV p1,.slice pA2 p2.length pc2,jV p3,jV p4] w (wCQ w [] U (fun U_ L_ v=>v=.bool r/\L_=[])):=by
 unfold wBH at hm
 refine Gv.of Tryz.func10 Z Tryz.ntmps10 Tryz.results10 Z (sR fL1 Z (oA Z Z (eN (zA (sR fL8 Z (oM Z Z (oR Z (zV Z Z zr) (oR Z (ZR Z Z Z) (oM Z Z ?_)))))))))
 by_cases c1:64 < (↑p0.length:Int)
 ·have hm2:=hm;rw [if_pos c1] at hm2;replace c1:=zC c1
  refine oT Z c1 (oT Z c1 (oT Z c1 (oR Z (ZC Z (wGn c1.out) Z) (eN (zj Z (sR (.fx 0 (.fl 1 (.nil)) .stop) Z (bnK hm2 fun x3 h4 hm5=>zI 0 Z Z Z Z (zJ Z Z Tryz.call11 zO Z) hS (fun hs=>wCB w U hs h4) (.inr Z) ?_)))))))
  rintro U6 L7 v8 W9 le10 hS11 ⟨rfl,rfl⟩
  have hS12:sW w U U6 [] W9:=hS11
  refine oA Z Z (eN (zK (zG ?_)))
  have hE:=nA hm5;first | subst r | cases hE
  exact ⟨Z,_,(zm Z),U6,_,hS12,Z,Z⟩
 ·have hm13:=hm;rw [if_neg c1] at hm13;replace c1:=zC c1
  refine zk Z Z Z (wF Z c1) Z Z (rU Z (wF Z c1) (zV Z Z zL) (rU Z (wF Z c1) (ZR Z Z Z) (oR Z (ZB Z (ZN c1.out) Z) (eN (ifc hm13 ?_ ?_)))))
  ·intro c14 hm15
   refine cT Z c14 (sR (.fx 0 (.fl 1 (.nil)) .stop) Z (bnK hm15 fun x16 h17 hm18=>zI 0 Z Z Z Z (zJ Z Z Tryz.call11 zO Z) hS (fun hs=>wCB w U hs h17) (.inr Z) ?_))
   rintro U19 L20 v21 W22 le23 hS24 ⟨rfl,rfl⟩
   have hS25:sW w U U19 [] W22:=hS24
   refine oA Z Z (eN (zK (zG ?_)))
   have hE:=nA hm18;first | subst r | cases hE
   exact ⟨Z,_,(zm Z),U19,_,hS25,Z,Z⟩
  ·intro c14 hm26
   refine cF Z c14 (kN (sR (.fl 0 (.fx 1 (.fl 2 (.fx 3 (.fl 4 (.fx 5 (wRJ (.nil)) .stop)) .stop)) .stop)) Z (oM Z Z (bnK hm26 fun x27 h28 hm29=>zI 0 Z Z Z Z (zJ Z Z Tryz.call38 (zB Z zO) Z) hS (fun hs=>wCd p0 pA0 pc0 w U hs ha0 h28) (.inr Z) ?_))))
   rintro U30 L31 v32 W33 le34 hS35 ⟨A36,c37,rfl,rfl⟩
   let B0:Res:=.row A36 c37 62 3 (nB wAQ x27)
   have hS39:sW w U U30 [B0] W33:=hS35
   refine oM Z Z ?_
   have h40:=ha1.le le34
   refine bnK hm29 fun x41 h42 hm43=>zI 0 Z Z Z Z (zJ Z Z Tryz.call65 (zB Z zO) Z) hS39 (fun hs=>wCe p2 pA2 pc2 W33 U30 hs h40 h42) (.inr Z) ?_
   rintro U44 L45 v46 W47 le48 hS49 ⟨A50,c51,rfl,rfl⟩
   let B1:Res:=.row A50 c51 54 3 (nB wAC x41)
   have hS53:sW w U U44 [B1,B0] W47:=hS49
   refine oM Z Z ?_
   have h54:=h40.le le48
   refine bnK hm43 fun x55 h56 hm57=>zI 0 Z Z Z Z (zJ Z Z Tryz.call66 (zB Z zO) Z) hS53 (fun hs=>wCs p2 pA2 pc2 W47 U44 hs h54 h56) (.inr Z) ?_
   rintro U58 L59 v60 W61 le62 hS63 ⟨A64,c65,rfl,rfl⟩
   let B2:Res:=.row A64 c65 132 3 (nB wAB x55)
   have hS67:sW w U U58 [B2,B1,B0] W61:=hS63
   refine oA Z Z (oA Z Z (oA Z Z (eN (sR (.fl 0 (.fl 1 (.fx 2 (wPj (.nil)) .stop))) Z (oM Z Z (oM Z Z ?_))))))
   have q:=hS67.freezeR (k:=2) (n:=x27.length) rfl (wAF (f:=wAQ) (sz:=3) (fun _=>rfl) x27) (by decide)
   obtain ⟨U68,le69,hs70,hS71⟩:=q
   have hS72:sW w U U68 [B2,B1] W61:=hS71
   have q:=bnd hm57
   obtain ⟨⟨x73,x74⟩,h75,hm76⟩:=q
   try dsimp only at hm76
   refine zI 0 Z Z Z Z (zJ Z Z Tryz.call30 (zB Z (zB Z zO)) Z) hS72 (fun hs=>wHb x27 A36 c37 p1 W61 U68 hs hs70 h75) (.inr Z) ?_
   rintro U77 L78 v79 W80 le81 hS82 ⟨A83,c84,rfl,rfl⟩
   let B3:Res:=.row A83 c84 70 3 (nB wBI x73)
   have hS86:sW w U U77 [B3,B2,B1] W80:=hS82
   refine oM Z Z (oR Z (Zb Z Z (v:=.slice A83 x73.length c84) Z) (oR Z (Zb Z Z (v:=jV x74) Z) (oA Z Z (oA Z Z (eN (sR (.fl 0 (.fx 1 (.fl 2 (.fx 3 (wPk (.nil)) .stop)) .stop)) Z (oM Z Z ?_)))))))
   have h87:=ha0.le le34
   have h88:=h87.le le48
   have h89:=h88.le le62
   have h90:=h89.le le69
   have h91:=h90.le le81
   refine bnK hm76 fun x92 h93 hm94=>zI 0 Z Z Z Z (zJ Z Z Tryz.call40 (zB Z zO) Z) hS86 (fun hs=>wED p0 pA0 pc0 W80 U77 hs h91 h93) (.inr Z) ?_
   rintro U95 L96 v97 W98 le99 hS100 ⟨A101,c102,rfl,rfl⟩
   have hS104:sW w U U95 [.row A101 c102 157 3 (nB wAR x92),B3,B2,B1] W98:=hS100
   refine oM Z Z ?_
   have q:=hS104.freezeR (k:=0) (n:=x92.length) rfl (wAF (f:=wAR) (sz:=3) (fun _=>rfl) x92) (by decide)
   obtain ⟨U105,le106,hs107,hS108⟩:=q
   have hS109:sW w U U105 [B3,B2,B1] W98:=hS108
   have q:=bnd hm94
   obtain ⟨⟨x110,x111⟩,h112,hm113⟩:=q
   try dsimp only at hm113
   refine zI 0 Z Z Z Z (zJ Z Z Tryz.call67 (zB Z (zB Z zO)) Z) hS109 (fun hs=>wEF x92 A101 c102 p1 W98 U105 hs hs107 h112) (.inr Z) ?_
   rintro U114 L115 v116 W117 le118 hS119 ⟨A120,c121,rfl,rfl⟩
   let B4:Res:=.row A120 c121 117 3 (nB wAL x110)
   have hS123:sW w U U114 [B4,B3,B2,B1] W117:=hS119
   refine oM Z Z (oR Z (Zb Z Z (v:=.slice A120 x110.length c121) Z) (oR Z (Zb Z Z (v:=jV x111) Z) (oA Z Z (oA Z Z (eN (zA (sR fL10 Z (oM Z Z (oM Z Z (oR Z (ZU Z Z Z) (oM Z Z (ifc hm113 ?_ ?_))))))))))))
   ·intro c124 hm125
    refine zk Z Z Z (zh Z Z (ZN (fun h=>h c124.out))) Z Z (zx Z Z Z (zh Z Z (ZN (fun h=>h c124.out))) (fun _=>zV Z Z Tryz.runUnderlying63) (zk Z Z Z (zh Z Z (ZN (fun h=>h c124.out))) Z Z (zx Z Z Z (zh Z Z (ZN (fun h=>h c124.out))) (fun _=>zV Z Z Tryz.runUnderlying114) (zx Z Z Z (zh Z Z (ZN (fun h=>h c124.out))) (fun _=>ZU Z Z Z) (oR Z (ZB Z (ZN (fun h=>h c124.out)) Z) (eN (ifc hm125 ?_ ?_)))))))
    ·intro c126 hm127
     refine zg (ZN (fun h=>h c126.out)) (kN (zA (zA (CK.fresh fun σ128 hσ129=>?_))))
     have f130:σ128 0=.slice pA0 p0.length pc0:=(hσ129 0).trans rfl
     have f131:σ128 2=.slice pA2 p2.length pc2:=(hσ129 2).trans rfl
     have f132:σ128 3=jV p3:=(hσ129 3).trans rfl
     have f133:σ128 4=jV p4:=(hσ129 4).trans rfl
     have f134:σ128 11=.slice A36 x27.length c37:=(hσ129 11).trans rfl
     have f135:σ128 12=.slice A50 x41.length c51:=(hσ129 12).trans rfl
     have f136:σ128 13=.slice A64 x55.length c65:=(hσ129 13).trans rfl
     have f137:σ128 14=.slice A83 x73.length c84:=(hσ129 14).trans rfl
     have f138:σ128 16=.slice A120 x110.length c121:=(hσ129 16).trans rfl
     clear hσ129
     refine rR fL3 Z (oM Z f137 (oR Z (zV Z Z Tryz.runUnderlying63) (oM Z Z (eN (zM ?_)))))
     have q:=wBs hm127
     obtain ⟨r142,hX143⟩:=q
     have q:=wBr hX143
     obtain ⟨hle144,hf145⟩:=q
     replace hle144:=zC hle144
     refine ZV (fun k141 _ σ_ w_=>∃ (U_:PHeap),σ_ 64=jV (↑k141:Int)/\σ_ 0=.slice pA0 p0.length pc0/\σ_ 2=.slice pA2 p2.length pc2/\σ_ 3=jV p3/\σ_ 4=jV p4/\σ_ 11=.slice A36 x27.length c37/\σ_ 12=.slice A50 x41.length c51/\σ_ 13=.slice A64 x55.length c65/\σ_ 14=.slice A83 x73.length c84/\σ_ 16=.slice A120 x110.length c121/\σ_ 63=jV (↑x73.length:Int)/\PHeap.Le U114 U_/\sW w U U_ [B1,B2,B3,B4] w_) hf145 ?_ ?_ ?_
     ·exact ⟨U114,rfl,f130,f131,f132,f133,f134,f135,f136,f137,f138,rfl,(zS _),(hS123.pick [3,2,1,0] _ (by decide) rfl)⟩
     ·rintro k141 ⟨⟩ xx148 σ146 W147 hk151 ⟨U153,fi152,f156,f157,f158,f159,f160,f161,f162,f163,f164,f165,le154,hS155⟩ hx149 hb150
      try dsimp only at hx149
      have c166:Hid ((↑k141:Int) < (↑x73.length:Int)):=zC (wBL hk151)
      replace hk151:=zC hk151
      have hi167:Hid (w64 ((↑k141:Int) + 1)=(↑(k141 + 1):Int)):=zC (by have h1:=hle144.out;have h2:=c166.out;rw [wAe] <;> omega)
      refine sR fL1 rfl (zx rfl rfl rfl rfl (fun _=>zN rfl fi152 f165) (eN (zA (cT Z c166 (kN (zA (zM (sR fL2 rfl (zk rfl rfl rfl rfl rfl fi152 (OKS.ra rfl rfl rfl rfl rfl rfl (eN (zA (ZK ZJ [3,3,3,1,3,3,3,1,3] fL9 (by kernel_rfl) ?_)))))))))))))
      have hS168:=hS155.drew
      generalize hw_W169:({ W147 with drawn:=W147.drawn + 1 }:World)=W169 at hS168 ⊢
      refine oM Z f163 (oM Z Z (bnK hx149 fun _ h170 hm171=>?_))
      obtain ⟨b172,hA173⟩:=hS168.rowSome (j:=2) rfl (by rw [wAF (f:=wBI) (sz:=3) (fun _=>rfl) x73];have hz:=wBJ h170;omega)
      refine oR Z (ze Z Z hA173 Z Tryz.runUnderlying63 Tryz.sizeOf70 (wBJ h170)) ?_
      have hg174:=wCK (xs:=x73) (wBJ h170)
      refine OKS.m rfl rfl rfl rfl (hS168.ldRA (j:=2) rfl hA173 rfl rfl Tryz.isAgg70 Tryz.sizeOf70 (vs:=[jV ((gd x73 k141).Bib),jV ((gd x73 k141).Row),jV ((gd x73 k141).Lane)]) (wFr (sz:=3) (fun _=>rfl) _ _ _ hg174 (by first | omega | rfl | simp) rfl) rfl) rfl (zk rfl rfl rfl rfl rfl f164 (zk rfl rfl rfl rfl rfl rfl (bnK hm171 fun _ h175 hm176=>?_)))
      obtain ⟨b177,hA178⟩:=hS168.rowSome (j:=3) rfl (by rw [wAF (f:=wAL) (sz:=3) (fun _=>rfl) x110];have hz:=wBJ h175;omega)
      refine oR Z (ze Z Z hA178 Z Tryz.runUnderlying114 Tryz.sizeOf117 (wBJ h175)) ?_
      have hg179:=wCK (xs:=x110) (wBJ h175)
      refine OKS.m rfl rfl rfl rfl (hS168.ldRA (j:=3) rfl hA178 rfl rfl Tryz.isAgg117 Tryz.sizeOf117 (vs:=[jV ((gd x110 k141).Bib),jV ((gd x110 k141).Row),jV ((gd x110 k141).Lane)]) (wFr (sz:=3) (fun _=>rfl) _ _ _ hg179 (by first | omega | rfl | simp) rfl) rfl) rfl (zx rfl rfl rfl rfl (fun _=>zl (Runs.neS (enc:=wAL) (a:=(⟨(gd x73 k141).Bib,(gd x73 k141).Row,(gd x73 k141).Lane⟩:wAP)) (b:=(gd x110 k141)) rfl rfl rfl wQp wQo) (congrArg nD (decide_not).symm)) (eN (ifc hm176 ?_ ?_)))
      ·intro c180 hm181
       refine zg (ZN (fun h=>h c180.out)) (ZF (zX (zE (rR fL2 Z (oR Z (zl (zU Z fi152 Z) (congrArg (jV) hi167.out)) (oM Z Z (zi ?_)))))))
       obtain rfl:=nA hm181
       exact zE ⟨Z,_,Z,⟨U153,Z,f156,f157,f158,f159,f160,f161,f162,f163,f164,f165,le154,hS168⟩⟩
      ·intro c180 hm182
       refine cT Z c180 (sR fL1 Z (oA Z Z (eN (zK (zW (zG ?_))))))
       have q:=wAl hm182
       obtain ⟨v183,hm184,e185⟩:=q
       obtain rfl:=wBt hm127 hX143 (hb150 v183 e185)
       refine zG (zW (zG ?_))
       have hE:=nA hm184;first | subst r | cases hE
       exact ⟨rfl,_,(zm rfl),U153,_,(hS168.pick [] _ (by decide) rfl),rfl,rfl⟩
     ·rintro ⟨⟩ σ186 W187 ⟨U190,fi189,f193,f194,f195,f196,f197,f198,f199,f200,f201,f202,le191,hS192⟩ hb188
      have hm203:=wCR hm127 hX143 hb188
      try dsimp only at hm203
      have c204:Hid (¬ ((↑(((↑x73.length:Int):Int) - 0).toNat:Int) < (↑x73.length:Int))):=zC (wAv)
      refine sR fL1 Z (oR Z (zN Z fi189 f202) (eN (zA (cF Z c204 (zt (zQ (zQ (zn (zE (sR (.fl 0 (.fl 1 (.fx 2 (wPj (.nil)) .stop))) Z (oM Z f198 (oM Z f195 ?_))))))))))))
      have q:=hS192.freezeR (k:=0) (n:=x41.length) rfl (wAF (f:=wAC) (sz:=3) (fun _=>rfl) x41) (by decide)
      obtain ⟨U205,le206,hs207,hS208⟩:=q
      have hS209:sW w U U205 [B2,B3,B4] W187:=hS208
      have q:=bnd hm203
      obtain ⟨⟨x210,x211⟩,h212,hm213⟩:=q
      try dsimp only at hm213
      refine zI 0 Z Z Z Z (zJ Z Z Tryz.call68 (zB Z (zB Z zO)) Z) hS209 (fun hs=>wFY x41 A50 c51 p3 W187 U205 hs hs207 h212) (.inr Z) ?_
      rintro U214 L215 v216 W217 le218 hS219 ⟨A220,c221,rfl,rfl⟩
      let B5:Res:=.row A220 c221 54 3 (nB wAC x210)
      have hS223:sW w U U214 [B5,B2,B3,B4] W217:=hS219
      refine oM Z Z (oR Z (Zb Z Z (v:=.slice A220 x210.length c221) Z) (oR Z (Zb Z Z (v:=jV x211) Z) (oA Z Z (oA Z Z (eN (sR (.fl 0 (.fl 1 (.fx 2 (wPj (.nil)) .stop))) Z (oM Z f199 (oM Z f195 ?_))))))))
      have q:=hS223.freezeR (k:=1) (n:=x55.length) rfl (wAF (f:=wAB) (sz:=3) (fun _=>rfl) x55) (by decide)
      obtain ⟨U224,le225,hs226,hS227⟩:=q
      have hS228:sW w U U224 [B5,B3,B4] W217:=hS227
      have q:=bnd hm213
      obtain ⟨⟨x229,x230⟩,h231,hm232⟩:=q
      try dsimp only at hm232
      refine zI 0 Z Z Z Z (zJ Z Z Tryz.call69 (zB Z (zB Z zO)) Z) hS228 (fun hs=>wDb x55 A64 c65 p3 W217 U224 hs hs226 h231) (.inr Z) ?_
      rintro U233 L234 v235 W236 le237 hS238 ⟨A239,c240,rfl,rfl⟩
      let B6:Res:=.row A239 c240 132 3 (nB wAB x229)
      have hS242:sW w U U233 [B6,B5,B3,B4] W236:=hS238
      refine oM Z Z (oR Z (Zb Z Z (v:=.slice A239 x229.length c240) Z) (oR Z (Zb Z Z (v:=jV x230) Z) (oA Z Z (oA Z Z (eN (zA (sR (wRE (.fx 6 (.fl 7 (.fl 8 (.nil))) .stop)) Z (oM Z Z (oM Z Z (oR Z (ZU Z Z Z) (oM Z Z (ifc hm232 ?_ ?_))))))))))))
      ·intro c243 hm244
       refine zk Z Z Z (zh Z Z (ZN (fun h=>h c243.out))) Z Z (zk Z Z Z (zh Z Z (ZN (fun h=>h c243.out))) Z Z ?_)
       have q:=hS242.freezeT (k:=1) (n:=x210.length) rfl (wAF (f:=wAC) (sz:=3) (fun _=>rfl) x210) (by decide)
       obtain ⟨U246,le247,hs248,hS249,th245⟩:=q
       have hS250:sW w U U246 [B6,B3,B4] W236:=hS249
       have q:=hS250.freezeT (k:=0) (n:=x229.length) rfl (wAF (f:=wAB) (sz:=3) (fun _=>rfl) x229) (by decide)
       obtain ⟨U252,le253,hs254,hS255,th251⟩:=q
       have hS256:sW w U U252 [B3,B4] W236:=hS255
       have h257:=hs248.le le253
       refine bnK hm244 fun x258 h259 hm260=>zI 0 Z Z Z (zh Z Z (ZN (fun h=>h c243.out))) (zJ Z Z Tryz.call18 (zB Z (zB Z zO)) Z) hS256 (fun hs=>wCk x210 A220 c221 x229 A239 c240 W236 U252 hs h257 hs254 h259) (.inr Z) ?_
       rintro U261 L262 v263 W264 le265 hS266 ⟨rfl,rfl⟩
       have hS267:sW w U U261 [B3,B4] W264:=hS266
       have q:=th251 _ _ _ le265 hS267
       obtain ⟨U268,le269,hS270⟩:=q
       have hS271:sW w U U268 [B6,B3,B4] W264:=hS270
       have q:=th245 _ _ _ le269 hS271
       obtain ⟨U272,le273,hS274⟩:=q
       have hS275:sW w U U272 [B5,B6,B3,B4] W264:=hS274
       refine zx Z Z Z (zh Z Z (ZN (fun h=>h c243.out))) (fun _=>ZO Z Z) (oR Z (ZB Z (ZN (fun h=>h c243.out)) Z) (eN (ifc hm260 ?_ ?_)))
       ·intro c276 hm277
        refine zg (nC c276.out) (kN (sR (wKr (.fx 3 (wPk (.nil)) .stop)) Z (oM Z f198 (oM Z f195 (oM Z f196 ?_)))))
        have h278:=hs207.le le218
        have h279:=h278.le le225
        have h280:=h279.le le237
        have h281:=h280.le le273
        have q:=bnd hm277
        obtain ⟨⟨x282,x283⟩,h284,hm285⟩:=q
        try dsimp only at hm285
        refine zI 0 Z Z Z Z (zJ Z Z Tryz.call70 (zB Z (zB Z (zB Z zO))) Z) hS275 (fun hs=>wHc x41 A50 c51 p3 p4 W264 U272 hs h281 h284) (.inr Z) ?_
        rintro U286 L287 v288 W289 le290 hS291 ⟨A292,c293,rfl,rfl⟩
        let B7:Res:=.row A292 c293 54 3 (nB wAC x282)
        have hS295:sW w U U286 [B7,B5,B6,B3,B4] W289:=hS291
        refine oM Z Z (oR Z (Zb Z Z (v:=.slice A292 x282.length c293) Z) (oR Z (Zb Z Z (v:=jV x283) Z) (oA Z Z (oA Z Z (eN (sR (wKr (.fx 3 (wPk (.nil)) .stop)) Z (oM Z f199 (oM Z f195 (oM Z f196 ?_)))))))))
        have h296:=hs226.le le237
        have h297:=h296.le le273
        have h298:=h297.le le290
        have q:=bnd hm285
        obtain ⟨⟨x299,x300⟩,h301,hm302⟩:=q
        try dsimp only at hm302
        refine zI 0 Z Z Z Z (zJ Z Z Tryz.call71 (zB Z (zB Z (zB Z zO))) Z) hS295 (fun hs=>wEG x55 A64 c65 p3 p4 W289 U286 hs h298 h301) (.inr Z) ?_
        rintro U303 L304 v305 W306 le307 hS308 ⟨A309,c310,rfl,rfl⟩
        let B8:Res:=.row A309 c310 132 3 (nB wAB x299)
        have hS312:sW w U U303 [B8,B7,B5,B6,B3,B4] W306:=hS308
        refine oM Z Z (oR Z (Zb Z Z (v:=.slice A309 x299.length c310) Z) (oR Z (Zb Z Z (v:=jV x300) Z) (oA Z Z (oA Z Z (eN (zA (zA (CK.fresh fun σ313 hσ314=>?_))))))))
        have f315:σ313 0=.slice pA0 p0.length pc0:=(hσ314 0).trans f193
        have f316:σ313 2=.slice pA2 p2.length pc2:=(hσ314 2).trans f194
        have f317:σ313 11=.slice A36 x27.length c37:=(hσ314 11).trans f197
        have f318:σ313 12=.slice A50 x41.length c51:=(hσ314 12).trans f198
        have f319:σ313 15=jV x283:=(hσ314 15).trans rfl
        have f320:σ313 17=jV x300:=(hσ314 17).trans rfl
        have f321:σ313 19=.slice A220 x210.length c221:=(hσ314 19).trans rfl
        have f322:σ313 20=.slice A309 x299.length c310:=(hσ314 20).trans rfl
        have f323:σ313 21=.slice A292 x282.length c293:=(hσ314 21).trans rfl
        clear hσ314
        refine rR (wRE (.fx 6 (.fl 7 (.fl 8 (.nil))) .stop)) Z (oM Z f319 (oM Z f320 (oR Z (ZU Z Z Z) (oM Z Z (ifc hm302 ?_ ?_)))))
        ·intro c324 hm325
         refine zk Z Z Z (zh Z Z (ZN (fun h=>h c324.out))) Z f323 (zk Z Z Z (zh Z Z (ZN (fun h=>h c324.out))) Z f322 ?_)
         have q:=hS312.freezeT (k:=1) (n:=x282.length) rfl (wAF (f:=wAC) (sz:=3) (fun _=>rfl) x282) (by decide)
         obtain ⟨U327,le328,hs329,hS330,th326⟩:=q
         have hS331:sW w U U327 [B8,B5,B6,B3,B4] W306:=hS330
         have q:=hS331.freezeT (k:=0) (n:=x299.length) rfl (wAF (f:=wAB) (sz:=3) (fun _=>rfl) x299) (by decide)
         obtain ⟨U333,le334,hs335,hS336,th332⟩:=q
         have hS337:sW w U U333 [B5,B6,B3,B4] W306:=hS336
         have h338:=hs329.le le334
         refine bnK hm325 fun x339 h340 hm341=>zI 0 Z Z Z (zh Z Z (ZN (fun h=>h c324.out))) (zJ Z Z Tryz.call18 (zB Z (zB Z zO)) Z) hS337 (fun hs=>wCk x282 A292 c293 x299 A309 c310 W306 U333 hs h338 hs335 h340) (.inr Z) ?_
         rintro U342 L343 v344 W345 le346 hS347 ⟨rfl,rfl⟩
         have hS348:sW w U U342 [B5,B6,B3,B4] W345:=hS347
         have q:=th332 _ _ _ le346 hS348
         obtain ⟨U349,le350,hS351⟩:=q
         have hS352:sW w U U349 [B8,B5,B6,B3,B4] W345:=hS351
         have q:=th326 _ _ _ le350 hS352
         obtain ⟨U353,le354,hS355⟩:=q
         have hS356:sW w U U353 [B7,B8,B5,B6,B3,B4] W345:=hS355
         refine zx Z Z Z (zh Z Z (ZN (fun h=>h c324.out))) (fun _=>ZO Z Z) (oR Z (ZB Z (ZN (fun h=>h c324.out)) Z) (eN (ifc hm341 ?_ ?_)))
         ·intro c357 hm358
          refine zg (nC c357.out) (kN (zA (sR fL3 Z (oM Z f321 (oR Z (zV Z Z zL) (oM Z Z (eN (zM (bnK hm358 fun y370 hf367 hm366=>?_)))))))))
          have q:=wBb hf367
          obtain ⟨hle368,hf369⟩:=q
          replace hle368:=zC hle368
          refine CK.forN' (fun k365 l364 σ_ w_=>∃ (U_:PHeap),σ_ 123=jV (↑k365:Int)/\σ_ 0=.slice pA0 p0.length pc0/\σ_ 2=.slice pA2 p2.length pc2/\σ_ 11=.slice A36 x27.length c37/\σ_ 12=.slice A50 x41.length c51/\σ_ 19=.slice A220 l364.length c221/\σ_ 21=.slice A292 x282.length c293/\σ_ 122=jV (↑x210.length:Int)/\PHeap.Le U353 U_/\sW w U U_ [.row A220 c221 54 3 (nB wAC l364),B7] w_/\l364.length=x210.length) hf369 ?_ ?_ ?_
          ·exact ⟨U353,rfl,f315,f316,f317,f318,f321,f323,rfl,(zS _),(hS356.pick [2,0] _ (by decide) rfl),rfl⟩
          ·rintro k365 l364 xx373 σ371 W372 hk376 ⟨U378,fi377,f381,f382,f383,f384,f385,f386,f387,le379,hS380,h388⟩ hx374
           have c389:Hid ((↑k365:Int) < (↑x210.length:Int)):=zC (wBL hk376)
           replace hk376:=zC hk376
           have hi390:Hid (w64 ((↑k365:Int) + 1)=(↑(k365 + 1):Int)):=zC (by have h1:=hle368.out;have h2:=c389.out;rw [wAe] <;> omega)
           refine sR fL1 Z (oR Z (zN Z fi377 f387) (eN (zA (cT Z c389 (kN (zA (zM (sR fL2 Z (oM Z fi377 (oA Z Z (eN (rR (wGZ (.fx 4 (.nil) .stop)) Z (oM Z f385 (oM Z Z (bnK hx374 fun _ h391 hm392=>?_)))))))))))))))
           obtain ⟨b393,hA394⟩:=hS380.rowSome (j:=0) rfl (by rw [wAF (f:=wAC) (sz:=3) (fun _=>rfl) l364];have hz:=wBJ h391;omega)
           refine oR Z (ze Z Z hA394 Z zL zf (wBJ h391)) (oR Z (zq Z Z ZA Z zF) ?_)
           have hg395:=wCK (xs:=l364) (wBJ h391)
           refine OKS.stR (j:=0) (vs:=[jV 0]) (cs':=nB wAC (nL l364 k365 (⟨0,(gd l364 k365).Time,(gd l364 k365).Gate⟩:wAA))) rfl rfl rfl rfl hS380 rfl hA394 rfl rfl rfl zF (by rw [wAF (f:=wAC) (sz:=3) (fun _=>rfl)];have hz:=wBJ h391;simp only [nI,nG,nH,List.length_cons,List.length_nil];first | omega | (simp only [nJ];omega)) rfl (wHK (sz:=3) (fo:=0) (fun _=>rfl) _ _ _ _ hg395 (by first | omega | (simp only [nJ];omega) | (simp only [nI,nG,nH];omega)) (zZ rfl) rfl) rfl ?_
           intro W396 hS397
           have hS398:sW w U U378 [.row A220 c221 54 3 (nB wAC (nL l364 k365 (⟨0,(gd l364 k365).Time,(gd l364 k365).Gate⟩:wAA))),B7] W396:=hS397
           refine zi (zX (zE (rR fL2 Z (oR Z (zl (zU Z fi377 Z) (congrArg (jV) hi390.out)) (oM Z Z (zi ?_))))))
           cases hm392
           exact zE ⟨rfl,⟨U378,rfl,f381,f382,f383,f384,(Eq.trans (b:=(.slice A220 l364.length c221:Value)) (c:=(.slice A220 ((nL l364 k365 (⟨0,(gd l364 k365).Time,(gd l364 k365).Gate⟩:wAA)).length) c221:Value)) f385 (by simp only [nK])),f386,f387,le379,hS398,(by simp only [nK];exact h388)⟩⟩
          ·rintro σ400 W401 ⟨U405,fi403,f408,f409,f410,f411,f412,f413,f414,le406,hS407,h415⟩
           have c416:Hid (¬ ((↑(((↑x210.length:Int):Int) - 0).toNat:Int) < (↑x210.length:Int))):=zC (wAv)
           refine sR fL1 Z (oR Z (zN Z fi403 f414) (eN (zA (cF Z c416 (zt (zQ (zQ (zn (zE (zA (sR fL3 Z (oM Z f413 (oR Z (zV Z Z zL) (oM Z Z (eN (zM (bnK hm366 fun y428 hf425 hm424=>?_)))))))))))))))))
           have q:=wBb hf425
           obtain ⟨hle426,hf427⟩:=q
           replace hle426:=zC hle426
           refine CK.forN' (fun k423 l422 σ_ w_=>∃ (U_:PHeap),σ_ 133=jV (↑k423:Int)/\σ_ 0=.slice pA0 p0.length pc0/\σ_ 2=.slice pA2 p2.length pc2/\σ_ 11=.slice A36 x27.length c37/\σ_ 12=.slice A50 x41.length c51/\σ_ 21=.slice A292 l422.length c293/\σ_ 132=jV (↑x282.length:Int)/\PHeap.Le U405 U_/\sW w U U_ [.row A292 c293 54 3 (nB wAC l422)] w_/\l422.length=x282.length) hf427 ?_ ?_ ?_
           ·exact ⟨U405,rfl,f408,f409,f410,f411,f413,rfl,(zS _),(hS407.pick [1] _ (by decide) rfl),rfl⟩
           ·rintro k423 l422 xx431 σ429 W430 hk434 ⟨U436,fi435,f439,f440,f441,f442,f443,f444,le437,hS438,h445⟩ hx432
            have c446:Hid ((↑k423:Int) < (↑x282.length:Int)):=zC (wBL hk434)
            replace hk434:=zC hk434
            have hi447:Hid (w64 ((↑k423:Int) + 1)=(↑(k423 + 1):Int)):=zC (by have h1:=hle426.out;have h2:=c446.out;rw [wAe] <;> omega)
            refine sR fL1 Z (oR Z (zN Z fi435 f444) (eN (zA (cT Z c446 (kN (zA (zM (sR fL2 Z (oM Z fi435 (oA Z Z (eN (rR (wGZ (.fx 4 (.nil) .stop)) Z (oM Z f443 (oM Z Z (bnK hx432 fun _ h448 hm449=>?_)))))))))))))))
            obtain ⟨b450,hA451⟩:=hS438.rowSome (j:=0) rfl (by rw [wAF (f:=wAC) (sz:=3) (fun _=>rfl) l422];have hz:=wBJ h448;omega)
            refine oR Z (ze Z Z hA451 Z zL zf (wBJ h448)) (oR Z (zq Z Z ZA Z zF) ?_)
            have hg452:=wCK (xs:=l422) (wBJ h448)
            refine OKS.stR (j:=0) (vs:=[jV 0]) (cs':=nB wAC (nL l422 k423 (⟨0,(gd l422 k423).Time,(gd l422 k423).Gate⟩:wAA))) rfl rfl rfl rfl hS438 rfl hA451 rfl rfl rfl zF (by rw [wAF (f:=wAC) (sz:=3) (fun _=>rfl)];have hz:=wBJ h448;simp only [nI,nG,nH,List.length_cons,List.length_nil];first | omega | (simp only [nJ];omega)) rfl (wHK (sz:=3) (fo:=0) (fun _=>rfl) _ _ _ _ hg452 (by first | omega | (simp only [nJ];omega) | (simp only [nI,nG,nH];omega)) (zZ rfl) rfl) rfl ?_
            intro W453 hS454
            have hS455:sW w U U436 [.row A292 c293 54 3 (nB wAC (nL l422 k423 (⟨0,(gd l422 k423).Time,(gd l422 k423).Gate⟩:wAA)))] W453:=hS454
            refine zi (zX (zE (rR fL2 Z (oR Z (zl (zU Z fi435 Z) (congrArg (jV) hi447.out)) (oM Z Z (zi ?_))))))
            cases hm449
            exact zE ⟨rfl,⟨U436,rfl,f439,f440,f441,f442,(Eq.trans (b:=(.slice A292 l422.length c293:Value)) (c:=(.slice A292 ((nL l422 k423 (⟨0,(gd l422 k423).Time,(gd l422 k423).Gate⟩:wAA)).length) c293:Value)) f443 (by simp only [nK])),f444,le437,hS455,(by simp only [nK];exact h445)⟩⟩
           ·rintro σ457 W458 ⟨U462,fi460,f465,f466,f467,f468,f469,f470,le463,hS464,h471⟩
            have c472:Hid (¬ ((↑(((↑x282.length:Int):Int) - 0).toNat:Int) < (↑x282.length:Int))):=zC (wAv)
            refine sR fL1 Z (oR Z (zN Z fi460 f470) (eN (zA (cF Z c472 (zt (zQ (zQ (zn (zE (sR (.fl 0 (.fl 1 (.fx 2 (wRH (.fx 6 (.fl 7 (.fl 8 (.fx 9 (.fl 10 (.fl 11 (.nil))) .stop))) .stop)) .stop))) Z (oM Z f467 (oM Z f465 ?_))))))))))))
            have h473:=hs70.le le81
            have h474:=h473.le le99
            have h475:=h474.le le106
            have h476:=h475.le le118
            have h477:=h476.le le191
            have h478:=h477.le le206
            have h479:=h478.le le218
            have h480:=h479.le le225
            have h481:=h480.le le237
            have h482:=h481.le le273
            have h483:=h482.le le290
            have h484:=h483.le le307
            have h485:=h484.le le354
            have h486:=h485.le le406
            have h487:=h486.le le463
            have h488:=h91.le le99
            have h489:=h488.le le106
            have h490:=h489.le le118
            have h491:=h490.le le191
            have h492:=h491.le le206
            have h493:=h492.le le218
            have h494:=h493.le le225
            have h495:=h494.le le237
            have h496:=h495.le le273
            have h497:=h496.le le290
            have h498:=h497.le le307
            have h499:=h498.le le354
            have h500:=h499.le le406
            have h501:=h500.le le463
            refine bnK hm424 fun x502 h503 hm504=>zI 0 Z Z Z Z (zJ Z Z Tryz.call50 (zB Z (zB Z zO)) Z) hS464 (fun hs=>wCf x27 A36 c37 p0 pA0 pc0 W458 U462 hs h487 h501 h503) (.inr Z) ?_
            rintro U505 L506 v507 W508 le509 hS510 ⟨rfl,rfl⟩
            let B9:Res:=.row A292 c293 54 3 (nB wAC y428)
            have hS511:sW w U U505 [B9] W508:=hS510
            refine oM Z Z (ifc hm504 ?_ ?_)
            ·intro c512 hm513
             refine zk Z Z Z (zh Z Z (congrArg nD c512.out)) Z f468 (zk Z Z Z (zh Z Z (congrArg nD c512.out)) Z f466 ?_)
             have h514:=h281.le le290
             have h515:=h514.le le307
             have h516:=h515.le le354
             have h517:=h516.le le406
             have h518:=h517.le le463
             have h519:=h518.le le509
             have h520:=h54.le le62
             have h521:=h520.le le69
             have h522:=h521.le le81
             have h523:=h522.le le99
             have h524:=h523.le le106
             have h525:=h524.le le118
             have h526:=h525.le le191
             have h527:=h526.le le206
             have h528:=h527.le le218
             have h529:=h528.le le225
             have h530:=h529.le le237
             have h531:=h530.le le273
             have h532:=h531.le le290
             have h533:=h532.le le307
             have h534:=h533.le le354
             have h535:=h534.le le406
             have h536:=h535.le le463
             have h537:=h536.le le509
             refine bnK hm513 fun x538 h539 hm540=>zI 0 Z Z Z (zh Z Z (congrArg nD c512.out)) (zJ Z Z Tryz.call27 (zB Z (zB Z zO)) Z) hS511 (fun hs=>wCg x41 A50 c51 p2 pA2 pc2 W508 U505 hs h519 h537 h539) (.inr Z) ?_
             rintro U541 L542 v543 W544 le545 hS546 ⟨rfl,rfl⟩
             have hS547:sW w U U541 [B9] W544:=hS546
             refine oR Z (ZC Z (congrArg nD c512.out) Z) (oM Z Z (ifc hm540 ?_ ?_))
             ·intro c548 hm549
              refine bnK hm549 fun x550 h551 hm552=>zI 0 Z Z Z (zh Z Z (congrArg nD c548.out)) (zJ Z Z Tryz.call11 zO Z) hS547 (fun hs=>wCB W544 U541 hs h551) (.inr Z) ?_
              rintro U553 L554 v555 W556 le557 hS558 ⟨rfl,rfl⟩
              have hS559:sW w U U553 [B9] W556:=hS558
              refine oR Z (ZC Z (congrArg nD c548.out) Z) (oA Z Z (eN (zK ?_)))
              have hE:=nA hm552;first | subst r | cases hE
              exact ⟨rfl,_,(zm rfl),U553,_,(hS559.pick [] _ (by decide) rfl),rfl,rfl⟩
             ·intro c548 hm560
              refine Zf Z Z Z (zo Z Z (congrArg nD (nE.2 c548.out)) Z) (oR Z (ZB Z (congrArg nD (nE.2 c548.out)) Z) (oA Z Z (eN (zK ?_))))
              have hE:=nA hm560;first | subst r | cases hE
              exact ⟨rfl,_,(zm rfl),U541,_,(hS547.pick [] _ (by decide) rfl),rfl,rfl⟩
            ·intro c512 hm561
             refine ZL Z Z Z (zo Z Z (congrArg nD (nE.2 c512.out)) Z) (ZL Z Z Z (zo Z Z (congrArg nD (nE.2 c512.out)) Z) (Zf Z Z Z (zo Z Z (congrArg nD (nE.2 c512.out)) Z) (oR Z (ZB Z (congrArg nD (nE.2 c512.out)) Z) (oM Z Z (Zf Z Z Z (zo Z Z Z Z) (oR Z (ZB Z Z Z) (oA Z Z (eN (zK ?_)))))))))
             have hE:=nA hm561;first | subst r | cases hE
             exact ⟨rfl,_,(zm rfl),U505,_,(hS511.pick [] _ (by decide) rfl),rfl,rfl⟩
         ·intro c357 hm562
          refine zj (nF (c357.out)) (sR fL1 Z (oA Z Z (eN (zK (zG ?_)))))
          have hE:=nA hm562;first | subst r | cases hE
          exact ⟨rfl,_,(zm rfl),U353,_,(hS356.pick [] _ (by decide) rfl),rfl,rfl⟩
        ·intro c324 hm563
         refine oT Z c324 (oT Z c324 (Zf Z Z Z (zo Z Z (wGn c324.out) Z) (oT Z c324 (oR Z (ZC Z (wGn c324.out) Z) (eN (zj Z (sR fL1 Z (oA Z Z (eN (zK (zG ?_)))))))))))
         have hE:=nA hm563;first | subst r | cases hE
         exact ⟨rfl,_,(zm rfl),U303,_,(hS312.pick [] _ (by decide) rfl),rfl,rfl⟩
       ·intro c276 hm564
        refine zj (nF (c276.out)) (sR fL1 Z (oA Z Z (eN (zK (zG ?_)))))
        have hE:=nA hm564;first | subst r | cases hE
        exact ⟨rfl,_,(zm rfl),U272,_,(hS275.pick [] _ (by decide) rfl),rfl,rfl⟩
      ·intro c243 hm565
       refine oT Z c243 (oT Z c243 (Zf Z Z Z (zo Z Z (wGn c243.out) Z) (oT Z c243 (oR Z (ZC Z (wGn c243.out) Z) (eN (zj Z (sR fL1 Z (oA Z Z (eN (zK (zG ?_)))))))))))
       have hE:=nA hm565;first | subst r | cases hE
       exact ⟨rfl,_,(zm rfl),U233,_,(hS242.pick [] _ (by decide) rfl),rfl,rfl⟩
    ·intro c126 hm566
     refine cT Z c126 (zA (CK.fresh fun σ567 hσ568=>?_))
     have f569:σ567 10=.bool false:=(hσ568 10).trans rfl
     clear hσ568
     refine rR fL1 Z (oA Z Z (eN (zK (zG ?_))))
     have hE:=nA hm566;first | subst r | cases hE
     exact ⟨rfl,_,(zm rfl),U114,_,(hS123.pick [] _ (by decide) rfl),rfl,rfl⟩
   ·intro c124 hm570
    refine oT Z c124 (oT Z c124 (oT Z c124 (oT Z c124 (oT Z c124 (oR Z (ZC Z (wGn c124.out) Z) (eN (zj Z (zA (CK.fresh fun σ571 hσ572=>?_)))))))))
    have f573:σ571 10=.bool false:=(hσ572 10).trans rfl
    clear hσ572
    refine rR fL1 Z (oA Z Z (eN (zK (zG ?_))))
    have hE:=nA hm570;first | subst r | cases hE
    exact ⟨rfl,_,(zm rfl),U114,_,(hS123.pick [] _ (by decide) rfl),rfl,rfl⟩
end Go.Proofs.YtghaibkggdecnaaGreat
