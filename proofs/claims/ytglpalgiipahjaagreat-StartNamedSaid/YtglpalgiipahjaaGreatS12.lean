import Derived.Test.YtglpalgiipahjaaGreatS10
import Derived.Test.YtglpalgiipahjaaGreatS9
import Derived.Test.YtglpalgiipahjaaGreatS11
set_option linter.all false
open List renaming flatMap->nA,set->nG,getElem_cons_succ->nH,getElem_cons_zero->nI,getElem_toArray->nJ
open Option.some renaming inj->nB
open Go.Value renaming bool->nD
open Bool renaming eq_false_iff->nE
namespace Go.Proofs.YtglpalgiipahjaaGreat
open Go.KL
def gAa:Sch:=.fx 7 (.fx 8 .nil .stop) .stop
def gAb:Sch:=.fl 4 (.fx 8 .nil .stop)
def gAc:Sch:=.fl 20 (.fx 21 .nil .stop)
def gAd:Sch:=.fx 0 (.fl 1 (.fl 2 .nil)) .stop
def gAe:Sch:=.fl 0 (.fx 1 (.fl 2 .nil) .stop)
def gAf:Sch:=.fx 3 (.fl 4 (.fl 5 .nil)) .stop
def gAg:Sch:=.fx 6 gAa .stop
def gAh:Sch:=.fx 5 gAa .stop
def gAi:Sch:=.fx 3 gAb .stop
def gAj:Sch:=.fx 1 gAa .stop
def gAk:Sch:=.fx 19 gAc .stop
def gAl:Sch:=.fx 17 gAk .stop
def gAm:Sch:=.fx 5 gAg (.fx 6 gAh .stop)
def gAn:Sch:=.fx 3 (.fl 4 gAa) (.fx 7 gAi .stop)
def gAo:Sch:=.fx 1 gAg (.fx 6 gAj .stop)
def gAp:Sch:=.fx 1 gAh (.fx 5 gAj .stop)
def gAq:Sch:=.fx 16 gAl .stop
def gAr:Sch:=.fx 1 gAn (.fx 3 (.fl 4 gAj) .stop)
def gAs:Sch:=.fx 15 gAq .stop
def gAt:Sch:=.fx 10 (.fl 18 gAl) .stop
def gAu:Sch:=.fx 8 (.fl 18 gAl) .stop
def gAv:Sch:=.fx 3 (.fl 4 gAg) (.fx 6 gAn .stop)
def gAw:Sch:=.fx 3 (.fl 4 gAh) (.fx 5 gAn .stop)
def gAx:Sch:=.fx 7 gAu .stop
def gAy:Sch:=.fx 10 (.fl 18 gAq) (.fx 16 gAt .stop)
def gAz:Sch:=.fx 8 (.fl 18 gAq) (.fx 16 gAu .stop)
def gBa:Sch:=.fx 8 gAt (.fx 10 gAu .stop)
def gBb:Sch:=.fl 18 (.fx 12 (.fl 14 gAs) .stop)
def gBc:Sch:=.fx 7 gAz (.fx 16 gAx .stop)
def gBd:Sch:=.fx 10 (.fl 18 gAs) (.fx 15 gAy .stop)
def gBe:Sch:=.fx 8 (.fl 18 gAs) (.fx 15 gAz .stop)
def gBf:Sch:=.fx 8 gAy (.fx 10 gAz (.fx 16 gBa .stop))
def gBg:Sch:=.fx 7 gBe (.fx 15 gBc .stop)
def gBh:Sch:=.fx 8 gBb (.fx 12 (.fl 14 gBe) .stop)
def gBi:Sch:=.fx 8 gBd (.fx 10 gBe (.fx 15 gBf .stop))
set_option maxHeartbeats 4000000
theorem wEY (p0:wAD) (pA0_1:Option Addr) (pc0_1:Nat) (pA0_2:Option Addr) (pc0_2:Nat) (w:World) (U:PHeap) (hS:St0 w U []) (ha0:Sl U 1 pA0_1 pc0_1 p0.Bibs.length (nA KL.encI p0.Bibs)) (ha1:SlR U wBH pA0_2 pc0_2 p0.Times) {r:(List Int) × Int} (hm:wBD p0=some r):Gv Tryz.prog 35 [.agg #[jV p0.Laps,.slice pA0_1 p0.Bibs.length pc0_1,.slice pA0_2 p0.Times.length pc0_2]] w (wCO w [] U (fun U_ L_ v=>∃ (A0:Option Addr) (c0:Nat),v=.tuple #[.slice A0 r.1.length c0,jV r.2]/\L_=[.row A0 c0 3 1 (nA KL.encI r.1)])):=by
 unfold wBD at hm
 refine Gv.of Tryz.func35 Z Tryz.ntmps35 Tryz.results35 Z (sR gAd Z ?_)
 let B0:List Value:=[jV p0.Laps,.slice pA0_1 p0.Bibs.length pc0_1,.slice pA0_2 p0.Times.length pc0_2]
 refine Zl (cs:=B0) rfl rfl rfl rfl rfl rfl (by rfl) hS ?_
 intro W1 b2 hS3
 refine oA Z Z (oA Z Z (eN (zF (sR gAe Z (oL Z (hS3.ldBA (j:=0) Z Z Z Zh ZB (vs:=B0) Z Z) (bnK hm fun x5 h6 hm7=>zL 0 Z Z Z Z (zK Z Z Tryz.call106 (zC Z zP) Z) hS3 (fun hs=>wDk p0 pA0_1 pc0_1 pA0_2 pc0_2 W1 U hs ha0 ha1 h6) (.inr Z) ?_))))))
 rintro U8 L9 v10 W11 le12 hS13 ⟨rfl,rfl⟩
 have hS14:sW w U U8 [.blk b2 66 B0] W11:=hS13
 refine oA Z Z (eN (sR fL2 Z (oM Z Z (oR Z (Zp Z Z Z) (eN (ifc hm7 ?_ ?_))))))
 ·intro c15 hm16
  refine ZG (ZU (fun h=>h c15.out)) (kN (sR (.fl 0 (.fx 1 (wIe (.nil)) .stop)) Z (oL Z (hS14.ldBA (j:=0) Z Z Z Zh ZB (vs:=B0) Z Z) ?_)))
  have h17:=ha0.le le12
  have h18:=ha1.le le12
  have q:=bnd hm16
  obtain ⟨⟨x19,x20⟩,h21,hm22⟩:=q
  try dsimp only at hm22
  refine zL 0 Z Z Z Z (zK Z Z Tryz.call107 (zC Z zP) Z) hS14 (fun hs=>wHF p0 pA0_1 pc0_1 pA0_2 pc0_2 W11 U8 hs h17 h18 h21) (.inr Z) ?_
  rintro U23 L24 v25 W26 le27 hS28 ⟨b29,A30,c31,A32,c33,A34,c35,A36,c37,A38,c39,rfl,rfl,h44,h45⟩
  have hS46:sW w U U23 [.blk b29 204 [jV x19.Race.Laps,.slice A30 x19.Race.Bibs.length c31,.slice A32 x19.Race.Times.length c33,.slice A34 x19.done.length c35,.slice A36 x19.out.length c37],.row A34 c35 3 1 (nA KL.encI x19.done),.row A36 c37 4 1 (nA KL.encT x19.out),.row A38 c39 45 4 (nA wAJ x20),.blk b2 66 B0] W26:=hS28
  refine oM Z Z (oR Z (ZY Z Z (v:=.pointer (some ⟨b29,0,none⟩)) Z) (oR Z (ZY Z Z (v:=.slice A38 x20.length c39) Z) (oA Z Z (oA Z Z (eN (sR fL6 Z (oM Z Z (oR Z (ZQ Z Z) (oR Z (zX Z Z ZE Z zN) (oL Z (hS46.ldB (j:=0) Z Z Z zn (v:=.slice A34 x19.done.length c35) Z) (oA Z Z (oA Z Z (eN (zW ?_))))))))))))))
  cases hm22
  exact ⟨rfl,_,(wOx rfl rfl),U23,_,(hS46.pick [1] _ (by decide) rfl),A34,c35,rfl,rfl⟩
 ·intro c15 hm47
  refine cT Z c15 (sR fL3 Z (oM Z Z (oA Z Z (oA Z Z (eN (zW (zk ?_)))))))
  have hS48:=hS14.nilrow 3 1
  cases hm47
  exact ⟨rfl,_,(wOx rfl rfl),U8,_,(hS48.pick [0] _ (by decide) rfl),none,0,rfl,rfl⟩
theorem wEm (p0:wAD) (pA0_1:Option Addr) (pc0_1:Nat) (pA0_2:Option Addr) (pc0_2:Nat) (w:World) (U:PHeap) (hS:St0 w U []) (ha0:Sl U 1 pA0_1 pc0_1 p0.Bibs.length (nA KL.encI p0.Bibs)) (ha1:SlR U wBH pA0_2 pc0_2 p0.Times) {r:(List wAE) × Int} (hm:wBG p0=some r):Gv Tryz.prog 44 [.agg #[jV p0.Laps,.slice pA0_1 p0.Bibs.length pc0_1,.slice pA0_2 p0.Times.length pc0_2]] w (wCO w [] U (fun U_ L_ v=>∃ (A0:Option Addr) (c0:Nat),v=.tuple #[.slice A0 r.1.length c0,jV r.2]/\L_=[.row A0 c0 45 4 (nA wAJ r.1)])):=by
 unfold wBG at hm
 refine Gv.of Tryz.func44 Z Tryz.ntmps44 Tryz.results44 Z (sR gAd Z ?_)
 let B0:List Value:=[jV p0.Laps,.slice pA0_1 p0.Bibs.length pc0_1,.slice pA0_2 p0.Times.length pc0_2]
 refine Zl (cs:=B0) rfl rfl rfl rfl rfl rfl (by rfl) hS ?_
 intro W1 b2 hS3
 refine oA Z Z (oA Z Z (eN (zF (sR gAe Z (oL Z (hS3.ldBA (j:=0) Z Z Z Zh ZB (vs:=B0) Z Z) (bnK hm fun x5 h6 hm7=>zL 0 Z Z Z Z (zK Z Z Tryz.call106 (zC Z zP) Z) hS3 (fun hs=>wDk p0 pA0_1 pc0_1 pA0_2 pc0_2 W1 U hs ha0 ha1 h6) (.inr Z) ?_))))))
 rintro U8 L9 v10 W11 le12 hS13 ⟨rfl,rfl⟩
 have hS14:sW w U U8 [.blk b2 66 B0] W11:=hS13
 refine oA Z Z (eN (sR fL2 Z (oM Z Z (oR Z (Zp Z Z Z) (eN (ifc hm7 ?_ ?_))))))
 ·intro c15 hm16
  refine ZG (ZU (fun h=>h c15.out)) (kN (sR (.fl 0 (.fx 1 (wIe (.nil)) .stop)) Z (oL Z (hS14.ldBA (j:=0) Z Z Z Zh ZB (vs:=B0) Z Z) ?_)))
  have h17:=ha0.le le12
  have h18:=ha1.le le12
  have q:=bnd hm16
  obtain ⟨⟨x19,x20⟩,h21,hm22⟩:=q
  try dsimp only at hm22
  refine zL 0 Z Z Z Z (zK Z Z Tryz.call107 (zC Z zP) Z) hS14 (fun hs=>wHF p0 pA0_1 pc0_1 pA0_2 pc0_2 W11 U8 hs h17 h18 h21) (.inr Z) ?_
  rintro U23 L24 v25 W26 le27 hS28 ⟨b29,A30,c31,A32,c33,A34,c35,A36,c37,A38,c39,rfl,rfl,h44,h45⟩
  have hS46:sW w U U23 [.blk b29 204 [jV x19.Race.Laps,.slice A30 x19.Race.Bibs.length c31,.slice A32 x19.Race.Times.length c33,.slice A34 x19.done.length c35,.slice A36 x19.out.length c37],.row A34 c35 3 1 (nA KL.encI x19.done),.row A36 c37 4 1 (nA KL.encT x19.out),.row A38 c39 45 4 (nA wAJ x20),.blk b2 66 B0] W26:=hS28
  refine oM Z Z (oR Z (ZY Z Z (v:=.pointer (some ⟨b29,0,none⟩)) Z) (oR Z (ZY Z Z (v:=.slice A38 x20.length c39) Z) (oA Z Z (oA Z Z (eN (sR fL3 Z (oM Z Z (oA Z Z (oA Z Z (eN (zW ?_)))))))))))
  cases hm22
  exact ⟨rfl,_,(wOx rfl rfl),U23,_,(hS46.pick [3] _ (by decide) rfl),A38,c39,rfl,rfl⟩
 ·intro c15 hm47
  refine cT Z c15 (sR fL3 Z (oM Z Z (oA Z Z (oA Z Z (eN (zW (zk ?_)))))))
  have hS48:=hS14.nilrow 45 4
  cases hm47
  exact ⟨rfl,_,(wOx rfl rfl),U8,_,(hS48.pick [0] _ (by decide) rfl),none,0,rfl,rfl⟩
theorem wEF (p0:List Int) (pA0:Option Addr) (pc0:Nat) (p1:List Int) (pA1:Option Addr) (pc1:Nat) (w:World) (U:PHeap) (hS:St0 w U []) (ha0:Sl U 1 pA0 pc0 p0.length (nA KL.encI p0)) (ha1:Sl U 1 pA1 pc1 p1.length (nA KL.encI p1)) {r:Bool} (hm:wBN p0 p1=some r):Gv Tryz.prog 61 [.slice pA0 p0.length pc0,.slice pA1 p1.length pc1] w (wCO w [] U (fun U_ L_ v=>v=.bool r/\L_=[])):=by
 unfold wBN at hm
 refine Gv.of Tryz.func61 Z Tryz.ntmps61 Tryz.results61 Z (sR fL1 Z (oA Z Z (eN (zF (sR fL5 Z (oM Z Z (oR Z (zo Z Z zA) (oM Z Z (oR Z (zo Z Z zA) (oR Z (Zp Z Z Z) (eN ?_)))))))))))
 by_cases c1:(↑p0.length:Int)=(↑p1.length:Int)
 ·have hm2:=hm;rw [if_pos c1] at hm2;replace c1:=zD c1
  refine ZG (ZU (fun h=>h c1.out)) (kN (zF (sR fL3 Z (oM Z Z (oR Z (zo Z Z zA) (oM Z Z (eN (zS ?_))))))))
  have q:=wDL hm2
  obtain ⟨r5,hX6⟩:=q
  have q:=wDK hX6
  obtain ⟨hle7,hf8⟩:=q
  replace hle7:=zD hle7
  refine CK.forN (fun k4 _ σ_ w_=>∃ (U_:PHeap),σ_ 13=jV (↑k4:Int)/\σ_ 0=.slice pA0 p0.length pc0/\σ_ 1=.slice pA1 p1.length pc1/\σ_ 12=jV (↑p0.length:Int)/\PHeap.Le U U_/\sW w U U_ [] w_) hf8 ?_ ?_ ?_
  ·exact ⟨U,Z,Z,Z,Z,(zG _),hS⟩
  ·rintro k4 ⟨⟩ xx11 σ9 W10 hk14 ⟨U16,fi15,f19,f20,f21,le17,hS18⟩ hx12 hb13
   try dsimp only at hx12
   have c22:Hid ((↑k4:Int) < (↑p0.length:Int)):=zD (wBT hk14)
   replace hk14:=zD hk14
   have hi23:Hid (w64 ((↑k4:Int) + 1)=(↑(k4 + 1):Int)):=zD (by have h1:=hle7.out;have h2:=c22.out;rw [wAU] <;> omega)
   refine sR fL1 rfl (zY rfl rfl rfl rfl (fun _=>zQ rfl fi15 f21) (eN (zF (cT Z c22 (kN (zF (zS (sR fL2 rfl (zR rfl rfl rfl rfl rfl fi15 (Zb rfl rfl rfl rfl rfl rfl (eN (zF (Ze Za [3,3,3,1,3,3,3,1,3] fL9 (by kernel_rfl) ?_)))))))))))))
   have hS24:=hS18.drew
   generalize hw_W25:({ W10 with drawn:=W10.drawn + 1 }:World)=W25 at hS24 ⊢
   refine oM Z f19 (oM Z Z (bnK hx12 fun x26 h27 hm28=>?_))
   have h29:=ha0.le le17
   have q:=h29.el (fun _=>rfl) (wAZ h27)
   obtain ⟨b30,off31,hA32,hC33⟩:=q
   refine oR Z (ZD Z Z hA32 Z zA zB (wCD h27)) (oL Z (hS24.ldC (f:=0) hC33 (v:=jV x26) Z Z zJ Z) (oM Z f20 (oM Z Z (bnK hm28 fun x34 h35 hm36=>?_))))
   have h37:=ha1.le le17
   have q:=h37.el (fun _=>rfl) (wAZ h35)
   obtain ⟨b38,off39,hA40,hC41⟩:=q
   refine oR Z (ZD Z Z hA40 Z zA zB (wCD h35)) (oL Z (hS24.ldC (f:=0) hC41 (v:=jV x34) Z Z zJ Z) (oR Z (Zp Z Z Z) (eN (ifc hm36 ?_ ?_))))
   ·intro c42 hm43
    refine ZG (ZU (fun h=>h c42.out)) (ZV (zZ (zH (rR fL2 Z (oR Z (zz (zV Z fi15 Z) (congrArg (jV) hi23.out)) (oM Z Z (zx ?_)))))))
    obtain rfl:=nB hm43
    exact zH ⟨Z,_,Z,⟨U16,Z,f19,f20,f21,le17,hS24⟩⟩
   ·intro c42 hm44
    refine cT Z c42 (sR fL1 Z (oA Z Z (eN (zW (ZJ (zk ?_))))))
    have q:=wCP hm44
    obtain ⟨v45,hm46,e47⟩:=q
    obtain rfl:=wEJ hm2 hX6 (hb13 v45 e47)
    refine zk (ZJ (zk ?_))
    have hE:=nB hm46;first | subst r | cases hE
    exact ⟨Z,_,(ZF Z),U16,_,hS24,Z,Z⟩
  ·rintro ⟨⟩ σ48 W49 ⟨U52,fi51,f55,f56,f57,le53,hS54⟩ hb50
   have hm58:=wEI hm2 hX6 hb50
   try dsimp only at hm58
   have c59:Hid (¬ ((↑(((↑p0.length:Int):Int) - 0).toNat:Int) < (↑p0.length:Int))):=zD (wAr)
   refine sR fL1 Z (oR Z (zQ Z fi51 f57) (eN (zF (cF Z c59 (ZM (ze (ze (ZI (zH (sR fL1 Z (oA Z Z (eN (zW ?_)))))))))))))
   have hE:=nB hm58;first | subst r | cases hE
   exact ⟨Z,_,(ZF Z),U52,_,hS54,Z,Z⟩
 ·have hm60:=hm;rw [if_neg c1] at hm60;replace c1:=zD c1
  refine cT Z c1 (sR fL1 Z (oA Z Z (eN (zW (zk ?_)))))
  have hE:=nB hm60;first | subst r | cases hE
  exact ⟨Z,_,(ZF Z),U,_,hS,Z,Z⟩
theorem wDF (p0:List wAE) (pA0:Option Addr) (pc0:Nat) (p1:List wAE) (pA1:Option Addr) (pc1:Nat) (w:World) (U:PHeap) (hS:St0 w U []) (ha0:Sl U 4 pA0 pc0 p0.length (nA wAJ p0)) (ha1:Sl U 4 pA1 pc1 p1.length (nA wAJ p1)) {r:Bool} (hm:wAq p0 p1=some r):Gv Tryz.prog 45 [.slice pA0 p0.length pc0,.slice pA1 p1.length pc1] w (wCO w [] U (fun U_ L_ v=>v=.bool r/\L_=[])):=by
 unfold wAq at hm
 refine Gv.of Tryz.func45 Z Tryz.ntmps45 Tryz.results45 Z (sR fL1 Z (oA Z Z (eN (zF (sR fL5 Z (oM Z Z (oR Z (zo Z Z Zt) (oM Z Z (oR Z (zo Z Z Zt) (oR Z (Zp Z Z Z) (eN ?_)))))))))))
 by_cases c1:(↑p0.length:Int)=(↑p1.length:Int)
 ·have hm2:=hm;rw [if_pos c1] at hm2;replace c1:=zD c1
  refine ZG (ZU (fun h=>h c1.out)) (kN (zF (sR fL3 Z (oM Z Z (oR Z (zo Z Z Zt) (oM Z Z (eN (zS ?_))))))))
  have q:=wDL hm2
  obtain ⟨r5,hX6⟩:=q
  have q:=wDK hX6
  obtain ⟨hle7,hf8⟩:=q
  replace hle7:=zD hle7
  refine CK.forN (fun k4 _ σ_ w_=>∃ (U_:PHeap),σ_ 13=jV (↑k4:Int)/\σ_ 0=.slice pA0 p0.length pc0/\σ_ 1=.slice pA1 p1.length pc1/\σ_ 12=jV (↑p0.length:Int)/\PHeap.Le U U_/\sW w U U_ [] w_) hf8 ?_ ?_ ?_
  ·exact ⟨U,Z,Z,Z,Z,(zG _),hS⟩
  ·rintro k4 ⟨⟩ xx11 σ9 W10 hk14 ⟨U16,fi15,f19,f20,f21,le17,hS18⟩ hx12 hb13
   try dsimp only at hx12
   have c22:Hid ((↑k4:Int) < (↑p0.length:Int)):=zD (wBT hk14)
   replace hk14:=zD hk14
   have hi23:Hid (w64 ((↑k4:Int) + 1)=(↑(k4 + 1):Int)):=zD (by have h1:=hle7.out;have h2:=c22.out;rw [wAU] <;> omega)
   refine sR fL1 rfl (zY rfl rfl rfl rfl (fun _=>zQ rfl fi15 f21) (eN (zF (cT Z c22 (kN (zF (zS (sR fL2 rfl (zR rfl rfl rfl rfl rfl fi15 (Zb rfl rfl rfl rfl rfl rfl (eN (zF (Ze Za [3,3,3,1,3,3,3,1,3] fL9 (by kernel_rfl) ?_)))))))))))))
   have hS24:=hS18.drew
   generalize hw_W25:({ W10 with drawn:=W10.drawn + 1 }:World)=W25 at hS24 ⊢
   refine oM Z f19 (oM Z Z (bnK hx12 fun x26 h27 hm28=>?_))
   have h29:=ha0.le le17
   have q:=h29.el (fun _=>rfl) (wAZ h27)
   obtain ⟨b30,off31,hA32,hC33⟩:=q
   refine oR Z (ZD Z Z hA32 Z Zt Tryz.sizeOf45 (wCD h27)) (oL Z (hS24.ldCA (f:=0) hC33 Z Z Tryz.isAgg45 Tryz.sizeOf45 (us:=[jV x26.Bib,jV x26.Done,jV x26.Time,jV x26.By]) Z Z) (oM Z f20 (oM Z Z (bnK hm28 fun x34 h35 hm36=>?_))))
   have h37:=ha1.le le17
   have q:=h37.el (fun _=>rfl) (wAZ h35)
   obtain ⟨b38,off39,hA40,hC41⟩:=q
   refine oR Z (ZD Z Z hA40 Z Zt Tryz.sizeOf45 (wCD h35)) (oL Z (hS24.ldCA (f:=0) hC41 Z Z Tryz.isAgg45 Tryz.sizeOf45 (us:=[jV x34.Bib,jV x34.Done,jV x34.Time,jV x34.By]) Z Z) (oR Z (zz (Runs.neS (enc:=wAJ) (a:=x26) (b:=x34) Z Z Z eqT45 eqG45) (congrArg nD (decide_not).symm)) (eN (ifc hm36 ?_ ?_))))
   ·intro c42 hm43
    refine ZG (ZU (fun h=>h c42.out)) (ZV (zZ (zH (rR fL2 Z (oR Z (zz (zV Z fi15 Z) (congrArg (jV) hi23.out)) (oM Z Z (zx ?_)))))))
    obtain rfl:=nB hm43
    exact zH ⟨Z,_,Z,⟨U16,Z,f19,f20,f21,le17,hS24⟩⟩
   ·intro c42 hm44
    refine cT Z c42 (sR fL1 Z (oA Z Z (eN (zW (ZJ (zk ?_))))))
    have q:=wCP hm44
    obtain ⟨v45,hm46,e47⟩:=q
    obtain rfl:=wEJ hm2 hX6 (hb13 v45 e47)
    refine zk (ZJ (zk ?_))
    have hE:=nB hm46;first | subst r | cases hE
    exact ⟨Z,_,(ZF Z),U16,_,hS24,Z,Z⟩
  ·rintro ⟨⟩ σ48 W49 ⟨U52,fi51,f55,f56,f57,le53,hS54⟩ hb50
   have hm58:=wEI hm2 hX6 hb50
   try dsimp only at hm58
   have c59:Hid (¬ ((↑(((↑p0.length:Int):Int) - 0).toNat:Int) < (↑p0.length:Int))):=zD (wAr)
   refine sR fL1 Z (oR Z (zQ Z fi51 f57) (eN (zF (cF Z c59 (ZM (ze (ze (ZI (zH (sR fL1 Z (oA Z Z (eN (zW ?_)))))))))))))
   have hE:=nB hm58;first | subst r | cases hE
   exact ⟨Z,_,(ZF Z),U52,_,hS54,Z,Z⟩
 ·have hm60:=hm;rw [if_neg c1] at hm60;replace c1:=zD c1
  refine cT Z c1 (sR fL1 Z (oA Z Z (eN (zW (zk ?_)))))
  have hE:=nB hm60;first | subst r | cases hE
  exact ⟨Z,_,(ZF Z),U,_,hS,Z,Z⟩
theorem wEj (w:World) (U:PHeap) (hS:St0 w U []) {r:Bool} (hm:wDD=some r):Gv Tryz.prog 77 [] w (wCO w [] U (fun U_ L_ v=>v=.bool r/\L_=[])):=by
 cases hm
 refine (xr77 w).mono ?_
 rintro v w' ⟨rfl,k⟩
 exact ⟨U,[],hS.grow k,Z,Z⟩
theorem wDf (p0:List Int) (pA0:Option Addr) (pc0:Nat) (p1:List Int) (pA1:Option Addr) (pc1:Nat) (w:World) (U:PHeap) (hS:St0 w U []) (ha0:Sl U 1 pA0 pc0 p0.length (nA KL.encB8 p0)) (ha1:Sl U 1 pA1 pc1 p1.length (nA KL.encB8 p1)) {r:Bool} (hm:wBU p0 p1=some r):Gv Tryz.prog 10 [.slice pA0 p0.length pc0,.slice pA1 p1.length pc1] w (wCO w [] U (fun U_ L_ v=>v=.bool r/\L_=[])):=by
 unfold wBU at hm
 refine Gv.of Tryz.func10 Z Tryz.ntmps10 Tryz.results10 Z (sR fL1 Z (oA Z Z (eN (sR (.fl 0 (.fx 1 (.fl 2 gAf) .stop)) Z (oM Z Z (bnK hm fun x1 h2 hm3=>zL 0 Z Z Z Z (zK Z Z Tryz.call24 (zC Z zP) Z) hS (fun hs=>wES p0 pA0 pc0 w U hs ha0 h2) (.inr Z) ?_))))))
 rintro U4 L5 v6 W7 le8 hS9 ⟨b10,A11,c12,rfl,rfl,h14⟩
 let B0:Res:=.blk b10 192 [.slice A11 x1.bytes.length c12,jV x1.next,.int .u32 x1.state]
 have hS15:sW w U U4 [B0] W7:=hS9
 refine oM Z Z ?_
 have h16:=ha1.le le8
 refine bnK hm3 fun x17 h18 hm19=>zL 0 Z Z Z Z (zK Z Z Tryz.call24 (zC Z zP) Z) hS15 (fun hs=>wES p1 pA1 pc1 W7 U4 hs h16 h18) (.inr Z) ?_
 rintro U20 L21 v22 W23 le24 hS25 ⟨b26,A27,c28,rfl,rfl,h30⟩
 let B1:Res:=.blk b26 192 [.slice A27 x17.bytes.length c28,jV x17.next,.int .u32 x17.state]
 have hS31:sW w U U20 [B1,B0] W23:=hS25
 refine oA Z Z (oA Z Z (eN (sR gAe Z (oM Z Z ?_))))
 have h32:=h14.le le24
 have q:=bnd hm19
 obtain ⟨⟨x33,x34⟩,h35,hm36⟩:=q
 try dsimp only at hm36
 have hS37:sW w U U20 [B0,B1] W23:=hS31.pick [1,0] _ (by decide) rfl
 refine zL 1 Z Z Z Z (zK Z Z Tryz.call71 (zC Z (zC Z zP)) Z) hS37 (fun hs=>wFG x1 b10 A11 c12 20 W23 U20 hs h32 h35) (.inl Z) ?_
 rintro U38 L39 v40 W41 le42 hS43 ⟨A44,c45,A46,c47,rfl,rfl,h49⟩
 let B2:Res:=.blk b10 192 [.slice A46 x34.bytes.length c47,jV x34.next,.int .u32 x34.state]
 let B3:Res:=.row A44 c45 141 3 (nA wAK x33)
 have hS50:sW w U U38 [B3,B2,B1] W41:=hS43
 refine oA Z Z (eN (sR gAe Z (oM Z Z ?_)))
 have h51:=h30.le le42
 have q:=bnd hm36
 obtain ⟨⟨x52,x53⟩,h54,hm55⟩:=q
 try dsimp only at hm55
 have hS56:sW w U U38 [B1,B3,B2] W41:=hS50.pick [2,0,1] _ (by decide) rfl
 refine zL 1 Z Z Z Z (zK Z Z Tryz.call42 (zC Z (zC Z zP)) Z) hS56 (fun hs=>wBV x17 b26 A27 c28 31 W41 U38 hs h51 h54) (.inl Z) ?_
 rintro U57 L58 v59 W60 le61 hS62 ⟨A63,c64,A65,c66,rfl,rfl,h68⟩
 let B4:Res:=.row A63 c64 3 1 (nA KL.encI x52)
 let B5:Res:=.blk b26 192 [.slice A65 x53.bytes.length c66,jV x53.next,.int .u32 x53.state]
 have hS69:sW w U U57 [B4,B5,B3,B2] W60:=hS62
 refine oA Z Z (eN (sR fL1 Z (oA Z Z (eN (zF (sR (wMI gAf) Z (oM Z Z (oM Z Z (oR Z (zo Z Z ZA) ?_)))))))))
 have q:=bnd hm55
 obtain ⟨⟨x70,x71⟩,h72,hm73⟩:=q
 try dsimp only at hm73
 have hS74:sW w U U57 [B5,B4,B3,B2] W60:=hS69.pick [1,0,2,3] _ (by decide) rfl
 refine zL 1 Z Z Z Z (zK Z Z Tryz.call42 (zC Z (zC Z zP)) Z) hS74 (fun hs=>wBV x53 b26 A65 c66 (↑x33.length:Int) W60 U57 hs h68 h72) (.inl Z) ?_
 rintro U75 L76 v77 W78 le79 hS80 ⟨A81,c82,A83,c84,rfl,rfl,h86⟩
 let B6:Res:=.blk b26 192 [.slice A83 x71.bytes.length c84,jV x71.next,.int .u32 x71.state]
 let B7:Res:=.row A81 c82 3 1 (nA KL.encI x70)
 have hS87:sW w U U75 [B7,B6,B4,B3,B2] W78:=hS80
 refine oR Z (zo Z Z zA) (oM Z Z (eN (zS (bnK hm73 fun y110 hf107 hm106=>?_))))
 have q:=wAx hf107
 obtain ⟨hle108,hf109⟩:=q
 replace hle108:=zD hle108
 refine CK.forN' (fun k105 l101 σ_ w_=>∃ (U_:PHeap) (A102:Option Addr) (c103:Nat),σ_ 47=jV (↑k105:Int)/\σ_ 5=.pointer (some ⟨b10,0,none⟩)/\σ_ 6=.pointer (some ⟨b26,0,none⟩)/\σ_ 7=.slice A44 x33.length c45/\σ_ 8=.slice A63 x52.length c64/\σ_ 9=.slice A102 l101.length c103/\σ_ 45=.slice A81 x70.length c82/\σ_ 46=jV (↑x70.length:Int)/\PHeap.Le U75 U_/\sW w U U_ [B6,B2,B3,B4,.row A102 c103 141 3 (nA wAK l101),B7] w_) hf109 ?_ ?_ ?_
 ·have hS111:=hS87.nilrow 141 3
  exact ⟨U75,none,0,rfl,rfl,rfl,rfl,rfl,rfl,rfl,rfl,(zG _),(hS111.pick [2,5,4,3,0,1] _ (by decide) rfl)⟩
 ·rintro k105 l101 xx115 σ113 W114 hk118 ⟨U120,A102,c103,fi119,f123,f124,f125,f126,f127,f128,f129,le121,hS122⟩ hx116
  have c130:Hid ((↑k105:Int) < (↑x70.length:Int)):=zD (wBT hk118)
  replace hk118:=zD hk118
  have hi131:Hid (w64 ((↑k105:Int) + 1)=(↑(k105 + 1):Int)):=zD (by have h1:=hle108.out;have h2:=c130.out;rw [wAU] <;> omega)
  refine sR fL1 Z (oR Z (zQ Z fi119 f129) (eN (zF (cT Z c130 (kN (zF (zS (sR fL3 Z (bnK hx116 fun _ h132 hm133=>?_)))))))))
  obtain ⟨b134,hA135⟩:=hS122.rowSome (j:=5) rfl (by rw [wAB (f:=KL.encI) (sz:=1) (fun _=>rfl) x70];have hz:=wAP h132;omega)
  refine oR Z (ZD Z f128 hA135 fi119 zA zB (wAP h132)) ?_
  have hg136:=wBM (xs:=x70) (wAP h132)
  refine ZC rfl rfl rfl rfl (hS122.ldR (j:=5) rfl hA135 rfl rfl zJ (wAO (sz:=1) (fun _=>rfl) _ _ 0 _ hg136 (by first | omega | rfl | simp) rfl)) rfl (Zb rfl rfl rfl rfl rfl rfl (eN (sR (wHL (.fx 4 (.fx 5 .nil .stop) .stop)) rfl (zR rfl rfl rfl rfl rfl f125 (zR rfl rfl rfl rfl rfl rfl (bnK hm133 fun _ h137 hm138=>?_))))))
  obtain ⟨b139,hA140⟩:=hS122.rowSome (j:=2) rfl (by rw [wAB (f:=wAK) (sz:=3) (fun _=>rfl) x33];have hz:=wAP h137;omega)
  refine oR Z (ZS Z Z hA140 Z ZA ZW (wCJ h137) (wCK h137)) ?_
  have hg141:=wBM (xs:=x33) (wAP h137)
  let B8:List Value:=[jV ((gd x33 (gd x70 k105).toNat).Bib),jV ((gd x33 (gd x70 k105).toNat).Nation),jV ((gd x33 (gd x70 k105).toNat).Rank)]
  refine ZC rfl rfl rfl rfl (hS122.ldRA (j:=2) rfl hA140 rfl rfl Tryz.isAgg141 ZW (vs:=B8) (wJf (sz:=3) (fun _=>rfl) _ _ _ hg141 (by first | omega | rfl | simp) rfl) rfl) rfl ?_
  let B9:List Value:=[jV 0,jV 0,jV 0]
  refine zw (cs:=B9) Z Z Z Z Z Zz Z hS122 ?_
  intro W142 b143 hS144
  refine ZR (j:=0) (vs:=B8) Z Z Z Z hS144 Z Z Z Z ZW (zI Z) Z Z Z ?_
  intro W146 hS147
  let B10:Res:=.row A102 c103 141 3 (nA wAK l101)
  have hS148:sW w U U120 [.blk b143 141 B8,B6,B2,B3,B4,B10,B7] W146:=hS147
  refine eN (sR (wOn (.fx 6 .nil .stop)) Z (oM Z f126 (oR Z (zX Z Z Zc Z zB) (oL Z (hS148.ldB (j:=0) Z Z Z zJ (v:=jV ((gd x33 (gd x70 k105).toNat).Nation)) Z) (bnK hm138 fun _ h149 hm150=>?_)))))
  obtain ⟨b151,hA152⟩:=hS148.rowSome (j:=4) rfl (by rw [wAB (f:=KL.encI) (sz:=1) (fun _=>rfl) x52];have hz:=wAP h149;omega)
  refine oR Z (ZS Z Z hA152 Z zA zB (wCJ h149) (wCK h149)) ?_
  have hg153:=wBM (xs:=x52) (wAP h149)
  refine ZC rfl rfl rfl rfl (hS148.ldR (j:=4) rfl hA152 rfl rfl zJ (wAO (sz:=1) (fun _=>rfl) _ _ 0 _ hg153 (by first | omega | rfl | simp) rfl)) rfl (zY rfl rfl rfl rfl (fun _=>zX rfl rfl Zc rfl zB) (ZR (j:=0) (vs:=[jV (gd x52 ((gd x33 (gd x70 k105).toNat).Nation).toNat)]) rfl rfl rfl rfl hS148 rfl rfl rfl rfl zB (zI rfl) rfl rfl rfl ?_))
  intro W154 hS155
  let B11:List Value:=[jV ((gd x33 (gd x70 k105).toNat).Bib),jV (gd x52 ((gd x33 (gd x70 k105).toNat).Nation).toNat),jV ((gd x33 (gd x70 k105).toNat).Rank)]
  have hS156:sW w U U120 [.blk b143 141 B11,B6,B2,B3,B4,B10,B7] W154:=hS155
  refine eN (rR (.fl 0 (.fl 1 (.fx 2 (.fx 3 (.fl 4 .nil) .stop) .stop))) Z (oM Z f127 (oL Z (hS156.ldBA (j:=0) Z Z Z Tryz.isAgg141 ZW (vs:=B11) Z Z) (zU (pv:=[(0,.agg B11.toArray)]) (zs:=B9) (cs:=B11) Z Z Z Z Z (wAH Z wAQ) ZA ZW Zz Z Z Z Z Z hS156 ?_))))
  intro W157 b158 hS159
  let B12:Res:=.row (some ⟨b158,0,none⟩) 1 141 3 (nA wAK [(⟨(gd x33 (gd x70 k105).toNat).Bib,(gd x52 ((gd x33 (gd x70 k105).toNat).Nation).toNat),(gd x33 (gd x70 k105).toNat).Rank⟩:wAA)])
  have hS161:sW w U U120 [B12,.blk b143 141 B11,B6,B2,B3,B4,B10,B7] W157:=hS159
  refine bnK hm150 fun x162 h163 hm164=>ZO (j:=6) (enc:=wAK) (xs:=l101) (ys:=[(⟨(gd x33 (gd x70 k105).toNat).Bib,(gd x52 ((gd x33 (gd x70 k105).toNat).Nation).toNat),(gd x33 (gd x70 k105).toNat).Rank⟩:wAA)]) (zs:=x162) rfl rfl rfl rfl rfl Tryz.underlying138 wNy rfl rfl rfl rfl rfl rfl hS161 rfl rfl rfl (hS161.srcR (j:=0) rfl (by decide) (wAB (f:=wAK) (sz:=3) (fun _=>rfl) [(⟨(gd x33 (gd x70 k105).toNat).Bib,(gd x52 ((gd x33 (gd x70 k105).toNat).Nation).toNat),(gd x33 (gd x70 k105).toNat).Rank⟩:wAA)])) (fun _=>rfl) (fun _=>rfl) h163 rfl ?_
  intro A165 c166 W167 hS168
  have hS169:sW w U U120 [B12,.blk b143 141 B11,B6,B2,B3,B4,.row A165 c166 141 3 (nA wAK x162),B7] W167:=hS168
  refine oA Z Z (zx (zZ (zH (rR fL2 Z (oR Z (zz (zV Z fi119 Z) (congrArg (jV) hi131.out)) (oM Z Z (zx ?_)))))))
  cases hm164
  exact zH ⟨rfl,⟨U120,A165,c166,rfl,f123,f124,f125,f126,rfl,f128,f129,le121,(hS169.pick [2,3,4,5,6,7] _ (by decide) rfl)⟩⟩
 ·rintro σ173 W174 ⟨U182,A180,c181,fi176,f185,f186,f187,f188,f189,f190,f191,le183,hS184⟩
  have c192:Hid (¬ ((↑(((↑x70.length:Int):Int) - 0).toNat:Int) < (↑x70.length:Int))):=zD (wAr)
  refine sR fL1 Z (oR Z (zQ Z fi176 f191) (eN (zF (cF Z c192 (ZM (ze (ze (ZI (zH (sR (.fl 0 (.fx 1 (wIe (.nil)) .stop)) Z (oM Z f187 ?_)))))))))))
  have q:=hS184.freezeR (k:=2) (n:=x33.length) rfl (wAB (f:=wAK) (sz:=3) (fun _=>rfl) x33) (by decide)
  obtain ⟨U193,le194,hs195,hS196⟩:=q
  let B13:Res:=.row A180 c181 141 3 (nA wAK y110)
  have hS197:sW w U U193 [B6,B2,B4,B13,B7] W174:=hS196
  have q:=bnd hm106
  obtain ⟨⟨x198,x199⟩,h200,hm201⟩:=q
  try dsimp only at hm201
  refine zL 0 Z Z Z Z (zK Z Z Tryz.call72 (zC Z (zC Z zP)) Z) hS197 (fun hs=>wFb x33 A44 c45 7 W174 U193 hs hs195 h200) (.inr Z) ?_
  rintro U202 L203 v204 W205 le206 hS207 ⟨A208,c209,rfl,rfl⟩
  let B14:Res:=.row A208 c209 148 3 (nA wAY x198)
  have hS211:sW w U U202 [B14,B6,B2,B4,B13,B7] W205:=hS207
  refine oM Z Z (oR Z (ZY Z Z (v:=.slice A208 x198.length c209) Z) (oR Z (ZY Z Z (v:=jV x199) Z) (oA Z Z (oA Z Z (eN (sR (.fl 0 (.fx 1 (wIe (.nil)) .stop)) Z (oM Z f189 ?_)))))))
  have q:=hS211.freezeR (k:=4) (n:=y110.length) rfl (wAB (f:=wAK) (sz:=3) (fun _=>rfl) y110) (by decide)
  obtain ⟨U212,le213,hs214,hS215⟩:=q
  have hS216:sW w U U212 [B14,B6,B2,B4,B7] W205:=hS215
  have q:=bnd hm201
  obtain ⟨⟨x217,x218⟩,h219,hm220⟩:=q
  try dsimp only at hm220
  refine zL 0 Z Z Z Z (zK Z Z Tryz.call72 (zC Z (zC Z zP)) Z) hS216 (fun hs=>wFb y110 A180 c181 7 W205 U212 hs hs214 h219) (.inr Z) ?_
  rintro U221 L222 v223 W224 le225 hS226 ⟨A227,c228,rfl,rfl⟩
  let B15:Res:=.row A227 c228 148 3 (nA wAY x217)
  have hS230:sW w U U221 [B15,B14,B6,B2,B4,B7] W224:=hS226
  refine oM Z Z (oR Z (ZY Z Z (v:=.slice A227 x217.length c228) Z) (oR Z (ZY Z Z (v:=jV x218) Z) (oA Z Z (oA Z Z (eN (sR (.fl 0 (.fx 1 (wTb (.nil)) .stop)) Z (oM Z f187 ?_)))))))
  have h231:=hs195.le le206
  have h232:=h231.le le213
  have h233:=h232.le le225
  have q:=bnd hm220
  obtain ⟨⟨x234,x235,x236⟩,h237,hm238⟩:=q
  try dsimp only at hm238
  refine zL 0 Z Z Z Z (zK Z Z Tryz.call73 (zC Z zP) Z) hS230 (fun hs=>wEl x33 A44 c45 W224 U221 hs h233 h237) (.inr Z) ?_
  rintro U239 L240 v241 W242 le243 hS244 ⟨A245,c246,rfl,rfl⟩
  let B16:Res:=.row A245 c246 3 1 (nA KL.encI x234)
  have hS248:sW w U U239 [B16,B15,B14,B6,B2,B4,B7] W242:=hS244
  refine oM Z Z (oR Z (ZY Z Z (v:=.slice A245 x234.length c246) Z) (oR Z (ZY Z Z (v:=jV x235) Z) (oR Z (ZY Z Z (v:=jV x236) Z) (oA Z Z (oA Z Z (oA Z Z (eN (sR (.fl 0 (.fx 1 (wTb (.nil)) .stop)) Z (oM Z f189 ?_)))))))))
  have h249:=hs214.le le225
  have h250:=h249.le le243
  have q:=bnd hm238
  obtain ⟨⟨x251,x252,x253⟩,h254,hm255⟩:=q
  try dsimp only at hm255
  refine zL 0 Z Z Z Z (zK Z Z Tryz.call73 (zC Z zP) Z) hS248 (fun hs=>wEl y110 A180 c181 W242 U239 hs h250 h254) (.inr Z) ?_
  rintro U256 L257 v258 W259 le260 hS261 ⟨A262,c263,rfl,rfl⟩
  let B17:Res:=.row A262 c263 3 1 (nA KL.encI x251)
  have hS265:sW w U U256 [B17,B16,B15,B14,B6,B2,B4,B7] W259:=hS261
  refine oM Z Z (oR Z (ZY Z Z (v:=.slice A262 x251.length c263) Z) (oR Z (ZY Z Z (v:=jV x252) Z) (oR Z (ZY Z Z (v:=jV x253) Z) (oA Z Z (oA Z Z (oA Z Z (eN (zF (zF (CK.fresh fun σ266 hσ267=>?_))))))))))
  have f268:σ266 5=.pointer (some ⟨b10,0,none⟩):=(hσ267 5).trans f185
  have f269:σ266 6=.pointer (some ⟨b26,0,none⟩):=(hσ267 6).trans f186
  have f270:σ266 13=.slice A208 x198.length c209:=(hσ267 13).trans rfl
  have f271:σ266 14=jV x199:=(hσ267 14).trans rfl
  have f272:σ266 15=.slice A227 x217.length c228:=(hσ267 15).trans rfl
  have f273:σ266 16=jV x218:=(hσ267 16).trans rfl
  have f274:σ266 18=jV x235:=(hσ267 18).trans rfl
  have f275:σ266 19=jV x236:=(hσ267 19).trans rfl
  have f276:σ266 21=jV x252:=(hσ267 21).trans rfl
  have f277:σ266 22=jV x253:=(hσ267 22).trans rfl
  clear hσ267
  refine rR (wOo (.fx 17 (wRr (.nil)) .stop)) Z (oM Z f271 (oR Z (Zp Z Z Z) (oM Z Z (ifc hm255 ?_ ?_))))
  ·intro c278 hm279
   refine zR Z Z Z (zm Z Z (ZU (fun h=>h c278.out))) Z f273 (zY Z Z Z (zm Z Z (ZU (fun h=>h c278.out))) (fun _=>Zp Z Z Z) (oR Z (zh Z (ZU (fun h=>h c278.out)) Z) (oM Z Z (ifc hm279 ?_ ?_))))
   ·intro c280 hm281
    refine zR Z Z Z (zm Z Z (ZU (fun h=>h c280.out))) Z f275 (zY Z Z Z (zm Z Z (ZU (fun h=>h c280.out))) (fun _=>Zp Z Z Z) (oR Z (zh Z (ZU (fun h=>h c280.out)) Z) (oM Z Z (ifc hm281 ?_ ?_))))
    ·intro c282 hm283
     refine zR Z Z Z (zm Z Z (ZU (fun h=>h c282.out))) Z f277 (zY Z Z Z (zm Z Z (ZU (fun h=>h c282.out))) (fun _=>Zp Z Z Z) (oR Z (zh Z (ZU (fun h=>h c282.out)) Z) (oM Z Z (ifc hm283 ?_ ?_))))
     ·intro c284 hm285
      refine zR Z Z Z (zm Z Z (ZU (fun h=>h c284.out))) Z f270 (zR Z Z Z (zm Z Z (ZU (fun h=>h c284.out))) Z f272 ?_)
      have q:=hS265.freezeR (k:=3) (n:=x198.length) rfl (wAB (f:=wAY) (sz:=3) (fun _=>rfl) x198) (by decide)
      obtain ⟨U286,le287,hs288,hS289⟩:=q
      have hS290:sW w U U286 [B17,B16,B15,B6,B2,B4,B7] W259:=hS289
      have q:=hS290.freezeR (k:=2) (n:=x217.length) rfl (wAB (f:=wAY) (sz:=3) (fun _=>rfl) x217) (by decide)
      obtain ⟨U291,le292,hs293,hS294⟩:=q
      have hS295:sW w U U291 [B17,B16,B6,B2,B4,B7] W259:=hS294
      have h296:=hs288.le le292
      refine bnK hm285 fun x297 h298 hm299=>zL 0 Z Z Z (zm Z Z (ZU (fun h=>h c284.out))) (zK Z Z Tryz.call74 (zC Z (zC Z zP)) Z) hS295 (fun hs=>wDE x198 A208 c209 x217 A227 c228 W259 U291 hs h296 hs293 h298) (.inr Z) ?_
      rintro U300 L301 v302 W303 le304 hS305 ⟨rfl,rfl⟩
      have hS306:sW w U U300 [B17,B16,B6,B2,B4,B7] W303:=hS305
      refine zY Z Z Z (zm Z Z (ZU (fun h=>h c284.out))) (fun _=>Zf Z Z) (oR Z (zh Z (ZU (fun h=>h c284.out)) Z) (oM Z Z (ifc hm299 ?_ ?_)))
      ·intro c307 hm308
       refine zR Z Z Z (zm Z Z (nC c307.out)) Z f274 (zR Z Z Z (zm Z Z (nC c307.out)) Z f276 (zY Z Z Z (zm Z Z (nC c307.out)) (fun _=>Zp Z Z Z) (oR Z (zh Z (nC c307.out) Z) (eN (ifc hm308 ?_ ?_)))))
       ·intro c309 hm310
        refine ZG (ZU (fun h=>h c309.out)) (kN (sR (.fl 0 (.fx 1 (.fx 2 (.fx 3 .nil .stop) .stop) .stop)) Z (oM Z f268 ?_)))
        have h311:=h49.le le61
        have h312:=h311.le le79
        have h313:=h312.le le183
        have h314:=h313.le le194
        have h315:=h314.le le206
        have h316:=h315.le le213
        have h317:=h316.le le225
        have h318:=h317.le le243
        have h319:=h318.le le260
        have h320:=h319.le le287
        have h321:=h320.le le292
        have h322:=h321.le le304
        have q:=bnd hm310
        obtain ⟨⟨x323,x324⟩,h325,hm326⟩:=q
        try dsimp only at hm326
        have hS327:sW w U U300 [B2,B17,B16,B6,B4,B7] W303:=hS306.pick [3,0,1,2,4,5] _ (by decide) rfl
        refine zL 1 Z Z Z Z (zK Z Z Tryz.call75 (zC Z (zC Z zP)) Z) hS327 (fun hs=>wEi x34 b10 A46 c47 10 W303 U300 hs h322 h325) (.inl Z) ?_
        rintro U328 L329 v330 W331 le332 hS333 ⟨A334,c335,A336,c337,c338,A339,c340,rfl,rfl,h343,h344⟩
        let B18:Res:=.blk b10 192 [.slice A339 x324.bytes.length c340,jV x324.next,.int .u32 x324.state]
        let B19:Res:=.row A336 c337 22 1 c338
        let B20:Res:=.row A334 c335 3 1 (nA KL.encI x323.Bibs)
        have hS345:sW w U U328 [B20,B19,B18,B17,B16,B6,B4,B7] W331:=hS333
        let B21:List Value:=[jV 0,.slice none 0 0,.slice none 0 0]
        refine zw (cs:=B21) Z Z Z Z Z zd Z hS345 ?_
        intro W346 b347 hS348
        let B22:List Value:=[jV x323.Laps,.slice A334 x323.Bibs.length c335,.slice A336 x323.Times.length c337]
        refine ZR (j:=0) (vs:=B22) Z Z Z Z hS348 Z Z Z Z ZB (zI Z) Z Z Z ?_
        intro W350 hS351
        have hS352:sW w U U328 [.blk b347 66 B22,B20,B19,B18,B17,B16,B6,B4,B7] W350:=hS351
        refine eN ?_
        have q:=bnd hm326
        obtain ⟨⟨l353,l356,x361,l362,l365⟩,hx372,hm373⟩:=q
        try dsimp only at hm373
        let B23:List Value:=[jV x323.Laps,.slice none 0 0,.slice none 0 0]
        refine CK.cut (fun σ_ w_=>∃ (U_:PHeap) (A354:Option Addr) (c355:Nat) (A357:Option Addr) (c358:Nat) (b360:Nat) (A363:Option Addr) (c364:Nat) (A366:Option Addr) (c367:Nat) (hs368:List Hd) (b370:Nat),σ_ 6=.pointer (some ⟨b26,0,none⟩)/\σ_ 23=.pointer (some ⟨b347,0,none⟩)/\σ_ 24=.pointer (some ⟨b360,0,none⟩)/\σ_ 25=.pointer (some ⟨b370,0,none⟩)/\PHeap.Le U328 U_/\sW w U U_ [.blk b347 66 [jV x323.Laps,.slice A354 l353.length c355,.slice A357 l356.length c358],B18,B6,.blk b360 66 [jV x361,.slice A363 l362.length c364,.slice A366 l365.length c367],.row A363 c364 3 1 (nA KL.encI l362),.row A366 c367 22 1 (nA wBX hs368),inn 3 1 KL.encI hs368 l365,.blk b370 66 B23] w_/\Sl U_ 1 A354 c355 l353.length (nA KL.encI l353)/\SlR U_ wBH A357 c358 l356) ?_ ?_
        ·refine bnK hx372 fun x386 h387 hm418=>Ze Za [1,2,3,2,3,2,2,0,0] (.fl 0 (.fl 2 (.fx 1 (.fx 3 (.fl 4 gAm) (.fx 5 gAv (.fx 6 gAw .stop))) (.fx 3 (.fl 4 (.fx 1 gAm (.fx 5 gAo (.fx 6 gAp .stop)))) (.fx 5 (.fx 1 gAv (.fx 3 (.fl 4 gAo) (.fx 6 gAr .stop))) (.fx 6 (.fx 1 gAw (.fx 3 (.fl 4 gAp) (.fx 5 gAr .stop))) .stop)))))) (by kernel_rfl) ?_
         have hS419:=hS352.drew
         generalize hw_W420:({ W350 with drawn:=W350.drawn + 1 }:World)=W420 at hS419 ⊢
         refine zr (s:=.nil) (M:=fun σ_ w_=>∃ (U_:PHeap) (A956:Option Addr) (c957:Nat) (A959:Option Addr) (c960:Nat) (b962:Nat) (A963:Option Addr) (c964:Nat) (A965:Option Addr) (c966:Nat) (hs967:List Hd) (b969:Nat) (A971:Option Addr) (c972:Nat) (A974:Option Addr) (c975:Nat),σ_ 6=.pointer (some ⟨b26,0,none⟩)/\σ_ 23=.pointer (some ⟨b347,0,none⟩)/\σ_ 24=.pointer (some ⟨b962,0,none⟩)/\σ_ 25=.pointer (some ⟨b969,0,none⟩)/\σ_ 115=.agg #[jV x323.Laps,.slice A971 x323.Bibs.length c972,.slice A974 x323.Times.length c975]/\σ_ 116=.agg #[jV x386.Laps,.slice A963 x386.Bibs.length c964,.slice A965 x386.Times.length c966]/\σ_ 117=.pointer (some ⟨b347,0,none⟩)/\σ_ 118=jV x323.Laps/\σ_ 119=.agg B23.toArray/\PHeap.Le U328 U_/\sW w U U_ [.blk b347 66 [jV x323.Laps,.slice A956 x323.Bibs.length c957,.slice A959 x323.Times.length c960],B18,B6,.blk b962 66 [jV x386.Laps,.slice A963 x386.Bibs.length c964,.slice A965 x386.Times.length c966],.row A963 c964 3 1 (nA KL.encI x386.Bibs),.row A965 c966 22 1 (nA wBX hs967),inn 3 1 KL.encI hs967 x386.Times,.blk b969 66 B23] w_/\Sl U_ 1 A956 c957 x323.Bibs.length (nA KL.encI x323.Bibs)/\SlR U_ wBH A959 c960 x323.Times/\Sl U_ 1 A971 c972 x323.Bibs.length (nA KL.encI x323.Bibs)/\SlR U_ wBH A974 c975 x323.Times) ?_ fun ko976=>?_
         ·rintro σ977 W978 ⟨U979,A956,c957,A959,c960,b962,A963,c964,A965,c966,hs967,b969,A971,c972,A974,c975,f982,f983,f984,f985,f986,f987,f988,f989,f990,le980,hS981,h991,h992,h993,h994⟩
          refine zx ?_
          cases hm418
          exact zH ⟨Z,⟨U979,A956,c957,A959,c960,b962,A963,c964,A965,c966,hs967,b969,f982,f983,f984,f985,le980,hS981,h991,h992⟩⟩
         refine zr (s:=.fx 8 .nil .stop) (M:=fun σ_ w_=>∃ (U_:PHeap) (A1014:Option Addr) (c1015:Nat) (A1017:Option Addr) (c1018:Nat) (b1020:Nat) (A1021:Option Addr) (c1022:Nat) (A1023:Option Addr) (c1024:Nat) (hs1025:List Hd) (b1027:Nat) (A1029:Option Addr) (c1030:Nat) (A1032:Option Addr) (c1033:Nat),σ_ 6=.pointer (some ⟨b26,0,none⟩)/\σ_ 23=.pointer (some ⟨b347,0,none⟩)/\σ_ 24=.pointer (some ⟨b1020,0,none⟩)/\σ_ 25=.pointer (some ⟨b1027,0,none⟩)/\σ_ 115=.agg #[jV x323.Laps,.slice A1029 x323.Bibs.length c1030,.slice A1032 x323.Times.length c1033]/\σ_ 116=.agg #[jV x386.Laps,.slice A1021 x386.Bibs.length c1022,.slice A1023 x386.Times.length c1024]/\σ_ 117=.pointer (some ⟨b347,0,none⟩)/\σ_ 118=jV x323.Laps/\σ_ 119=.agg B23.toArray/\PHeap.Le U328 U_/\sW w U U_ [.blk b347 66 [jV x323.Laps,.slice A1014 x323.Bibs.length c1015,.slice A1017 x323.Times.length c1018],B18,B6,.blk b1020 66 [jV x386.Laps,.slice A1021 x386.Bibs.length c1022,.slice A1023 x386.Times.length c1024],.row A1021 c1022 3 1 (nA KL.encI x386.Bibs),.row A1023 c1024 22 1 (nA wBX hs1025),inn 3 1 KL.encI hs1025 x386.Times,.blk b1027 66 B21] w_/\Sl U_ 1 A1014 c1015 x323.Bibs.length (nA KL.encI x323.Bibs)/\SlR U_ wBH A1017 c1018 x323.Times/\Sl U_ 1 A1029 c1030 x323.Bibs.length (nA KL.encI x323.Bibs)/\SlR U_ wBH A1032 c1033 x323.Times) ?_ fun ko1034=>?_
         ·rintro σ1035 W1036 ⟨U1037,A1014,c1015,A1017,c1018,b1020,A1021,c1022,A1023,c1024,hs1025,b1027,A1029,c1030,A1032,c1033,f1040,f1041,f1042,f1043,f1044,f1045,f1046,f1047,f1048,le1038,hS1039,h1049,h1050,h1051,h1052⟩
          refine ZR (j:=7) (vs:=B23) Z Z Z Z hS1039 Z f1043 f1048 Z ZB (zI Z) Z Z Z ?_
          intro W1053 hS1054
          have hS1055:sW w U U1037 [.blk b347 66 [jV x323.Laps,.slice A1014 x323.Bibs.length c1015,.slice A1017 x323.Times.length c1018],B18,B6,.blk b1020 66 [jV x386.Laps,.slice A1021 x386.Bibs.length c1022,.slice A1023 x386.Times.length c1024],.row A1021 c1022 3 1 (nA KL.encI x386.Bibs),.row A1023 c1024 22 1 (nA wBX hs1025),inn 3 1 KL.encI hs1025 x386.Times,.blk b1027 66 B23] W1053:=hS1054
          exact ko976 _ _ ⟨U1037,A1014,c1015,A1017,c1018,b1020,A1021,c1022,A1023,c1024,hs1025,b1027,A1029,c1030,A1032,c1033,f1040,f1041,f1042,f1043,f1044,f1045,f1046,f1047,f1048,le1038,hS1055,h1049,h1050,h1051,h1052⟩
         refine zr (s:=gAb) (M:=fun σ_ w_=>∃ (U_:PHeap) (A1078:Option Addr) (c1079:Nat) (A1081:Option Addr) (c1082:Nat) (b1084:Nat) (A1085:Option Addr) (c1086:Nat) (A1087:Option Addr) (c1088:Nat) (hs1089:List Hd) (b1091:Nat) (A1093:Option Addr) (c1094:Nat) (A1096:Option Addr) (c1097:Nat),σ_ 6=.pointer (some ⟨b26,0,none⟩)/\σ_ 23=.pointer (some ⟨b347,0,none⟩)/\σ_ 24=.pointer (some ⟨b1084,0,none⟩)/\σ_ 25=.pointer (some ⟨b1091,0,none⟩)/\σ_ 115=.agg #[jV x323.Laps,.slice A1093 x323.Bibs.length c1094,.slice A1096 x323.Times.length c1097]/\σ_ 116=.agg #[jV x386.Laps,.slice A1085 x386.Bibs.length c1086,.slice A1087 x386.Times.length c1088]/\σ_ 117=.pointer (some ⟨b347,0,none⟩)/\σ_ 118=jV x323.Laps/\PHeap.Le U328 U_/\sW w U U_ [.blk b347 66 [jV x323.Laps,.slice A1078 x323.Bibs.length c1079,.slice A1081 x323.Times.length c1082],B18,B6,.blk b1084 66 [jV x386.Laps,.slice A1085 x386.Bibs.length c1086,.slice A1087 x386.Times.length c1088],.row A1085 c1086 3 1 (nA KL.encI x386.Bibs),.row A1087 c1088 22 1 (nA wBX hs1089),inn 3 1 KL.encI hs1089 x386.Times,.blk b1091 66 B21] w_/\Sl U_ 1 A1078 c1079 x323.Bibs.length (nA KL.encI x323.Bibs)/\SlR U_ wBH A1081 c1082 x323.Times/\Sl U_ 1 A1093 c1094 x323.Bibs.length (nA KL.encI x323.Bibs)/\SlR U_ wBH A1096 c1097 x323.Times) ?_ fun ko1098=>?_
         ·rintro σ1099 W1100 ⟨U1101,A1078,c1079,A1081,c1082,b1084,A1085,c1086,A1087,c1088,hs1089,b1091,A1093,c1094,A1096,c1097,f1104,f1105,f1106,f1107,f1108,f1109,f1110,f1111,le1102,hS1103,h1112,h1113,h1114,h1115⟩
          refine oR Z (Zd (pv:=[(0,jV x323.Laps)]) (z:=B21) (cs:=B23) Z (wAH f1111 wAQ) zd wCi Z Z) (ZR (j:=7) (vs:=B23) Z Z Z Z hS1103 Z f1107 Z Z ZB (zI Z) Z Z Z ?_)
          intro W1116 hS1117
          have hS1118:sW w U U1101 [.blk b347 66 [jV x323.Laps,.slice A1078 x323.Bibs.length c1079,.slice A1081 x323.Times.length c1082],B18,B6,.blk b1084 66 [jV x386.Laps,.slice A1085 x386.Bibs.length c1086,.slice A1087 x386.Times.length c1088],.row A1085 c1086 3 1 (nA KL.encI x386.Bibs),.row A1087 c1088 22 1 (nA wBX hs1089),inn 3 1 KL.encI hs1089 x386.Times,.blk b1091 66 B23] W1116:=hS1117
          exact ko976 _ _ ⟨U1101,A1078,c1079,A1081,c1082,b1084,A1085,c1086,A1087,c1088,hs1089,b1091,A1093,c1094,A1096,c1097,f1104,f1105,f1106,f1107,f1108,f1109,f1110,f1111,Z,le1102,hS1118,h1112,h1113,h1114,h1115⟩
         refine zr (s:=gAa) (M:=fun σ_ w_=>∃ (U_:PHeap) (A1141:Option Addr) (c1142:Nat) (A1144:Option Addr) (c1145:Nat) (b1147:Nat) (b1149:Nat) (A1151:Option Addr) (c1152:Nat) (A1154:Option Addr) (c1155:Nat) (A1156:Option Addr) (c1157:Nat) (A1158:Option Addr) (c1159:Nat) (hs1160:List Hd),σ_ 6=.pointer (some ⟨b26,0,none⟩)/\σ_ 23=.pointer (some ⟨b347,0,none⟩)/\σ_ 24=.pointer (some ⟨b1147,0,none⟩)/\σ_ 25=.pointer (some ⟨b1149,0,none⟩)/\σ_ 115=.agg #[jV x323.Laps,.slice A1151 x323.Bibs.length c1152,.slice A1154 x323.Times.length c1155]/\σ_ 116=.agg #[jV x386.Laps,.slice A1156 x386.Bibs.length c1157,.slice A1158 x386.Times.length c1159]/\σ_ 117=.pointer (some ⟨b347,0,none⟩)/\σ_ 118=jV x323.Laps/\σ_ 119=.agg B23.toArray/\PHeap.Le U328 U_/\sW w U U_ [.blk b347 66 [jV x323.Laps,.slice A1141 x323.Bibs.length c1142,.slice A1144 x323.Times.length c1145],B18,B6,.blk b1147 66 B21,.blk b1149 66 B21,.row A1156 c1157 3 1 (nA KL.encI x386.Bibs),.row A1158 c1159 22 1 (nA wBX hs1160),inn 3 1 KL.encI hs1160 x386.Times] w_/\Sl U_ 1 A1141 c1142 x323.Bibs.length (nA KL.encI x323.Bibs)/\SlR U_ wBH A1144 c1145 x323.Times/\Sl U_ 1 A1151 c1152 x323.Bibs.length (nA KL.encI x323.Bibs)/\SlR U_ wBH A1154 c1155 x323.Times) ?_ fun ko1161=>?_
         ·rintro σ1162 W1163 ⟨U1164,A1141,c1142,A1144,c1145,b1147,b1149,A1151,c1152,A1154,c1155,A1156,c1157,A1158,c1159,hs1160,f1167,f1168,f1169,f1170,f1171,f1172,f1173,f1174,f1175,le1165,hS1166,h1176,h1177,h1178,h1179⟩
          let B24:List Value:=[jV x386.Laps,.slice A1156 x386.Bibs.length c1157,.slice A1158 x386.Times.length c1159]
          refine ZR (j:=3) (vs:=B24) Z Z Z Z hS1166 Z f1169 f1172 Z ZB (zI Z) Z Z Z ?_
          intro W1180 hS1181
          have hS1182:sW w U U1164 [.blk b347 66 [jV x323.Laps,.slice A1141 x323.Bibs.length c1142,.slice A1144 x323.Times.length c1145],B18,B6,.blk b1147 66 B24,.blk b1149 66 B21,.row A1156 c1157 3 1 (nA KL.encI x386.Bibs),.row A1158 c1159 22 1 (nA wBX hs1160),inn 3 1 KL.encI hs1160 x386.Times] W1180:=hS1181
          exact ko1034 _ _ ⟨U1164,A1141,c1142,A1144,c1145,b1147,A1156,c1157,A1158,c1159,hs1160,b1149,A1151,c1152,A1154,c1155,f1167,f1168,f1169,f1170,f1171,f1172,f1173,f1174,f1175,le1165,(hS1182.pick [0,1,2,3,5,6,7,4] _ (by decide) rfl),h1176,h1177,h1178,h1179⟩
         refine zr (s:=gAj) (M:=fun σ_ w_=>∃ (U_:PHeap) (b1205:Nat) (b1207:Nat),σ_ 6=.pointer (some ⟨b26,0,none⟩)/\σ_ 23=.pointer (some ⟨b347,0,none⟩)/\σ_ 24=.pointer (some ⟨b1205,0,none⟩)/\σ_ 25=.pointer (some ⟨b1207,0,none⟩)/\σ_ 115=.agg B22.toArray/\σ_ 117=.pointer (some ⟨b347,0,none⟩)/\σ_ 118=jV x323.Laps/\σ_ 119=.agg B23.toArray/\PHeap.Le U328 U_/\sW w U U_ [B20,B19,.blk b347 66 B22,B18,B6,.blk b1205 66 B21,.blk b1207 66 B21] w_) ?_ fun ko1208=>?_
         ·rintro σ1209 W1210 ⟨U1211,b1205,b1207,f1214,f1215,f1216,f1217,f1218,f1219,f1220,f1221,le1212,hS1213⟩
          have q:=hS1213.freezeR (k:=0) (n:=x323.Bibs.length) rfl (wAB (f:=KL.encI) (sz:=1) (fun _=>rfl) x323.Bibs) (by decide)
          obtain ⟨U1222,le1223,hs1224,hS1225⟩:=q
          have hS1226:sW w U U1222 [B19,.blk b347 66 B22,B18,B6,.blk b1205 66 B21,.blk b1207 66 B21] W1210:=hS1225
          have h1231:=h343.le le1212
          have h1232:=h1231.le le1223
          have q:=hS1226.freezeRR (R:=wBH) (k:=0) rfl h1232 rfl (by decide)
          obtain ⟨U1227,le1228,hs1229,hS1230⟩:=q
          have hS1233:sW w U U1227 [.blk b347 66 B22,B18,B6,.blk b1205 66 B21,.blk b1207 66 B21] W1210:=hS1230
          have h1234:=hs1224.le le1228
          refine zL 0 Z Z Z Z (zK Z Z Zs (zC f1218 zP) Z) hS1233 (fun hs=>wAS x323 A334 c335 A336 c337 W1210 U1227 hs h1234 hs1229 h387) (.inr Z) ?_
          rintro U1236 L1237 v1238 W1239 le1240 hS1241 ⟨A1242,c1243,A1244,c1245,h1246,rfl,rfl⟩
          have hS1250:sW w U U1236 [.row A1242 c1243 3 1 (nA KL.encI x386.Bibs),.row A1244 c1245 22 1 (nA wBX h1246),inn 3 1 KL.encI h1246 x386.Times,.blk b347 66 B22,B18,B6,.blk b1205 66 B21,.blk b1207 66 B21] W1239:=hS1241
          have h1272:=h1234.le le1240
          have h1273:=hs1229.le le1240
          exact ko1161 _ _ ⟨U1236,A334,c335,A336,c337,b1205,b1207,A334,c335,A336,c337,A1242,c1243,A1244,c1245,h1246,f1214,f1215,f1216,f1217,f1218,rfl,f1219,f1220,f1221,(((le1212.trans le1223).trans le1228).trans le1240),(hS1250.pick [3,4,5,6,7,0,1,2] _ (by decide) rfl),h1272,h1273,h1272,h1273⟩
         refine zr (s:=gAi) (M:=fun σ_ w_=>∃ (U_:PHeap) (A1275:Option Addr) (c1276:Nat) (A1278:Option Addr) (c1279:Nat) (b1281:Nat) (A1282:Option Addr) (c1283:Nat) (A1284:Option Addr) (c1285:Nat) (hs1286:List Hd) (b1288:Nat) (A1290:Option Addr) (c1291:Nat) (A1293:Option Addr) (c1294:Nat),σ_ 6=.pointer (some ⟨b26,0,none⟩)/\σ_ 23=.pointer (some ⟨b347,0,none⟩)/\σ_ 24=.pointer (some ⟨b1281,0,none⟩)/\σ_ 25=.pointer (some ⟨b1288,0,none⟩)/\σ_ 115=.agg #[jV x323.Laps,.slice A1290 x323.Bibs.length c1291,.slice A1293 x323.Times.length c1294]/\σ_ 116=.agg #[jV x386.Laps,.slice A1282 x386.Bibs.length c1283,.slice A1284 x386.Times.length c1285]/\σ_ 117=.pointer (some ⟨b347,0,none⟩)/\PHeap.Le U328 U_/\sW w U U_ [.blk b347 66 [jV x323.Laps,.slice A1275 x323.Bibs.length c1276,.slice A1278 x323.Times.length c1279],B18,B6,.blk b1281 66 [jV x386.Laps,.slice A1282 x386.Bibs.length c1283,.slice A1284 x386.Times.length c1285],.row A1282 c1283 3 1 (nA KL.encI x386.Bibs),.row A1284 c1285 22 1 (nA wBX hs1286),inn 3 1 KL.encI hs1286 x386.Times,.blk b1288 66 B21] w_/\Sl U_ 1 A1275 c1276 x323.Bibs.length (nA KL.encI x323.Bibs)/\SlR U_ wBH A1278 c1279 x323.Times/\Sl U_ 1 A1290 c1291 x323.Bibs.length (nA KL.encI x323.Bibs)/\SlR U_ wBH A1293 c1294 x323.Times) ?_ fun ko1295=>?_
         ·rintro σ1296 W1297 ⟨U1298,A1275,c1276,A1278,c1279,b1281,A1282,c1283,A1284,c1285,hs1286,b1288,A1290,c1291,A1293,c1294,f1301,f1302,f1303,f1304,f1305,f1306,f1307,le1299,hS1300,h1308,h1309,h1310,h1311⟩
          exact ZH Z Z Z Z (hS1300.ldB (j:=0) Z Z f1307 zJ (v:=jV x323.Laps) Z) (ko1098 _ _ ⟨U1298,A1275,c1276,A1278,c1279,b1281,A1282,c1283,A1284,c1285,hs1286,b1288,A1290,c1291,A1293,c1294,f1301,f1302,f1303,f1304,f1305,f1306,f1307,Z,le1299,hS1300,h1308,h1309,h1310,h1311⟩)
         refine zr (s:=.fl 4 gAa) (M:=fun σ_ w_=>∃ (U_:PHeap) (A1334:Option Addr) (c1335:Nat) (A1337:Option Addr) (c1338:Nat) (b1340:Nat) (b1342:Nat) (A1344:Option Addr) (c1345:Nat) (A1347:Option Addr) (c1348:Nat) (A1349:Option Addr) (c1350:Nat) (A1351:Option Addr) (c1352:Nat) (hs1353:List Hd),σ_ 6=.pointer (some ⟨b26,0,none⟩)/\σ_ 23=.pointer (some ⟨b347,0,none⟩)/\σ_ 24=.pointer (some ⟨b1340,0,none⟩)/\σ_ 25=.pointer (some ⟨b1342,0,none⟩)/\σ_ 115=.agg #[jV x323.Laps,.slice A1344 x323.Bibs.length c1345,.slice A1347 x323.Times.length c1348]/\σ_ 116=.agg #[jV x386.Laps,.slice A1349 x386.Bibs.length c1350,.slice A1351 x386.Times.length c1352]/\σ_ 117=.pointer (some ⟨b347,0,none⟩)/\σ_ 118=jV x323.Laps/\PHeap.Le U328 U_/\sW w U U_ [.blk b347 66 [jV x323.Laps,.slice A1334 x323.Bibs.length c1335,.slice A1337 x323.Times.length c1338],B18,B6,.blk b1340 66 B21,.blk b1342 66 B21,.row A1349 c1350 3 1 (nA KL.encI x386.Bibs),.row A1351 c1352 22 1 (nA wBX hs1353),inn 3 1 KL.encI hs1353 x386.Times] w_/\Sl U_ 1 A1334 c1335 x323.Bibs.length (nA KL.encI x323.Bibs)/\SlR U_ wBH A1337 c1338 x323.Times/\Sl U_ 1 A1344 c1345 x323.Bibs.length (nA KL.encI x323.Bibs)/\SlR U_ wBH A1347 c1348 x323.Times) ?_ fun ko1354=>?_
         ·rintro σ1355 W1356 ⟨U1357,A1334,c1335,A1337,c1338,b1340,b1342,A1344,c1345,A1347,c1348,A1349,c1350,A1351,c1352,hs1353,f1360,f1361,f1362,f1363,f1364,f1365,f1366,f1367,le1358,hS1359,h1368,h1369,h1370,h1371⟩
          refine oR Z (Zd (pv:=[(0,jV x323.Laps)]) (z:=B21) (cs:=B23) Z (wAH f1367 wAQ) zd wCi Z Z) ?_
          let B25:List Value:=[jV x386.Laps,.slice A1349 x386.Bibs.length c1350,.slice A1351 x386.Times.length c1352]
          refine ZR (j:=3) (vs:=B25) Z Z Z Z hS1359 Z f1362 f1365 Z ZB (zI Z) Z Z Z ?_
          intro W1372 hS1373
          have hS1374:sW w U U1357 [.blk b347 66 [jV x323.Laps,.slice A1334 x323.Bibs.length c1335,.slice A1337 x323.Times.length c1338],B18,B6,.blk b1340 66 B25,.blk b1342 66 B21,.row A1349 c1350 3 1 (nA KL.encI x386.Bibs),.row A1351 c1352 22 1 (nA wBX hs1353),inn 3 1 KL.encI hs1353 x386.Times] W1372:=hS1373
          exact ko1034 _ _ ⟨U1357,A1334,c1335,A1337,c1338,b1340,A1349,c1350,A1351,c1352,hs1353,b1342,A1344,c1345,A1347,c1348,f1360,f1361,f1362,f1363,f1364,f1365,f1366,f1367,rfl,le1358,(hS1374.pick [0,1,2,3,5,6,7,4] _ (by decide) rfl),h1368,h1369,h1370,h1371⟩
         refine zr (s:=gAh) (M:=fun σ_ w_=>∃ (U_:PHeap) (A1397:Option Addr) (c1398:Nat) (A1400:Option Addr) (c1401:Nat) (b1403:Nat) (A1405:Option Addr) (c1406:Nat) (A1408:Option Addr) (c1409:Nat) (A1410:Option Addr) (c1411:Nat) (A1412:Option Addr) (c1413:Nat) (hs1414:List Hd),σ_ 6=.pointer (some ⟨b26,0,none⟩)/\σ_ 23=.pointer (some ⟨b347,0,none⟩)/\σ_ 25=.pointer (some ⟨b1403,0,none⟩)/\σ_ 115=.agg #[jV x323.Laps,.slice A1405 x323.Bibs.length c1406,.slice A1408 x323.Times.length c1409]/\σ_ 116=.agg #[jV x386.Laps,.slice A1410 x386.Bibs.length c1411,.slice A1412 x386.Times.length c1413]/\σ_ 117=.pointer (some ⟨b347,0,none⟩)/\σ_ 118=jV x323.Laps/\σ_ 119=.agg B23.toArray/\PHeap.Le U328 U_/\sW w U U_ [.blk b347 66 [jV x323.Laps,.slice A1397 x323.Bibs.length c1398,.slice A1400 x323.Times.length c1401],B18,B6,.blk b1403 66 B21,.row A1410 c1411 3 1 (nA KL.encI x386.Bibs),.row A1412 c1413 22 1 (nA wBX hs1414),inn 3 1 KL.encI hs1414 x386.Times] w_/\Sl U_ 1 A1397 c1398 x323.Bibs.length (nA KL.encI x323.Bibs)/\SlR U_ wBH A1400 c1401 x323.Times/\Sl U_ 1 A1405 c1406 x323.Bibs.length (nA KL.encI x323.Bibs)/\SlR U_ wBH A1408 c1409 x323.Times) ?_ fun ko1415=>?_
         ·rintro σ1416 W1417 ⟨U1418,A1397,c1398,A1400,c1401,b1403,A1405,c1406,A1408,c1409,A1410,c1411,A1412,c1413,hs1414,f1421,f1422,f1423,f1424,f1425,f1426,f1427,f1428,le1419,hS1420,h1429,h1430,h1431,h1432⟩
          refine zw (cs:=B21) Z Z Z Z Z zd Z hS1420 ?_
          intro W1433 b1434 hS1435
          exact ko1161 _ _ ⟨U1418,A1397,c1398,A1400,c1401,b1434,b1403,A1405,c1406,A1408,c1409,A1410,c1411,A1412,c1413,hs1414,f1421,f1422,rfl,f1423,f1424,f1425,f1426,f1427,f1428,le1419,(hS1435.pick [1,2,3,0,4,5,6,7] _ (by decide) rfl),h1429,h1430,h1431,h1432⟩
         refine zr (s:=gAg) (M:=fun σ_ w_=>∃ (U_:PHeap) (A1459:Option Addr) (c1460:Nat) (A1462:Option Addr) (c1463:Nat) (b1465:Nat) (A1467:Option Addr) (c1468:Nat) (A1470:Option Addr) (c1471:Nat) (A1472:Option Addr) (c1473:Nat) (A1474:Option Addr) (c1475:Nat) (hs1476:List Hd),σ_ 6=.pointer (some ⟨b26,0,none⟩)/\σ_ 23=.pointer (some ⟨b347,0,none⟩)/\σ_ 24=.pointer (some ⟨b1465,0,none⟩)/\σ_ 115=.agg #[jV x323.Laps,.slice A1467 x323.Bibs.length c1468,.slice A1470 x323.Times.length c1471]/\σ_ 116=.agg #[jV x386.Laps,.slice A1472 x386.Bibs.length c1473,.slice A1474 x386.Times.length c1475]/\σ_ 117=.pointer (some ⟨b347,0,none⟩)/\σ_ 118=jV x323.Laps/\σ_ 119=.agg B23.toArray/\PHeap.Le U328 U_/\sW w U U_ [.blk b347 66 [jV x323.Laps,.slice A1459 x323.Bibs.length c1460,.slice A1462 x323.Times.length c1463],B18,B6,.blk b1465 66 B21,.row A1472 c1473 3 1 (nA KL.encI x386.Bibs),.row A1474 c1475 22 1 (nA wBX hs1476),inn 3 1 KL.encI hs1476 x386.Times] w_/\Sl U_ 1 A1459 c1460 x323.Bibs.length (nA KL.encI x323.Bibs)/\SlR U_ wBH A1462 c1463 x323.Times/\Sl U_ 1 A1467 c1468 x323.Bibs.length (nA KL.encI x323.Bibs)/\SlR U_ wBH A1470 c1471 x323.Times) ?_ fun ko1477=>?_
         ·rintro σ1478 W1479 ⟨U1480,A1459,c1460,A1462,c1463,b1465,A1467,c1468,A1470,c1471,A1472,c1473,A1474,c1475,hs1476,f1483,f1484,f1485,f1486,f1487,f1488,f1489,f1490,le1481,hS1482,h1491,h1492,h1493,h1494⟩
          refine zw (cs:=B21) Z Z Z Z Z zd Z hS1482 ?_
          intro W1495 b1496 hS1497
          exact ko1161 _ _ ⟨U1480,A1459,c1460,A1462,c1463,b1465,b1496,A1467,c1468,A1470,c1471,A1472,c1473,A1474,c1475,hs1476,f1483,f1484,f1485,rfl,f1486,f1487,f1488,f1489,f1490,le1481,(hS1497.pick [1,2,3,4,0,5,6,7] _ (by decide) rfl),h1491,h1492,h1493,h1494⟩
         refine zr (s:=.fl 4 gAj) (M:=fun σ_ w_=>∃ (U_:PHeap) (b1521:Nat) (b1523:Nat),σ_ 6=.pointer (some ⟨b26,0,none⟩)/\σ_ 23=.pointer (some ⟨b347,0,none⟩)/\σ_ 24=.pointer (some ⟨b1521,0,none⟩)/\σ_ 25=.pointer (some ⟨b1523,0,none⟩)/\σ_ 115=.agg B22.toArray/\σ_ 117=.pointer (some ⟨b347,0,none⟩)/\σ_ 118=jV x323.Laps/\PHeap.Le U328 U_/\sW w U U_ [B20,B19,.blk b347 66 B22,B18,B6,.blk b1521 66 B21,.blk b1523 66 B21] w_) ?_ fun ko1524=>?_
         ·rintro σ1525 W1526 ⟨U1527,b1521,b1523,f1530,f1531,f1532,f1533,f1534,f1535,f1536,le1528,hS1529⟩
          refine oR Z (Zd (pv:=[(0,jV x323.Laps)]) (z:=B21) (cs:=B23) Z (wAH f1536 wAQ) zd wCi Z Z) ?_
          have q:=hS1529.freezeR (k:=0) (n:=x323.Bibs.length) rfl (wAB (f:=KL.encI) (sz:=1) (fun _=>rfl) x323.Bibs) (by decide)
          obtain ⟨U1537,le1538,hs1539,hS1540⟩:=q
          have hS1541:sW w U U1537 [B19,.blk b347 66 B22,B18,B6,.blk b1521 66 B21,.blk b1523 66 B21] W1526:=hS1540
          have h1546:=h343.le le1528
          have h1547:=h1546.le le1538
          have q:=hS1541.freezeRR (R:=wBH) (k:=0) rfl h1547 rfl (by decide)
          obtain ⟨U1542,le1543,hs1544,hS1545⟩:=q
          have hS1548:sW w U U1542 [.blk b347 66 B22,B18,B6,.blk b1521 66 B21,.blk b1523 66 B21] W1526:=hS1545
          have h1549:=hs1539.le le1543
          refine zL 0 Z Z Z Z (zK Z Z Zs (zC f1534 zP) Z) hS1548 (fun hs=>wAS x323 A334 c335 A336 c337 W1526 U1542 hs h1549 hs1544 h387) (.inr Z) ?_
          rintro U1551 L1552 v1553 W1554 le1555 hS1556 ⟨A1557,c1558,A1559,c1560,h1561,rfl,rfl⟩
          have hS1565:sW w U U1551 [.row A1557 c1558 3 1 (nA KL.encI x386.Bibs),.row A1559 c1560 22 1 (nA wBX h1561),inn 3 1 KL.encI h1561 x386.Times,.blk b347 66 B22,B18,B6,.blk b1521 66 B21,.blk b1523 66 B21] W1554:=hS1556
          have h1587:=h1549.le le1555
          have h1588:=hs1544.le le1555
          exact ko1161 _ _ ⟨U1551,A334,c335,A336,c337,b1521,b1523,A334,c335,A336,c337,A1557,c1558,A1559,c1560,h1561,f1530,f1531,f1532,f1533,f1534,rfl,f1535,f1536,rfl,(((le1528.trans le1538).trans le1543).trans le1555),(hS1565.pick [3,4,5,6,7,0,1,2] _ (by decide) rfl),h1587,h1588,h1587,h1588⟩
         refine zr (s:=.fl 4 gAh) (M:=fun σ_ w_=>∃ (U_:PHeap) (A1590:Option Addr) (c1591:Nat) (A1593:Option Addr) (c1594:Nat) (b1596:Nat) (A1598:Option Addr) (c1599:Nat) (A1601:Option Addr) (c1602:Nat) (A1603:Option Addr) (c1604:Nat) (A1605:Option Addr) (c1606:Nat) (hs1607:List Hd),σ_ 6=.pointer (some ⟨b26,0,none⟩)/\σ_ 23=.pointer (some ⟨b347,0,none⟩)/\σ_ 25=.pointer (some ⟨b1596,0,none⟩)/\σ_ 115=.agg #[jV x323.Laps,.slice A1598 x323.Bibs.length c1599,.slice A1601 x323.Times.length c1602]/\σ_ 116=.agg #[jV x386.Laps,.slice A1603 x386.Bibs.length c1604,.slice A1605 x386.Times.length c1606]/\σ_ 117=.pointer (some ⟨b347,0,none⟩)/\σ_ 118=jV x323.Laps/\PHeap.Le U328 U_/\sW w U U_ [.blk b347 66 [jV x323.Laps,.slice A1590 x323.Bibs.length c1591,.slice A1593 x323.Times.length c1594],B18,B6,.blk b1596 66 B21,.row A1603 c1604 3 1 (nA KL.encI x386.Bibs),.row A1605 c1606 22 1 (nA wBX hs1607),inn 3 1 KL.encI hs1607 x386.Times] w_/\Sl U_ 1 A1590 c1591 x323.Bibs.length (nA KL.encI x323.Bibs)/\SlR U_ wBH A1593 c1594 x323.Times/\Sl U_ 1 A1598 c1599 x323.Bibs.length (nA KL.encI x323.Bibs)/\SlR U_ wBH A1601 c1602 x323.Times) ?_ fun ko1608=>?_
         ·rintro σ1609 W1610 ⟨U1611,A1590,c1591,A1593,c1594,b1596,A1598,c1599,A1601,c1602,A1603,c1604,A1605,c1606,hs1607,f1614,f1615,f1616,f1617,f1618,f1619,f1620,le1612,hS1613,h1621,h1622,h1623,h1624⟩
          refine oR Z (Zd (pv:=[(0,jV x323.Laps)]) (z:=B21) (cs:=B23) Z (wAH f1620 wAQ) zd wCi Z Z) (zw (cs:=B21) Z Z Z Z Z zd Z hS1613 ?_)
          intro W1625 b1626 hS1627
          exact ko1161 _ _ ⟨U1611,A1590,c1591,A1593,c1594,b1626,b1596,A1598,c1599,A1601,c1602,A1603,c1604,A1605,c1606,hs1607,f1614,f1615,rfl,f1616,f1617,f1618,f1619,f1620,rfl,le1612,(hS1627.pick [1,2,3,0,4,5,6,7] _ (by decide) rfl),h1621,h1622,h1623,h1624⟩
         refine zr (s:=gAn) (M:=fun σ_ w_=>∃ (U_:PHeap) (A1651:Option Addr) (c1652:Nat) (A1654:Option Addr) (c1655:Nat) (b1657:Nat) (b1659:Nat) (A1661:Option Addr) (c1662:Nat) (A1664:Option Addr) (c1665:Nat) (A1666:Option Addr) (c1667:Nat) (A1668:Option Addr) (c1669:Nat) (hs1670:List Hd),σ_ 6=.pointer (some ⟨b26,0,none⟩)/\σ_ 23=.pointer (some ⟨b347,0,none⟩)/\σ_ 24=.pointer (some ⟨b1657,0,none⟩)/\σ_ 25=.pointer (some ⟨b1659,0,none⟩)/\σ_ 115=.agg #[jV x323.Laps,.slice A1661 x323.Bibs.length c1662,.slice A1664 x323.Times.length c1665]/\σ_ 116=.agg #[jV x386.Laps,.slice A1666 x386.Bibs.length c1667,.slice A1668 x386.Times.length c1669]/\σ_ 117=.pointer (some ⟨b347,0,none⟩)/\PHeap.Le U328 U_/\sW w U U_ [.blk b347 66 [jV x323.Laps,.slice A1651 x323.Bibs.length c1652,.slice A1654 x323.Times.length c1655],B18,B6,.blk b1657 66 B21,.blk b1659 66 B21,.row A1666 c1667 3 1 (nA KL.encI x386.Bibs),.row A1668 c1669 22 1 (nA wBX hs1670),inn 3 1 KL.encI hs1670 x386.Times] w_/\Sl U_ 1 A1651 c1652 x323.Bibs.length (nA KL.encI x323.Bibs)/\SlR U_ wBH A1654 c1655 x323.Times/\Sl U_ 1 A1661 c1662 x323.Bibs.length (nA KL.encI x323.Bibs)/\SlR U_ wBH A1664 c1665 x323.Times) ?_ fun ko1671=>?_
         ·rintro σ1672 W1673 ⟨U1674,A1651,c1652,A1654,c1655,b1657,b1659,A1661,c1662,A1664,c1665,A1666,c1667,A1668,c1669,hs1670,f1677,f1678,f1679,f1680,f1681,f1682,f1683,le1675,hS1676,h1684,h1685,h1686,h1687⟩
          refine zj ?_ ?_
          ·exact ZH Z Z Z Z (hS1676.ldB (j:=0) Z Z f1683 zJ (v:=jV x323.Laps) Z) (ko1354 _ _ ⟨U1674,A1651,c1652,A1654,c1655,b1657,b1659,A1661,c1662,A1664,c1665,A1666,c1667,A1668,c1669,hs1670,f1677,f1678,f1679,f1680,f1681,f1682,f1683,Z,le1675,hS1676,h1684,h1685,h1686,h1687⟩)
          ·let B26:List Value:=[jV x386.Laps,.slice A1666 x386.Bibs.length c1667,.slice A1668 x386.Times.length c1669]
           refine ZR (j:=3) (vs:=B26) Z Z Z Z hS1676 Z f1679 f1682 Z ZB (zI Z) Z Z Z ?_
           intro W1709 hS1710
           have hS1711:sW w U U1674 [.blk b347 66 [jV x323.Laps,.slice A1651 x323.Bibs.length c1652,.slice A1654 x323.Times.length c1655],B18,B6,.blk b1657 66 B26,.blk b1659 66 B21,.row A1666 c1667 3 1 (nA KL.encI x386.Bibs),.row A1668 c1669 22 1 (nA wBX hs1670),inn 3 1 KL.encI hs1670 x386.Times] W1709:=hS1710
           exact ko1295 _ _ ⟨U1674,A1651,c1652,A1654,c1655,b1657,A1666,c1667,A1668,c1669,hs1670,b1659,A1661,c1662,A1664,c1665,f1677,f1678,f1679,f1680,f1681,f1682,f1683,le1675,(hS1711.pick [0,1,2,3,5,6,7,4] _ (by decide) rfl),h1684,h1685,h1686,h1687⟩
         refine zr (s:=.fl 4 gAg) (M:=fun σ_ w_=>∃ (U_:PHeap) (A1734:Option Addr) (c1735:Nat) (A1737:Option Addr) (c1738:Nat) (b1740:Nat) (A1742:Option Addr) (c1743:Nat) (A1745:Option Addr) (c1746:Nat) (A1747:Option Addr) (c1748:Nat) (A1749:Option Addr) (c1750:Nat) (hs1751:List Hd),σ_ 6=.pointer (some ⟨b26,0,none⟩)/\σ_ 23=.pointer (some ⟨b347,0,none⟩)/\σ_ 24=.pointer (some ⟨b1740,0,none⟩)/\σ_ 115=.agg #[jV x323.Laps,.slice A1742 x323.Bibs.length c1743,.slice A1745 x323.Times.length c1746]/\σ_ 116=.agg #[jV x386.Laps,.slice A1747 x386.Bibs.length c1748,.slice A1749 x386.Times.length c1750]/\σ_ 117=.pointer (some ⟨b347,0,none⟩)/\σ_ 118=jV x323.Laps/\PHeap.Le U328 U_/\sW w U U_ [.blk b347 66 [jV x323.Laps,.slice A1734 x323.Bibs.length c1735,.slice A1737 x323.Times.length c1738],B18,B6,.blk b1740 66 B21,.row A1747 c1748 3 1 (nA KL.encI x386.Bibs),.row A1749 c1750 22 1 (nA wBX hs1751),inn 3 1 KL.encI hs1751 x386.Times] w_/\Sl U_ 1 A1734 c1735 x323.Bibs.length (nA KL.encI x323.Bibs)/\SlR U_ wBH A1737 c1738 x323.Times/\Sl U_ 1 A1742 c1743 x323.Bibs.length (nA KL.encI x323.Bibs)/\SlR U_ wBH A1745 c1746 x323.Times) ?_ fun ko1752=>?_
         ·rintro σ1753 W1754 ⟨U1755,A1734,c1735,A1737,c1738,b1740,A1742,c1743,A1745,c1746,A1747,c1748,A1749,c1750,hs1751,f1758,f1759,f1760,f1761,f1762,f1763,f1764,le1756,hS1757,h1765,h1766,h1767,h1768⟩
          refine oR Z (Zd (pv:=[(0,jV x323.Laps)]) (z:=B21) (cs:=B23) Z (wAH f1764 wAQ) zd wCi Z Z) (zw (cs:=B21) Z Z Z Z Z zd Z hS1757 ?_)
          intro W1769 b1770 hS1771
          exact ko1161 _ _ ⟨U1755,A1734,c1735,A1737,c1738,b1740,b1770,A1742,c1743,A1745,c1746,A1747,c1748,A1749,c1750,hs1751,f1758,f1759,f1760,rfl,f1761,f1762,f1763,f1764,rfl,le1756,(hS1771.pick [1,2,3,4,0,5,6,7] _ (by decide) rfl),h1765,h1766,h1767,h1768⟩
         refine zr (s:=gAr) (M:=fun σ_ w_=>∃ (U_:PHeap) (b1795:Nat) (b1797:Nat),σ_ 6=.pointer (some ⟨b26,0,none⟩)/\σ_ 23=.pointer (some ⟨b347,0,none⟩)/\σ_ 24=.pointer (some ⟨b1795,0,none⟩)/\σ_ 25=.pointer (some ⟨b1797,0,none⟩)/\σ_ 115=.agg B22.toArray/\σ_ 117=.pointer (some ⟨b347,0,none⟩)/\PHeap.Le U328 U_/\sW w U U_ [B20,B19,.blk b347 66 B22,B18,B6,.blk b1795 66 B21,.blk b1797 66 B21] w_) ?_ fun ko1798=>?_
         ·rintro σ1799 W1800 ⟨U1801,b1795,b1797,f1804,f1805,f1806,f1807,f1808,f1809,le1802,hS1803⟩
          refine zj ?_ ?_
          ·have q:=hS1803.freezeR (k:=0) (n:=x323.Bibs.length) rfl (wAB (f:=KL.encI) (sz:=1) (fun _=>rfl) x323.Bibs) (by decide)
           obtain ⟨U1810,le1811,hs1812,hS1813⟩:=q
           have hS1814:sW w U U1810 [B19,.blk b347 66 B22,B18,B6,.blk b1795 66 B21,.blk b1797 66 B21] W1800:=hS1813
           have h1819:=h343.le le1802
           have h1820:=h1819.le le1811
           have q:=hS1814.freezeRR (R:=wBH) (k:=0) rfl h1820 rfl (by decide)
           obtain ⟨U1815,le1816,hs1817,hS1818⟩:=q
           have hS1821:sW w U U1815 [.blk b347 66 B22,B18,B6,.blk b1795 66 B21,.blk b1797 66 B21] W1800:=hS1818
           have h1822:=hs1812.le le1816
           refine zL 0 Z Z Z Z (zK Z Z Zs (zC f1808 zP) Z) hS1821 (fun hs=>wAS x323 A334 c335 A336 c337 W1800 U1815 hs h1822 hs1817 h387) (.inr Z) ?_
           rintro U1824 L1825 v1826 W1827 le1828 hS1829 ⟨A1830,c1831,A1832,c1833,h1834,rfl,rfl⟩
           have hS1838:sW w U U1824 [.row A1830 c1831 3 1 (nA KL.encI x386.Bibs),.row A1832 c1833 22 1 (nA wBX h1834),inn 3 1 KL.encI h1834 x386.Times,.blk b347 66 B22,B18,B6,.blk b1795 66 B21,.blk b1797 66 B21] W1827:=hS1829
           have h1860:=h1822.le le1828
           have h1861:=hs1817.le le1828
           exact ko1671 _ _ ⟨U1824,A334,c335,A336,c337,b1795,b1797,A334,c335,A336,c337,A1830,c1831,A1832,c1833,h1834,f1804,f1805,f1806,f1807,f1808,rfl,f1809,(((le1802.trans le1811).trans le1816).trans le1828),(hS1838.pick [3,4,5,6,7,0,1,2] _ (by decide) rfl),h1860,h1861,h1860,h1861⟩
          ·exact ZH Z Z Z Z (hS1803.ldB (j:=2) Z Z f1809 zJ (v:=jV x323.Laps) Z) (ko1524 _ _ ⟨U1801,b1795,b1797,f1804,f1805,f1806,f1807,f1808,f1809,Z,le1802,hS1803⟩)
         refine zr (s:=gAw) (M:=fun σ_ w_=>∃ (U_:PHeap) (A1867:Option Addr) (c1868:Nat) (A1870:Option Addr) (c1871:Nat) (b1873:Nat) (A1875:Option Addr) (c1876:Nat) (A1878:Option Addr) (c1879:Nat) (A1880:Option Addr) (c1881:Nat) (A1882:Option Addr) (c1883:Nat) (hs1884:List Hd),σ_ 6=.pointer (some ⟨b26,0,none⟩)/\σ_ 23=.pointer (some ⟨b347,0,none⟩)/\σ_ 25=.pointer (some ⟨b1873,0,none⟩)/\σ_ 115=.agg #[jV x323.Laps,.slice A1875 x323.Bibs.length c1876,.slice A1878 x323.Times.length c1879]/\σ_ 116=.agg #[jV x386.Laps,.slice A1880 x386.Bibs.length c1881,.slice A1882 x386.Times.length c1883]/\σ_ 117=.pointer (some ⟨b347,0,none⟩)/\PHeap.Le U328 U_/\sW w U U_ [.blk b347 66 [jV x323.Laps,.slice A1867 x323.Bibs.length c1868,.slice A1870 x323.Times.length c1871],B18,B6,.blk b1873 66 B21,.row A1880 c1881 3 1 (nA KL.encI x386.Bibs),.row A1882 c1883 22 1 (nA wBX hs1884),inn 3 1 KL.encI hs1884 x386.Times] w_/\Sl U_ 1 A1867 c1868 x323.Bibs.length (nA KL.encI x323.Bibs)/\SlR U_ wBH A1870 c1871 x323.Times/\Sl U_ 1 A1875 c1876 x323.Bibs.length (nA KL.encI x323.Bibs)/\SlR U_ wBH A1878 c1879 x323.Times) ?_ fun ko1885=>?_
         ·rintro σ1886 W1887 ⟨U1888,A1867,c1868,A1870,c1871,b1873,A1875,c1876,A1878,c1879,A1880,c1881,A1882,c1883,hs1884,f1891,f1892,f1893,f1894,f1895,f1896,le1889,hS1890,h1897,h1898,h1899,h1900⟩
          refine zj ?_ ?_
          ·exact ZH Z Z Z Z (hS1890.ldB (j:=0) Z Z f1896 zJ (v:=jV x323.Laps) Z) (ko1608 _ _ ⟨U1888,A1867,c1868,A1870,c1871,b1873,A1875,c1876,A1878,c1879,A1880,c1881,A1882,c1883,hs1884,f1891,f1892,f1893,f1894,f1895,f1896,Z,le1889,hS1890,h1897,h1898,h1899,h1900⟩)
          ·refine zw (cs:=B21) Z Z Z Z Z zd Z hS1890 ?_
           intro W1920 b1921 hS1922
           exact ko1671 _ _ ⟨U1888,A1867,c1868,A1870,c1871,b1921,b1873,A1875,c1876,A1878,c1879,A1880,c1881,A1882,c1883,hs1884,f1891,f1892,rfl,f1893,f1894,f1895,f1896,le1889,(hS1922.pick [1,2,3,0,4,5,6,7] _ (by decide) rfl),h1897,h1898,h1899,h1900⟩
         refine zr (s:=gAv) (M:=fun σ_ w_=>∃ (U_:PHeap) (A1946:Option Addr) (c1947:Nat) (A1949:Option Addr) (c1950:Nat) (b1952:Nat) (A1954:Option Addr) (c1955:Nat) (A1957:Option Addr) (c1958:Nat) (A1959:Option Addr) (c1960:Nat) (A1961:Option Addr) (c1962:Nat) (hs1963:List Hd),σ_ 6=.pointer (some ⟨b26,0,none⟩)/\σ_ 23=.pointer (some ⟨b347,0,none⟩)/\σ_ 24=.pointer (some ⟨b1952,0,none⟩)/\σ_ 115=.agg #[jV x323.Laps,.slice A1954 x323.Bibs.length c1955,.slice A1957 x323.Times.length c1958]/\σ_ 116=.agg #[jV x386.Laps,.slice A1959 x386.Bibs.length c1960,.slice A1961 x386.Times.length c1962]/\σ_ 117=.pointer (some ⟨b347,0,none⟩)/\PHeap.Le U328 U_/\sW w U U_ [.blk b347 66 [jV x323.Laps,.slice A1946 x323.Bibs.length c1947,.slice A1949 x323.Times.length c1950],B18,B6,.blk b1952 66 B21,.row A1959 c1960 3 1 (nA KL.encI x386.Bibs),.row A1961 c1962 22 1 (nA wBX hs1963),inn 3 1 KL.encI hs1963 x386.Times] w_/\Sl U_ 1 A1946 c1947 x323.Bibs.length (nA KL.encI x323.Bibs)/\SlR U_ wBH A1949 c1950 x323.Times/\Sl U_ 1 A1954 c1955 x323.Bibs.length (nA KL.encI x323.Bibs)/\SlR U_ wBH A1957 c1958 x323.Times) ?_ fun ko1964=>?_
         ·rintro σ1965 W1966 ⟨U1967,A1946,c1947,A1949,c1950,b1952,A1954,c1955,A1957,c1958,A1959,c1960,A1961,c1962,hs1963,f1970,f1971,f1972,f1973,f1974,f1975,le1968,hS1969,h1976,h1977,h1978,h1979⟩
          refine zj ?_ ?_
          ·exact ZH Z Z Z Z (hS1969.ldB (j:=0) Z Z f1975 zJ (v:=jV x323.Laps) Z) (ko1752 _ _ ⟨U1967,A1946,c1947,A1949,c1950,b1952,A1954,c1955,A1957,c1958,A1959,c1960,A1961,c1962,hs1963,f1970,f1971,f1972,f1973,f1974,f1975,Z,le1968,hS1969,h1976,h1977,h1978,h1979⟩)
          ·refine zw (cs:=B21) Z Z Z Z Z zd Z hS1969 ?_
           intro W1999 b2000 hS2001
           exact ko1671 _ _ ⟨U1967,A1946,c1947,A1949,c1950,b1952,b2000,A1954,c1955,A1957,c1958,A1959,c1960,A1961,c1962,hs1963,f1970,f1971,f1972,rfl,f1973,f1974,f1975,le1968,(hS2001.pick [1,2,3,4,0,5,6,7] _ (by decide) rfl),h1976,h1977,h1978,h1979⟩
         refine oL Z (hS419.ldBA (j:=0) Z Z Z Zh ZB (vs:=B22) Z Z) (oR Z (zX Z Z zM Z zB) (zj ?_ ?_))
         ·have q:=hS419.freezeR (k:=1) (n:=x323.Bibs.length) rfl (wAB (f:=KL.encI) (sz:=1) (fun _=>rfl) x323.Bibs) (by decide)
          obtain ⟨U2024,le2025,hs2026,hS2027⟩:=q
          have hS2028:sW w U U2024 [.blk b347 66 B22,B19,B18,B17,B16,B6,B4,B7] W420:=hS2027
          have h2033:=h343.le le2025
          have q:=hS2028.freezeRR (R:=wBH) (k:=1) rfl h2033 rfl (by decide)
          obtain ⟨U2029,le2030,hs2031,hS2032⟩:=q
          have hS2034:sW w U U2029 [.blk b347 66 B22,B18,B17,B16,B6,B4,B7] W420:=hS2032
          have h2035:=hs2026.le le2030
          refine zL 0 Z Z Z Z (zK Z Z Zs (zC Z zP) Z) hS2034 (fun hs=>wAS x323 A334 c335 A336 c337 W420 U2029 hs h2035 hs2031 h387) (.inr Z) ?_
          rintro U2037 L2038 v2039 W2040 le2041 hS2042 ⟨A2043,c2044,A2045,c2046,h2047,rfl,rfl⟩
          have hS2051:sW w U U2037 [.row A2043 c2044 3 1 (nA KL.encI x386.Bibs),.row A2045 c2046 22 1 (nA wBX h2047),inn 3 1 KL.encI h2047 x386.Times,.blk b347 66 B22,B18,B17,B16,B6,B4,B7] W2040:=hS2042
          refine zj ?_ ?_
          ·refine ZH Z Z Z Z (hS2051.ldB (j:=3) Z Z Z zJ (v:=jV x323.Laps) Z) (oR Z (Zd (pv:=[(0,jV x323.Laps)]) (z:=B21) (cs:=B23) Z (wAH Z wAQ) zd wCi Z Z) (zj ?_ ?_))
           ·refine zw (cs:=B21) Z Z Z Z Z zd Z hS2051 ?_
            intro W2052 b2053 hS2054
            have h2075:=h2035.le le2041
            have h2076:=hs2031.le le2041
            exact ko1477 _ _ ⟨U2037,A334,c335,A336,c337,b2053,A334,c335,A336,c337,A2043,c2044,A2045,c2046,h2047,f269,rfl,rfl,rfl,rfl,rfl,rfl,rfl,((le2025.trans le2030).trans le2041),(hS2054.pick [4,5,8,0,1,2,3] _ (by decide) rfl),h2075,h2076,h2075,h2076⟩
           ·refine zw (cs:=B21) Z Z Z Z Z zd Z hS2051 ?_
            intro W2077 b2078 hS2079
            have h2100:=h2035.le le2041
            have h2101:=hs2031.le le2041
            exact ko1415 _ _ ⟨U2037,A334,c335,A336,c337,b2078,A334,c335,A336,c337,A2043,c2044,A2045,c2046,h2047,f269,rfl,rfl,rfl,rfl,rfl,rfl,rfl,((le2025.trans le2030).trans le2041),(hS2079.pick [4,5,8,0,1,2,3] _ (by decide) rfl),h2100,h2101,h2100,h2101⟩
          refine zj ?_ ?_
          ·refine zw (cs:=B21) Z Z Z Z Z zd Z hS2051 ?_
           intro W2102 b2103 hS2104
           have h2125:=h2035.le le2041
           have h2126:=hs2031.le le2041
           exact ko1964 _ _ ⟨U2037,A334,c335,A336,c337,b2103,A334,c335,A336,c337,A2043,c2044,A2045,c2046,h2047,f269,rfl,rfl,rfl,rfl,rfl,((le2025.trans le2030).trans le2041),(hS2104.pick [4,5,8,0,1,2,3] _ (by decide) rfl),h2125,h2126,h2125,h2126⟩
          ·refine zw (cs:=B21) Z Z Z Z Z zd Z hS2051 ?_
           intro W2127 b2128 hS2129
           have h2150:=h2035.le le2041
           have h2151:=hs2031.le le2041
           exact ko1885 _ _ ⟨U2037,A334,c335,A336,c337,b2128,A334,c335,A336,c337,A2043,c2044,A2045,c2046,h2047,f269,rfl,rfl,rfl,rfl,rfl,((le2025.trans le2030).trans le2041),(hS2129.pick [4,5,8,0,1,2,3] _ (by decide) rfl),h2150,h2151,h2150,h2151⟩
         refine zj ?_ ?_
         ·refine ZH Z Z Z Z (hS419.ldB (j:=0) Z Z Z zJ (v:=jV x323.Laps) Z) (oR Z (Zd (pv:=[(0,jV x323.Laps)]) (z:=B21) (cs:=B23) Z (wAH Z wAQ) zd wCi Z Z) (zj ?_ ?_))
          ·have q:=hS419.freezeR (k:=1) (n:=x323.Bibs.length) rfl (wAB (f:=KL.encI) (sz:=1) (fun _=>rfl) x323.Bibs) (by decide)
           obtain ⟨U2152,le2153,hs2154,hS2155⟩:=q
           have hS2156:sW w U U2152 [.blk b347 66 B22,B19,B18,B17,B16,B6,B4,B7] W420:=hS2155
           have h2161:=h343.le le2153
           have q:=hS2156.freezeRR (R:=wBH) (k:=1) rfl h2161 rfl (by decide)
           obtain ⟨U2157,le2158,hs2159,hS2160⟩:=q
           have hS2162:sW w U U2157 [.blk b347 66 B22,B18,B17,B16,B6,B4,B7] W420:=hS2160
           have h2163:=hs2154.le le2158
           refine zL 0 Z Z Z Z (zK Z Z Zs (zC Z zP) Z) hS2162 (fun hs=>wAS x323 A334 c335 A336 c337 W420 U2157 hs h2163 hs2159 h387) (.inr Z) ?_
           rintro U2165 L2166 v2167 W2168 le2169 hS2170 ⟨A2171,c2172,A2173,c2174,h2175,rfl,rfl⟩
           have hS2179:sW w U U2165 [.row A2171 c2172 3 1 (nA KL.encI x386.Bibs),.row A2173 c2174 22 1 (nA wBX h2175),inn 3 1 KL.encI h2175 x386.Times,.blk b347 66 B22,B18,B17,B16,B6,B4,B7] W2168:=hS2170
           refine zj ?_ ?_
           ·refine zw (cs:=B21) Z Z Z Z Z zd Z hS2179 ?_
            intro W2180 b2181 hS2182
            have h2203:=h2163.le le2169
            have h2204:=hs2159.le le2169
            exact ko1477 _ _ ⟨U2165,A334,c335,A336,c337,b2181,A334,c335,A336,c337,A2171,c2172,A2173,c2174,h2175,f269,rfl,rfl,rfl,rfl,rfl,rfl,rfl,((le2153.trans le2158).trans le2169),(hS2182.pick [4,5,8,0,1,2,3] _ (by decide) rfl),h2203,h2204,h2203,h2204⟩
           ·refine zw (cs:=B21) Z Z Z Z Z zd Z hS2179 ?_
            intro W2205 b2206 hS2207
            have h2228:=h2163.le le2169
            have h2229:=hs2159.le le2169
            exact ko1415 _ _ ⟨U2165,A334,c335,A336,c337,b2206,A334,c335,A336,c337,A2171,c2172,A2173,c2174,h2175,f269,rfl,rfl,rfl,rfl,rfl,rfl,rfl,((le2153.trans le2158).trans le2169),(hS2207.pick [4,5,8,0,1,2,3] _ (by decide) rfl),h2228,h2229,h2228,h2229⟩
          refine zj ?_ ?_
          ·refine zw (cs:=B21) Z Z Z Z Z zd Z hS419 ?_
           intro W2230 b2231 hS2232
           refine zj ?_ ?_
           ·have q:=hS2232.freezeR (k:=2) (n:=x323.Bibs.length) rfl (wAB (f:=KL.encI) (sz:=1) (fun _=>rfl) x323.Bibs) (by decide)
            obtain ⟨U2234,le2235,hs2236,hS2237⟩:=q
            have hS2238:sW w U U2234 [.blk b2231 66 B21,.blk b347 66 B22,B19,B18,B17,B16,B6,B4,B7] W2230:=hS2237
            have h2243:=h343.le le2235
            have q:=hS2238.freezeRR (R:=wBH) (k:=2) rfl h2243 rfl (by decide)
            obtain ⟨U2239,le2240,hs2241,hS2242⟩:=q
            have hS2244:sW w U U2239 [.blk b2231 66 B21,.blk b347 66 B22,B18,B17,B16,B6,B4,B7] W2230:=hS2242
            have h2245:=hs2236.le le2240
            refine zL 0 Z Z Z Z (zK Z Z Zs (zC Z zP) Z) hS2244 (fun hs=>wAS x323 A334 c335 A336 c337 W2230 U2239 hs h2245 hs2241 h387) (.inr Z) ?_
            rintro U2247 L2248 v2249 W2250 le2251 hS2252 ⟨A2253,c2254,A2255,c2256,h2257,rfl,rfl⟩
            have hS2261:sW w U U2247 [.row A2253 c2254 3 1 (nA KL.encI x386.Bibs),.row A2255 c2256 22 1 (nA wBX h2257),inn 3 1 KL.encI h2257 x386.Times,.blk b2231 66 B21,.blk b347 66 B22,B18,B17,B16,B6,B4,B7] W2250:=hS2252
            have h2281:=h2245.le le2251
            have h2282:=hs2241.le le2251
            exact ko1477 _ _ ⟨U2247,A334,c335,A336,c337,b2231,A334,c335,A336,c337,A2253,c2254,A2255,c2256,h2257,f269,rfl,rfl,rfl,rfl,rfl,rfl,rfl,((le2235.trans le2240).trans le2251),(hS2261.pick [4,5,8,3,0,1,2] _ (by decide) rfl),h2281,h2282,h2281,h2282⟩
           ·refine zw (cs:=B21) Z Z Z Z Z zd Z hS2232 ?_
            intro W2283 b2284 hS2285
            exact ko1208 _ _ ⟨U328,b2231,b2284,f269,rfl,rfl,rfl,rfl,rfl,rfl,rfl,(zG _),(hS2285.pick [3,4,2,5,8,1,0] _ (by decide) rfl)⟩
          ·refine zw (cs:=B21) Z Z Z Z Z zd Z hS419 ?_
           intro W2291 b2292 hS2293
           refine zj ?_ ?_
           ·have q:=hS2293.freezeR (k:=2) (n:=x323.Bibs.length) rfl (wAB (f:=KL.encI) (sz:=1) (fun _=>rfl) x323.Bibs) (by decide)
            obtain ⟨U2295,le2296,hs2297,hS2298⟩:=q
            have hS2299:sW w U U2295 [.blk b2292 66 B21,.blk b347 66 B22,B19,B18,B17,B16,B6,B4,B7] W2291:=hS2298
            have h2304:=h343.le le2296
            have q:=hS2299.freezeRR (R:=wBH) (k:=2) rfl h2304 rfl (by decide)
            obtain ⟨U2300,le2301,hs2302,hS2303⟩:=q
            have hS2305:sW w U U2300 [.blk b2292 66 B21,.blk b347 66 B22,B18,B17,B16,B6,B4,B7] W2291:=hS2303
            have h2306:=hs2297.le le2301
            refine zL 0 Z Z Z Z (zK Z Z Zs (zC Z zP) Z) hS2305 (fun hs=>wAS x323 A334 c335 A336 c337 W2291 U2300 hs h2306 hs2302 h387) (.inr Z) ?_
            rintro U2308 L2309 v2310 W2311 le2312 hS2313 ⟨A2314,c2315,A2316,c2317,h2318,rfl,rfl⟩
            have hS2322:sW w U U2308 [.row A2314 c2315 3 1 (nA KL.encI x386.Bibs),.row A2316 c2317 22 1 (nA wBX h2318),inn 3 1 KL.encI h2318 x386.Times,.blk b2292 66 B21,.blk b347 66 B22,B18,B17,B16,B6,B4,B7] W2311:=hS2313
            have h2342:=h2306.le le2312
            have h2343:=hs2302.le le2312
            exact ko1415 _ _ ⟨U2308,A334,c335,A336,c337,b2292,A334,c335,A336,c337,A2314,c2315,A2316,c2317,h2318,f269,rfl,rfl,rfl,rfl,rfl,rfl,rfl,((le2296.trans le2301).trans le2312),(hS2322.pick [4,5,8,3,0,1,2] _ (by decide) rfl),h2342,h2343,h2342,h2343⟩
           ·refine zw (cs:=B21) Z Z Z Z Z zd Z hS2293 ?_
            intro W2344 b2345 hS2346
            exact ko1208 _ _ ⟨U328,b2345,b2292,f269,rfl,rfl,rfl,rfl,rfl,rfl,rfl,(zG _),(hS2346.pick [3,4,2,5,8,0,1] _ (by decide) rfl)⟩
         refine zj ?_ ?_
         ·refine zw (cs:=B21) Z Z Z Z Z zd Z hS419 ?_
          intro W2352 b2353 hS2354
          refine zj ?_ ?_
          ·have q:=hS2354.freezeR (k:=2) (n:=x323.Bibs.length) rfl (wAB (f:=KL.encI) (sz:=1) (fun _=>rfl) x323.Bibs) (by decide)
           obtain ⟨U2356,le2357,hs2358,hS2359⟩:=q
           have hS2360:sW w U U2356 [.blk b2353 66 B21,.blk b347 66 B22,B19,B18,B17,B16,B6,B4,B7] W2352:=hS2359
           have h2365:=h343.le le2357
           have q:=hS2360.freezeRR (R:=wBH) (k:=2) rfl h2365 rfl (by decide)
           obtain ⟨U2361,le2362,hs2363,hS2364⟩:=q
           have hS2366:sW w U U2361 [.blk b2353 66 B21,.blk b347 66 B22,B18,B17,B16,B6,B4,B7] W2352:=hS2364
           have h2367:=hs2358.le le2362
           refine zL 0 Z Z Z Z (zK Z Z Zs (zC Z zP) Z) hS2366 (fun hs=>wAS x323 A334 c335 A336 c337 W2352 U2361 hs h2367 hs2363 h387) (.inr Z) ?_
           rintro U2369 L2370 v2371 W2372 le2373 hS2374 ⟨A2375,c2376,A2377,c2378,h2379,rfl,rfl⟩
           have hS2383:sW w U U2369 [.row A2375 c2376 3 1 (nA KL.encI x386.Bibs),.row A2377 c2378 22 1 (nA wBX h2379),inn 3 1 KL.encI h2379 x386.Times,.blk b2353 66 B21,.blk b347 66 B22,B18,B17,B16,B6,B4,B7] W2372:=hS2374
           have h2403:=h2367.le le2373
           have h2404:=hs2363.le le2373
           exact ko1964 _ _ ⟨U2369,A334,c335,A336,c337,b2353,A334,c335,A336,c337,A2375,c2376,A2377,c2378,h2379,f269,rfl,rfl,rfl,rfl,rfl,((le2357.trans le2362).trans le2373),(hS2383.pick [4,5,8,3,0,1,2] _ (by decide) rfl),h2403,h2404,h2403,h2404⟩
          refine zj ?_ ?_
          ·refine ZH Z Z Z Z (hS2354.ldB (j:=1) Z Z Z zJ (v:=jV x323.Laps) Z) (oR Z (Zd (pv:=[(0,jV x323.Laps)]) (z:=B21) (cs:=B23) Z (wAH Z wAQ) zd wCi Z Z) (zj ?_ ?_))
           ·have q:=hS2354.freezeR (k:=2) (n:=x323.Bibs.length) rfl (wAB (f:=KL.encI) (sz:=1) (fun _=>rfl) x323.Bibs) (by decide)
            obtain ⟨U2405,le2406,hs2407,hS2408⟩:=q
            have hS2409:sW w U U2405 [.blk b2353 66 B21,.blk b347 66 B22,B19,B18,B17,B16,B6,B4,B7] W2352:=hS2408
            have h2414:=h343.le le2406
            have q:=hS2409.freezeRR (R:=wBH) (k:=2) rfl h2414 rfl (by decide)
            obtain ⟨U2410,le2411,hs2412,hS2413⟩:=q
            have hS2415:sW w U U2410 [.blk b2353 66 B21,.blk b347 66 B22,B18,B17,B16,B6,B4,B7] W2352:=hS2413
            have h2416:=hs2407.le le2411
            refine zL 0 Z Z Z Z (zK Z Z Zs (zC Z zP) Z) hS2415 (fun hs=>wAS x323 A334 c335 A336 c337 W2352 U2410 hs h2416 hs2412 h387) (.inr Z) ?_
            rintro U2418 L2419 v2420 W2421 le2422 hS2423 ⟨A2424,c2425,A2426,c2427,h2428,rfl,rfl⟩
            have hS2432:sW w U U2418 [.row A2424 c2425 3 1 (nA KL.encI x386.Bibs),.row A2426 c2427 22 1 (nA wBX h2428),inn 3 1 KL.encI h2428 x386.Times,.blk b2353 66 B21,.blk b347 66 B22,B18,B17,B16,B6,B4,B7] W2421:=hS2423
            have h2452:=h2416.le le2422
            have h2453:=hs2412.le le2422
            exact ko1477 _ _ ⟨U2418,A334,c335,A336,c337,b2353,A334,c335,A336,c337,A2424,c2425,A2426,c2427,h2428,f269,rfl,rfl,rfl,rfl,rfl,rfl,rfl,((le2406.trans le2411).trans le2422),(hS2432.pick [4,5,8,3,0,1,2] _ (by decide) rfl),h2452,h2453,h2452,h2453⟩
           ·refine zw (cs:=B21) Z Z Z Z Z zd Z hS2354 ?_
            intro W2454 b2455 hS2456
            exact ko1208 _ _ ⟨U328,b2353,b2455,f269,rfl,rfl,rfl,rfl,rfl,rfl,rfl,(zG _),(hS2456.pick [3,4,2,5,8,1,0] _ (by decide) rfl)⟩
          ·refine zw (cs:=B21) Z Z Z Z Z zd Z hS2354 ?_
           intro W2462 b2463 hS2464
           exact ko1798 _ _ ⟨U328,b2353,b2463,f269,rfl,rfl,rfl,rfl,rfl,(zG _),(hS2464.pick [3,4,2,5,8,1,0] _ (by decide) rfl)⟩
         ·refine zw (cs:=B21) Z Z Z Z Z zd Z hS419 ?_
          intro W2470 b2471 hS2472
          refine zj ?_ ?_
          ·have q:=hS2472.freezeR (k:=2) (n:=x323.Bibs.length) rfl (wAB (f:=KL.encI) (sz:=1) (fun _=>rfl) x323.Bibs) (by decide)
           obtain ⟨U2474,le2475,hs2476,hS2477⟩:=q
           have hS2478:sW w U U2474 [.blk b2471 66 B21,.blk b347 66 B22,B19,B18,B17,B16,B6,B4,B7] W2470:=hS2477
           have h2483:=h343.le le2475
           have q:=hS2478.freezeRR (R:=wBH) (k:=2) rfl h2483 rfl (by decide)
           obtain ⟨U2479,le2480,hs2481,hS2482⟩:=q
           have hS2484:sW w U U2479 [.blk b2471 66 B21,.blk b347 66 B22,B18,B17,B16,B6,B4,B7] W2470:=hS2482
           have h2485:=hs2476.le le2480
           refine zL 0 Z Z Z Z (zK Z Z Zs (zC Z zP) Z) hS2484 (fun hs=>wAS x323 A334 c335 A336 c337 W2470 U2479 hs h2485 hs2481 h387) (.inr Z) ?_
           rintro U2487 L2488 v2489 W2490 le2491 hS2492 ⟨A2493,c2494,A2495,c2496,h2497,rfl,rfl⟩
           have hS2501:sW w U U2487 [.row A2493 c2494 3 1 (nA KL.encI x386.Bibs),.row A2495 c2496 22 1 (nA wBX h2497),inn 3 1 KL.encI h2497 x386.Times,.blk b2471 66 B21,.blk b347 66 B22,B18,B17,B16,B6,B4,B7] W2490:=hS2492
           have h2521:=h2485.le le2491
           have h2522:=hs2481.le le2491
           exact ko1885 _ _ ⟨U2487,A334,c335,A336,c337,b2471,A334,c335,A336,c337,A2493,c2494,A2495,c2496,h2497,f269,rfl,rfl,rfl,rfl,rfl,((le2475.trans le2480).trans le2491),(hS2501.pick [4,5,8,3,0,1,2] _ (by decide) rfl),h2521,h2522,h2521,h2522⟩
          refine zj ?_ ?_
          ·refine ZH Z Z Z Z (hS2472.ldB (j:=1) Z Z Z zJ (v:=jV x323.Laps) Z) (oR Z (Zd (pv:=[(0,jV x323.Laps)]) (z:=B21) (cs:=B23) Z (wAH Z wAQ) zd wCi Z Z) (zj ?_ ?_))
           ·have q:=hS2472.freezeR (k:=2) (n:=x323.Bibs.length) rfl (wAB (f:=KL.encI) (sz:=1) (fun _=>rfl) x323.Bibs) (by decide)
            obtain ⟨U2523,le2524,hs2525,hS2526⟩:=q
            have hS2527:sW w U U2523 [.blk b2471 66 B21,.blk b347 66 B22,B19,B18,B17,B16,B6,B4,B7] W2470:=hS2526
            have h2532:=h343.le le2524
            have q:=hS2527.freezeRR (R:=wBH) (k:=2) rfl h2532 rfl (by decide)
            obtain ⟨U2528,le2529,hs2530,hS2531⟩:=q
            have hS2533:sW w U U2528 [.blk b2471 66 B21,.blk b347 66 B22,B18,B17,B16,B6,B4,B7] W2470:=hS2531
            have h2534:=hs2525.le le2529
            refine zL 0 Z Z Z Z (zK Z Z Zs (zC Z zP) Z) hS2533 (fun hs=>wAS x323 A334 c335 A336 c337 W2470 U2528 hs h2534 hs2530 h387) (.inr Z) ?_
            rintro U2536 L2537 v2538 W2539 le2540 hS2541 ⟨A2542,c2543,A2544,c2545,h2546,rfl,rfl⟩
            have hS2550:sW w U U2536 [.row A2542 c2543 3 1 (nA KL.encI x386.Bibs),.row A2544 c2545 22 1 (nA wBX h2546),inn 3 1 KL.encI h2546 x386.Times,.blk b2471 66 B21,.blk b347 66 B22,B18,B17,B16,B6,B4,B7] W2539:=hS2541
            have h2570:=h2534.le le2540
            have h2571:=hs2530.le le2540
            exact ko1415 _ _ ⟨U2536,A334,c335,A336,c337,b2471,A334,c335,A336,c337,A2542,c2543,A2544,c2545,h2546,f269,rfl,rfl,rfl,rfl,rfl,rfl,rfl,((le2524.trans le2529).trans le2540),(hS2550.pick [4,5,8,3,0,1,2] _ (by decide) rfl),h2570,h2571,h2570,h2571⟩
           ·refine zw (cs:=B21) Z Z Z Z Z zd Z hS2472 ?_
            intro W2572 b2573 hS2574
            exact ko1208 _ _ ⟨U328,b2573,b2471,f269,rfl,rfl,rfl,rfl,rfl,rfl,rfl,(zG _),(hS2574.pick [3,4,2,5,8,0,1] _ (by decide) rfl)⟩
          ·refine zw (cs:=B21) Z Z Z Z Z zd Z hS2472 ?_
           intro W2580 b2581 hS2582
           exact ko1798 _ _ ⟨U328,b2581,b2471,f269,rfl,rfl,rfl,rfl,rfl,(zG _),(hS2582.pick [3,4,2,5,8,0,1] _ (by decide) rfl)⟩
        ·rintro σ2588 W2589 ⟨U2590,A354,c355,A357,c358,b360,A363,c364,A366,c367,hs368,b370,f2593,f2594,f2595,f2596,le2591,hS2592,h2597,h2598⟩
         refine zF (sR fL4 Z (oR Z (zX Z f2595 zM Z ZX) (oL Z (hS2592.ldB (j:=3) Z Z Z zq (v:=.slice A366 l365.length c367) Z) (oR Z (zo Z Z zO) (oM Z Z (eN (zS (bnK hm373 fun y2610 hf2607 hm2606=>?_))))))))
         have q:=wAx hf2607
         obtain ⟨hle2608,hf2609⟩:=q
         replace hle2608:=zD hle2608
         let B27:Res:=.blk b347 66 [jV x323.Laps,.slice A354 l353.length c355,.slice A357 l356.length c358]
         let B28:Res:=.row A366 c367 22 1 (nA wBX hs368)
         let B29:Res:=.row A363 c364 3 1 (nA KL.encI l362)
         refine CK.forN' (fun k2605 l2604 σ_ w_=>∃ (U_:PHeap),σ_ 123=jV (↑k2605:Int)/\σ_ 6=.pointer (some ⟨b26,0,none⟩)/\σ_ 23=.pointer (some ⟨b347,0,none⟩)/\σ_ 24=.pointer (some ⟨b360,0,none⟩)/\σ_ 25=.pointer (some ⟨b370,0,none⟩)/\σ_ 122=jV (↑l365.length:Int)/\PHeap.Le U2590 U_/\sW w U U_ [B27,B18,B6,B29,B28,inn 3 1 KL.encI hs368 l2604,.blk b360 66 [jV x361,.slice A363 l362.length c364,.slice A366 l2604.length c367],.blk b370 66 B23] w_) hf2609 ?_ ?_ ?_
         ·exact ⟨U2590,rfl,f2593,f2594,f2595,f2596,rfl,(zG _),(hS2592.pick [0,1,2,4,5,6,3,7] _ (by decide) rfl)⟩
         ·rintro k2605 l2604 xx2613 σ2611 W2612 hk2616 ⟨U2618,fi2617,f2621,f2622,f2623,f2624,f2625,le2619,hS2620⟩ hx2614
          have c2626:Hid ((↑k2605:Int) < (↑l365.length:Int)):=zD (wBT hk2616)
          replace hk2616:=zD hk2616
          have hi2627:Hid (w64 ((↑k2605:Int) + 1)=(↑(k2605 + 1):Int)):=zD (by have h1:=hle2608.out;have h2:=c2626.out;rw [wAU] <;> omega)
          refine sR fL1 Z (oR Z (zQ Z fi2617 f2625) (eN (zF (cT Z c2626 (kN (zF (zS (sR fL2 Z (oM Z fi2617 (oA Z Z (eN (sR fL7 Z (oR Z (zX Z f2623 zM Z ZX) (oL Z (hS2620.ldB (j:=6) Z Z Z zq (v:=.slice A366 l2604.length c367) Z) (oM Z Z (bnK hx2614 fun _ h2628 hm2629=>?_))))))))))))))))
          obtain ⟨b2630,hA2631⟩:=hS2620.rowSome (j:=4) rfl (by rw [wAB (f:=wBX) (sz:=1) (fun _=>rfl),(hS2620.innFit (j:=5) rfl).len];have hz:=wAP h2628;omega)
          refine oR Z (ZD Z Z hA2631 Z zO zN (wAP h2628)) ?_
          have hf2632:=hS2620.innFit (j:=5) rfl
          have hg2633:=wBM (xs:=hs368) (k:=k2605) (by rw [hf2632.len];exact wAP h2628)
          have hv2634:Value.slice (gd hs368 k2605).A (gd hs368 k2605).n (gd hs368 k2605).c=.slice ((gd hs368 k2605).A) ((gd l2604 k2605).length) ((gd hs368 k2605).c):=by rw [hf2632.at_ (k:=k2605) (wAP h2628)]
          refine ZC rfl rfl rfl rfl (RunsK.to (hS2620.ldR (j:=4) rfl hA2631 rfl rfl zn (wAO (sz:=1) (fun _=>rfl) _ _ 0 _ hg2633 (by first | omega | rfl | simp) rfl)) hv2634) rfl ?_
          let B30:Res:=.blk b360 66 [jV x361,.slice A363 l362.length c364,.slice A366 l2604.length c367]
          have hS2635:sW w U U2618 [inn 3 1 KL.encI hs368 l2604,B27,B18,B6,B29,B28,B30,.blk b370 66 B23] W2612:=hS2620.pick [5,0,1,2,3,4,6,7] _ (by decide) rfl
          have hS2636:=hS2635.innTake (k:=k2605) (wAP h2628)
          have hS2638:sW w U U2618 [.row ((gd hs368 k2605).A) ((gd hs368 k2605).c) 3 1 (nA KL.encI (gd l2604 k2605)),wQF 3 1 KL.encI hs368 l2604 k2605,B27,B18,B6,B29,B28,B30,.blk b370 66 B23] W2612:=hS2636
          refine oR Z (zo Z Z zA) (oM Z Z (eN (zS ?_)))
          have hS2639:=hS2638.innBack0
          have hS2640:sW w U U2618 [inn 3 1 KL.encI hs368 l2604,B27,B18,B6,B29,B28,B30,.blk b370 66 B23] W2612:=hS2639
          refine bnK hm2629 fun y2658 hf2655 hm2654=>?_
          have q:=wAx hf2655
          obtain ⟨hle2656,hf2657⟩:=q
          replace hle2656:=zD hle2656
          refine CK.forN' (fun k2653 l2652 σ_ w_=>∃ (U_:PHeap),σ_ 132=jV (↑k2653:Int)/\σ_ 6=.pointer (some ⟨b26,0,none⟩)/\σ_ 23=.pointer (some ⟨b347,0,none⟩)/\σ_ 24=.pointer (some ⟨b360,0,none⟩)/\σ_ 25=.pointer (some ⟨b370,0,none⟩)/\σ_ 26=jV (↑k2605:Int)/\σ_ 122=jV (↑l365.length:Int)/\σ_ 123=jV (↑k2605:Int)/\σ_ 131=jV (↑((gd l2604 k2605).length):Int)/\PHeap.Le U2618 U_/\sW w U U_ [B27,B18,B6,B29,B28,inn 3 1 KL.encI hs368 l2652,.blk b360 66 [jV x361,.slice A363 l362.length c364,.slice A366 l2652.length c367],.blk b370 66 B23] w_) hf2657 ?_ ?_ ?_
          ·exact ⟨U2618,rfl,f2621,f2622,f2623,f2624,rfl,f2625,fi2617,rfl,(zG _),(hS2640.pick [1,2,3,4,5,0,6,7] _ (by decide) rfl)⟩
          ·rintro k2653 l2652 xx2661 σ2659 W2660 hk2664 ⟨U2666,fi2665,f2669,f2670,f2671,f2672,f2673,f2674,f2675,f2676,le2667,hS2668⟩ hx2662
           have c2677:Hid ((↑k2653:Int) < (↑((gd l2604 k2605).length):Int)):=zD (wBT hk2664)
           replace hk2664:=zD hk2664
           have hi2678:Hid (w64 ((↑k2653:Int) + 1)=(↑(k2653 + 1):Int)):=zD (by have h1:=hle2656.out;have h2:=c2677.out;rw [wAU] <;> omega)
           refine sR fL1 Z (oR Z (zQ Z fi2665 f2676) (eN (zF (cT Z c2677 (kN (zF (zS (sR fL2 Z (oM Z fi2665 (oA Z Z (eN (rR (wTY (.fx 10 .nil .stop)) Z (oR Z (zX Z f2671 zM Z ZX) (oL Z (hS2668.ldB (j:=6) Z Z Z zq (v:=.slice A366 l2652.length c367) Z) (oM Z f2673 (bnK hx2662 fun _ h2679 hm2680=>oR Z (ZD Z Z hA2631 Z zO zN (wAP h2679)) ?_))))))))))))))))
           have hf2681:=hS2668.innFit (j:=5) rfl
           have hg2682:=wBM (xs:=hs368) (k:=k2605) (by rw [hf2681.len];exact wAP h2679)
           have hv2683:Value.slice (gd hs368 k2605).A (gd hs368 k2605).n (gd hs368 k2605).c=.slice ((gd hs368 k2605).A) ((gd l2652 k2605).length) ((gd hs368 k2605).c):=by rw [hf2681.at_ (k:=k2605) (wAP h2679)]
           refine ZC rfl rfl rfl rfl (RunsK.to (hS2668.ldR (j:=4) rfl hA2631 rfl rfl zn (wAO (sz:=1) (fun _=>rfl) _ _ 0 _ hg2682 (by first | omega | rfl | simp) rfl)) hv2683) rfl ?_
           let B31:Res:=.blk b360 66 [jV x361,.slice A363 l362.length c364,.slice A366 l2652.length c367]
           have hS2684:sW w U U2666 [inn 3 1 KL.encI hs368 l2652,B27,B18,B6,B29,B28,B31,.blk b370 66 B23] W2660:=hS2668.pick [5,0,1,2,3,4,6,7] _ (by decide) rfl
           have hS2685:=hS2684.innTake (k:=k2605) (wAP h2679)
           have hS2687:sW w U U2666 [.row ((gd hs368 k2605).A) ((gd hs368 k2605).c) 3 1 (nA KL.encI (gd l2652 k2605)),wQF 3 1 KL.encI hs368 l2652 k2605,B27,B18,B6,B29,B28,B31,.blk b370 66 B23] W2660:=hS2685
           refine oM Z Z (bnK hm2680 fun _ h2688 hm2689=>?_)
           obtain ⟨b2690,hA2691⟩:=hS2687.rowSome (j:=0) rfl (by rw [wAB (f:=KL.encI) (sz:=1) (fun _=>rfl) (gd l2652 k2605)];have hz:=wAP h2688;omega)
           refine oR Z (ZD Z Z hA2691 Z zA zB (wAP h2688)) ?_
           have hg2692:=wBM (xs:=(gd l2652 k2605)) (wAP h2688)
           refine ZC rfl rfl rfl rfl (hS2687.ldR (j:=0) rfl hA2691 rfl rfl zJ (wAO (sz:=1) (fun _=>rfl) _ _ 0 _ hg2692 (by first | omega | rfl | simp) rfl)) rfl (zY rfl rfl rfl rfl (fun _=>Runs.mulw rfl rfl rfl) (zY rfl rfl rfl rfl (fun _=>ZD rfl rfl hA2691 rfl zA zB (wAP h2688)) ?_))
           have hg2693:=wBM (xs:=(gd l2652 k2605)) (wAP h2688)
           refine OKS.stR (j:=0) (vs:=[jV (w64 ((gd (gd l2652 k2605) k2653) * 2))]) (cs':=nA KL.encI (nG (gd l2652 k2605) k2653 (w64 ((gd (gd l2652 k2605) k2653) * 2)))) rfl rfl rfl rfl hS2687 rfl hA2691 rfl rfl rfl zB (by rw [wAB (f:=KL.encI) (sz:=1) (fun _=>rfl)];have hz:=wAP h2688;show _ + 1 <= _;first | omega | (simp only [Int.toNat_natCast];omega) | (simp only [nJ,nH,nI];omega)) rfl (wDo (sz:=1) (fo:=0) (fun _=>rfl) _ _ _ _ hg2693 (by first | omega | (simp only [Int.toNat_natCast];omega) | (simp only [nJ,nH,nI];omega)) (zI rfl) rfl) rfl ?_
           intro W2694 hS2695
           have hS2696:sW w U U2666 [.row ((gd hs368 k2605).A) ((gd hs368 k2605).c) 3 1 (nA KL.encI (nG (gd l2652 k2605) k2653 (w64 ((gd (gd l2652 k2605) k2653) * 2)))),wQF 3 1 KL.encI hs368 l2652 k2605,B27,B18,B6,B29,B28,B31,.blk b370 66 B23] W2694:=hS2695
           refine zx (zZ (zH (rR fL2 Z (oR Z (zz (zV Z fi2665 Z) (congrArg (jV) hi2678.out)) (oM Z Z (zx ?_))))))
           have hS2697:=hS2696.innBack List.length_set
           have hS2698:sW w U U2666 [inn 3 1 KL.encI hs368 (nG l2652 k2605 (nG (gd l2652 k2605) k2653 (w64 ((gd (gd l2652 k2605) k2653) * 2)))),B27,B18,B6,B29,B28,B31,.blk b370 66 B23] W2694:=hS2697
           have hS2699:sW w U U2666 [inn 3 1 KL.encI hs368 (nG l2652 k2605 (nG (gd l2652 k2605) k2653 (w64 ((gd (gd l2652 k2605) k2653) * 2)))),B27,B18,B6,B29,B28,.blk b360 66 [jV x361,.slice A363 l362.length c364,.slice A366 ((nG l2652 k2605 (nG (gd l2652 k2605) k2653 (w64 ((gd (gd l2652 k2605) k2653) * 2)))).length) c367],.blk b370 66 B23] W2694:=by simpa only [List.length_set] using hS2698
           cases hm2689
           exact zH ⟨rfl,⟨U2666,rfl,f2669,f2670,f2671,f2672,f2673,f2674,f2675,f2676,le2667,(hS2699.pick [1,2,3,4,5,0,6,7] _ (by decide) rfl)⟩⟩
          ·rintro σ2701 W2702 ⟨U2706,fi2704,f2709,f2710,f2711,f2712,f2713,f2714,f2715,f2716,le2707,hS2708⟩
           have c2717:Hid (¬ ((↑(((↑((gd l2604 k2605).length):Int):Int) - 0).toNat:Int) < (↑((gd l2604 k2605).length):Int))):=zD (wAr)
           refine sR fL1 Z (oR Z (zQ Z fi2704 f2716) (eN (zF (cF Z c2717 (ZM (ze (ze (ZI (zZ (zH (rR fL2 Z (oR Z (zz (zV Z f2715 Z) (congrArg (jV) hi2627.out)) (oM Z Z (zx ?_))))))))))))))
           cases hm2654
           exact zH ⟨Z,⟨U2706,Z,f2709,f2710,f2711,f2712,f2714,(le2619.trans le2707),hS2708⟩⟩
         ·rintro σ2719 W2720 ⟨U2724,fi2722,f2727,f2728,f2729,f2730,f2731,le2725,hS2726⟩
          have c2732:Hid (¬ ((↑(((↑l365.length:Int):Int) - 0).toNat:Int) < (↑l365.length:Int))):=zD (wAr)
          refine sR fL1 Z (oR Z (zQ Z fi2722 f2731) (eN (zF (cF Z c2732 (ZM (ze (ze (ZI (zH (zF (sR (wHL (.fx 4 (.fl 5 (.fl 6 .nil)) .stop)) Z (oM Z f2727 (oR Z (zX Z f2728 zM Z zN) (oL Z (hS2726.ldB (j:=0) Z Z Z zn (v:=.slice A354 l353.length c355) Z) (oR Z (zo Z Z zA) ?_)))))))))))))))
          have h2733:=h86.le le183
          have h2734:=h2733.le le194
          have h2735:=h2734.le le206
          have h2736:=h2735.le le213
          have h2737:=h2736.le le225
          have h2738:=h2737.le le243
          have h2739:=h2738.le le260
          have h2740:=h2739.le le287
          have h2741:=h2740.le le292
          have h2742:=h2741.le le304
          have h2743:=h2742.le le332
          have h2744:=h2743.le le2591
          have h2745:=h2744.le le2725
          have q:=bnd hm2606
          obtain ⟨⟨x2746,x2747⟩,h2748,hm2749⟩:=q
          try dsimp only at hm2749
          let B32:Res:=.blk b360 66 [jV x361,.slice A363 l362.length c364,.slice A366 y2610.length c367]
          have hS2750:sW w U U2724 [B6,B27,B18,B29,B28,inn 3 1 KL.encI hs368 y2610,B32,.blk b370 66 B23] W2720:=hS2726.pick [2,0,1,3,4,5,6,7] _ (by decide) rfl
          refine zL 1 Z Z Z Z (zK Z Z Tryz.call42 (zC Z (zC Z zP)) Z) hS2750 (fun hs=>wBV x71 b26 A83 c84 (↑l353.length:Int) W2720 U2724 hs h2745 h2748) (.inl Z) ?_
          rintro U2751 L2752 v2753 W2754 le2755 hS2756 ⟨A2757,c2758,A2759,c2760,rfl,rfl,h2762⟩
          let B33:Res:=.blk b26 192 [.slice A2759 x2747.bytes.length c2760,jV x2747.next,.int .u32 x2747.state]
          let B34:Res:=.row A2757 c2758 3 1 (nA KL.encI x2746)
          have hS2763:sW w U U2751 [B34,B33,B27,B18,B29,B28,inn 3 1 KL.encI hs368 y2610,B32,.blk b370 66 B23] W2754:=hS2756
          refine oR Z (zo Z Z zA) (oM Z Z (eN (zS ?_)))
          have q:=bnd hm2749
          obtain ⟨⟨y2805,y2806⟩,hf2802,hm2801⟩:=q
          try dsimp only at hm2801
          have q:=wAx hf2802
          obtain ⟨hle2803,hf2804⟩:=q
          replace hle2803:=zD hle2803
          refine CK.forN' (fun k2800 (l2791,l2795) σ_ w_=>∃ (U_:PHeap) (A2792:Option Addr) (c2793:Nat) (A2796:Option Addr) (c2797:Nat) (cs2799:List Value),σ_ 153=jV (↑k2800:Int)/\σ_ 23=.pointer (some ⟨b347,0,none⟩)/\σ_ 24=.pointer (some ⟨b360,0,none⟩)/\σ_ 25=.pointer (some ⟨b370,0,none⟩)/\σ_ 151=.slice A2757 x2746.length c2758/\σ_ 152=jV (↑x2746.length:Int)/\PHeap.Le U2751 U_/\sW w U U_ [B33,B27,B18,.row A363 c364 3 1 (nA KL.encI l362),.row A366 c367 22 1 (nA wBX hs368),inn 3 1 KL.encI hs368 y2610,B32,.row A2792 c2793 3 1 (nA KL.encI l2791),.row A2796 c2797 22 1 cs2799,.blk b370 66 [jV x323.Laps,.slice A2792 l2791.length c2793,.slice A2796 l2795.length c2797],.row A2757 c2758 3 1 (nA KL.encI x2746)] w_/\RlL U_ wBH l2795 cs2799) hf2804 ?_ ?_ ?_
          ·have hS2807:=hS2763.nilrow 3 1
           have hS2809:=hS2807.nilrow 22 1
           exact ⟨U2751,none,0,none,0,[],rfl,f2728,f2729,f2730,rfl,rfl,(zG _),(hS2809.pick [3,4,5,6,7,8,9,1,0,10,2] _ (by decide) rfl),RlL.nil⟩
          ·rintro k2800 ⟨l2791,l2795⟩ xx2813 σ2811 W2812 hk2816 ⟨U2818,A2792,c2793,A2796,c2797,cs2799,fi2817,f2821,f2822,f2823,f2824,f2825,le2819,hS2820,h2826⟩ hx2814
           try dsimp only at hx2814
           have c2827:Hid ((↑k2800:Int) < (↑x2746.length:Int)):=zD (wBT hk2816)
           replace hk2816:=zD hk2816
           have hi2828:Hid (w64 ((↑k2800:Int) + 1)=(↑(k2800 + 1):Int)):=zD (by have h1:=hle2803.out;have h2:=c2827.out;rw [wAU] <;> omega)
           refine sR fL1 Z (oR Z (zQ Z fi2817 f2825) (eN (zF (cT Z c2827 (kN (zF (zS (sR fL3 Z (bnK hx2814 fun _ h2829 hm2830=>?_)))))))))
           obtain ⟨b2831,hA2832⟩:=hS2820.rowSome (j:=10) rfl (by rw [wAB (f:=KL.encI) (sz:=1) (fun _=>rfl) x2746];have hz:=wAP h2829;omega)
           refine oR Z (ZD Z f2824 hA2832 fi2817 zA zB (wAP h2829)) ?_
           have hg2833:=wBM (xs:=x2746) (wAP h2829)
           refine ZC rfl rfl rfl rfl (hS2820.ldR (j:=10) rfl hA2832 rfl rfl zJ (wAO (sz:=1) (fun _=>rfl) _ _ 0 _ hg2833 (by first | omega | rfl | simp) rfl)) rfl (Zb rfl rfl rfl rfl rfl rfl (eN (bnK hm2830 fun x2834 h2835 hm2894=>bnK hm2894 fun x2849 h2850 hm2895=>bnK hm2895 fun x2857 h2858 hm2896=>bnK hm2896 fun x2878 h2879 hm2897=>Ze Za [3,1,3,1,3,3,1,2,0,3,2,3,2,3,3,2,2,0,3,0,3,0] (wTX (.fl 9 (.fl 11 (.fl 13 (.fx 7 (.fx 8 (.fx 10 gBb (.fx 12 (.fl 14 gBd) .stop)) (.fx 10 gBh (.fx 12 (.fl 14 gBi) .stop))) (.fx 10 (.fx 7 gBh (.fx 12 (.fl 14 gBg) .stop)) (.fx 12 (.fl 14 (.fx 7 gBi (.fx 10 gBg (.fx 15 (.fx 7 gBf (.fx 10 gBc (.fx 16 (.fx 7 gBa (.fx 10 gAx .stop)) .stop))) .stop)))) .stop))))))) (by kernel_rfl) ?_)))
           have hS2898:=hS2820.drew
           generalize hw_W2899:({ W2812 with drawn:=W2812.drawn + 1 }:World)=W2899 at hS2898 ⊢
           refine zr (s:=.nil) (M:=fun σ_ w_=>∃ (U_:PHeap) (A3261:Option Addr) (c3262:Nat) (A3263:Option Addr) (c3264:Nat) (cs3265:List Value) (b3266:Nat) (o3267:Nat) (A3268:Option Addr) (c3269:Nat) (A3271:Option Addr) (c3272:Nat) (b3273:Nat) (o3274:Nat) (A3276:Option Addr) (c3277:Nat) (A3278:Option Addr) (c3279:Nat) (cs3280:List Value),σ_ 23=.pointer (some ⟨b347,0,none⟩)/\σ_ 24=.pointer (some ⟨b360,0,none⟩)/\σ_ 25=.pointer (some ⟨b370,0,none⟩)/\σ_ 29=jV (gd x2746 k2800)/\σ_ 151=.slice A2757 x2746.length c2758/\σ_ 152=jV (↑x2746.length:Int)/\σ_ 153=jV (↑k2800:Int)/\σ_ 157=.pointer (some ⟨b370,1,none⟩)/\σ_ 159=.pointer (some ⟨b347,1,none⟩)/\σ_ 160=.slice A354 l353.length c355/\σ_ 161=jV (gd x2746 k2800)/\σ_ 162=.pointer (some ⟨b3266,o3267,none⟩)/\σ_ 163=jV x2834/\σ_ 164=.slice A3268 ([x2834].length) c3269/\σ_ 165=.slice A3261 x2849.length c3262/\σ_ 166=.pointer (some ⟨b370,2,none⟩)/\σ_ 168=.pointer (some ⟨b347,2,none⟩)/\σ_ 169=.slice A357 l356.length c358/\σ_ 170=jV (gd x2746 k2800)/\σ_ 171=.pointer (some ⟨b3273,o3274,none⟩)/\σ_ 172=.slice A3276 x2857.length c3277/\σ_ 173=.slice A3278 ([x2857].length) c3279/\σ_ 174=.slice A3263 x2878.length c3264/\σ_ 175=.pointer (some ⟨b370,1,none⟩)/\σ_ 176=.pointer (some ⟨b370,2,none⟩)/\PHeap.Le U2818 U_/\sW w U U_ [B33,B27,B18,.row A363 c364 3 1 (nA KL.encI l362),.row A366 c367 22 1 (nA wBX hs368),inn 3 1 KL.encI hs368 y2610,B32,.row A3261 c3262 3 1 (nA KL.encI x2849),.row A3263 c3264 22 1 cs3265,.blk b370 66 [jV x323.Laps,.slice A3261 x2849.length c3262,.slice A3263 x2878.length c3264],.row A2757 c2758 3 1 (nA KL.encI x2746),.row A3268 c3269 3 1 (nA KL.encI [x2834]),.row A3278 c3279 22 1 cs3280] w_/\RlL U_ wBH x2878 cs3265/\Cl U_ b3266 o3267 [jV x2834]/\Sl U_ 1 A3271 c3272 x2857.length (nA KL.encI x2857)/\Cl U_ b3273 o3274 [.slice A3271 x2857.length c3272]/\Sl U_ 1 A3276 c3277 x2857.length (nA KL.encI x2857)/\RlL U_ wBH [x2857] cs3280) ?_ fun ko3281=>?_
           ·rintro σ3282 W3283 ⟨U3284,A3261,c3262,A3263,c3264,cs3265,b3266,o3267,A3268,c3269,A3271,c3272,b3273,o3274,A3276,c3277,A3278,c3279,cs3280,f3287,f3288,f3289,f3290,f3291,f3292,f3293,f3294,f3295,f3296,f3297,f3298,f3299,f3300,f3301,f3302,f3303,f3304,f3305,f3306,f3307,f3308,f3309,f3310,f3311,le3285,hS3286,h3312,h3313,h3314,h3315,h3316,h3317⟩
            refine zx (zZ (zH (rR fL2 Z (oR Z (zz (zV Z f3293 Z) (congrArg (jV) hi2828.out)) (oM Z Z (zx ?_))))))
            cases hm2897
            exact zH ⟨rfl,⟨U3284,A3261,c3262,A3263,c3264,cs3265,rfl,f3287,f3288,f3289,f3291,f3292,(le2819.trans le3285),(hS3286.pick [0,1,2,3,4,5,6,7,8,9,10] _ (by decide) rfl),h3312⟩⟩
           refine zr (s:=gAc) (M:=fun σ_ w_=>∃ (U_:PHeap) (A3325:Option Addr) (c3326:Nat) (b3327:Nat) (o3328:Nat) (A3329:Option Addr) (c3330:Nat) (A3332:Option Addr) (c3333:Nat) (b3334:Nat) (o3335:Nat) (A3337:Option Addr) (c3338:Nat) (A3339:Option Addr) (c3340:Nat) (cs3341:List Value) (A3342:Option Addr) (c3343:Nat) (cs3344:List Value),σ_ 23=.pointer (some ⟨b347,0,none⟩)/\σ_ 24=.pointer (some ⟨b360,0,none⟩)/\σ_ 25=.pointer (some ⟨b370,0,none⟩)/\σ_ 29=jV (gd x2746 k2800)/\σ_ 151=.slice A2757 x2746.length c2758/\σ_ 152=jV (↑x2746.length:Int)/\σ_ 153=jV (↑k2800:Int)/\σ_ 157=.pointer (some ⟨b370,1,none⟩)/\σ_ 159=.pointer (some ⟨b347,1,none⟩)/\σ_ 160=.slice A354 l353.length c355/\σ_ 161=jV (gd x2746 k2800)/\σ_ 162=.pointer (some ⟨b3327,o3328,none⟩)/\σ_ 163=jV x2834/\σ_ 164=.slice A3329 ([x2834].length) c3330/\σ_ 165=.slice A3325 x2849.length c3326/\σ_ 166=.pointer (some ⟨b370,2,none⟩)/\σ_ 168=.pointer (some ⟨b347,2,none⟩)/\σ_ 169=.slice A357 l356.length c358/\σ_ 170=jV (gd x2746 k2800)/\σ_ 171=.pointer (some ⟨b3334,o3335,none⟩)/\σ_ 172=.slice A3337 x2857.length c3338/\σ_ 173=.slice A3339 ([x2857].length) c3340/\σ_ 174=.slice A3342 x2878.length c3343/\σ_ 175=.pointer (some ⟨b370,1,none⟩)/\PHeap.Le U2818 U_/\sW w U U_ [B33,B27,B18,.row A363 c364 3 1 (nA KL.encI l362),.row A366 c367 22 1 (nA wBX hs368),inn 3 1 KL.encI hs368 y2610,B32,.row A3325 c3326 3 1 (nA KL.encI x2849),.blk b370 66 [jV x323.Laps,.slice A3325 x2849.length c3326,.slice A2796 l2795.length c2797],.row A2757 c2758 3 1 (nA KL.encI x2746),.row A3329 c3330 3 1 (nA KL.encI [x2834]),.row A3339 c3340 22 1 cs3341,.row A3342 c3343 22 1 cs3344] w_/\Cl U_ b3327 o3328 [jV x2834]/\Sl U_ 1 A3332 c3333 x2857.length (nA KL.encI x2857)/\Cl U_ b3334 o3335 [.slice A3332 x2857.length c3333]/\Sl U_ 1 A3337 c3338 x2857.length (nA KL.encI x2857)/\RlL U_ wBH [x2857] cs3341/\RlL U_ wBH x2878 cs3344) ?_ fun ko3345=>?_
           ·rintro σ3346 W3347 ⟨U3348,A3325,c3326,b3327,o3328,A3329,c3330,A3332,c3333,b3334,o3335,A3337,c3338,A3339,c3340,cs3341,A3342,c3343,cs3344,f3351,f3352,f3353,f3354,f3355,f3356,f3357,f3358,f3359,f3360,f3361,f3362,f3363,f3364,f3365,f3366,f3367,f3368,f3369,f3370,f3371,f3372,f3373,f3374,le3349,hS3350,h3375,h3376,h3377,h3378,h3379,h3380⟩
            refine oR Z (zX Z f3353 zM Z ZX) (ZR (j:=8) (vs:=[.slice A3342 x2878.length c3343]) Z Z Z Z hS3350 Z Z f3373 Z ZX (zI Z) Z Z Z ?_)
            intro W3381 hS3382
            have hS3383:sW w U U3348 [B33,B27,B18,B29,B28,inn 3 1 KL.encI hs368 y2610,B32,.row A3325 c3326 3 1 (nA KL.encI x2849),.blk b370 66 [jV x323.Laps,.slice A3325 x2849.length c3326,.slice A3342 x2878.length c3343],B34,.row A3329 c3330 3 1 (nA KL.encI [x2834]),.row A3339 c3340 22 1 cs3341,.row A3342 c3343 22 1 cs3344] W3381:=hS3382
            exact ko3281 _ _ ⟨U3348,A3325,c3326,A3342,c3343,cs3344,b3327,o3328,A3329,c3330,A3332,c3333,b3334,o3335,A3337,c3338,A3339,c3340,cs3341,f3351,f3352,f3353,f3354,f3355,f3356,f3357,f3358,f3359,f3360,f3361,f3362,f3363,f3364,f3365,f3366,f3367,f3368,f3369,f3370,f3371,f3372,f3373,f3374,rfl,le3349,(hS3383.pick [0,1,2,3,4,5,6,7,12,8,9,10,11] _ (by decide) rfl),h3380,h3375,h3376,h3377,h3378,h3379⟩
           let B35:Res:=.blk b370 66 [jV x323.Laps,.slice A2792 l2791.length c2793,.slice A2796 l2795.length c2797]
           refine zr (s:=gAk) (M:=fun σ_ w_=>∃ (U_:PHeap) (b3404:Nat) (o3405:Nat) (A3406:Option Addr) (c3407:Nat) (A3408:Option Addr) (c3409:Nat) (A3411:Option Addr) (c3412:Nat) (b3413:Nat) (o3414:Nat) (A3416:Option Addr) (c3417:Nat) (A3418:Option Addr) (c3419:Nat) (cs3420:List Value) (A3421:Option Addr) (c3422:Nat) (cs3423:List Value),σ_ 23=.pointer (some ⟨b347,0,none⟩)/\σ_ 24=.pointer (some ⟨b360,0,none⟩)/\σ_ 25=.pointer (some ⟨b370,0,none⟩)/\σ_ 29=jV (gd x2746 k2800)/\σ_ 151=.slice A2757 x2746.length c2758/\σ_ 152=jV (↑x2746.length:Int)/\σ_ 153=jV (↑k2800:Int)/\σ_ 157=.pointer (some ⟨b370,1,none⟩)/\σ_ 159=.pointer (some ⟨b347,1,none⟩)/\σ_ 160=.slice A354 l353.length c355/\σ_ 161=jV (gd x2746 k2800)/\σ_ 162=.pointer (some ⟨b3404,o3405,none⟩)/\σ_ 163=jV x2834/\σ_ 164=.slice A3406 ([x2834].length) c3407/\σ_ 165=.slice A3408 x2849.length c3409/\σ_ 166=.pointer (some ⟨b370,2,none⟩)/\σ_ 168=.pointer (some ⟨b347,2,none⟩)/\σ_ 169=.slice A357 l356.length c358/\σ_ 170=jV (gd x2746 k2800)/\σ_ 171=.pointer (some ⟨b3413,o3414,none⟩)/\σ_ 172=.slice A3416 x2857.length c3417/\σ_ 173=.slice A3418 ([x2857].length) c3419/\σ_ 174=.slice A3421 x2878.length c3422/\σ_ 175=.pointer (some ⟨b370,1,none⟩)/\PHeap.Le U2818 U_/\sW w U U_ [B33,B27,B18,.row A363 c364 3 1 (nA KL.encI l362),.row A366 c367 22 1 (nA wBX hs368),inn 3 1 KL.encI hs368 y2610,B32,B35,.row A2757 c2758 3 1 (nA KL.encI x2746),.row A3406 c3407 3 1 (nA KL.encI [x2834]),.row A3408 c3409 3 1 (nA KL.encI x2849),.row A3418 c3419 22 1 cs3420,.row A3421 c3422 22 1 cs3423] w_/\Cl U_ b3404 o3405 [jV x2834]/\Sl U_ 1 A3411 c3412 x2857.length (nA KL.encI x2857)/\Cl U_ b3413 o3414 [.slice A3411 x2857.length c3412]/\Sl U_ 1 A3416 c3417 x2857.length (nA KL.encI x2857)/\RlL U_ wBH [x2857] cs3420/\RlL U_ wBH x2878 cs3423) ?_ fun ko3424=>?_
           ·rintro σ3425 W3426 ⟨U3427,b3404,o3405,A3406,c3407,A3408,c3409,A3411,c3412,b3413,o3414,A3416,c3417,A3418,c3419,cs3420,A3421,c3422,cs3423,f3430,f3431,f3432,f3433,f3434,f3435,f3436,f3437,f3438,f3439,f3440,f3441,f3442,f3443,f3444,f3445,f3446,f3447,f3448,f3449,f3450,f3451,f3452,f3453,le3428,hS3429,h3454,h3455,h3456,h3457,h3458,h3459⟩
            refine ZR (j:=7) (vs:=[.slice A3408 x2849.length c3409]) Z Z Z Z hS3429 Z f3453 f3444 Z zN (zI Z) Z Z Z ?_
            intro W3460 hS3461
            have hS3462:sW w U U3427 [B33,B27,B18,B29,B28,inn 3 1 KL.encI hs368 y2610,B32,.blk b370 66 [jV x323.Laps,.slice A3408 x2849.length c3409,.slice A2796 l2795.length c2797],B34,.row A3406 c3407 3 1 (nA KL.encI [x2834]),.row A3408 c3409 3 1 (nA KL.encI x2849),.row A3418 c3419 22 1 cs3420,.row A3421 c3422 22 1 cs3423] W3460:=hS3461
            exact ko3345 _ _ ⟨U3427,A3408,c3409,b3404,o3405,A3406,c3407,A3411,c3412,b3413,o3414,A3416,c3417,A3418,c3419,cs3420,A3421,c3422,cs3423,f3430,f3431,f3432,f3433,f3434,f3435,f3436,f3437,f3438,f3439,f3440,f3441,f3442,f3443,f3444,f3445,f3446,f3447,f3448,f3449,f3450,f3451,f3452,f3453,le3428,(hS3462.pick [0,1,2,3,4,5,6,10,7,8,9,11,12] _ (by decide) rfl),h3454,h3455,h3456,h3457,h3458,h3459⟩
           let B36:Res:=.row A2796 c2797 22 1 cs2799
           refine zr (s:=gAl) (M:=fun σ_ w_=>∃ (U_:PHeap) (b3483:Nat) (o3484:Nat) (A3485:Option Addr) (c3486:Nat) (A3487:Option Addr) (c3488:Nat) (A3490:Option Addr) (c3491:Nat) (b3492:Nat) (o3493:Nat) (A3495:Option Addr) (c3496:Nat) (A3497:Option Addr) (c3498:Nat) (cs3499:List Value),σ_ 23=.pointer (some ⟨b347,0,none⟩)/\σ_ 24=.pointer (some ⟨b360,0,none⟩)/\σ_ 25=.pointer (some ⟨b370,0,none⟩)/\σ_ 29=jV (gd x2746 k2800)/\σ_ 151=.slice A2757 x2746.length c2758/\σ_ 152=jV (↑x2746.length:Int)/\σ_ 153=jV (↑k2800:Int)/\σ_ 157=.pointer (some ⟨b370,1,none⟩)/\σ_ 159=.pointer (some ⟨b347,1,none⟩)/\σ_ 160=.slice A354 l353.length c355/\σ_ 161=jV (gd x2746 k2800)/\σ_ 162=.pointer (some ⟨b3483,o3484,none⟩)/\σ_ 163=jV x2834/\σ_ 164=.slice A3485 ([x2834].length) c3486/\σ_ 165=.slice A3487 x2849.length c3488/\σ_ 166=.pointer (some ⟨b370,2,none⟩)/\σ_ 167=.slice A2796 l2795.length c2797/\σ_ 168=.pointer (some ⟨b347,2,none⟩)/\σ_ 169=.slice A357 l356.length c358/\σ_ 170=jV (gd x2746 k2800)/\σ_ 171=.pointer (some ⟨b3492,o3493,none⟩)/\σ_ 172=.slice A3495 x2857.length c3496/\σ_ 173=.slice A3497 ([x2857].length) c3498/\σ_ 175=.pointer (some ⟨b370,1,none⟩)/\PHeap.Le U2818 U_/\sW w U U_ [B33,B27,B18,.row A363 c364 3 1 (nA KL.encI l362),.row A366 c367 22 1 (nA wBX hs368),inn 3 1 KL.encI hs368 y2610,B32,B36,B35,.row A2757 c2758 3 1 (nA KL.encI x2746),.row A3485 c3486 3 1 (nA KL.encI [x2834]),.row A3487 c3488 3 1 (nA KL.encI x2849),.row A3497 c3498 22 1 cs3499] w_/\Cl U_ b3483 o3484 [jV x2834]/\Sl U_ 1 A3490 c3491 x2857.length (nA KL.encI x2857)/\Cl U_ b3492 o3493 [.slice A3490 x2857.length c3491]/\Sl U_ 1 A3495 c3496 x2857.length (nA KL.encI x2857)/\RlL U_ wBH [x2857] cs3499) ?_ fun ko3500=>?_
           ·rintro σ3501 W3502 ⟨U3503,b3483,o3484,A3485,c3486,A3487,c3488,A3490,c3491,b3492,o3493,A3495,c3496,A3497,c3498,cs3499,f3506,f3507,f3508,f3509,f3510,f3511,f3512,f3513,f3514,f3515,f3516,f3517,f3518,f3519,f3520,f3521,f3522,f3523,f3524,f3525,f3526,f3527,f3528,f3529,le3504,hS3505,h3530,h3531,h3532,h3533,h3534⟩
            have h3541:=h2826.le le3504
            refine OKS.appendR (R:=wBH) (j:=7) (xs:=l2795) (ys:=[x2857]) (zs:=x2878) rfl rfl rfl rfl rfl Tryz.underlying46 wJJ rfl rfl rfl rfl rfl rfl rfl hS3505 rfl f3522 f3528 h3541 h3534 (hS3505.srcR (j:=12) rfl (by decide) (RlL.len h3534)) h2879 rfl ?_
            intro A3535 c3536 cs3537 W3538 hS3539 hr3540
            have hS3542:sW w U U3503 [B33,B27,B18,B29,B28,inn 3 1 KL.encI hs368 y2610,B32,.row A3535 c3536 22 1 cs3537,B35,B34,.row A3485 c3486 3 1 (nA KL.encI [x2834]),.row A3487 c3488 3 1 (nA KL.encI x2849),.row A3497 c3498 22 1 cs3499] W3538:=hS3539
            exact ko3424 _ _ ⟨U3503,b3483,o3484,A3485,c3486,A3487,c3488,A3490,c3491,b3492,o3493,A3495,c3496,A3497,c3498,cs3499,A3535,c3536,cs3537,f3506,f3507,f3508,f3509,f3510,f3511,f3512,f3513,f3514,f3515,f3516,f3517,f3518,f3519,f3520,f3521,f3523,f3524,f3525,f3526,f3527,f3528,rfl,f3529,le3504,(hS3542.pick [0,1,2,3,4,5,6,8,9,10,11,12,7] _ (by decide) rfl),h3530,h3531,h3532,h3533,h3534,hr3540⟩
           refine zr (s:=.fl 18 gAl) (M:=fun σ_ w_=>∃ (U_:PHeap) (b3563:Nat) (o3564:Nat) (A3565:Option Addr) (c3566:Nat) (A3567:Option Addr) (c3568:Nat) (A3570:Option Addr) (c3571:Nat) (b3572:Nat) (o3573:Nat) (A3575:Option Addr) (c3576:Nat) (A3577:Option Addr) (c3578:Nat) (cs3579:List Value),σ_ 23=.pointer (some ⟨b347,0,none⟩)/\σ_ 24=.pointer (some ⟨b360,0,none⟩)/\σ_ 25=.pointer (some ⟨b370,0,none⟩)/\σ_ 29=jV (gd x2746 k2800)/\σ_ 151=.slice A2757 x2746.length c2758/\σ_ 152=jV (↑x2746.length:Int)/\σ_ 153=jV (↑k2800:Int)/\σ_ 157=.pointer (some ⟨b370,1,none⟩)/\σ_ 159=.pointer (some ⟨b347,1,none⟩)/\σ_ 160=.slice A354 l353.length c355/\σ_ 161=jV (gd x2746 k2800)/\σ_ 162=.pointer (some ⟨b3563,o3564,none⟩)/\σ_ 163=jV x2834/\σ_ 164=.slice A3565 ([x2834].length) c3566/\σ_ 165=.slice A3567 x2849.length c3568/\σ_ 166=.pointer (some ⟨b370,2,none⟩)/\σ_ 167=.slice A2796 l2795.length c2797/\σ_ 168=.pointer (some ⟨b347,2,none⟩)/\σ_ 169=.slice A357 l356.length c358/\σ_ 170=jV (gd x2746 k2800)/\σ_ 171=.pointer (some ⟨b3572,o3573,none⟩)/\σ_ 172=.slice A3575 x2857.length c3576/\σ_ 173=.slice A3577 ([x2857].length) c3578/\PHeap.Le U2818 U_/\sW w U U_ [B33,B27,B18,.row A363 c364 3 1 (nA KL.encI l362),.row A366 c367 22 1 (nA wBX hs368),inn 3 1 KL.encI hs368 y2610,B32,B36,B35,.row A2757 c2758 3 1 (nA KL.encI x2746),.row A3565 c3566 3 1 (nA KL.encI [x2834]),.row A3567 c3568 3 1 (nA KL.encI x2849),.row A3577 c3578 22 1 cs3579] w_/\Cl U_ b3563 o3564 [jV x2834]/\Sl U_ 1 A3570 c3571 x2857.length (nA KL.encI x2857)/\Cl U_ b3572 o3573 [.slice A3570 x2857.length c3571]/\Sl U_ 1 A3575 c3576 x2857.length (nA KL.encI x2857)/\RlL U_ wBH [x2857] cs3579) ?_ fun ko3580=>?_
           ·rintro σ3581 W3582 ⟨U3583,b3563,o3564,A3565,c3566,A3567,c3568,A3570,c3571,b3572,o3573,A3575,c3576,A3577,c3578,cs3579,f3586,f3587,f3588,f3589,f3590,f3591,f3592,f3593,f3594,f3595,f3596,f3597,f3598,f3599,f3600,f3601,f3602,f3603,f3604,f3605,f3606,f3607,f3608,le3584,hS3585,h3609,h3610,h3611,h3612,h3613⟩
            refine oR Z (zX Z f3588 zM Z zN) ?_
            have h3620:=h2826.le le3584
            refine OKS.appendR (R:=wBH) (j:=7) (xs:=l2795) (ys:=[x2857]) (zs:=x2878) rfl rfl rfl rfl rfl Tryz.underlying46 wJJ rfl rfl rfl rfl rfl rfl rfl hS3585 rfl f3602 f3608 h3620 h3613 (hS3585.srcR (j:=12) rfl (by decide) (RlL.len h3613)) h2879 rfl ?_
            intro A3614 c3615 cs3616 W3617 hS3618 hr3619
            have hS3621:sW w U U3583 [B33,B27,B18,B29,B28,inn 3 1 KL.encI hs368 y2610,B32,.row A3614 c3615 22 1 cs3616,B35,B34,.row A3565 c3566 3 1 (nA KL.encI [x2834]),.row A3567 c3568 3 1 (nA KL.encI x2849),.row A3577 c3578 22 1 cs3579] W3617:=hS3618
            exact ko3424 _ _ ⟨U3583,b3563,o3564,A3565,c3566,A3567,c3568,A3570,c3571,b3572,o3573,A3575,c3576,A3577,c3578,cs3579,A3614,c3615,cs3616,f3586,f3587,f3588,f3589,f3590,f3591,f3592,f3593,f3594,f3595,f3596,f3597,f3598,f3599,f3600,f3601,f3603,f3604,f3605,f3606,f3607,f3608,rfl,rfl,le3584,(hS3621.pick [0,1,2,3,4,5,6,8,9,10,11,12,7] _ (by decide) rfl),h3609,h3610,h3611,h3612,h3613,hr3619⟩
           refine zr (s:=gAq) (M:=fun σ_ w_=>∃ (U_:PHeap) (b3642:Nat) (o3643:Nat) (A3644:Option Addr) (c3645:Nat) (A3646:Option Addr) (c3647:Nat) (A3649:Option Addr) (c3650:Nat) (b3651:Nat) (o3652:Nat) (A3654:Option Addr) (c3655:Nat),σ_ 23=.pointer (some ⟨b347,0,none⟩)/\σ_ 24=.pointer (some ⟨b360,0,none⟩)/\σ_ 25=.pointer (some ⟨b370,0,none⟩)/\σ_ 29=jV (gd x2746 k2800)/\σ_ 151=.slice A2757 x2746.length c2758/\σ_ 152=jV (↑x2746.length:Int)/\σ_ 153=jV (↑k2800:Int)/\σ_ 157=.pointer (some ⟨b370,1,none⟩)/\σ_ 159=.pointer (some ⟨b347,1,none⟩)/\σ_ 160=.slice A354 l353.length c355/\σ_ 161=jV (gd x2746 k2800)/\σ_ 162=.pointer (some ⟨b3642,o3643,none⟩)/\σ_ 163=jV x2834/\σ_ 164=.slice A3644 ([x2834].length) c3645/\σ_ 165=.slice A3646 x2849.length c3647/\σ_ 166=.pointer (some ⟨b370,2,none⟩)/\σ_ 167=.slice A2796 l2795.length c2797/\σ_ 168=.pointer (some ⟨b347,2,none⟩)/\σ_ 169=.slice A357 l356.length c358/\σ_ 170=jV (gd x2746 k2800)/\σ_ 171=.pointer (some ⟨b3651,o3652,none⟩)/\σ_ 172=.slice A3654 x2857.length c3655/\σ_ 175=.pointer (some ⟨b370,1,none⟩)/\PHeap.Le U2818 U_/\sW w U U_ [B33,B27,B18,B29,B28,inn 3 1 KL.encI hs368 y2610,B32,B36,B35,B34,.row A3644 c3645 3 1 (nA KL.encI [x2834]),.row A3646 c3647 3 1 (nA KL.encI x2849)] w_/\Cl U_ b3642 o3643 [jV x2834]/\Sl U_ 1 A3649 c3650 x2857.length (nA KL.encI x2857)/\Cl U_ b3651 o3652 [.slice A3649 x2857.length c3650]/\Sl U_ 1 A3654 c3655 x2857.length (nA KL.encI x2857)) ?_ fun ko3656=>?_
           ·rintro σ3657 W3658 ⟨U3659,b3642,o3643,A3644,c3645,A3646,c3647,A3649,c3650,b3651,o3652,A3654,c3655,f3662,f3663,f3664,f3665,f3666,f3667,f3668,f3669,f3670,f3671,f3672,f3673,f3674,f3675,f3676,f3677,f3678,f3679,f3680,f3681,f3682,f3683,f3684,le3660,hS3661,h3685,h3686,h3687,h3688⟩
            let B37:List Value:=[.slice A3654 x2857.length c3655]
            refine zU (pv:=[(0,.slice A3654 x2857.length c3655)]) (zs:=[.slice none 0 0]) (cs:=B37) Z Z Z Z Z (wAH f3683 wAQ) zO zN ZP Z Z Z Z Z hS3661 ?_
            intro W3689 b3690 hS3691
            have hr3693:RlL U3659 wBH [x2857] B37:=(RlL.cons (R:=wBH) (x:=x2857) (vs:=B37) ⟨A3654,c3655,rfl,h3688⟩ RlL.nil)
            have hS3694:sW w U U3659 [.row (some ⟨b3690,0,none⟩) 1 22 1 B37,B33,B27,B18,B29,B28,inn 3 1 KL.encI hs368 y2610,B32,B36,B35,B34,.row A3644 c3645 3 1 (nA KL.encI [x2834]),.row A3646 c3647 3 1 (nA KL.encI x2849)] W3689:=hS3691
            exact ko3500 _ _ ⟨U3659,b3642,o3643,A3644,c3645,A3646,c3647,A3649,c3650,b3651,o3652,A3654,c3655,(some ⟨b3690,0,none⟩),1,B37,f3662,f3663,f3664,f3665,f3666,f3667,f3668,f3669,f3670,f3671,f3672,f3673,f3674,f3675,f3676,f3677,f3678,f3679,f3680,f3681,f3682,f3683,rfl,f3684,le3660,(hS3694.pick [1,2,3,4,5,6,7,8,9,10,11,12,0] _ (by decide) rfl),h3685,h3686,h3687,h3688,hr3693⟩
           refine zr (s:=gAu) (M:=fun σ_ w_=>∃ (U_:PHeap) (b3712:Nat) (o3713:Nat) (A3714:Option Addr) (c3715:Nat) (A3717:Option Addr) (c3718:Nat) (b3719:Nat) (o3720:Nat) (A3722:Option Addr) (c3723:Nat) (A3724:Option Addr) (c3725:Nat) (cs3726:List Value),σ_ 23=.pointer (some ⟨b347,0,none⟩)/\σ_ 24=.pointer (some ⟨b360,0,none⟩)/\σ_ 25=.pointer (some ⟨b370,0,none⟩)/\σ_ 29=jV (gd x2746 k2800)/\σ_ 151=.slice A2757 x2746.length c2758/\σ_ 152=jV (↑x2746.length:Int)/\σ_ 153=jV (↑k2800:Int)/\σ_ 157=.pointer (some ⟨b370,1,none⟩)/\σ_ 158=.slice A2792 l2791.length c2793/\σ_ 159=.pointer (some ⟨b347,1,none⟩)/\σ_ 160=.slice A354 l353.length c355/\σ_ 161=jV (gd x2746 k2800)/\σ_ 162=.pointer (some ⟨b3712,o3713,none⟩)/\σ_ 163=jV x2834/\σ_ 164=.slice A3714 ([x2834].length) c3715/\σ_ 166=.pointer (some ⟨b370,2,none⟩)/\σ_ 167=.slice A2796 l2795.length c2797/\σ_ 168=.pointer (some ⟨b347,2,none⟩)/\σ_ 169=.slice A357 l356.length c358/\σ_ 170=jV (gd x2746 k2800)/\σ_ 171=.pointer (some ⟨b3719,o3720,none⟩)/\σ_ 172=.slice A3722 x2857.length c3723/\σ_ 173=.slice A3724 ([x2857].length) c3725/\PHeap.Le U2818 U_/\sW w U U_ [B33,B27,B18,.row A363 c364 3 1 (nA KL.encI l362),.row A366 c367 22 1 (nA wBX hs368),inn 3 1 KL.encI hs368 y2610,B32,.row A2792 c2793 3 1 (nA KL.encI l2791),B36,B35,.row A2757 c2758 3 1 (nA KL.encI x2746),.row A3714 c3715 3 1 (nA KL.encI [x2834]),.row A3724 c3725 22 1 cs3726] w_/\Cl U_ b3712 o3713 [jV x2834]/\Sl U_ 1 A3717 c3718 x2857.length (nA KL.encI x2857)/\Cl U_ b3719 o3720 [.slice A3717 x2857.length c3718]/\Sl U_ 1 A3722 c3723 x2857.length (nA KL.encI x2857)/\RlL U_ wBH [x2857] cs3726) ?_ fun ko3727=>?_
           ·rintro σ3728 W3729 ⟨U3730,b3712,o3713,A3714,c3715,A3717,c3718,b3719,o3720,A3722,c3723,A3724,c3725,cs3726,f3733,f3734,f3735,f3736,f3737,f3738,f3739,f3740,f3741,f3742,f3743,f3744,f3745,f3746,f3747,f3748,f3749,f3750,f3751,f3752,f3753,f3754,f3755,le3731,hS3732,h3756,h3757,h3758,h3759,h3760⟩
            refine ZO (j:=7) (enc:=KL.encI) (xs:=l2791) (ys:=[x2834]) (zs:=x2849) rfl rfl rfl rfl rfl zu wCc rfl rfl rfl rfl rfl rfl hS3732 rfl f3741 f3747 (hS3732.srcR (j:=11) rfl (by decide) (wAB (f:=KL.encI) (sz:=1) (fun _=>rfl) [x2834])) (fun _=>rfl) (fun _=>rfl) h2850 rfl ?_
            intro A3761 c3762 W3763 hS3764
            have hS3765:sW w U U3730 [B33,B27,B18,B29,B28,inn 3 1 KL.encI hs368 y2610,B32,.row A3761 c3762 3 1 (nA KL.encI x2849),B36,B35,B34,.row A3714 c3715 3 1 (nA KL.encI [x2834]),.row A3724 c3725 22 1 cs3726] W3763:=hS3764
            exact ko3580 _ _ ⟨U3730,b3712,o3713,A3714,c3715,A3761,c3762,A3717,c3718,b3719,o3720,A3722,c3723,A3724,c3725,cs3726,f3733,f3734,f3735,f3736,f3737,f3738,f3739,f3740,f3742,f3743,f3744,f3745,f3746,f3747,rfl,f3748,f3749,f3750,f3751,f3752,f3753,f3754,f3755,le3731,(hS3765.pick [0,1,2,3,4,5,6,8,9,10,11,7,12] _ (by decide) rfl),h3756,h3757,h3758,h3759,h3760⟩
           refine zr (s:=gAt) (M:=fun σ_ w_=>∃ (U_:PHeap) (b3783:Nat) (o3784:Nat) (A3785:Option Addr) (c3786:Nat) (A3787:Option Addr) (c3788:Nat) (A3790:Option Addr) (c3791:Nat) (b3792:Nat) (o3793:Nat) (A3795:Option Addr) (c3796:Nat) (A3797:Option Addr) (c3798:Nat) (cs3799:List Value),σ_ 23=.pointer (some ⟨b347,0,none⟩)/\σ_ 24=.pointer (some ⟨b360,0,none⟩)/\σ_ 25=.pointer (some ⟨b370,0,none⟩)/\σ_ 29=jV (gd x2746 k2800)/\σ_ 151=.slice A2757 x2746.length c2758/\σ_ 152=jV (↑x2746.length:Int)/\σ_ 153=jV (↑k2800:Int)/\σ_ 157=.pointer (some ⟨b370,1,none⟩)/\σ_ 159=.pointer (some ⟨b347,1,none⟩)/\σ_ 160=.slice A354 l353.length c355/\σ_ 161=jV (gd x2746 k2800)/\σ_ 162=.pointer (some ⟨b3783,o3784,none⟩)/\σ_ 163=jV x2834/\σ_ 164=.slice A3785 ([x2834].length) c3786/\σ_ 165=.slice A3787 x2849.length c3788/\σ_ 166=.pointer (some ⟨b370,2,none⟩)/\σ_ 168=.pointer (some ⟨b347,2,none⟩)/\σ_ 169=.slice A357 l356.length c358/\σ_ 170=jV (gd x2746 k2800)/\σ_ 171=.pointer (some ⟨b3792,o3793,none⟩)/\σ_ 172=.slice A3795 x2857.length c3796/\σ_ 173=.slice A3797 ([x2857].length) c3798/\PHeap.Le U2818 U_/\sW w U U_ [B33,B27,B18,.row A363 c364 3 1 (nA KL.encI l362),.row A366 c367 22 1 (nA wBX hs368),inn 3 1 KL.encI hs368 y2610,B32,B36,B35,.row A2757 c2758 3 1 (nA KL.encI x2746),.row A3785 c3786 3 1 (nA KL.encI [x2834]),.row A3787 c3788 3 1 (nA KL.encI x2849),.row A3797 c3798 22 1 cs3799] w_/\Cl U_ b3783 o3784 [jV x2834]/\Sl U_ 1 A3790 c3791 x2857.length (nA KL.encI x2857)/\Cl U_ b3792 o3793 [.slice A3790 x2857.length c3791]/\Sl U_ 1 A3795 c3796 x2857.length (nA KL.encI x2857)/\RlL U_ wBH [x2857] cs3799) ?_ fun ko3800=>?_
           ·rintro σ3801 W3802 ⟨U3803,b3783,o3784,A3785,c3786,A3787,c3788,A3790,c3791,b3792,o3793,A3795,c3796,A3797,c3798,cs3799,f3806,f3807,f3808,f3809,f3810,f3811,f3812,f3813,f3814,f3815,f3816,f3817,f3818,f3819,f3820,f3821,f3822,f3823,f3824,f3825,f3826,f3827,le3804,hS3805,h3828,h3829,h3830,h3831,h3832⟩
            exact ZH Z Z Z Z (hS3805.ldB (j:=8) Z Z f3821 zq (v:=.slice A2796 l2795.length c2797) Z) (ko3580 _ _ ⟨U3803,b3783,o3784,A3785,c3786,A3787,c3788,A3790,c3791,b3792,o3793,A3795,c3796,A3797,c3798,cs3799,f3806,f3807,f3808,f3809,f3810,f3811,f3812,f3813,f3814,f3815,f3816,f3817,f3818,f3819,f3820,f3821,Z,f3822,f3823,f3824,f3825,f3826,f3827,le3804,hS3805,h3828,h3829,h3830,h3831,h3832⟩)
           refine zr (s:=.fl 18 gAq) (M:=fun σ_ w_=>∃ (U_:PHeap) (b3850:Nat) (o3851:Nat) (A3852:Option Addr) (c3853:Nat) (A3854:Option Addr) (c3855:Nat) (A3857:Option Addr) (c3858:Nat) (b3859:Nat) (o3860:Nat) (A3862:Option Addr) (c3863:Nat),σ_ 23=.pointer (some ⟨b347,0,none⟩)/\σ_ 24=.pointer (some ⟨b360,0,none⟩)/\σ_ 25=.pointer (some ⟨b370,0,none⟩)/\σ_ 29=jV (gd x2746 k2800)/\σ_ 151=.slice A2757 x2746.length c2758/\σ_ 152=jV (↑x2746.length:Int)/\σ_ 153=jV (↑k2800:Int)/\σ_ 157=.pointer (some ⟨b370,1,none⟩)/\σ_ 159=.pointer (some ⟨b347,1,none⟩)/\σ_ 160=.slice A354 l353.length c355/\σ_ 161=jV (gd x2746 k2800)/\σ_ 162=.pointer (some ⟨b3850,o3851,none⟩)/\σ_ 163=jV x2834/\σ_ 164=.slice A3852 ([x2834].length) c3853/\σ_ 165=.slice A3854 x2849.length c3855/\σ_ 166=.pointer (some ⟨b370,2,none⟩)/\σ_ 167=.slice A2796 l2795.length c2797/\σ_ 168=.pointer (some ⟨b347,2,none⟩)/\σ_ 169=.slice A357 l356.length c358/\σ_ 170=jV (gd x2746 k2800)/\σ_ 171=.pointer (some ⟨b3859,o3860,none⟩)/\σ_ 172=.slice A3862 x2857.length c3863/\PHeap.Le U2818 U_/\sW w U U_ [B33,B27,B18,B29,B28,inn 3 1 KL.encI hs368 y2610,B32,B36,B35,B34,.row A3852 c3853 3 1 (nA KL.encI [x2834]),.row A3854 c3855 3 1 (nA KL.encI x2849)] w_/\Cl U_ b3850 o3851 [jV x2834]/\Sl U_ 1 A3857 c3858 x2857.length (nA KL.encI x2857)/\Cl U_ b3859 o3860 [.slice A3857 x2857.length c3858]/\Sl U_ 1 A3862 c3863 x2857.length (nA KL.encI x2857)) ?_ fun ko3864=>?_
           ·rintro σ3865 W3866 ⟨U3867,b3850,o3851,A3852,c3853,A3854,c3855,A3857,c3858,b3859,o3860,A3862,c3863,f3870,f3871,f3872,f3873,f3874,f3875,f3876,f3877,f3878,f3879,f3880,f3881,f3882,f3883,f3884,f3885,f3886,f3887,f3888,f3889,f3890,f3891,le3868,hS3869,h3892,h3893,h3894,h3895⟩
            refine oR Z (zX Z f3872 zM Z zN) ?_
            let B38:List Value:=[.slice A3862 x2857.length c3863]
            refine zU (pv:=[(0,.slice A3862 x2857.length c3863)]) (zs:=[.slice none 0 0]) (cs:=B38) Z Z Z Z Z (wAH f3891 wAQ) zO zN ZP Z Z Z Z Z hS3869 ?_
            intro W3896 b3897 hS3898
            have hr3900:RlL U3867 wBH [x2857] B38:=(RlL.cons (R:=wBH) (x:=x2857) (vs:=B38) ⟨A3862,c3863,rfl,h3895⟩ RlL.nil)
            have hS3901:sW w U U3867 [.row (some ⟨b3897,0,none⟩) 1 22 1 B38,B33,B27,B18,B29,B28,inn 3 1 KL.encI hs368 y2610,B32,B36,B35,B34,.row A3852 c3853 3 1 (nA KL.encI [x2834]),.row A3854 c3855 3 1 (nA KL.encI x2849)] W3896:=hS3898
            exact ko3500 _ _ ⟨U3867,b3850,o3851,A3852,c3853,A3854,c3855,A3857,c3858,b3859,o3860,A3862,c3863,(some ⟨b3897,0,none⟩),1,B38,f3870,f3871,f3872,f3873,f3874,f3875,f3876,f3877,f3878,f3879,f3880,f3881,f3882,f3883,f3884,f3885,f3886,f3887,f3888,f3889,f3890,f3891,rfl,rfl,le3868,(hS3901.pick [1,2,3,4,5,6,7,8,9,10,11,12,0] _ (by decide) rfl),h3892,h3893,h3894,h3895,hr3900⟩
           refine zr (s:=gAx) (M:=fun σ_ w_=>∃ (U_:PHeap) (b3919:Nat) (o3920:Nat) (A3922:Option Addr) (c3923:Nat) (b3924:Nat) (o3925:Nat) (A3927:Option Addr) (c3928:Nat) (A3929:Option Addr) (c3930:Nat) (cs3931:List Value),σ_ 23=.pointer (some ⟨b347,0,none⟩)/\σ_ 24=.pointer (some ⟨b360,0,none⟩)/\σ_ 25=.pointer (some ⟨b370,0,none⟩)/\σ_ 29=jV (gd x2746 k2800)/\σ_ 151=.slice A2757 x2746.length c2758/\σ_ 152=jV (↑x2746.length:Int)/\σ_ 153=jV (↑k2800:Int)/\σ_ 157=.pointer (some ⟨b370,1,none⟩)/\σ_ 158=.slice A2792 l2791.length c2793/\σ_ 159=.pointer (some ⟨b347,1,none⟩)/\σ_ 160=.slice A354 l353.length c355/\σ_ 161=jV (gd x2746 k2800)/\σ_ 162=.pointer (some ⟨b3919,o3920,none⟩)/\σ_ 163=jV x2834/\σ_ 166=.pointer (some ⟨b370,2,none⟩)/\σ_ 167=.slice A2796 l2795.length c2797/\σ_ 168=.pointer (some ⟨b347,2,none⟩)/\σ_ 169=.slice A357 l356.length c358/\σ_ 170=jV (gd x2746 k2800)/\σ_ 171=.pointer (some ⟨b3924,o3925,none⟩)/\σ_ 172=.slice A3927 x2857.length c3928/\σ_ 173=.slice A3929 ([x2857].length) c3930/\PHeap.Le U2818 U_/\sW w U U_ [B33,B27,B18,.row A363 c364 3 1 (nA KL.encI l362),.row A366 c367 22 1 (nA wBX hs368),inn 3 1 KL.encI hs368 y2610,B32,.row A2792 c2793 3 1 (nA KL.encI l2791),B36,B35,.row A2757 c2758 3 1 (nA KL.encI x2746),.row A3929 c3930 22 1 cs3931] w_/\Cl U_ b3919 o3920 [jV x2834]/\Sl U_ 1 A3922 c3923 x2857.length (nA KL.encI x2857)/\Cl U_ b3924 o3925 [.slice A3922 x2857.length c3923]/\Sl U_ 1 A3927 c3928 x2857.length (nA KL.encI x2857)/\RlL U_ wBH [x2857] cs3931) ?_ fun ko3932=>?_
           ·rintro σ3933 W3934 ⟨U3935,b3919,o3920,A3922,c3923,b3924,o3925,A3927,c3928,A3929,c3930,cs3931,f3938,f3939,f3940,f3941,f3942,f3943,f3944,f3945,f3946,f3947,f3948,f3949,f3950,f3951,f3952,f3953,f3954,f3955,f3956,f3957,f3958,f3959,le3936,hS3937,h3960,h3961,h3962,h3963,h3964⟩
            refine zU (pv:=[(0,jV x2834)]) (zs:=[jV 0]) (cs:=[jV x2834]) Z Z Z Z Z (wAH f3951 wAQ) zA zB zt Z Z Z Z Z hS3937 ?_
            intro W3965 b3966 hS3967
            have hS3969:sW w U U3935 [.row (some ⟨b3966,0,none⟩) 1 3 1 (nA KL.encI [x2834]),B33,B27,B18,B29,B28,inn 3 1 KL.encI hs368 y2610,B32,.row A2792 c2793 3 1 (nA KL.encI l2791),B36,B35,B34,.row A3929 c3930 22 1 cs3931] W3965:=hS3967
            exact ko3727 _ _ ⟨U3935,b3919,o3920,(some ⟨b3966,0,none⟩),1,A3922,c3923,b3924,o3925,A3927,c3928,A3929,c3930,cs3931,f3938,f3939,f3940,f3941,f3942,f3943,f3944,f3945,f3946,f3947,f3948,f3949,f3950,f3951,rfl,f3952,f3953,f3954,f3955,f3956,f3957,f3958,f3959,le3936,(hS3969.pick [1,2,3,4,5,6,7,8,9,10,11,0,12] _ (by decide) rfl),h3960,h3961,h3962,h3963,h3964⟩
           refine zr (s:=gBa) (M:=fun σ_ w_=>∃ (U_:PHeap) (b3985:Nat) (o3986:Nat) (A3987:Option Addr) (c3988:Nat) (A3990:Option Addr) (c3991:Nat) (b3992:Nat) (o3993:Nat) (A3995:Option Addr) (c3996:Nat) (A3997:Option Addr) (c3998:Nat) (cs3999:List Value),σ_ 23=.pointer (some ⟨b347,0,none⟩)/\σ_ 24=.pointer (some ⟨b360,0,none⟩)/\σ_ 25=.pointer (some ⟨b370,0,none⟩)/\σ_ 29=jV (gd x2746 k2800)/\σ_ 151=.slice A2757 x2746.length c2758/\σ_ 152=jV (↑x2746.length:Int)/\σ_ 153=jV (↑k2800:Int)/\σ_ 157=.pointer (some ⟨b370,1,none⟩)/\σ_ 158=.slice A2792 l2791.length c2793/\σ_ 159=.pointer (some ⟨b347,1,none⟩)/\σ_ 160=.slice A354 l353.length c355/\σ_ 161=jV (gd x2746 k2800)/\σ_ 162=.pointer (some ⟨b3985,o3986,none⟩)/\σ_ 163=jV x2834/\σ_ 164=.slice A3987 ([x2834].length) c3988/\σ_ 166=.pointer (some ⟨b370,2,none⟩)/\σ_ 168=.pointer (some ⟨b347,2,none⟩)/\σ_ 169=.slice A357 l356.length c358/\σ_ 170=jV (gd x2746 k2800)/\σ_ 171=.pointer (some ⟨b3992,o3993,none⟩)/\σ_ 172=.slice A3995 x2857.length c3996/\σ_ 173=.slice A3997 ([x2857].length) c3998/\PHeap.Le U2818 U_/\sW w U U_ [B33,B27,B18,.row A363 c364 3 1 (nA KL.encI l362),.row A366 c367 22 1 (nA wBX hs368),inn 3 1 KL.encI hs368 y2610,B32,.row A2792 c2793 3 1 (nA KL.encI l2791),B36,B35,.row A2757 c2758 3 1 (nA KL.encI x2746),.row A3987 c3988 3 1 (nA KL.encI [x2834]),.row A3997 c3998 22 1 cs3999] w_/\Cl U_ b3985 o3986 [jV x2834]/\Sl U_ 1 A3990 c3991 x2857.length (nA KL.encI x2857)/\Cl U_ b3992 o3993 [.slice A3990 x2857.length c3991]/\Sl U_ 1 A3995 c3996 x2857.length (nA KL.encI x2857)/\RlL U_ wBH [x2857] cs3999) ?_ fun ko4000=>?_
           ·rintro σ4001 W4002 ⟨U4003,b3985,o3986,A3987,c3988,A3990,c3991,b3992,o3993,A3995,c3996,A3997,c3998,cs3999,f4006,f4007,f4008,f4009,f4010,f4011,f4012,f4013,f4014,f4015,f4016,f4017,f4018,f4019,f4020,f4021,f4022,f4023,f4024,f4025,f4026,f4027,le4004,hS4005,h4028,h4029,h4030,h4031,h4032⟩
            refine zj ?_ ?_
            ·refine ZO (j:=7) (enc:=KL.encI) (xs:=l2791) (ys:=[x2834]) (zs:=x2849) rfl rfl rfl rfl rfl zu wCc rfl rfl rfl rfl rfl rfl hS4005 rfl f4014 f4020 (hS4005.srcR (j:=11) rfl (by decide) (wAB (f:=KL.encI) (sz:=1) (fun _=>rfl) [x2834])) (fun _=>rfl) (fun _=>rfl) h2850 rfl ?_
             intro A4033 c4034 W4035 hS4036
             have hS4037:sW w U U4003 [B33,B27,B18,B29,B28,inn 3 1 KL.encI hs368 y2610,B32,.row A4033 c4034 3 1 (nA KL.encI x2849),B36,B35,B34,.row A3987 c3988 3 1 (nA KL.encI [x2834]),.row A3997 c3998 22 1 cs3999] W4035:=hS4036
             exact ko3800 _ _ ⟨U4003,b3985,o3986,A3987,c3988,A4033,c4034,A3990,c3991,b3992,o3993,A3995,c3996,A3997,c3998,cs3999,f4006,f4007,f4008,f4009,f4010,f4011,f4012,f4013,f4015,f4016,f4017,f4018,f4019,f4020,rfl,f4021,f4022,f4023,f4024,f4025,f4026,f4027,le4004,(hS4037.pick [0,1,2,3,4,5,6,8,9,10,11,7,12] _ (by decide) rfl),h4028,h4029,h4030,h4031,h4032⟩
            ·exact ZH Z Z Z Z (hS4005.ldB (j:=9) Z Z f4021 zq (v:=.slice A2796 l2795.length c2797) Z) (ko3727 _ _ ⟨U4003,b3985,o3986,A3987,c3988,A3990,c3991,b3992,o3993,A3995,c3996,A3997,c3998,cs3999,f4006,f4007,f4008,f4009,f4010,f4011,f4012,f4013,f4014,f4015,f4016,f4017,f4018,f4019,f4020,f4021,Z,f4022,f4023,f4024,f4025,f4026,f4027,le4004,hS4005,h4028,h4029,h4030,h4031,h4032⟩)
           let B39:Res:=.row A2792 c2793 3 1 (nA KL.encI l2791)
           refine zr (s:=gAz) (M:=fun σ_ w_=>∃ (U_:PHeap) (b4070:Nat) (o4071:Nat) (A4072:Option Addr) (c4073:Nat) (A4075:Option Addr) (c4076:Nat) (b4077:Nat) (o4078:Nat) (A4080:Option Addr) (c4081:Nat),σ_ 23=.pointer (some ⟨b347,0,none⟩)/\σ_ 24=.pointer (some ⟨b360,0,none⟩)/\σ_ 25=.pointer (some ⟨b370,0,none⟩)/\σ_ 29=jV (gd x2746 k2800)/\σ_ 151=.slice A2757 x2746.length c2758/\σ_ 152=jV (↑x2746.length:Int)/\σ_ 153=jV (↑k2800:Int)/\σ_ 157=.pointer (some ⟨b370,1,none⟩)/\σ_ 158=.slice A2792 l2791.length c2793/\σ_ 159=.pointer (some ⟨b347,1,none⟩)/\σ_ 160=.slice A354 l353.length c355/\σ_ 161=jV (gd x2746 k2800)/\σ_ 162=.pointer (some ⟨b4070,o4071,none⟩)/\σ_ 163=jV x2834/\σ_ 164=.slice A4072 ([x2834].length) c4073/\σ_ 166=.pointer (some ⟨b370,2,none⟩)/\σ_ 167=.slice A2796 l2795.length c2797/\σ_ 168=.pointer (some ⟨b347,2,none⟩)/\σ_ 169=.slice A357 l356.length c358/\σ_ 170=jV (gd x2746 k2800)/\σ_ 171=.pointer (some ⟨b4077,o4078,none⟩)/\σ_ 172=.slice A4080 x2857.length c4081/\PHeap.Le U2818 U_/\sW w U U_ [B33,B27,B18,B29,B28,inn 3 1 KL.encI hs368 y2610,B32,B39,B36,B35,B34,.row A4072 c4073 3 1 (nA KL.encI [x2834])] w_/\Cl U_ b4070 o4071 [jV x2834]/\Sl U_ 1 A4075 c4076 x2857.length (nA KL.encI x2857)/\Cl U_ b4077 o4078 [.slice A4075 x2857.length c4076]/\Sl U_ 1 A4080 c4081 x2857.length (nA KL.encI x2857)) ?_ fun ko4082=>?_
           ·rintro σ4083 W4084 ⟨U4085,b4070,o4071,A4072,c4073,A4075,c4076,b4077,o4078,A4080,c4081,f4088,f4089,f4090,f4091,f4092,f4093,f4094,f4095,f4096,f4097,f4098,f4099,f4100,f4101,f4102,f4103,f4104,f4105,f4106,f4107,f4108,f4109,le4086,hS4087,h4110,h4111,h4112,h4113⟩
            refine zj ?_ ?_
            ·refine ZO (j:=7) (enc:=KL.encI) (xs:=l2791) (ys:=[x2834]) (zs:=x2849) rfl rfl rfl rfl rfl zu wCc rfl rfl rfl rfl rfl rfl hS4087 rfl f4096 f4102 (hS4087.srcR (j:=11) rfl (by decide) (wAB (f:=KL.encI) (sz:=1) (fun _=>rfl) [x2834])) (fun _=>rfl) (fun _=>rfl) h2850 rfl ?_
             intro A4114 c4115 W4116 hS4117
             have hS4118:sW w U U4085 [B33,B27,B18,B29,B28,inn 3 1 KL.encI hs368 y2610,B32,.row A4114 c4115 3 1 (nA KL.encI x2849),B36,B35,B34,.row A4072 c4073 3 1 (nA KL.encI [x2834])] W4116:=hS4117
             exact ko3864 _ _ ⟨U4085,b4070,o4071,A4072,c4073,A4114,c4115,A4075,c4076,b4077,o4078,A4080,c4081,f4088,f4089,f4090,f4091,f4092,f4093,f4094,f4095,f4097,f4098,f4099,f4100,f4101,f4102,rfl,f4103,f4104,f4105,f4106,f4107,f4108,f4109,le4086,(hS4118.pick [0,1,2,3,4,5,6,8,9,10,11,7] _ (by decide) rfl),h4110,h4111,h4112,h4113⟩
            ·let B40:List Value:=[.slice A4080 x2857.length c4081]
             refine zU (pv:=[(0,.slice A4080 x2857.length c4081)]) (zs:=[.slice none 0 0]) (cs:=B40) Z Z Z Z Z (wAH f4109 wAQ) zO zN ZP Z Z Z Z Z hS4087 ?_
             intro W4133 b4134 hS4135
             have hr4137:RlL U4085 wBH [x2857] B40:=(RlL.cons (R:=wBH) (x:=x2857) (vs:=B40) ⟨A4080,c4081,rfl,h4113⟩ RlL.nil)
             have hS4138:sW w U U4085 [.row (some ⟨b4134,0,none⟩) 1 22 1 B40,B33,B27,B18,B29,B28,inn 3 1 KL.encI hs368 y2610,B32,B39,B36,B35,B34,.row A4072 c4073 3 1 (nA KL.encI [x2834])] W4133:=hS4135
             exact ko3727 _ _ ⟨U4085,b4070,o4071,A4072,c4073,A4075,c4076,b4077,o4078,A4080,c4081,(some ⟨b4134,0,none⟩),1,B40,f4088,f4089,f4090,f4091,f4092,f4093,f4094,f4095,f4096,f4097,f4098,f4099,f4100,f4101,f4102,f4103,f4104,f4105,f4106,f4107,f4108,f4109,rfl,le4086,(hS4138.pick [1,2,3,4,5,6,7,8,9,10,11,12,0] _ (by decide) rfl),h4110,h4111,h4112,h4113,hr4137⟩
           refine zr (s:=gAy) (M:=fun σ_ w_=>∃ (U_:PHeap) (b4154:Nat) (o4155:Nat) (A4156:Option Addr) (c4157:Nat) (A4158:Option Addr) (c4159:Nat) (A4161:Option Addr) (c4162:Nat) (b4163:Nat) (o4164:Nat) (A4166:Option Addr) (c4167:Nat),σ_ 23=.pointer (some ⟨b347,0,none⟩)/\σ_ 24=.pointer (some ⟨b360,0,none⟩)/\σ_ 25=.pointer (some ⟨b370,0,none⟩)/\σ_ 29=jV (gd x2746 k2800)/\σ_ 151=.slice A2757 x2746.length c2758/\σ_ 152=jV (↑x2746.length:Int)/\σ_ 153=jV (↑k2800:Int)/\σ_ 157=.pointer (some ⟨b370,1,none⟩)/\σ_ 159=.pointer (some ⟨b347,1,none⟩)/\σ_ 160=.slice A354 l353.length c355/\σ_ 161=jV (gd x2746 k2800)/\σ_ 162=.pointer (some ⟨b4154,o4155,none⟩)/\σ_ 163=jV x2834/\σ_ 164=.slice A4156 ([x2834].length) c4157/\σ_ 165=.slice A4158 x2849.length c4159/\σ_ 166=.pointer (some ⟨b370,2,none⟩)/\σ_ 168=.pointer (some ⟨b347,2,none⟩)/\σ_ 169=.slice A357 l356.length c358/\σ_ 170=jV (gd x2746 k2800)/\σ_ 171=.pointer (some ⟨b4163,o4164,none⟩)/\σ_ 172=.slice A4166 x2857.length c4167/\PHeap.Le U2818 U_/\sW w U U_ [B33,B27,B18,B29,B28,inn 3 1 KL.encI hs368 y2610,B32,B36,B35,B34,.row A4156 c4157 3 1 (nA KL.encI [x2834]),.row A4158 c4159 3 1 (nA KL.encI x2849)] w_/\Cl U_ b4154 o4155 [jV x2834]/\Sl U_ 1 A4161 c4162 x2857.length (nA KL.encI x2857)/\Cl U_ b4163 o4164 [.slice A4161 x2857.length c4162]/\Sl U_ 1 A4166 c4167 x2857.length (nA KL.encI x2857)) ?_ fun ko4168=>?_
           ·rintro σ4169 W4170 ⟨U4171,b4154,o4155,A4156,c4157,A4158,c4159,A4161,c4162,b4163,o4164,A4166,c4167,f4174,f4175,f4176,f4177,f4178,f4179,f4180,f4181,f4182,f4183,f4184,f4185,f4186,f4187,f4188,f4189,f4190,f4191,f4192,f4193,f4194,le4172,hS4173,h4195,h4196,h4197,h4198⟩
            refine zj ?_ ?_
            ·exact ZH Z Z Z Z (hS4173.ldB (j:=8) Z Z f4189 zq (v:=.slice A2796 l2795.length c2797) Z) (ko3864 _ _ ⟨U4171,b4154,o4155,A4156,c4157,A4158,c4159,A4161,c4162,b4163,o4164,A4166,c4167,f4174,f4175,f4176,f4177,f4178,f4179,f4180,f4181,f4182,f4183,f4184,f4185,f4186,f4187,f4188,f4189,Z,f4190,f4191,f4192,f4193,f4194,le4172,hS4173,h4195,h4196,h4197,h4198⟩)
            ·let B41:List Value:=[.slice A4166 x2857.length c4167]
             refine zU (pv:=[(0,.slice A4166 x2857.length c4167)]) (zs:=[.slice none 0 0]) (cs:=B41) Z Z Z Z Z (wAH f4194 wAQ) zO zN ZP Z Z Z Z Z hS4173 ?_
             intro W4213 b4214 hS4215
             have hr4217:RlL U4171 wBH [x2857] B41:=(RlL.cons (R:=wBH) (x:=x2857) (vs:=B41) ⟨A4166,c4167,rfl,h4198⟩ RlL.nil)
             have hS4218:sW w U U4171 [.row (some ⟨b4214,0,none⟩) 1 22 1 B41,B33,B27,B18,B29,B28,inn 3 1 KL.encI hs368 y2610,B32,B36,B35,B34,.row A4156 c4157 3 1 (nA KL.encI [x2834]),.row A4158 c4159 3 1 (nA KL.encI x2849)] W4213:=hS4215
             exact ko3800 _ _ ⟨U4171,b4154,o4155,A4156,c4157,A4158,c4159,A4161,c4162,b4163,o4164,A4166,c4167,(some ⟨b4214,0,none⟩),1,B41,f4174,f4175,f4176,f4177,f4178,f4179,f4180,f4181,f4182,f4183,f4184,f4185,f4186,f4187,f4188,f4189,f4190,f4191,f4192,f4193,f4194,rfl,le4172,(hS4218.pick [1,2,3,4,5,6,7,8,9,10,11,12,0] _ (by decide) rfl),h4195,h4196,h4197,h4198,hr4217⟩
           refine zr (s:=.fl 18 gAs) (M:=fun σ_ w_=>∃ (U_:PHeap) (b4236:Nat) (o4237:Nat) (A4238:Option Addr) (c4239:Nat) (A4240:Option Addr) (c4241:Nat) (A4243:Option Addr) (c4244:Nat) (b4245:Nat) (o4246:Nat),σ_ 23=.pointer (some ⟨b347,0,none⟩)/\σ_ 24=.pointer (some ⟨b360,0,none⟩)/\σ_ 25=.pointer (some ⟨b370,0,none⟩)/\σ_ 29=jV (gd x2746 k2800)/\σ_ 151=.slice A2757 x2746.length c2758/\σ_ 152=jV (↑x2746.length:Int)/\σ_ 153=jV (↑k2800:Int)/\σ_ 157=.pointer (some ⟨b370,1,none⟩)/\σ_ 159=.pointer (some ⟨b347,1,none⟩)/\σ_ 160=.slice A354 l353.length c355/\σ_ 161=jV (gd x2746 k2800)/\σ_ 162=.pointer (some ⟨b4236,o4237,none⟩)/\σ_ 163=jV x2834/\σ_ 164=.slice A4238 ([x2834].length) c4239/\σ_ 165=.slice A4240 x2849.length c4241/\σ_ 166=.pointer (some ⟨b370,2,none⟩)/\σ_ 167=.slice A2796 l2795.length c2797/\σ_ 168=.pointer (some ⟨b347,2,none⟩)/\σ_ 169=.slice A357 l356.length c358/\σ_ 170=jV (gd x2746 k2800)/\σ_ 171=.pointer (some ⟨b4245,o4246,none⟩)/\PHeap.Le U2818 U_/\sW w U U_ [B33,B27,B18,B29,B28,inn 3 1 KL.encI hs368 y2610,B32,B36,B35,B34,.row A4238 c4239 3 1 (nA KL.encI [x2834]),.row A4240 c4241 3 1 (nA KL.encI x2849)] w_/\Cl U_ b4236 o4237 [jV x2834]/\Sl U_ 1 A4243 c4244 x2857.length (nA KL.encI x2857)/\Cl U_ b4245 o4246 [.slice A4243 x2857.length c4244]) ?_ fun ko4247=>?_
           ·rintro σ4248 W4249 ⟨U4250,b4236,o4237,A4238,c4239,A4240,c4241,A4243,c4244,b4245,o4246,f4253,f4254,f4255,f4256,f4257,f4258,f4259,f4260,f4261,f4262,f4263,f4264,f4265,f4266,f4267,f4268,f4269,f4270,f4271,f4272,f4273,le4251,hS4252,h4274,h4275,h4276⟩
            exact oR Z (zX Z f4255 zM Z zN) (ZH Z Z Z Z (hS4252.ldC (f:=0) h4276 (v:=.slice A4243 x2857.length c4244) Z f4273 zn Z) (ko3656 _ _ ⟨U4250,b4236,o4237,A4238,c4239,A4240,c4241,A4243,c4244,b4245,o4246,A4243,c4244,f4253,f4254,f4255,f4256,f4257,f4258,f4259,f4260,f4261,f4262,f4263,f4264,f4265,f4266,f4267,f4268,f4269,f4270,f4271,f4272,f4273,Z,Z,le4251,hS4252,h4274,h4275,h4276,h4275⟩))
           refine zr (s:=.fl 14 gAs) (M:=fun σ_ w_=>∃ (U_:PHeap) (b4291:Nat) (o4292:Nat) (A4293:Option Addr) (c4294:Nat) (A4295:Option Addr) (c4296:Nat),σ_ 23=.pointer (some ⟨b347,0,none⟩)/\σ_ 24=.pointer (some ⟨b360,0,none⟩)/\σ_ 25=.pointer (some ⟨b370,0,none⟩)/\σ_ 29=jV (gd x2746 k2800)/\σ_ 151=.slice A2757 x2746.length c2758/\σ_ 152=jV (↑x2746.length:Int)/\σ_ 153=jV (↑k2800:Int)/\σ_ 157=.pointer (some ⟨b370,1,none⟩)/\σ_ 159=.pointer (some ⟨b347,1,none⟩)/\σ_ 160=.slice A354 l353.length c355/\σ_ 161=jV (gd x2746 k2800)/\σ_ 162=.pointer (some ⟨b4291,o4292,none⟩)/\σ_ 163=jV x2834/\σ_ 164=.slice A4293 ([x2834].length) c4294/\σ_ 165=.slice A4295 x2849.length c4296/\σ_ 166=.pointer (some ⟨b370,2,none⟩)/\σ_ 167=.slice A2796 l2795.length c2797/\σ_ 168=.pointer (some ⟨b347,2,none⟩)/\σ_ 169=.slice A357 l356.length c358/\σ_ 170=jV (gd x2746 k2800)/\σ_ 175=.pointer (some ⟨b370,1,none⟩)/\PHeap.Le U2818 U_/\sW w U U_ [B33,B27,B18,B29,B28,inn 3 1 KL.encI hs368 y2610,B32,B36,B35,B34,.row A4293 c4294 3 1 (nA KL.encI [x2834]),.row A4295 c4296 3 1 (nA KL.encI x2849)] w_/\Cl U_ b4291 o4292 [jV x2834]) ?_ fun ko4297=>?_
           ·rintro σ4298 W4299 ⟨U4300,b4291,o4292,A4293,c4294,A4295,c4296,f4303,f4304,f4305,f4306,f4307,f4308,f4309,f4310,f4311,f4312,f4313,f4314,f4315,f4316,f4317,f4318,f4319,f4320,f4321,f4322,f4323,le4301,hS4302,h4324⟩
            have h4325:=h2598.le le2725
            have h4326:=h4325.le le2755
            have h4327:=h4326.le le2819
            have h4328:=h4327.le le4301
            have q:=h4328.el (wAZ h2858)
            obtain ⟨b4329,off4330,vs4333,hA4331,hC4332,hr4334⟩:=q
            obtain ⟨pA4335,pc4336,rfl,h4337⟩:=hr4334
            replace hC4332:Cl U4300 b4329 (off4330 + (gd x2746 k2800).toNat * 1) [.slice pA4335 x2857.length pc4336]:=hC4332
            exact oR Z (ZS Z f4321 hA4331 f4322 zO zN (wCC h2858) (wCG h2858)) (ZH Z Z Z Z (hS4302.ldC (f:=0) hC4332 (v:=.slice pA4335 x2857.length pc4336) Z Z zn Z) (ko3656 _ _ ⟨U4300,b4291,o4292,A4293,c4294,A4295,c4296,pA4335,pc4336,b4329,off4330 + (gd x2746 k2800).toNat * 1,pA4335,pc4336,f4303,f4304,f4305,f4306,f4307,f4308,f4309,f4310,f4311,f4312,f4313,f4314,f4315,f4316,f4317,f4318,f4319,f4320,f4321,f4322,Z,Z,f4323,le4301,hS4302,h4324,h4337,hC4332,h4337⟩))
           refine zr (s:=gBc) (M:=fun σ_ w_=>∃ (U_:PHeap) (b4352:Nat) (o4353:Nat) (A4355:Option Addr) (c4356:Nat) (b4357:Nat) (o4358:Nat) (A4360:Option Addr) (c4361:Nat),σ_ 23=.pointer (some ⟨b347,0,none⟩)/\σ_ 24=.pointer (some ⟨b360,0,none⟩)/\σ_ 25=.pointer (some ⟨b370,0,none⟩)/\σ_ 29=jV (gd x2746 k2800)/\σ_ 151=.slice A2757 x2746.length c2758/\σ_ 152=jV (↑x2746.length:Int)/\σ_ 153=jV (↑k2800:Int)/\σ_ 157=.pointer (some ⟨b370,1,none⟩)/\σ_ 158=.slice A2792 l2791.length c2793/\σ_ 159=.pointer (some ⟨b347,1,none⟩)/\σ_ 160=.slice A354 l353.length c355/\σ_ 161=jV (gd x2746 k2800)/\σ_ 162=.pointer (some ⟨b4352,o4353,none⟩)/\σ_ 163=jV x2834/\σ_ 166=.pointer (some ⟨b370,2,none⟩)/\σ_ 167=.slice A2796 l2795.length c2797/\σ_ 168=.pointer (some ⟨b347,2,none⟩)/\σ_ 169=.slice A357 l356.length c358/\σ_ 170=jV (gd x2746 k2800)/\σ_ 171=.pointer (some ⟨b4357,o4358,none⟩)/\σ_ 172=.slice A4360 x2857.length c4361/\PHeap.Le U2818 U_/\sW w U U_ [B33,B27,B18,B29,B28,inn 3 1 KL.encI hs368 y2610,B32,B39,B36,B35,B34] w_/\Cl U_ b4352 o4353 [jV x2834]/\Sl U_ 1 A4355 c4356 x2857.length (nA KL.encI x2857)/\Cl U_ b4357 o4358 [.slice A4355 x2857.length c4356]/\Sl U_ 1 A4360 c4361 x2857.length (nA KL.encI x2857)) ?_ fun ko4362=>?_
           ·rintro σ4363 W4364 ⟨U4365,b4352,o4353,A4355,c4356,b4357,o4358,A4360,c4361,f4368,f4369,f4370,f4371,f4372,f4373,f4374,f4375,f4376,f4377,f4378,f4379,f4380,f4381,f4382,f4383,f4384,f4385,f4386,f4387,f4388,le4366,hS4367,h4389,h4390,h4391,h4392⟩
            refine zj ?_ ?_
            ·refine zU (pv:=[(0,jV x2834)]) (zs:=[jV 0]) (cs:=[jV x2834]) Z Z Z Z Z (wAH f4381 wAQ) zA zB zt Z Z Z Z Z hS4367 ?_
             intro W4393 b4394 hS4395
             have hS4397:sW w U U4365 [.row (some ⟨b4394,0,none⟩) 1 3 1 (nA KL.encI [x2834]),B33,B27,B18,B29,B28,inn 3 1 KL.encI hs368 y2610,B32,B39,B36,B35,B34] W4393:=hS4395
             exact ko4082 _ _ ⟨U4365,b4352,o4353,(some ⟨b4394,0,none⟩),1,A4355,c4356,b4357,o4358,A4360,c4361,f4368,f4369,f4370,f4371,f4372,f4373,f4374,f4375,f4376,f4377,f4378,f4379,f4380,f4381,rfl,f4382,f4383,f4384,f4385,f4386,f4387,f4388,le4366,(hS4397.pick [1,2,3,4,5,6,7,8,9,10,11,0] _ (by decide) rfl),h4389,h4390,h4391,h4392⟩
            ·let B42:List Value:=[.slice A4360 x2857.length c4361]
             refine zU (pv:=[(0,.slice A4360 x2857.length c4361)]) (zs:=[.slice none 0 0]) (cs:=B42) Z Z Z Z Z (wAH f4388 wAQ) zO zN ZP Z Z Z Z Z hS4367 ?_
             intro W4410 b4411 hS4412
             have hr4414:RlL U4365 wBH [x2857] B42:=(RlL.cons (R:=wBH) (x:=x2857) (vs:=B42) ⟨A4360,c4361,rfl,h4392⟩ RlL.nil)
             have hS4415:sW w U U4365 [.row (some ⟨b4411,0,none⟩) 1 22 1 B42,B33,B27,B18,B29,B28,inn 3 1 KL.encI hs368 y2610,B32,B39,B36,B35,B34] W4410:=hS4412
             exact ko3932 _ _ ⟨U4365,b4352,o4353,A4355,c4356,b4357,o4358,A4360,c4361,(some ⟨b4411,0,none⟩),1,B42,f4368,f4369,f4370,f4371,f4372,f4373,f4374,f4375,f4376,f4377,f4378,f4379,f4380,f4381,f4382,f4383,f4384,f4385,f4386,f4387,f4388,rfl,le4366,(hS4415.pick [1,2,3,4,5,6,7,8,9,10,11,0] _ (by decide) rfl),h4389,h4390,h4391,h4392,hr4414⟩
           refine zr (s:=gBf) (M:=fun σ_ w_=>∃ (U_:PHeap) (b4429:Nat) (o4430:Nat) (A4431:Option Addr) (c4432:Nat) (A4434:Option Addr) (c4435:Nat) (b4436:Nat) (o4437:Nat) (A4439:Option Addr) (c4440:Nat),σ_ 23=.pointer (some ⟨b347,0,none⟩)/\σ_ 24=.pointer (some ⟨b360,0,none⟩)/\σ_ 25=.pointer (some ⟨b370,0,none⟩)/\σ_ 29=jV (gd x2746 k2800)/\σ_ 151=.slice A2757 x2746.length c2758/\σ_ 152=jV (↑x2746.length:Int)/\σ_ 153=jV (↑k2800:Int)/\σ_ 157=.pointer (some ⟨b370,1,none⟩)/\σ_ 158=.slice A2792 l2791.length c2793/\σ_ 159=.pointer (some ⟨b347,1,none⟩)/\σ_ 160=.slice A354 l353.length c355/\σ_ 161=jV (gd x2746 k2800)/\σ_ 162=.pointer (some ⟨b4429,o4430,none⟩)/\σ_ 163=jV x2834/\σ_ 164=.slice A4431 ([x2834].length) c4432/\σ_ 166=.pointer (some ⟨b370,2,none⟩)/\σ_ 168=.pointer (some ⟨b347,2,none⟩)/\σ_ 169=.slice A357 l356.length c358/\σ_ 170=jV (gd x2746 k2800)/\σ_ 171=.pointer (some ⟨b4436,o4437,none⟩)/\σ_ 172=.slice A4439 x2857.length c4440/\PHeap.Le U2818 U_/\sW w U U_ [B33,B27,B18,B29,B28,inn 3 1 KL.encI hs368 y2610,B32,B39,B36,B35,B34,.row A4431 c4432 3 1 (nA KL.encI [x2834])] w_/\Cl U_ b4429 o4430 [jV x2834]/\Sl U_ 1 A4434 c4435 x2857.length (nA KL.encI x2857)/\Cl U_ b4436 o4437 [.slice A4434 x2857.length c4435]/\Sl U_ 1 A4439 c4440 x2857.length (nA KL.encI x2857)) ?_ fun ko4441=>?_
           ·rintro σ4442 W4443 ⟨U4444,b4429,o4430,A4431,c4432,A4434,c4435,b4436,o4437,A4439,c4440,f4447,f4448,f4449,f4450,f4451,f4452,f4453,f4454,f4455,f4456,f4457,f4458,f4459,f4460,f4461,f4462,f4463,f4464,f4465,f4466,f4467,le4445,hS4446,h4468,h4469,h4470,h4471⟩
            refine zj ?_ ?_
            ·refine ZO (j:=7) (enc:=KL.encI) (xs:=l2791) (ys:=[x2834]) (zs:=x2849) rfl rfl rfl rfl rfl zu wCc rfl rfl rfl rfl rfl rfl hS4446 rfl f4455 f4461 (hS4446.srcR (j:=11) rfl (by decide) (wAB (f:=KL.encI) (sz:=1) (fun _=>rfl) [x2834])) (fun _=>rfl) (fun _=>rfl) h2850 rfl ?_
             intro A4472 c4473 W4474 hS4475
             have hS4476:sW w U U4444 [B33,B27,B18,B29,B28,inn 3 1 KL.encI hs368 y2610,B32,.row A4472 c4473 3 1 (nA KL.encI x2849),B36,B35,B34,.row A4431 c4432 3 1 (nA KL.encI [x2834])] W4474:=hS4475
             exact ko4168 _ _ ⟨U4444,b4429,o4430,A4431,c4432,A4472,c4473,A4434,c4435,b4436,o4437,A4439,c4440,f4447,f4448,f4449,f4450,f4451,f4452,f4453,f4454,f4456,f4457,f4458,f4459,f4460,f4461,rfl,f4462,f4463,f4464,f4465,f4466,f4467,le4445,(hS4476.pick [0,1,2,3,4,5,6,8,9,10,11,7] _ (by decide) rfl),h4468,h4469,h4470,h4471⟩
            refine zj ?_ ?_
            ·exact ZH Z Z Z Z (hS4446.ldB (j:=9) Z Z f4462 zq (v:=.slice A2796 l2795.length c2797) Z) (ko4082 _ _ ⟨U4444,b4429,o4430,A4431,c4432,A4434,c4435,b4436,o4437,A4439,c4440,f4447,f4448,f4449,f4450,f4451,f4452,f4453,f4454,f4455,f4456,f4457,f4458,f4459,f4460,f4461,f4462,Z,f4463,f4464,f4465,f4466,f4467,le4445,hS4446,h4468,h4469,h4470,h4471⟩)
            ·let B43:List Value:=[.slice A4439 x2857.length c4440]
             refine zU (pv:=[(0,.slice A4439 x2857.length c4440)]) (zs:=[.slice none 0 0]) (cs:=B43) Z Z Z Z Z (wAH f4467 wAQ) zO zN ZP Z Z Z Z Z hS4446 ?_
             intro W4503 b4504 hS4505
             have hr4507:RlL U4444 wBH [x2857] B43:=(RlL.cons (R:=wBH) (x:=x2857) (vs:=B43) ⟨A4439,c4440,rfl,h4471⟩ RlL.nil)
             have hS4508:sW w U U4444 [.row (some ⟨b4504,0,none⟩) 1 22 1 B43,B33,B27,B18,B29,B28,inn 3 1 KL.encI hs368 y2610,B32,B39,B36,B35,B34,.row A4431 c4432 3 1 (nA KL.encI [x2834])] W4503:=hS4505
             exact ko4000 _ _ ⟨U4444,b4429,o4430,A4431,c4432,A4434,c4435,b4436,o4437,A4439,c4440,(some ⟨b4504,0,none⟩),1,B43,f4447,f4448,f4449,f4450,f4451,f4452,f4453,f4454,f4455,f4456,f4457,f4458,f4459,f4460,f4461,f4462,f4463,f4464,f4465,f4466,f4467,rfl,le4445,(hS4508.pick [1,2,3,4,5,6,7,8,9,10,11,12,0] _ (by decide) rfl),h4468,h4469,h4470,h4471,hr4507⟩
           refine zr (s:=gBe) (M:=fun σ_ w_=>∃ (U_:PHeap) (b4524:Nat) (o4525:Nat) (A4526:Option Addr) (c4527:Nat) (A4529:Option Addr) (c4530:Nat) (b4531:Nat) (o4532:Nat),σ_ 23=.pointer (some ⟨b347,0,none⟩)/\σ_ 24=.pointer (some ⟨b360,0,none⟩)/\σ_ 25=.pointer (some ⟨b370,0,none⟩)/\σ_ 29=jV (gd x2746 k2800)/\σ_ 151=.slice A2757 x2746.length c2758/\σ_ 152=jV (↑x2746.length:Int)/\σ_ 153=jV (↑k2800:Int)/\σ_ 157=.pointer (some ⟨b370,1,none⟩)/\σ_ 158=.slice A2792 l2791.length c2793/\σ_ 159=.pointer (some ⟨b347,1,none⟩)/\σ_ 160=.slice A354 l353.length c355/\σ_ 161=jV (gd x2746 k2800)/\σ_ 162=.pointer (some ⟨b4524,o4525,none⟩)/\σ_ 163=jV x2834/\σ_ 164=.slice A4526 ([x2834].length) c4527/\σ_ 166=.pointer (some ⟨b370,2,none⟩)/\σ_ 167=.slice A2796 l2795.length c2797/\σ_ 168=.pointer (some ⟨b347,2,none⟩)/\σ_ 169=.slice A357 l356.length c358/\σ_ 170=jV (gd x2746 k2800)/\σ_ 171=.pointer (some ⟨b4531,o4532,none⟩)/\PHeap.Le U2818 U_/\sW w U U_ [B33,B27,B18,B29,B28,inn 3 1 KL.encI hs368 y2610,B32,B39,B36,B35,B34,.row A4526 c4527 3 1 (nA KL.encI [x2834])] w_/\Cl U_ b4524 o4525 [jV x2834]/\Sl U_ 1 A4529 c4530 x2857.length (nA KL.encI x2857)/\Cl U_ b4531 o4532 [.slice A4529 x2857.length c4530]) ?_ fun ko4533=>?_
           ·rintro σ4534 W4535 ⟨U4536,b4524,o4525,A4526,c4527,A4529,c4530,b4531,o4532,f4539,f4540,f4541,f4542,f4543,f4544,f4545,f4546,f4547,f4548,f4549,f4550,f4551,f4552,f4553,f4554,f4555,f4556,f4557,f4558,f4559,le4537,hS4538,h4560,h4561,h4562⟩
            refine zj ?_ ?_
            ·refine ZO (j:=7) (enc:=KL.encI) (xs:=l2791) (ys:=[x2834]) (zs:=x2849) rfl rfl rfl rfl rfl zu wCc rfl rfl rfl rfl rfl rfl hS4538 rfl f4547 f4553 (hS4538.srcR (j:=11) rfl (by decide) (wAB (f:=KL.encI) (sz:=1) (fun _=>rfl) [x2834])) (fun _=>rfl) (fun _=>rfl) h2850 rfl ?_
             intro A4563 c4564 W4565 hS4566
             have hS4567:sW w U U4536 [B33,B27,B18,B29,B28,inn 3 1 KL.encI hs368 y2610,B32,.row A4563 c4564 3 1 (nA KL.encI x2849),B36,B35,B34,.row A4526 c4527 3 1 (nA KL.encI [x2834])] W4565:=hS4566
             exact ko4247 _ _ ⟨U4536,b4524,o4525,A4526,c4527,A4563,c4564,A4529,c4530,b4531,o4532,f4539,f4540,f4541,f4542,f4543,f4544,f4545,f4546,f4548,f4549,f4550,f4551,f4552,f4553,rfl,f4554,f4555,f4556,f4557,f4558,f4559,le4537,(hS4567.pick [0,1,2,3,4,5,6,8,9,10,11,7] _ (by decide) rfl),h4560,h4561,h4562⟩
            ·exact ZH Z Z Z Z (hS4538.ldC (f:=0) h4562 (v:=.slice A4529 x2857.length c4530) Z f4559 zn Z) (ko4082 _ _ ⟨U4536,b4524,o4525,A4526,c4527,A4529,c4530,b4531,o4532,A4529,c4530,f4539,f4540,f4541,f4542,f4543,f4544,f4545,f4546,f4547,f4548,f4549,f4550,f4551,f4552,f4553,f4554,f4555,f4556,f4557,f4558,f4559,Z,le4537,hS4538,h4560,h4561,h4562,h4561⟩)
           refine zr (s:=gBd) (M:=fun σ_ w_=>∃ (U_:PHeap) (b4591:Nat) (o4592:Nat) (A4593:Option Addr) (c4594:Nat) (A4595:Option Addr) (c4596:Nat) (A4598:Option Addr) (c4599:Nat) (b4600:Nat) (o4601:Nat),σ_ 23=.pointer (some ⟨b347,0,none⟩)/\σ_ 24=.pointer (some ⟨b360,0,none⟩)/\σ_ 25=.pointer (some ⟨b370,0,none⟩)/\σ_ 29=jV (gd x2746 k2800)/\σ_ 151=.slice A2757 x2746.length c2758/\σ_ 152=jV (↑x2746.length:Int)/\σ_ 153=jV (↑k2800:Int)/\σ_ 157=.pointer (some ⟨b370,1,none⟩)/\σ_ 159=.pointer (some ⟨b347,1,none⟩)/\σ_ 160=.slice A354 l353.length c355/\σ_ 161=jV (gd x2746 k2800)/\σ_ 162=.pointer (some ⟨b4591,o4592,none⟩)/\σ_ 163=jV x2834/\σ_ 164=.slice A4593 ([x2834].length) c4594/\σ_ 165=.slice A4595 x2849.length c4596/\σ_ 166=.pointer (some ⟨b370,2,none⟩)/\σ_ 168=.pointer (some ⟨b347,2,none⟩)/\σ_ 169=.slice A357 l356.length c358/\σ_ 170=jV (gd x2746 k2800)/\σ_ 171=.pointer (some ⟨b4600,o4601,none⟩)/\PHeap.Le U2818 U_/\sW w U U_ [B33,B27,B18,B29,B28,inn 3 1 KL.encI hs368 y2610,B32,B36,B35,B34,.row A4593 c4594 3 1 (nA KL.encI [x2834]),.row A4595 c4596 3 1 (nA KL.encI x2849)] w_/\Cl U_ b4591 o4592 [jV x2834]/\Sl U_ 1 A4598 c4599 x2857.length (nA KL.encI x2857)/\Cl U_ b4600 o4601 [.slice A4598 x2857.length c4599]) ?_ fun ko4602=>?_
           ·rintro σ4603 W4604 ⟨U4605,b4591,o4592,A4593,c4594,A4595,c4596,A4598,c4599,b4600,o4601,f4608,f4609,f4610,f4611,f4612,f4613,f4614,f4615,f4616,f4617,f4618,f4619,f4620,f4621,f4622,f4623,f4624,f4625,f4626,f4627,le4606,hS4607,h4628,h4629,h4630⟩
            refine zj ?_ ?_
            ·exact ZH Z Z Z Z (hS4607.ldB (j:=8) Z Z f4623 zq (v:=.slice A2796 l2795.length c2797) Z) (ko4247 _ _ ⟨U4605,b4591,o4592,A4593,c4594,A4595,c4596,A4598,c4599,b4600,o4601,f4608,f4609,f4610,f4611,f4612,f4613,f4614,f4615,f4616,f4617,f4618,f4619,f4620,f4621,f4622,f4623,Z,f4624,f4625,f4626,f4627,le4606,hS4607,h4628,h4629,h4630⟩)
            ·exact ZH Z Z Z Z (hS4607.ldC (f:=0) h4630 (v:=.slice A4598 x2857.length c4599) Z f4627 zn Z) (ko4168 _ _ ⟨U4605,b4591,o4592,A4593,c4594,A4595,c4596,A4598,c4599,b4600,o4601,A4598,c4599,f4608,f4609,f4610,f4611,f4612,f4613,f4614,f4615,f4616,f4617,f4618,f4619,f4620,f4621,f4622,f4623,f4624,f4625,f4626,f4627,Z,le4606,hS4607,h4628,h4629,h4630,h4629⟩)
           refine zr (s:=.fl 14 gBe) (M:=fun σ_ w_=>∃ (U_:PHeap) (b4656:Nat) (o4657:Nat) (A4658:Option Addr) (c4659:Nat),σ_ 23=.pointer (some ⟨b347,0,none⟩)/\σ_ 24=.pointer (some ⟨b360,0,none⟩)/\σ_ 25=.pointer (some ⟨b370,0,none⟩)/\σ_ 29=jV (gd x2746 k2800)/\σ_ 151=.slice A2757 x2746.length c2758/\σ_ 152=jV (↑x2746.length:Int)/\σ_ 153=jV (↑k2800:Int)/\σ_ 157=.pointer (some ⟨b370,1,none⟩)/\σ_ 158=.slice A2792 l2791.length c2793/\σ_ 159=.pointer (some ⟨b347,1,none⟩)/\σ_ 160=.slice A354 l353.length c355/\σ_ 161=jV (gd x2746 k2800)/\σ_ 162=.pointer (some ⟨b4656,o4657,none⟩)/\σ_ 163=jV x2834/\σ_ 164=.slice A4658 ([x2834].length) c4659/\σ_ 166=.pointer (some ⟨b370,2,none⟩)/\σ_ 167=.slice A2796 l2795.length c2797/\σ_ 168=.pointer (some ⟨b347,2,none⟩)/\σ_ 169=.slice A357 l356.length c358/\σ_ 170=jV (gd x2746 k2800)/\PHeap.Le U2818 U_/\sW w U U_ [B33,B27,B18,B29,B28,inn 3 1 KL.encI hs368 y2610,B32,B39,B36,B35,B34,.row A4658 c4659 3 1 (nA KL.encI [x2834])] w_/\Cl U_ b4656 o4657 [jV x2834]) ?_ fun ko4660=>?_
           ·rintro σ4661 W4662 ⟨U4663,b4656,o4657,A4658,c4659,f4666,f4667,f4668,f4669,f4670,f4671,f4672,f4673,f4674,f4675,f4676,f4677,f4678,f4679,f4680,f4681,f4682,f4683,f4684,f4685,le4664,hS4665,h4686⟩
            have h4687:=h2598.le le2725
            have h4688:=h4687.le le2755
            have h4689:=h4688.le le2819
            have h4690:=h4689.le le4664
            have q:=h4690.el (wAZ h2858)
            obtain ⟨b4691,off4692,vs4695,hA4693,hC4694,hr4696⟩:=q
            obtain ⟨pA4697,pc4698,rfl,h4699⟩:=hr4696
            replace hC4694:Cl U4663 b4691 (off4692 + (gd x2746 k2800).toNat * 1) [.slice pA4697 x2857.length pc4698]:=hC4694
            refine oR Z (ZS Z f4684 hA4693 f4685 zO zN (wCC h2858) (wCG h2858)) (zj ?_ ?_)
            ·refine ZO (j:=7) (enc:=KL.encI) (xs:=l2791) (ys:=[x2834]) (zs:=x2849) rfl rfl rfl rfl rfl zu wCc rfl rfl rfl rfl rfl rfl hS4665 rfl f4674 f4680 (hS4665.srcR (j:=11) rfl (by decide) (wAB (f:=KL.encI) (sz:=1) (fun _=>rfl) [x2834])) (fun _=>rfl) (fun _=>rfl) h2850 rfl ?_
             intro A4700 c4701 W4702 hS4703
             have hS4704:sW w U U4663 [B33,B27,B18,B29,B28,inn 3 1 KL.encI hs368 y2610,B32,.row A4700 c4701 3 1 (nA KL.encI x2849),B36,B35,B34,.row A4658 c4659 3 1 (nA KL.encI [x2834])] W4702:=hS4703
             exact ko4247 _ _ ⟨U4663,b4656,o4657,A4658,c4659,A4700,c4701,pA4697,pc4698,b4691,off4692 + (gd x2746 k2800).toNat * 1,f4666,f4667,f4668,f4669,f4670,f4671,f4672,f4673,f4675,f4676,f4677,f4678,f4679,f4680,rfl,f4681,f4682,f4683,f4684,f4685,rfl,le4664,(hS4704.pick [0,1,2,3,4,5,6,8,9,10,11,7] _ (by decide) rfl),h4686,h4699,hC4694⟩
            ·exact ZH Z Z Z Z (hS4665.ldC (f:=0) hC4694 (v:=.slice pA4697 x2857.length pc4698) Z Z zn Z) (ko4082 _ _ ⟨U4663,b4656,o4657,A4658,c4659,pA4697,pc4698,b4691,off4692 + (gd x2746 k2800).toNat * 1,pA4697,pc4698,f4666,f4667,f4668,f4669,f4670,f4671,f4672,f4673,f4674,f4675,f4676,f4677,f4678,f4679,f4680,f4681,f4682,f4683,f4684,f4685,Z,Z,le4664,hS4665,h4686,h4699,hC4694,h4699⟩)
           refine zr (s:=gBb) (M:=fun σ_ w_=>∃ (U_:PHeap) (b4728:Nat) (o4729:Nat) (A4730:Option Addr) (c4731:Nat) (A4732:Option Addr) (c4733:Nat),σ_ 23=.pointer (some ⟨b347,0,none⟩)/\σ_ 24=.pointer (some ⟨b360,0,none⟩)/\σ_ 25=.pointer (some ⟨b370,0,none⟩)/\σ_ 29=jV (gd x2746 k2800)/\σ_ 151=.slice A2757 x2746.length c2758/\σ_ 152=jV (↑x2746.length:Int)/\σ_ 153=jV (↑k2800:Int)/\σ_ 157=.pointer (some ⟨b370,1,none⟩)/\σ_ 159=.pointer (some ⟨b347,1,none⟩)/\σ_ 160=.slice A354 l353.length c355/\σ_ 161=jV (gd x2746 k2800)/\σ_ 162=.pointer (some ⟨b4728,o4729,none⟩)/\σ_ 163=jV x2834/\σ_ 164=.slice A4730 ([x2834].length) c4731/\σ_ 165=.slice A4732 x2849.length c4733/\σ_ 166=.pointer (some ⟨b370,2,none⟩)/\σ_ 167=.slice A2796 l2795.length c2797/\σ_ 168=.pointer (some ⟨b347,2,none⟩)/\σ_ 170=jV (gd x2746 k2800)/\PHeap.Le U2818 U_/\sW w U U_ [B33,B27,B18,B29,B28,inn 3 1 KL.encI hs368 y2610,B32,B36,B35,B34,.row A4730 c4731 3 1 (nA KL.encI [x2834]),.row A4732 c4733 3 1 (nA KL.encI x2849)] w_/\Cl U_ b4728 o4729 [jV x2834]) ?_ fun ko4734=>?_
           ·rintro σ4735 W4736 ⟨U4737,b4728,o4729,A4730,c4731,A4732,c4733,f4740,f4741,f4742,f4743,f4744,f4745,f4746,f4747,f4748,f4749,f4750,f4751,f4752,f4753,f4754,f4755,f4756,f4757,f4758,le4738,hS4739,h4759⟩
            exact oR Z (zX Z f4742 zM Z zN) (ZH Z Z Z Z (hS4739.ldB (j:=1) Z Z f4757 zq (v:=.slice A357 l356.length c358) Z) (ko4297 _ _ ⟨U4737,b4728,o4729,A4730,c4731,A4732,c4733,f4740,f4741,f4742,f4743,f4744,f4745,f4746,f4747,f4748,f4749,f4750,f4751,f4752,f4753,f4754,f4755,f4756,f4757,Z,f4758,Z,le4738,hS4739,h4759⟩))
           refine zr (s:=gBh) (M:=fun σ_ w_=>∃ (U_:PHeap) (b4766:Nat) (o4767:Nat) (A4768:Option Addr) (c4769:Nat),σ_ 23=.pointer (some ⟨b347,0,none⟩)/\σ_ 24=.pointer (some ⟨b360,0,none⟩)/\σ_ 25=.pointer (some ⟨b370,0,none⟩)/\σ_ 29=jV (gd x2746 k2800)/\σ_ 151=.slice A2757 x2746.length c2758/\σ_ 152=jV (↑x2746.length:Int)/\σ_ 153=jV (↑k2800:Int)/\σ_ 157=.pointer (some ⟨b370,1,none⟩)/\σ_ 158=.slice A2792 l2791.length c2793/\σ_ 159=.pointer (some ⟨b347,1,none⟩)/\σ_ 160=.slice A354 l353.length c355/\σ_ 161=jV (gd x2746 k2800)/\σ_ 162=.pointer (some ⟨b4766,o4767,none⟩)/\σ_ 163=jV x2834/\σ_ 164=.slice A4768 ([x2834].length) c4769/\σ_ 166=.pointer (some ⟨b370,2,none⟩)/\σ_ 167=.slice A2796 l2795.length c2797/\σ_ 168=.pointer (some ⟨b347,2,none⟩)/\σ_ 170=jV (gd x2746 k2800)/\PHeap.Le U2818 U_/\sW w U U_ [B33,B27,B18,B29,B28,inn 3 1 KL.encI hs368 y2610,B32,B39,B36,B35,B34,.row A4768 c4769 3 1 (nA KL.encI [x2834])] w_/\Cl U_ b4766 o4767 [jV x2834]) ?_ fun ko4770=>?_
           ·rintro σ4771 W4772 ⟨U4773,b4766,o4767,A4768,c4769,f4776,f4777,f4778,f4779,f4780,f4781,f4782,f4783,f4784,f4785,f4786,f4787,f4788,f4789,f4790,f4791,f4792,f4793,f4794,le4774,hS4775,h4795⟩
            refine zj ?_ ?_
            ·refine ZO (j:=7) (enc:=KL.encI) (xs:=l2791) (ys:=[x2834]) (zs:=x2849) rfl rfl rfl rfl rfl zu wCc rfl rfl rfl rfl rfl rfl hS4775 rfl f4784 f4790 (hS4775.srcR (j:=11) rfl (by decide) (wAB (f:=KL.encI) (sz:=1) (fun _=>rfl) [x2834])) (fun _=>rfl) (fun _=>rfl) h2850 rfl ?_
             intro A4796 c4797 W4798 hS4799
             have hS4800:sW w U U4773 [B33,B27,B18,B29,B28,inn 3 1 KL.encI hs368 y2610,B32,.row A4796 c4797 3 1 (nA KL.encI x2849),B36,B35,B34,.row A4768 c4769 3 1 (nA KL.encI [x2834])] W4798:=hS4799
             exact ko4734 _ _ ⟨U4773,b4766,o4767,A4768,c4769,A4796,c4797,f4776,f4777,f4778,f4779,f4780,f4781,f4782,f4783,f4785,f4786,f4787,f4788,f4789,f4790,rfl,f4791,f4792,f4793,f4794,le4774,(hS4800.pick [0,1,2,3,4,5,6,8,9,10,11,7] _ (by decide) rfl),h4795⟩
            ·exact ZH Z Z Z Z (hS4775.ldB (j:=1) Z Z f4793 zq (v:=.slice A357 l356.length c358) Z) (ko4660 _ _ ⟨U4773,b4766,o4767,A4768,c4769,f4776,f4777,f4778,f4779,f4780,f4781,f4782,f4783,f4784,f4785,f4786,f4787,f4788,f4789,f4790,f4791,f4792,f4793,Z,f4794,le4774,hS4775,h4795⟩)
           refine oR Z (zX Z f2823 zM Z zN) (oL Z (hS2898.ldB (j:=9) Z Z Z zn (v:=.slice A2792 l2791.length c2793) Z) (oR Z (zX Z f2821 zM Z zN) (oL Z (hS2898.ldB (j:=1) Z Z Z zn (v:=.slice A354 l353.length c355) Z) (oM Z Z ?_))))
           have h4811:=h2597.le le2725
           have h4812:=h4811.le le2755
           have h4813:=h4812.le le2819
           have q:=h4813.el (fun _=>rfl) (wAZ h2835)
           obtain ⟨b4814,off4815,hA4816,hC4817⟩:=q
           refine oR Z (ZS Z Z hA4816 Z zA zB (wCC h2835) (wCG h2835)) (oL Z (hS2898.ldC (f:=0) hC4817 (v:=jV x2834) Z Z zJ Z) (oR Z (zX Z f2823 zM Z ZX) (oR Z (zX Z f2821 zM Z ZX) (oM Z Z (zj ?_ ?_)))))
           ·refine zU (pv:=[(0,jV x2834)]) (zs:=[jV 0]) (cs:=[jV x2834]) Z Z Z Z Z (wAH Z wAQ) zA zB zt Z Z Z Z Z hS2898 ?_
            intro W4818 b4819 hS4820
            let B44:Res:=.row (some ⟨b4819,0,none⟩) 1 3 1 (nA KL.encI [x2834])
            have hS4822:sW w U U2818 [B44,B33,B27,B18,B29,B28,inn 3 1 KL.encI hs368 y2610,B32,B39,B36,B35,B34] W4818:=hS4820
            refine zj ?_ ?_
            ·refine ZO (j:=8) (enc:=KL.encI) (xs:=l2791) (ys:=[x2834]) (zs:=x2849) rfl rfl rfl rfl rfl zu wCc rfl rfl rfl rfl rfl rfl hS4822 rfl rfl rfl (hS4822.srcR (j:=0) rfl (by decide) (wAB (f:=KL.encI) (sz:=1) (fun _=>rfl) [x2834])) (fun _=>rfl) (fun _=>rfl) h2850 rfl ?_
             intro A4823 c4824 W4825 hS4826
             have hS4827:sW w U U2818 [B44,B33,B27,B18,B29,B28,inn 3 1 KL.encI hs368 y2610,B32,.row A4823 c4824 3 1 (nA KL.encI x2849),B36,B35,B34] W4825:=hS4826
             refine zj ?_ ?_
             ·exact ZH rfl rfl rfl rfl (hS4827.ldB (j:=10) rfl rfl rfl zq (v:=.slice A2796 l2795.length c2797) rfl) (ko4734 _ _ ⟨U2818,b4814,off4815 + (gd x2746 k2800).toNat * 1,(some ⟨b4819,0,none⟩),1,A4823,c4824,f2821,f2822,f2823,rfl,f2824,f2825,fi2817,rfl,rfl,rfl,rfl,rfl,rfl,rfl,rfl,rfl,rfl,rfl,rfl,(zG _),(hS4827.pick [1,2,3,4,5,6,7,9,10,11,0,8] _ (by decide) rfl),hC4817⟩)
             ·refine ZH Z Z Z Z (hS4827.ldB (j:=2) Z Z Z zq (v:=.slice A357 l356.length c358) Z) ?_
              have h4834:=h2598.le le2725
              have h4835:=h4834.le le2755
              have h4836:=h4835.le le2819
              have q:=h4836.el (wAZ h2858)
              obtain ⟨b4837,off4838,vs4841,hA4839,hC4840,hr4842⟩:=q
              obtain ⟨pA4843,pc4844,rfl,h4845⟩:=hr4842
              replace hC4840:Cl U2818 b4837 (off4838 + (gd x2746 k2800).toNat * 1) [.slice pA4843 x2857.length pc4844]:=hC4840
              refine oR Z (ZS Z Z hA4839 Z zO zN (wCC h2858) (wCG h2858)) (zj ?_ ?_)
              ·exact ZH rfl rfl rfl rfl (hS4827.ldB (j:=10) rfl rfl rfl zq (v:=.slice A2796 l2795.length c2797) rfl) (ko4247 _ _ ⟨U2818,b4814,off4815 + (gd x2746 k2800).toNat * 1,(some ⟨b4819,0,none⟩),1,A4823,c4824,pA4843,pc4844,b4837,off4838 + (gd x2746 k2800).toNat * 1,f2821,f2822,f2823,rfl,f2824,f2825,fi2817,rfl,rfl,rfl,rfl,rfl,rfl,rfl,rfl,rfl,rfl,rfl,rfl,rfl,rfl,(zG _),(hS4827.pick [1,2,3,4,5,6,7,9,10,11,0,8] _ (by decide) rfl),hC4817,h4845,hC4840⟩)
              ·exact ZH rfl rfl rfl rfl (hS4827.ldC (f:=0) hC4840 (v:=.slice pA4843 x2857.length pc4844) rfl rfl zn rfl) (ko4168 _ _ ⟨U2818,b4814,off4815 + (gd x2746 k2800).toNat * 1,(some ⟨b4819,0,none⟩),1,A4823,c4824,pA4843,pc4844,b4837,off4838 + (gd x2746 k2800).toNat * 1,pA4843,pc4844,f2821,f2822,f2823,rfl,f2824,f2825,fi2817,rfl,rfl,rfl,rfl,rfl,rfl,rfl,rfl,rfl,rfl,rfl,rfl,rfl,rfl,(zG _),(hS4827.pick [1,2,3,4,5,6,7,9,10,11,0,8] _ (by decide) rfl),hC4817,h4845,hC4840,h4845⟩)
            refine zj ?_ ?_
            ·exact ZH rfl rfl rfl rfl (hS4822.ldB (j:=10) rfl rfl rfl zq (v:=.slice A2796 l2795.length c2797) rfl) (ko4770 _ _ ⟨U2818,b4814,off4815 + (gd x2746 k2800).toNat * 1,(some ⟨b4819,0,none⟩),1,f2821,f2822,f2823,rfl,f2824,f2825,fi2817,rfl,rfl,rfl,rfl,rfl,rfl,rfl,rfl,rfl,rfl,rfl,rfl,(zG _),(hS4822.pick [1,2,3,4,5,6,7,8,9,10,11,0] _ (by decide) rfl),hC4817⟩)
            ·refine ZH Z Z Z Z (hS4822.ldB (j:=2) Z Z Z zq (v:=.slice A357 l356.length c358) Z) ?_
             have h4875:=h2598.le le2725
             have h4876:=h4875.le le2755
             have h4877:=h4876.le le2819
             have q:=h4877.el (wAZ h2858)
             obtain ⟨b4878,off4879,vs4882,hA4880,hC4881,hr4883⟩:=q
             obtain ⟨pA4884,pc4885,rfl,h4886⟩:=hr4883
             replace hC4881:Cl U2818 b4878 (off4879 + (gd x2746 k2800).toNat * 1) [.slice pA4884 x2857.length pc4885]:=hC4881
             refine oR Z (ZS Z Z hA4880 Z zO zN (wCC h2858) (wCG h2858)) (zj ?_ ?_)
             ·refine ZO (j:=8) (enc:=KL.encI) (xs:=l2791) (ys:=[x2834]) (zs:=x2849) rfl rfl rfl rfl rfl zu wCc rfl rfl rfl rfl rfl rfl hS4822 rfl rfl rfl (hS4822.srcR (j:=0) rfl (by decide) (wAB (f:=KL.encI) (sz:=1) (fun _=>rfl) [x2834])) (fun _=>rfl) (fun _=>rfl) h2850 rfl ?_
              intro A4887 c4888 W4889 hS4890
              have hS4891:sW w U U2818 [B44,B33,B27,B18,B29,B28,inn 3 1 KL.encI hs368 y2610,B32,.row A4887 c4888 3 1 (nA KL.encI x2849),B36,B35,B34] W4889:=hS4890
              exact ko4602 _ _ ⟨U2818,b4814,off4815 + (gd x2746 k2800).toNat * 1,(some ⟨b4819,0,none⟩),1,A4887,c4888,pA4884,pc4885,b4878,off4879 + (gd x2746 k2800).toNat * 1,f2821,f2822,f2823,rfl,f2824,f2825,fi2817,rfl,rfl,rfl,rfl,rfl,rfl,rfl,rfl,rfl,rfl,rfl,rfl,rfl,(zG _),(hS4891.pick [1,2,3,4,5,6,7,9,10,11,0,8] _ (by decide) rfl),hC4817,h4886,hC4881⟩
             refine zj ?_ ?_
             ·exact ZH rfl rfl rfl rfl (hS4822.ldB (j:=10) rfl rfl rfl zq (v:=.slice A2796 l2795.length c2797) rfl) (ko4533 _ _ ⟨U2818,b4814,off4815 + (gd x2746 k2800).toNat * 1,(some ⟨b4819,0,none⟩),1,pA4884,pc4885,b4878,off4879 + (gd x2746 k2800).toNat * 1,f2821,f2822,f2823,rfl,f2824,f2825,fi2817,rfl,rfl,rfl,rfl,rfl,rfl,rfl,rfl,rfl,rfl,rfl,rfl,rfl,rfl,(zG _),(hS4822.pick [1,2,3,4,5,6,7,8,9,10,11,0] _ (by decide) rfl),hC4817,h4886,hC4881⟩)
             ·exact ZH rfl rfl rfl rfl (hS4822.ldC (f:=0) hC4881 (v:=.slice pA4884 x2857.length pc4885) rfl rfl zn rfl) (ko4441 _ _ ⟨U2818,b4814,off4815 + (gd x2746 k2800).toNat * 1,(some ⟨b4819,0,none⟩),1,pA4884,pc4885,b4878,off4879 + (gd x2746 k2800).toNat * 1,pA4884,pc4885,f2821,f2822,f2823,rfl,f2824,f2825,fi2817,rfl,rfl,rfl,rfl,rfl,rfl,rfl,rfl,rfl,rfl,rfl,rfl,rfl,rfl,(zG _),(hS4822.pick [1,2,3,4,5,6,7,8,9,10,11,0] _ (by decide) rfl),hC4817,h4886,hC4881,h4886⟩)
           refine zj ?_ ?_
           ·refine ZH Z Z Z Z (hS2898.ldB (j:=9) Z Z Z zq (v:=.slice A2796 l2795.length c2797) Z) (zj ?_ ?_)
            ·refine zU (pv:=[(0,jV x2834)]) (zs:=[jV 0]) (cs:=[jV x2834]) Z Z Z Z Z (wAH Z wAQ) zA zB zt Z Z Z Z Z hS2898 ?_
             intro W4924 b4925 hS4926
             have hS4928:sW w U U2818 [.row (some ⟨b4925,0,none⟩) 1 3 1 (nA KL.encI [x2834]),B33,B27,B18,B29,B28,inn 3 1 KL.encI hs368 y2610,B32,B39,B36,B35,B34] W4924:=hS4926
             exact ko4770 _ _ ⟨U2818,b4814,off4815 + (gd x2746 k2800).toNat * 1,(some ⟨b4925,0,none⟩),1,f2821,f2822,f2823,rfl,f2824,f2825,fi2817,rfl,rfl,rfl,rfl,rfl,rfl,rfl,rfl,rfl,rfl,rfl,rfl,(zG _),(hS4928.pick [1,2,3,4,5,6,7,8,9,10,11,0] _ (by decide) rfl),hC4817⟩
            ·refine ZH Z Z Z Z (hS2898.ldB (j:=1) Z Z Z zq (v:=.slice A357 l356.length c358) Z) ?_
             have h4933:=h2598.le le2725
             have h4934:=h4933.le le2755
             have h4935:=h4934.le le2819
             have q:=h4935.el (wAZ h2858)
             obtain ⟨b4936,off4937,vs4940,hA4938,hC4939,hr4941⟩:=q
             obtain ⟨pA4942,pc4943,rfl,h4944⟩:=hr4941
             replace hC4939:Cl U2818 b4936 (off4937 + (gd x2746 k2800).toNat * 1) [.slice pA4942 x2857.length pc4943]:=hC4939
             refine oR Z (ZS Z Z hA4938 Z zO zN (wCC h2858) (wCG h2858)) (zj ?_ ?_)
             ·refine zU (pv:=[(0,jV x2834)]) (zs:=[jV 0]) (cs:=[jV x2834]) Z Z Z Z Z (wAH Z wAQ) zA zB zt Z Z Z Z Z hS2898 ?_
              intro W4945 b4946 hS4947
              have hS4949:sW w U U2818 [.row (some ⟨b4946,0,none⟩) 1 3 1 (nA KL.encI [x2834]),B33,B27,B18,B29,B28,inn 3 1 KL.encI hs368 y2610,B32,B39,B36,B35,B34] W4945:=hS4947
              exact ko4533 _ _ ⟨U2818,b4814,off4815 + (gd x2746 k2800).toNat * 1,(some ⟨b4946,0,none⟩),1,pA4942,pc4943,b4936,off4937 + (gd x2746 k2800).toNat * 1,f2821,f2822,f2823,rfl,f2824,f2825,fi2817,rfl,rfl,rfl,rfl,rfl,rfl,rfl,rfl,rfl,rfl,rfl,rfl,rfl,rfl,(zG _),(hS4949.pick [1,2,3,4,5,6,7,8,9,10,11,0] _ (by decide) rfl),hC4817,h4944,hC4939⟩
             ·exact ZH Z Z Z Z (hS2898.ldC (f:=0) hC4939 (v:=.slice pA4942 x2857.length pc4943) Z Z zn Z) (ko4362 _ _ ⟨U2818,b4814,off4815 + (gd x2746 k2800).toNat * 1,pA4942,pc4943,b4936,off4937 + (gd x2746 k2800).toNat * 1,pA4942,pc4943,f2821,f2822,f2823,Z,f2824,f2825,fi2817,Z,Z,Z,Z,Z,Z,Z,Z,Z,Z,Z,Z,Z,Z,(zG _),hS2898,hC4817,h4944,hC4939,h4944⟩)
           ·refine ZH Z Z Z Z (hS2898.ldB (j:=1) Z Z Z zq (v:=.slice A357 l356.length c358) Z) ?_
            have h4969:=h2598.le le2725
            have h4970:=h4969.le le2755
            have h4971:=h4970.le le2819
            have q:=h4971.el (wAZ h2858)
            obtain ⟨b4972,off4973,vs4976,hA4974,hC4975,hr4977⟩:=q
            obtain ⟨pA4978,pc4979,rfl,h4980⟩:=hr4977
            replace hC4975:Cl U2818 b4972 (off4973 + (gd x2746 k2800).toNat * 1) [.slice pA4978 x2857.length pc4979]:=hC4975
            refine oR Z (ZS Z Z hA4974 Z zO zN (wCC h2858) (wCG h2858)) (zj ?_ ?_)
            ·refine zU (pv:=[(0,jV x2834)]) (zs:=[jV 0]) (cs:=[jV x2834]) Z Z Z Z Z (wAH Z wAQ) zA zB zt Z Z Z Z Z hS2898 ?_
             intro W4981 b4982 hS4983
             let B45:Res:=.row (some ⟨b4982,0,none⟩) 1 3 1 (nA KL.encI [x2834])
             have hS4985:sW w U U2818 [B45,B33,B27,B18,B29,B28,inn 3 1 KL.encI hs368 y2610,B32,B39,B36,B35,B34] W4981:=hS4983
             refine zj ?_ ?_
             ·refine ZO (j:=8) (enc:=KL.encI) (xs:=l2791) (ys:=[x2834]) (zs:=x2849) rfl rfl rfl rfl rfl zu wCc rfl rfl rfl rfl rfl rfl hS4985 rfl rfl rfl (hS4985.srcR (j:=0) rfl (by decide) (wAB (f:=KL.encI) (sz:=1) (fun _=>rfl) [x2834])) (fun _=>rfl) (fun _=>rfl) h2850 rfl ?_
              intro A4986 c4987 W4988 hS4989
              have hS4990:sW w U U2818 [B45,B33,B27,B18,B29,B28,inn 3 1 KL.encI hs368 y2610,B32,.row A4986 c4987 3 1 (nA KL.encI x2849),B36,B35,B34] W4988:=hS4989
              exact ko4602 _ _ ⟨U2818,b4814,off4815 + (gd x2746 k2800).toNat * 1,(some ⟨b4982,0,none⟩),1,A4986,c4987,pA4978,pc4979,b4972,off4973 + (gd x2746 k2800).toNat * 1,f2821,f2822,f2823,rfl,f2824,f2825,fi2817,rfl,rfl,rfl,rfl,rfl,rfl,rfl,rfl,rfl,rfl,rfl,rfl,rfl,(zG _),(hS4990.pick [1,2,3,4,5,6,7,9,10,11,0,8] _ (by decide) rfl),hC4817,h4980,hC4975⟩
             refine zj ?_ ?_
             ·exact ZH rfl rfl rfl rfl (hS4985.ldB (j:=10) rfl rfl rfl zq (v:=.slice A2796 l2795.length c2797) rfl) (ko4533 _ _ ⟨U2818,b4814,off4815 + (gd x2746 k2800).toNat * 1,(some ⟨b4982,0,none⟩),1,pA4978,pc4979,b4972,off4973 + (gd x2746 k2800).toNat * 1,f2821,f2822,f2823,rfl,f2824,f2825,fi2817,rfl,rfl,rfl,rfl,rfl,rfl,rfl,rfl,rfl,rfl,rfl,rfl,rfl,rfl,(zG _),(hS4985.pick [1,2,3,4,5,6,7,8,9,10,11,0] _ (by decide) rfl),hC4817,h4980,hC4975⟩)
             ·exact ZH rfl rfl rfl rfl (hS4985.ldC (f:=0) hC4975 (v:=.slice pA4978 x2857.length pc4979) rfl rfl zn rfl) (ko4441 _ _ ⟨U2818,b4814,off4815 + (gd x2746 k2800).toNat * 1,(some ⟨b4982,0,none⟩),1,pA4978,pc4979,b4972,off4973 + (gd x2746 k2800).toNat * 1,pA4978,pc4979,f2821,f2822,f2823,rfl,f2824,f2825,fi2817,rfl,rfl,rfl,rfl,rfl,rfl,rfl,rfl,rfl,rfl,rfl,rfl,rfl,rfl,(zG _),(hS4985.pick [1,2,3,4,5,6,7,8,9,10,11,0] _ (by decide) rfl),hC4817,h4980,hC4975,h4980⟩)
            refine zj ?_ ?_
            ·refine ZH Z Z Z Z (hS2898.ldB (j:=9) Z Z Z zq (v:=.slice A2796 l2795.length c2797) Z) (zj ?_ ?_)
             ·refine zU (pv:=[(0,jV x2834)]) (zs:=[jV 0]) (cs:=[jV x2834]) Z Z Z Z Z (wAH Z wAQ) zA zB zt Z Z Z Z Z hS2898 ?_
              intro W5023 b5024 hS5025
              have hS5027:sW w U U2818 [.row (some ⟨b5024,0,none⟩) 1 3 1 (nA KL.encI [x2834]),B33,B27,B18,B29,B28,inn 3 1 KL.encI hs368 y2610,B32,B39,B36,B35,B34] W5023:=hS5025
              exact ko4533 _ _ ⟨U2818,b4814,off4815 + (gd x2746 k2800).toNat * 1,(some ⟨b5024,0,none⟩),1,pA4978,pc4979,b4972,off4973 + (gd x2746 k2800).toNat * 1,f2821,f2822,f2823,rfl,f2824,f2825,fi2817,rfl,rfl,rfl,rfl,rfl,rfl,rfl,rfl,rfl,rfl,rfl,rfl,rfl,rfl,(zG _),(hS5027.pick [1,2,3,4,5,6,7,8,9,10,11,0] _ (by decide) rfl),hC4817,h4980,hC4975⟩
             ·exact ZH Z Z Z Z (hS2898.ldC (f:=0) hC4975 (v:=.slice pA4978 x2857.length pc4979) Z Z zn Z) (ko4362 _ _ ⟨U2818,b4814,off4815 + (gd x2746 k2800).toNat * 1,pA4978,pc4979,b4972,off4973 + (gd x2746 k2800).toNat * 1,pA4978,pc4979,f2821,f2822,f2823,Z,f2824,f2825,fi2817,Z,Z,Z,Z,Z,Z,Z,Z,Z,Z,Z,Z,Z,Z,(zG _),hS2898,hC4817,h4980,hC4975,h4980⟩)
            ·refine ZH Z Z Z Z (hS2898.ldC (f:=0) hC4975 (v:=.slice pA4978 x2857.length pc4979) Z Z zn Z) (zj ?_ ?_)
             ·refine zU (pv:=[(0,jV x2834)]) (zs:=[jV 0]) (cs:=[jV x2834]) Z Z Z Z Z (wAH Z wAQ) zA zB zt Z Z Z Z Z hS2898 ?_
              intro W5047 b5048 hS5049
              have hS5051:sW w U U2818 [.row (some ⟨b5048,0,none⟩) 1 3 1 (nA KL.encI [x2834]),B33,B27,B18,B29,B28,inn 3 1 KL.encI hs368 y2610,B32,B39,B36,B35,B34] W5047:=hS5049
              exact ko4441 _ _ ⟨U2818,b4814,off4815 + (gd x2746 k2800).toNat * 1,(some ⟨b5048,0,none⟩),1,pA4978,pc4979,b4972,off4973 + (gd x2746 k2800).toNat * 1,pA4978,pc4979,f2821,f2822,f2823,rfl,f2824,f2825,fi2817,rfl,rfl,rfl,rfl,rfl,rfl,rfl,rfl,rfl,rfl,rfl,rfl,rfl,rfl,(zG _),(hS5051.pick [1,2,3,4,5,6,7,8,9,10,11,0] _ (by decide) rfl),hC4817,h4980,hC4975,h4980⟩
             refine zj ?_ ?_
             ·exact ZH Z Z Z Z (hS2898.ldB (j:=9) Z Z Z zq (v:=.slice A2796 l2795.length c2797) Z) (ko4362 _ _ ⟨U2818,b4814,off4815 + (gd x2746 k2800).toNat * 1,pA4978,pc4979,b4972,off4973 + (gd x2746 k2800).toNat * 1,pA4978,pc4979,f2821,f2822,f2823,Z,f2824,f2825,fi2817,Z,Z,Z,Z,Z,Z,Z,Z,Z,Z,Z,Z,Z,Z,(zG _),hS2898,hC4817,h4980,hC4975,h4980⟩)
             ·let B46:List Value:=[.slice pA4978 x2857.length pc4979]
              refine zU (pv:=[(0,.slice pA4978 x2857.length pc4979)]) (zs:=[.slice none 0 0]) (cs:=B46) Z Z Z Z Z (wAH Z wAQ) zO zN ZP Z Z Z Z Z hS2898 ?_
              intro W5074 b5075 hS5076
              have hr5078:RlL U2818 wBH [x2857] B46:=(RlL.cons (R:=wBH) (x:=x2857) (vs:=B46) ⟨pA4978,pc4979,rfl,h4980⟩ RlL.nil)
              let B47:Res:=.row (some ⟨b5075,0,none⟩) 1 22 1 B46
              have hS5079:sW w U U2818 [B47,B33,B27,B18,B29,B28,inn 3 1 KL.encI hs368 y2610,B32,B39,B36,B35,B34] W5074:=hS5076
              refine zj ?_ ?_
              ·refine zU (pv:=[(0,jV x2834)]) (zs:=[jV 0]) (cs:=[jV x2834]) Z Z Z Z Z (wAH Z wAQ) zA zB zt Z Z Z Z Z hS5079 ?_
               intro W5080 b5081 hS5082
               have hS5084:sW w U U2818 [.row (some ⟨b5081,0,none⟩) 1 3 1 (nA KL.encI [x2834]),B47,B33,B27,B18,B29,B28,inn 3 1 KL.encI hs368 y2610,B32,B39,B36,B35,B34] W5080:=hS5082
               exact ko4000 _ _ ⟨U2818,b4814,off4815 + (gd x2746 k2800).toNat * 1,(some ⟨b5081,0,none⟩),1,pA4978,pc4979,b4972,off4973 + (gd x2746 k2800).toNat * 1,pA4978,pc4979,(some ⟨b5075,0,none⟩),1,B46,f2821,f2822,f2823,rfl,f2824,f2825,fi2817,rfl,rfl,rfl,rfl,rfl,rfl,rfl,rfl,rfl,rfl,rfl,rfl,rfl,rfl,rfl,(zG _),(hS5084.pick [2,3,4,5,6,7,8,9,10,11,12,0,1] _ (by decide) rfl),hC4817,h4980,hC4975,h4980,hr5078⟩
              ·exact ZH rfl rfl rfl rfl (hS5079.ldB (j:=10) rfl rfl rfl zq (v:=.slice A2796 l2795.length c2797) rfl) (ko3932 _ _ ⟨U2818,b4814,off4815 + (gd x2746 k2800).toNat * 1,pA4978,pc4979,b4972,off4973 + (gd x2746 k2800).toNat * 1,pA4978,pc4979,(some ⟨b5075,0,none⟩),1,B46,f2821,f2822,f2823,rfl,f2824,f2825,fi2817,rfl,rfl,rfl,rfl,rfl,rfl,rfl,rfl,rfl,rfl,rfl,rfl,rfl,rfl,rfl,(zG _),(hS5079.pick [1,2,3,4,5,6,7,8,9,10,11,0] _ (by decide) rfl),hC4817,h4980,hC4975,h4980,hr5078⟩)
          ·rintro σ5113 W5114 ⟨U5129,A5124,c5125,A5126,c5127,c5128,fi5116,f5132,f5133,f5134,f5135,f5136,le5130,hS5131,h5137⟩
           have c5138:Hid (¬ ((↑(((↑x2746.length:Int):Int) - 0).toNat:Int) < (↑x2746.length:Int))):=zD (wAr)
           refine sR fL1 Z (oR Z (zQ Z fi5116 f5136) (eN (zF (cF Z c5138 (ZM (ze (ze (ZI (zH (sR (.fl 0 (.fx 1 (wIe (.nil)) .stop)) Z ?_))))))))))
           let B48:List Value:=[jV x323.Laps,.slice A354 l353.length c355,.slice A357 l356.length c358]
           refine oL Z (hS5131.ldBA (j:=1) Z Z f5132 Zh ZB (vs:=B48) Z Z) ?_
           have h5139:=h2597.le le2725
           have h5140:=h5139.le le2755
           have h5141:=h5140.le le5130
           have h5142:=h2598.le le2725
           have h5143:=h5142.le le2755
           have h5144:=h5143.le le5130
           have q:=bnd hm2801
           obtain ⟨⟨x5145,x5146⟩,h5147,hm5148⟩:=q
           try dsimp only at hm5148
           refine zL 0 Z Z Z Z (zK Z Z Tryz.call35 (zC Z zP) Z) hS5131 (fun hs=>wEY (⟨x323.Laps,l353,l356⟩:wAD) A354 c355 A357 c358 W5114 U5129 hs h5141 h5144 h5147) (.inr Z) ?_
           rintro U5149 L5150 v5151 W5152 le5153 hS5154 ⟨A5155,c5156,rfl,rfl⟩
           let B49:Res:=.blk b370 66 [jV x323.Laps,.slice A5124 y2805.length c5125,.slice A5126 y2806.length c5127]
           let B50:Res:=.row A5155 c5156 3 1 (nA KL.encI x5145)
           let B51:Res:=.row A5124 c5125 3 1 (nA KL.encI y2805)
           let B52:Res:=.row A5126 c5127 22 1 c5128
           have hS5158:sW w U U5149 [B50,B33,B27,B18,B29,B28,inn 3 1 KL.encI hs368 y2610,B32,B51,B52,B49,B34] W5152:=hS5154
           refine oM Z Z (oR Z (ZY Z Z (v:=.slice A5155 x5145.length c5156) Z) (oR Z (ZY Z Z (v:=jV x5146) Z) (oA Z Z (oA Z Z (eN (sR (.fl 0 (.fx 1 (wIe (.nil)) .stop)) Z (oL Z (hS5158.ldBA (j:=7) Z Z f5133 Zh ZB (vs:=[jV x361,.slice A363 l362.length c364,.slice A366 y2610.length c367]) Z Z) ?_)))))))
           have q:=hS5158.freezeR (k:=4) (n:=l362.length) rfl (wAB (f:=KL.encI) (sz:=1) (fun _=>rfl) l362) (by decide)
           obtain ⟨U5159,le5160,hs5161,hS5162⟩:=q
           have hS5163:sW w U U5159 [B50,B33,B27,B18,B28,inn 3 1 KL.encI hs368 y2610,B32,B51,B52,B49,B34] W5152:=hS5162
           have hS5164:sW w U U5159 [B28,inn 3 1 KL.encI hs368 y2610,B50,B33,B27,B18,B32,B51,B52,B49,B34] W5152:=hS5163.pick [4,5,0,1,2,3,6,7,8,9,10] _ (by decide) rfl
           have q:=St.freezeN (R:=wBH) hS5164 (fun _ _ _ _ h=>⟨_,_,rfl,h⟩) (fun _=>rfl) (by decide) rfl
           obtain ⟨U5165,le5166,hs5167,hS5168⟩:=q
           have hS5169:sW w U U5165 [B50,B33,B27,B18,B32,B51,B52,B49,B34] W5152:=hS5168
           have h5170:=hs5161.le le5166
           have q:=bnd hm5148
           obtain ⟨⟨x5171,x5172⟩,h5173,hm5174⟩:=q
           try dsimp only at hm5174
           refine zL 0 Z Z Z Z (zK Z Z Tryz.call35 (zC Z zP) Z) hS5169 (fun hs=>wEY (⟨x361,l362,y2610⟩:wAD) A363 c364 A366 c367 W5152 U5165 hs h5170 hs5167 h5173) (.inr Z) ?_
           rintro U5175 L5176 v5177 W5178 le5179 hS5180 ⟨A5181,c5182,rfl,rfl⟩
           let B53:Res:=.row A5181 c5182 3 1 (nA KL.encI x5171)
           have hS5184:sW w U U5175 [B53,B50,B33,B27,B18,B32,B51,B52,B49,B34] W5178:=hS5180
           refine oM Z Z (oR Z (ZY Z Z (v:=.slice A5181 x5171.length c5182) Z) (oR Z (ZY Z Z (v:=jV x5172) Z) (oA Z Z (oA Z Z (eN (sR (.fl 0 (.fx 1 (wIe (.nil)) .stop)) Z (oL Z (hS5184.ldBA (j:=3) Z Z f5132 Zh ZB (vs:=B48) Z Z) ?_)))))))
           have h5185:=h5141.le le5153
           have h5186:=h5185.le le5160
           have h5187:=h5186.le le5166
           have h5188:=h5187.le le5179
           have h5189:=h5144.le le5153
           have h5190:=h5189.le le5160
           have h5191:=h5190.le le5166
           have h5192:=h5191.le le5179
           have q:=bnd hm5174
           obtain ⟨⟨x5193,x5194⟩,h5195,hm5196⟩:=q
           try dsimp only at hm5196
           refine zL 0 Z Z Z Z (zK Z Z Tryz.call44 (zC Z zP) Z) hS5184 (fun hs=>wEm (⟨x323.Laps,l353,l356⟩:wAD) A354 c355 A357 c358 W5178 U5175 hs h5188 h5192 h5195) (.inr Z) ?_
           rintro U5197 L5198 v5199 W5200 le5201 hS5202 ⟨A5203,c5204,rfl,rfl⟩
           let B54:Res:=.row A5203 c5204 45 4 (nA wAJ x5193)
           have hS5206:sW w U U5197 [B54,B53,B50,B33,B27,B18,B32,B51,B52,B49,B34] W5200:=hS5202
           refine oM Z Z (oR Z (ZY Z Z (v:=.slice A5203 x5193.length c5204) Z) (oR Z (ZY Z Z (v:=jV x5194) Z) (oA Z Z (oA Z Z (eN (sR (.fl 0 (.fx 1 (wIe (.nil)) .stop)) Z (oL Z (hS5206.ldBA (j:=9) Z Z f5134 Zh ZB (vs:=[jV x323.Laps,.slice A5124 y2805.length c5125,.slice A5126 y2806.length c5127]) Z Z) ?_)))))))
           have q:=hS5206.freezeR (k:=7) (n:=y2805.length) rfl (wAB (f:=KL.encI) (sz:=1) (fun _=>rfl) y2805) (by decide)
           obtain ⟨U5207,le5208,hs5209,hS5210⟩:=q
           have hS5211:sW w U U5207 [B54,B53,B50,B33,B27,B18,B32,B52,B49,B34] W5200:=hS5210
           have h5216:=h5137.le le5153
           have h5217:=h5216.le le5160
           have h5218:=h5217.le le5166
           have h5219:=h5218.le le5179
           have h5220:=h5219.le le5201
           have h5221:=h5220.le le5208
           have q:=hS5211.freezeRR (R:=wBH) (k:=7) rfl h5221 rfl (by decide)
           obtain ⟨U5212,le5213,hs5214,hS5215⟩:=q
           have hS5222:sW w U U5212 [B54,B53,B50,B33,B27,B18,B32,B49,B34] W5200:=hS5215
           have h5223:=hs5209.le le5213
           have q:=bnd hm5196
           obtain ⟨⟨x5224,x5225⟩,h5226,hm5227⟩:=q
           try dsimp only at hm5227
           refine zL 0 Z Z Z Z (zK Z Z Tryz.call44 (zC Z zP) Z) hS5222 (fun hs=>wEm (⟨x323.Laps,y2805,y2806⟩:wAD) A5124 c5125 A5126 c5127 W5200 U5212 hs h5223 hs5214 h5226) (.inr Z) ?_
           rintro U5228 L5229 v5230 W5231 le5232 hS5233 ⟨A5234,c5235,rfl,rfl⟩
           let B55:Res:=.row A5234 c5235 45 4 (nA wAJ x5224)
           have hS5237:sW w U U5228 [B55,B54,B53,B50,B33,B27,B18,B32,B49,B34] W5231:=hS5233
           refine oM Z Z (oR Z (ZY Z Z (v:=.slice A5234 x5224.length c5235) Z) (oR Z (ZY Z Z (v:=jV x5225) Z) (oA Z Z (oA Z Z (eN (zF (CK.fresh fun σ5238 hσ5239=>?_)))))))
           have f5240:σ5238 14=jV x5146:=(hσ5239 14).trans rfl
           have f5241:σ5238 16=jV x5172:=(hσ5239 16).trans rfl
           have f5242:σ5238 19=jV x5194:=(hσ5239 19).trans rfl
           have f5243:σ5238 22=jV x5225:=(hσ5239 22).trans rfl
           have f5244:σ5238 30=.slice A5155 x5145.length c5156:=(hσ5239 30).trans rfl
           have f5245:σ5238 31=.slice A5181 x5171.length c5182:=(hσ5239 31).trans rfl
           have f5246:σ5238 32=.slice A5203 x5193.length c5204:=(hσ5239 32).trans rfl
           have f5247:σ5238 33=.slice A5234 x5224.length c5235:=(hσ5239 33).trans rfl
           clear hσ5239
           refine rR (wOo (.fx 17 (wRq (.fx 22 (.fl 23 (.fl 24 (.fx 25 (.fl 26 (.fl 27 .nil)) .stop))) .stop)) .stop)) Z (oM Z f5240 (oR Z (Runs.eql Z Z Z) (oM Z Z (ifc hm5227 ?_ ?_))))
           ·intro c5248 hm5249
            refine zR Z Z Z (wT Z c5248) Z f5241 (rU Z (wT Z c5248) (Runs.eql Z Z Z) (oR Z (zg Z (Zj c5248.out) Z) (oM Z Z (ifc hm5249 ?_ ?_))))
            ·intro c5250 hm5251
             refine zR Z Z Z (wT Z c5250) Z f5242 (rU Z (wT Z c5250) (Runs.eql Z Z Z) (oR Z (zg Z (Zj c5250.out) Z) (oM Z Z (ifc hm5251 ?_ ?_))))
             ·intro c5252 hm5253
              refine zR Z Z Z (wT Z c5252) Z f5243 (rU Z (wT Z c5252) (Runs.eql Z Z Z) (oR Z (zg Z (Zj c5252.out) Z) (oM Z Z (ifc hm5253 ?_ ?_))))
              ·intro c5254 hm5255
               refine zR Z Z Z (wT Z c5254) Z f5244 (zR Z Z Z (wT Z c5254) Z f5245 ?_)
               have q:=hS5237.freezeR (k:=3) (n:=x5145.length) rfl (wAB (f:=KL.encI) (sz:=1) (fun _=>rfl) x5145) (by decide)
               obtain ⟨U5256,le5257,hs5258,hS5259⟩:=q
               have hS5260:sW w U U5256 [B55,B54,B53,B33,B27,B18,B32,B49,B34] W5231:=hS5259
               have q:=hS5260.freezeR (k:=2) (n:=x5171.length) rfl (wAB (f:=KL.encI) (sz:=1) (fun _=>rfl) x5171) (by decide)
               obtain ⟨U5261,le5262,hs5263,hS5264⟩:=q
               have hS5265:sW w U U5261 [B55,B54,B33,B27,B18,B32,B49,B34] W5231:=hS5264
               have h5266:=hs5258.le le5262
               refine bnK hm5255 fun x5267 h5268 hm5269=>zL 0 Z Z Z (wT Z c5254) (zK Z Z Tryz.call61 (zC Z (zC Z zP)) Z) hS5265 (fun hs=>wEF x5145 A5155 c5156 x5171 A5181 c5182 W5231 U5261 hs h5266 hs5263 h5268) (.inr Z) ?_
               rintro U5270 L5271 v5272 W5273 le5274 hS5275 ⟨rfl,rfl⟩
               have hS5276:sW w U U5270 [B55,B54,B33,B27,B18,B32,B49,B34] W5273:=hS5275
               refine oR Z (zg Z (Zj c5254.out) Z) (oM Z Z (ifc hm5269 ?_ ?_))
               ·intro c5277 hm5278
                refine zR Z Z Z (zm Z Z (congrArg nD c5277.out)) Z f5246 (zR Z Z Z (zm Z Z (congrArg nD c5277.out)) Z f5247 ?_)
                have q:=hS5276.freezeR (k:=1) (n:=x5193.length) rfl (wAB (f:=wAJ) (sz:=4) (fun _=>rfl) x5193) (by decide)
                obtain ⟨U5279,le5280,hs5281,hS5282⟩:=q
                have hS5283:sW w U U5279 [B55,B33,B27,B18,B32,B49,B34] W5273:=hS5282
                have q:=hS5283.freezeR (k:=0) (n:=x5224.length) rfl (wAB (f:=wAJ) (sz:=4) (fun _=>rfl) x5224) (by decide)
                obtain ⟨U5284,le5285,hs5286,hS5287⟩:=q
                have hS5288:sW w U U5284 [B33,B27,B18,B32,B49,B34] W5273:=hS5287
                have h5289:=hs5281.le le5285
                refine bnK hm5278 fun x5290 h5291 hm5292=>zL 0 Z Z Z (zm Z Z (congrArg nD c5277.out)) (zK Z Z Tryz.call45 (zC Z (zC Z zP)) Z) hS5288 (fun hs=>wDF x5193 A5203 c5204 x5224 A5234 c5235 W5273 U5284 hs h5289 hs5286 h5291) (.inr Z) ?_
                rintro U5293 L5294 v5295 W5296 le5297 hS5298 ⟨rfl,rfl⟩
                have hS5299:sW w U U5293 [B33,B27,B18,B32,B49,B34] W5296:=hS5298
                refine oR Z (zg Z (congrArg nD c5277.out) Z) (oM Z Z (ifc hm5292 ?_ ?_))
                ·intro c5300 hm5301
                 refine bnK hm5301 fun x5302 h5303 hm5304=>zL 0 Z Z Z (zm Z Z (congrArg nD c5300.out)) (zK Z Z Tryz.call77 zP Z) hS5299 (fun hs=>wEj W5296 U5293 hs h5303) (.inr Z) ?_
                 rintro U5305 L5306 v5307 W5308 le5309 hS5310 ⟨rfl,rfl⟩
                 have hS5311:sW w U U5305 [B33,B27,B18,B32,B49,B34] W5308:=hS5310
                 refine oR Z (zg Z (congrArg nD c5300.out) Z) (oA Z Z (eN (zW ?_)))
                 have hE:=nB hm5304;first | subst r | cases hE
                 exact ⟨rfl,_,(ZF rfl),U5305,_,(hS5311.pick [] _ (by decide) rfl),rfl,rfl⟩
                ·intro c5300 hm5312
                 refine Zk Z Z Z (zy Z Z (congrArg nD (nE.2 c5300.out)) Z) (oR Z (zh Z (congrArg nD (nE.2 c5300.out)) Z) (oA Z Z (eN (zW ?_))))
                 have hE:=nB hm5312;first | subst r | cases hE
                 exact ⟨rfl,_,(ZF rfl),U5293,_,(hS5299.pick [] _ (by decide) rfl),rfl,rfl⟩
               ·intro c5277 hm5313
                refine zf Z Z Z (zy Z Z (congrArg nD (nE.2 c5277.out)) Z) (zf Z Z Z (zy Z Z (congrArg nD (nE.2 c5277.out)) Z) (Zk Z Z Z (zy Z Z (congrArg nD (nE.2 c5277.out)) Z) (oR Z (zh Z (congrArg nD (nE.2 c5277.out)) Z) (oM Z Z (Zk Z Z Z (zy Z Z Z Z) (oR Z (zh Z Z Z) (oA Z Z (eN (zW ?_)))))))))
                have hE:=nB hm5313;first | subst r | cases hE
                exact ⟨rfl,_,(ZF rfl),U5270,_,(hS5276.pick [] _ (by decide) rfl),rfl,rfl⟩
              ·intro c5254 hm5314
               refine oF Z c5254 (oF Z c5254 (Zk Z Z Z (zy Z Z (ZU c5254.out) Z) (oR Z (zh Z (ZU c5254.out) Z) (oM Z Z (oN Z (oN Z (Zk Z Z Z (zy Z Z Z Z) (oR Z (zh Z Z Z) (oM Z Z (Zk Z Z Z (zy Z Z Z Z) (oR Z (zh Z Z Z) (oA Z Z (eN (zW ?_))))))))))))))
               have hE:=nB hm5314;first | subst r | cases hE
               exact ⟨rfl,_,(ZF rfl),U5228,_,(hS5237.pick [] _ (by decide) rfl),rfl,rfl⟩
             ·intro c5252 hm5315
              refine oF Z c5252 (oF Z c5252 (oR Z (zh Z (ZU c5252.out) Z) (oM Z Z (oN Z (oN Z (Zk Z Z Z (zy Z Z Z Z) (oR Z (zh Z Z Z) (oM Z Z (oN Z (oN Z (Zk Z Z Z (zy Z Z Z Z) (oR Z (zh Z Z Z) (oM Z Z (Zk Z Z Z (zy Z Z Z Z) (oR Z (zh Z Z Z) (oA Z Z (eN (zW ?_))))))))))))))))))
              have hE:=nB hm5315;first | subst r | cases hE
              exact ⟨rfl,_,(ZF rfl),U5228,_,(hS5237.pick [] _ (by decide) rfl),rfl,rfl⟩
            ·intro c5250 hm5316
             refine oF Z c5250 (oF Z c5250 (oR Z (zh Z (ZU c5250.out) Z) (oM Z Z (oN Z (oN Z (oR Z (zh Z Z Z) (oM Z Z (oN Z (oN Z (Zk Z Z Z (zy Z Z Z Z) (oR Z (zh Z Z Z) (oM Z Z (oN Z (oN Z (Zk Z Z Z (zy Z Z Z Z) (oR Z (zh Z Z Z) (oM Z Z (Zk Z Z Z (zy Z Z Z Z) (oR Z (zh Z Z Z) (oA Z Z (eN (zW ?_))))))))))))))))))))))
             have hE:=nB hm5316;first | subst r | cases hE
             exact ⟨rfl,_,(ZF rfl),U5228,_,(hS5237.pick [] _ (by decide) rfl),rfl,rfl⟩
           ·intro c5248 hm5317
            refine oF Z c5248 (oF Z c5248 (oR Z (zh Z (ZU c5248.out) Z) (oM Z Z (oN Z (oN Z (oR Z (zh Z Z Z) (oM Z Z (oN Z (oN Z (oR Z (zh Z Z Z) (oM Z Z (oN Z (oN Z (Zk Z Z Z (zy Z Z Z Z) (oR Z (zh Z Z Z) (oM Z Z (oN Z (oN Z (Zk Z Z Z (zy Z Z Z Z) (oR Z (zh Z Z Z) (oM Z Z (Zk Z Z Z (zy Z Z Z Z) (oR Z (zh Z Z Z) (oA Z Z (eN (zW ?_))))))))))))))))))))))))))
            have hE:=nB hm5317;first | subst r | cases hE
            exact ⟨rfl,_,(ZF rfl),U5228,_,(hS5237.pick [] _ (by decide) rfl),rfl,rfl⟩
       ·intro c309 hm5318
        refine cT Z c309 (sR fL1 Z (oA Z Z (eN (zW (zk ?_)))))
        have hE:=nB hm5318;first | subst r | cases hE
        exact ⟨rfl,_,(ZF rfl),U300,_,(hS306.pick [] _ (by decide) rfl),rfl,rfl⟩
      ·intro c307 hm5319
       refine zf Z Z Z (zy Z Z (nF (c307.out)) Z) (zf Z Z Z (zy Z Z (nF (c307.out)) Z) (zf Z Z Z (zy Z Z (nF (c307.out)) Z) (oR Z (zg Z (nF (c307.out)) Z) (eN (ZK Z (sR fL1 Z (oA Z Z (eN (zW (zk ?_))))))))))
       have hE:=nB hm5319;first | subst r | cases hE
       exact ⟨rfl,_,(ZF rfl),U300,_,(hS306.pick [] _ (by decide) rfl),rfl,rfl⟩
     ·intro c284 hm5320
      refine oT Z c284 (oT Z c284 (Zk Z Z Z (zy Z Z (Zj c284.out) Z) (oT Z c284 (oR Z (zg Z (Zj c284.out) Z) (oM Z Z (oN Z (oN Z (oN Z (oR Z (zg Z Z Z) (eN (ZK Z (sR fL1 Z (oA Z Z (eN (zW (zk ?_))))))))))))))))
      have hE:=nB hm5320;first | subst r | cases hE
      exact ⟨rfl,_,(ZF rfl),U256,_,(hS265.pick [] _ (by decide) rfl),rfl,rfl⟩
    ·intro c282 hm5321
     refine oT Z c282 (oT Z c282 (oR Z (zg Z (Zj c282.out) Z) (oM Z Z (oN Z (oN Z (Zk Z Z Z (zy Z Z Z Z) (oN Z (oR Z (zg Z Z Z) (oM Z Z (oN Z (oN Z (oN Z (oR Z (zg Z Z Z) (eN (ZK Z (sR fL1 Z (oA Z Z (eN (zW (zk ?_))))))))))))))))))))
     have hE:=nB hm5321;first | subst r | cases hE
     exact ⟨rfl,_,(ZF rfl),U256,_,(hS265.pick [] _ (by decide) rfl),rfl,rfl⟩
   ·intro c280 hm5322
    refine oT Z c280 (oT Z c280 (oR Z (zg Z (Zj c280.out) Z) (oM Z Z (oN Z (oN Z (oR Z (zg Z Z Z) (oM Z Z (oN Z (oN Z (Zk Z Z Z (zy Z Z Z Z) (oN Z (oR Z (zg Z Z Z) (oM Z Z (oN Z (oN Z (oN Z (oR Z (zg Z Z Z) (eN (ZK Z (sR fL1 Z (oA Z Z (eN (zW (zk ?_))))))))))))))))))))))))
    have hE:=nB hm5322;first | subst r | cases hE
    exact ⟨rfl,_,(ZF rfl),U256,_,(hS265.pick [] _ (by decide) rfl),rfl,rfl⟩
  ·intro c278 hm5323
   refine oT Z c278 (oT Z c278 (oR Z (zg Z (Zj c278.out) Z) (oM Z Z (oN Z (oN Z (oR Z (zg Z Z Z) (oM Z Z (oN Z (oN Z (oR Z (zg Z Z Z) (oM Z Z (oN Z (oN Z (Zk Z Z Z (zy Z Z Z Z) (oN Z (oR Z (zg Z Z Z) (oM Z Z (oN Z (oN Z (oN Z (oR Z (zg Z Z Z) (eN (ZK Z (sR fL1 Z (oA Z Z (eN (zW (zk ?_))))))))))))))))))))))))))))
   have hE:=nB hm5323;first | subst r | cases hE
   exact ⟨rfl,_,(ZF rfl),U256,_,(hS265.pick [] _ (by decide) rfl),rfl,rfl⟩
end Go.Proofs.YtglpalgiipahjaaGreat
