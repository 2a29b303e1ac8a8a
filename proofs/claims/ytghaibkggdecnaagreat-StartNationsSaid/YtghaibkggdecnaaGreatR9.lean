import Derived.Test.YtghaibkggdecnaaGreatR8
import Derived.Test.YtghaibkggdecnaaGreatR7
set_option linter.all false
open Option.some renaming inj->nA
open Go.Value renaming bool->nB
open Bool renaming eq_false_iff->nD
open List renaming flatMap->nE
namespace Go.Proofs.YtghaibkggdecnaaGreat
open Go.KL
set_option maxHeartbeats 4000000
theorem wED (n_:Nat):∀ (p0:List wAD) (pA0:Option Addr) (pc0:Nat) (p1:List Int) (pA1:Option Addr) (pc1:Nat) (w:World) (U:PHeap) (hS:St0 w U []) (ha0:Sl U 3 pA0 pc0 p0.length (nE wAH p0)) (ha1:Sl U 1 pA1 pc1 p1.length (nE KL.encI p1)) {r:Int} (hm:wAq n_ p0 p1=some r),Gv Tryz.prog 113 [.slice pA0 p0.length pc0,.slice pA1 p1.length pc1] w (wCd w [] U (fun U_ L_ v=>v=jV r/\L_=[])):=by
 induction n_ with
 | zero =>
  intros
  rename_i hm
  have hm0:(none:Option (Int))=some _:=hm
  cases hm0
 | succ n_ ih =>
  intro p0 pA0 pc0 p1 pA1 pc1 w U hS ha0 ha1 r hm
  have hm:wBC (wAq n_) p0 p1=some r:=hm
  unfold wBC at hm
  refine Gv.of Tryz.func113 Z Tryz.ntmps113 Tryz.results113 Z (sR fL1 Z (oA Z Z (eN (zB (sR fL5 Z (oM Z Z (oR Z (zQ Z Z zA) (oM Z Z (oR Z (zQ Z Z zR) (oR Z (ZV Z Z Z) (eN ?_)))))))))))
  by_cases c1:(↑p1.length:Int)=(↑p0.length:Int)
  ·have hm2:=hm;rw [if_pos c1] at hm2;replace c1:=zC c1
   refine cT Z c1 (sR (.fl 0 (.fl 1 (.fx 2 (wIq (.nil)) .stop))) Z (oM Z Z (oM Z Z ?_)))
   have q:=bnd hm2
   obtain ⟨⟨x3,x4⟩,h5,hm6⟩:=q
   try dsimp only at hm6
   refine zM 0 Z Z Z Z (zN Z Z Tryz.call60 (zE Z (zE Z zW)) Z) hS (fun hs=>wCA p0 pA0 pc0 p1 pA1 pc1 w U hs ha0 ha1 h5) (.inr Z) ?_
   rintro U7 L8 v9 W10 le11 hS12 ⟨rfl,rfl⟩
   have hS13:sW w U U7 [] W10:=hS12
   refine oM Z Z (oR Z (zu Z Z (v:=jV x3) Z) (oR Z (zu Z Z (v:=jV x4) Z) (oA Z Z (oA Z Z (eN (sR fL2 Z (oM Z Z (oA Z Z (eN (zO (zH ?_)))))))))))
   have hE:=nA hm6;first | subst r | cases hE
   exact ⟨Z,_,(zm Z),U7,_,hS13,Z,Z⟩
  ·have hm14:=hm;rw [if_neg c1] at hm14;replace c1:=zC c1
   refine cF Z c1 (kN (sR fL1 Z (oA Z Z (eN (zB (sR fL1 Z (oA Z Z (eN (zU (bnK hm14 fun y26 hf23 hm22=>?_))))))))))
   have q:=wBH hf23
   obtain ⟨hle24,hf25⟩:=q
   replace hle24:=zC hle24
   refine CK.forN' (fun k21 x20 σ_ w_=>∃ (U_:PHeap),σ_ 8=jV (↑k21:Int)/\σ_ 0=.slice pA0 p0.length pc0/\σ_ 1=.slice pA1 p1.length pc1/\σ_ 7=jV x20/\PHeap.Le U U_/\sW w U U_ [] w_) hf25 ?_ ?_ ?_
   ·exact ⟨U,Z,Z,Z,Z,(zJ _),hS⟩
   ·rintro k21 x20 xx29 σ27 W28 hk32 ⟨U34,fi33,f37,f38,f39,le35,hS36⟩ hx30
    have c40:Hid ((↑k21:Int) < (↑p0.length:Int)):=zC (wBU hk32)
    replace hk32:=zC hk32
    have hi41:Hid (w64 ((↑k21:Int) + 1)=(↑(k21 + 1):Int)):=zC (by have h1:=hle24.out;have h2:=c40.out;rw [wAS] <;> omega)
    refine zB (sR fL4 Z (oM Z fi33 (oM Z f37 (oR Z (zQ Z Z zR) (oR Z (zP Z Z Z) (eN (cT Z c40 (kN (zB (zU (sR (.fx 0 (.fl 1 (.fx 2 (.fl 3 (.fx 4 (.fx 5 (.fl 6 (.nil)) .stop) .stop)) .stop)) .stop) Z (OKS.buildSlice0 1 Z Z Z Z Z zA zF hS36 ?_))))))))))))
    intro W42 b43 hS44
    have hS46:sW w U U34 [.row (some ⟨b43,0,none⟩) 0 3 1 (nE KL.encI ([]:List Int))] W42:=hS44
    refine oM Z f38 (bnK hx30 fun x47 h48 hm49=>?_)
    have h50:=ha1.le le35
    refine ZS (j:=0) (enc:=KL.encI) (xs:=([]:List Int)) (ys:=p1) (zs:=x47) Z Z Z Z Z ZT wIb Z Z Z Z Z Z hS46 Z Z Z (hS46.srcS h50) (fun _=>Z) (fun _=>Z) h48 Z ?_
    intro A51 c52 W53 hS54
    let B0:Res:=.row A51 c52 3 1 (nE KL.encI x47)
    have hS55:sW w U U34 [B0] W53:=hS54
    refine oM Z fi33 (ZQ (pv:=[(0,jV (↑k21:Int))]) (zs:=[jV 0]) (cs:=[jV (↑k21:Int)]) Z Z Z Z Z (wAs Z wCH) zA zF ZK Z Z Z Z Z hS55 ?_)
    intro W56 b57 hS58
    let B1:Res:=.row (some ⟨b57,0,none⟩) 1 3 1 (nE KL.encI [(↑k21:Int)])
    have hS60:sW w U U34 [B1,B0] W56:=hS58
    refine bnK hm49 fun x61 h62 hm63=>ZS (j:=1) (enc:=KL.encI) (xs:=x47) (ys:=[(↑k21:Int)]) (zs:=x61) rfl rfl rfl rfl rfl ZT wIb rfl rfl rfl rfl rfl rfl hS60 rfl rfl rfl (hS60.srcR (j:=0) rfl (by decide) (wAI (f:=KL.encI) (sz:=1) (fun _=>rfl) [(↑k21:Int)])) (fun _=>rfl) (fun _=>rfl) h62 rfl ?_
    intro A64 c65 W66 hS67
    have hS68:sW w U U34 [B1,.row A64 c65 3 1 (nE KL.encI x61)] W66:=hS67
    refine oA Z Z (eN (sR (.fl 0 (.fx 1 (.fl 2 (.nil)) .stop)) Z (oM Z Z ?_)))
    have q:=hS68.freezeR (k:=1) (n:=x61.length) rfl (wAI (f:=KL.encI) (sz:=1) (fun _=>rfl) x61) (by decide)
    obtain ⟨U69,le70,hs71,hS72⟩:=q
    have hS73:sW w U U69 [B1] W66:=hS72
    refine bnK hm63 fun x74 h75 hm76=>zM 0 Z Z Z Z (zN Z Z Tryz.call78 (zE Z zW) Z) hS73 (fun hs=>wCh x61 A64 c65 W66 U69 hs hs71 h75) (.inr Z) ?_
    rintro U77 L78 v79 W80 le81 hS82 ⟨rfl,rfl⟩
    have hS83:sW w U U77 [B1] W80:=hS82
    refine oR Z (ZW Z Z) (eN (ifc hm76 ?_ ?_))
    ·intro c84 hm85
     refine zk (nC c84.out) (zy (zd (zD (rR fL3 Z (oM Z fi33 (oR Z (zl (zg Z Z Z) (congrArg (jV) hi41.out)) (oA Z Z (zj ?_))))))))
     cases hm85
     exact zD ⟨rfl,⟨U77,rfl,f37,f38,f39,((le35.trans le70).trans le81),(hS83.pick [] _ (by decide) rfl)⟩⟩
    ·intro c84 hm87
     refine zn (nF (c84.out)) (rR (wNY (.fx 3 (.fl 4 (.fl 5 (.nil))) .stop)) Z (oM Z f39 (oM Z f37 (oM Z Z ?_))))
     have h88:=ha0.le le35
     have h89:=h88.le le70
     have h90:=h89.le le81
     have h91:=hs71.le le81
     refine bnK hm87 fun x92 h93 hm94=>zM 0 Z Z Z Z (zN Z Z Tryz.call113 (zE Z (zE Z zW)) Z) hS83 (fun hs=>ih p0 pA0 pc0 x61 A64 c65 W80 U77 hs h90 h91 h93) (.inr Z) ?_
     rintro U95 L96 v97 W98 le99 hS100 ⟨rfl,rfl⟩
     have hS101:sW w U U95 [B1] W98:=hS100
     refine oR Z (Runs.max Z Z Z) (oA Z Z (zj (zd (zD (rR fL3 Z (oM Z fi33 (oR Z (zl (zg Z Z Z) (congrArg (jV) hi41.out)) (oA Z Z (zj ?_)))))))))
     cases hm94
     exact zD ⟨rfl,⟨U95,rfl,f37,f38,rfl,(((le35.trans le70).trans le81).trans le99),(hS101.pick [] _ (by decide) rfl)⟩⟩
   ·rintro σ103 W104 ⟨U108,fi106,f111,f112,f113,le109,hS110⟩
    have c114:Hid (¬ ((↑(((↑p0.length:Int):Int) - 0).toNat:Int) < (↑p0.length:Int))):=zC (wAv)
    refine zB (sR fL4 Z (oM Z fi106 (oM Z f111 (oR Z (zQ Z Z zR) (oR Z (zP Z Z Z) (eN (cF Z c114 (zx (ze (ze (zq (zD (sR fL2 Z (oM Z f113 (oA Z Z (eN (zO ?_)))))))))))))))))
    have hE:=nA hm22;first | subst r | cases hE
    exact ⟨Z,_,(zm Z),U108,_,hS110,Z,Z⟩
theorem wEb (p0:List wAD) (pA0:Option Addr) (pc0:Nat) (w:World) (U:PHeap) (hS:St0 w U []) (ha0:Sl U 3 pA0 pc0 p0.length (nE wAH p0)) {r:Int × Int} (hm:wAw p0=some r):Gv Tryz.prog 64 [.slice pA0 p0.length pc0] w (wCd w [] U (fun U_ L_ v=>v=.tuple #[jV r.1,jV r.2]/\L_=[])):=by
 unfold wAw at hm
 refine Gv.of Tryz.func64 Z Tryz.ntmps64 Tryz.results64 Z (sR fL2 Z (oA Z Z (oA Z Z (eN (zB (sR (.fl 0 (.fx 1 (.fl 2 (.nil)) .stop)) Z (oM Z Z (bnK hm fun x1 h2 hm3=>zM 0 Z Z Z Z (zN Z Z Tryz.call42 (zE Z zW) Z) hS (fun hs=>wBz p0 pA0 pc0 w U hs ha0 h2) (.inr Z) ?_))))))))
 rintro U4 L5 v6 W7 le8 hS9 ⟨rfl,rfl⟩
 have hS10:sW w U U4 [] W7:=hS9
 refine oA Z Z (eN (sR fL2 Z (oM Z Z (oR Z (zw Z Z Z) (eN (ifc hm3 ?_ ?_))))))
 ·intro c11 hm12
  refine zk (zi (fun h=>h c11.out)) (kN (zB (sR fL3 Z (oM Z Z (oR Z (zQ Z Z zR) (oR Z (Runs.leq Z Z Z) (eN (ifc hm12 ?_ ?_))))))))
  ·intro c13 hm14
   refine cT Z c13 (sR (.fl 0 (.fx 1 (.fl 2 (.fl 3 (.nil))) .stop)) Z (oM Z Z ?_))
   have h15:=ha0.le le8
   refine bnK hm14 fun x16 h17 hm18=>zM 0 rfl rfl rfl rfl (zN rfl rfl Tryz.call113 (zE rfl (zE rfl zW)) rfl) hS10 (fun hs=>wED 1000 p0 pA0 pc0 [] none 0 W7 U4 hs h15 (by first | exact Sl.nil _ _ _ _ | exact SlR.nil) h17) (.inr rfl) ?_
   rintro U19 L20 v21 W22 le23 hS24 ⟨rfl,rfl⟩
   have hS25:sW w U U19 [] W22:=hS24
   refine oA Z Z (oA Z Z (eN (zO (zH ?_))))
   cases hm18
   exact ⟨Z,_,(wEf Z Z),U19,_,hS25,Z,Z⟩
  ·intro c13 hm26
   refine cF Z c13 (kN (sR fL3 Z (oM Z Z (oR Z (zQ Z Z zR) (oA Z Z (eN (zB (sR fL1 Z (oA Z Z (eN (zU (bnK hm26 fun y38 hf35 hm34=>?_))))))))))))
   have q:=wBH hf35
   obtain ⟨hle36,hf37⟩:=q
   replace hle36:=zC hle36
   refine CK.forN' (fun k33 x32 σ_ w_=>∃ (U_:PHeap),σ_ 6=jV (2 + ↑k33:Int)/\σ_ 0=.slice pA0 p0.length pc0/\σ_ 5=jV x32/\PHeap.Le U4 U_/\sW w U U_ [] w_) hf37 ?_ ?_ ?_
   ·exact ⟨U4,Z,Z,Z,(zJ _),hS10⟩
   ·rintro k33 x32 xx41 σ39 W40 hk44 ⟨U46,fi45,f49,f50,le47,hS48⟩ hx42
    have c51:Hid ((2 + ↑k33:Int) <= (↑p0.length:Int)):=zC (lp_le hk44)
    replace hk44:=zC hk44
    have hi52:Hid (w64 ((2 + ↑k33:Int) + 1)=(2 + ↑(k33 + 1):Int)):=zC (by have h1:=hle36.out;have h2:=c51.out;rw [wAS] <;> omega)
    refine zB (sR fL4 Z (oM Z fi45 (oM Z f49 (oR Z (zQ Z Z zR) (oR Z (Runs.leq Z Z Z) (eN (cT Z c51 (kN (zB (zU (sR fL1 Z (oA Z Z (eN (zB (sR fL1 Z (oA Z Z (eN (zU (bnK hx42 fun y64 hf61 hm60=>?_)))))))))))))))))))
    have q:=wBH hf61
    obtain ⟨hle62,hf63⟩:=q
    replace hle62:=zC hle62
    refine CK.forN' (fun k59 x58 σ_ w_=>∃ (U_:PHeap),σ_ 8=jV (↑k59:Int)/\σ_ 0=.slice pA0 p0.length pc0/\σ_ 5=jV x32/\σ_ 6=jV (2 + ↑k33:Int)/\σ_ 7=jV x58/\PHeap.Le U46 U_/\sW w U U_ [] w_) hf63 ?_ ?_ ?_
    ·exact ⟨U46,Z,f49,f50,fi45,Z,(zJ _),hS48⟩
    ·rintro k59 x58 xx67 σ65 W66 hk70 ⟨U72,fi71,f75,f76,f77,f78,le73,hS74⟩ hx68
     have c79:Hid ((↑k59:Int) <= 30):=zC (wQT hk70)
     replace hk70:=zC hk70
     have hi80:Hid (w64 ((↑k59:Int) + 1)=(↑(k59 + 1):Int)):=zC (by have h1:=hle62.out;have h2:=c79.out;rw [wAS] <;> omega)
     refine zB (sR fL2 Z (oM Z fi71 (oR Z (Runs.leq Z Z Z) (eN (cT Z c79 (kN (zB (zU (sR (.fl 0 (.fl 1 (.fx 2 (.fl 3 (.fl 4 (.nil))) .stop))) Z (oM Z f75 (oM Z fi71 ?_)))))))))))
     have h81:=ha0.le le8
     have h82:=h81.le le47
     have h83:=h82.le le73
     refine bnK hx68 fun x84 h85 hm86=>zM 0 Z Z Z Z (zN Z Z Tryz.call112 (zE Z (zE Z zW)) Z) hS74 (fun hs=>wCy p0 pA0 pc0 (↑k59:Int) W66 U72 hs h83 h85) (.inr Z) ?_
     rintro U87 L88 v89 W90 le91 hS92 ⟨rfl,rfl⟩
     have hS93:sW w U U87 [] W90:=hS92
     refine oM Z f77 (oR Z (Runs.geq Z Z Z) (eN (ifc hm86 ?_ ?_)))
     ·intro c94 hm95
      refine cT Z c94 (rR fL3 Z (oM Z f78 (oR Z (zg Z Z Z) (oA Z Z (zj (zd (zD (rR fL3 Z (oM Z fi71 (oR Z (zl (zg Z Z Z) (congrArg (jV) hi80.out)) (oA Z Z (zj ?_))))))))))))
      cases hm95
      exact zD ⟨Z,⟨U87,Z,f75,f76,f77,Z,(le73.trans le91),hS93⟩⟩
     ·intro c94 hm97
      refine cF Z c94 (zy (zd (zD (rR fL3 Z (oM Z fi71 (oR Z (zl (zg Z Z Z) (congrArg (jV) hi80.out)) (oA Z Z (zj ?_))))))))
      cases hm97
      exact zD ⟨Z,⟨U87,Z,f75,f76,f77,f78,(le73.trans le91),hS93⟩⟩
    ·rintro σ99 W100 ⟨U104,fi102,f107,f108,f109,f110,le105,hS106⟩
     have c111:Hid (¬ ((↑(((30 + 1):Int) - 0).toNat:Int) <= 30)):=zC (wKi)
     refine zB (sR fL2 Z (oM Z fi102 (oR Z (Runs.leq Z Z Z) (eN (cF Z c111 (zx (ze (ze (zq (zD (sR fL13 Z (oM Z f110 (oR Z (ZJ Z Z Z) (oM Z Z (ifc hm60 ?_ ?_)))))))))))))))
     ·intro c112 hm113
      refine zK Z Z Z (wT Z c112) Z f107 (rU Z (wT Z c112) (zQ Z Z zR) (zK Z Z Z (wT Z c112) Z f110 (rU Z (wT Z c112) (ZB Z Z Z) (zK Z Z Z (wT Z c112) Z f109 (rU Z (wT Z c112) (ZB Z Z Z) (bnK hm113 fun x114 h115 hm116=>rU Z (wT Z c112) (Runs.quo Z Z Z h115) (zK Z Z Z (wT Z c112) Z f108 (rU Z (wT Z c112) (zP Z Z Z) (oR Z (zS Z (ZD c112.out) Z) (eN (ifc hm116 ?_ ?_)))))))))))
      ·intro c117 hm118
       refine cT Z c117 (rR fL8 Z (oM Z f107 (oR Z (zQ Z Z zR) (oM Z f110 (oR Z (ZB Z Z Z) (oM Z f109 (oR Z (ZB Z Z Z) (bnK hm118 fun x119 h120 hm121=>oR Z (Runs.quo Z Z Z h120) (oA Z Z (zj (zd (zD (rR fL3 Z (oM Z f109 (oR Z (zl (zg Z Z Z) (congrArg (jV) hi52.out)) (oA Z Z (zj ?_)))))))))))))))))
       cases hm121
       exact zD ⟨Z,⟨U104,Z,f107,Z,(le47.trans le105),hS106⟩⟩
      ·intro c117 hm123
       refine cF Z c117 (zy (zd (zD (rR fL3 Z (oM Z f109 (oR Z (zl (zg Z Z Z) (congrArg (jV) hi52.out)) (oA Z Z (zj ?_))))))))
       cases hm123
       exact zD ⟨Z,⟨U104,Z,f107,f108,(le47.trans le105),hS106⟩⟩
     ·intro c112 hm125
      refine oF Z c112 (oF Z c112 (oF Z c112 (oF Z c112 (oF Z c112 (oF Z c112 (oF Z c112 (oF Z c112 (oF Z c112 (oR Z (zX Z (zi c112.out) Z) (eN (zk Z (zy (zd (zD (rR fL3 Z (oM Z f109 (oR Z (zl (zg Z Z Z) (congrArg (jV) hi52.out)) (oA Z Z (zj ?_)))))))))))))))))))
      cases hm125
      exact zD ⟨Z,⟨U104,Z,f107,f108,(le47.trans le105),hS106⟩⟩
   ·rintro σ127 W128 ⟨U132,fi130,f135,f136,le133,hS134⟩
    have c137:Hid (¬ ((2 + ↑((((↑p0.length:Int) + 1):Int) - 2).toNat:Int) <= (↑p0.length:Int))):=zC (wLV)
    refine zB (sR fL4 Z (oM Z fi130 (oM Z f135 (oR Z (zQ Z Z zR) (oR Z (Runs.leq Z Z Z) (eN (cF Z c137 (zx (ze (ze (zq (zD (sR fL3 Z (oM Z f136 (oA Z Z (oA Z Z (eN (zO ?_))))))))))))))))))
    cases hm34
    exact ⟨Z,_,(wEf Z Z),U132,_,hS134,Z,Z⟩
 ·intro c11 hm138
  refine cT Z c11 (sR fL3 Z (oM Z Z (oA Z Z (oA Z Z (eN (zO (zH ?_)))))))
  cases hm138
  exact ⟨Z,_,(wEf Z Z),U4,_,hS10,Z,Z⟩
theorem wHj (p0:List wAA) (pA0:Option Addr) (pc0:Nat) (w:World) (U:PHeap) (hS:St0 w U []) (ha0:Sl U 3 pA0 pc0 p0.length (nE wAE p0)) {r:(List Int) × Int} (hm:wBk p0=some r):Gv Tryz.prog 52 [.slice pA0 p0.length pc0] w (wCd w [] U (fun U_ L_ v=>∃ (A0:Option Addr) (c0:Nat),v=.tuple #[.slice A0 r.1.length c0,jV r.2]/\L_=[.row A0 c0 3 1 (nE KL.encI r.1)])):=by
 unfold wBk at hm
 refine Gv.of Tryz.func52 Z Tryz.ntmps52 Tryz.results52 Z (sR fL2 Z (oA Z Z (oA Z Z (eN (zB (sR (.fl 0 (.fx 1 (.fl 2 (.nil)) .stop)) Z (oM Z Z (bnK hm fun x1 h2 hm3=>zM 0 Z Z Z Z (zN Z Z Tryz.call41 (zE Z zW) Z) hS (fun hs=>wCo p0 pA0 pc0 w U hs ha0 h2) (.inr Z) ?_))))))))
 rintro U4 L5 v6 W7 le8 hS9 ⟨rfl,rfl⟩
 have hS10:sW w U U4 [] W7:=hS9
 refine oA Z Z (eN (sR fL2 Z (oM Z Z (oR Z (zw Z Z Z) (eN (ifc hm3 ?_ ?_))))))
 ·intro c11 hm12
  refine zk (zi (fun h=>h c11.out)) (kN (sR (.fl 0 (.fx 1 (.fx 2 (wIq (.nil)) .stop) .stop)) Z (oM Z Z ?_)))
  have h13:=ha0.le le8
  refine bnK hm12 fun x14 h15 hm16=>zM 0 Z Z Z Z (zN Z Z Tryz.call90 (zE Z zW) Z) hS10 (fun hs=>wCx p0 pA0 pc0 W7 U4 hs h13 h15) (.inr Z) ?_
  rintro U17 L18 v19 W20 le21 hS22 ⟨rfl,rfl⟩
  have hS23:sW w U U17 [] W20:=hS22
  have q:=bnd hm16
  obtain ⟨⟨x24,x25⟩,h26,hm27⟩:=q
  try dsimp only at hm27
  refine zM 0 Z Z Z Z (zN Z Z Tryz.call91 (zE Z zW) Z) hS23 (fun hs=>wCQ x14 W20 U17 hs h26) (.inr Z) ?_
  rintro U28 L29 v30 W31 le32 hS33 ⟨A34,c35,rfl,rfl⟩
  have hS37:sW w U U28 [.row A34 c35 3 1 (nE KL.encI x24)] W31:=hS33
  refine oM Z Z (oR Z (zu Z Z (v:=.slice A34 x24.length c35) Z) (oR Z (zu Z Z (v:=jV x25) Z) (oA Z Z (oA Z Z (eN (zB (sR fL2 Z (oM Z Z (oR Z (zP Z Z Z) (eN (ifc hm27 ?_ ?_)))))))))))
  ·intro c38 hm39
   refine cT Z c38 (sR fL2 Z (oA Z Z (oA Z Z (eN (zO (zH ?_))))))
   have hS40:=hS37.nilrow 3 1
   cases hm39
   exact ⟨rfl,_,(wEf rfl rfl),U28,_,(hS40.pick [0] _ (by decide) rfl),none,0,rfl,rfl⟩
  ·intro c38 hm42
   refine cF Z c38 (kN (sR fL3 Z (oM Z Z (oA Z Z (oA Z Z (eN (zO ?_)))))))
   cases hm42
   exact ⟨Z,_,(wEf Z Z),U28,_,hS37,A34,c35,Z,Z⟩
 ·intro c11 hm43
  refine cT Z c11 (sR fL3 Z (oM Z Z (oA Z Z (oA Z Z (eN (zO (zH ?_)))))))
  have hS44:=hS10.nilrow 3 1
  cases hm43
  exact ⟨Z,_,(wEf Z Z),U4,_,hS44,none,0,Z,Z⟩
theorem wBi (p0:List wAA) (pA0:Option Addr) (pc0:Nat) (p1:List wAA) (pA1:Option Addr) (pc1:Nat) (w:World) (U:PHeap) (hS:St0 w U []) (ha0:Sl U 3 pA0 pc0 p0.length (nE wAE p0)) (ha1:Sl U 3 pA1 pc1 p1.length (nE wAE p1)) {r:Bool} (hm:wAP p0 p1=some r):Gv Tryz.prog 50 [.slice pA0 p0.length pc0,.slice pA1 p1.length pc1] w (wCd w [] U (fun U_ L_ v=>v=.bool r/\L_=[])):=by
 unfold wAP at hm
 refine Gv.of Tryz.func50 Z Tryz.ntmps50 Tryz.results50 Z (sR fL1 Z (oA Z Z (eN (zB (sR fL5 Z (oM Z Z (oR Z (zQ Z Z zV) (oM Z Z (oR Z (zQ Z Z zV) (oR Z (zw Z Z Z) (eN ?_)))))))))))
 by_cases c1:(↑p0.length:Int)=(↑p1.length:Int)
 ·have hm2:=hm;rw [if_pos c1] at hm2;replace c1:=zC c1
  refine zk (zi (fun h=>h c1.out)) (kN (zB (sR fL3 Z (oM Z Z (oR Z (zQ Z Z zV) (oM Z Z (eN (zU ?_))))))))
  have q:=wBy hm2
  obtain ⟨r5,hX6⟩:=q
  have q:=wBx hX6
  obtain ⟨hle7,hf8⟩:=q
  replace hle7:=zC hle7
  refine ZU (fun k4 _ σ_ w_=>∃ (U_:PHeap),σ_ 13=jV (↑k4:Int)/\σ_ 0=.slice pA0 p0.length pc0/\σ_ 1=.slice pA1 p1.length pc1/\σ_ 12=jV (↑p0.length:Int)/\PHeap.Le U U_/\sW w U U_ [] w_) hf8 ?_ ?_ ?_
  ·exact ⟨U,Z,Z,Z,Z,(zJ _),hS⟩
  ·rintro k4 ⟨⟩ xx11 σ9 W10 hk14 ⟨U16,fi15,f19,f20,f21,le17,hS18⟩ hx12 hb13
   try dsimp only at hx12
   have c22:Hid ((↑k4:Int) < (↑p0.length:Int)):=zC (wBU hk14)
   replace hk14:=zC hk14
   have hi23:Hid (w64 ((↑k4:Int) + 1)=(↑(k4 + 1):Int)):=zC (by have h1:=hle7.out;have h2:=c22.out;rw [wAS] <;> omega)
   refine sR fL1 rfl (zZ rfl rfl rfl rfl (fun _=>zP rfl fi15 f21) (eN (zB (cT Z c22 (kN (zB (zU (sR fL2 rfl (zK rfl rfl rfl rfl rfl fi15 (ZX rfl rfl rfl rfl rfl rfl (eN (zB (Zd Za [3,3,3,1,3,3,3,1,3] fL9 (by kernel_rfl) ?_)))))))))))))
   have hS24:=hS18.drew
   generalize hw_W25:({ W10 with drawn:=W10.drawn + 1 }:World)=W25 at hS24 ⊢
   refine oM Z f19 (oM Z Z (bnK hx12 fun x26 h27 hm28=>?_))
   have h29:=ha0.le le17
   have q:=h29.el (fun _=>rfl) (wAN h27)
   obtain ⟨b30,off31,hA32,hC33⟩:=q
   refine oR Z (zt Z Z hA32 Z zV zr (wBL h27)) (oL Z (hS24.ldCA (f:=0) hC33 Z Z Tryz.isAgg62 zr (us:=[jV x26.Bib,jV x26.Nation,jV x26.Rank]) Z Z) (oM Z f20 (oM Z Z (bnK hm28 fun x34 h35 hm36=>?_))))
   have h37:=ha1.le le17
   have q:=h37.el (fun _=>rfl) (wAN h35)
   obtain ⟨b38,off39,hA40,hC41⟩:=q
   refine oR Z (zt Z Z hA40 Z zV zr (wBL h35)) (oL Z (hS24.ldCA (f:=0) hC41 Z Z Tryz.isAgg62 zr (us:=[jV x34.Bib,jV x34.Nation,jV x34.Rank]) Z Z) (oR Z (zl (Runs.neS (enc:=wAE) (a:=x26) (b:=x34) Z Z Z eqT62 eqG62) (congrArg nB (decide_not).symm)) (eN (ifc hm36 ?_ ?_))))
   ·intro c42 hm43
    refine zk (zi (fun h=>h c42.out)) (zy (zd (zD (rR fL2 Z (oR Z (zl (zg Z fi15 Z) (congrArg (jV) hi23.out)) (oM Z Z (zj ?_)))))))
    obtain rfl:=nA hm43
    exact zD ⟨Z,_,Z,⟨U16,Z,f19,f20,f21,le17,hS24⟩⟩
   ·intro c42 hm44
    refine cT Z c42 (sR fL1 Z (oA Z Z (eN (zO (zh (zH ?_))))))
    have q:=wBE hm44
    obtain ⟨v45,hm46,e47⟩:=q
    obtain rfl:=wCD hm2 hX6 (hb13 v45 e47)
    refine zH (zh (zH ?_))
    have hE:=nA hm46;first | subst r | cases hE
    exact ⟨Z,_,(zm Z),U16,_,hS24,Z,Z⟩
  ·rintro ⟨⟩ σ48 W49 ⟨U52,fi51,f55,f56,f57,le53,hS54⟩ hb50
   have hm58:=wCk hm2 hX6 hb50
   try dsimp only at hm58
   have c59:Hid (¬ ((↑(((↑p0.length:Int):Int) - 0).toNat:Int) < (↑p0.length:Int))):=zC (wAv)
   refine sR fL1 Z (oR Z (zP Z fi51 f57) (eN (zB (cF Z c59 (zx (ze (ze (zq (zD (sR fL1 Z (oA Z Z (eN (zO ?_)))))))))))))
   have hE:=nA hm58;first | subst r | cases hE
   exact ⟨Z,_,(zm Z),U52,_,hS54,Z,Z⟩
 ·have hm60:=hm;rw [if_neg c1] at hm60;replace c1:=zC c1
  refine cT Z c1 (sR fL1 Z (oA Z Z (eN (zO (zH ?_)))))
  have hE:=nA hm60;first | subst r | cases hE
  exact ⟨Z,_,(zm Z),U,_,hS,Z,Z⟩
theorem wBY (p0:List Int) (pA0:Option Addr) (pc0:Nat) (p1:List Int) (pA1:Option Addr) (pc1:Nat) (w:World) (U:PHeap) (hS:St0 w U []) (ha0:Sl U 1 pA0 pc0 p0.length (nE KL.encI p0)) (ha1:Sl U 1 pA1 pc1 p1.length (nE KL.encI p1)) {r:Bool} (hm:wAV p0 p1=some r):Gv Tryz.prog 15 [.slice pA0 p0.length pc0,.slice pA1 p1.length pc1] w (wCd w [] U (fun U_ L_ v=>v=.bool r/\L_=[])):=by
 unfold wAV at hm
 refine Gv.of Tryz.func15 Z Tryz.ntmps15 Tryz.results15 Z (sR fL1 Z (oA Z Z (eN (zB (sR fL5 Z (oM Z Z (oR Z (zQ Z Z zA) (oM Z Z (oR Z (zQ Z Z zA) (oR Z (zw Z Z Z) (eN ?_)))))))))))
 by_cases c1:(↑p0.length:Int)=(↑p1.length:Int)
 ·have hm2:=hm;rw [if_pos c1] at hm2;replace c1:=zC c1
  refine zk (zi (fun h=>h c1.out)) (kN (zB (sR fL3 Z (oM Z Z (oR Z (zQ Z Z zA) (oM Z Z (eN (zU ?_))))))))
  have q:=wBy hm2
  obtain ⟨r5,hX6⟩:=q
  have q:=wBx hX6
  obtain ⟨hle7,hf8⟩:=q
  replace hle7:=zC hle7
  refine ZU (fun k4 _ σ_ w_=>∃ (U_:PHeap),σ_ 13=jV (↑k4:Int)/\σ_ 0=.slice pA0 p0.length pc0/\σ_ 1=.slice pA1 p1.length pc1/\σ_ 12=jV (↑p0.length:Int)/\PHeap.Le U U_/\sW w U U_ [] w_) hf8 ?_ ?_ ?_
  ·exact ⟨U,Z,Z,Z,Z,(zJ _),hS⟩
  ·rintro k4 ⟨⟩ xx11 σ9 W10 hk14 ⟨U16,fi15,f19,f20,f21,le17,hS18⟩ hx12 hb13
   try dsimp only at hx12
   have c22:Hid ((↑k4:Int) < (↑p0.length:Int)):=zC (wBU hk14)
   replace hk14:=zC hk14
   have hi23:Hid (w64 ((↑k4:Int) + 1)=(↑(k4 + 1):Int)):=zC (by have h1:=hle7.out;have h2:=c22.out;rw [wAS] <;> omega)
   refine sR fL1 rfl (zZ rfl rfl rfl rfl (fun _=>zP rfl fi15 f21) (eN (zB (cT Z c22 (kN (zB (zU (sR fL2 rfl (zK rfl rfl rfl rfl rfl fi15 (ZX rfl rfl rfl rfl rfl rfl (eN (zB (Zd Za [3,3,3,1,3,3,3,1,3] fL9 (by kernel_rfl) ?_)))))))))))))
   have hS24:=hS18.drew
   generalize hw_W25:({ W10 with drawn:=W10.drawn + 1 }:World)=W25 at hS24 ⊢
   refine oM Z f19 (oM Z Z (bnK hx12 fun x26 h27 hm28=>?_))
   have h29:=ha0.le le17
   have q:=h29.el (fun _=>rfl) (wAN h27)
   obtain ⟨b30,off31,hA32,hC33⟩:=q
   refine oR Z (zt Z Z hA32 Z zA zF (wBL h27)) (oL Z (hS24.ldC (f:=0) hC33 (v:=jV x26) Z Z zL Z) (oM Z f20 (oM Z Z (bnK hm28 fun x34 h35 hm36=>?_))))
   have h37:=ha1.le le17
   have q:=h37.el (fun _=>rfl) (wAN h35)
   obtain ⟨b38,off39,hA40,hC41⟩:=q
   refine oR Z (zt Z Z hA40 Z zA zF (wBL h35)) (oL Z (hS24.ldC (f:=0) hC41 (v:=jV x34) Z Z zL Z) (oR Z (zw Z Z Z) (eN (ifc hm36 ?_ ?_))))
   ·intro c42 hm43
    refine zk (zi (fun h=>h c42.out)) (zy (zd (zD (rR fL2 Z (oR Z (zl (zg Z fi15 Z) (congrArg (jV) hi23.out)) (oM Z Z (zj ?_)))))))
    obtain rfl:=nA hm43
    exact zD ⟨Z,_,Z,⟨U16,Z,f19,f20,f21,le17,hS24⟩⟩
   ·intro c42 hm44
    refine cT Z c42 (sR fL1 Z (oA Z Z (eN (zO (zh (zH ?_))))))
    have q:=wBE hm44
    obtain ⟨v45,hm46,e47⟩:=q
    obtain rfl:=wCD hm2 hX6 (hb13 v45 e47)
    refine zH (zh (zH ?_))
    have hE:=nA hm46;first | subst r | cases hE
    exact ⟨Z,_,(zm Z),U16,_,hS24,Z,Z⟩
  ·rintro ⟨⟩ σ48 W49 ⟨U52,fi51,f55,f56,f57,le53,hS54⟩ hb50
   have hm58:=wCk hm2 hX6 hb50
   try dsimp only at hm58
   have c59:Hid (¬ ((↑(((↑p0.length:Int):Int) - 0).toNat:Int) < (↑p0.length:Int))):=zC (wAv)
   refine sR fL1 Z (oR Z (zP Z fi51 f57) (eN (zB (cF Z c59 (zx (ze (ze (zq (zD (sR fL1 Z (oA Z Z (eN (zO ?_)))))))))))))
   have hE:=nA hm58;first | subst r | cases hE
   exact ⟨Z,_,(zm Z),U52,_,hS54,Z,Z⟩
 ·have hm60:=hm;rw [if_neg c1] at hm60;replace c1:=zC c1
  refine cT Z c1 (sR fL1 Z (oA Z Z (eN (zO (zH ?_)))))
  have hE:=nA hm60;first | subst r | cases hE
  exact ⟨Z,_,(zm Z),U,_,hS,Z,Z⟩
theorem wCz (p0:List wAA) (pA0:Option Addr) (pc0:Nat) (p1:List Int) (pA1:Option Addr) (pc1:Nat) (p2:List Int) (pA2:Option Addr) (pc2:Nat) (p3:Int) (w:World) (U:PHeap) (hS:St0 w U []) (ha0:Sl U 3 pA0 pc0 p0.length (nE wAE p0)) (ha1:Sl U 1 pA1 pc1 p1.length (nE KL.encI p1)) (ha2:Sl U 1 pA2 pc2 p2.length (nE KL.encI p2)) {r:Bool} (hm:wBA p0 p1 p2 p3=some r):Gv Tryz.prog 9 [.slice pA0 p0.length pc0,.slice pA1 p1.length pc1,.slice pA2 p2.length pc2,jV p3] w (wCd w [] U (fun U_ L_ v=>v=.bool r/\L_=[])):=by
 unfold wBA at hm
 refine Gv.of Tryz.func9 Z Tryz.ntmps9 Tryz.results9 Z (sR fL1 Z (oA Z Z (eN (zB (sR fL13 Z (oM Z Z (oR Z (zQ Z Z zV) (oR Z (ZJ Z Z Z) (oM Z Z ?_)))))))))
 by_cases c1:64 < (↑p0.length:Int)
 ·have hm2:=hm;rw [if_pos c1] at hm2;replace c1:=zC c1
  refine oT Z c1 (oT Z c1 (oT Z c1 (oR Z (zS Z (ZD c1.out) Z) (oM Z Z (oN Z (oN Z (oN Z (oR Z (zS Z Z Z) (eN (zn Z (sR (.fx 0 (.fl 1 (.nil)) .stop) Z (bnK hm2 fun x3 h4 hm5=>zM 0 Z Z Z Z (zN Z Z Tryz.call11 zW Z) hS (fun hs=>wBQ w U hs h4) (.inr Z) ?_))))))))))))
  rintro U6 L7 v8 W9 le10 hS11 ⟨rfl,rfl⟩
  have hS12:sW w U U6 [] W9:=hS11
  refine oA Z Z (eN (zO (zH ?_)))
  have hE:=nA hm5;first | subst r | cases hE
  exact ⟨Z,_,(zm Z),U6,_,hS12,Z,Z⟩
 ·have hm13:=hm;rw [if_neg c1] at hm13;replace c1:=zC c1
  refine zK Z Z Z (wF Z c1) Z Z (rU Z (wF Z c1) (zQ Z Z zA) (rU Z (wF Z c1) (ZJ Z Z Z) (oR Z (zX Z (zi c1.out) Z) (oM Z Z (ifc hm13 ?_ ?_)))))
  ·intro c14 hm15
   refine oT Z c14 (oT Z c14 (oT Z c14 (oR Z (zS Z (ZD c14.out) Z) (eN (zn Z (sR (.fx 0 (.fl 1 (.nil)) .stop) Z (bnK hm15 fun x16 h17 hm18=>zM 0 Z Z Z Z (zN Z Z Tryz.call11 zW Z) hS (fun hs=>wBQ w U hs h17) (.inr Z) ?_)))))))
   rintro U19 L20 v21 W22 le23 hS24 ⟨rfl,rfl⟩
   have hS25:sW w U U19 [] W22:=hS24
   refine oA Z Z (eN (zO (zH ?_)))
   have hE:=nA hm18;first | subst r | cases hE
   exact ⟨Z,_,(zm Z),U19,_,hS25,Z,Z⟩
  ·intro c14 hm26
   refine zK Z Z Z (wF Z c14) Z Z (rU Z (wF Z c14) (zQ Z Z zA) (rU Z (wF Z c14) (ZJ Z Z Z) (oR Z (zX Z (zi c14.out) Z) (eN (ifc hm26 ?_ ?_)))))
   ·intro c27 hm28
    refine cT Z c27 (sR (.fx 0 (.fl 1 (.nil)) .stop) Z (bnK hm28 fun x29 h30 hm31=>zM 0 Z Z Z Z (zN Z Z Tryz.call11 zW Z) hS (fun hs=>wBQ w U hs h30) (.inr Z) ?_))
    rintro U32 L33 v34 W35 le36 hS37 ⟨rfl,rfl⟩
    have hS38:sW w U U32 [] W35:=hS37
    refine oA Z Z (eN (zO (zH ?_)))
    have hE:=nA hm31;first | subst r | cases hE
    exact ⟨Z,_,(zm Z),U32,_,hS38,Z,Z⟩
   ·intro c27 hm39
    refine cF Z c27 (kN (sR (.fl 0 (.fx 1 (.fl 2 (.fx 3 (.fl 4 (.fx 5 (.fl 6 (.fx 7 (wRd (.nil)) .stop)) .stop)) .stop)) .stop)) Z (oM Z Z (bnK hm39 fun x40 h41 hm42=>zM 0 Z Z Z Z (zN Z Z Tryz.call38 (zE Z zW) Z) hS (fun hs=>wCg p0 pA0 pc0 w U hs ha0 h41) (.inr Z) ?_))))
    rintro U43 L44 v45 W46 le47 hS48 ⟨A49,c50,rfl,rfl⟩
    let B0:Res:=.row A49 c50 62 3 (nE wAE x40)
    have hS52:sW w U U43 [B0] W46:=hS48
    refine oM Z Z ?_
    have h53:=ha1.le le47
    refine bnK hm42 fun x54 h55 hm56=>zM 0 Z Z Z Z (zN Z Z Tryz.call39 (zE Z zW) Z) hS52 (fun hs=>wCV p1 pA1 pc1 W46 U43 hs h53 h55) (.inr Z) ?_
    rintro U57 L58 v59 W60 le61 hS62 ⟨A63,c64,rfl,rfl⟩
    let B1:Res:=.row A63 c64 3 1 (nE KL.encI x54)
    have hS66:sW w U U57 [B1,B0] W60:=hS62
    refine oM Z Z ?_
    have h67:=ha2.le le47
    have h68:=h67.le le61
    refine bnK hm56 fun x69 h70 hm71=>zM 0 Z Z Z Z (zN Z Z Tryz.call39 (zE Z zW) Z) hS66 (fun hs=>wCV p2 pA2 pc2 W60 U57 hs h68 h70) (.inr Z) ?_
    rintro U72 L73 v74 W75 le76 hS77 ⟨A78,c79,rfl,rfl⟩
    let B2:Res:=.row A78 c79 3 1 (nE KL.encI x69)
    have hS81:sW w U U72 [B2,B1,B0] W75:=hS77
    refine oM Z Z ?_
    have h82:=ha0.le le47
    have h83:=h82.le le61
    have h84:=h83.le le76
    refine bnK hm71 fun x85 h86 hm87=>zM 0 Z Z Z Z (zN Z Z Tryz.call40 (zE Z zW) Z) hS81 (fun hs=>wEA p0 pA0 pc0 W75 U72 hs h84 h86) (.inr Z) ?_
    rintro U88 L89 v90 W91 le92 hS93 ⟨A94,c95,rfl,rfl⟩
    let B3:Res:=.row A94 c95 157 3 (nE wAH x85)
    have hS97:sW w U U88 [B3,B2,B1,B0] W91:=hS93
    refine oA Z Z (oA Z Z (oA Z Z (oA Z Z (eN (sR (.fl 0 (.fl 1 (.fx 2 (wIq (.nil)) .stop))) Z (oM Z Z (oM Z Z ?_)))))))
    have q:=hS97.freezeR (k:=3) (n:=x40.length) rfl (wAI (f:=wAE) (sz:=3) (fun _=>rfl) x40) (by decide)
    obtain ⟨U98,le99,hs100,hS101⟩:=q
    have hS102:sW w U U98 [B3,B2,B1] W91:=hS101
    have q:=hS102.freezeR (k:=2) (n:=x54.length) rfl (wAI (f:=KL.encI) (sz:=1) (fun _=>rfl) x54) (by decide)
    obtain ⟨U103,le104,hs105,hS106⟩:=q
    have hS107:sW w U U103 [B3,B2] W91:=hS106
    have h108:=hs100.le le104
    have q:=bnd hm87
    obtain ⟨⟨x109,x110⟩,h111,hm112⟩:=q
    try dsimp only at hm112
    refine zM 0 Z Z Z Z (zN Z Z Tryz.call51 (zE Z (zE Z zW)) Z) hS107 (fun hs=>wHh x40 A49 c50 x54 A63 c64 W91 U103 hs h108 hs105 h111) (.inr Z) ?_
    rintro U113 L114 v115 W116 le117 hS118 ⟨rfl,rfl⟩
    have hS119:sW w U U113 [B3,B2] W116:=hS118
    refine oM Z Z (oR Z (zu Z Z (v:=jV x109) Z) (oR Z (zu Z Z (v:=jV x110) Z) (oA Z Z (oA Z Z (eN (sR (.fl 0 (.fl 1 (.fx 2 (wIq (.nil)) .stop))) Z (oM Z Z (oM Z Z ?_))))))))
    have q:=hS119.freezeR (k:=0) (n:=x85.length) rfl (wAI (f:=wAH) (sz:=3) (fun _=>rfl) x85) (by decide)
    obtain ⟨U120,le121,hs122,hS123⟩:=q
    have hS124:sW w U U120 [B2] W116:=hS123
    have h125:=h53.le le61
    have h126:=h125.le le76
    have h127:=h126.le le92
    have h128:=h127.le le99
    have h129:=h128.le le104
    have h130:=h129.le le117
    have h131:=h130.le le121
    have q:=bnd hm112
    obtain ⟨⟨x132,x133⟩,h134,hm135⟩:=q
    try dsimp only at hm135
    refine zM 0 Z Z Z Z (zN Z Z Tryz.call60 (zE Z (zE Z zW)) Z) hS124 (fun hs=>wCA x85 A94 c95 p1 pA1 pc1 W116 U120 hs hs122 h131 h134) (.inr Z) ?_
    rintro U136 L137 v138 W139 le140 hS141 ⟨rfl,rfl⟩
    have hS142:sW w U U136 [B2] W139:=hS141
    refine oM Z Z (oR Z (zu Z Z (v:=jV x132) Z) (oR Z (zu Z Z (v:=jV x133) Z) (oA Z Z (oA Z Z (eN (zB (zB (CK.fresh fun σ143 hσ144=>?_))))))))
    have f145:σ143 0=.slice pA0 p0.length pc0:=(hσ144 0).trans rfl
    have f146:σ143 1=.slice pA1 p1.length pc1:=(hσ144 1).trans rfl
    have f147:σ143 2=.slice pA2 p2.length pc2:=(hσ144 2).trans rfl
    have f148:σ143 3=jV p3:=(hσ144 3).trans rfl
    have f149:σ143 9=.slice A49 x40.length c50:=(hσ144 9).trans rfl
    have f150:σ143 10=.slice A63 x54.length c64:=(hσ144 10).trans rfl
    have f151:σ143 11=.slice A78 x69.length c79:=(hσ144 11).trans rfl
    have f152:σ143 12=.slice A94 x85.length c95:=(hσ144 12).trans rfl
    have f153:σ143 13=jV x109:=(hσ144 13).trans rfl
    have f154:σ143 14=jV x110:=(hσ144 14).trans rfl
    have f155:σ143 15=jV x132:=(hσ144 15).trans rfl
    have f156:σ143 16=jV x133:=(hσ144 16).trans rfl
    clear hσ144
    refine rR fL8 Z (oM Z f154 (oM Z f156 (oR Z (zw Z Z Z) (oM Z Z (ifc hm135 ?_ ?_)))))
    ·intro c157 hm158
     refine zK Z Z Z (zI Z Z (zi (fun h=>h c157.out))) Z f153 (zK Z Z Z (zI Z Z (zi (fun h=>h c157.out))) Z f155 (zZ Z Z Z (zI Z Z (zi (fun h=>h c157.out))) (fun _=>zw Z Z Z) (oR Z (zX Z (zi (fun h=>h c157.out)) Z) (eN (ifc hm158 ?_ ?_)))))
     ·intro c159 hm160
      refine zk (zi (fun h=>h c159.out)) (kN (sR (.fl 0 (.fl 1 (.fx 2 (wIq (.nil)) .stop))) Z (oM Z f149 (oM Z f151 ?_))))
      have q:=hS142.freezeR (k:=0) (n:=x69.length) rfl (wAI (f:=KL.encI) (sz:=1) (fun _=>rfl) x69) (by decide)
      obtain ⟨U161,le162,hs163,hS164⟩:=q
      have hS165:sW w U U161 [] W139:=hS164
      have h166:=h108.le le117
      have h167:=h166.le le121
      have h168:=h167.le le140
      have h169:=h168.le le162
      have q:=bnd hm160
      obtain ⟨⟨x170,x171⟩,h172,hm173⟩:=q
      try dsimp only at hm173
      refine zM 0 Z Z Z Z (zN Z Z Tryz.call54 (zE Z (zE Z zW)) Z) hS165 (fun hs=>wHi x40 A49 c50 x69 A78 c79 W139 U161 hs h169 hs163 h172) (.inr Z) ?_
      rintro U174 L175 v176 W177 le178 hS179 ⟨rfl,rfl⟩
      have hS180:sW w U U174 [] W177:=hS179
      refine oM Z Z (oR Z (zu Z Z (v:=jV x170) Z) (oR Z (zu Z Z (v:=jV x171) Z) (oA Z Z (oA Z Z (eN (sR (.fl 0 (.fl 1 (.fx 2 (wIq (.nil)) .stop))) Z (oM Z f152 (oM Z f147 ?_))))))))
      have h181:=hs122.le le140
      have h182:=h181.le le162
      have h183:=h182.le le178
      have h184:=h68.le le76
      have h185:=h184.le le92
      have h186:=h185.le le99
      have h187:=h186.le le104
      have h188:=h187.le le117
      have h189:=h188.le le121
      have h190:=h189.le le140
      have h191:=h190.le le162
      have h192:=h191.le le178
      have q:=bnd hm173
      obtain ⟨⟨x193,x194⟩,h195,hm196⟩:=q
      try dsimp only at hm196
      refine zM 0 Z Z Z Z (zN Z Z Tryz.call61 (zE Z (zE Z zW)) Z) hS180 (fun hs=>wCn x85 A94 c95 p2 pA2 pc2 W177 U174 hs h183 h192 h195) (.inr Z) ?_
      rintro U197 L198 v199 W200 le201 hS202 ⟨rfl,rfl⟩
      have hS203:sW w U U197 [] W200:=hS202
      refine oM Z Z (oR Z (zu Z Z (v:=jV x193) Z) (oR Z (zu Z Z (v:=jV x194) Z) (oA Z Z (oA Z Z (eN (zB (sR fL8 Z (oM Z Z (oM Z Z (oR Z (zw Z Z Z) (oM Z Z (ifc hm196 ?_ ?_))))))))))))
      ·intro c204 hm205
       refine zK Z Z Z (zI Z Z (zi (fun h=>h c204.out))) Z Z (zK Z Z Z (zI Z Z (zi (fun h=>h c204.out))) Z Z (zZ Z Z Z (zI Z Z (zi (fun h=>h c204.out))) (fun _=>zw Z Z Z) (oR Z (zX Z (zi (fun h=>h c204.out)) Z) (eN (ifc hm205 ?_ ?_)))))
       ·intro c206 hm207
        refine zk (zi (fun h=>h c206.out)) (kN (sR (wNY (.fx 3 (wRb (.nil)) .stop)) Z (oM Z f149 (oM Z f150 (oM Z f148 ?_)))))
        have h208:=h169.le le178
        have h209:=h208.le le201
        have h210:=hs105.le le117
        have h211:=h210.le le121
        have h212:=h211.le le140
        have h213:=h212.le le162
        have h214:=h213.le le178
        have h215:=h214.le le201
        have q:=bnd hm207
        obtain ⟨⟨x216,x217⟩,h218,hm219⟩:=q
        try dsimp only at hm219
        refine zM 0 Z Z Z Z (zN Z Z Tryz.call62 (zE Z (zE Z (zE Z zW))) Z) hS203 (fun hs=>wFa x40 A49 c50 x54 A63 c64 p3 W200 U197 hs h209 h215 h218) (.inr Z) ?_
        rintro U220 L221 v222 W223 le224 hS225 ⟨A226,c227,rfl,rfl⟩
        let B4:Res:=.row A226 c227 54 3 (nE wAg x216)
        have hS229:sW w U U220 [B4] W223:=hS225
        refine oM Z Z (oR Z (zu Z Z (v:=.slice A226 x216.length c227) Z) (oR Z (zu Z Z (v:=jV x217) Z) (oA Z Z (oA Z Z (eN (zB (CK.fresh fun σ230 hσ231=>?_)))))))
        have f232:σ230 0=.slice pA0 p0.length pc0:=(hσ231 0).trans f145
        have f233:σ230 1=.slice pA1 p1.length pc1:=(hσ231 1).trans f146
        have f234:σ230 2=.slice pA2 p2.length pc2:=(hσ231 2).trans f147
        have f235:σ230 3=jV p3:=(hσ231 3).trans f148
        have f236:σ230 9=.slice A49 x40.length c50:=(hσ231 9).trans f149
        have f237:σ230 10=.slice A63 x54.length c64:=(hσ231 10).trans f150
        have f238:σ230 11=.slice A78 x69.length c79:=(hσ231 11).trans f151
        have f239:σ230 12=.slice A94 x85.length c95:=(hσ231 12).trans f152
        have f240:σ230 14=jV x217:=(hσ231 14).trans rfl
        have f241:σ230 16=jV x194:=(hσ231 16).trans rfl
        have f242:σ230 17=.slice A226 x216.length c227:=(hσ231 17).trans rfl
        clear hσ231
        refine rR (wNY (.fx 3 (wRb (.nil)) .stop)) Z (oM Z f239 (oM Z f233 (oM Z f235 ?_)))
        have h243:=h183.le le201
        have h244:=h243.le le224
        have h245:=h131.le le140
        have h246:=h245.le le162
        have h247:=h246.le le178
        have h248:=h247.le le201
        have h249:=h248.le le224
        have q:=bnd hm219
        obtain ⟨⟨x250,x251⟩,h252,hm253⟩:=q
        try dsimp only at hm253
        refine zM 0 Z Z Z Z (zN Z Z Tryz.call63 (zE Z (zE Z (zE Z zW))) Z) hS229 (fun hs=>wDc x85 A94 c95 p1 pA1 pc1 p3 W223 U220 hs h244 h249 h252) (.inr Z) ?_
        rintro U254 L255 v256 W257 le258 hS259 ⟨A260,c261,rfl,rfl⟩
        let B5:Res:=.row A260 c261 132 3 (nE wAB x250)
        have hS263:sW w U U254 [B5,B4] W257:=hS259
        refine oM Z Z (oR Z (zu Z Z (v:=.slice A260 x250.length c261) Z) (oR Z (zu Z Z (v:=jV x251) Z) (oA Z Z (oA Z Z (eN (zB (sR (wRV (.fx 6 (.fl 7 (.fl 8 (.nil))) .stop)) Z (oM Z f240 (oM Z Z (oR Z (zw Z Z Z) (oM Z Z (ifc hm253 ?_ ?_))))))))))))
        ·intro c264 hm265
         refine zK Z Z Z (zI Z Z (zi (fun h=>h c264.out))) Z f242 (zK Z Z Z (zI Z Z (zi (fun h=>h c264.out))) Z Z ?_)
         have q:=hS263.freezeR (k:=1) (n:=x216.length) rfl (wAI (f:=wAg) (sz:=3) (fun _=>rfl) x216) (by decide)
         obtain ⟨U266,le267,hs268,hS269⟩:=q
         have hS270:sW w U U266 [B5] W257:=hS269
         have q:=hS270.freezeR (k:=0) (n:=x250.length) rfl (wAI (f:=wAB) (sz:=3) (fun _=>rfl) x250) (by decide)
         obtain ⟨U271,le272,hs273,hS274⟩:=q
         have hS275:sW w U U271 [] W257:=hS274
         have h276:=hs268.le le272
         refine bnK hm265 fun x277 h278 hm279=>zM 0 Z Z Z (zI Z Z (zi (fun h=>h c264.out))) (zN Z Z Tryz.call18 (zE Z (zE Z zW)) Z) hS275 (fun hs=>wEB x216 A226 c227 x250 A260 c261 W257 U271 hs h276 hs273 h278) (.inr Z) ?_
         rintro U280 L281 v282 W283 le284 hS285 ⟨rfl,rfl⟩
         have hS286:sW w U U280 [] W283:=hS285
         refine zZ Z Z Z (zI Z Z (zi (fun h=>h c264.out))) (fun _=>ZW Z Z) (oR Z (zX Z (zi (fun h=>h c264.out)) Z) (eN (ifc hm279 ?_ ?_)))
         ·intro c287 hm288
          refine zk (nC c287.out) (kN (sR (.fl 0 (.fx 1 (wRY (.nil)) .stop)) Z (oM Z f236 ?_)))
          have h289:=h209.le le224
          have h290:=h289.le le258
          have h291:=h290.le le267
          have h292:=h291.le le272
          have h293:=h292.le le284
          have q:=bnd hm288
          obtain ⟨⟨x294,x295,x296⟩,h297,hm298⟩:=q
          try dsimp only at hm298
          refine zM 0 Z Z Z Z (zN Z Z Tryz.call31 (zE Z zW) Z) hS286 (fun hs=>wGn x40 A49 c50 W283 U280 hs h293 h297) (.inr Z) ?_
          rintro U299 L300 v301 W302 le303 hS304 ⟨A305,c306,rfl,rfl⟩
          let B6:Res:=.row A305 c306 3 1 (nE KL.encI x294)
          have hS308:sW w U U299 [B6] W302:=hS304
          refine oM Z Z (oR Z (zu Z Z (v:=.slice A305 x294.length c306) Z) (oR Z (zu Z Z (v:=jV x295) Z) (oR Z (zu Z Z (v:=jV x296) Z) (oA Z Z (oA Z Z (oA Z Z (eN (sR (.fl 0 (.fx 1 (wQE (.nil)) .stop)) Z (oM Z f239 ?_)))))))))
          have h309:=h244.le le258
          have h310:=h309.le le267
          have h311:=h310.le le272
          have h312:=h311.le le284
          have h313:=h312.le le303
          have q:=bnd hm298
          obtain ⟨⟨x314,x315⟩,h316,hm317⟩:=q
          try dsimp only at hm317
          refine zM 0 Z Z Z Z (zN Z Z Tryz.call64 (zE Z zW) Z) hS308 (fun hs=>wEb x85 A94 c95 W302 U299 hs h313 h316) (.inr Z) ?_
          rintro U318 L319 v320 W321 le322 hS323 ⟨rfl,rfl⟩
          have hS324:sW w U U318 [B6] W321:=hS323
          refine oM Z Z (oR Z (zu Z Z (v:=jV x314) Z) (oR Z (zu Z Z (v:=jV x315) Z) (oA Z Z (oA Z Z (eN (sR (.fl 0 (.fx 1 (wQE (.nil)) .stop)) Z (oM Z f236 ?_)))))))
          have h325:=h293.le le303
          have h326:=h325.le le322
          have q:=bnd hm317
          obtain ⟨⟨x327,x328⟩,h329,hm330⟩:=q
          try dsimp only at hm330
          refine zM 0 Z Z Z Z (zN Z Z Tryz.call52 (zE Z zW) Z) hS324 (fun hs=>wHj x40 A49 c50 W321 U318 hs h326 h329) (.inr Z) ?_
          rintro U331 L332 v333 W334 le335 hS336 ⟨A337,c338,rfl,rfl⟩
          let B7:Res:=.row A337 c338 3 1 (nE KL.encI x327)
          have hS340:sW w U U331 [B7,B6] W334:=hS336
          refine oM Z Z (oR Z (zu Z Z (v:=.slice A337 x327.length c338) Z) (oR Z (zu Z Z (v:=jV x328) Z) (oA Z Z (oA Z Z (eN (zB (bnK hm330 fun b341 hx343 hm344=>CK.cut (fun σ_ w_=>∃ (U_:PHeap),σ_ 0=.slice pA0 p0.length pc0/\σ_ 1=.slice pA1 p1.length pc1/\σ_ 2=.slice pA2 p2.length pc2/\σ_ 9=.slice A49 x40.length c50/\σ_ 10=.slice A63 x54.length c64/\σ_ 11=.slice A78 x69.length c79/\σ_ 12=.slice A94 x85.length c95/\σ_ 14=jV x296/\σ_ 19=.slice A305 x294.length c306/\σ_ 20=jV x314/\σ_ 21=.slice A337 x327.length c338/\σ_ 22=jV x328/\σ_ 154=.bool b341/\PHeap.Le U331 U_/\sW w U U_ [B6,B7] w_) ?_ ?_)))))))
          ·refine CK.fresh fun σ345 hσ346=>?_
           have f347:σ345 0=.slice pA0 p0.length pc0:=(hσ346 0).trans f232
           have f348:σ345 1=.slice pA1 p1.length pc1:=(hσ346 1).trans f233
           have f349:σ345 2=.slice pA2 p2.length pc2:=(hσ346 2).trans f234
           have f350:σ345 9=.slice A49 x40.length c50:=(hσ346 9).trans f236
           have f351:σ345 10=.slice A63 x54.length c64:=(hσ346 10).trans f237
           have f352:σ345 11=.slice A78 x69.length c79:=(hσ346 11).trans f238
           have f353:σ345 12=.slice A94 x85.length c95:=(hσ346 12).trans f239
           have f354:σ345 13=jV x295:=(hσ346 13).trans rfl
           have f355:σ345 14=jV x296:=(hσ346 14).trans rfl
           have f356:σ345 16=jV x315:=(hσ346 16).trans rfl
           have f357:σ345 19=.slice A305 x294.length c306:=(hσ346 19).trans rfl
           have f358:σ345 20=jV x314:=(hσ346 20).trans rfl
           have f359:σ345 21=.slice A337 x327.length c338:=(hσ346 21).trans rfl
           have f360:σ345 22=jV x328:=(hσ346 22).trans rfl
           clear hσ346
           refine rR fL27 Z (oM Z f355 (oM Z f356 (oR Z (zw Z Z Z) (oM Z Z ?_))))
           by_cases c361:x296=x315
           ·have hm362:=hx343;rw [if_pos c361] at hm362;replace c361:=zC c361
            refine zK Z Z Z (zI Z Z (zi (fun h=>h c361.out))) Z f354 (zK Z Z Z (zI Z Z (zi (fun h=>h c361.out))) Z f358 (zZ Z Z Z (zI Z Z (zi (fun h=>h c361.out))) (fun _=>zw Z Z Z) (oR Z (zX Z (zi (fun h=>h c361.out)) Z) (oM Z Z (ifc hm362 ?_ ?_)))))
            ·intro c363 hm364
             refine zK Z Z Z (zI Z Z (zi (fun h=>h c363.out))) Z f355 (zZ Z Z Z (zI Z Z (zi (fun h=>h c363.out))) (fun _=>zw Z Z Z) (zK Z Z Z (zI Z Z (zi (fun h=>h c363.out))) Z Z (ifc hm364 ?_ ?_)))
             ·intro c365 hm366
              refine zG Z Z Z (zf Z Z (zi (fun h=>h c365.out)) Z) (zG Z Z Z (zf Z Z (zi (fun h=>h c365.out)) Z) (zG Z Z Z (zf Z Z (zi (fun h=>h c365.out)) Z) (zG Z Z Z (zf Z Z (zi (fun h=>h c365.out)) Z) (zG Z Z Z (wAC Z Z Z) (zG Z Z Z (wAC Z Z Z) (zG Z Z Z (wAC Z Z Z) (zG Z Z Z (zf Z Z (zi (fun h=>h c365.out)) Z) (zG Z Z Z (zf Z Z (zi (fun h=>h c365.out)) Z) (zG Z Z Z (wAC Z Z Z) (zG Z Z Z (wAC Z Z Z) (zG Z Z Z (wAC Z Z Z) (zG Z Z Z (zf Z Z (zi (fun h=>h c365.out)) Z) (zZ Z Z Z (zI Z Z (zi (fun h=>h c363.out))) (fun _=>zX Z (zi (fun h=>h c365.out)) Z) (oR Z (zX Z (zi (fun h=>h c363.out)) Z) (zj ?_)))))))))))))))
              cases hm366
              exact zD ⟨rfl,⟨U331,f347,f348,f349,f350,f351,f352,f353,f355,f357,f358,f359,f360,rfl,(zJ _),(hS340.pick [1,0] _ (by decide) rfl)⟩⟩
             ·intro c365 hm368
              refine zK Z Z Z (wT Z c365) Z f357 (rU Z (wT Z c365) (zQ Z Z zA) (rU Z (wT Z c365) (ZJ Z Z Z) (zK Z Z Z (wT Z c365) Z Z (ifc hm368 ?_ ?_))))
              ·intro c369 hm370
               refine oT Z c369 (oT Z c369 (oT Z c369 (rU Z (wT Z c365) (zS Z (ZD c369.out) Z) (zK Z Z Z (wT Z c365) Z Z (oN Z (oN Z (oN Z (rU Z (wT Z c365) (zS Z Z Z) (zZ Z Z Z (zI Z Z (zi (fun h=>h c363.out))) (fun _=>zS Z (ZD c365.out) Z) (oR Z (zX Z (zi (fun h=>h c363.out)) Z) (zj ?_)))))))))))
               cases hm370
               exact zD ⟨rfl,⟨U331,f347,f348,f349,f350,f351,f352,f353,f355,f357,f358,f359,f360,rfl,(zJ _),(hS340.pick [1,0] _ (by decide) rfl)⟩⟩
              ·intro c369 hm372
               refine zK Z Z Z (wF Z c369) Z f359 (rU Z (wF Z c369) (zQ Z Z zA) (rU Z (wF Z c369) (ZJ Z Z Z) (rU Z (wT Z c365) (zX Z (zi c369.out) Z) (zK Z Z Z (wT Z c365) Z Z (ifc hm372 ?_ ?_)))))
               ·intro c373 hm374
                refine oT Z c373 (oT Z c373 (oT Z c373 (rU Z (wT Z c365) (zS Z (ZD c373.out) Z) (zZ Z Z Z (zI Z Z (zi (fun h=>h c363.out))) (fun _=>zS Z (ZD c365.out) Z) (oR Z (zX Z (zi (fun h=>h c363.out)) Z) (zj ?_))))))
                cases hm374
                exact zD ⟨rfl,⟨U331,f347,f348,f349,f350,f351,f352,f353,f355,f357,f358,f359,f360,rfl,(zJ _),(hS340.pick [1,0] _ (by decide) rfl)⟩⟩
               ·intro c373 hm376
                refine zK Z Z Z (wF Z c373) Z f360 (zK Z Z Z (wF Z c373) Z f356 (rU Z (wF Z c373) (zw Z Z Z) (rU Z (wT Z c365) (zX Z (zi c373.out) Z) (zZ Z Z Z (zI Z Z (zi (fun h=>h c363.out))) (fun _=>zS Z (ZD c365.out) Z) (oR Z (zX Z (zi (fun h=>h c363.out)) Z) (zj ?_))))))
                obtain rfl:=nA hm376
                exact zD ⟨rfl,⟨U331,f347,f348,f349,f350,f351,f352,f353,f355,f357,f358,f359,f360,rfl,(zJ _),(hS340.pick [1,0] _ (by decide) rfl)⟩⟩
            ·intro c363 hm378
             refine oT Z c363 (oT Z c363 (oT Z c363 (zG Z Z Z (wAC Z Z Z) (zG Z Z Z (wAC Z Z Z) (zG Z Z Z (wAC Z Z Z) (zG Z Z Z (wAC Z Z Z) (zG Z Z Z (wAC Z Z Z) (zG Z Z Z (wAC Z Z Z) (zG Z Z Z (wAC Z Z Z) (zG Z Z Z (wAC Z Z Z) (zG Z Z Z (wAC Z Z Z) (zG Z Z Z (wAC Z Z Z) (zG Z Z Z (wAC Z Z Z) (zG Z Z Z (wAC Z Z Z) (zG Z Z Z (wAC Z Z Z) (oT Z c363 (oR Z (zS Z (ZD c363.out) Z) (zj ?_))))))))))))))))))
             cases hm378
             exact zD ⟨rfl,⟨U331,f347,f348,f349,f350,f351,f352,f353,f355,f357,f358,f359,f360,rfl,(zJ _),(hS340.pick [1,0] _ (by decide) rfl)⟩⟩
           ·have hm380:=hx343;rw [if_neg c361] at hm380;replace c361:=zC c361
            refine oT Z c361 (oT Z c361 (oT Z c361 (oR Z (zS Z (ZD c361.out) Z) (oM Z Z (oN Z (oN Z (oN Z (zG Z Z Z (wAC Z Z Z) (zG Z Z Z (wAC Z Z Z) (zG Z Z Z (wAC Z Z Z) (zG Z Z Z (wAC Z Z Z) (zG Z Z Z (wAC Z Z Z) (zG Z Z Z (wAC Z Z Z) (zG Z Z Z (wAC Z Z Z) (zG Z Z Z (wAC Z Z Z) (zG Z Z Z (wAC Z Z Z) (zG Z Z Z (wAC Z Z Z) (zG Z Z Z (wAC Z Z Z) (zG Z Z Z (wAC Z Z Z) (zG Z Z Z (wAC Z Z Z) (oN Z (oR Z (zS Z Z Z) (zj ?_)))))))))))))))))))))))
            cases hm380
            exact zD ⟨rfl,⟨U331,f347,f348,f349,f350,f351,f352,f353,f355,f357,f358,f359,f360,rfl,(zJ _),(hS340.pick [1,0] _ (by decide) rfl)⟩⟩
          ·rintro σ382 W383 ⟨U384,f387,f388,f389,f390,f391,f392,f393,f394,f395,f396,f397,f398,f399,le385,hS386⟩
           refine ifc hm344 ?_ ?_
           ·intro c400 hm401
            refine zn (f399.trans (congrArg nB c400.out)) (sR fL1 Z (oA Z Z (eN (zO (zH ?_)))))
            have hE:=nA hm401;first | subst r | cases hE
            exact ⟨rfl,_,(zm rfl),U384,_,(hS386.pick [] _ (by decide) rfl),rfl,rfl⟩
           ·intro c400 hm402
            refine zk (f399.trans (congrArg nB (nD.2 c400.out))) (kN (zB (sR fL2 Z (oM Z f394 (oR Z (ZV Z Z Z) (eN (ifc hm402 ?_ ?_)))))))
            ·intro c403 hm404
             refine cT Z c403 (sR (.fl 0 (.fl 1 (.fx 2 (wIq (.nil)) .stop))) Z (oM Z f393 (oM Z f395 ?_)))
             have q:=hS386.freezeR (k:=0) (n:=x294.length) rfl (wAI (f:=KL.encI) (sz:=1) (fun _=>rfl) x294) (by decide)
             obtain ⟨U405,le406,hs407,hS408⟩:=q
             have hS409:sW w U U405 [B7] W383:=hS408
             have h410:=h313.le le322
             have h411:=h410.le le335
             have h412:=h411.le le385
             have h413:=h412.le le406
             have q:=bnd hm404
             obtain ⟨⟨x414,x415⟩,h416,hm417⟩:=q
             try dsimp only at hm417
             refine zM 0 Z Z Z Z (zN Z Z Tryz.call60 (zE Z (zE Z zW)) Z) hS409 (fun hs=>wCA x85 A94 c95 x294 A305 c306 W383 U405 hs h413 hs407 h416) (.inr Z) ?_
             rintro U418 L419 v420 W421 le422 hS423 ⟨rfl,rfl⟩
             have hS424:sW w U U418 [B7] W421:=hS423
             refine oM Z Z (oR Z (zu Z Z (v:=jV x414) Z) (oR Z (zu Z Z (v:=jV x415) Z) (oA Z Z (oA Z Z (eN (sR (.fl 0 (.fl 1 (.fx 2 (wIq (.nil)) .stop))) Z (oM Z f393 (oM Z f397 ?_))))))))
             have q:=hS424.freezeR (k:=0) (n:=x327.length) rfl (wAI (f:=KL.encI) (sz:=1) (fun _=>rfl) x327) (by decide)
             obtain ⟨U425,le426,hs427,hS428⟩:=q
             have hS429:sW w U U425 [] W421:=hS428
             have h430:=h413.le le422
             have h431:=h430.le le426
             have q:=bnd hm417
             obtain ⟨⟨x432,x433⟩,h434,hm435⟩:=q
             try dsimp only at hm435
             refine zM 0 Z Z Z Z (zN Z Z Tryz.call61 (zE Z (zE Z zW)) Z) hS429 (fun hs=>wCn x85 A94 c95 x327 A337 c338 W421 U425 hs h431 hs427 h434) (.inr Z) ?_
             rintro U436 L437 v438 W439 le440 hS441 ⟨rfl,rfl⟩
             have hS442:sW w U U436 [] W439:=hS441
             refine oM Z Z (oR Z (zu Z Z (v:=jV x432) Z) (oR Z (zu Z Z (v:=jV x433) Z) (oA Z Z (oA Z Z (eN (bnK hm435 fun b443 hx445 hm446=>CK.cut (fun σ_ w_=>∃ (U_:PHeap),σ_ 0=.slice pA0 p0.length pc0/\σ_ 1=.slice pA1 p1.length pc1/\σ_ 2=.slice pA2 p2.length pc2/\σ_ 9=.slice A49 x40.length c50/\σ_ 10=.slice A63 x54.length c64/\σ_ 11=.slice A78 x69.length c79/\σ_ 210=.bool b443/\PHeap.Le U436 U_/\sW w U U_ [] w_) ?_ ?_))))))
             ·refine CK.fresh fun σ447 hσ448=>?_
              have f449:σ447 0=.slice pA0 p0.length pc0:=(hσ448 0).trans f387
              have f450:σ447 1=.slice pA1 p1.length pc1:=(hσ448 1).trans f388
              have f451:σ447 2=.slice pA2 p2.length pc2:=(hσ448 2).trans f389
              have f452:σ447 9=.slice A49 x40.length c50:=(hσ448 9).trans f390
              have f453:σ447 10=.slice A63 x54.length c64:=(hσ448 10).trans f391
              have f454:σ447 11=.slice A78 x69.length c79:=(hσ448 11).trans f392
              have f455:σ447 20=jV x314:=(hσ448 20).trans f396
              have f456:σ447 21=.slice A337 x327.length c338:=(hσ448 21).trans f397
              have f457:σ447 22=jV x328:=(hσ448 22).trans f398
              have f458:σ447 23=jV x414:=(hσ448 23).trans rfl
              have f459:σ447 24=jV x415:=(hσ448 24).trans rfl
              have f460:σ447 25=jV x432:=(hσ448 25).trans rfl
              have f461:σ447 26=jV x433:=(hσ448 26).trans rfl
              clear hσ448
              refine rR fL42 Z (oM Z f459 (oR Z (zw Z Z Z) (oM Z Z ?_)))
              by_cases c462:x415=0
              ·have hm463:=hx445;rw [if_pos c462] at hm463;replace c462:=zC c462
               refine zK Z Z Z (zI Z Z (zi (fun h=>h c462.out))) Z f458 (zK Z Z Z (zI Z Z (zi (fun h=>h c462.out))) Z f455 (zZ Z Z Z (zI Z Z (zi (fun h=>h c462.out))) (fun _=>zw Z Z Z) (oR Z (zX Z (zi (fun h=>h c462.out)) Z) (oM Z Z (ifc hm463 ?_ ?_)))))
               ·intro c464 hm465
                refine zK Z Z Z (zI Z Z (zi (fun h=>h c464.out))) Z f457 (zZ Z Z Z (zI Z Z (zi (fun h=>h c464.out))) (fun _=>ZV Z Z Z) (zK Z Z Z (zI Z Z (zi (fun h=>h c464.out))) Z f455 (zK Z Z Z (zI Z Z (zi (fun h=>h c464.out))) Z f449 (zZ Z Z Z (zI Z Z (zi (fun h=>h c464.out))) (fun _=>zQ Z Z zV) (zZ Z Z Z (zI Z Z (zi (fun h=>h c464.out))) (fun _=>zP Z Z Z) (zZ Z Z Z (zI Z Z (zi (fun h=>h c464.out))) (fun _=>Runs.neB Z Z Z Tryz.runUnderlying4) (oR Z (zX Z (zi (fun h=>h c464.out)) Z) (oM Z Z (ifc hm465 ?_ ?_)))))))))
                ·intro c466 hm467
                 refine zK Z Z Z (zI Z Z (nC c466.out)) Z f457 (zZ Z Z Z (zI Z Z (nC c466.out)) (fun _=>ZV Z Z Z) (zK Z Z Z (zI Z Z (nC c466.out)) Z Z (ifc hm467 ?_ ?_)))
                 ·intro c468 hm469
                  refine zK Z Z Z (wT Z c468) Z f461 (rU Z (wT Z c468) (zw Z Z Z) (zK Z Z Z (wT Z c468) Z Z (ifc hm469 ?_ ?_)))
                  ·intro c470 hm471
                   refine zK Z Z Z (zI Z Z (zi (fun h=>h c470.out))) Z f460 (zK Z Z Z (zI Z Z (zi (fun h=>h c470.out))) Z f455 (zZ Z Z Z (zI Z Z (zi (fun h=>h c470.out))) (fun _=>zw Z Z Z) (rU Z (wT Z c468) (zX Z (zi (fun h=>h c470.out)) Z) (zZ Z Z Z (zI Z Z (nC c466.out)) (fun _=>zS Z (ZD c468.out) Z) (oR Z (zX Z (nC c466.out) Z) (oM Z Z (ifc hm471 ?_ ?_)))))))
                   ·intro c472 hm473
                    refine zK Z Z Z (zI Z Z (zi (fun h=>h c472.out))) Z f457 (zZ Z Z Z (zI Z Z (zi (fun h=>h c472.out))) (fun _=>zw Z Z Z) (zK Z Z Z (zI Z Z (zi (fun h=>h c472.out))) Z Z (zG Z Z Z (zf Z Z (zi (fun h=>h c468.out)) Z) (zG Z Z Z (zf Z Z (zi (fun h=>h c468.out)) Z) (zG Z Z Z (zf Z Z (zi (fun h=>h c468.out)) Z) (zG Z Z Z (wAC Z Z Z) (zG Z Z Z (wAC Z Z Z) (zG Z Z Z (wAC Z Z Z) (zG Z Z Z (zf Z Z (zi (fun h=>h c468.out)) Z) (zZ Z Z Z (zI Z Z (zi (fun h=>h c472.out))) (fun _=>zX Z (zi (fun h=>h c468.out)) Z) (oR Z (zX Z (zi (fun h=>h c472.out)) Z) (zj ?_))))))))))))
                    cases hm473
                    exact zD ⟨Z,⟨U436,f449,f450,f451,f452,f453,f454,Z,(zJ _),hS442⟩⟩
                   ·intro c472 hm475
                    refine oT Z c472 (oT Z c472 (oT Z c472 (zG Z Z Z (wAC Z Z Z) (zG Z Z Z (wAC Z Z Z) (zG Z Z Z (wAC Z Z Z) (zG Z Z Z (wAC Z Z Z) (zG Z Z Z (wAC Z Z Z) (zG Z Z Z (wAC Z Z Z) (zG Z Z Z (wAC Z Z Z) (oT Z c472 (oR Z (zS Z (ZD c472.out) Z) (zj ?_))))))))))))
                    cases hm475
                    exact zD ⟨Z,⟨U436,f449,f450,f451,f452,f453,f454,Z,(zJ _),hS442⟩⟩
                  ·intro c470 hm477
                   refine oT Z c470 (oT Z c470 (oT Z c470 (rU Z (wT Z c468) (zS Z (ZD c470.out) Z) (zZ Z Z Z (zI Z Z (nC c466.out)) (fun _=>zS Z (ZD c468.out) Z) (oR Z (zX Z (nC c466.out) Z) (oM Z Z (oN Z (oN Z (oN Z (zG Z Z Z (wAC Z Z Z) (zG Z Z Z (wAC Z Z Z) (zG Z Z Z (wAC Z Z Z) (zG Z Z Z (wAC Z Z Z) (zG Z Z Z (wAC Z Z Z) (zG Z Z Z (wAC Z Z Z) (zG Z Z Z (wAC Z Z Z) (oN Z (oR Z (zS Z Z Z) (zj ?_)))))))))))))))))))
                   cases hm477
                   exact zD ⟨Z,⟨U436,f449,f450,f451,f452,f453,f454,Z,(zJ _),hS442⟩⟩
                 ·intro c468 hm479
                  refine oF Z c468 (oF Z c468 (oF Z c468 (zG Z Z Z (wAC Z Z Z) (zG Z Z Z (wAC Z Z Z) (zG Z Z Z (wAC Z Z Z) (oF Z c468 (zZ Z Z Z (zI Z Z (nC c466.out)) (fun _=>zX Z (zi c468.out) Z) (oR Z (zX Z (nC c466.out) Z) (oM Z Z (zK Z Z Z (zI Z Z Z) Z f457 (zZ Z Z Z (zI Z Z Z) (fun _=>zw Z Z Z) (zK Z Z Z (zI Z Z Z) Z Z (zK Z Z Z (wT Z c468) Z f457 (rU Z (wT Z c468) (zw Z Z Z) (zK Z Z Z (wT Z c468) Z Z (ifc hm479 ?_ ?_))))))))))))))))
                  ·intro c480 hm481
                   refine zK Z Z Z (zI Z Z (zi (fun h=>h c480.out))) Z f456 (zZ Z Z Z (zI Z Z (zi (fun h=>h c480.out))) (fun _=>zQ Z Z zA) (zZ Z Z Z (zI Z Z (zi (fun h=>h c480.out))) (fun _=>ZJ Z Z Z) (rU Z (wT Z c468) (zX Z (zi (fun h=>h c480.out)) Z) (zZ Z Z Z (zI Z Z Z) (fun _=>zS Z (ZD c468.out) Z) (oR Z (zX Z Z Z) (zj ?_))))))
                   obtain rfl:=nA hm481
                   exact zD ⟨Z,⟨U436,f449,f450,f451,f452,f453,f454,Z,(zJ _),hS442⟩⟩
                  ·intro c480 hm483
                   refine oT Z c480 (oT Z c480 (oT Z c480 (rU Z (wT Z c468) (zS Z (ZD c480.out) Z) (zZ Z Z Z (zI Z Z Z) (fun _=>zS Z (ZD c468.out) Z) (oR Z (zX Z Z Z) (zj ?_))))))
                   cases hm483
                   exact zD ⟨Z,⟨U436,f449,f450,f451,f452,f453,f454,Z,(zJ _),hS442⟩⟩
                ·intro c466 hm485
                 refine zG Z Z Z (zf Z Z (nF (c466.out)) Z) (zG Z Z Z (zf Z Z (nF (c466.out)) Z) (zG Z Z Z (zf Z Z (nF (c466.out)) Z) (zG Z Z Z (wAC Z Z Z) (zG Z Z Z (wAC Z Z Z) (zG Z Z Z (wAC Z Z Z) (zG Z Z Z (wAC Z Z Z) (zG Z Z Z (wAC Z Z Z) (zG Z Z Z (wAC Z Z Z) (zG Z Z Z (wAC Z Z Z) (zG Z Z Z (zf Z Z (nF (c466.out)) Z) (oR Z (zS Z (nF (c466.out)) Z) (oM Z Z (oN Z (oN Z (oN Z (zG Z Z Z (wAC Z Z Z) (zG Z Z Z (wAC Z Z Z) (zG Z Z Z (wAC Z Z Z) (zG Z Z Z (wAC Z Z Z) (zG Z Z Z (wAC Z Z Z) (zG Z Z Z (wAC Z Z Z) (zG Z Z Z (wAC Z Z Z) (oN Z (oR Z (zS Z Z Z) (zj ?_)))))))))))))))))))))))))
                 cases hm485
                 exact zD ⟨Z,⟨U436,f449,f450,f451,f452,f453,f454,Z,(zJ _),hS442⟩⟩
               ·intro c464 hm487
                refine oT Z c464 (oT Z c464 (oT Z c464 (oT Z c464 (oT Z c464 (oT Z c464 (oT Z c464 (oR Z (zS Z (ZD c464.out) Z) (oM Z Z (oN Z (oN Z (oN Z (zG Z Z Z (wAC Z Z Z) (zG Z Z Z (wAC Z Z Z) (zG Z Z Z (wAC Z Z Z) (zG Z Z Z (wAC Z Z Z) (zG Z Z Z (wAC Z Z Z) (zG Z Z Z (wAC Z Z Z) (zG Z Z Z (wAC Z Z Z) (oN Z (oR Z (zS Z Z Z) (oM Z Z (oN Z (oN Z (oN Z (zG Z Z Z (wAC Z Z Z) (zG Z Z Z (wAC Z Z Z) (zG Z Z Z (wAC Z Z Z) (zG Z Z Z (wAC Z Z Z) (zG Z Z Z (wAC Z Z Z) (zG Z Z Z (wAC Z Z Z) (zG Z Z Z (wAC Z Z Z) (oN Z (oR Z (zS Z Z Z) (zj ?_))))))))))))))))))))))))))))))))))
                cases hm487
                exact zD ⟨Z,⟨U436,f449,f450,f451,f452,f453,f454,Z,(zJ _),hS442⟩⟩
              ·have hm489:=hx445;rw [if_neg c462] at hm489;replace c462:=zC c462
               refine oT Z c462 (oT Z c462 (oT Z c462 (oR Z (zS Z (ZD c462.out) Z) (oM Z Z (oN Z (oN Z (oN Z (oN Z (oN Z (oN Z (oN Z (oR Z (zS Z Z Z) (oM Z Z (oN Z (oN Z (oN Z (zG Z Z Z (wAC Z Z Z) (zG Z Z Z (wAC Z Z Z) (zG Z Z Z (wAC Z Z Z) (zG Z Z Z (wAC Z Z Z) (zG Z Z Z (wAC Z Z Z) (zG Z Z Z (wAC Z Z Z) (zG Z Z Z (wAC Z Z Z) (oN Z (oR Z (zS Z Z Z) (oM Z Z (oN Z (oN Z (oN Z (zG Z Z Z (wAC Z Z Z) (zG Z Z Z (wAC Z Z Z) (zG Z Z Z (wAC Z Z Z) (zG Z Z Z (wAC Z Z Z) (zG Z Z Z (wAC Z Z Z) (zG Z Z Z (wAC Z Z Z) (zG Z Z Z (wAC Z Z Z) (oN Z (oR Z (zS Z Z Z) (zj ?_)))))))))))))))))))))))))))))))))))))))
               cases hm489
               exact zD ⟨Z,⟨U436,f449,f450,f451,f452,f453,f454,Z,(zJ _),hS442⟩⟩
             ·rintro σ491 W492 ⟨U493,f496,f497,f498,f499,f500,f501,f502,le494,hS495⟩
              refine ifc hm446 ?_ ?_
              ·intro c503 hm504
               refine zn (f502.trans (congrArg nB c503.out)) (sR fL1 Z (oA Z Z (eN (zO (zH ?_)))))
               have hE:=nA hm504;first | subst r | cases hE
               exact ⟨Z,_,(zm Z),U493,_,hS495,Z,Z⟩
              ·intro c503 hm505
               refine zk (f502.trans (congrArg nB (nD.2 c503.out))) (kN (sR (.fl 0 (.fl 1 (.fx 2 (wRa (.fx 6 (wOp (.fx 11 (.fl 12 (.fl 13 (.fx 14 (.fl 15 (.fl 16 (.nil))) .stop))) .stop)) .stop)) .stop))) Z (oM Z f499 (oM Z f496 ?_))))
               have h506:=h326.le le335
               have h507:=h506.le le385
               have h508:=h507.le le406
               have h509:=h508.le le422
               have h510:=h509.le le426
               have h511:=h510.le le440
               have h512:=h511.le le494
               have h513:=h84.le le92
               have h514:=h513.le le99
               have h515:=h514.le le104
               have h516:=h515.le le117
               have h517:=h516.le le121
               have h518:=h517.le le140
               have h519:=h518.le le162
               have h520:=h519.le le178
               have h521:=h520.le le201
               have h522:=h521.le le224
               have h523:=h522.le le258
               have h524:=h523.le le267
               have h525:=h524.le le272
               have h526:=h525.le le284
               have h527:=h526.le le303
               have h528:=h527.le le322
               have h529:=h528.le le335
               have h530:=h529.le le385
               have h531:=h530.le le406
               have h532:=h531.le le422
               have h533:=h532.le le426
               have h534:=h533.le le440
               have h535:=h534.le le494
               refine bnK hm505 fun x536 h537 hm538=>zM 0 Z Z Z Z (zN Z Z Tryz.call50 (zE Z (zE Z zW)) Z) hS495 (fun hs=>wBi x40 A49 c50 p0 pA0 pc0 W492 U493 hs h512 h535 h537) (.inr Z) ?_
               rintro U539 L540 v541 W542 le543 hS544 ⟨rfl,rfl⟩
               have hS545:sW w U U539 [] W542:=hS544
               refine oM Z Z (ifc hm538 ?_ ?_)
               ·intro c546 hm547
                refine zK Z Z Z (zI Z Z (congrArg nB c546.out)) Z f500 (zK Z Z Z (zI Z Z (congrArg nB c546.out)) Z f497 ?_)
                have h548:=h215.le le224
                have h549:=h548.le le258
                have h550:=h549.le le267
                have h551:=h550.le le272
                have h552:=h551.le le284
                have h553:=h552.le le303
                have h554:=h553.le le322
                have h555:=h554.le le335
                have h556:=h555.le le385
                have h557:=h556.le le406
                have h558:=h557.le le422
                have h559:=h558.le le426
                have h560:=h559.le le440
                have h561:=h560.le le494
                have h562:=h561.le le543
                have h563:=h249.le le258
                have h564:=h563.le le267
                have h565:=h564.le le272
                have h566:=h565.le le284
                have h567:=h566.le le303
                have h568:=h567.le le322
                have h569:=h568.le le335
                have h570:=h569.le le385
                have h571:=h570.le le406
                have h572:=h571.le le422
                have h573:=h572.le le426
                have h574:=h573.le le440
                have h575:=h574.le le494
                have h576:=h575.le le543
                refine bnK hm547 fun x577 h578 hm579=>zM 0 Z Z Z (zI Z Z (congrArg nB c546.out)) (zN Z Z Tryz.call15 (zE Z (zE Z zW)) Z) hS545 (fun hs=>wBY x54 A63 c64 p1 pA1 pc1 W542 U539 hs h562 h576 h578) (.inr Z) ?_
                rintro U580 L581 v582 W583 le584 hS585 ⟨rfl,rfl⟩
                have hS586:sW w U U580 [] W583:=hS585
                refine oR Z (zS Z (congrArg nB c546.out) Z) (oM Z Z (ifc hm579 ?_ ?_))
                ·intro c587 hm588
                 refine zK Z Z Z (zI Z Z (congrArg nB c587.out)) Z f501 (zK Z Z Z (zI Z Z (congrArg nB c587.out)) Z f498 ?_)
                 have h589:=hs163.le le178
                 have h590:=h589.le le201
                 have h591:=h590.le le224
                 have h592:=h591.le le258
                 have h593:=h592.le le267
                 have h594:=h593.le le272
                 have h595:=h594.le le284
                 have h596:=h595.le le303
                 have h597:=h596.le le322
                 have h598:=h597.le le335
                 have h599:=h598.le le385
                 have h600:=h599.le le406
                 have h601:=h600.le le422
                 have h602:=h601.le le426
                 have h603:=h602.le le440
                 have h604:=h603.le le494
                 have h605:=h604.le le543
                 have h606:=h605.le le584
                 have h607:=h192.le le201
                 have h608:=h607.le le224
                 have h609:=h608.le le258
                 have h610:=h609.le le267
                 have h611:=h610.le le272
                 have h612:=h611.le le284
                 have h613:=h612.le le303
                 have h614:=h613.le le322
                 have h615:=h614.le le335
                 have h616:=h615.le le385
                 have h617:=h616.le le406
                 have h618:=h617.le le422
                 have h619:=h618.le le426
                 have h620:=h619.le le440
                 have h621:=h620.le le494
                 have h622:=h621.le le543
                 have h623:=h622.le le584
                 refine bnK hm588 fun x624 h625 hm626=>zM 0 Z Z Z (zI Z Z (congrArg nB c587.out)) (zN Z Z Tryz.call15 (zE Z (zE Z zW)) Z) hS586 (fun hs=>wBY x69 A78 c79 p2 pA2 pc2 W583 U580 hs h606 h623 h625) (.inr Z) ?_
                 rintro U627 L628 v629 W630 le631 hS632 ⟨rfl,rfl⟩
                 have hS633:sW w U U627 [] W630:=hS632
                 refine oR Z (zS Z (congrArg nB c587.out) Z) (oM Z Z (ifc hm626 ?_ ?_))
                 ·intro c634 hm635
                  refine bnK hm635 fun x636 h637 hm638=>zM 0 Z Z Z (zI Z Z (congrArg nB c634.out)) (zN Z Z Tryz.call11 zW Z) hS633 (fun hs=>wBQ W630 U627 hs h637) (.inr Z) ?_
                  rintro U639 L640 v641 W642 le643 hS644 ⟨rfl,rfl⟩
                  have hS645:sW w U U639 [] W642:=hS644
                  refine oR Z (zS Z (congrArg nB c634.out) Z) (oA Z Z (eN (zO ?_)))
                  have hE:=nA hm638;first | subst r | cases hE
                  exact ⟨Z,_,(zm Z),U639,_,hS645,Z,Z⟩
                 ·intro c634 hm646
                  refine Zb Z Z Z (zf Z Z (congrArg nB (nD.2 c634.out)) Z) (oR Z (zX Z (congrArg nB (nD.2 c634.out)) Z) (oA Z Z (eN (zO ?_))))
                  have hE:=nA hm646;first | subst r | cases hE
                  exact ⟨Z,_,(zm Z),U627,_,hS633,Z,Z⟩
                ·intro c587 hm647
                 refine zG Z Z Z (zf Z Z (congrArg nB (nD.2 c587.out)) Z) (zG Z Z Z (zf Z Z (congrArg nB (nD.2 c587.out)) Z) (Zb Z Z Z (zf Z Z (congrArg nB (nD.2 c587.out)) Z) (oR Z (zX Z (congrArg nB (nD.2 c587.out)) Z) (oM Z Z (Zb Z Z Z (zf Z Z Z Z) (oR Z (zX Z Z Z) (oA Z Z (eN (zO ?_)))))))))
                 have hE:=nA hm647;first | subst r | cases hE
                 exact ⟨Z,_,(zm Z),U580,_,hS586,Z,Z⟩
               ·intro c546 hm648
                refine zG Z Z Z (zf Z Z (congrArg nB (nD.2 c546.out)) Z) (zG Z Z Z (zf Z Z (congrArg nB (nD.2 c546.out)) Z) (Zb Z Z Z (zf Z Z (congrArg nB (nD.2 c546.out)) Z) (oR Z (zX Z (congrArg nB (nD.2 c546.out)) Z) (oM Z Z (oN Z (oN Z (Zb Z Z Z (zf Z Z Z Z) (oR Z (zX Z Z Z) (oM Z Z (Zb Z Z Z (zf Z Z Z Z) (oR Z (zX Z Z Z) (oA Z Z (eN (zO ?_))))))))))))))
                have hE:=nA hm648;first | subst r | cases hE
                exact ⟨Z,_,(zm Z),U539,_,hS545,Z,Z⟩
            ·intro c403 hm649
             refine cF Z c403 (kN (sR (.fl 0 (.fl 1 (.fx 2 (wRa (.fx 6 (wOp (.fx 11 (.fl 12 (.fl 13 (.fx 14 (.fl 15 (.fl 16 (.nil))) .stop))) .stop)) .stop)) .stop))) Z (oM Z f390 (oM Z f387 ?_))))
             have h650:=h326.le le335
             have h651:=h650.le le385
             have h652:=h84.le le92
             have h653:=h652.le le99
             have h654:=h653.le le104
             have h655:=h654.le le117
             have h656:=h655.le le121
             have h657:=h656.le le140
             have h658:=h657.le le162
             have h659:=h658.le le178
             have h660:=h659.le le201
             have h661:=h660.le le224
             have h662:=h661.le le258
             have h663:=h662.le le267
             have h664:=h663.le le272
             have h665:=h664.le le284
             have h666:=h665.le le303
             have h667:=h666.le le322
             have h668:=h667.le le335
             have h669:=h668.le le385
             refine bnK hm649 fun x670 h671 hm672=>zM 0 Z Z Z Z (zN Z Z Tryz.call50 (zE Z (zE Z zW)) Z) hS386 (fun hs=>wBi x40 A49 c50 p0 pA0 pc0 W383 U384 hs h651 h669 h671) (.inr Z) ?_
             rintro U673 L674 v675 W676 le677 hS678 ⟨rfl,rfl⟩
             have hS679:sW w U U673 [B6,B7] W676:=hS678
             refine oM Z Z (ifc hm672 ?_ ?_)
             ·intro c680 hm681
              refine zK Z Z Z (zI Z Z (congrArg nB c680.out)) Z f391 (zK Z Z Z (zI Z Z (congrArg nB c680.out)) Z f388 ?_)
              have h682:=h215.le le224
              have h683:=h682.le le258
              have h684:=h683.le le267
              have h685:=h684.le le272
              have h686:=h685.le le284
              have h687:=h686.le le303
              have h688:=h687.le le322
              have h689:=h688.le le335
              have h690:=h689.le le385
              have h691:=h690.le le677
              have h692:=h249.le le258
              have h693:=h692.le le267
              have h694:=h693.le le272
              have h695:=h694.le le284
              have h696:=h695.le le303
              have h697:=h696.le le322
              have h698:=h697.le le335
              have h699:=h698.le le385
              have h700:=h699.le le677
              refine bnK hm681 fun x701 h702 hm703=>zM 0 Z Z Z (zI Z Z (congrArg nB c680.out)) (zN Z Z Tryz.call15 (zE Z (zE Z zW)) Z) hS679 (fun hs=>wBY x54 A63 c64 p1 pA1 pc1 W676 U673 hs h691 h700 h702) (.inr Z) ?_
              rintro U704 L705 v706 W707 le708 hS709 ⟨rfl,rfl⟩
              have hS710:sW w U U704 [B6,B7] W707:=hS709
              refine oR Z (zS Z (congrArg nB c680.out) Z) (oM Z Z (ifc hm703 ?_ ?_))
              ·intro c711 hm712
               refine zK Z Z Z (zI Z Z (congrArg nB c711.out)) Z f392 (zK Z Z Z (zI Z Z (congrArg nB c711.out)) Z f389 ?_)
               have h713:=hs163.le le178
               have h714:=h713.le le201
               have h715:=h714.le le224
               have h716:=h715.le le258
               have h717:=h716.le le267
               have h718:=h717.le le272
               have h719:=h718.le le284
               have h720:=h719.le le303
               have h721:=h720.le le322
               have h722:=h721.le le335
               have h723:=h722.le le385
               have h724:=h723.le le677
               have h725:=h724.le le708
               have h726:=h192.le le201
               have h727:=h726.le le224
               have h728:=h727.le le258
               have h729:=h728.le le267
               have h730:=h729.le le272
               have h731:=h730.le le284
               have h732:=h731.le le303
               have h733:=h732.le le322
               have h734:=h733.le le335
               have h735:=h734.le le385
               have h736:=h735.le le677
               have h737:=h736.le le708
               refine bnK hm712 fun x738 h739 hm740=>zM 0 Z Z Z (zI Z Z (congrArg nB c711.out)) (zN Z Z Tryz.call15 (zE Z (zE Z zW)) Z) hS710 (fun hs=>wBY x69 A78 c79 p2 pA2 pc2 W707 U704 hs h725 h737 h739) (.inr Z) ?_
               rintro U741 L742 v743 W744 le745 hS746 ⟨rfl,rfl⟩
               have hS747:sW w U U741 [B6,B7] W744:=hS746
               refine oR Z (zS Z (congrArg nB c711.out) Z) (oM Z Z (ifc hm740 ?_ ?_))
               ·intro c748 hm749
                refine bnK hm749 fun x750 h751 hm752=>zM 0 Z Z Z (zI Z Z (congrArg nB c748.out)) (zN Z Z Tryz.call11 zW Z) hS747 (fun hs=>wBQ W744 U741 hs h751) (.inr Z) ?_
                rintro U753 L754 v755 W756 le757 hS758 ⟨rfl,rfl⟩
                have hS759:sW w U U753 [B6,B7] W756:=hS758
                refine oR Z (zS Z (congrArg nB c748.out) Z) (oA Z Z (eN (zO ?_)))
                have hE:=nA hm752;first | subst r | cases hE
                exact ⟨rfl,_,(zm rfl),U753,_,(hS759.pick [] _ (by decide) rfl),rfl,rfl⟩
               ·intro c748 hm760
                refine Zb Z Z Z (zf Z Z (congrArg nB (nD.2 c748.out)) Z) (oR Z (zX Z (congrArg nB (nD.2 c748.out)) Z) (oA Z Z (eN (zO ?_))))
                have hE:=nA hm760;first | subst r | cases hE
                exact ⟨rfl,_,(zm rfl),U741,_,(hS747.pick [] _ (by decide) rfl),rfl,rfl⟩
              ·intro c711 hm761
               refine zG Z Z Z (zf Z Z (congrArg nB (nD.2 c711.out)) Z) (zG Z Z Z (zf Z Z (congrArg nB (nD.2 c711.out)) Z) (Zb Z Z Z (zf Z Z (congrArg nB (nD.2 c711.out)) Z) (oR Z (zX Z (congrArg nB (nD.2 c711.out)) Z) (oM Z Z (Zb Z Z Z (zf Z Z Z Z) (oR Z (zX Z Z Z) (oA Z Z (eN (zO ?_)))))))))
               have hE:=nA hm761;first | subst r | cases hE
               exact ⟨rfl,_,(zm rfl),U704,_,(hS710.pick [] _ (by decide) rfl),rfl,rfl⟩
             ·intro c680 hm762
              refine zG Z Z Z (zf Z Z (congrArg nB (nD.2 c680.out)) Z) (zG Z Z Z (zf Z Z (congrArg nB (nD.2 c680.out)) Z) (Zb Z Z Z (zf Z Z (congrArg nB (nD.2 c680.out)) Z) (oR Z (zX Z (congrArg nB (nD.2 c680.out)) Z) (oM Z Z (oN Z (oN Z (Zb Z Z Z (zf Z Z Z Z) (oR Z (zX Z Z Z) (oM Z Z (Zb Z Z Z (zf Z Z Z Z) (oR Z (zX Z Z Z) (oA Z Z (eN (zO ?_))))))))))))))
              have hE:=nA hm762;first | subst r | cases hE
              exact ⟨rfl,_,(zm rfl),U673,_,(hS679.pick [] _ (by decide) rfl),rfl,rfl⟩
         ·intro c287 hm763
          refine zn (nF (c287.out)) (sR fL1 Z (oA Z Z (eN (zO (zH ?_)))))
          have hE:=nA hm763;first | subst r | cases hE
          exact ⟨Z,_,(zm Z),U280,_,hS286,Z,Z⟩
        ·intro c264 hm764
         refine oT Z c264 (oT Z c264 (Zb Z Z Z (zf Z Z (ZD c264.out) Z) (oT Z c264 (oR Z (zS Z (ZD c264.out) Z) (eN (zn Z (sR fL1 Z (oA Z Z (eN (zO (zH ?_)))))))))))
         have hE:=nA hm764;first | subst r | cases hE
         exact ⟨rfl,_,(zm rfl),U254,_,(hS263.pick [] _ (by decide) rfl),rfl,rfl⟩
       ·intro c206 hm765
        refine cT Z c206 (sR fL1 Z (oA Z Z (eN (zO (zH ?_)))))
        have hE:=nA hm765;first | subst r | cases hE
        exact ⟨Z,_,(zm Z),U197,_,hS203,Z,Z⟩
      ·intro c204 hm766
       refine oT Z c204 (oT Z c204 (oT Z c204 (oR Z (zS Z (ZD c204.out) Z) (eN (zn Z (sR fL1 Z (oA Z Z (eN (zO (zH ?_))))))))))
       have hE:=nA hm766;first | subst r | cases hE
       exact ⟨Z,_,(zm Z),U197,_,hS203,Z,Z⟩
     ·intro c159 hm767
      refine cT Z c159 (sR fL1 Z (oA Z Z (eN (zO (zH ?_)))))
      have hE:=nA hm767;first | subst r | cases hE
      exact ⟨rfl,_,(zm rfl),U136,_,(hS142.pick [] _ (by decide) rfl),rfl,rfl⟩
    ·intro c157 hm768
     refine oT Z c157 (oT Z c157 (oT Z c157 (oR Z (zS Z (ZD c157.out) Z) (eN (zn Z (sR fL1 Z (oA Z Z (eN (zO (zH ?_))))))))))
     have hE:=nA hm768;first | subst r | cases hE
     exact ⟨rfl,_,(zm rfl),U136,_,(hS142.pick [] _ (by decide) rfl),rfl,rfl⟩
end Go.Proofs.YtghaibkggdecnaaGreat
