import Derived.Test.YtlnfbjphfoipaaaY2
set_option linter.all false
open Option renaming bind_some->hH
open Bool renaming and_eq_true->nA
open List renaming length_cons->nB,length_nil->nD,range->nE,all_eq_true->nG,mem_range->nH,countP_eq_length_filter->nJ,countP_mono_left->nK,countP_congr->nM
open Int renaming toNat_natCast->nI,toNat_of_nonneg->nL
namespace Go.Proofs.Ytlnfbjphfoipaaa
open Go.KL Go.KL.Net
open Classical
theorem wQl {r:wAB} (C:RC r):code r=0:=by
 unfold code
 rw [if_neg (fun h=>h C.n),if_neg (by have:=C.m;omega),if_neg (by have:=C.c;omega),if_neg (by have:=C.q;omega),if_pos (nG.2 fun s hs=>by
  have:=C.st s hs
  unfold stP inB
  rw [decide_eq_true_eq];omega),if_pos (nG.2 fun s hs=>by
  have:=C.sp s hs
  unfold spP wOk
  rw [decide_eq_true_eq];omega),if_pos (nG.2 fun s hs=>by
  have:=C.ck s hs
  unfold ckP wOk inB
  rw [nA,decide_eq_true_eq,decide_eq_true_eq];omega),if_pos (nG.2 fun s hs=>by
  have:=C.rt s hs
  unfold rtP inB
  rw [decide_eq_true_eq];omega),if_pos (nG.2 fun s hs=>by
  have:=C.ru s hs
  unfold ruP inB
  rw [nA,nA,decide_eq_true_eq,decide_eq_true_eq,decide_eq_true_eq];omega)]
theorem wDU {S:Type} {body:Nat->S->Option S} {n:Nat} {s0:S} (I:Nat->S->Prop) (hn:n <= 1000) (h0:I 0 s0) (h:∀ i s,i < n->I i s->∃ s',body i s=some s'/\I (i + 1) s'):∃ s,wBg 0 (n:Int) body s0=some s/\I n s:=by
 rw [wDr (by omega)]
 have:=wEV (body:=body) I n 0 s0 h0 fun i s _ h2 h3=>h i s (by omega) h3
 rwa [Nat.zero_add] at this
theorem wIc {α:Type} {l:List α} {a:α} {P:α->Prop} (h:∀ x ∈ l,P x) (ha:P a):∀ x ∈ l ++ [a],P x:=fun x hx=>by
 rcases List.mem_append.1 hx with h1 | h1
 ·exact h x h1
 ·rw [List.mem_singleton.1 h1];exact ha
def m1B:Nat->List Int × Int × Int × List Int->Option (List Int × Int × Int × List Int):=fun k62 (l53,x56,x57,l58) =>
  (wAL (⟨l53,x56,x57⟩:wAE) 4).bind fun (x142,x143) =>
  (wAL x143 3).bind fun (x156,x157) =>
  (app 8 l58 [w64 ((w64 (300 * x142)) + x156)]).bind fun x175 =>
  some (x157.bytes,x157.next,x157.state,x175)
def m2B:Nat->List Int × Int × Int × List wAF->Option (List Int × Int × Int × List wAF):=fun k274 (l265,x268,x269,l270) =>
  (wAM (⟨l265,x268,x269⟩:wAE) 3 9).bind fun (x305,x306) =>
  (wAL x306 30).bind fun (x353,x354) =>
  (app 16 l270 [(⟨w64 (100 * x305),w64 ((w64 (100 * x305)) + (w64 (10 * x353)))⟩:wAF)]).bind fun x372 =>
  some (x354.bytes,x354.next,x354.state,x372)
def m3I (y282:List wAF):Nat->List Int × Int × Int × Int × List Int->Option (List Int × Int × Int × Int × List Int):=fun k541 (l532,x535,x536,x537,l538) =>
      (chk (↑k541:Int) y282.length).bind fun _ =>
      (wAM (⟨l532,x535,x536⟩:wAE) ((gd y282 k541).Lo) ((gd y282 k541).Hi)).bind fun (x589,x590) =>
      (app 8 l538 [w64 (x537 + x589)]).bind fun x609 =>
      some (x590.bytes,x590.next,x590.state,w64 (x537 + x589),x609)
def m3B (y70:List Int) (y282:List wAF):Nat->List Int × Int × Int × List (List Int)->Option (List Int × Int × Int × List (List Int)):=fun k460 (l450,x453,x454,l455) =>
  (chk (↑k460:Int) y70.length).bind fun _ =>
  (wBg 0 (↑y282.length:Int) (m3I y282) (l450,x453,x454,(gd y70 k460),[(gd y70 k460)])).bind fun (y546,y547,y548,y549,y550) =>
  (app 24 l455 [y550]).bind fun x672 =>
  some (y546,y547,y548,x672)
def m4B:Nat->List Int × Int × Int × List wAI × List Int->Option (List Int × Int × Int × List wAI × List Int):=fun k792 (l779,x782,x783,l784,l788) =>
  (wAM (⟨l779,x782,x783⟩:wAE) (-60) 20).bind fun (x826,x827) =>
  (wAL x827 50).bind fun (x840,x841) =>
  (wAL x841 6).bind fun (x854,x855) =>
  (app 24 l784 [(⟨(⟨x826,w64 (x826 + x840)⟩:wAF),x854⟩:wAI)]).bind fun x880 =>
  (wAM x855 x826 (w64 (x826 + x840))).bind fun (x888,x889) =>
  (app 8 l788 [x888]).bind fun x908 =>
  some (x889.bytes,x889.next,x889.state,x880,x908)
def m5B (y70:List Int) (y282:List wAF) (y468:List (List Int)) (y800:List wAI) (y801:List Int):Nat->List Int × Int × Int × List wAR->Option (List Int × Int × Int × List wAR):=fun k1736 (l1727,x1730,x1731,l1732) =>
  ((wAL (⟨l1727,x1730,x1731⟩:wAE) (↑y70.length:Int)).bind fun (x1833,x1834) =>
  (wAL x1834 (w64 ((↑y282.length:Int) + 1))).bind fun (x1847,x1848) =>
  (wAL x1848 (↑y800.length:Int)).bind fun (x1861,x1862) =>
  some (x1862.bytes,x1862.next,x1862.state,x1833,x1847,x1861)).bind fun (l1767,x1770,x1771,x1774,x1775,x1776) =>
  (chk x1776 y800.length).bind fun _ =>
  (idx y468 x1774).bind fun x2140 =>
  (idx x2140 x1775).bind fun x2156 =>
  (chk x1776 y801.length).bind fun _ =>
  (wAM (⟨l1767,x1770,x1771⟩:wAE) (w64 (-((gd y800 x1776.toNat).Error))) ((gd y800 x1776.toNat).Error)).bind fun (x2171,x2172) =>
  if (w64 (-((gd y800 x1776.toNat).Error))) <= (w64 ((w64 ((max 0 (w64 ((w64 (x2156 + (gd y801 x1776.toNat))) + x2171))) - x2156)) - (gd y801 x1776.toNat))) then
   if (w64 ((w64 ((max 0 (w64 ((w64 (x2156 + (gd y801 x1776.toNat))) + x2171))) - x2156)) - (gd y801 x1776.toNat))) <= ((gd y800 x1776.toNat).Error) then
    (app 32 l1732 [(⟨x1774,x1775,x1776,max 0 (w64 ((w64 (x2156 + (gd y801 x1776.toNat))) + x2171))⟩:wAR)]).bind fun x2225 =>
    some (x2172.bytes,x2172.next,x2172.state,x2225)
   else
    some (x2172.bytes,x2172.next,x2172.state,l1732)
  else
   some (x2172.bytes,x2172.next,x2172.state,l1732)
theorem wKN (p0:wAE) (p1 p2 p3:Int):wBX p0 p1 p2 p3=(wAM p0 1 p1).bind fun (x10,x11) =>
 (wBg 0 x10 m1B (x11.bytes,x11.next,x11.state,[])).bind fun (y67,y68,y69,y70) =>
 (wAL (⟨y67,y68,y69⟩:wAE) p2).bind fun (x223,x224) =>
 (wBg 0 x223 m2B (x224.bytes,x224.next,x224.state,[])).bind fun (y279,y280,y281,y282) =>
 (wBg 0 (↑y70.length:Int) (m3B y70 y282) (y279,y280,y281,[])).bind fun (y465,y466,y467,y468) =>
 (wAM (⟨y465,y466,y467⟩:wAE) 1 3).bind fun (x726,x727) =>
 (wBg 0 x726 m4B (x727.bytes,x727.next,x727.state,[],[])).bind fun (y797,y798,y799,y800,y801) =>
 (wAL (⟨y797,y798,y799⟩:wAE) (w64 (p3 + 1))).bind fun (x1667,x1668) =>
 (wBg 0 x1667 (m5B y70 y282 y468 y800 y801) (x1668.bytes,x1668.next,x1668.state,[])).bind fun (y1741,y1742,y1743,y1744) =>
 some ((⟨y70,y282,y800,y1744⟩:wAB),y468,y801,(⟨y1741,y1742,y1743⟩:wAE)):=rfl
def M1 (n:Int) (k:Nat) (s:List Int × Int × Int × List Int):Prop:=0 <= s.2.1/\s.2.1 <= n + 2 * (k:Int)/\s.2.2.2.length=k/\∀ x ∈ s.2.2.2,0 <= x/\x <= 902
theorem wQm {n:Int} (n0:0 <= n) (n1:n <= 1000) {k:Nat} (hk:k < 10) {s:List Int × Int × Int × List Int} (I:M1 n k s):∃ s',m1B k s=some s'/\M1 n (k + 1) s':=by
 obtain ⟨b,nx,st,l⟩:=s
 obtain ⟨i0,i1,hl,he⟩:=I
 simp only at i0 i1 hl he
 unfold m1B
 simp only
 obtain ⟨x,d1,e1,p0,p1,x0,x1⟩:=wDb ⟨b,nx,st⟩ 4 i0 (by simp only;omega)
 obtain ⟨y,d2,e2,q0,q1,y0,y1⟩:=wDb d1 3 p0 (by simp only at p1;omega)
 simp only at p1
 rw [e1,hH]
 simp only
 rw [e2,hH]
 simp only
 rw [wAV (x:=300 * x) (by omega) (by omega),wAV (by omega) (by omega),wDs (by simp only [nB,nD];omega),hH]
 exact ⟨_,rfl,q0,by simp only;omega,by simp [hl],wIc he (by omega)⟩
def M2 (n:Int) (k:Nat) (s:List Int × Int × Int × List wAF):Prop:=0 <= s.2.1/\s.2.1 <= n + 2 * (k:Int)/\s.2.2.2.length=k/\∀ x ∈ s.2.2.2,300 <= x.Lo/\x.Lo <= x.Hi/\x.Hi <= 1190
theorem wQn {n:Int} (n0:0 <= n) (n1:n <= 1000) {k:Nat} (hk:k < 10) {s:List Int × Int × Int × List wAF} (I:M2 n k s):∃ s',m2B k s=some s'/\M2 n (k + 1) s':=by
 obtain ⟨b,nx,st,l⟩:=s
 obtain ⟨i0,i1,hl,he⟩:=I
 simp only at i0 i1 hl he
 unfold m2B
 simp only
 obtain ⟨x,d1,e1,p0,p1,x0,x1⟩:=wFI ⟨b,nx,st⟩ 3 9 i0 (by simp only;omega) (by omega) (by omega) (by omega)
 simp only at p1
 obtain ⟨y,d2,e2,q0,q1,y0,y1⟩:=wDb d1 30 p0 (by omega)
 rw [e1,hH]
 simp only
 rw [e2,hH]
 simp only
 rw [wAV (x:=100 * x) (by omega) (by omega),wAV (x:=10 * y) (by omega) (by omega),wAV (by omega) (by omega),wDs (by simp only [nB,nD];omega),hH]
 exact ⟨_,rfl,q0,by simp only;omega,by simp [hl],wIc he (by simp only;omega)⟩
structure RowI (sp:List wAF) (s0:Int) (j:Nat) (l:List Int):Prop where
 len:l.length=j + 1
 z:gd l 0=s0
 d:∀ i,i < j->(gd sp i).Lo <= gd l (i + 1) - gd l i/\gd l (i + 1) - gd l i <= (gd sp i).Hi
 b:∀ i,i < j + 1->0 <= gd l i/\gd l i <= 902 + 1190 * (i:Int)
def M3 (sp:List wAF) (s0 n:Int) (k:Nat) (s:List Int × Int × Int × Int × List Int):Prop:=0 <= s.2.1/\s.2.1 <= n + (k:Int)/\s.2.2.2.1=gd s.2.2.2.2 k/\RowI sp s0 k s.2.2.2.2
theorem wQo {sp:List wAF} (hsp:∀ x ∈ sp,300 <= x.Lo/\x.Lo <= x.Hi/\x.Hi <= 1190) {s0 n:Int} (n0:0 <= n) (n1:n <= 1000) {k:Nat} (hk:k < sp.length) (hk2:k < 10) {s:List Int × Int × Int × Int × List Int} (I:M3 sp s0 n k s):∃ s',m3I sp k s=some s'/\M3 sp s0 n (k + 1) s':=by
 obtain ⟨b,nx,st,t,l⟩:=s
 obtain ⟨i0,i1,ht,R⟩:=I
 simp only at i0 i1 ht R
 have hs:=hsp _ (wCX hk)
 have hb:=R.b k (by omega)
 have hl:=R.len
 unfold m3I
 simp only
 obtain ⟨x,d1,e1,p0,p1,x0,x1⟩:=wFI ⟨b,nx,st⟩ (gd sp k).Lo (gd sp k).Hi i0 (by simp only;omega) (by omega) (by omega) (by omega)
 simp only at p1
 rw [wCE (by omega) (by omega),hH,e1,hH]
 simp only
 rw [wAV (x:=t + x) (by omega) (by omega),wDs (by simp only [nB,nD];omega),hH]
 have gk:gd (l ++ [t + x]) (k + 1)=t + x:=by rw [<- hl,wGO]
 refine ⟨_,rfl,p0,by simp only;omega,gk.symm,by simp [hl],?_,fun i hi=>?_,fun i hi=>?_⟩
 ·simp only
  rw [wDJ (by omega)];exact R.z
 ·simp only
  by_cases c:i=k
  ·rw [c,gk,wDJ (by omega)]
   omega
  ·rw [wDJ (by omega),wDJ (by omega)]
   exact R.d i (by omega)
 ·simp only
  by_cases c:i=k + 1
  ·rw [c,gk];omega
  ·rw [wDJ (by omega)]
   exact R.b i (by omega)
def M3o (st:List Int) (sp:List wAF) (n:Int) (k:Nat) (s:List Int × Int × Int × List (List Int)):Prop:=0 <= s.2.1/\s.2.1 <= n + 10 * (k:Int)/\s.2.2.2.length=k/\∀ i,i < k->RowI sp (gd st i) sp.length (gd s.2.2.2 i)
theorem wOn {st:List Int} (hst:∀ x ∈ st,0 <= x/\x <= 902) {sp:List wAF} (hl:sp.length <= 9) (hsp:∀ x ∈ sp,300 <= x.Lo/\x.Lo <= x.Hi/\x.Hi <= 1190) {n:Int} (n0:0 <= n) (n1:n <= 800) {k:Nat} (hk:k < st.length) (hk2:k < 10) {s:List Int × Int × Int × List (List Int)} (I:M3o st sp n k s):∃ s',m3B st sp k s=some s'/\M3o st sp n (k + 1) s':=by
 obtain ⟨b,nx,se,l⟩:=s
 obtain ⟨i0,i1,hll,he⟩:=I
 simp only at i0 i1 hll he
 have hs:=hst _ (wCX hk)
 unfold m3B
 simp only
 obtain ⟨⟨b',nx',st',t',l'⟩,e,J0,J1,_,J⟩:=wDU (n:=sp.length) (body:=m3I sp) (s0:=(b,nx,se,gd st k,[gd st k])) (M3 sp (gd st k) nx) (by omega) ⟨i0,by simp only;omega,rfl,rfl,rfl,(fun i hi=>by omega),fun i hi=>by
  obtain rfl:i=0:=by omega
  show 0 <= gd st k/\gd st k <= _
  omega⟩ fun i s hi I=>wQo hsp i0 (by omega) hi (by omega) I
 simp only at J0 J1 J
 rw [wCE (by omega) (by omega),hH,e,hH]
 simp only
 rw [wDs (by simp only [nB,nD];omega),hH]
 refine ⟨_,rfl,J0,by simp only;omega,by simp [hll],fun i hi=>?_⟩
 simp only
 by_cases c:i=k
 ·rw [c,show gd (l ++ [l']) k=l' by rw [<- hll,wGO]]
  exact J
 ·rw [wDJ (by omega)]
  exact he i (by omega)
def ClkI (c:wAI) (o:Int):Prop:=-60 <= c.Offset.Lo/\c.Offset.Lo <= c.Offset.Hi/\c.Offset.Hi <= 70/\0 <= c.Error/\c.Error <= 5/\c.Offset.Lo <= o/\o <= c.Offset.Hi
def M4 (n:Int) (k:Nat) (s:List Int × Int × Int × List wAI × List Int):Prop:=0 <= s.2.1/\s.2.1 <= n + 4 * (k:Int)/\s.2.2.2.1.length=k/\s.2.2.2.2.length=k/\∀ i,i < k->ClkI (gd s.2.2.2.1 i) (gd s.2.2.2.2 i)
theorem wQp {n:Int} (n0:0 <= n) (n1:n <= 1000) {k:Nat} (hk:k < 10) {s:List Int × Int × Int × List wAI × List Int} (I:M4 n k s):∃ s',m4B k s=some s'/\M4 n (k + 1) s':=by
 obtain ⟨b,nx,st,l,o⟩:=s
 obtain ⟨i0,i1,hl,ho,he⟩:=I
 simp only at i0 i1 hl ho he
 unfold m4B
 simp only
 obtain ⟨a,d1,e1,p0,p1,a0,a1⟩:=wFI ⟨b,nx,st⟩ (-60) 20 i0 (by simp only;omega) (by omega) (by omega) (by omega)
 simp only at p1
 obtain ⟨y,d2,e2,q0,q1,y0,y1⟩:=wDb d1 50 p0 (by omega)
 obtain ⟨z,d3,e3,r0,r1,z0,z1⟩:=wDb d2 6 q0 (by omega)
 obtain ⟨v,d4,e4,s0,s1,v0,v1⟩:=wFI d3 a (a + y) r0 (by omega) (by omega) (by omega) (by omega)
 rw [e1,hH]
 simp only
 rw [e2,hH]
 simp only
 rw [e3,hH]
 simp only
 rw [wAV (x:=a + y) (by omega) (by omega),wDs (by simp only [nB,nD];omega),hH,e4,hH]
 simp only
 rw [wDs (by simp only [nB,nD];omega),hH]
 refine ⟨_,rfl,s0,by simp only;omega,by simp [hl],by simp [ho],fun i hi=>?_⟩
 simp only
 by_cases c:i=k
 ·have h1:gd (l ++ [(⟨⟨a,a + y⟩,z⟩:wAI)]) i=⟨⟨a,a + y⟩,z⟩:=by rw [c,<- hl,wGO]
  have h2:gd (o ++ [v]) i=v:=by rw [c,<- ho,wGO]
  rw [h1,h2]
  unfold ClkI
  simp only
  omega
 ·rw [wDJ (by omega),wDJ (by omega)]
  exact he i (by omega)
def RdI (n m c:Nat) (T:List (List Int)) (C:List wAI) (O:List Int) (x:wAR):Prop :=
 (0 <= x.Skier/\x.Skier < n/\0 <= x.Mat/\x.Mat <= m/\0 <= x.Clock/\x.Clock < c)/\0 <= x.Time/\x.Time <= 100000/\-(gd C x.Clock.toNat).Error <= x.Time - gd (gd T x.Skier.toNat) x.Mat.toNat - gd O x.Clock.toNat/\x.Time - gd (gd T x.Skier.toNat) x.Mat.toNat - gd O x.Clock.toNat <= (gd C x.Clock.toNat).Error
def M5 (st:List Int) (sp:List wAF) (T:List (List Int)) (C:List wAI) (O:List Int) (n:Int) (k:Nat) (s:List Int × Int × Int × List wAR):Prop:=0 <= s.2.1/\s.2.1 <= n + 4 * (k:Int)/\s.2.2.2.length <= k/\∀ x ∈ s.2.2.2,RdI st.length sp.length C.length T C O x
theorem wQq {st:List Int} {sp:List wAF} {T:List (List Int)} {C:List wAI} {O:List Int} (h1:1 <= st.length) (h2:st.length <= 10) (h3:sp.length <= 9) (hT:T.length=st.length) (hR:∀ i,i < st.length->RowI sp (gd st i) sp.length (gd T i)) (c1:1 <= C.length) (c2:C.length <= 10) (hO:O.length=C.length) (hC:∀ i,i < C.length->ClkI (gd C i) (gd O i)) {n:Int} (n0:0 <= n) (n1:n <= 1000) {k:Nat} (hk:k < 50) {s:List Int × Int × Int × List wAR} (I:M5 st sp T C O n k s):∃ s',m5B st sp T C O k s=some s'/\M5 st sp T C O n (k + 1) s':=by
 obtain ⟨b,nx,se,l⟩:=s
 obtain ⟨i0,i1,hl,he⟩:=I
 simp only at i0 i1 hl he
 unfold m5B
 simp only
 obtain ⟨x,d1,e1,p0,p1,x0,x1⟩:=wDb ⟨b,nx,se⟩ (st.length:Int) i0 (by simp only;omega)
 simp only at p1
 obtain ⟨y,d2,e2,q0,q1,y0,y1⟩:=wDb d1 ((sp.length:Int) + 1) p0 (by omega)
 obtain ⟨z,d3,e3,r0,r1,z0,z1⟩:=wDb d2 (C.length:Int) q0 (by omega)
 have hx:x.toNat < st.length:=by omega
 have hz:z.toNat < C.length:=by omega
 obtain ⟨K1,K2,K3,K4,K5,K6,K7⟩:=hC z.toNat hz
 have R:=hR x.toNat hx
 have hb:=R.b y.toNat (by omega)
 have hlen:=R.len
 obtain ⟨v,d4,e4,s0,s1,v0,v1⟩:=wFI d3 (-(gd C z.toNat).Error) (gd C z.toNat).Error r0 (by omega) (by omega) (by omega) (by omega)
 rw [e1,hH]
 simp only
 rw [wAV (x:=(sp.length:Int) + 1) (by omega) (by omega),e2,hH]
 simp only
 rw [e3,hH,hH]
 simp only
 rw [wCE (by omega) (by omega),hH,wCY x0 (by omega),hH,wCY y0 (by omega),hH,wCE (by omega) (by omega),hH,wAV (x:=-(gd C z.toNat).Error) (by omega) (by omega),show (⟨d3.bytes,d3.next,d3.state⟩:wAE)=d3 from rfl,e4,hH]
 simp only
 rw [wAV (x:=gd (gd T x.toNat) y.toNat + gd O z.toNat) (by omega) (by omega),wAV (x:=gd (gd T x.toNat) y.toNat + gd O z.toNat + v) (by omega) (by omega),wAV (x:=max 0 (gd (gd T x.toNat) y.toNat + gd O z.toNat + v) - gd (gd T x.toNat) y.toNat) (by omega) (by omega),wAV (x:=_ - gd O z.toNat) (by omega) (by omega)]
 by_cases g1:-(gd C z.toNat).Error <= max 0 (gd (gd T x.toNat) y.toNat + gd O z.toNat + v) - gd (gd T x.toNat) y.toNat - gd O z.toNat
 ·rw [if_pos g1]
  by_cases g2:max 0 (gd (gd T x.toNat) y.toNat + gd O z.toNat + v) - gd (gd T x.toNat) y.toNat - gd O z.toNat <= (gd C z.toNat).Error
  ·rw [if_pos g2,wDs (by simp only [nB,nD];omega),hH]
   refine ⟨_,rfl,s0,by simp only;omega,by simp;omega,wIc he ⟨?_,?_,?_,g1,g2⟩⟩
   ·simp only;omega
   ·simp only;omega
   ·simp only;omega
  ·rw [if_neg g2]
   exact ⟨_,rfl,s0,by simp only;omega,by simp only;omega,he⟩
 ·rw [if_neg g1]
  exact ⟨_,rfl,s0,by simp only;omega,by simp only;omega,he⟩
theorem wNy {d:wAE} (h0:d.next=0) {u w q:Int} (u1:1 <= u) (u2:u <= 8) (w1:1 <= w) (w2:w <= 8) (q0:0 <= q) (q1:q <= 40):∃ r T O d',wBX d u w q=some (r,T,O,d')/\RC r/\Lens r T O/\wCQ r (yT T O)/\(∀ x ∈ r.Starts,x <= 902)/\(∀ x ∈ r.Clocks,-60 <= x.Offset.Lo/\x.Offset.Hi <= 70)/\(∀ x ∈ r.Readings,x.Time <= 100000):=by
 rw [wKN]
 obtain ⟨x,d1,e1,m0,m1,x0,x1⟩:=wFI d 1 u (by omega) (by omega) (by omega) (by omega) (by omega)
 obtain ⟨n,rfl⟩:∃ n:Nat,x=n:=⟨x.toNat,by omega⟩
 obtain ⟨⟨b2,nx2,st2,S⟩,e2,a0,a1,hS,eS⟩:=wDU (n:=n) (body:=m1B) (s0:=(d1.bytes,d1.next,d1.state,[])) (M1 d1.next) (by omega) ⟨m0,by simp only;omega,rfl,by simp⟩ fun i s hi I=>wQm m0 (by omega) (by omega) I
 simp only at a0 a1 hS eS
 obtain ⟨y,d3,e3,b0,b1,y0,y1⟩:=wDb ⟨b2,nx2,st2⟩ w a0 (by simp only;omega)
 simp only at b1
 obtain ⟨m,rfl⟩:∃ n:Nat,y=n:=⟨y.toNat,by omega⟩
 obtain ⟨⟨b4,nx4,st4,P⟩,e4,c0,c1,hP,eP⟩:=wDU (n:=m) (body:=m2B) (s0:=(d3.bytes,d3.next,d3.state,[])) (M2 d3.next) (by omega) ⟨b0,by simp only;omega,rfl,by simp⟩ fun i s hi I=>wQn b0 (by omega) (by omega) I
 simp only at c0 c1 hP eP
 obtain ⟨⟨b5,nx5,st5,T⟩,e5,f0,f1,hT,eT⟩:=wDU (n:=S.length) (body:=m3B S P) (s0:=(b4,nx4,st4,[])) (M3o S P nx4) (by omega) ⟨c0,by simp only;omega,rfl,fun i hi=>by omega⟩ fun i s hi I=>wOn eS (by omega) eP c0 (by omega) hi (by omega) I
 simp only at f0 f1 hT eT
 obtain ⟨z,d6,e6,g0,g1,z0,z1⟩:=wFI ⟨b5,nx5,st5⟩ 1 3 f0 (by simp only;omega) (by omega) (by omega) (by omega)
 simp only at g1
 obtain ⟨c,rfl⟩:∃ n:Nat,z=n:=⟨z.toNat,by omega⟩
 obtain ⟨⟨b7,nx7,st7,C,O⟩,e7,k0,k1,hC,hO,eC⟩:=wDU (n:=c) (body:=m4B) (s0:=(d6.bytes,d6.next,d6.state,[],[])) (M4 d6.next) (by omega) ⟨g0,by simp only;omega,rfl,rfl,fun i hi=>by omega⟩ fun i s hi I=>wQp g0 (by omega) (by omega) I
 simp only at k0 k1 hC hO eC
 obtain ⟨v,d8,e8,l0,l1,v0,v1⟩:=wDb ⟨b7,nx7,st7⟩ (q + 1) k0 (by simp only;omega)
 simp only at l1
 obtain ⟨h,rfl⟩:∃ n:Nat,v=n:=⟨v.toNat,by omega⟩
 have hTl:T.length=S.length:=by omega
 obtain ⟨⟨b9,nx9,st9,R⟩,e9,_,_,hR,eR⟩:=wDU (n:=h) (body:=m5B S P T C O) (s0:=(d8.bytes,d8.next,d8.state,[])) (M5 S P T C O d8.next) (by omega) ⟨l0,by simp only;omega,Nat.le_refl _,by simp⟩ fun i s hi I=>wQq (by omega) (by omega) (by omega) hTl (fun i hi=>eT i (by omega)) (by omega) (by omega) (by omega) (fun i hi=>eC i (by omega)) l0 (by omega) (by omega) I
 simp only at hR eR
 rw [e1,hH]
 simp only
 rw [e2,hH]
 simp only
 rw [e3,hH]
 simp only
 rw [e4,hH]
 simp only
 rw [e5,hH]
 simp only
 rw [e6,hH]
 simp only
 rw [e7,hH]
 simp only
 rw [wAV (x:=q + 1) (by omega) (by omega),e8,hH]
 simp only
 rw [e9,hH]
 have hck:∀ x ∈ C,∃ o,ClkI x o:=fun x hx=>by
  obtain ⟨i,hi,rfl⟩:=wNl hx
  exact ⟨_,eC i (by omega)⟩
 have RR:RC ⟨S,P,C,R⟩:=⟨⟨by simp only;omega,by simp only;omega⟩,by simp only;omega,by simp only;omega,by simp only;omega,(fun s hs=>by have:=eS s hs;omega),(fun s hs=>by have:=eP s hs;omega),(fun s hs=>by
  obtain ⟨o,h1,h2,h3,h4,h5,h6,h7⟩:=hck s hs
  exact ⟨⟨h2,by omega,by omega⟩,h4,by omega⟩),(fun x hx=>by have:=eR x hx;exact ⟨this.2.1,by have:=this.2.2.1;omega⟩),fun x hx=>(eR x hx).1⟩
 refine ⟨⟨S,P,C,R⟩,T,O,_,rfl,RR,⟨hTl,fun k hk=>(eT k hk).len,by simp only;omega⟩,(wLD RR).2 ⟨?_,?_,?_⟩,fun x hx=>(eS x hx).2,fun x hx=>?_,fun x hx=>(eR x hx).2.2.1⟩
 ·rw [wBc]
  intro i _ hi
  have hi:i < S.length:=by simp only at hi;omega
  have Q:=eT i hi
  unfold wRF
  rw [nA,decide_eq_true_eq,wBc]
  refine ⟨Q.z,fun j _ hj=>?_⟩
  unfold inB
  rw [decide_eq_true_eq]
  exact Q.d j (by simp only at hj;omega)
 ·rw [wBc]
  intro i _ hi
  have Q:=eC i (by simp only at hi;omega)
  unfold wSK inB
  rw [decide_eq_true_eq]
  exact ⟨Q.2.2.2.2.2.1,Q.2.2.2.2.2.2⟩
 ·rw [wBc]
  intro i _ hi
  have Q:=eR _ (wCX (l:=R) (k:=i) (by simp only at hi;omega))
  unfold wSL inB
  rw [decide_eq_true_eq]
  exact ⟨Q.2.2.2.1,Q.2.2.2.2⟩
 ·obtain ⟨o,h1,h2,h3,_⟩:=hck x hx
  exact ⟨h1,h3⟩
end Go.Proofs.Ytlnfbjphfoipaaa
namespace Go.Proofs.Ytlnfbjphfoipaaa
open Go.KL Go.KL.Net
open Classical
theorem wQr {x n:Int} (x0:-9223372036854775808 <= x) (x1:x <= 9223372036854775807) (n1:1 <= n) (n2:n <= 100000):∃ y,wBn x n=some y/\0 <= y/\y < n:=by
 unfold wBn
 have e1:rem x n=some (x.tmod n):=if_neg (by omega)
 have b1:-n < x.tmod n/\x.tmod n < n:=by
  have h:=Int.natAbs_tmod x n
  have h2:x.natAbs % n.natAbs < n.natAbs:=Nat.mod_lt _ (by omega)
  omega
 have e2:rem (x.tmod n + n) n=some ((x.tmod n + n).tmod n):=if_neg (by omega)
 have b2:0 <= (x.tmod n + n).tmod n/\(x.tmod n + n).tmod n < n:=⟨Int.tmod_nonneg _ (by omega),Int.tmod_lt_of_pos _ (by omega)⟩
 rw [if_neg (by omega),e1,hH,wAV (by omega) (by omega),e2]
 exact ⟨_,rfl,b2⟩
theorem cnt_s (q:Nat->Bool) (k:Nat):(nE (k + 1)).countP q=if q k=true then (nE k).countP q + 1 else (nE k).countP q:=by
 rw [List.range_succ,List.countP_append]
 by_cases c:q k=true
 ·rw [if_pos c];simp [c]
 ·rw [if_neg c];simp [c]
theorem wSO (q:Nat->Bool) (k:Nat):(nE k).countP q <= k:=by
 have:=List.countP_le_length (p:=q) (l:=nE k)
 rwa [List.length_range] at this
theorem wPU {G:Nat->Nat->Int} {i:Nat} (h:¬ 0 < G i i):∀ k,i < k->beK G i k < k
 | 0,h=>by omega
 | k + 1,hk=>by
  have l:=wNu G i k
  rw [wIb]
  by_cases c:i=k
  ·rw [<- c,if_neg h];rw [<- c] at l;omega
  ·have:=wPU h k (by omega)
   split <;> omega
theorem wPV {G:Nat->Nat->Int} {i n p:Nat} (hp:p < (ahK G i n).length):∃ j:Nat,j < n/\gd (ahK G i n) p=(j:Int)/\G i j < 0:=by
 have h:=wCX hp
 obtain ⟨j,hj,e⟩:=List.mem_map.1 h
 obtain ⟨h1,h2⟩:=List.mem_filter.1 hj
 exact ⟨j,nH.1 h1,e.symm,of_decide_eq_true h2⟩
theorem wQs {G:Nat->Nat->Int} {i n k:Nat} (h:¬ G i k < 0):(k:Int) ∉ ahK G i n:=fun hm=>by
 obtain ⟨j,hj,e⟩:=List.mem_map.1 hm
 obtain ⟨h1,h2⟩:=List.mem_filter.1 hj
 have:j=k:=by have e':(j:Int)=(k:Int):=e;omega
 exact h (this ▸ of_decide_eq_true h2)
theorem wSP {l:List Int} {v:Int} (h:v ∉ l) (hl:l.length <= 1000):wAt l v=some false:=by
 unfold wAt wBb
 rw [wCs (by omega) fun k hk=>by
  rw [wBe hk,hH,if_neg (show ¬ v=gd l k from fun e=>h (by rw [e];exact wCX hk))]]
 rfl
theorem wNz {T:List (List Int)} {n:Nat} (hT:T.length=n) (hn:n <= 100) {m:Int} (m0:0 <= m) (hl:∀ k,k < n->m < (gd T k).length) {i:Nat} (hi:i < n):wAd T (i:Int) m=some (1 + ((nE n).countP fun (j:Nat)=>decide (gd (gd T j) m.toNat < gd (gd T i) m.toNat):Nat):Int):=by
 unfold wAd
 rw [hT,wCr (S:=Int) (n:=n) (fun k=>(1 + ((nE k).countP fun (j:Nat)=>decide (gd (gd T j) m.toNat < gd (gd T i) m.toNat):Nat):Int)) (s0:=1) (by simp) (by omega) fun k hk=>?_]
 ·rfl
 ·have l2:=wSO (fun (j:Nat)=>decide (gd (gd T j) m.toNat < gd (gd T i) m.toNat)) k
  rw [wBe (by omega),hH,wCY m0 (hl k hk),hH,wBe (by omega),hH,wCY m0 (hl i hi),hH,cnt_s]
  by_cases c:gd (gd T k) m.toNat < gd (gd T i) m.toNat
  ·rw [if_pos c,if_pos (decide_eq_true c),wAV (by omega) (by omega)]
   congr 1
  ·rw [if_neg c,if_neg (by simpa using c)]
theorem wOo {r:wAB} (C:RC r) {T:List (List Int)} {O:List Int} (L:Lens r T O) (F:wCQ r (yT T O)) (bT:∀ i j,i < r.Starts.length->j < r.Splits.length + 1->-100000000 <= gd (gd T i) j/\gd (gd T i) j <= 100000000) (bO:∀ i,i < r.Clocks.length->-100000000 <= gd O i/\gd O i <= 100000000):wBE r T O=some true:=by
 obtain ⟨h1,h2,h3⟩:=(wLD C).1 F
 have hn:=C.n;have hm:=C.m;have hc:=C.c;have hq:=C.q
 have lt:=L.t;have lo:=L.o
 unfold wBE
 rw [if_pos (by omega),if_pos (by omega),wCs (by omega) fun i hi=>?_,wCU,wCs (by omega) fun i hi=>?_,wCU,wCs (by omega) fun i hi=>?_,wCU]
 ·have u:=C.ru _ (wCX hi)
  have ut:=C.rt _ (wCX hi)
  have uc:=C.ck _ (wCJ u.2.2.2.2.1 u.2.2.2.2.2)
  have a1:=bT (gd r.Readings i).Skier.toNat (gd r.Readings i).Mat.toNat (by omega) (by omega)
  have a2:=bO (gd r.Readings i).Clock.toNat (by omega)
  have ll:=L.l (gd r.Readings i).Skier.toNat (by omega)
  have g:=(wBc _ _ _).1 h3 i (by omega) (by omega)
  unfold wSL inB at g
  rw [decide_eq_true_eq] at g
  rw [wBe hi,hH,wCY u.1 (by omega),hH,wCY u.2.2.1 (by omega),hH,wCY u.2.2.2.2.1 (by omega),hH,wCY u.2.2.2.2.1 (by omega),hH,wAV (x:=(gd r.Readings i).Time - gd (gd T (gd r.Readings i).Skier.toNat) (gd r.Readings i).Mat.toNat) (by omega) (by omega),wAV (x:=_ - gd O (gd r.Readings i).Clock.toNat) (by omega) (by omega),if_neg (by omega),wAV (by omega) (by omega),if_neg (by omega)]
 ·have g:=(wBc _ _ _).1 h2 i (by omega) (by omega)
  unfold wSK inB at g
  rw [decide_eq_true_eq] at g
  rw [wBe hi,hH,wBe (by omega),hH,if_neg (by omega),if_neg (by omega)]
 ·have hi':i < T.length:=by omega
  have ll:=L.l i (by omega)
  have g:=(wBc _ _ _).1 h1 i (by omega) (by omega)
  unfold wRF at g
  rw [nA,decide_eq_true_eq] at g
  rw [wBe hi',hH,wAV (by omega) (by omega),if_pos (by omega),show (0:Int)=((0:Nat):Int) from rfl,wBe (by omega),hH,wBe (by omega),hH,if_pos g.1,show ((0:Nat):Int)=0 from rfl,wCs (by omega) fun j hj=>?_]
  ·rfl
  ·have q:=(wBc _ _ _).1 g.2 j (by omega) (by omega)
   unfold inB at q
   rw [decide_eq_true_eq] at q
   have sp:=C.sp _ (wCX hj)
   have a1:=bT i (j + 1) (by omega) (by omega)
   have a2:=bT i j (by omega) (by omega)
   rw [wBe hj,hH,wBe (by omega),hH,wBe (by omega),hH,if_neg (by omega),wAV (by omega) (by omega),if_neg (by omega),if_neg (by omega)]
theorem wSQ {r:wAB} (S:wEZ r) {a b:wAQ} (c:wFc r [a,b]=0) {f g:Pt->Int} (hf:IsDP r (pt a) f) (hg:IsDP r (pt b) g):wDo r a b=some (⟨-g (pt a),f (pt b)⟩,0):=by
 unfold wDo
 obtain ⟨o,e,h0,_⟩:=wIa S (l:=[a,b]) (by simp)
 obtain ⟨d,pts,rfl,D⟩:=h0 c
 obtain ⟨C,_,hs,hy⟩:=err0 c
 simp only [List.all_cons,List.all_nil,Bool.and_true,nA] at hs
 have ha:=(wIZ (r:=r) (s:=a) hs.1).1
 have hb:=(wIZ (r:=r) (s:=b) hs.2).1
 obtain ⟨f',l1,e1,n1,F'⟩:=D.from_ hy ha
 obtain ⟨g',l2,e2,n2,G'⟩:=D.from_ hy hb
 have f1:=F'.one hf hb
 have g1:=G'.one hg ha
 have gn:=hg.near C hb ha
 have pa:=D.pos_ok ha
 have pb:=D.pos_ok hb
 rw [e,hH]
 simp only
 rw [if_pos c]
 unfold wCp
 rw [hH,hH]
 show (wBZ d (pt a) (pt b)).bind _=_
 unfold wBZ
 rw [pa.2.2,pb.2.2,e1,hH]
 simp only
 rw [hH,e2,hH]
 simp only
 rw [hH]
 simp only
 rw [wCE (by omega) (by omega),hH,wCE (by omega) (by omega),hH,nI,nI,f1,g1,wAV (by omega) (by omega)]
 rfl
theorem dp_ex {r:wAB} (S:wEZ r) (c:code r=0) (hy:∃ y,wCQ r y) {a:Pt} (ha:wEh r a):∃ f,IsDP r a f:=by
 rcases wLC S with ⟨c0,_⟩ | ⟨_,d,pts,_,D⟩
 ·exact absurd c c0
 ·obtain ⟨f,l,_,_,F⟩:=D.from_ hy ha
  exact ⟨_,F⟩
theorem wLh (p0:List Int) (p1:Int) (x0:-9223372036854775808 <= p1) (x1:p1 <= 9223372036854775807):wBG p0 p1=some true:=by
 have aw:wCP=some true:=rfl
 unfold wBG
 obtain ⟨r,T,O,d',e1,C,L,Fe,_,_,_⟩:=wNy (d:=⟨p0,0,17⟩) rfl (u:=7) (w:=5) (q:=14) (by omega) (by omega) (by omega) (by omega) (by omega) (by omega)
 have hn:=C.n;have hm:=C.m;have hc:=C.c;have hq:=C.q
 have S:wEZ r:=⟨by omega,by omega,by omega,by omega⟩
 have c0:=wQl C
 obtain ⟨m,e2,m0,m1⟩:=wQr x0 x1 (n:=(r.Splits.length:Int) + 1) (by omega) (by omega)
 have ok:∀ i:Nat,i < r.Starts.length->wEh r ⟨(i:Int),m⟩:=fun i hi=>.inr (.inl ⟨by simp only;omega,by simp only;omega,m0,by simp only;omega⟩)
 have sb:∀ i:Nat,i < r.Starts.length->wHb r ⟨(i:Int),m⟩=true:=fun i hi=>by
  simp only [wHb,inB,nA,decide_eq_true_eq]
  omega
 have sb0:wHb r ⟨0,m⟩=true:=sb 0 (by omega)
 have ev:∀ l:List wAQ,l.all (wHb r)=true->wFc r l=0:=fun l hl=>by
  unfold wFc
  rw [if_pos c0,if_pos hl,if_pos ⟨_,Fe⟩]
 have ex:∀ i:Nat,∃ f:Pt->Int,i < r.Starts.length->IsDP r ⟨(i:Int),m⟩ f:=fun i=>by
  by_cases c:i < r.Starts.length
  ·obtain ⟨f,hf⟩:=dp_ex S c0 ⟨_,Fe⟩ (ok i c)
   exact ⟨f,fun _=>hf⟩
  ·exact ⟨fun _=>0,fun h=>absurd h c⟩
 obtain ⟨F,hF⟩:∃ F:Nat->Pt->Int,∀ i,i < r.Starts.length->IsDP r ⟨(i:Int),m⟩ (F i):=⟨fun i=>Classical.choose (ex i),fun i=>Classical.choose_spec (ex i)⟩
 have eP:=(wNv S m).2 (ev _ (by simp [sb0])) F hF
 have eA:=(wOl S m).2 (ev _ (by simp [sb0])) F hF
 have plen:(plL r.Starts.length (fun i j=>F i ⟨(j:Int),m⟩)).length=r.Starts.length:=by simp [plL]
 have alen:(ahL r.Starts.length (fun i j=>F i ⟨(j:Int),m⟩)).length=r.Starts.length:=by simp [ahL]
 rw [show wCk p0=some (⟨p0,0,17⟩:wAE) from rfl,hH,e1,hH]
 simp only
 rw [wAV (x:=(r.Splits.length:Int) + 1) (by omega) (by omega),e2,hH,eP,hH]
 simp only
 rw [eA,hH]
 simp only
 rw [if_pos trivial,if_pos trivial,if_pos (by rw [plen]),if_pos (by rw [alen,plen]),plen]
 have feas_at:∀ (y:Pt->Int),wCQ r y->∀ i j:Nat,i < r.Starts.length->j < r.Starts.length->y ⟨(j:Int),m⟩ - y ⟨(i:Int),m⟩ <= F i ⟨(j:Int),m⟩:=fun y hy i j hi hj=>(hF i hi).gr y hy _ (ok j hj)
 have tb:=(wNy (d:=⟨p0,0,17⟩) rfl (u:=7) (w:=5) (q:=14) (by omega) (by omega) (by omega) (by omega) (by omega) (by omega))
 have Ty:∀ j:Nat,yT T O ⟨(j:Int),m⟩=gd (gd T j) m.toNat:=fun j=>by rw [wDl _ _ (by omega),nI]
 rw [wCs (by omega) fun i hi=>?_,wCU,aw]
 ·rfl
 have gp:gd (plL r.Starts.length (fun i j=>F i ⟨(j:Int),m⟩)) i=⟨1 + ((ahK (fun i j=>F i ⟨(j:Int),m⟩) i r.Starts.length).length:Int),1 + (beK (fun i j=>F i ⟨(j:Int),m⟩) i r.Starts.length:Int)⟩:=by
  unfold plL
  rw [wFt _ hi]
 have ga:gd (ahL r.Starts.length (fun i j=>F i ⟨(j:Int),m⟩)) i=ahK (fun i j=>F i ⟨(j:Int),m⟩) i r.Starts.length:=by
  unfold ahL
  rw [wFt _ hi]
 have cA:∀ q:Nat->Bool,(∀ j,j < r.Starts.length->F i ⟨(j:Int),m⟩ < 0->q j=true)->(ahK (fun i j=>F i ⟨(j:Int),m⟩) i r.Starts.length).length <= (nE r.Starts.length).countP q:=fun q hq=>by
  unfold ahK
  rw [List.length_map,<- nJ]
  exact nK fun j hj h=>hq j (nH.1 hj) (of_decide_eq_true h)
 have cA':∀ q:Nat->Bool,(∀ j,j < r.Starts.length->(q j=true ↔ F i ⟨(j:Int),m⟩ < 0))->(nE r.Starts.length).countP q=(ahK (fun i j=>F i ⟨(j:Int),m⟩) i r.Starts.length).length:=fun q hq=>by
  unfold ahK
  rw [List.length_map,<- nJ]
  refine nM fun j hj=>?_
  rw [hq j (nH.1 hj),decide_eq_true_eq]
 have lA:=wHI (fun i j=>F i ⟨(j:Int),m⟩) i r.Starts.length
 have lB:=wPU (G:=fun i j=>F i ⟨(j:Int),m⟩) (i:=i) (by have:=(hF i hi).zero;show ¬ 0 < F i ⟨(i:Int),m⟩;omega) r.Starts.length hi
 have r1:=cA (fun (j:Nat)=>decide (gd (gd T j) m.toNat < gd (gd T i) m.toNat)) fun j hj h=>by
  have:=feas_at _ Fe i j hi hj
  rw [Ty,Ty] at this
  rw [decide_eq_true_eq];omega
 have r2:(nE r.Starts.length).countP (fun (j:Nat)=>decide (gd (gd T j) m.toNat < gd (gd T i) m.toNat)) <= beK (fun i j=>F i ⟨(j:Int),m⟩) i r.Starts.length:=by
  unfold beK
  refine nK fun j hj h=>?_
  have:=feas_at _ Fe j i (nH.1 hj) hi
  rw [Ty,Ty] at this
  show decide (0 < F j ⟨(i:Int),m⟩)=true
  rw [decide_eq_true_eq] at h ⊢
  omega
 rw [wCE (by omega) (by omega),hH,wNz L.t (by omega) m0 (fun k hk=>by rw [L.l k hk];omega) hi,hH,gp]
 unfold wBi
 simp only
 rw [if_pos (by omega),hH,if_pos (by rw [decide_eq_true_eq];omega),wBe (by rw [alen];exact hi),hH,ga,if_pos (by rw [wAV (by omega) (by omega)];omega),if_neg (by omega)]
 rw [show (2:Int)=((2:Nat):Int) from rfl,wCs (by omega) fun b hb=>?_,wCU,wCs (by omega) fun p hp=>?_,wCU]
 ·obtain ⟨j,hj,ej,hjn⟩:=wPV hp
  have gaj:gd (ahL r.Starts.length (fun i j=>F i ⟨(j:Int),m⟩)) j=ahK (fun i j=>F i ⟨(j:Int),m⟩) j r.Starts.length:=by
   unfold ahL
   rw [wFt _ hj]
  have hji:¬ F j ⟨(i:Int),m⟩ < 0:=by
   have a1:=feas_at _ Fe i j hi hj
   have a2:=feas_at _ Fe j i hj hi
   omega
  rw [wBe hp,hH,ej,show wAo (i:Int) m=some ⟨(i:Int),m⟩ from rfl,hH,show wAo (j:Int) m=some ⟨(j:Int),m⟩ from rfl,hH,wSQ S (a:=⟨(i:Int),m⟩) (b:=⟨(j:Int),m⟩) (ev _ (by simp [sb i hi,sb j hj])) (hF i hi) (hF j hj),hH]
  simp only
  rw [hH]
  simp only
  rw [if_pos trivial,if_neg (by simp only [pt];omega),wBe (by rw [alen];exact hj),hH,gaj,wSP (wQs (G:=fun i j=>F i ⟨(j:Int),m⟩) hji) (by have:=wHI (fun i j=>F i ⟨(j:Int),m⟩) j r.Starts.length;omega),hH,if_neg (by simp)]
 ·have part:∀ (best:Bool) (v:Int),v=(if best=true then 1 + ((ahK (fun i j=>F i ⟨(j:Int),m⟩) i r.Starts.length).length:Int) else 1 + (beK (fun i j=>F i ⟨(j:Int),m⟩) i r.Starts.length:Int))->∃ y,wCQ r y/\wBt r ⟨(i:Int),m⟩ best=some (tt r y,oo r y,0)/\wBE r (tt r y) (oo r y)=some true/\wAd (tt r y) (i:Int) m=some v:=fun best v hv=>by
   obtain ⟨y,Fy,eY,hc⟩:=(wNw S ⟨(i:Int),m⟩ best).2 (ev _ (by simp [sb i hi]))
   have hc:=hc F hF
   obtain ⟨t1,t2,t3,t4⟩:=wNt C Fy
   have tl:=wJN r y
   have row:∀ j,j < r.Starts.length->gd (gd (tt r y) j) m.toNat=y ⟨(j:Int),m⟩ - y zp:=fun j hj=>by rw [wLf hj (by omega),nL m0]
   refine ⟨y,Fy,eY,wOo C t2 t1 (fun a b ha hb=>?_) (fun a ha=>?_),?_⟩
   ·have g1:=(wBc _ _ _).1 t3 a (by omega) (by omega)
    have g2:=(wBc _ _ _).1 g1 b (by omega) (by rw [wGA ha];omega)
    unfold inB at g2
    rw [decide_eq_true_eq] at g2
    exact g2
   ·have g1:=(wBc _ _ _).1 t4 a (by omega) (by rw [t2.o];omega)
    unfold smlO inB at g1
    rw [decide_eq_true_eq] at g1
    exact g1
   ·rw [wNz tl (by omega) m0 (fun k hk=>by rw [wGA hk];omega) hi,hv]
    congr 1
    have q:∀ j,j < r.Starts.length->((gd (gd (tt r y) j) m.toNat < gd (gd (tt r y) i) m.toNat) ↔ y ⟨(j:Int),m⟩ < y (pt ⟨(i:Int),m⟩)):=fun j hj=>by
     rw [row j hj,row i hi]
     show _ ↔ y ⟨(j:Int),m⟩ < y ⟨(i:Int),m⟩
     omega
    cases best with
    | true =>
     rw [if_pos rfl,cA' _ fun j hj=>?_]
     have:=hc j hj
     rw [if_pos rfl] at this
     rw [decide_eq_true_eq,q j hj,this,nI]
    | false =>
     rw [if_neg (by simp)]
     congr 2
     unfold beK
     refine nM fun j hj=>?_
     have hj:=nH.1 hj
     have:=hc j hj
     rw [if_neg (by simp)] at this
     rw [decide_eq_true_eq,q j hj,this,decide_eq_true_eq]
     rfl
  obtain ⟨best,v,e1,e2,hv⟩:∃ (best:Bool) (v:Int),gd [true,false] b=best/\idx ([1 + ((ahK (fun i j=>F i ⟨(j:Int),m⟩) i r.Starts.length).length:Int),1 + (beK (fun i j=>F i ⟨(j:Int),m⟩) i r.Starts.length:Int)]:List Int) (b:Int)=some v/\v=(if best=true then 1 + ((ahK (fun i j=>F i ⟨(j:Int),m⟩) i r.Starts.length).length:Int) else 1 + (beK (fun i j=>F i ⟨(j:Int),m⟩) i r.Starts.length:Int)):=by
   rcases (by omega:b=0 \/ b=1) with rfl | rfl
   ·exact ⟨true,_,rfl,rfl,rfl⟩
   ·exact ⟨false,_,rfl,rfl,rfl⟩
  obtain ⟨y,Fy,eY,eF,eR⟩:=part best v hv
  rw [wCE (by omega) (by simp;omega),hH,show wAo (i:Int) m=some ⟨(i:Int),m⟩ from rfl,hH,e1,eY,hH]
  simp only
  rw [if_pos trivial,eF,hH,if_pos rfl,e2,hH,eR,hH,if_pos rfl,wCs (by omega) fun p hp=>?_,wCU]
  obtain ⟨j,hj,ej,hjn⟩:=wPV hp
  have tl:=wJN r y
  have tj:=wGA (y:=y) hj
  have ti:=wGA (y:=y) hi
  have a1:=feas_at _ Fy i j hi hj
  rw [wBe hp,hH,ej,if_neg (by omega),if_neg (by omega),wBe (by omega),hH,wCY m0 (by omega),hH,wBe (by omega),hH,wCY m0 (by omega),hH,wLf hj (by omega),wLf hi (by omega),nL m0,if_neg (by omega)]
end Go.Proofs.Ytlnfbjphfoipaaa
