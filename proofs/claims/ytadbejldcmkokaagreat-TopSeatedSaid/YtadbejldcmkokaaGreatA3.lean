import Derived.Test.YtadbejldcmkokaaGreatA2
import Derived.Test.YtadbejldcmkokaaGreatA1
import Derived.Test.YtadbejldcmkokaaGreatA0
set_option linter.all false
open Option renaming bind_some->nA
open List renaming range->nB,mem_range->nD,length_cons->nE,set->nG,getElem_of_mem->nH,length_append->nI,length_nil->nJ,take_append_drop->nL,pairwise_iff_getElem->nM,not_all_eq_any_not->nN,length_set->nO,countP_mono_left->nP,pairwise_append->nQ,take_length->nR,length_take->nS,countP_pos_iff->nT,mem_singleton->nU,countP_append->nV,mem_map->nW,pairwise_map->nX,countP_cons->nY,countP_eq_length->nZ,range_succ->na,countP_map->nb,countP_eq_zero->nc,mem_cons->ng,getD_eq_getElem?_getD->nh,length_range->ni,length_drop->nl,map_append->nq,set_append_right->nr,countP_le_length->nt,mem_append_left->nu,pairwise_cons->ny,append_assoc->nz,getElem_take->kA,getElem_drop->kB,countP_congr->kC
open Int renaming toNat_natCast->nK
open Bool renaming and_eq_true->nj,not_not->nm
open Nat renaming add_zero->np,zero_add->nv,add_sub_cancel->nw,le_refl->kD
namespace Go.Proofs.YtadbejldcmkokaaGreat
open Go.KL Go.KL.Net
open Classical
theorem wFD {S:Type} {body:Nat->S->Option S} {n:Nat} {s0:S} (I:Nat->S->Prop) (hn:n <= 1000) (h0:I 0 s0) (h:∀ i s,i < n->I i s->∃ s',body i s=some s'/\I (i + 1) s'):∃ s,wBp 0 (n:Int) body s0=some s/\I n s:=by
 rw [wEX (by omega)]
 have:=wFa (body:=body) I n 0 s0 h0 fun i s _ h2 h3=>h i s (by omega) h3
 rwa [nv] at this
theorem wKX {α:Type} {l:List α} {a:α} {P:α->Prop} (h:∀ x ∈ l,P x) (ha:P a):∀ x ∈ l ++ [a],P x:=fun x hx=>by
 rcases List.mem_append.1 hx with h1 | h1
 ·exact h x h1
 ·rw [nU.1 h1];exact ha
def m1B:Nat->List Int × Int × Int × List Int->Option (List Int × Int × Int × List Int):=fun k62 (l53,x56,x57,l58) =>
 (wAR (⟨l53,x56,x57⟩:wAE) 4).bind fun (x142,x143) =>
 (wAR x143 3).bind fun (x156,x157) =>
 (app 8 l58 [w64 ((w64 (300 * x142)) + x156)]).bind fun x175 =>
 some (x157.bytes,x157.next,x157.state,x175)
def m2B:Nat->List Int × Int × Int × List wAI->Option (List Int × Int × Int × List wAI):=fun k274 (l265,x268,x269,l270) =>
 (wAS (⟨l265,x268,x269⟩:wAE) 3 9).bind fun (x305,x306) =>
 (wAR x306 30).bind fun (x353,x354) =>
 (app 16 l270 [(⟨w64 (100 * x305),w64 ((w64 (100 * x305)) + (w64 (10 * x353)))⟩:wAI)]).bind fun x372 =>
 some (x354.bytes,x354.next,x354.state,x372)
def m3I (y282:List wAI):Nat->List Int × Int × Int × Int × List Int->Option (List Int × Int × Int × Int × List Int):=fun k541 (l532,x535,x536,x537,l538) =>
 (chk (↑k541:Int) y282.length).bind fun _ =>
 (wAS (⟨l532,x535,x536⟩:wAE) ((gd y282 k541).Lo) ((gd y282 k541).Hi)).bind fun (x589,x590) =>
 (app 8 l538 [w64 (x537 + x589)]).bind fun x609 =>
 some (x590.bytes,x590.next,x590.state,w64 (x537 + x589),x609)
def m3B (y70:List Int) (y282:List wAI):Nat->List Int × Int × Int × List (List Int)->Option (List Int × Int × Int × List (List Int)):=fun k460 (l450,x453,x454,l455) =>
 (chk (↑k460:Int) y70.length).bind fun _ =>
 (wBp 0 (↑y282.length:Int) (m3I y282) (l450,x453,x454,(gd y70 k460),[(gd y70 k460)])).bind fun (y546,y547,y548,y549,y550) =>
 (app 24 l455 [y550]).bind fun x672 =>
 some (y546,y547,y548,x672)
def m4B:Nat->List Int × Int × Int × List wAK × List Int->Option (List Int × Int × Int × List wAK × List Int):=fun k792 (l779,x782,x783,l784,l788) =>
 (wAS (⟨l779,x782,x783⟩:wAE) (-60) 20).bind fun (x826,x827) =>
 (wAR x827 50).bind fun (x840,x841) =>
 (wAR x841 6).bind fun (x854,x855) =>
 (app 24 l784 [(⟨(⟨x826,w64 (x826 + x840)⟩:wAI),x854⟩:wAK)]).bind fun x880 =>
 (wAS x855 x826 (w64 (x826 + x840))).bind fun (x888,x889) =>
 (app 8 l788 [x888]).bind fun x908 =>
 some (x889.bytes,x889.next,x889.state,x880,x908)
def m5B (y70:List Int) (y282:List wAI) (y468:List (List Int)) (y800:List wAK) (y801:List Int):Nat->List Int × Int × Int × List wAY->Option (List Int × Int × Int × List wAY):=fun k1736 (l1727,x1730,x1731,l1732) =>
 ((wAR (⟨l1727,x1730,x1731⟩:wAE) (↑y70.length:Int)).bind fun (x1833,x1834) =>
 (wAR x1834 (w64 ((↑y282.length:Int) + 1))).bind fun (x1847,x1848) =>
 (wAR x1848 (↑y800.length:Int)).bind fun (x1861,x1862) =>
 some (x1862.bytes,x1862.next,x1862.state,x1833,x1847,x1861)).bind fun (l1767,x1770,x1771,x1774,x1775,x1776) =>
 (chk x1776 y800.length).bind fun _ =>
 (idx y468 x1774).bind fun x2140 =>
 (idx x2140 x1775).bind fun x2156 =>
 (chk x1776 y801.length).bind fun _ =>
 (wAS (⟨l1767,x1770,x1771⟩:wAE) (w64 (-((gd y800 x1776.toNat).Error))) ((gd y800 x1776.toNat).Error)).bind fun (x2171,x2172) =>
 if (w64 (-((gd y800 x1776.toNat).Error))) <= (w64 ((w64 ((max 0 (w64 ((w64 (x2156 + (gd y801 x1776.toNat))) + x2171))) - x2156)) - (gd y801 x1776.toNat))) then
 if (w64 ((w64 ((max 0 (w64 ((w64 (x2156 + (gd y801 x1776.toNat))) + x2171))) - x2156)) - (gd y801 x1776.toNat))) <= ((gd y800 x1776.toNat).Error) then
 (app 32 l1732 [(⟨x1774,x1775,x1776,max 0 (w64 ((w64 (x2156 + (gd y801 x1776.toNat))) + x2171))⟩:wAY)]).bind fun x2225 =>
 some (x2172.bytes,x2172.next,x2172.state,x2225)
 else
 some (x2172.bytes,x2172.next,x2172.state,l1732)
 else
 some (x2172.bytes,x2172.next,x2172.state,l1732)
theorem wMM (p0:wAE) (p1 p2 p3:Int):wCG p0 p1 p2 p3=(wAS p0 1 p1).bind fun (x10,x11) =>
 (wBp 0 x10 m1B (x11.bytes,x11.next,x11.state,[])).bind fun (y67,y68,y69,y70) =>
 (wAR (⟨y67,y68,y69⟩:wAE) p2).bind fun (x223,x224) =>
 (wBp 0 x223 m2B (x224.bytes,x224.next,x224.state,[])).bind fun (y279,y280,y281,y282) =>
 (wBp 0 (↑y70.length:Int) (m3B y70 y282) (y279,y280,y281,[])).bind fun (y465,y466,y467,y468) =>
 (wAS (⟨y465,y466,y467⟩:wAE) 1 3).bind fun (x726,x727) =>
 (wBp 0 x726 m4B (x727.bytes,x727.next,x727.state,[],[])).bind fun (y797,y798,y799,y800,y801) =>
 (wAR (⟨y797,y798,y799⟩:wAE) (w64 (p3 + 1))).bind fun (x1667,x1668) =>
 (wBp 0 x1667 (m5B y70 y282 y468 y800 y801) (x1668.bytes,x1668.next,x1668.state,[])).bind fun (y1741,y1742,y1743,y1744) =>
 some ((⟨y70,y282,y800,y1744⟩:wAF),y468,y801,(⟨y1741,y1742,y1743⟩:wAE)):=rfl
def M1 (n:Int) (k:Nat) (s:List Int × Int × Int × List Int):Prop:=0 <= s.2.1/\s.2.1 <= n + 2 * (k:Int)/\s.2.2.2.length=k/\∀ x ∈ s.2.2.2,0 <= x/\x <= 902
theorem wUA {n:Int} (n0:0 <= n) (n1:n <= 1000) {k:Nat} (hk:k < 10) {s:List Int × Int × Int × List Int} (I:M1 n k s):∃ s',m1B k s=some s'/\M1 n (k + 1) s':=by
 obtain ⟨b,nx,st,l⟩:=s
 obtain ⟨i0,i1,hl,he⟩:=I
 simp only at i0 i1 hl he
 unfold m1B
 simp only
 obtain ⟨x,d1,e1,p0,p1,x0,x1⟩:=wFL ⟨b,nx,st⟩ 4 i0 (by simp only;omega)
 obtain ⟨y,d2,e2,q0,q1,y0,y1⟩:=wFL d1 3 p0 (by simp only at p1;omega)
 simp only at p1
 rw [e1,nA]
 simp only
 rw [e2,nA]
 simp only
 rw [wAX (x:=300 * x) (by omega) (by omega),wAX (by omega) (by omega),wER (by simp only [nE,nJ];omega),nA]
 exact ⟨_,rfl,q0,by simp only;omega,by simp [hl],wKX he (by omega)⟩
def M2 (n:Int) (k:Nat) (s:List Int × Int × Int × List wAI):Prop:=0 <= s.2.1/\s.2.1 <= n + 2 * (k:Int)/\s.2.2.2.length=k/\∀ x ∈ s.2.2.2,300 <= x.Lo/\x.Lo <= x.Hi/\x.Hi <= 1190
theorem wUB {n:Int} (n0:0 <= n) (n1:n <= 1000) {k:Nat} (hk:k < 10) {s:List Int × Int × Int × List wAI} (I:M2 n k s):∃ s',m2B k s=some s'/\M2 n (k + 1) s':=by
 obtain ⟨b,nx,st,l⟩:=s
 obtain ⟨i0,i1,hl,he⟩:=I
 simp only at i0 i1 hl he
 unfold m2B
 simp only
 obtain ⟨x,d1,e1,p0,p1,x0,x1⟩:=wGv ⟨b,nx,st⟩ 3 9 i0 (by simp only;omega) (by omega) (by omega) (by omega)
 simp only at p1
 obtain ⟨y,d2,e2,q0,q1,y0,y1⟩:=wFL d1 30 p0 (by omega)
 rw [e1,nA]
 simp only
 rw [e2,nA]
 simp only
 rw [wAX (x:=100 * x) (by omega) (by omega),wAX (x:=10 * y) (by omega) (by omega),wAX (by omega) (by omega),wER (by simp only [nE,nJ];omega),nA]
 exact ⟨_,rfl,q0,by simp only;omega,by simp [hl],wKX he (by simp only;omega)⟩
structure RowI (sp:List wAI) (s0:Int) (j:Nat) (l:List Int):Prop where
 len:l.length=j + 1
 z:gd l 0=s0
 d:∀ i,i < j->(gd sp i).Lo <= gd l (i + 1) - gd l i/\gd l (i + 1) - gd l i <= (gd sp i).Hi
 b:∀ i,i < j + 1->0 <= gd l i/\gd l i <= 902 + 1190 * (i:Int)
def M3 (sp:List wAI) (s0 n:Int) (k:Nat) (s:List Int × Int × Int × Int × List Int):Prop:=0 <= s.2.1/\s.2.1 <= n + (k:Int)/\s.2.2.2.1=gd s.2.2.2.2 k/\RowI sp s0 k s.2.2.2.2
theorem wUC {sp:List wAI} (hsp:∀ x ∈ sp,300 <= x.Lo/\x.Lo <= x.Hi/\x.Hi <= 1190) {s0 n:Int} (n0:0 <= n) (n1:n <= 1000) {k:Nat} (hk:k < sp.length) (hk2:k < 10) {s:List Int × Int × Int × Int × List Int} (I:M3 sp s0 n k s):∃ s',m3I sp k s=some s'/\M3 sp s0 n (k + 1) s':=by
 obtain ⟨b,nx,st,t,l⟩:=s
 obtain ⟨i0,i1,ht,R⟩:=I
 simp only at i0 i1 ht R
 have hs:=hsp _ (wCW hk)
 have hb:=R.b k (by omega)
 have hl:=R.len
 unfold m3I
 simp only
 obtain ⟨x,d1,e1,p0,p1,x0,x1⟩:=wGv ⟨b,nx,st⟩ (gd sp k).Lo (gd sp k).Hi i0 (by simp only;omega) (by omega) (by omega) (by omega)
 simp only at p1
 rw [wCK (by omega) (by omega),nA,e1,nA]
 simp only
 rw [wAX (x:=t + x) (by omega) (by omega),wER (by simp only [nE,nJ];omega),nA]
 have gk:gd (l ++ [t + x]) (k + 1)=t + x:=by rw [<- hl,wGP]
 refine ⟨_,rfl,p0,by simp only;omega,gk.symm,by simp [hl],?_,fun i hi=>?_,fun i hi=>?_⟩
 ·simp only
  rw [wEi (by omega)];exact R.z
 ·simp only
  by_cases c:i=k
  ·rw [c,gk,wEi (by omega)]
   omega
  ·rw [wEi (by omega),wEi (by omega)]
   exact R.d i (by omega)
 ·simp only
  by_cases c:i=k + 1
  ·rw [c,gk];omega
  ·rw [wEi (by omega)]
   exact R.b i (by omega)
def M3o (st:List Int) (sp:List wAI) (n:Int) (k:Nat) (s:List Int × Int × Int × List (List Int)):Prop:=0 <= s.2.1/\s.2.1 <= n + 10 * (k:Int)/\s.2.2.2.length=k/\∀ i,i < k->RowI sp (gd st i) sp.length (gd s.2.2.2 i)
theorem wRM {st:List Int} (hst:∀ x ∈ st,0 <= x/\x <= 902) {sp:List wAI} (hl:sp.length <= 9) (hsp:∀ x ∈ sp,300 <= x.Lo/\x.Lo <= x.Hi/\x.Hi <= 1190) {n:Int} (n0:0 <= n) (n1:n <= 800) {k:Nat} (hk:k < st.length) (hk2:k < 10) {s:List Int × Int × Int × List (List Int)} (I:M3o st sp n k s):∃ s',m3B st sp k s=some s'/\M3o st sp n (k + 1) s':=by
 obtain ⟨b,nx,se,l⟩:=s
 obtain ⟨i0,i1,hll,he⟩:=I
 simp only at i0 i1 hll he
 have hs:=hst _ (wCW hk)
 unfold m3B
 simp only
 obtain ⟨⟨b',nx',st',t',l'⟩,e,J0,J1,_,J⟩:=wFD (n:=sp.length) (body:=m3I sp) (s0:=(b,nx,se,gd st k,[gd st k])) (M3 sp (gd st k) nx) (by omega) ⟨i0,by simp only;omega,rfl,rfl,rfl,(fun i hi=>by omega),fun i hi=>by
  obtain rfl:i=0:=by omega
  show 0 <= gd st k/\gd st k <= _
  omega⟩ fun i s hi I=>wUC hsp i0 (by omega) hi (by omega) I
 simp only at J0 J1 J
 rw [wCK (by omega) (by omega),nA,e,nA]
 simp only
 rw [wER (by simp only [nE,nJ];omega),nA]
 refine ⟨_,rfl,J0,by simp only;omega,by simp [hll],fun i hi=>?_⟩
 simp only
 by_cases c:i=k
 ·rw [c,show gd (l ++ [l']) k=l' by rw [<- hll,wGP]]
  exact J
 ·rw [wEi (by omega)]
  exact he i (by omega)
def ClkI (c:wAK) (o:Int):Prop:=-60 <= c.Offset.Lo/\c.Offset.Lo <= c.Offset.Hi/\c.Offset.Hi <= 70/\0 <= c.Error/\c.Error <= 5/\c.Offset.Lo <= o/\o <= c.Offset.Hi
def M4 (n:Int) (k:Nat) (s:List Int × Int × Int × List wAK × List Int):Prop:=0 <= s.2.1/\s.2.1 <= n + 4 * (k:Int)/\s.2.2.2.1.length=k/\s.2.2.2.2.length=k/\∀ i,i < k->ClkI (gd s.2.2.2.1 i) (gd s.2.2.2.2 i)
theorem wUD {n:Int} (n0:0 <= n) (n1:n <= 1000) {k:Nat} (hk:k < 10) {s:List Int × Int × Int × List wAK × List Int} (I:M4 n k s):∃ s',m4B k s=some s'/\M4 n (k + 1) s':=by
 obtain ⟨b,nx,st,l,o⟩:=s
 obtain ⟨i0,i1,hl,ho,he⟩:=I
 simp only at i0 i1 hl ho he
 unfold m4B
 simp only
 obtain ⟨a,d1,e1,p0,p1,a0,a1⟩:=wGv ⟨b,nx,st⟩ (-60) 20 i0 (by simp only;omega) (by omega) (by omega) (by omega)
 simp only at p1
 obtain ⟨y,d2,e2,q0,q1,y0,y1⟩:=wFL d1 50 p0 (by omega)
 obtain ⟨z,d3,e3,r0,r1,z0,z1⟩:=wFL d2 6 q0 (by omega)
 obtain ⟨v,d4,e4,s0,s1,v0,v1⟩:=wGv d3 a (a + y) r0 (by omega) (by omega) (by omega) (by omega)
 rw [e1,nA]
 simp only
 rw [e2,nA]
 simp only
 rw [e3,nA]
 simp only
 rw [wAX (x:=a + y) (by omega) (by omega),wER (by simp only [nE,nJ];omega),nA,e4,nA]
 simp only
 rw [wER (by simp only [nE,nJ];omega),nA]
 refine ⟨_,rfl,s0,by simp only;omega,by simp [hl],by simp [ho],fun i hi=>?_⟩
 simp only
 by_cases c:i=k
 ·have h1:gd (l ++ [(⟨⟨a,a + y⟩,z⟩:wAK)]) i=⟨⟨a,a + y⟩,z⟩:=by rw [c,<- hl,wGP]
  have h2:gd (o ++ [v]) i=v:=by rw [c,<- ho,wGP]
  rw [h1,h2]
  unfold ClkI
  simp only
  omega
 ·rw [wEi (by omega),wEi (by omega)]
  exact he i (by omega)
def RdI (n m c:Nat) (T:List (List Int)) (C:List wAK) (O:List Int) (x:wAY):Prop :=
 (0 <= x.Skier/\x.Skier < n/\0 <= x.Mat/\x.Mat <= m/\0 <= x.Clock/\x.Clock < c)/\0 <= x.Time/\x.Time <= 100000/\-(gd C x.Clock.toNat).Error <= x.Time - gd (gd T x.Skier.toNat) x.Mat.toNat - gd O x.Clock.toNat/\x.Time - gd (gd T x.Skier.toNat) x.Mat.toNat - gd O x.Clock.toNat <= (gd C x.Clock.toNat).Error
def M5 (st:List Int) (sp:List wAI) (T:List (List Int)) (C:List wAK) (O:List Int) (n:Int) (k:Nat) (s:List Int × Int × Int × List wAY):Prop:=0 <= s.2.1/\s.2.1 <= n + 4 * (k:Int)/\s.2.2.2.length <= k/\∀ x ∈ s.2.2.2,RdI st.length sp.length C.length T C O x
theorem wUE {st:List Int} {sp:List wAI} {T:List (List Int)} {C:List wAK} {O:List Int} (h1:1 <= st.length) (h2:st.length <= 10) (h3:sp.length <= 9) (hT:T.length=st.length) (hR:∀ i,i < st.length->RowI sp (gd st i) sp.length (gd T i)) (c1:1 <= C.length) (c2:C.length <= 10) (hO:O.length=C.length) (hC:∀ i,i < C.length->ClkI (gd C i) (gd O i)) {n:Int} (n0:0 <= n) (n1:n <= 1000) {k:Nat} (hk:k < 50) {s:List Int × Int × Int × List wAY} (I:M5 st sp T C O n k s):∃ s',m5B st sp T C O k s=some s'/\M5 st sp T C O n (k + 1) s':=by
 obtain ⟨b,nx,se,l⟩:=s
 obtain ⟨i0,i1,hl,he⟩:=I
 simp only at i0 i1 hl he
 unfold m5B
 simp only
 obtain ⟨x,d1,e1,p0,p1,x0,x1⟩:=wFL ⟨b,nx,se⟩ (st.length:Int) i0 (by simp only;omega)
 simp only at p1
 obtain ⟨y,d2,e2,q0,q1,y0,y1⟩:=wFL d1 ((sp.length:Int) + 1) p0 (by omega)
 obtain ⟨z,d3,e3,r0,r1,z0,z1⟩:=wFL d2 (C.length:Int) q0 (by omega)
 have hx:x.toNat < st.length:=by omega
 have hz:z.toNat < C.length:=by omega
 obtain ⟨K1,K2,K3,K4,K5,K6,K7⟩:=hC z.toNat hz
 have R:=hR x.toNat hx
 have hb:=R.b y.toNat (by omega)
 have hlen:=R.len
 obtain ⟨v,d4,e4,s0,s1,v0,v1⟩:=wGv d3 (-(gd C z.toNat).Error) (gd C z.toNat).Error r0 (by omega) (by omega) (by omega) (by omega)
 rw [e1,nA]
 simp only
 rw [wAX (x:=(sp.length:Int) + 1) (by omega) (by omega),e2,nA]
 simp only
 rw [e3,nA,nA]
 simp only
 rw [wCK (by omega) (by omega),nA,wGt x0 (by omega),nA,wGt y0 (by omega),nA,wCK (by omega) (by omega),nA,wAX (x:=-(gd C z.toNat).Error) (by omega) (by omega),show (⟨d3.bytes,d3.next,d3.state⟩:wAE)=d3 from rfl,e4,nA]
 simp only
 rw [wAX (x:=gd (gd T x.toNat) y.toNat + gd O z.toNat) (by omega) (by omega),wAX (x:=gd (gd T x.toNat) y.toNat + gd O z.toNat + v) (by omega) (by omega),wAX (x:=max 0 (gd (gd T x.toNat) y.toNat + gd O z.toNat + v) - gd (gd T x.toNat) y.toNat) (by omega) (by omega),wAX (x:=_ - gd O z.toNat) (by omega) (by omega)]
 by_cases g1:-(gd C z.toNat).Error <= max 0 (gd (gd T x.toNat) y.toNat + gd O z.toNat + v) - gd (gd T x.toNat) y.toNat - gd O z.toNat
 ·rw [if_pos g1]
  by_cases g2:max 0 (gd (gd T x.toNat) y.toNat + gd O z.toNat + v) - gd (gd T x.toNat) y.toNat - gd O z.toNat <= (gd C z.toNat).Error
  ·rw [if_pos g2,wER (by simp only [nE,nJ];omega),nA]
   refine ⟨_,rfl,s0,by simp only;omega,by simp;omega,wKX he ⟨?_,?_,?_,g1,g2⟩⟩
   ·simp only;omega
   ·simp only;omega
   ·simp only;omega
  ·rw [if_neg g2]
   exact ⟨_,rfl,s0,by simp only;omega,by simp only;omega,he⟩
 ·rw [if_neg g1]
  exact ⟨_,rfl,s0,by simp only;omega,by simp only;omega,he⟩
theorem wPx {d:wAE} (h0:d.next=0) {u w q:Int} (u1:1 <= u) (u2:u <= 8) (w1:1 <= w) (w2:w <= 8) (q0:0 <= q) (q1:q <= 40):∃ r T O d',wCG d u w q=some (r,T,O,d')/\RC r/\Lens r T O/\wEy r (yT T O)/\(∀ x ∈ r.Starts,x <= 902)/\(∀ x ∈ r.Clocks,-60 <= x.Offset.Lo/\x.Offset.Hi <= 70)/\(∀ x ∈ r.Readings,x.Time <= 100000)/\(∀ x ∈ r.Splits,300 <= x.Lo/\x.Hi <= 1190)/\1 <= r.Clocks.length/\(∀ x ∈ r.Clocks,x.Error <= 5)/\(r.Readings.length:Int) <= q/\(r.Starts.length:Int) <= u:=by
 rw [wMM]
 obtain ⟨x,d1,e1,m0,m1,x0,x1⟩:=wGv d 1 u (by omega) (by omega) (by omega) (by omega) (by omega)
 obtain ⟨n,rfl⟩:∃ n:Nat,x=n:=⟨x.toNat,by omega⟩
 obtain ⟨⟨b2,nx2,st2,S⟩,e2,a0,a1,hS,eS⟩:=wFD (n:=n) (body:=m1B) (s0:=(d1.bytes,d1.next,d1.state,[])) (M1 d1.next) (by omega) ⟨m0,by simp only;omega,rfl,by simp⟩ fun i s hi I=>wUA m0 (by omega) (by omega) I
 simp only at a0 a1 hS eS
 obtain ⟨y,d3,e3,b0,b1,y0,y1⟩:=wFL ⟨b2,nx2,st2⟩ w a0 (by simp only;omega)
 simp only at b1
 obtain ⟨m,rfl⟩:∃ n:Nat,y=n:=⟨y.toNat,by omega⟩
 obtain ⟨⟨b4,nx4,st4,P⟩,e4,c0,c1,hP,eP⟩:=wFD (n:=m) (body:=m2B) (s0:=(d3.bytes,d3.next,d3.state,[])) (M2 d3.next) (by omega) ⟨b0,by simp only;omega,rfl,by simp⟩ fun i s hi I=>wUB b0 (by omega) (by omega) I
 simp only at c0 c1 hP eP
 obtain ⟨⟨b5,nx5,st5,T⟩,e5,f0,f1,hT,eT⟩:=wFD (n:=S.length) (body:=m3B S P) (s0:=(b4,nx4,st4,[])) (M3o S P nx4) (by omega) ⟨c0,by simp only;omega,rfl,fun i hi=>by omega⟩ fun i s hi I=>wRM eS (by omega) eP c0 (by omega) hi (by omega) I
 simp only at f0 f1 hT eT
 obtain ⟨z,d6,e6,g0,g1,z0,z1⟩:=wGv ⟨b5,nx5,st5⟩ 1 3 f0 (by simp only;omega) (by omega) (by omega) (by omega)
 simp only at g1
 obtain ⟨c,rfl⟩:∃ n:Nat,z=n:=⟨z.toNat,by omega⟩
 obtain ⟨⟨b7,nx7,st7,C,O⟩,e7,k0,k1,hC,hO,eC⟩:=wFD (n:=c) (body:=m4B) (s0:=(d6.bytes,d6.next,d6.state,[],[])) (M4 d6.next) (by omega) ⟨g0,by simp only;omega,rfl,rfl,fun i hi=>by omega⟩ fun i s hi I=>wUD g0 (by omega) (by omega) I
 simp only at k0 k1 hC hO eC
 obtain ⟨v,d8,e8,l0,l1,v0,v1⟩:=wFL ⟨b7,nx7,st7⟩ (q + 1) k0 (by simp only;omega)
 simp only at l1
 obtain ⟨h,rfl⟩:∃ n:Nat,v=n:=⟨v.toNat,by omega⟩
 have hTl:T.length=S.length:=by omega
 obtain ⟨⟨b9,nx9,st9,R⟩,e9,_,_,hR,eR⟩:=wFD (n:=h) (body:=m5B S P T C O) (s0:=(d8.bytes,d8.next,d8.state,[])) (M5 S P T C O d8.next) (by omega) ⟨l0,by simp only;omega,kD _,by simp⟩ fun i s hi I=>wUE (by omega) (by omega) (by omega) hTl (fun i hi=>eT i (by omega)) (by omega) (by omega) (by omega) (fun i hi=>eC i (by omega)) l0 (by omega) (by omega) I
 simp only at hR eR
 rw [e1,nA]
 simp only
 rw [e2,nA]
 simp only
 rw [e3,nA]
 simp only
 rw [e4,nA]
 simp only
 rw [e5,nA]
 simp only
 rw [e6,nA]
 simp only
 rw [e7,nA]
 simp only
 rw [wAX (x:=q + 1) (by omega) (by omega),e8,nA]
 simp only
 rw [e9,nA]
 have hck:∀ x ∈ C,∃ o,ClkI x o:=fun x hx=>by
  obtain ⟨i,hi,rfl⟩:=wMx hx
  exact ⟨_,eC i (by omega)⟩
 have RR:RC ⟨S,P,C,R⟩:=⟨⟨by simp only;omega,by simp only;omega⟩,by simp only;omega,by simp only;omega,by simp only;omega,(fun s hs=>by have:=eS s hs;omega),(fun s hs=>by have:=eP s hs;omega),(fun s hs=>by
  obtain ⟨o,h1,h2,h3,h4,h5,h6,h7⟩:=hck s hs
  exact ⟨⟨h2,by omega,by omega⟩,h4,by omega⟩),(fun x hx=>by have:=eR x hx;exact ⟨this.2.1,by have:=this.2.2.1;omega⟩),fun x hx=>(eR x hx).1⟩
 refine ⟨⟨S,P,C,R⟩,T,O,_,rfl,RR,⟨hTl,fun k hk=>(eT k hk).len,by simp only;omega⟩,(wRK RR).2 ⟨?_,?_,?_⟩,fun x hx=>(eS x hx).2,fun x hx=>?_,fun x hx=>(eR x hx).2.2.1,fun x hx=>⟨(eP x hx).1,(eP x hx).2.2⟩,by simp only;omega,fun x hx=>by
  obtain ⟨o,_,_,_,_,h5,_⟩:=hck x hx
  exact h5,by simp only;omega,by simp only;omega⟩
 ·rw [wFT]
  intro i _ hi
  have hi:i < S.length:=by simp only at hi;omega
  have Q:=eT i hi
  unfold wVz
  rw [nj,decide_eq_true_eq,wFT]
  refine ⟨Q.z,fun j _ hj=>?_⟩
  unfold inB
  rw [decide_eq_true_eq]
  exact Q.d j (by simp only at hj;omega)
 ·rw [wFT]
  intro i _ hi
  have Q:=eC i (by simp only at hi;omega)
  unfold clkS inB
  rw [decide_eq_true_eq]
  exact ⟨Q.2.2.2.2.2.1,Q.2.2.2.2.2.2⟩
 ·rw [wFT]
  intro i _ hi
  have Q:=eR _ (wCW (l:=R) (k:=i) (by simp only at hi;omega))
  unfold redS inB
  rw [decide_eq_true_eq]
  exact ⟨Q.2.2.2.1,Q.2.2.2.2⟩
 ·obtain ⟨o,h1,h2,h3,_⟩:=hck x hx
  exact ⟨h1,h3⟩
open Go.KL
theorem wNE {a:Nat} (h:a <= 1000000):w64 ((a:Int) + 1)=((a + 1:Nat):Int):=by rw [wAX (by omega) (by omega)];omega
theorem wRN {a:Nat} (h:1 <= a) (h2:a <= 1000000):w64 ((a:Int) - 1)=((a - 1:Nat):Int):=by rw [wAX (by omega) (by omega)];omega
theorem wPy (P T:List wAA) (z x:wAA):gd (P ++ z :: x :: T) P.length=z/\gd (P ++ z :: x :: T) (P.length + 1)=x/\nG (nG (P ++ z :: x :: T) (P.length + 1) z) P.length x=P ++ x :: z :: T:=by
 refine ⟨wGP _ _ _,?_,?_⟩
 ·have:=wGP (P ++ [z]) T x
  simpa using this
 ·rw [nr _ _ (by omega),show P.length + 1 - P.length=1 by omega,nr _ _ (by omega),Nat.sub_self]
  rfl
def LrJ (K:wAA->Int) (a b:wAA):Prop:=K a < K b \/ (K a=K b/\a.Bib < b.Bib)
theorem LrJ.le {K:wAA->Int} {a b:wAA} (h:LrJ K a b):K a <= K b:=by unfold LrJ at h;omega
theorem LrJ.of {K:wAA->Int} {a b:wAA} (h:K a <= K b) (h2:a.Bib < b.Bib):LrJ K a b:=by unfold LrJ;omega
def ByKJ (K:wAA->Int) (c:(wAA × wAA)->Option Int):Prop:=∀ a b,∃ x,c (a,b)=some x/\(x < 0 ↔ K a < K b)
def wPz (p1:Int) (c:(wAA × wAA)->Option Int) (x9:Int) (s:List wAA × Int):Option ((List wAA × Int) ⊕ ((List wAA × Int) ⊕ List wAA)):=match s with
  | (l34,x35) =>
        if p1 < x35 then
          (chk x35 l34.length).bind fun _ =>
          (chk (w64 (x35 - 1)) l34.length).bind fun _ =>
          (c ((gd l34 x35.toNat),(gd l34 (w64 (x35 - 1)).toNat))).bind fun x65 =>
          if x65 < 0 then
            (chk (w64 (x35 - 1)) (nG l34 x35.toNat (gd l34 (w64 (x35 - 1)).toNat)).length).bind fun _ =>
            some (.inl ((nG (nG l34 x35.toNat (gd l34 (w64 (x35 - 1)).toNat)) (w64 (x35 - 1)).toNat (gd l34 x35.toNat)),w64 (x35 - 1)))
          else
            esc (some (.inl (l34,w64 (x9 + 1))))
        else
          esc (some (.inl (l34,w64 (x9 + 1))))
theorem wMN (p0:List wAA) (p1 p2:Int) (c:(wAA × wAA)->Option Int):wAg p0 p1 p2 c=iter (fun (l8,x9)=>if x9 < p2 then iter (wPz p1 c x9) big (l8,x9) else esc (some l8)) big (p0,w64 (p1 + 1)):=rfl
theorem wQA {K:wAA->Int} {c:(wAA × wAA)->Option Int} (hc:ByKJ K c) {A Z S:List wAA} {x:wAA} {x9:Int} (hlt:∀ z ∈ Z,z.Bib < x.Bib) (ho:Z.Pairwise (LrJ K)) (hl:(A ++ Z ++ x :: S).length <= 1000) :
  ∃ Z',iter (wPz (A.length:Nat) c x9) big (A ++ Z ++ x :: S,((A.length + Z.length:Nat):Int))=some (.inl (A ++ Z' ++ S,w64 (x9 + 1)))/\Z'.Perm (Z ++ [x])/\Z'.Pairwise (LrJ K):=by
 simp only [nI,nE] at hl
 obtain ⟨b,h1,Z1,Z2,rfl,hb,h2,h3⟩:=wHz (body:=wPz (A.length:Nat) c x9) (fun k s=>∃ Z1 Z2,Z=Z1 ++ Z2/\s=(A ++ Z1 ++ x :: (Z2 ++ S),((A.length + Z1.length:Nat):Int))/\(∀ z ∈ Z2,K x < K z)/\Z2.length=k)
  (fun b=>∃ Z1 Z2,Z=Z1 ++ Z2/\b=.inl (A ++ Z1 ++ x :: (Z2 ++ S),w64 (x9 + 1))/\(∀ z ∈ Z2,K x < K z)/\(∀ z ∈ Z1,K z <= K x)) Z.length
  (fun k s hk ⟨Z1,Z2,e,hs,g1,g2⟩=>by
   subst hs
   have el:Z.length=Z1.length + Z2.length:=by rw [e,nI]
   unfold wPz
   simp only
   rcases List.eq_nil_or_concat Z1 with h | ⟨Y,z,h⟩
   ·subst h
    right
    rw [if_neg (by simp)]
    exact ⟨_,rfl,[],Z2,e,rfl,g1,fun z hz=>by simp at hz⟩
   ·rw [List.concat_eq_append] at h
    subst h
    have e1:A ++ (Y ++ [z]) ++ x :: (Z2 ++ S)=(A ++ Y) ++ z :: x :: (Z2 ++ S):=by simp
    have e2:((A.length + (Y ++ [z]).length:Nat):Int)=(((A ++ Y).length + 1:Nat):Int):=by simp only [nI,List.length_singleton];omega
    obtain ⟨s1,s2,s3⟩:=wPy (A ++ Y) (Z2 ++ S) z x
    have hll:(A ++ Y ++ z :: x :: (Z2 ++ S)).length=A.length + Y.length + 2 + Z2.length + S.length:=by simp only [nI,nE];omega
    have el2:Z.length=Y.length + 1 + Z2.length:=by rw [el];simp
    have hY:(A ++ Y).length=A.length + Y.length:=nI
    rw [e1,e2,if_pos (by omega),wCK (by omega) (by omega),nA,wRN (by omega) (by omega),wCK (by omega) (by omega),nA]
    simp only [nK,nw,s1,s2]
    obtain ⟨v,hv,hv2⟩:=hc x z
    rw [hv,nA]
    by_cases g:K x < K z
    ·left
     rw [if_pos (hv2.2 g),wCK (by omega) (by rw [nO];omega),nA,s3]
     refine ⟨by omega,_,rfl,Y,z :: Z2,by rw [e];simp,by simp,fun y hy=>?_,by simp;omega⟩
     rcases ng.1 hy with rfl | hy
     ·exact g
     ·exact g1 y hy
    ·right
     rw [if_neg (fun h=>g (hv2.1 h))]
     refine ⟨_,rfl,Y ++ [z],Z2,e,by simp,g1,fun y hy=>?_⟩
     rcases List.mem_append.1 hy with hy | hy
     ·have pw:=ho
      rw [e,nz] at pw
      have:=(nQ.1 pw).2.2 y hy z (by simp)
      have:=this.le
      omega
     ·rw [nU.1 hy];omega) (s0:=(A ++ Z ++ x :: S,((A.length + Z.length:Nat):Int))) ⟨Z,[],by simp,by simp,fun z hz=>by simp at hz,rfl⟩ (by omega)
 subst hb
 refine ⟨Z1 ++ x :: Z2,by rw [h1];simp,?_,?_⟩
 ·simp only [nz]
  exact List.Perm.append_left _ (List.perm_append_singleton x Z2).symm
 ·rw [nQ] at ho ⊢
  rw [ny]
  have hlt1:∀ z ∈ Z1,z.Bib < x.Bib:=fun z hz=>hlt z (nu _ hz)
  refine ⟨ho.1,⟨fun z hz=>.inl (h2 z hz),ho.2.1⟩,fun a ha b hb=>?_⟩
  rcases ng.1 hb with rfl | hb
  ·exact LrJ.of (h3 a ha) (hlt1 a ha)
  ·exact ho.2.2 a ha b hb
theorem wKY {K:wAA->Int} {c:(wAA × wAA)->Option Int} (hc:ByKJ K c) {A X B:List wAA} (hlt:X.Pairwise fun a b=>a.Bib < b.Bib) (hl:(A ++ X ++ B).length <= 1000) {a b:Nat} (ha:A.length=a) (hb:A.length + X.length=b) :
  ∃ Z,wAg (A ++ X ++ B) (a:Int) (b:Int) c=some (A ++ Z ++ B)/\Z.Perm X/\Z.Pairwise (LrJ K):=by
 rw [wMN]
 simp only [nI] at hl
 subst ha
 rw [wNE (by omega)]
 cases X with
 | nil =>
  refine ⟨[],?_,List.Perm.refl _,List.Pairwise.nil⟩
  simp only [nJ] at hb
  refine wGr (m:=0) (fun _=>(A ++ [] ++ B,((A.length + 1:Nat):Int))) (fun i hi=>by omega) ?_ rfl (by omega)
  simp only
  rw [if_neg (by omega)]
  rfl
 | cons x0 X =>
  simp only [nE] at hl hb
  obtain ⟨r,h1,Z,rfl,h2,h3⟩:=wHz (body:=fun (l8,x9)=>if x9 < (b:Int) then iter (wPz (A.length:Nat) c x9) big (l8,x9) else esc (some l8))
   (fun k s=>∃ Z,s=(A ++ Z ++ (X.drop k ++ B),((A.length + (k + 1):Nat):Int))/\Z.Perm (x0 :: X.take k)/\Z.Pairwise (LrJ K)/\k <= X.length) (fun r=>∃ Z,r=A ++ Z ++ B/\Z.Perm (x0 :: X)/\Z.Pairwise (LrJ K)) X.length
   (fun k s hk ⟨Z,hs,g1,g2,g3⟩=>by
    subst hs
    simp only
    have hZl:Z.length=k + 1:=by rw [g1.length_eq];simp;omega
    by_cases e:k=X.length
    ·right
     rw [if_neg (by omega)]
     refine ⟨_,rfl,Z,?_,?_,g2⟩
     ·rw [e,List.drop_length];rfl
     ·rwa [e,nR] at g1
    ·left
     have hk':k < X.length:=by omega
     rw [if_pos (by omega)]
     have hlast:∀ z ∈ Z,z.Bib < (gd X k).Bib:=fun z hz=>by
      have pw:=ny.1 hlt
      rcases ng.1 (g1.mem_iff.1 hz) with h | h
      ·rw [h];exact pw.1 _ (wCW hk')
      ·have pw2:=pw.2
       rw [<- nL k X,wKS hk'] at pw2
       exact (nQ.1 pw2).2.2 z h _ (by simp)
     obtain ⟨Z',i1,i2,i3⟩:=wQA hc (A:=A) (Z:=Z) (S:=X.drop (k + 1) ++ B) (x:=gd X k) (x9:=((A.length + (k + 1):Nat):Int)) hlast g2 (by simp only [nI,nE,nl];omega)
     refine ⟨by omega,?_⟩
     rw [wKS hk',List.cons_append]
     rw [hZl] at i1
     refine ⟨_,i1,Z',by rw [wNE (by omega)];rfl,?_,i3,by omega⟩
     rw [wFV hk']
     exact i2.trans (by simpa using g1.append_right [gd X k]))
   (s0:=(A ++ x0 :: X ++ B,((A.length + 1:Nat):Int))) ⟨[x0],by simp,by simp,by simp,by omega⟩ (by omega)
  exact ⟨Z,by rw [h1],h2,h3⟩
theorem wUF {K:wAA->Int} {c:(wAA × wAA)->Option Int} (hc:ByKJ K c) {l:List wAA} (hl:l.length < 20) (hlt:l.Pairwise fun a b=>a.Bib < b.Bib):∃ r,wAb l c=some r/\r.Perm l/\r.Pairwise (LrJ K):=by
 obtain ⟨Z,e,h1,h2⟩:=wKY hc (A:=[]) (X:=l) (B:=[]) hlt (by simp;omega) (a:=0) (b:=l.length) rfl (by simp)
 simp only [List.nil_append,List.append_nil] at e
 refine ⟨Z,?_,h1,h2⟩
 have hz:Z.length=l.length:=h1.length_eq
 unfold wAb wBR
 rw [wGr (m:=0) (fun _=>(l,(0:Int),(20:Int))) (fun i hi=>by omega) (b:=(l,0)) (by simp only;rw [if_neg (by omega)];rfl) rfl (by omega),nA]
 simp only
 rw [show (0:Int)=((0:Nat):Int) from rfl,e,nA]
 first
 | rw [wGr (m:=0) (fun _=>(Z,(20:Int))) (fun i hi=>by omega) (b:=Z) (by simp only;rw [if_neg (by omega)];rfl) rfl (by omega)]
 | rw [wGr (m:=0) (fun _=>()) (fun i hi=>by omega) (b:=Z) (by rw [if_neg (by omega)];rfl) rfl (by omega)]
 rfl
theorem wIr {l:List Int} (b:Int) (hn:l.length <= 1000):wBF l b=some (decide (b ∈ l)):=by
 have key:∀ (m k:Nat),k + m=l.length->∃ q,jn (forN (B:=Int) (fun k2 _ =>
   (idx l (↑k2:Int)).bind fun x22 =>
   if b=x22 then
    esc (some (↑k2:Int))
   else
    some (.inl ())) m k ()) (fun _=>some (-1))=some q/\(0 <= q ↔ b ∈ l.drop k):=by
  intro m
  induction m with
  | zero=>intro k hk;exact ⟨-1,rfl,by rw [List.drop_eq_nil_of_le (by omega)];simp⟩
  | succ m ih =>
   intro k hk
   have hlt:k < l.length:=by omega
   rw [forN,wKS hlt,wDP hlt,nA]
   by_cases e:b=gd l k
   ·rw [if_pos e]
    exact ⟨(k:Int),rfl,by simp [e]⟩
   ·rw [if_neg e]
    obtain ⟨q,h1,h2⟩:=ih (k + 1) (by omega)
    exact ⟨q,h1,by rw [h2];simp [e]⟩
 unfold wBF wCI
 obtain ⟨q,h1,h2⟩:=key l.length 0 (by omega)
 rw [wEs (by omega),h1,nA]
 rw [List.drop_zero] at h2
 simp [h2]
theorem wQB {K V:Type} [DecidableEq K] {m:List (K × V)} {x y:K} {v:V}:wHn (mput m x v) y=if y=x then some v else wHn m y:=by
 induction m with
 | nil=>simp only [mput,wHn]
 | cons p m ih =>
  obtain ⟨a,u⟩:=p
  rw [mput]
  by_cases h:x=a
  ·subst h
   rw [if_pos rfl,wHn,wHn]
   split <;> rfl
  ·rw [if_neg h,wHn,wHn,ih]
   by_cases h2:y=a
   ·rw [if_pos h2,if_neg (fun e:y=x=>h (e.symm.trans h2)),if_pos h2]
   ·rw [if_neg h2,if_neg h2]
theorem wNi {S:Type} {body:Nat->S->Option S} {n:Nat} {s0:S} (I:Nat->S->Prop) (hn:n <= 1000) (h0:I 0 s0) (h:∀ i s,i < n->I i s->∃ s',body i s=some s'/\I (i + 1) s'):∃ s,wBp 0 (n:Int) body s0=some s/\I n s:=by
 rw [wEX (by omega)]
 have:=wFa (body:=body) I n 0 s0 h0 fun i s _ h2 h3=>h i s (by omega) h3
 rwa [nv] at this
structure wQC (r:wAU):Prop where
 s1:1 <= r.Skiers.length
 s2:r.Skiers.length <= 12
 d0:0 <= r.Deadline
 d1:r.Deadline <= 10000
 dl:r.Decisions.length <= 12
 sk:∀ s ∈ r.Skiers,1 <= s.Bib/\s.Bib <= 999/\-1 <= s.Time/\s.Time <= 360000
 inc:r.Skiers.Pairwise fun a b=>a.Bib < b.Bib
 dk:∀ d ∈ r.Decisions,1 <= d.Number/\d.Number <= 9999/\(d.Kind=0 \/ d.Kind=2)/\d.Minute=0/\0 <= d.Much/\d.Much <= 36000/\d.About=0/\d.Bib ∈ r.Skiers.map (·.Bib)
 dinc:r.Decisions.Pairwise fun a b=>a.Number < b.Number
theorem wDw (x a b:Int):wAw x a b=some (decide (a <= x) && decide (x <= b)):=by
 unfold wAw
 by_cases h:a <= x <;> simp [h]
theorem allJS {l:List wAQ} {f:wAQ->Option Bool} {p:wAQ->Bool} (hf:∀ a ∈ l,f a=some (p a)) (hn:l.length <= 1000):wBr l f=some (l.all p):=by
 have e:wAl l (fun x=>wBD x f)=some (first (fun a=>!p a) l 0):=by
  unfold wAl
  exact wFC (p:=fun a=>!p a) (fun a ha=>by unfold wBD;rw [hf a ha];rfl) (by omega) id
 unfold wBr wAs
 rw [e,nA,nA,wGI,<- nN,nm]
theorem wUG {l:List wAD} {f:wAD->Option Bool} {p:wAD->Bool} (hf:∀ a ∈ l,f a=some (p a)) (hn:l.length <= 1000):wAy l f=some (l.all p):=by
 have e:wAf l (fun x=>wAu x f)=some (first (fun a=>!p a) l 0):=by
  unfold wAf
  exact wFC (p:=fun a=>!p a) (fun a ha=>by unfold wAu;rw [hf a ha];rfl) (by omega) id
 unfold wAy wAi
 rw [e,nA,nA,wGI,<- nN,nm]
theorem wSI {l:List Int} (hl:l.length <= 1000) (hd:l.Pairwise (· < ·)):wDt l=some false:=by
 unfold wDt
 rw [wEs (by omega)]
 rcases wKQ (body:=fun (k20:Nat) (l17:List (Int × Bool)) =>
  (idx l (↑k20:Int)).bind fun x41 =>
  if (wBU l17 x41 false)=true then
   esc (some true)
  else
   some (.inl (mput l17 x41 true))) (fun k m=>∀ b:Int,wBU m b false=true->b ∈ l.take k) (fun _=>False) l.length 0 [] (fun b h=>by simp [wBU,wHn] at h) (by
  intro k m _ hk I
  left
  have hk':k < l.length:=by omega
  rw [wDP hk',nA]
  have hn:¬ wBU m (gd l k) false=true:=fun h=>by
   have h1:=I _ h
   have pw:=hd
   rw [<- nL k l,wKS hk'] at pw
   have:=(nQ.1 pw).2.2 _ h1 (gd l k) (by simp)
   omega
  rw [if_neg hn]
  refine ⟨_,rfl,fun b hb=>?_⟩
  rw [wFV hk']
  unfold wBU at hb
  rw [wQB] at hb
  by_cases e:b=gd l k
  ·simp [e]
  ·rw [if_neg e] at hb
   exact nu _ (I b hb)) with ⟨m,e,_⟩ | ⟨_,_,h⟩
 ·rw [e];rfl
 ·exact h.elim
theorem wWA {r:wAU} (h:r.Skiers.length <= 1000):wBu r=some (r.Skiers.map (·.Bib)):=by
 unfold wBu
 have e:=wCk (body:=fun (k22:Nat) (l18:List Int) =>
  (idx r.Skiers (↑k22:Int)).bind fun x45 =>
  (app 8 l18 [x45.Bib]).bind fun x65 =>
  some x65) (n:=r.Skiers.length) (s0:=[]) (fun k=>(r.Skiers.take k).map (·.Bib)) rfl (by omega) (fun i hi=>by
   rw [wDP hi,nA,wER (by simp;omega),nA,wFV hi]
   simp)
 rw [nR] at e
 rw [e];rfl
theorem wRO {r:wAU} (h:r.Decisions.length <= 1000):wBs r=some (r.Decisions.map (·.Number)):=by
 unfold wBs
 have e:=wCk (body:=fun (k22:Nat) (l18:List Int) =>
  (idx r.Decisions (↑k22:Int)).bind fun x45 =>
  (app 8 l18 [x45.Number]).bind fun x65 =>
  some x65) (n:=r.Decisions.length) (s0:=[]) (fun k=>(r.Decisions.take k).map (·.Number)) rfl (by omega) (fun i hi=>by
   rw [wDP hi,nA,wER (by simp;omega),nA,wFV hi]
   simp)
 rw [nR] at e
 rw [e];rfl
theorem wUH {d:wAD} (h:1 <= d.Number/\d.Number <= 9999/\(d.Kind=0 \/ d.Kind=2)/\d.Minute=0/\0 <= d.Much/\d.Much <= 36000):wBK d=some true:=by
 obtain ⟨h1,h2,h3,h4,h5,h6⟩:=h
 unfold wBK wBH
 rw [if_neg (by omega),nA,if_pos (by simp;omega),nA,if_neg (by simp),wDw,nA,if_pos (by simp;omega),wDw,nA,if_pos (by simp;omega),wDw,nA,if_pos (by simp;omega),wDw,nA]
 simp;omega
theorem wWB {r:wAU} (G:wQC r):wEo r=some 0:=by
 have s1:=G.s1
 have s2:=G.s2
 have dl:=G.dl
 unfold wEo
 have hb:(r.Skiers.map (·.Bib)).Pairwise (· < ·):=nX.2 G.inc
 have hn:(r.Decisions.map (·.Number)).Pairwise (· < ·):=nX.2 G.dinc
 rw [wDw,nA,if_pos (by simp;omega),if_neg (by omega),wDw,nA,if_pos (by simp;exact ⟨G.d0,G.d1⟩),
  allJS (p:=fun _=>true) (fun s hs=>by
   have:=G.sk s hs
   unfold wDC
   rw [wDw,nA,if_pos (by simp;omega),wDw,nA]
   simp;omega) (by omega),nA,if_pos (by simp),
  wUG (p:=fun _=>true) (fun d hd=>by
   have:=G.dk d hd
   exact wUH (by omega)) (by omega),nA,if_pos (by simp),wWA (by omega),nA,wSI (by simp;omega) hb,nA,if_neg (by decide),wRO (by omega),nA,wSI (by simp;omega) hn,nA,if_neg (by decide),
  wUG (p:=fun _=>true) (fun d hd=>by
   have:=G.dk d hd
   unfold wDD wBH
   rw [nA,if_pos (by simp;omega),wWA (by omega),nA,wIr _ (by simp;omega),nA,decide_eq_true this.2.2.2.2.2.2.2]) (by omega),nA,if_pos (by simp),
  wUG (p:=fun _=>true) (fun d hd=>by
   have:=G.dk d hd
   unfold wDE wBH
   rw [nA,if_pos (by simp;omega)]
   simp;omega) (by omega),nA,if_pos (by simp)]
theorem wKZ (a b:Int):wBX a b=some (if a < b then -1 else if b < a then 1 else 0):=by
 unfold wBX wDK
 simp
 split
 ·rfl
 ·split <;> rfl
theorem wWC {α:Type} [DecidableEq α] {g:α->Int} {c:α × α->Option Int} (hc:∀ a b,c (a,b)=some (if g a < g b then -1 else if g b < g a then 1 else 0)) {l:List α} (hl:l.length <= 1000) (hi:l.Pairwise fun a b=>g a < g b):wLg c l=some l:=by
 have lt:∀ x y,ltB c x y=decide (g x < g y):=fun x y=>by
  unfold ltB
  rw [hc]
  by_cases h:g x < g y
  ·simp [h]
  ·by_cases h2:g y < g x <;> simp [h,h2]
 have inj:∀ x ∈ l,∀ y ∈ l,g x=g y->x=y:=fun x hx y hy e=>by
  obtain ⟨i,hi',rfl⟩:=nH hx
  obtain ⟨j,hj',rfl⟩:=nH hy
  rcases Nat.lt_trichotomy i j with h | h | h
  ·have:=nM.1 hi i j hi' hj' h;omega
  ·subst h;rfl
  ·have:=nM.1 hi j i hj' hi' h;omega
 have C:Cmp c l:=by
  refine ⟨by omega,fun x _ y _=>by rw [hc];rfl,fun x _=>by rw [lt];simp,fun x _ y _ z _ a b=>?_,fun x _ y _ z _ a b=>?_,fun x hx y hy a b=>?_⟩
  ·rw [lt] at a b ⊢
   simp at a b ⊢;omega
  ·rw [lt] at a b ⊢
   simp at a b ⊢;omega
  ·rw [lt] at a b
   simp at a b
   exact inj x hx y hy (by omega)
 rw [wQc C]
 congr 1
 refine List.mergeSort_of_pairwise (hi.imp fun h=>?_)
 rw [lt]
 simp;omega
theorem wQD {α:Type} {m ys:List α} (h:m.length=ys.length):wNx m 0 ys=some ys:=by
 unfold wNx cpy
 rw [if_pos (by omega)]
 simp [h]
theorem wUI {r:wAU} (G:wQC r):wEH r=some (r,0):=by
 have s2:=G.s2
 have dl:=G.dl
 unfold wEH
 rw [wWB G,nA,if_pos rfl,mkz,if_pos (by omega),nA,mkz,if_pos (by omega),nA,nA]
 simp only
 rw [wQD (by simp),nA,wQD (by simp),nA]
 unfold wBT wAz
 rw [wWC (g:=fun s:wAQ=>s.Bib) (fun a b=>by unfold wCc;simp only;rw [wKZ];rfl) (by omega) G.inc,nA,wWC (g:=fun d:wAD=>d.Number) (fun a b=>by unfold wCd;simp only;rw [wKZ];rfl) (by omega) G.dinc,nA]
theorem wWD {r:wAU} (G:wQC r):∃ at_,wEp r=some (some ⟨r,at_,[]⟩,0):=by
 have dl:=G.dl
 unfold wEp
 rw [wUI G,nA]
 simp only
 rw [if_pos trivial,show wAn r.Decisions=some () from rfl,nA]
 have key:∃ y,wAd (S:=List (Int × wAD)) (E:=Empty) (fun l121 x134 =>
   if 0 < x134.2.About then
    none
   else
    some (.inl (mput l121 x134.2.Number x134.2))) ([]:List (Int × wAD)) r.Decisions=some (.inl y):=by
  unfold wAd
  rw [wAX (by omega) (by omega)]
  have pick:∀ {o:Option (List (Int × wAD) ⊕ Empty)},(∃ b,o=some b/\∃ y,b=.inl y)->∃ y,o=some (.inl y):=by
   rintro o ⟨b,e,y,rfl⟩
   exact ⟨y,e⟩
  refine pick (wHz (fun (k:Nat) (s:Int × List (Int × wAD))=>s.1=(r.Decisions.length:Int) - 1 - k) (fun (b:List (Int × wAD) ⊕ Empty)=>∃ y,b=Sum.inl y) r.Decisions.length ?_ (s0:=((r.Decisions.length:Int) - 1,[])) (by simp) (by omega))
  rintro k ⟨x,s⟩ hk hx
  simp only at hx
  subst hx
  simp only
  by_cases h:k < r.Decisions.length
  ·left
   refine ⟨h,?_⟩
   have hm:r.Decisions.length - 1 - k < r.Decisions.length:=by omega
   rw [if_pos (by omega),show (r.Decisions.length:Int) - 1 - k=((r.Decisions.length - 1 - k:Nat):Int) by omega,wDP hm,nA,if_neg (by have:=(G.dk _ (wCW hm)).2.2.2.2.2.2.1;omega),nA]
   refine ⟨_,rfl,?_⟩
   simp only
   rw [wAX (by omega) (by omega)]
   omega
  ·right
   rw [if_neg (by omega)]
   exact ⟨_,rfl,_,rfl⟩
 obtain ⟨y,e⟩:=key
 rw [e,nA]
 exact ⟨y,rfl⟩
def wSJ (f:Nat->Int):Nat->Int
 | 0=>1
 | k + 1=>if f (k + 1)=f k then wSJ f k else (k:Int) + 2
theorem wGK {l:List wAA} {k j:Nat} {v:wAA} (hk:k < l.length):gd (nG l k v) j=if j=k then v else gd l j:=by
 unfold gd
 rw [nh,nh,List.getElem?_set]
 by_cases e:k=j
 ·subst e;rw [if_pos rfl,if_pos hk,if_pos rfl];rfl
 ·rw [if_neg e,if_neg (fun h=>e h.symm)]
structure PI (Z:List wAA) (k:Nat) (y:List wAA):Prop where
 len:y.length=Z.length
 lo:∀ j,j < k->gd y j=⟨(gd Z j).Bib,wSJ (fun i=>(gd Z i).Total) j,(gd Z j).Total⟩
 hi:∀ j,k <= j->gd y j=gd Z j
def pRd (k224:Nat) (l223:List wAA):Option (List wAA) :=
 (chk (↑k224:Int) l223.length).bind fun _ =>
 if 0 < (↑k224:Int) then
 (chk (↑k224:Int) (nG l223 k224 (⟨(gd l223 k224).Bib,(↑(k224 + 1):Int),(gd l223 k224).Total⟩:wAA)).length).bind fun _ =>
 (chk (w64 ((↑k224:Int) - 1)) (nG l223 k224 (⟨(gd l223 k224).Bib,(↑(k224 + 1):Int),(gd l223 k224).Total⟩:wAA)).length).bind fun _ =>
 if ((gd (nG l223 k224 (⟨(gd l223 k224).Bib,(↑(k224 + 1):Int),(gd l223 k224).Total⟩:wAA)) k224).Total)=((gd (nG l223 k224 (⟨(gd l223 k224).Bib,(↑(k224 + 1):Int),(gd l223 k224).Total⟩:wAA)) (w64 ((↑k224:Int) - 1)).toNat).Total) then
 some (nG (nG l223 k224 (⟨(gd l223 k224).Bib,(↑(k224 + 1):Int),(gd l223 k224).Total⟩:wAA)) k224 (⟨(gd (nG l223 k224 (⟨(gd l223 k224).Bib,(↑(k224 + 1):Int),(gd l223 k224).Total⟩:wAA)) k224).Bib,(gd (nG l223 k224 (⟨(gd l223 k224).Bib,(↑(k224 + 1):Int),(gd l223 k224).Total⟩:wAA)) (w64 ((↑k224:Int) - 1)).toNat).Place,(gd (nG l223 k224 (⟨(gd l223 k224).Bib,(↑(k224 + 1):Int),(gd l223 k224).Total⟩:wAA)) k224).Total⟩:wAA))
 else
 some (nG l223 k224 (⟨(gd l223 k224).Bib,(↑(k224 + 1):Int),(gd l223 k224).Total⟩:wAA))
 else
 some (nG l223 k224 (⟨(gd l223 k224).Bib,(↑(k224 + 1):Int),(gd l223 k224).Total⟩:wAA))
theorem wWE {Z:List wAA} (hZ:Z.length <= 1000) {k:Nat} {y:List wAA} (hk:k < Z.length) (I:PI Z k y):∃ y',pRd k y=some y'/\PI Z (k + 1) y':=by
 obtain ⟨hl,hlo,hhi⟩:=I
 have hky:k < y.length:=by omega
 have g0:=hhi k (kD _)
 unfold pRd
 rw [wCK (by omega) (by omega),nA,g0]
 cases k with
 | zero =>
  rw [if_neg (by omega)]
  refine ⟨_,rfl,by rw [nO];exact hl,fun j hj=>?_,fun j hj=>?_⟩
  ·have:j=0:=by omega
   subst this
   rw [wGK hky,if_pos rfl]
   rfl
  ·rw [wGK hky,if_neg (by omega)]
   exact hhi j (by omega)
 | succ k =>
  have hw:w64 (((k + 1:Nat):Int) - 1)=(k:Int):=by rw [wAX (by omega) (by omega)];omega
  have g1:=hlo k (by omega)
  simp only [hw]
  rw [if_pos (by omega),wCK (i:=((k + 1:Nat):Int)) (by omega) (by rw [nO];omega),nA,wCK (i:=(k:Int)) (by omega) (by rw [nO];omega),nA,nK,wGK hky,if_pos rfl,wGK hky,if_neg (show ¬ k=k + 1 by omega),g1]
  simp only
  by_cases c:(gd Z (k + 1)).Total=(gd Z k).Total
  ·rw [if_pos c,List.set_set]
   refine ⟨_,rfl,by rw [nO];exact hl,fun j hj=>?_,fun j hj=>?_⟩
   ·rw [wGK hky]
    by_cases e:j=k + 1
    ·subst e
     rw [if_pos rfl,wSJ,if_pos c]
    ·rw [if_neg e]
     exact hlo j (by omega)
   ·rw [wGK hky,if_neg (by omega)]
    exact hhi j (by omega)
  ·rw [if_neg c]
   refine ⟨_,rfl,by rw [nO];exact hl,fun j hj=>?_,fun j hj=>?_⟩
   ·rw [wGK hky]
    by_cases e:j=k + 1
    ·subst e
     rw [if_pos rfl,wSJ,if_neg c]
     congr 1
    ·rw [if_neg e]
     exact hlo j (by omega)
   ·rw [wGK hky,if_neg (by omega)]
    exact hhi j (by omega)
def lnS (l:List wAQ):List wAA:=l.map fun s=>⟨s.Bib,0,s.Time⟩
theorem wUJ {r:wAU} (hd:r.Decisions=[]) {at_:List (Int × wAD)} {s:wAQ} (h0:0 <= s.Time) (v:wBJ × List Int × List (Int × Bool)):wCE ⟨r,at_,[]⟩ s v=some (s.Time,false):=by
 unfold wCE
 simp only
 rw [hd]
 show (if s.Time=-1 then _ else _)=_
 rw [if_neg (by omega),show wEI 0 [s.Time]=some (max 0 s.Time) from rfl,nA,Int.max_eq_right h0]
def resS (p0:wBJ) (v:wBJ × List Int × List (Int × Bool)) (k38:Nat):List wAA × List wAA->Option (List wAA × List wAA)
 | (l30,l34) =>
  (idx p0.Record.Skiers (↑k38:Int)).bind fun x67 =>
  (wCE p0 x67 (v.1,v.2.1,v.2.2)).bind fun (x98,x99) =>
  if x99=true then
   (app 24 l34 [(⟨x67.Bib,-1,0⟩:wAA)]).bind fun x117 =>
   some (l30,x117)
  else
   (app 24 l30 [(⟨x67.Bib,0,x98⟩:wAA)]).bind fun x137 =>
   some (x137,l34)
theorem wRP (p0:wBJ) (p1:(wBJ × List Int × List (Int × Bool))):wDG p0 p1 =
 (wBp 0 (↑p0.Record.Skiers.length:Int) (resS p0 p1) ([],[])).bind fun (y43,y44) =>
 (wAb y43 (fun x=>wBI x.1 x.2)).bind fun x176 =>
 (wBp 0 (↑x176.length:Int) pRd x176).bind fun y199 =>
 (app 24 y199 y44).bind fun x259 =>
 some x259:=rfl
structure ResS (r:wAU) (Z lines:List wAA):Prop where
 perm:Z.Perm (lnS r.Skiers)
 ord:Z.Pairwise (LrJ fun x=>x.Total)
 len:lines.length=r.Skiers.length
 zl:Z.length=r.Skiers.length
 at_:∀ k,k < Z.length->gd lines k=⟨(gd Z k).Bib,wSJ (fun i=>(gd Z i).Total) k,(gd Z k).Total⟩
theorem wUK {r:wAU} (G:wQC r) (hd:r.Decisions=[]) (h0:∀ s ∈ r.Skiers,0 <= s.Time):∃ Z lines,wCq r=some (lines,0)/\ResS r Z lines:=by
 have s2:=G.s2
 obtain ⟨at_,ea⟩:=wWD G
 unfold wCq
 rw [ea,nA]
 simp only
 rw [if_pos trivial,show wDi ⟨r,at_,[]⟩ []=some [] from rfl,nA,wRP]
 simp only
 rw [wCk (S:=List wAA × List wAA) (n:=r.Skiers.length) (fun k=>(lnS (r.Skiers.take k),[])) (s0:=([],[])) rfl (by omega) fun k hk=>by
  unfold resS
  simp only
  rw [wDP hk,nA,wUJ hd (h0 _ (wCW hk)),nA]
  simp only
  rw [if_neg (by simp),wER (by simp [lnS];omega),nA,wFV hk]
  simp [lnS],nA]
 simp only
 rw [nR]
 have hl:(lnS r.Skiers).length=r.Skiers.length:=by simp [lnS]
 have hinc:(lnS r.Skiers).Pairwise fun a b=>a.Bib < b.Bib:=by
  unfold lnS
  rw [nX]
  exact G.inc
 obtain ⟨Z,e2,z1,z2⟩:=wUF (K:=fun x=>x.Total) (c:=fun x=>wBI x.1 x.2) (fun a b=>by
  unfold wBI
  simp only
  rw [wKZ]
  refine ⟨_,rfl,?_⟩
  split
  ·omega
  ·split <;> omega) (l:=lnS r.Skiers) (by omega) hinc
 have hz:=z1.length_eq
 rw [e2,nA]
 obtain ⟨y,e3,P⟩:=wNi (n:=Z.length) (s0:=Z) (body:=pRd) (PI Z) (by omega) ⟨rfl,fun j hj=>by omega,fun j _=>rfl⟩ fun k y hk I=>wWE (by omega) hk I
 rw [e3,nA,wER (by rw [P.len];simp;omega),nA,nA,List.append_nil]
 exact ⟨Z,_,rfl,z1,z2,by rw [P.len];omega,by omega,P.lo⟩
theorem quo_c {a b:Int} (h0:0 <= a) (h1:a <= 1000000000) (hb:0 < b):quo a b=some (a / b):=by
 unfold quo
 have d0:=Int.ediv_nonneg h0 (Int.le_of_lt hb)
 have d1:=Int.ediv_le_self b h0
 rw [if_neg (by omega),Int.tdiv_eq_ediv_of_nonneg h0,wAX (by omega) (by omega)]
def wUL:List Int:=[60,54,48,43,40,38]
def wQE (n:Int) (pl:List Int):wBq:=⟨n,1,1,wUL,[pl]⟩
def wt (p m:Nat):Int:=((wUL.drop (p - 1)).take m).foldl (· + ·) 0
theorem wRQ {n:Int} {pl:List Int} {p m:Nat} (hp:1 <= p) (hm:1 <= m) (h:p + m <= 7):wDL (wQE n pl) (p:Int) (m:Int)=some (wt p m):=by
 rcases (by omega:p=1 \/ p=2 \/ p=3 \/ p=4 \/ p=5 \/ p=6) with rfl | rfl | rfl | rfl | rfl | rfl <;>
  rcases (by omega:m=1 \/ m=2 \/ m=3 \/ m=4 \/ m=5 \/ m=6) with rfl | rfl | rfl | rfl | rfl | rfl <;> first | rfl | omega
theorem wUM:∀ p m lo:Fin 8,1 <= p.val->1 <= m.val->p.val + m.val <= 7->1 <= lo.val->lo.val <= p.val->0 <= wt p.val m.val/\wt p.val m.val / (m.val:Int) <= wUL.getD (lo.val - 1) 0:=by decide
def wFw (pl:List Int) (p:Int):Nat:=pl.countP fun q=>decide (q=p)
theorem wQF {n:Int} {pl:List Int} (hl:pl.length <= 6) {s p:Nat} (hs:s < pl.length) (e:gd pl s=(p:Int)) (hp:1 <= p) (h:p + wFw pl (p:Int) <= 7):wBi (wQE n pl) pl (s:Int)=some (wt p (wFw pl (p:Int)) / (wFw pl (p:Int):Int)):=by
 unfold wBi
 have hm:1 <= wFw pl (p:Int):=nT.2 ⟨gd pl s,wCW hs,by simp [e]⟩
 rw [wDP hs,nA,e,if_neg (by omega),wCk (S:=Int) (n:=pl.length) (fun k=>(((pl.take k).countP fun q=>decide (q=(p:Int)):Nat):Int)) (s0:=0) rfl (by omega) fun k hk=>?_,nA,nR]
 ·show (wDL (wQE n pl) (p:Int) (wFw pl (p:Int):Int)).bind _=_
  rw [wRQ hp hm h,nA]
  have w0:0 <= wt p (wFw pl (p:Int)):=(wUM ⟨p,by omega⟩ ⟨wFw pl (p:Int),by omega⟩ ⟨1,by omega⟩ hp hm h (by simp) hp).1
  have w1:wt p (wFw pl (p:Int)) <= 1000000:=by
   have:∀ a b:Fin 8,wt a.val b.val <= 1000000:=by decide
   exact this ⟨p,by omega⟩ ⟨wFw pl (p:Int),by omega⟩
  show (quo (wt p (wFw pl (p:Int))) (wFw pl (p:Int):Int)).bind _=_
  rw [quo_c w0 (by omega) (by omega),nA]
 ·have hc:(pl.take k).countP (fun q=>decide (q=(p:Int))) <= k:=by
   have:=nt (p:=fun q=>decide (q=(p:Int))) (l:=pl.take k)
   rw [nS] at this
   omega
  rw [wDP hk,nA,wFV hk,nV]
  by_cases c:gd pl k=(p:Int)
  ·rw [if_pos c,wAX (by omega) (by omega)]
   simp [c]
  ·rw [if_neg c]
   simp [c]
theorem wHl (x a b:Int):wCB x a b=some (decide (a <= x) && decide (x <= b)):=by
 unfold wCB
 by_cases h:a <= x <;> simp [h]
theorem wWF {l:List Int} {f:Int->Option Bool} {p:Int->Bool} (hf:∀ a ∈ l,f a=some (p a)) (hn:l.length <= 1000):wCN l f=some (l.all p):=by
 have e:wAh l (fun x=>wBd x f)=some (first (fun a=>!p a) l 0):=by
  unfold wAh
  exact wFC (p:=fun a=>!p a) (fun a ha=>by unfold wBd;rw [hf a ha];rfl) (by omega) id
 unfold wCN wBO
 rw [e,nA,nA,wGI,<- nN,nm]
theorem wWG {l:List (List Int)} {f:List Int->Option Bool} {p:List Int->Bool} (hf:∀ a ∈ l,f a=some (p a)) (hn:l.length <= 1000):wAv l f=some (l.any p):=by
 have e:wBa l f=some (first p l 0):=by
  unfold wBa
  exact wFC (p:=p) (fun a ha=>by rw [hf a ha]) (by omega) id
 unfold wAv
 rw [e,nA,wGI]
theorem wWH {l:List (List Int)} {f:List Int->Option Bool} {p:List Int->Bool} (hf:∀ a ∈ l,f a=some (p a)) (hn:l.length <= 1000):wDU l f=some (l.all p):=by
 unfold wDU
 rw [wWG (p:=fun a=>!p a) (fun a ha=>by unfold wCe;rw [hf a ha];rfl) hn,nA,<- nN,nm]
theorem wJb {α:Type} {p:α->Bool}:∀ {l:List α} {k:Nat},(∀ a ∈ l,p a=false)->first p l k=-1
 | [],_,_=>rfl
 | a :: l,k,h=>by
  rw [first,if_neg (by simp [h a (.head _)])]
  exact wJb fun b hb=>h b (.tail _ hb)
def Rk (pl:List Int):Prop:=∀ p ∈ pl,p=1 + ((pl.countP fun q=>decide (q < p):Nat):Int)
theorem wRR {pl:List Int} (hl:pl.length <= 6) (R:Rk pl):wDl pl=some false:=by
 have pos:∀ p ∈ pl,1 <= p:=fun p hp=>by have:=R p hp;omega
 have e:wAh pl wCr=some (first (fun a=>decide (a=0)) pl 0):=by
  unfold wAh
  exact wFC (p:=fun a=>decide (a=0)) (fun a ha=>by unfold wCr;rfl) (by omega) id
 have e0:first (fun a=>decide (a=0)) pl 0=-1:=wJb fun a ha=>decide_eq_false (by have:=pos a ha;omega)
 unfold wDl wCJ
 rw [wER (by simp;omega),nA,nA,List.nil_append]
 unfold wBg
 rw [e,nA,e0,if_pos rfl,nA]
 unfold wCP
 rw [wKj,if_pos (by omega),nA]
 have pm:(pl.mergeSort fun x y=>decide (x <= y)).Perm pl:=List.mergeSort_perm _ _
 have so:(pl.mergeSort fun x y=>decide (x <= y)).Pairwise (· <= ·):=by
  have:=List.pairwise_mergeSort (le:=fun (x y:Int)=>decide (x <= y)) (by intro a b c;simp only [decide_eq_true_eq];omega) (by intro a b;simp only [Bool.or_eq_true,decide_eq_true_eq];omega) pl
  exact this.imp fun h=>by simpa using h
 have R':Rk (pl.mergeSort fun x y=>decide (x <= y)):=fun p hp=>by
  rw [pm.countP_eq]
  exact R p (pm.mem_iff.1 hp)
 have hl':=pm.length_eq
 generalize (pl.mergeSort fun x y=>decide (x <= y))=q at pm so R' hl'
 have at_:∀ i j,i < j->j < q.length->gd q i <= gd q j:=fun i j hij hj=>by
  rw [wGs (by omega),wGs hj]
  exact nM.1 so i j _ _ hij
 have new:∀ i,i < q.length->(i=0 \/ gd q i ≠ gd q (i - 1))->gd q i=(i:Int) + 1:=by
  intro i hi h
  have hr:=R' _ (wCW hi)
  have c1:(q.take i).countP (fun x=>decide (x < gd q i))=i:=by
   have:(q.take i).countP (fun x=>decide (x < gd q i))=(q.take i).length:=nZ.2 fun x hx=>by
    obtain ⟨j,hj,rfl⟩:=nH hx
    rw [nS] at hj
    rw [kA,<- wGs (by omega),decide_eq_true_eq]
    rcases h with h | h
    ·omega
    ·have a1:=at_ (i - 1) i (by omega) hi
     by_cases e:j=i - 1
     ·subst e;omega
     ·have:=at_ j (i - 1) (by omega) (by omega)
      omega
   rw [this,nS]
   omega
  have c2:(q.drop i).countP (fun x=>decide (x < gd q i))=0:=nc.2 fun x hx=>by
   obtain ⟨j,hj,rfl⟩:=nH hx
   rw [nl] at hj
   rw [kB,<- wGs (by omega),decide_eq_true_eq]
   by_cases e:j=0
   ·subst e;rw [np];omega
   ·have:=at_ i (i + j) (by omega) (by omega)
    omega
  have c3:q.countP (fun x=>decide (x < gd q i))=i:=by
   rw [<- nL i q,nV]
   rw [nL i q,c1,c2,np]
  rw [c3] at hr
  omega
 rw [wKR (S:=Int) (n:=q.length) (fun k=>(k:Int) + 1) (s0:=1) rfl (by omega) fun k hk=>?_]
 ·show some (decide (61 < (q.length:Int) + 1))=_
  rw [decide_eq_false (by omega)]
 ·rw [wCK (by omega) (by omega),nA]
  by_cases c:k=0
  ·subst c
   have:=new 0 hk (.inl rfl)
   rw [if_pos (show ((0:Nat):Int)=0 from rfl),if_neg (by omega),this,wAX (by omega) (by omega)]
   rfl
  ·rw [if_neg (by omega),wAX (x:=(k:Int) - 1) (by omega) (by omega),wCK (by omega) (by omega),nA,show ((k:Int) - 1).toNat=k - 1 by omega]
   by_cases c2:gd q k=gd q (k - 1)
   ·rw [if_pos c2,wAX (by omega) (by omega)]
    congr 2
   ·have:=new k hk (.inr c2)
    rw [if_neg c2,if_neg (by omega),this,wAX (by omega) (by omega)]
    congr 2
theorem wUN {pl:List Int} (n1:1 <= pl.length) (hl:pl.length <= 6) (R:Rk pl) (h6:∀ p ∈ pl,p <= 6):wFG (wQE (pl.length:Int) pl)=some 0:=by
 have pos:∀ p ∈ pl,1 <= p:=fun p hp=>by have:=R p hp;omega
 unfold wFG wQE
 simp only [wHl,nA]
 rw [if_pos (by simp;omega),if_pos (by decide),if_pos (by decide),if_pos (by decide),if_neg (by simp),wWH (p:=fun a=>decide ((a.length:Int)=(pl.length:Int))) (fun a _=>by unfold wDT;rfl) (by simp),nA,if_pos (by simp),wWF (p:=fun a=>decide (0 <= a) && decide (a <= 1000)) (fun a _=>by unfold wDV;rw [wHl];rfl) (by decide),nA,if_pos (by decide),wWH (p:=fun l=>l.all fun a=>decide (0 <= a) && decide (a <= 60)) (fun a ha=>by
  unfold wDW
  simp only [nU] at ha
  subst ha
  rw [wWF (p:=fun a=>decide (0 <= a) && decide (a <= 60)) (fun a _=>by unfold wCf;rw [wHl];rfl) (by omega)]
  rfl) (by simp),nA,if_pos (by
  simp only [List.all_cons,List.all_nil,Bool.and_true,List.all_eq_true,nj,decide_eq_true_eq]
  exact fun a ha=>⟨by have:=pos a ha;omega,by have:=h6 a ha;omega⟩),show wFe wUL=some true by decide +kernel,nA,if_pos rfl,wWG (p:=fun _=>false) (fun a ha=>by
  simp only [nU] at ha
  subst ha
  exact wRR hl R) (by simp),nA,if_neg (by simp)]
theorem wNj (f:Int × Int->Option Int):wBA [0] f=some [0]:=by
 unfold wBA wBj
 rw [wGr (m:=0) (fun _=>(([0]:List Int),(0:Int),(20:Int))) (fun i hi=>by omega) (b:=([0],0)) (by simp only;rw [if_neg (by decide)];rfl) rfl (by omega),nA]
 simp only
 have e:wAp [0] 0 (([0]:List Int).length:Int) f=some [0]:=by
  unfold wAp
  show iter _ big (([0]:List Int),(1:Int))=some [0]
  rw [wGr (m:=0) (fun _=>(([0]:List Int),(1:Int))) (fun i hi=>by omega) (b:=[0]) (by show (if (1:Int) < (1:Int) then _ else _)=_;rw [if_neg (by decide)];rfl) rfl (by omega)]
 rw [e,nA,wGr (m:=0) (fun _=>()) (fun i hi=>by omega) (b:=([0]:List Int)) (by rw [if_neg (by decide)];rfl) rfl (by omega),nA]
theorem wUO (a b:Int):wFY [a,b]=some (w64 (w64 (0 + a) + b)):=by
 unfold wFY
 rw [show ((([a,b]:List Int).length:Nat):Int)=((2:Nat):Int) from rfl,wEX (by omega)]
 rfl
theorem wQG (n:Int) (pl:List Int) (s:Int):wCQ ⟨wQE n pl⟩ s=some [0]:=by
 unfold wCQ
 rw [show wBp 0 ((wQE n pl).Done.length:Int) (fun k37 l33=>(app 8 l33 [(↑k37:Int)]).bind fun x66=>some x66) ([]:List Int)=some [0] from rfl,nA,wNj,nA]
 rfl
def wQH (pl:List Int) (s:Nat):Int:=wt (gd pl s).toNat (wFw pl (gd pl s)) / (wFw pl (gd pl s):Int)
theorem wWI {n:Int} {pl:List Int} (hl:pl.length <= 6) (R:Rk pl) (hm:∀ p ∈ pl,p + wFw pl p <= 7) {s:Nat} (hs:s < pl.length):∃ f,wDM ⟨wQE n pl⟩ (s:Int)=some f/\f.total=wQH pl s:=by
 have hp:=wCW hs
 have h1:1 <= gd pl s:=by have:=R _ hp;omega
 have h2:=hm _ hp
 obtain ⟨p,ep⟩:∃ p:Nat,gd pl s=p:=⟨(gd pl s).toNat,by omega⟩
 have hmp:1 <= wFw pl (p:Int):=nT.2 ⟨gd pl s,hp,by simp [ep]⟩
 have ePt:=wQF (n:=n) hl hs ep (by omega) (by rw [ep] at h2;omega)
 have e0:wQH pl s=wt p (wFw pl (p:Int)) / (wFw pl (p:Int):Int):=by
  unfold wQH
  rw [ep,nK]
 rw [<- e0] at ePt
 have w0:0 <= wQH pl s/\wQH pl s <= 1000:=by
  rw [e0]
  have a:=wUM ⟨p,by rw [ep] at h2;omega⟩ ⟨wFw pl (p:Int),by rw [ep] at h2;omega⟩ ⟨1,by omega⟩ (by show 1 <= p;omega) hmp (by show p + wFw pl (p:Int) <= 7;rw [ep] at h2;omega) (by simp) (by show 1 <= p;omega)
  have a1:0 <= wt p (wFw pl (p:Int)):=a.1
  have a2:wt p (wFw pl (p:Int)) / (wFw pl (p:Int):Int) <= 60:=a.2
  exact ⟨Int.ediv_nonneg a1 (by omega),by omega⟩
 unfold wDM
 rw [wQG,nA,show ((([0]:List Int).length:Nat):Int)=((1:Nat):Int) from rfl,wCk (S:=Int) (n:=1) (fun k=>if k=0 then 0 else wQH pl s) (s0:=0) rfl (by omega) fun k hk=>?_,nA]
 ·rw [show (((⟨wQE n pl⟩:wCM).Cup.Done.length:Nat):Int)=((1:Nat):Int) from rfl,wCk (S:=Arr Int 61) (n:=1) (fun k=>if k=0 then Arr.fill 61 0 else (Arr.fill 61 0).set p (w64 ((Arr.fill 61 (0:Int)).get p + 1))) (s0:=Arr.fill 61 0) rfl (by omega) fun k hk=>?_,nA]
  ·exact ⟨_,rfl,rfl⟩
  ·have:k=0:=by omega
   subst this
   show (idx pl (s:Int)).bind _=_
   rw [wDP hs,nA,ep,if_pos (by omega),wCK (by omega) (by rw [ep] at h2;omega),nA,nK]
   rfl
 ·have:k=0:=by omega
  subst this
  show (wBi (wQE n pl) pl (s:Int)).bind _=_
  rw [ePt,nA,wUO,nA,if_pos rfl,if_neg (by omega),wAX (x:=0 + 0) (by omega) (by omega),wAX (by omega) (by omega)]
  congr 1
  omega
theorem wRS {pl:List Int} (n1:1 <= pl.length) (hl:pl.length <= 6) (R:Rk pl) (hm:∀ p ∈ pl,p + wFw pl p <= 7):wDu (wQE (pl.length:Int) pl)=some ((nB pl.length).map (wQH pl),0):=by
 unfold wDu wFf
 rw [wUN n1 hl R (fun p hp=>by have:=hm p hp;have:1 <= wFw pl p:=nT.2 ⟨p,hp,by simp⟩;omega),nA,nA]
 simp only
 rw [if_pos trivial]
 unfold wDX
 show ((wBp 0 (pl.length:Int) _ _).bind _).bind _=_
 rw [wCk (S:=List Int) (n:=pl.length) (fun k=>(nB k).map (wQH pl)) (s0:=[]) rfl (by omega) fun k hk=>by
  obtain ⟨f,e1,e2⟩:=wWI (n:=(pl.length:Int)) hl R hm hk
  rw [e1,nA,e2,wER (by simp;omega),nA,na,nq]
  rfl,nA,nA]
def pcT (t:Nat->Int) (n s:Nat):Int:=1 + (((nB n).countP fun o=>decide (t o < t s):Nat):Int)
def wNz (t:Nat->Int) (n:Nat):wAU:=⟨0,(nB n).map fun (i:Nat)=>⟨(i:Int) + 1,t i⟩,[]⟩
theorem wQI {t:Nat->Int} {n:Nat} (n1:1 <= n) (n2:n <= 6) (ht:∀ i,i < n->0 <= t i/\t i <= 360000):wQC (wNz t n):=by
 have hl:(wNz t n).Skiers.length=n:=by simp [wNz]
 refine ⟨by omega,by omega,by show (0:Int) <= 0;omega,by show (0:Int) <= 10000;omega,by show 0 <= 12;omega,fun s hs=>?_,?_,fun d hd=>(nomatch hd),.nil⟩
 ·obtain ⟨i,hi,rfl⟩:=nW.1 hs
  have:=ht i (nD.1 hi)
  have:=nD.1 hi
  simp only
  omega
 ·show ((nB n).map _).Pairwise _
  rw [nX]
  exact List.pairwise_lt_range.imp fun h=>by simp only;omega
theorem wQJ {Z:List wAA} (ho:Z.Pairwise (LrJ fun x=>x.Total)):∀ k,k < Z.length->wSJ (fun i=>(gd Z i).Total) k=1 + ((Z.countP fun x=>decide (x.Total < (gd Z k).Total):Nat):Int):=by
 have le:∀ i j,i < j->j < Z.length->(gd Z i).Total <= (gd Z j).Total:=fun i j hij hj=>by
  have:=(nM.1 ho) i j (by omega) hj hij
  rw [wGs (by omega),wGs hj]
  exact this.le
 have new:∀ k,k < Z.length->(k=0 \/ (gd Z (k - 1)).Total ≠ (gd Z k).Total)->(Z.countP fun x=>decide (x.Total < (gd Z k).Total))=k:=by
  intro i hi h
  have c1:(Z.take i).countP (fun x=>decide (x.Total < (gd Z i).Total))=i:=by
   have:(Z.take i).countP (fun x=>decide (x.Total < (gd Z i).Total))=(Z.take i).length:=nZ.2 fun x hx=>by
    obtain ⟨j,hj,rfl⟩:=nH hx
    rw [nS] at hj
    rw [kA,<- wGs (by omega),decide_eq_true_eq]
    rcases h with h | h
    ·omega
    ·have a1:=le (i - 1) i (by omega) hi
     by_cases e:j=i - 1
     ·subst e;omega
     ·have:=le j (i - 1) (by omega) (by omega)
      omega
   rw [this,nS]
   omega
  have c2:(Z.drop i).countP (fun x=>decide (x.Total < (gd Z i).Total))=0:=nc.2 fun x hx=>by
   obtain ⟨j,hj,rfl⟩:=nH hx
   rw [nl] at hj
   rw [kB,<- wGs (by omega),decide_eq_true_eq]
   by_cases e:j=0
   ·subst e;rw [np];omega
   ·have:=le i (i + j) (by omega) (by omega)
    omega
  have:=nV (p:=fun x:wAA=>decide (x.Total < (gd Z i).Total)) (l₁:=Z.take i) (l₂:=Z.drop i)
  rw [nL,c1,c2,np] at this
  exact this
 intro k
 induction k with
 | zero =>
  intro hk
  rw [wSJ,new 0 hk (.inl rfl)]
  rfl
 | succ k ih =>
  intro hk
  rw [wSJ]
  by_cases c:(gd Z (k + 1)).Total=(gd Z k).Total
  ·rw [if_pos c,ih (by omega),c]
  ·rw [if_neg c,new (k + 1) hk (.inr (by rw [nw];exact fun h=>c h.symm))]
   omega
theorem wWJ {l:List wAA} {f:wAA->Option Bool} {p:wAA->Bool} (hf:∀ a ∈ l,f a=some (p a)) (hn:l.length <= 1000):wAo l f=some (first p l 0):=by
 unfold wAo
 exact wFC (p:=p) (fun a ha=>by rw [hf a ha]) (by omega) id
theorem wNF {α:Type} [Inhabited α] {p:α->Bool}:∀ {l:List α} {k j:Nat},j < l.length->p (gd l j)=true->∃ i,first p l k=((k + i:Nat):Int)/\i < l.length/\p (gd l i)=true
 | [],_,j,hj,_=>by simp at hj
 | a :: l,k,j,hj,h=>by
  rw [first]
  by_cases c:p a=true
  ·rw [if_pos c]
   exact ⟨0,by simp,by simp,c⟩
  ·rw [if_neg c]
   cases j with
   | zero=>exact absurd h c
   | succ j =>
    obtain ⟨i,h1,h2,h3⟩:=wNF (l:=l) (k:=k + 1) (j:=j) (by simpa using hj) h
    exact ⟨i + 1,by rw [h1];congr 1;omega,by simp;omega,h3⟩
theorem wQK {t:Nat->Int} {n:Nat} (n1:1 <= n) (n2:n <= 6) (ht:∀ i,i < n->0 <= t i/\t i <= 360000):∃ lines,wCq (wNz t n)=some (lines,0)/\wBm (wNz t n) lines=some ((nB n).map (pcT t n),true):=by
 have G:=wQI n1 n2 ht
 have hl:(wNz t n).Skiers.length=n:=by simp [wNz]
 obtain ⟨Z,lines,e,R⟩:=wUK G rfl fun s hs=>by
  obtain ⟨i,hi,rfl⟩:=nW.1 hs
  exact (ht i (nD.1 hi)).1
 have zl:=R.zl
 have ll:=R.len
 have mem:∀ x:wAA,x ∈ Z ↔ ∃ i:Nat,i < n/\x=⟨(i:Int) + 1,0,t i⟩:=fun x=>by
  rw [R.perm.mem_iff]
  simp only [lnS,wNz,List.map_map,nW,nD,Function.comp]
  exact ⟨fun ⟨i,h1,h2⟩=>⟨i,h1,h2.symm⟩,fun ⟨i,h1,h2⟩=>⟨i,h1,h2.symm⟩⟩
 have cnt:∀ v:Int,(Z.countP fun x=>decide (x.Total < v))=(nB n).countP fun o=>decide (t o < v):=fun v=>by
  rw [R.perm.countP_eq]
  simp only [lnS,wNz,List.map_map,nb]
  rfl
 refine ⟨lines,e,?_⟩
 unfold wBm
 rw [wKR (S:=List Int) (n:=(wNz t n).Skiers.length) (fun k=>(nB k).map (pcT t n)) (s0:=[]) rfl (by omega) fun k hk=>?_]
 ·rw [hl];rfl
 ·rw [hl] at hk
  have ek:gd (wNz t n).Skiers k=⟨(k:Int) + 1,t k⟩:=by
   rw [wGs (by omega)]
   simp [wNz]
  obtain ⟨j,hj,ej⟩:=nH ((mem ⟨(k:Int) + 1,0,t k⟩).2 ⟨k,hk,rfl⟩)
  rw [<- wGs hj] at ej
  rw [wDP (by omega),nA,ek,wWJ (p:=fun x=>decide (x.Bib=(k:Int) + 1)) (fun a _=>by unfold wBf;rfl) (by omega),nA]
  obtain ⟨i,h1,h2,h3⟩:=wNF (p:=fun x:wAA=>decide (x.Bib=(k:Int) + 1)) (l:=lines) (k:=0) (j:=j) (by omega) (by rw [R.at_ j hj,ej];simp)
  rw [R.at_ i (by omega)] at h3
  have hb:(gd Z i).Bib=(k:Int) + 1:=by simpa using h3
  obtain ⟨q,q1,q2⟩:=(mem _).1 (wCW (l:=Z) (k:=i) (by omega))
  rw [q2] at hb
  have hq:q=k:=by simp only at hb;omega
  subst hq
  rw [h1,nv,if_neg (by omega),if_neg (by omega),wDP h2,nA,R.at_ i (by omega)]
  simp only
  rw [wQJ R.ord i (by omega),cnt,q2]
  simp only
  rw [Int.max_eq_right (by omega),wER (by simp;omega),nA,na,nq]
  rfl
theorem wUP {r:wAF} (S:wHU r) (c:code r=0) (hy:∃ y,wEy r y) {a:Pt} (ha:wKT r a):∃ f,IsDP r a f:=by
 rcases wNC S with ⟨c0,_⟩ | ⟨_,d,pts,_,D⟩
 ·exact absurd c c0
 ·obtain ⟨f,l,_,_,F⟩:=D.from_ hy ha
  exact ⟨_,F⟩
theorem wQL {r:wAF} {y:Pt->Int} (F:wEy r y) (hz:y zp=0) (hs:∀ x ∈ r.Starts,0 <= x/\x <= 902) (hp:∀ x ∈ r.Splits,300 <= x.Lo/\x.Hi <= 1190) {s:Nat} (h:s < r.Starts.length):∀ k:Nat,k <= r.Splits.length->0 <= y ⟨(s:Int),(k:Int)⟩/\y ⟨(s:Int),(k:Int)⟩ <= 902 + 1190 * (k:Int)
 | 0,_=>by
  have a:=(wVy.1 F).a s h
  have b:=hs _ (wCW h)
  rw [show ((0:Nat):Int)=0 from rfl,a,hz]
  omega
 | k + 1,hk=>by
  have a:=(wVy.1 F).b s k h (by omega)
  have b:=hp _ (wCW (l:=r.Splits) (k:=k) (by omega))
  have c:=wQL F hz hs hp h k (by omega)
  rw [show ((k + 1:Nat):Int)=(k:Int) + 1 by omega]
  omega
theorem wQM {r:wAF} (C:RC r) {y:Pt->Int} (Y:wEy r y):∃ X A,wCp r (r.Splits.length:Int)=some (X,0)/\wDJ r (r.Splits.length:Int)=some (A,0)/\X.length=r.Starts.length/\A.length=r.Starts.length/\∀ k,k < r.Starts.length ->
  1 <= (gd X k).Lo/\(gd X k).Hi <= r.Starts.length/\(gd X k).Lo <= pcT (fun i=>y ⟨(i:Int),(r.Splits.length:Int)⟩) r.Starts.length k/\pcT (fun i=>y ⟨(i:Int),(r.Splits.length:Int)⟩) r.Starts.length k <= (gd X k).Hi /\
  (gd A k).length <= 8/\∀ s:Nat,(s:Int) ∈ gd A k->y ⟨(s:Int),(r.Splits.length:Int)⟩ < y ⟨(k:Int),(r.Splits.length:Int)⟩:=by
 have hn:=C.n
 have S:wHU r:=⟨by omega,by have:=C.m;omega,by have:=C.c;omega,by have:=C.q;omega⟩
 have e0:wHt r [⟨0,(r.Splits.length:Int)⟩]=0:=by
  unfold wHt
  rw [if_pos (wPu C),if_pos,if_pos ⟨_,Y⟩]
  simp only [List.all_cons,List.all_nil,Bool.and_true,wMK,inB,nj,decide_eq_true_eq]
  omega
 have ok:∀ i,i < r.Starts.length->wKT r ⟨(i:Int),(r.Splits.length:Int)⟩:=fun i hi=>.inr (.inl ⟨by simp only;omega,by simp only;omega,by simp only;omega,by simp only;omega⟩)
 have ex:∀ i,∃ f,i < r.Starts.length->IsDP r ⟨(i:Int),(r.Splits.length:Int)⟩ f:=fun i=>by
  by_cases h:i < r.Starts.length
  ·obtain ⟨f,hf⟩:=wUP S (wPu C) ⟨_,Y⟩ (ok i h)
   exact ⟨f,fun _=>hf⟩
  ·exact ⟨fun _=>0,fun h'=>absurd h' h⟩
 obtain ⟨F,hF⟩:=Classical.axiomOfChoice ex
 have lo':∀ i k,i < r.Starts.length->k < r.Starts.length->y ⟨(k:Int),(r.Splits.length:Int)⟩ - y ⟨(i:Int),(r.Splits.length:Int)⟩ <= F i ⟨(k:Int),(r.Splits.length:Int)⟩:=fun i k hi hk=>(hF i hi).gr _ Y _ (ok k hk)
 refine ⟨_,_,(wPt S _).2 e0 F hF,(wRJ S _).2 e0 F hF,by simp [plL],by simp [ahL],fun k hk=>?_⟩
 unfold plL ahL
 rw [wKW _ hk,wKW _ hk]
 have fl:∀ (p:Nat->Bool) (l:List Nat),(l.filter p).length=l.countP p:=fun p l=>List.countP_eq_length_filter.symm
 have ha:((ahK (fun i j=>F i ⟨(j:Int),(r.Splits.length:Int)⟩) k r.Starts.length).length)=(nB r.Starts.length).countP fun (i:Nat)=>decide (F k ⟨(i:Int),(r.Splits.length:Int)⟩ < 0):=by
  unfold ahK
  rw [List.length_map,fl]
 have hb:beK (fun i j=>F i ⟨(j:Int),(r.Splits.length:Int)⟩) k r.Starts.length=(nB r.Starts.length).countP fun (i:Nat)=>decide (0 < F i ⟨(k:Int),(r.Splits.length:Int)⟩):=rfl
 have hlt:(nB r.Starts.length).countP (fun (i:Nat)=>decide (0 < F i ⟨(k:Int),(r.Splits.length:Int)⟩)) < r.Starts.length:=by
  have h1:=nt (p:=fun (i:Nat)=>decide (0 < F i ⟨(k:Int),(r.Splits.length:Int)⟩)) (l:=nB r.Starts.length)
  rw [ni] at h1
  rcases Nat.lt_or_eq_of_le h1 with h | h
  ·exact h
  ·have:=(nZ (p:=fun (i:Nat)=>decide (0 < F i ⟨(k:Int),(r.Splits.length:Int)⟩)) (l:=nB r.Starts.length)).1 (by rw [ni];exact h) k (nD.2 hk)
   rw [decide_eq_true_eq,(hF k hk).zero] at this
   omega
 have m1:=nP (l:=nB r.Starts.length) (p:=fun (i:Nat)=>decide (F k ⟨(i:Int),(r.Splits.length:Int)⟩ < 0)) (q:=fun (i:Nat)=>decide (y ⟨(i:Int),(r.Splits.length:Int)⟩ < y ⟨(k:Int),(r.Splits.length:Int)⟩)) fun i hi h=>by
  have:=lo' k i hk (nD.1 hi)
  simp only [decide_eq_true_eq] at h ⊢
  omega
 have m2:=nP (l:=nB r.Starts.length) (q:=fun (i:Nat)=>decide (0 < F i ⟨(k:Int),(r.Splits.length:Int)⟩)) (p:=fun (i:Nat)=>decide (y ⟨(i:Int),(r.Splits.length:Int)⟩ < y ⟨(k:Int),(r.Splits.length:Int)⟩)) fun i hi h=>by
  have:=lo' i k (nD.1 hi) hk
  simp only [decide_eq_true_eq] at h ⊢
  omega
 have al:=wKV (fun i j=>F i ⟨(j:Int),(r.Splits.length:Int)⟩) k r.Starts.length
 rw [ha] at al
 simp only
 rw [ha,hb]
 have pc:pcT (fun i=>y ⟨(i:Int),(r.Splits.length:Int)⟩) r.Starts.length k=1 + (((nB r.Starts.length).countP fun (i:Nat)=>decide (y ⟨(i:Int),(r.Splits.length:Int)⟩ < y ⟨(k:Int),(r.Splits.length:Int)⟩):Nat):Int):=rfl
 rw [pc]
 refine ⟨by omega,by omega,by omega,by omega,by omega,fun s hs=>?_⟩
 unfold ahK at hs
 obtain ⟨j,hj,e⟩:=nW.1 hs
 obtain ⟨h1,h2⟩:=List.mem_filter.1 hj
 have:j=s:=by omega
 subst this
 have:=lo' k j hk (nD.1 h1)
 simp only [decide_eq_true_eq] at h2
 omega
theorem wJc {p q:Nat->Bool}:∀ {l:List Nat} {x:Nat},x ∈ l->p x=false->q x=true->(∀ y ∈ l,p y=true->q y=true)->l.countP p < l.countP q
 | a :: l,x,hx,h1,h2,h3=>by
  have hm:=nP (l:=l) (p:=p) (q:=q) fun y hy=>h3 y (.tail _ hy)
  have ha:=h3 a (.head _)
  rw [nY,nY]
  rcases ng.1 hx with rfl | hx
  ·rw [h1,h2]
   simp
   omega
  ·have ih:=wJc hx h1 h2 fun y hy=>h3 y (.tail _ hy)
   cases hp:p a with
   | false=>cases q a <;> simp <;> omega
   | true=>rw [ha hp];simp;omega
theorem wJd {p q:Nat->Bool}:∀ {l:List Nat},(∀ y ∈ l,p y=true->q y=false)->l.countP p + l.countP q <= l.length
 | [],_=>by simp
 | a :: l,h=>by
  have ih:=wJd (l:=l) fun y hy=>h y (.tail _ hy)
  have ha:=h a (.head _)
  rw [nY,nY,nE]
  cases hp:p a with
  | false=>cases q a <;> simp <;> omega
  | true=>rw [ha hp];simp;omega
theorem wUQ {t:Nat->Int} {n o s:Nat} (ho:o < n):pcT t n o < pcT t n s ↔ t o < t s:=by
 constructor
 ·intro h
  rcases Int.lt_or_le (t o) (t s) with h1 | h1
  ·exact h1
  ·have:=nP (l:=nB n) (p:=fun q=>decide (t q < t s)) (q:=fun q=>decide (t q < t o)) fun q _ hq=>by
    simp only [decide_eq_true_eq] at hq ⊢;omega
   unfold pcT at h
   omega
 ·intro h
  have:=wJc (l:=nB n) (p:=fun q=>decide (t q < t o)) (q:=fun q=>decide (t q < t s)) (nD.2 ho) (by simp) (by simpa using h) fun q _ hq=>by
   simp only [decide_eq_true_eq] at hq ⊢;omega
  unfold pcT
  omega
theorem pc_rk {t:Nat->Int} {n:Nat} (hn:n <= 6):Rk ((nB n).map (pcT t n))/\∀ p ∈ (nB n).map (pcT t n),p + wFw ((nB n).map (pcT t n)) p <= 7:=by
 have less:∀ s,s < n->((nB n).map (pcT t n)).countP (fun q=>decide (q < pcT t n s))=(nB n).countP fun o=>decide (t o < t s):=fun s hs=>by
  rw [nb]
  exact kC fun o ho=>by simp only [Function.comp,decide_eq_true_eq];exact wUQ (nD.1 ho)
 refine ⟨fun p hp=>?_,fun p hp=>?_⟩
 ·obtain ⟨s,hs,rfl⟩:=nW.1 hp
  rw [less s (nD.1 hs)]
  rfl
 ·obtain ⟨s,hs,rfl⟩:=nW.1 hp
  have d:=wJd (l:=nB n) (p:=fun o=>decide (t o < t s)) (q:=fun o=>decide (pcT t n o=pcT t n s)) fun o ho h=>by
   simp only [decide_eq_true_eq,decide_eq_false_iff_not] at h ⊢
   have:=(wUQ (s:=s) (nD.1 ho)).2 h
   omega
  rw [ni] at d
  have e:wFw ((nB n).map (pcT t n)) (pcT t n s)=(nB n).countP fun o=>decide (pcT t n o=pcT t n s):=by
   unfold wFw
   rw [nb]
   rfl
  rw [e]
  have e2:pcT t n s=1 + (((nB n).countP fun o=>decide (t o < t s):Nat):Int):=rfl
  omega
theorem wLU (k:Nat):∀ n,(nB n).countP (fun o=>decide (o=k))=if k < n then 1 else 0
 | 0=>by simp
 | n + 1=>by
  rw [na,nV,wLU k n]
  by_cases c:n=k
  ·subst c;simp
  ·have:(k < n + 1)=(k < n):=by apply propext;omega
   simp [c,this]
theorem wRT {t:Nat->Int} {n k:Nat} (hk:k < n) (h:∀ o,o < n->o ≠ k->t k < t o):pcT t n k=1/\wFw ((nB n).map (pcT t n)) 1=1:=by
 have e:pcT t n k=1:=by
  unfold pcT
  rw [nc.2 fun o ho=>by
   rw [decide_eq_true_eq]
   by_cases c:o=k
   ·subst c;omega
   ·have:=h o (nD.1 ho) c;omega]
  rfl
 refine ⟨e,?_⟩
 unfold wFw
 rw [nb]
 have:(nB n).countP ((fun q=>decide (q=1)) ∘ pcT t n)=(nB n).countP fun o=>decide (o=k):=kC fun o ho=>by
  simp only [Function.comp,decide_eq_true_eq]
  constructor
  ·intro h1
   by_cases c:o=k
   ·exact c
   ·have:=(wUQ (t:=t) (n:=n) (s:=o) hk).2 (h o (nD.1 ho) c)
    omega
  ·rintro rfl
   exact e
 rw [this,wLU,if_pos hk]
theorem wMO (p0:List Int) (aw:wDc=some true):wBl p0=some true:=by
 unfold wBl
 rw [show wEC p0=some (⟨p0,0,17⟩:wAE) from rfl,nA]
 obtain ⟨r,T,O,d',e0,C,Ln,F,s9,_,_,sp,_,_,_,n6⟩:=wPx (d:=(⟨p0,0,17⟩:wAE)) rfl (u:=6) (w:=5) (q:=14) (by omega) (by omega) (by omega) (by omega) (by omega) (by omega)
 rw [e0,nA]
 simp only
 have hn:=C.n
 have hm:=C.m
 have ht:=Ln.t
 obtain ⟨t,et⟩:∃ t:Nat->Int,t=fun (i:Nat)=>yT T O ⟨(i:Int),(r.Splits.length:Int)⟩:=⟨_,rfl⟩
 have tk:∀ k,t k=gd (gd T k) r.Splits.length:=fun k=>by
  rw [et]
  show yT T O ⟨(k:Int),(r.Splits.length:Int)⟩=_
  rw [wFl T O (by omega),nK,nK]
 have tin:∀ i,i < r.Starts.length->0 <= t i/\t i <= 360000:=fun i hi=>by
  have:=wQL F (wPv T O) (fun x hx=>⟨(C.st x hx).1,s9 x hx⟩) sp hi r.Splits.length (kD _)
  rw [et]
  simp only
  omega
 obtain ⟨X,A,e1,e2,lX,lA,h⟩:=wQM C F
 rw [<- et] at h
 obtain ⟨lines,e3,e4⟩:=wQK (t:=t) (n:=r.Starts.length) hn.1 (by omega) tin
 rw [wCk (S:=List wAQ) (n:=T.length) (fun k=>(nB k).map fun (i:Nat)=>(⟨(i:Int) + 1,t i⟩:wAQ)) (s0:=[]) rfl (by omega) fun k hk=>by
  have lk:=Ln.l k (by omega)
  rw [wDP hk,nA,wDP (by omega),nA,wER (by simp;omega),nA,na,nq,<- tk k]
  rfl,nA,e1,nA]
 simp only
 rw [e2,nA]
 simp only
 rw [ht]
 have e3:wCq (⟨0,(nB r.Starts.length).map fun (i:Nat)=>(⟨(i:Int) + 1,t i⟩:wAQ),[]⟩:wAU)=some (lines,0):=e3
 have e4:wBm (⟨0,(nB r.Starts.length).map fun (i:Nat)=>(⟨(i:Int) + 1,t i⟩:wAQ),[]⟩:wAU) lines=some ((nB r.Starts.length).map (pcT t r.Starts.length),true):=e4
 rw [e3,nA]
 simp only
 rw [e4,nA]
 simp only
 obtain ⟨R,M⟩:=pc_rk (t:=t) (n:=r.Starts.length) (by omega)
 have gp:∀ k,k < r.Starts.length->gd ((nB r.Starts.length).map (pcT t r.Starts.length)) k=pcT t r.Starts.length k:=fun k hk=>wKW _ hk
 have lp:((nB r.Starts.length).map (pcT t r.Starts.length)).length=r.Starts.length:=by simp
 have al:=fun k (hk:k < r.Starts.length) h=>wRT (t:=t) hk h
 generalize (nB r.Starts.length).map (pcT t r.Starts.length)=pl at R M gp lp al ⊢
 have eT:wDu (⟨(pl.length:Int),1,1,[60,54,48,43,40,38],[pl]⟩:wBq)=some ((nB pl.length).map (wQH pl),0):=wRS (by omega) (by omega) R M
 rw [if_pos trivial,if_pos trivial,if_pos trivial,if_pos trivial,if_pos (by omega),if_pos (by omega),eT,nA]
 simp only
 rw [if_pos trivial,if_pos (by simp),wPh (by omega) fun k hk=>?_,wLa,aw]
 ·rfl
 ·have hk':k < r.Starts.length:=by omega
  obtain ⟨h1,h2,h3,h4,h5,_⟩:=h k hk'
  obtain ⟨lo,elo⟩:∃ lo:Nat,(gd X k).Lo=lo:=⟨(gd X k).Lo.toNat,by omega⟩
  have p1:1 <= pcT t r.Starts.length k:=by unfold pcT;omega
  obtain ⟨p,ep⟩:∃ p:Nat,pcT t r.Starts.length k=p:=⟨(pcT t r.Starts.length k).toNat,by omega⟩
  have gk:=gp k hk'
  have hmm:=M _ (wCW hk)
  have mp:1 <= wFw pl (gd pl k):=nT.2 ⟨gd pl k,wCW hk,by simp⟩
  rw [gk,ep] at hmm mp
  have et2:gd ((nB pl.length).map (wQH pl)) k=wt p (wFw pl (p:Int)) / (wFw pl (p:Int):Int):=by
   rw [wKW _ hk]
   unfold wQH
   rw [gk,ep,nK]
  have wl:=(wUM ⟨p,by omega⟩ ⟨wFw pl (p:Int),by omega⟩ ⟨lo,by omega⟩ (by show 1 <= p;omega) mp (by show p + wFw pl (p:Int) <= 7;omega) (by show 1 <= lo;omega) (by show lo <= p;omega)).2
  have wl:wt p (wFw pl (p:Int)) / (wFw pl (p:Int):Int) <= wUL.getD (lo - 1) 0:=wl
  have ei:∀ lo:Fin 8,1 <= lo.val->lo.val <= 6->idx [60,54,48,43,40,38] (w64 ((lo.val:Int) - 1))=some (wUL.getD (lo.val - 1) 0):=by decide
  have ei:=ei ⟨lo,by omega⟩ (by show 1 <= lo;omega) (by show lo <= 6;omega)
  have ei:idx [60,54,48,43,40,38] (w64 ((lo:Int) - 1))=some (wUL.getD (lo - 1) 0):=ei
  rw [wDP hk,nA,wCK (by omega) (by omega),nA,if_neg (by omega),if_neg (by omega),gk,if_neg (by omega),if_neg (by omega),wCK (by omega) (by simp;omega),nA,elo,ei,nA,et2,if_neg (by omega)]
  rw [wCk (S:=Bool) (n:=pl.length) (fun j=>decide (∀ o,o < j->o=k \/ (k:Int) ∈ gd A o)) (s0:=true) (by simp) (by omega) fun j hj=>?_,nA]
  ·by_cases c:∀ o,o < pl.length->o=k \/ (k:Int) ∈ gd A o
   ·obtain ⟨a1,a2⟩:=al k hk' fun o ho hne=>by
     have:=(c o (by omega)).resolve_left hne
     have:=(h o ho).2.2.2.2.2 k this
     rw [et]
     exact this
    rw [a1] at ep
    have:p=1:=by omega
    subst this
    rw [if_pos (decide_eq_true c),a1,if_pos rfl,show ((1:Nat):Int)=1 from rfl,a2,if_pos (by decide)]
   ·rw [if_neg (by simpa using c)]
  ·by_cases c:∀ o,o < j->o=k \/ (k:Int) ∈ gd A o
   ·rw [decide_eq_true c,if_pos rfl]
    by_cases c2:j=k
    ·rw [if_pos (by omega)]
     congr 1
     exact (decide_eq_true fun o ho=>by
      by_cases e:o=j
      ·exact .inl (e.trans c2)
      ·exact c o (by omega)).symm
    ·have la:=(h j (by omega)).2.2.2.2.1
     rw [if_neg (by omega),wDP (by omega),nA,wIr _ (by omega),nA]
     congr 1
     rw [Bool.eq_iff_iff,decide_eq_true_eq,decide_eq_true_eq]
     constructor
     ·intro hh o ho
      by_cases e:o=j
      ·subst e;exact .inr hh
      ·exact c o (by omega)
     ·intro hh
      exact (hh j (by omega)).resolve_left c2
   ·rw [decide_eq_false c,if_neg (by simp)]
    congr 1
    exact (decide_eq_false fun hh=>c fun o ho=>hh o (by omega)).symm
theorem wNk (p0:List Int):wBl p0=some true:=wMO p0 rfl
end Go.Proofs.YtadbejldcmkokaaGreat
