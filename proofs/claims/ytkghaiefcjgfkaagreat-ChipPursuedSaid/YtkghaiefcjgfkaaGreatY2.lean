import Derived.Test.YtkghaiefcjgfkaaGreatY1
set_option linter.all false
open Option renaming bind_some->hH
open List renaming mem_range->hJ,all_eq_true->nA,length_map->nE,length_range->nG,mem_map->nH,range->nJ
open Bool renaming and_eq_true->nB
open Classical renaming axiomOfChoice->nI
namespace Go.Proofs.YtkghaiefcjgfkaaGreat
open Go.KL Go.KL.Net
theorem wMr {r:wAD} (C:RC r):code r=0:=by
 unfold code
 rw [if_neg (fun h=>h C.n),if_neg (by have:=C.m;omega),if_neg (by have:=C.c;omega),if_neg (by have:=C.q;omega),if_pos (nA.2 fun s hs=>by
  have:=C.st s hs
  unfold stP inB
  rw [decide_eq_true_eq];omega),if_pos (nA.2 fun s hs=>by
  have:=C.sp s hs
  unfold spP wLc
  rw [decide_eq_true_eq];omega),if_pos (nA.2 fun s hs=>by
  have:=C.ck s hs
  unfold ckP wLc inB
  rw [nB,decide_eq_true_eq,decide_eq_true_eq];omega),if_pos (nA.2 fun s hs=>by
  have:=C.rt s hs
  unfold rtP inB
  rw [decide_eq_true_eq];omega),if_pos (nA.2 fun s hs=>by
  have:=C.ru s hs
  unfold ruP inB
  rw [nB,nB,decide_eq_true_eq,decide_eq_true_eq,decide_eq_true_eq];omega)]
end Go.Proofs.YtkghaiefcjgfkaaGreat
namespace Go.Proofs.YtkghaiefcjgfkaaGreat
set_option maxRecDepth 100000 in
theorem aw06:wCH=some true:=by decide +kernel
end Go.Proofs.YtkghaiefcjgfkaaGreat
namespace Go.Proofs.YtkghaiefcjgfkaaGreat
open Go.KL Go.KL.Net
open Classical
def ctP (p:Nat->Bool) (n:Nat):Nat:=(nJ n).countP p
theorem wNx (p:Nat->Bool) (n:Nat):(ctP p (n + 1):Int)=if p n=true then (ctP p n:Int) + 1 else (ctP p n:Int):=by
 unfold ctP
 rw [List.range_succ,List.countP_append]
 by_cases h:p n=true
 ·rw [if_pos h];simp [h]
 ·rw [if_neg h];simp [h]
theorem wMJ (p:Nat->Bool):∀ n,ctP p n <= n:=fun n=>by
 have:=List.countP_le_length (p:=p) (l:=nJ n)
 rwa [nG] at this
theorem wJl {p q:Nat->Bool} {n:Nat} (h:∀ j,j < n->p j=true->q j=true):ctP p n <= ctP q n :=
 List.countP_mono_left fun j hj=>h j (hJ.1 hj)
theorem wGj {p q:Nat->Bool} {n:Nat} (h:∀ j,j < n->(p j=true ↔ q j=true)):ctP p n=ctP q n :=
 List.countP_congr fun j hj=>h j (hJ.1 hj)
theorem ah_ct (G:Nat->Nat->Int) (i k:Nat):(ahK G i k).length=ctP (fun j=>decide (G i j < 0)) k:=by
 unfold ahK ctP
 rw [nE,List.countP_eq_length_filter]
theorem wLE {r:wAD} (C:RC r) (hy:∃ y,wDj r y):∃ F:Nat->Pt->Int,(∀ i,i < r.Starts.length->IsDP r ⟨(i:Int),(r.Splits.length:Int)⟩ (F i))/\wBm r r.Splits.length=some (plL r.Starts.length (fun i j=>F i ⟨(j:Int),(r.Splits.length:Int)⟩),0):=by
 have hn:=C.n;have hm:=C.m;have hc:=C.c;have hq:=C.q
 have S:wFQ r:=⟨by omega,by omega,by omega,by omega⟩
 have c0:=wMr C
 have hF:∀ i:Nat,∃ F:Pt->Int,i < r.Starts.length->IsDP r ⟨(i:Int),(r.Splits.length:Int)⟩ F:=fun i=>by
  by_cases hi:i < r.Starts.length
  ·obtain ⟨F,h⟩:=wNn S c0 hy (a:=⟨(i:Int),(r.Splits.length:Int)⟩) (.inr (.inl ⟨by simp only;omega,by simp only;omega,by simp only;omega,by simp only;omega⟩))
   exact ⟨F,fun _=>h⟩
  ·exact ⟨fun _=>0,fun h=>absurd h hi⟩
 obtain ⟨F,hF⟩:=nI hF
 refine ⟨F,hF,(wKo S r.Splits.length).2 ?_ F hF⟩
 unfold wHM
 rw [if_pos c0,if_pos (by
  simp only [List.all_cons,List.all_nil,Bool.and_true,wIs,inB,nB,decide_eq_true_eq]
  omega),if_pos hy]
def knL (E:List Int) (m:Nat) (k:Nat):List wAJ:=(nJ k).map fun (i:Nat)=>⟨(i:Int),(m:Int),0,gd E i⟩
theorem wIz (p0 p1:List Int) (p2:Int) (_:-9223372036854775808 <= p2) (_:p2 <= 9223372036854775807):wBY p0 p1 p2=some true:=by
 have aw:=aw06
 unfold wBY
 rw [show wCM p0=some ⟨p0,0,17⟩ from rfl,hH,show wCM p1=some ⟨p1,0,17⟩ from rfl,hH]
 obtain ⟨n1,d1,e1,a0,a1,a2,a3⟩:=wHn ⟨p0,0,17⟩ 1 7 (by simp only;omega) (by simp only;omega) (by omega) (by omega) (by omega)
 simp only at a1
 obtain ⟨n,rfl⟩:∃ n:Nat,n1=(n:Int):=⟨n1.toNat,by omega⟩
 rw [e1,hH]
 simp only
 obtain ⟨b2,x2,s2,l,e2,x20,hl,hR⟩:=rs_is (n:=n) (by omega) (d:=d1) a0 (by omega)
 erw [e2]
 rw [hH]
 simp only
 obtain ⟨u,eu,u0,u1⟩:=wLp p2 (n:=50) (by omega) (by omega)
 rw [eu,hH,wAW (x:=u + 1) (by omega) (by omega)]
 have G:=wMq (l:=l) (u:=u + 1) (by omega) (by rw [hl];exact hR) (by omega) (by omega)
 obtain ⟨p,hP,eP⟩:=wKE (l:=l) (r:=⟨u + 1,1000⟩) (by omega)
 have e0:=wGh.2 G
 have P:=hP e0
 rw [eP,e0,if_pos rfl,hH]
 simp only
 have pl:(p.map (stt l ⟨u + 1,1000⟩)).length=n:=by rw [nE,(wLC P (k:=0) (by omega)).1,hl]
 have tm:∀ k,k < (p.map (stt l ⟨u + 1,1000⟩)).length->0 <= (gd (p.map (stt l ⟨u + 1,1000⟩)) k).Time/\(gd (p.map (stt l ⟨u + 1,1000⟩)) k).Time <= 1000:=fun k hk=>by
  obtain ⟨q1,q2,q3⟩:=wLC P (k:=k) (by omega)
  rw [wIm _ (by omega)]
  have:=wNv G (x:=gd l (gd p k).toNat) (wCF (by omega))
  exact ⟨this.1,this.2.1⟩
 rw [if_pos trivial,if_pos (by rw [pl,hl])]
 generalize p.map (stt l ⟨u + 1,1000⟩)=L at pl tm
 obtain ⟨n3,d3,e3,b0,b1,b2',b3⟩:=wHn ⟨b2,x2,s2⟩ 1 3 x20.1 (by simp only;omega) (by omega) (by omega) (by omega)
 simp only at b1
 obtain ⟨m,rfl⟩:∃ m:Nat,n3=(m:Int):=⟨n3.toNat,by omega⟩
 rw [e3,hH]
 simp only
 obtain ⟨b4,x4,s4,Sp,e4,hm,hSp⟩:=sl_is (n:=m) (by omega) (b0:=d3.bytes) (x0:=d3.next) (s0:=d3.state) b0 (by omega)
 erw [e4]
 rw [hH]
 simp only
 have H:SpOK Sp:=⟨by omega,by rw [hm];exact hSp⟩
 obtain ⟨A,b5,x5,s5,E,e5,hA,hE,tA,hg⟩:=se_is H (L:=L) (by omega) tm (b:=p1) (x:=0) (s:=17) (by omega) (by omega)
 erw [e5]
 rw [hH]
 simp only
 obtain ⟨g,hg⟩:∃ g:Nat->Nat->Int,∀ k,k < L.length->(∀ j,j < Sp.length->(gd Sp j).Lo <= g k j/\g k j <= (gd Sp j).Hi)/\gd E k=gd A k + wEY (g k) Sp.length:=by
  have:∀ k:Nat,∃ g:Nat->Int,k < L.length->(∀ j,j < Sp.length->(gd Sp j).Lo <= g j/\g j <= (gd Sp j).Hi)/\gd E k=gd A k + wEY g Sp.length:=fun k=>by
   by_cases hk:k < L.length
   ·obtain ⟨g,h⟩:=hg k hk
    exact ⟨g,fun _=>h⟩
   ·exact ⟨fun _=>0,fun h=>absurd h hk⟩
  exact nI this
 have bE:∀ k,k < L.length->0 <= gd E k/\gd E k <= 4000:=fun k hk=>by
  have h:=hg k hk
  have a:=tA k hk
  have bd:=wGi (f:=g k) (b:=700) (m:=Sp.length) fun j hj=>by
   have:=h.1 j hj
   have:=H.2 j hj
   omega
  omega
 obtain ⟨r,er⟩:∃ r:wAD,r=⟨A,Sp,[⟨⟨0,0⟩,0⟩],[]⟩:=⟨_,rfl⟩
 have C:RC r:=by
  subst er
  refine ⟨by simp only;omega,by simp only;omega,by simp,by simp,fun s hs=>?_,fun s hs=>?_,fun c hc=>?_,fun x hx=>(by cases hx),fun x hx=>(by cases hx)⟩
  ·obtain ⟨k,hk,rfl⟩:=wIQ hs
   simp only at hk ⊢
   have:=tA k (by omega)
   omega
  ·obtain ⟨k,hk,rfl⟩:=wIQ hs
   simp only at hk ⊢
   have:=H.2 k hk
   omega
  ·simp only [List.mem_singleton] at hc
   subst hc
   simp only
   omega
 have hIn:InSp r g:=by
  subst er
  intro s k hs hk
  exact (hg s (by simp only at hs;omega)).1 k hk
 have F:=wMj C hIn (by subst er;exact fun x hx=>by cases hx)
 obtain ⟨D,hD,eD⟩:=wLE C ⟨_,F⟩
 rw [er] at eD
 simp only at eD
 rw [hm] at eD
 erw [hm,eD]
 rw [hH]
 simp only
 have pL:∀ (n:Nat) (G:Nat->Nat->Int),(plL n G).length=n:=fun n G=>by simp [plL]
 rw [if_pos trivial,if_pos (by rw [pL,hA])]
 have S:wFQ r:=⟨by have:=C.n;omega,by have:=C.m;omega,by have:=C.c;omega,by have:=C.q;omega⟩
 have eC:=wLq S
 rw [er] at eC
 rw [eC,hH]
 simp only
 rw [wDi (S:=List wAJ) (n:=E.length) (fun k=>knL E m k) (s0:=[]) rfl (by omega) fun k hk=>by
  rw [wBW (by omega) (by omega),hH,wEO (by simp only [knL,nE,nG,List.length_cons,List.length_nil];omega),hH]
  unfold knL
  rw [List.range_succ,List.map_append];rfl,hH]
 obtain ⟨rk,ek⟩:∃ r:wAD,r=⟨A,Sp,[⟨⟨0,0⟩,0⟩],knL E m E.length⟩:=⟨_,rfl⟩
 have Ck:RC rk:=by
  have h8:=C.n
  subst er ek
  refine ⟨C.n,C.m,C.c,by simp only [knL,nE,nG];omega,C.st,C.sp,C.ck,fun x hx=>?_,fun x hx=>?_⟩
  ·simp only [knL,nH,hJ] at hx
   obtain ⟨k,hk,rfl⟩:=hx
   have:=bE k (by omega)
   simp only
   omega
  ·simp only [knL,nH,hJ] at hx
   obtain ⟨k,hk,rfl⟩:=hx
   simp only [List.length_cons,List.length_nil]
   omega
 have yE:∀ k,k < L.length->yU rk g ⟨(k:Int),(m:Int)⟩=gd E k:=fun k hk=>by
  rw [wMi,(hg k hk).2,hm]
  subst ek
  rfl
 have Fk:=wMj Ck (f:=g) (by
  subst ek
  intro s k hs hk
  exact (hg s (by simp only at hs;omega)).1 k hk) (fun x hx=>by
  have hx':x ∈ knL E m E.length:=by subst ek;exact hx
  simp only [knL,nH,hJ] at hx'
  obtain ⟨k,hk,rfl⟩:=hx'
  have c0:=yU_c rk g 0
  simp only
  rw [yE k (by omega)]
  have ec:gd rk.Clocks 0=⟨⟨0,0⟩,0⟩:=by subst ek;rfl
  rw [ec] at c0
  simp only at c0
  rw [show ((0:Nat):Int)=0 from rfl] at c0
  rw [c0,show (0:Int).toNat=0 from rfl,ec]
  simp only
  omega)
 obtain ⟨K,hK,eK⟩:=wLE Ck ⟨_,Fk⟩
 rw [ek] at eK
 simp only at eK
 rw [hm] at eK
 rw [eK,hH]
 simp only
 rw [if_pos trivial,if_pos (by rw [pL,hA])]
 have gK:∀ i j,i < L.length->j < L.length->K i ⟨(j:Int),(m:Int)⟩=gd E j - gd E i:=fun i j hi hj=>by
  have hd:=hK i (by subst ek;simp only;omega)
  have hr:∀ s:Nat,s < rk.Starts.length->(⟨(s:Int),(rk.Splits.length:Int),0,gd E s⟩:wAJ) ∈ rk.Readings:=fun s hs=>by
   subst ek
   simp only at hs ⊢
   rw [hm]
   exact nH.2 ⟨s,hJ.2 (by omega),rfl⟩
  have sm:rk.Splits.length=m:=by subst ek;exact hm
  have a:=gapK (by subst ek;rfl) hr hd.ok (i:=i) (by subst ek;simp only;omega)
  have b:=gapK (by subst ek;rfl) hr hd.ok (i:=j) (by subst ek;simp only;omega)
  have z:=hd.zero
  rw [sm] at a b z
  omega
 have gD:∀ i j,i < L.length->j < L.length->(D i ⟨(j:Int),(m:Int)⟩ < 0 ↔ gd A j + wEY (fun k=>(gd Sp k).Hi - (gd Sp k).Lo) m < gd A i):=fun i j hi hj=>by
  have hd:=hD i (by subst er;simp only;omega)
  have sm:r.Splits.length=m:=by subst er;exact hm
  have:=gapU C (by subst er;rfl) (i:=i) (j:=j) (by subst er;simp only;omega) (by subst er;simp only;omega) hd
  unfold wMl at this
  rw [sm] at this
  subst er
  exact this
 have yD:∀ k,k < L.length->yU r g ⟨(k:Int),(m:Int)⟩=gd E k:=fun k hk=>by
  rw [wMi,(hg k hk).2,hm]
  subst er
  rfl
 have pD:∀ i j,i < L.length->j < L.length->gd E j < gd E i->0 < D j ⟨(i:Int),(m:Int)⟩:=fun i j hi hj h=>by
  have sm:r.Splits.length=m:=by subst er;exact hm
  have hd:=hD j (by subst er;simp only;omega)
  rw [sm] at hd
  exact wLf (by subst er;simp only;omega) F (by omega) (by omega) hd (by rw [yD i hi,yD j hj];exact h)
 have nD:∀ i j,i < L.length->j < L.length->D i ⟨(j:Int),(m:Int)⟩ < 0->gd E j < gd E i:=fun i j hi hj h=>by
  have sm:r.Splits.length=m:=by subst er;exact hm
  have hd:=hD i (by subst er;simp only;omega)
  rw [sm] at hd
  have:=hd.gr _ F ⟨(j:Int),(m:Int)⟩ (.inr (.inl ⟨by simp only;omega,by subst er;simp only;omega,by simp only;omega,by simp only;omega⟩))
  rw [yD i hi,yD j hj] at this
  omega
 have bdP:=wGi (f:=fun k=>(gd Sp k).Hi - (gd Sp k).Lo) (b:=700) (m:=m) fun j hj=>by
  have:=hSp j hj
  omega
 generalize wEY (fun k=>(gd Sp k).Hi - (gd Sp k).Lo) m=play at gD bdP ⊢
 rw [hA,wKc (by omega) fun i hi=>?_]
 ·rw [wId,aw];rfl
 ·have gl:∀ (G:Nat->Nat->Int),gd (plL L.length G) i=⟨1 + (ctP (fun j=>decide (G i j < 0)) L.length:Int),1 + (ctP (fun j=>decide (0 < G j i)) L.length:Int)⟩:=fun G=>by
   unfold plL
   rw [wNl _ hi,ah_ct]
   rfl
  rw [wDi (S:=Int × Int) (n:=L.length) (fun k=>(1 + (ctP (fun j=>decide (gd E j < gd E i)) k:Int),1 + (ctP (fun j=>decide (gd A j + play < gd A i)) k:Int))) (s0:=(1,1)) (by simp [ctP]) (by omega) fun k hk=>?_,hH]
  ·simp only
   rw [wBW (by omega) (by rw [pL];omega),hH,gl,gl,if_pos ?_,wBW (by omega) (by rw [pL];omega),hH]
   ·unfold wCA
    simp only
    have q1:ctP (fun j=>decide (D i ⟨(j:Int),(m:Int)⟩ < 0)) L.length=ctP (fun j=>decide (gd A j + play < gd A i)) L.length:=wGj fun j hj=>by
     rw [decide_eq_true_eq,decide_eq_true_eq];exact gD i j hi hj
    have q2:ctP (fun j=>decide (D i ⟨(j:Int),(m:Int)⟩ < 0)) L.length <= ctP (fun j=>decide (gd E j < gd E i)) L.length:=wJl fun j hj h=>by
     rw [decide_eq_true_eq] at h ⊢;exact nD i j hi hj h
    have q3:ctP (fun j=>decide (gd E j < gd E i)) L.length <= ctP (fun j=>decide (0 < D j ⟨(i:Int),(m:Int)⟩)) L.length:=wJl fun j hj h=>by
     rw [decide_eq_true_eq] at h ⊢;exact pD i j hi hj h
    rw [if_pos (by omega),hH,if_pos (by rw [decide_eq_true_eq];omega),if_pos (by rw [q1])]
   ·have q1:ctP (fun j=>decide (K i ⟨(j:Int),(m:Int)⟩ < 0)) L.length=ctP (fun j=>decide (gd E j < gd E i)) L.length:=wGj fun j hj=>by
     rw [decide_eq_true_eq,decide_eq_true_eq,gK i j hi hj];omega
    have q2:ctP (fun j=>decide (0 < K j ⟨(i:Int),(m:Int)⟩)) L.length=ctP (fun j=>decide (gd E j < gd E i)) L.length:=wGj fun j hj=>by
     rw [decide_eq_true_eq,decide_eq_true_eq,gK j i hj hi];omega
    rw [q1,q2]
  ·have c1:=wMJ (fun j=>decide (gd E j < gd E i)) k
   have c2:=wMJ (fun j=>decide (gd A j + play < gd A i)) k
   have ai:=tA i hi
   have ak:=tA k hk
   have w:w64 (gd A k + play)=gd A k + play:=wAW (by omega) (by omega)
   simp only
   rw [wBW (by omega) (by omega),hH,wBW (by omega) (by omega),hH,wFW (by omega),hH,wFW (by omega),hH,w,wAW (by omega) (by omega),wAW (by omega) (by omega),wNx,wNx]
   by_cases h1:gd E k < gd E i
   ·rw [if_pos h1,if_pos (decide_eq_true h1)]
    by_cases h2:gd A k + play < gd A i
    ·rw [if_pos h2,if_pos (decide_eq_true h2)]
     congr 2 <;> omega
    ·rw [if_neg h2,if_neg (by simpa using h2)]
     congr 2
   ·rw [if_neg h1,if_neg (by simpa using h1),hH,hH,w]
    by_cases h2:gd A k + play < gd A i
    ·rw [if_pos h2,if_pos (decide_eq_true h2)]
     congr 2
    ·rw [if_neg h2,if_neg (by simpa using h2)]
end Go.Proofs.YtkghaiefcjgfkaaGreat
