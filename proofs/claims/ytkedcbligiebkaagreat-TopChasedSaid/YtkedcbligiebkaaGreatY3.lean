import Derived.Test.YtkedcbligiebkaaGreatY2
import Derived.Test.YtkedcbligiebkaaGreatY1
set_option linter.all false
open Option renaming bind_some->hH
open List renaming length_append->nA,append_assoc->nD,take_append_drop->nE,length_cons->nG,getElem_of_mem->nI,eq_nil_of_length_eq_zero->nJ,length_take->nK,length_map->nL,length_nil->nM,length_singleton->nN,pairwise_append->nO,all_eq_true->nP,getElem?_append_left->nR,length_drop->nS,mem_append_right->nU,mem_append_left->nV,map_congr_left->nY,pairwise_iff_getElem->nZ,mem_range->na,getElem_drop->nb,getElem_take->nc,take_of_length_le->nf,getElem_map->ng,length_set->nh,map_append->ni,getElem?_take->nj,getElem?_drop->nk,getElem?_append_right->nl,set->no,take_length->nq,mem_append->nr,length_eq_one_iff->nt,range->nu,mem_cons->nv,all_cons->nw,getElem?_range->nz,pairwise_cons->kA,mem_map->kB,all_nil->kC,ext_getElem?->kD,nodup_append->kE,length_range->kG
open Int renaming toNat_natCast->nB,tmod_eq_emod_of_nonneg->nX,le_refl->kH
open Bool renaming and_eq_true->nH,and_true->ny
open Nat renaming le_refl->nQ,min_eq_left->nT,min_eq_right->nW,le_of_lt->np
namespace Go.Proofs.YtkedcbligiebkaaGreat
open Go.KL
theorem wJF {i j:Nat} (h:i + j <= 1000000):w64 ((wAf (w64 ((i:Int) + (j:Int)))) / 2)=(((i + j) / 2:Nat):Int):=by
 rw [wEb h]
 have e:wAf ((i + j:Nat):Int)=((i + j:Nat):Int):=by unfold wAf;omega
 rw [e,wAa (by omega) (by omega)]
 omega
def sm1 (p0:List Int) (p1 p2 p3:Int) (p4:(Int × Int)->Option Int):Option (List Int) :=
  (iter (fun (x14,x15) =>
   if x14 < x15 then
    (chk (w64 ((wAf (w64 (x14 + x15))) / 2)) p0.length).bind fun _ =>
    (chk p1 p0.length).bind fun _ =>
    (p4 ((gd p0 (w64 ((wAf (w64 (x14 + x15))) / 2)).toNat),(gd p0 p1.toNat))).bind fun x43 =>
    if x43 < 0 then
     some (.inl (w64 ((w64 ((wAf (w64 (x14 + x15))) / 2)) + 1),x15))
    else
     some (.inl (x14,w64 ((wAf (w64 (x14 + x15))) / 2)))
   else
    esc (some x14)) big (p2,p3)).bind fun x4 =>
  iter (fun (l80,x81) =>
   if x81 < (w64 (x4 - 1)) then
    (chk (w64 (x81 + 1)) l80.length).bind fun _ =>
    (chk x81 l80.length).bind fun _ =>
    (chk (w64 (x81 + 1)) (no l80 x81.toNat (gd l80 (w64 (x81 + 1)).toNat)).length).bind fun _ =>
    some (.inl ((no (no l80 x81.toNat (gd l80 (w64 (x81 + 1)).toNat)) (w64 (x81 + 1)).toNat (gd l80 x81.toNat)),w64 (x81 + 1)))
   else
    esc (some l80)) big (p0,p1)
def sm2 (p0:List Int) (p1 p2 p3:Int) (p4:(Int × Int)->Option Int):Option (List Int) :=
      (iter (fun (x137,x138) =>
        if x137 < x138 then
          (chk p2 p0.length).bind fun _ =>
          (chk (w64 ((wAf (w64 (x137 + x138))) / 2)) p0.length).bind fun _ =>
          (p4 ((gd p0 p2.toNat),(gd p0 (w64 ((wAf (w64 (x137 + x138))) / 2)).toNat))).bind fun x166 =>
          if x166 < 0 then
            some (.inl (x137,w64 ((wAf (w64 (x137 + x138))) / 2)))
          else
            some (.inl (w64 ((w64 ((wAf (w64 (x137 + x138))) / 2)) + 1),x138))
        else
          esc (some x137)) big (p1,p2)).bind fun x127 =>
      iter (fun (l203,x204) =>
        if x127 < x204 then
          (chk (w64 (x204 - 1)) l203.length).bind fun _ =>
          (chk x204 l203.length).bind fun _ =>
          (chk (w64 (x204 - 1)) (no l203 x204.toNat (gd l203 (w64 (x204 - 1)).toNat)).length).bind fun _ =>
          some (.inl ((no (no l203 x204.toNat (gd l203 (w64 (x204 - 1)).toNat)) (w64 (x204 - 1)).toNat (gd l203 x204.toNat)),w64 (x204 - 1)))
        else
          esc (some l203)) big (p0,p2)
def smS (p0:List Int) (m1:Int) (p4:(Int × Int)->Option Int) (s:Int × Int):Option ((Int × Int) ⊕ Int):=match s with
  | (x260,x261) =>
          if x260 < x261 then
            (chk (w64 (m1 - (w64 ((wAf (w64 (x260 + x261))) / 2)))) p0.length).bind fun _ =>
            (chk (w64 ((wAf (w64 (x260 + x261))) / 2)) p0.length).bind fun _ =>
            (p4 ((gd p0 (w64 (m1 - (w64 ((wAf (w64 (x260 + x261))) / 2)))).toNat),(gd p0 (w64 ((wAf (w64 (x260 + x261))) / 2)).toNat))).bind fun x294 =>
            if x294 < 0 then
              some (.inl (x260,w64 ((wAf (w64 (x260 + x261))) / 2)))
            else
              some (.inl (w64 ((w64 ((wAf (w64 (x260 + x261))) / 2)) + 1),x261))
          else
            esc (some x260)
def smT (rec_:(List Int)->Int->Int->Int->((Int × Int)->Option Int)->Option ((List Int))) (l:List Int) (p1 p3 mid e k:Int) (p4:(Int × Int)->Option Int):Option (List Int) :=
          if p1 < k then
            if k < mid then
              (rec_ l p1 k mid p4).bind fun x373 =>
              if mid < e then
                if e < p3 then
                  (rec_ x373 mid e p3 p4).bind fun x389 =>
                  some x389
                else
                  some x373
              else
                some x373
            else
              if mid < e then
                if e < p3 then
                  (rec_ l mid e p3 p4).bind fun x408 =>
                  some x408
                else
                  some l
              else
                some l
          else
            if mid < e then
              if e < p3 then
                (rec_ l mid e p3 p4).bind fun x427 =>
                some x427
              else
                some l
            else
              some l
def smR (rec_:(List Int)->Int->Int->Int->((Int × Int)->Option Int)->Option ((List Int))) (p0:List Int) (p1 p2 p3 mid e k:Int) (p4:(Int × Int)->Option Int):Option (List Int) :=
        (if k < p2 then
          some (decide (p2 < e))
        else
          some false).bind fun b330 =>
        if b330=true then
          (wAk p0 k p2 e p4).bind fun x357=>smT rec_ x357 p1 p3 mid e k p4
        else
          smT rec_ p0 p1 p3 mid e k p4
theorem wMg (rec_:(List Int)->Int->Int->Int->((Int × Int)->Option Int)->Option ((List Int))) (p0:List Int) (p1 p2 p3:Int) (p4:(Int × Int)->Option Int):wAt rec_ p0 p1 p2 p3 p4 =
 if (w64 (p2 - p1))=1 then sm1 p0 p1 p2 p3 p4
 else if (w64 (p3 - p2))=1 then sm2 p0 p1 p2 p3 p4
 else if (w64 ((wAf (w64 (p1 + p3))) / 2)) < p2 then
  (iter (smS p0 (w64 ((w64 ((w64 ((wAf (w64 (p1 + p3))) / 2)) + p2)) - 1)) p4) big (w64 ((w64 ((w64 ((wAf (w64 (p1 + p3))) / 2)) + p2)) - p3),w64 ((wAf (w64 (p1 + p3))) / 2))).bind fun x250 =>
  smR rec_ p0 p1 p2 p3 (w64 ((wAf (w64 (p1 + p3))) / 2)) (w64 ((w64 ((w64 ((wAf (w64 (p1 + p3))) / 2)) + p2)) - x250)) x250 p4
 else
  (iter (smS p0 (w64 ((w64 ((w64 ((wAf (w64 (p1 + p3))) / 2)) + p2)) - 1)) p4) big (p1,p2)).bind fun x250 =>
  smR rec_ p0 p1 p2 p3 (w64 ((wAf (w64 (p1 + p3))) / 2)) (w64 ((w64 ((w64 ((wAf (w64 (p1 + p3))) / 2)) + p2)) - x250)) x250 p4:=rfl
theorem wKC {K:Int->Int} {Y:List Int} (h:Y.Pairwise (Lr K)) {i j:Nat} (hij:i <= j) (hj:j < Y.length):K (gd Y i) <= K (gd Y j):=by
 rcases Nat.lt_or_ge i j with c | c
 ·have:=nZ.1 h i j (by omega) hj c
  rw [<- wEB (by omega),<- wEB hj] at this
  exact this.le
 ·rw [show i=j by omega]
  exact kH _
theorem gd_X {A X Y B:List Int} {i:Nat} (h1:A.length <= i) (h2:i < A.length + X.length):gd (A ++ X ++ Y ++ B) i=gd X (i - A.length):=by
 simp only [wOt,nA]
 rw [if_pos (by omega),if_pos (by omega),if_neg (by omega)]
theorem gd_Y {A X Y B:List Int} {i:Nat} (h1:A.length + X.length <= i) (h2:i < A.length + X.length + Y.length):gd (A ++ X ++ Y ++ B) i=gd Y (i - (A.length + X.length)):=by
 simp only [wOt,nA]
 rw [if_pos (by omega),if_neg (by omega)]
theorem wTy {K:Int->Int} {n:Int} {c:(Int × Int)->Option Int} (hc:ByK K n c) {A Y B:List Int} {x:Int} (hx:0 <= x/\x < n) (hY:In n Y) (hlt:∀ y ∈ Y,x < y) (ho:Y.Pairwise (Lr K)) (hl:(A ++ [x] ++ Y ++ B).length <= 1000) {a m b:Nat} (ha:A.length=a) (hm:a + 1=m) (hb:m + Y.length=b) :
  ∃ Z,sm1 (A ++ [x] ++ Y ++ B) (a:Int) (m:Int) (b:Int) c=some (A ++ Z ++ B)/\Z.Perm ([x] ++ Y)/\Z.Pairwise (Lr K):=by
 have hl2:=hl
 simp only [nA,nN] at hl2
 unfold sm1
 have hx0:gd (A ++ [x] ++ Y ++ B) a=x:=by rw [gd_X (by omega) (by simp;omega),ha,Nat.sub_self];rfl
 have hy:∀ i,m <= i->i < b->gd (A ++ [x] ++ Y ++ B) i=gd Y (i - m):=fun i h1 h2=>by
  rw [gd_Y (by simp;omega) (by simp;omega)]
  exact wKA (by simp;omega)
 obtain ⟨k,k1,k2,k3,k4,k5⟩:=wHk (body:=fun (x14,x15) =>
   if x14 < x15 then
    (chk (w64 ((wAf (w64 (x14 + x15))) / 2)) (A ++ [x] ++ Y ++ B).length).bind fun _ =>
    (chk (a:Int) (A ++ [x] ++ Y ++ B).length).bind fun _ =>
    (c ((gd (A ++ [x] ++ Y ++ B) (w64 ((wAf (w64 (x14 + x15))) / 2)).toNat),(gd (A ++ [x] ++ Y ++ B) (a:Int).toNat))).bind fun x43 =>
    if x43 < 0 then
     some (.inl (w64 ((w64 ((wAf (w64 (x14 + x15))) / 2)) + 1),x15))
    else
     some (.inl (x14,w64 ((wAf (w64 (x14 + x15))) / 2)))
   else
    esc (some x14)) (fun h=>decide (K (gd Y (h - m)) < K x)) (lo:=m) (hi:=b) (by omega) (by omega) (fun i j h1 h2 h3 h4=>by
    have h4:K (gd Y (j - m)) < K x:=by simpa using h4
    have:=wKC ho (i:=i - m) (j:=j - m) (by omega) (by omega)
    simpa using (by omega:K (gd Y (i - m)) < K x)) (fun i j h1 h2 h3=>by
    have hh:(i + j) / 2 - m < Y.length:=by omega
    have hin:=hY _ (wBH hh)
    simp only
    rw [if_pos (by omega),wJF (by omega),wBJ (by omega) (by simp only [nA,nN];omega),hH,wBJ (by omega) (by simp only [nA,nN];omega),hH]
    simp only [nB]
    rw [hx0,hy _ (by omega) (by omega)]
    obtain ⟨v,hv,hv2⟩:=hc (gd Y ((i + j) / 2 - m)) x hin.1 hin.2 hx.1 hx.2
    rw [hv,hH]
    by_cases g:K (gd Y ((i + j) / 2 - m)) < K x
    ·rw [if_pos (hv2.2 g),if_pos (by simpa using g),wGS (by omega)]
    ·rw [if_neg (fun h=>g (hv2.1 h)),if_neg (by simpa using g)]) (fun i h1 h2=>by
    simp only
    rw [if_neg (by omega)]
    rfl)
 rw [k3,hH,wJD (by omega) (by omega)]
 obtain ⟨j,rfl⟩:∃ j,k=m + j:=⟨k - m,by omega⟩
 have hj:j <= Y.length:=by omega
 refine ⟨Y.take j ++ x :: Y.drop j,?_,?_,?_⟩
 ·refine wKt (m:=j) (fun i=>(A ++ Y.take i ++ x :: (Y.drop i ++ B),((a + i:Nat):Int))) (fun i hi=>?_) ?_ (by simp) (by omega)
  ·have e:(A ++ Y.take i).length=a + i:=by rw [nA,nK];omega
   have e2:Y.drop i ++ B=gd Y i :: (Y.drop (i + 1) ++ B):=by rw [wHg (by omega)];rfl
   obtain ⟨s1,s2,_,s4⟩:=wJE (A ++ Y.take i) (Y.drop (i + 1) ++ B) x (gd Y i)
   rw [e] at s1 s2 s4
   have hll:(A ++ Y.take i ++ x :: gd Y i :: (Y.drop (i + 1) ++ B)).length <= 1000/\a + i + 2 <= (A ++ Y.take i ++ x :: gd Y i :: (Y.drop (i + 1) ++ B)).length:=by
    rw [nA,e];simp only [nG,nA,nS];omega
   simp only
   rw [if_pos (by omega),e2,wGS (by omega),wBJ (by omega) (by omega),hH,wBJ (by omega) (by omega),hH,wBJ (by omega) (by rw [nh];omega),hH]
   simp only [nB]
   rw [s1,s2,s4,wDk (by omega)]
   simp [Nat.add_assoc]
  ·simp only
   rw [if_neg (by omega)]
   simp
 ·simp only [List.singleton_append]
  refine (List.perm_middle).trans ?_
  rw [nE]
 ·rw [<- nE j Y,nO] at ho
  rw [nO,kA]
  refine ⟨ho.1,⟨fun y hy=>?_,ho.2.1⟩,fun y hy z hz=>?_⟩
  ·obtain ⟨i,hi,e⟩:=nI hy
   rw [nS] at hi
   have h5:=k5 (m + (j + i)) (by omega) (by omega)
   rw [show m + (j + i) - m=j + i by omega] at h5
   have e':gd Y (j + i)=y:=by rw [wEB (by omega),<- e,nb]
   rw [e'] at h5
   have h5:¬ K y < K x:=by simpa using h5
   exact Lr.of (by omega) (hlt y (List.mem_of_mem_drop hy))
  ·rcases nv.1 hz with e0 | hz
   ·rw [e0]
    obtain ⟨i,hi,e⟩:=nI hy
    rw [nK] at hi
    have h4:=k4 (m + i) (by omega) (by omega)
    rw [show m + i - m=i by omega] at h4
    have e':gd Y i=y:=by rw [wEB (by omega),<- e,nc]
    rw [e'] at h4
    exact .inl (by simpa using h4)
   ·exact ho.2.2 y hy z hz
theorem wTz {K:Int->Int} {n:Int} {c:(Int × Int)->Option Int} (hc:ByK K n c) {A X B:List Int} {y:Int} (hy:0 <= y/\y < n) (hX:In n X) (hlt:∀ x ∈ X,x < y) (ho:X.Pairwise (Lr K)) (hl:(A ++ X ++ [y] ++ B).length <= 1000) {a m b:Nat} (ha:A.length=a) (hm:a + X.length=m) (hb:m + 1=b) :
    ∃ Z,sm2 (A ++ X ++ [y] ++ B) (a:Int) (m:Int) (b:Int) c=some (A ++ Z ++ B)/\Z.Perm (X ++ [y])/\Z.Pairwise (Lr K):=by
  have hl2:=hl
  simp only [nA,nN] at hl2
  unfold sm2
  have hy0:gd (A ++ X ++ [y] ++ B) m=y:=by rw [gd_Y (by omega) (by simp;omega),show m - (A.length + X.length)=0 by omega];rfl
  have hx:∀ i,a <= i->i < m->gd (A ++ X ++ [y] ++ B) i=gd X (i - a):=fun i h1 h2=>by rw [gd_X (by omega) (by omega),ha]
  obtain ⟨k,k1,k2,k3,k4,k5⟩:=wHk (body:=fun (x137,x138) =>
        if x137 < x138 then
          (chk (m:Int) (A ++ X ++ [y] ++ B).length).bind fun _ =>
          (chk (w64 ((wAf (w64 (x137 + x138))) / 2)) (A ++ X ++ [y] ++ B).length).bind fun _ =>
          (c ((gd (A ++ X ++ [y] ++ B) (m:Int).toNat),(gd (A ++ X ++ [y] ++ B) (w64 ((wAf (w64 (x137 + x138))) / 2)).toNat))).bind fun x166 =>
          if x166 < 0 then
            some (.inl (x137,w64 ((wAf (w64 (x137 + x138))) / 2)))
          else
            some (.inl (w64 ((w64 ((wAf (w64 (x137 + x138))) / 2)) + 1),x138))
        else
          esc (some x137)) (fun h=>decide (K (gd X (h - a)) <= K y)) (lo:=a) (hi:=m) (by omega) (by omega) (fun i j h1 h2 h3 h4=>by
        have h4:K (gd X (j - a)) <= K y:=by simpa using h4
        have:=wKC ho (i:=i - a) (j:=j - a) (by omega) (by omega)
        simpa using (by omega:K (gd X (i - a)) <= K y)) (fun i j h1 h2 h3=>by
        have hh:(i + j) / 2 - a < X.length:=by omega
        have hin:=hX _ (wBH hh)
        simp only
        rw [if_pos (by omega),wJF (by omega),wBJ (by omega) (by simp only [nA,nN];omega),hH,wBJ (by omega) (by simp only [nA,nN];omega),hH]
        simp only [nB]
        rw [hy0,hx _ (by omega) (by omega)]
        obtain ⟨v,hv,hv2⟩:=hc y (gd X ((i + j) / 2 - a)) hy.1 hy.2 hin.1 hin.2
        rw [hv,hH]
        by_cases g:K y < K (gd X ((i + j) / 2 - a))
        · rw [if_pos (hv2.2 g),if_neg (by simpa using g)]
        · rw [if_neg (fun h=>g (hv2.1 h)),if_pos (by simpa using g),wGS (by omega)]) (fun i h1 h2=>by
        simp only
        rw [if_neg (by omega)]
        rfl)
  rw [k3,hH]
  obtain ⟨j,rfl⟩:∃ j,k=a + j:=⟨k - a,by omega⟩
  have hj:j <= X.length:=by omega
  refine ⟨X.take j ++ y :: X.drop j,?_,?_,?_⟩
  · refine wKt (m:=X.length - j) (fun i=>(A ++ X.take (X.length - i) ++ y :: (X.drop (X.length - i) ++ B),((m - i:Nat):Int))) (fun i hi=>?_) ?_ (by simp) (by omega)
    · obtain ⟨q,hq⟩:∃ q,X.length - i=q + 1:=⟨X.length - i - 1,by omega⟩
      have hq1:X.length - (i + 1)=q:=by omega
      have e:(A ++ X.take q).length=a + q:=by rw [nA,nK];omega
      obtain ⟨s1,s2,s3,_⟩:=wJE (A ++ X.take q) (X.drop (q + 1) ++ B) (gd X q) y
      rw [e] at s1 s2 s3
      have e2:A ++ X.take (q + 1) ++ y :: (X.drop (q + 1) ++ B)=A ++ X.take q ++ gd X q :: y :: (X.drop (q + 1) ++ B):=by rw [wDk (by omega)];simp
      have hll:a + q + 2 <= (A ++ X.take q ++ gd X q :: y :: (X.drop (q + 1) ++ B)).length:=by rw [nA,e];simp only [nG];omega
      have em:m - i=a + q + 1:=by omega
      simp only
      rw [hq,hq1,e2,em,if_pos (by omega),wJD (by omega) (by omega),wBJ (by omega) (by omega),hH,wBJ (by omega) (by omega),hH,wBJ (by omega) (by rw [nh];omega),hH]
      simp only [nB,Nat.add_sub_cancel]
      rw [s1,s2,s3,show m - (i + 1)=a + q by omega,wHg (l:=X) (k:=q) (by omega)]
      rfl
    · simp only
      rw [show X.length - (X.length - j)=j by omega,if_neg (by omega)]
      simp
  · refine (List.perm_middle).trans ?_
    rw [nE]
    exact (List.perm_append_singleton y X).symm
  · rw [<- nE j X,nO] at ho
    rw [nO,kA]
    refine ⟨ho.1,⟨fun x hx=>?_,ho.2.1⟩,fun x hx z hz=>?_⟩
    · obtain ⟨i,hi,e⟩:=nI hx
      rw [nS] at hi
      have h5:=k5 (a + (j + i)) (by omega) (by omega)
      rw [show a + (j + i) - a=j + i by omega] at h5
      have e':gd X (j + i)=x:=by rw [wEB (by omega),<- e,nb]
      rw [e'] at h5
      exact .inl (by simpa using h5)
    · rcases nv.1 hz with e0 | hz
      · rw [e0]
        obtain ⟨i,hi,e⟩:=nI hx
        rw [nK] at hi
        have h4:=k4 (a + i) (by omega) (by omega)
        rw [show a + i - a=i by omega] at h4
        have e':gd X i=x:=by rw [wEB (by omega),<- e,nc]
        rw [e'] at h4
        exact Lr.of (by simpa using h4) (hlt x (List.mem_of_mem_take hx))
      · exact ho.2.2 x hx z hz
end Go.Proofs.YtkedcbligiebkaaGreat
namespace Go.Proofs.YtkedcbligiebkaaGreat
open Go.KL
abbrev Rec:=(List Int)->Int->Int->Int->((Int × Int)->Option Int)->Option ((List Int))
def wLw (K:Int->Int) (n:Int) (c:(Int × Int)->Option Int) (r:Rec) (N:Nat):Prop:=∀ A X Y B:List Int,0 < X.length->0 < Y.length->In n X->In n Y->(∀ x ∈ X,∀ y ∈ Y,x < y)->X.Pairwise (Lr K)->Y.Pairwise (Lr K)->(A ++ X ++ Y ++ B).length <= 1000->X.length + Y.length < N ->
 ∃ Z,r (A ++ X ++ Y ++ B) ((A.length:Nat):Int) ((A.length + X.length:Nat):Int) ((A.length + X.length + Y.length:Nat):Int) c=some (A ++ Z ++ B)/\Z.Perm (X ++ Y)/\Z.Pairwise (Lr K)
theorem wLx {K:Int->Int} {n:Int} {c:(Int × Int)->Option Int} {r:Rec} {N:Nat} (H:wLw K n c r N) {A X Y B:List Int} (hX:In n X) (hY:In n Y) (hlt:∀ x ∈ X,∀ y ∈ Y,x < y) (oX:X.Pairwise (Lr K)) (oY:Y.Pairwise (Lr K)) (hl:(A ++ X ++ Y ++ B).length <= 1000) (hN:X.length + Y.length < N) {a k m:Nat} (ha:A.length=a) (hk:a + X.length=k) (hm:k + Y.length=m) (R:List Int->Option (List Int)) :
  ∃ Z,(if (a:Int) < (k:Int) then (if (k:Int) < (m:Int) then (r (A ++ X ++ Y ++ B) (a:Int) (k:Int) (m:Int) c).bind R else R (A ++ X ++ Y ++ B)) else R (A ++ X ++ Y ++ B))=R (A ++ Z ++ B)/\Z.Perm (X ++ Y)/\Z.Pairwise (Lr K):=by
 by_cases h1:(a:Int) < (k:Int)
 ·rw [if_pos h1]
  by_cases h2:(k:Int) < (m:Int)
  ·rw [if_pos h2]
   obtain ⟨Z,e,p,o⟩:=H A X Y B (by omega) (by omega) hX hY hlt oX oY hl hN
   rw [ha,hk,hm] at e
   exact ⟨Z,by rw [e,hH],p,o⟩
  ·rw [if_neg h2]
   have:Y=[]:=nJ (by omega)
   subst this
   exact ⟨X,by simp,by simp,oX⟩
 ·rw [if_neg h1]
  have:X=[]:=nJ (by omega)
  subst this
  exact ⟨Y,by simp,by simp,oY⟩
theorem wUA {K:Int->Int} {n:Int} {c:(Int × Int)->Option Int} {r:Rec} {N:Nat} (H:wLw K n c r N) {A X1 X2 Y1 Y2 B:List Int} (hX:In n (X1 ++ X2)) (hY:In n (Y1 ++ Y2)) (hlt:∀ x ∈ X1 ++ X2,∀ y ∈ Y1 ++ Y2,x < y) (oX:(X1 ++ X2).Pairwise (Lr K)) (oY:(Y1 ++ Y2).Pairwise (Lr K))
  (o12:∀ x ∈ X1,∀ y ∈ Y2,Lr K x y) (o21:∀ y ∈ Y1,∀ x ∈ X2,Lr K y x) (hl:(A ++ X1 ++ Y1 ++ X2 ++ Y2 ++ B).length <= 1000) (hN1:X1.length + Y1.length < N) (hN2:X2.length + Y2.length < N) {a k mid e b:Nat} (ha:A.length=a) (hk:a + X1.length=k) (hm:k + Y1.length=mid) (he:mid + X2.length=e) (hb:e + Y2.length=b) :
  ∃ Z,smT r (A ++ X1 ++ Y1 ++ X2 ++ Y2 ++ B) (a:Int) (b:Int) (mid:Int) (e:Int) (k:Int) c=some (A ++ Z ++ B)/\Z.Perm ((X1 ++ X2) ++ (Y1 ++ Y2))/\Z.Pairwise (Lr K):=by
 rw [nO] at oX oY
 have T:∀ l:List Int,smT r l (a:Int) (b:Int) (mid:Int) (e:Int) (k:Int) c=if (a:Int) < (k:Int) then (if (k:Int) < (mid:Int) then (r l (a:Int) (k:Int) (mid:Int) c).bind (fun l=>if (mid:Int) < (e:Int) then (if (e:Int) < (b:Int) then (r l (mid:Int) (e:Int) (b:Int) c).bind some else some l) else some l) else (fun l=>if (mid:Int) < (e:Int) then (if (e:Int) < (b:Int) then (r l (mid:Int) (e:Int) (b:Int) c).bind some else some l) else some l) l) else (fun l=>if (mid:Int) < (e:Int) then (if (e:Int) < (b:Int) then (r l (mid:Int) (e:Int) (b:Int) c).bind some else some l) else some l) l:=fun l=>rfl
 obtain ⟨Z1,e1,p1,o1⟩:=wLx H (A:=A) (X:=X1) (Y:=Y1) (B:=X2 ++ Y2 ++ B) (fun x hx=>hX x (nV _ hx)) (fun y hy=>hY y (nV _ hy)) (fun x hx y hy=>hlt x (nV _ hx) y (nV _ hy)) oX.1 oY.1 (by simpa only [nD] using hl) hN1 ha hk hm (fun l=>if (mid:Int) < (e:Int) then (if (e:Int) < (b:Int) then (r l (mid:Int) (e:Int) (b:Int) c).bind some else some l) else some l)
 have hZ1:Z1.length=X1.length + Y1.length:=by rw [p1.length_eq,nA]
 have hl2:=hl
 simp only [nA] at hl2
 obtain ⟨Z2,e2,p2,o2⟩:=wLx H (A:=A ++ Z1) (X:=X2) (Y:=Y2) (B:=B) (fun x hx=>hX x (nU _ hx)) (fun y hy=>hY y (nU _ hy)) (fun x hx y hy=>hlt x (nU _ hx) y (nU _ hy)) oX.2.1 oY.2.1 (by simp only [nA];omega) hN2 (a:=mid) (by rw [nA];omega) he hb some
 refine ⟨Z1 ++ Z2,?_,?_,?_⟩
 ·rw [T]
  have q:A ++ X1 ++ Y1 ++ X2 ++ Y2 ++ B=A ++ X1 ++ Y1 ++ (X2 ++ Y2 ++ B):=by simp only [nD]
  rw [q,e1]
  have q2:A ++ Z1 ++ (X2 ++ Y2 ++ B)=A ++ Z1 ++ X2 ++ Y2 ++ B:=by simp only [nD]
  rw [q2,e2]
  simp only [nD]
 ·refine (p1.append p2).trans ?_
  rw [nD,nD]
  refine List.Perm.append_left _ ?_
  rw [<- nD,<- nD]
  exact List.Perm.append_right _ List.perm_append_comm
 ·rw [nO]
  refine ⟨o1,o2,fun x hx y hy=>?_⟩
  rcases nr.1 (p1.mem_iff.1 hx) with hx | hx <;> rcases nr.1 (p2.mem_iff.1 hy) with hy | hy
  ·exact oX.2.2 x hx y hy
  ·exact o12 x hx y hy
  ·exact o21 x hx y hy
  ·exact oY.2.2 x hx y hy
theorem wUB {K:Int->Int} {n:Int} {c:(Int × Int)->Option Int} {r:Rec} {N:Nat} (H:wLw K n c r N) {A X1 X2 Y1 Y2 B:List Int} (hX:In n (X1 ++ X2)) (hY:In n (Y1 ++ Y2)) (hlt:∀ x ∈ X1 ++ X2,∀ y ∈ Y1 ++ Y2,x < y) (oX:(X1 ++ X2).Pairwise (Lr K)) (oY:(Y1 ++ Y2).Pairwise (Lr K))
  (o12:∀ x ∈ X1,∀ y ∈ Y2,Lr K x y) (o21:∀ y ∈ Y1,∀ x ∈ X2,Lr K y x) (hl:(A ++ X1 ++ X2 ++ Y1 ++ Y2 ++ B).length <= 1000) (hN1:X1.length + Y1.length < N) (hN2:X2.length + Y2.length < N) {a k m mid e b:Nat} (ha:A.length=a) (hk:a + X1.length=k) (hm:k + X2.length=m) (hmid:k + Y1.length=mid) (he:m + Y1.length=e) (hb:e + Y2.length=b) :
  ∃ Z,smR r (A ++ X1 ++ X2 ++ Y1 ++ Y2 ++ B) (a:Int) (m:Int) (b:Int) (mid:Int) (e:Int) (k:Int) c=some (A ++ Z ++ B)/\Z.Perm ((X1 ++ X2) ++ (Y1 ++ Y2))/\Z.Pairwise (Lr K):=by
 have hl2:=hl
 simp only [nA] at hl2
 obtain ⟨Z,e1,p,o⟩:=wUA H (A:=A) (B:=B) hX hY hlt oX oY o12 o21 (by simp only [nA];omega) hN1 hN2 ha hk hmid (e:=e) (by omega) hb
 refine ⟨Z,?_,p,o⟩
 rw [<- e1]
 unfold smR
 by_cases h1:k < m
 ·rw [if_pos (by omega),hH]
  by_cases h2:m < e
  ·rw [if_pos (by simp;omega)]
   have q:A ++ X1 ++ X2 ++ Y1 ++ Y2 ++ B=(A ++ X1) ++ X2 ++ Y1 ++ (Y2 ++ B):=by simp only [nD]
   have q2:A ++ X1 ++ Y1 ++ X2 ++ Y2 ++ B=(A ++ X1) ++ Y1 ++ X2 ++ (Y2 ++ B):=by simp only [nD]
   rw [q,wOv (A:=A ++ X1) (a:=k) (m:=m) (b:=e) (by rw [nA];omega) (by rw [nA];omega) (by rw [nA];omega) (by omega) (by omega) (by rw [<- q];exact hl),hH,q2]
  ·rw [if_neg (by simp;omega)]
   have:Y1=[]:=nJ (by omega)
   subst this
   simp
 ·rw [if_neg (by omega),hH,if_neg (by simp)]
  have:X2=[]:=nJ (by omega)
  subst this
  simp
theorem wQo {K:Int->Int} {n:Int} {c:(Int × Int)->Option Int} (hc:ByK K n c) {A X Y B:List Int} (hX:In n X) (hY:In n Y) (oX:X.Pairwise (Lr K)) (oY:Y.Pairwise (Lr K)) (hl:(A ++ X ++ Y ++ B).length <= 1000) {a m b lo hi p:Nat} (ha:A.length=a) (hm:a + X.length=m) (hb:m + Y.length=b) (h1:a <= lo) (h2:lo <= hi) (h3:hi <= m) (hp:∀ i,lo <= i->i < hi->i <= p/\m <= p - i/\p - i < b) :
  ∃ k:Nat,lo <= k/\k <= hi/\iter (smS (A ++ X ++ Y ++ B) (p:Int) c) big ((lo:Int),(hi:Int))=some (k:Int)/\(∀ i,lo <= i->i < k->K (gd X (i - a)) <= K (gd Y (p - i - m)))/\(∀ i,k <= i->i < hi->K (gd Y (p - i - m)) < K (gd X (i - a))):=by
 have hl2:=hl
 simp only [nA] at hl2
 have gx:∀ i,a <= i->i < m->gd (A ++ X ++ Y ++ B) i=gd X (i - a):=fun i g1 g2=>by rw [gd_X (by omega) (by omega),ha]
 have gy:∀ i,m <= i->i < b->gd (A ++ X ++ Y ++ B) i=gd Y (i - m):=fun i g1 g2=>by rw [gd_Y (by omega) (by omega)];exact wKA (by omega)
 obtain ⟨k,k1,k2,k3,k4,k5⟩:=wHk (body:=smS (A ++ X ++ Y ++ B) (p:Int) c) (fun i=>decide (K (gd X (i - a)) <= K (gd Y (p - i - m)))) h2 (by omega) (fun i j g1 g2 g3 g4=>by
  have g4:K (gd X (j - a)) <= K (gd Y (p - j - m)):=by simpa using g4
  have q1:=hp i g1 (by omega)
  have q2:=hp j (by omega) g3
  have l1:=wKC oX (i:=i - a) (j:=j - a) (by omega) (by omega)
  have l2:=wKC oY (i:=p - j - m) (j:=p - i - m) (by omega) (by omega)
  simpa using (by omega:K (gd X (i - a)) <= K (gd Y (p - i - m)))) (fun i j g1 g2 g3=>by
  obtain ⟨q0,q1,q2⟩:=hp ((i + j) / 2) (by omega) (by omega)
  have hx:(i + j) / 2 - a < X.length:=by omega
  have hy:p - (i + j) / 2 - m < Y.length:=by omega
  have ix:=hX _ (wBH hx)
  have iy:=hY _ (wBH hy)
  unfold smS
  simp only
  have hpb:p <= 1000000:=by omega
  rw [if_pos (by omega),wJF (by omega),wDQ (by omega) hpb,wBJ (by omega) (by simp only [nA];omega),hH,wBJ (by omega) (by simp only [nA];omega),hH]
  simp only [nB]
  rw [gx ((i + j) / 2) (by omega) (by omega),gy (p - (i + j) / 2) q1 q2]
  obtain ⟨v,hv,hv2⟩:=hc (gd Y (p - (i + j) / 2 - m)) (gd X ((i + j) / 2 - a)) iy.1 iy.2 ix.1 ix.2
  rw [hv,hH]
  by_cases g:K (gd Y (p - (i + j) / 2 - m)) < K (gd X ((i + j) / 2 - a))
  ·rw [if_pos (hv2.2 g),if_neg (by simpa using g)]
  ·rw [if_neg (fun h=>g (hv2.1 h)),if_pos (by simpa using g),wGS (by omega)]) (fun i g1 g2=>by
  unfold smS
  simp only
  rw [if_neg (by omega)]
  rfl)
 exact ⟨k,k1,k2,k3,fun i g1 g2=>by simpa using k4 i g1 g2,fun i g1 g2=>by simpa using k5 i g1 g2⟩
theorem wUC {K:Int->Int} {n:Int} {c:(Int × Int)->Option Int} (hc:ByK K n c):∀ F:Nat,wLw K n c (wAQ F) (F + 1):=by
 intro F
 induction F with
 | zero=>intro A X Y B h1 h2 _ _ _ _ _ _ h;omega
 | succ F ih =>
  intro A X Y B hx0 hy0 hX hY hlt oX oY hl hF
  show ∃ Z,wAt (wAQ F) _ _ _ _ _=_/\_
  rw [wMg]
  have hl2:=hl
  simp only [nA] at hl2
  generalize ha:A.length=a at *
  generalize hm:a + X.length=m at *
  generalize hb:m + Y.length=b at *
  rw [wDQ (a:=m) (b:=a) (by omega) (by omega),wDQ (a:=b) (b:=m) (by omega) (by omega)]
  by_cases c1:X.length=1
  ·rw [if_pos (by omega)]
   obtain ⟨x,rfl⟩:=nt.1 c1
   exact wTy hc (hX x (by simp)) hY (fun y hy=>hlt x (by simp) y hy) oY hl ha (by simpa using hm) hb
  rw [if_neg (by omega)]
  by_cases c2:Y.length=1
  ·rw [if_pos (by omega)]
   obtain ⟨y,rfl⟩:=nt.1 c2
   exact wTz hc (hY y (by simp)) hX (fun x hx=>hlt x hx y (by simp)) oX hl ha hm (by simpa using hb)
  rw [if_neg (by omega),wJF (by omega)]
  generalize hmid:(a + b) / 2=mid at *
  rw [wEb (a:=mid) (b:=m) (by omega),wJD (a:=mid + m) (by omega) (by omega)]
  have fin:∀ k:Nat,a <= k->k <= m->m + k <= mid + m->mid + m <= b + k->(a < k->mid + m < b + k->K (gd X (k - 1 - a)) <= K (gd Y (mid + m - k - m)))->(k < m->k < mid->K (gd Y (mid + m - 1 - k - m)) < K (gd X (k - a))) ->
    ∃ Z,smR (wAQ F) (A ++ X ++ Y ++ B) (a:Int) (m:Int) (b:Int) (mid:Int) (w64 (((mid + m:Nat):Int) - (k:Int))) (k:Int) c=some (A ++ Z ++ B)/\Z.Perm (X ++ Y)/\Z.Pairwise (Lr K):=by
   intro k k1 k2 k3 k4 k5 k6
   rw [wDQ (by omega) (by omega)]
   have ex:X=X.take (k - a) ++ X.drop (k - a):=(nE ..).symm
   have ey:Y=Y.take (mid - k) ++ Y.drop (mid - k):=(nE ..).symm
   have lx1:(X.take (k - a)).length=k - a:=by rw [nK];omega
   have lx2:(X.drop (k - a)).length=m - k:=by rw [nS];omega
   have ly1:(Y.take (mid - k)).length=mid - k:=by rw [nK];omega
   have ly2:(Y.drop (mid - k)).length=Y.length - (mid - k):=by rw [nS]
   have mx1:∀ x ∈ X.take (k - a),∃ i,i < k - a/\gd X i=x:=fun x hx=>by
    obtain ⟨i,hi,e⟩:=nI hx
    rw [lx1] at hi
    exact ⟨i,hi,by rw [wEB (by omega),<- e,nc]⟩
   have mx2:∀ x ∈ X.drop (k - a),∃ i,k - a <= i/\i < X.length/\gd X i=x:=fun x hx=>by
    obtain ⟨i,hi,e⟩:=nI hx
    rw [lx2] at hi
    exact ⟨k - a + i,by omega,by omega,by rw [wEB (by omega),<- e,nb]⟩
   have my1:∀ y ∈ Y.take (mid - k),∃ i,i < mid - k/\gd Y i=y:=fun y hy=>by
    obtain ⟨i,hi,e⟩:=nI hy
    rw [ly1] at hi
    exact ⟨i,hi,by rw [wEB (by omega),<- e,nc]⟩
   have my2:∀ y ∈ Y.drop (mid - k),∃ i,mid - k <= i/\i < Y.length/\gd Y i=y:=fun y hy=>by
    obtain ⟨i,hi,e⟩:=nI hy
    rw [ly2] at hi
    exact ⟨mid - k + i,by omega,by omega,by rw [wEB (by omega),<- e,nb]⟩
   obtain ⟨Z,e,p,o⟩:=wUB ih (A:=A) (X1:=X.take (k - a)) (X2:=X.drop (k - a)) (Y1:=Y.take (mid - k)) (Y2:=Y.drop (mid - k)) (B:=B) (by rwa [<- ex]) (by rwa [<- ey]) (by rwa [<- ex,<- ey]) (by rwa [<- ex]) (by rwa [<- ey]) (fun x hx y hy=>by
     obtain ⟨i,i1,rfl⟩:=mx1 x hx
     obtain ⟨j,j1,j2,rfl⟩:=my2 y hy
     have h5:=k5 (by omega) (by omega)
     have l1:=wKC oX (i:=i) (j:=k - 1 - a) (by omega) (by omega)
     have l2:=wKC oY (i:=mid + m - k - m) (j:=j) (by omega) j2
     exact Lr.of (by omega) (hlt _ (wBH (by omega)) _ (wBH j2))) (fun y hy x hx=>by
     obtain ⟨i,i1,i2,rfl⟩:=mx2 x hx
     obtain ⟨j,j1,rfl⟩:=my1 y hy
     have h6:=k6 (by omega) (by omega)
     have l1:=wKC oX (i:=k - a) (j:=i) (by omega) i2
     have l2:=wKC oY (i:=j) (j:=mid + m - 1 - k - m) (by omega) (by omega)
     exact .inl (by omega)) (by
     have:A ++ X.take (k - a) ++ X.drop (k - a) ++ Y.take (mid - k) ++ Y.drop (mid - k) ++ B=A ++ X ++ Y ++ B:=by rw [nD A,<- ex,nD (A ++ X),<- ey]
     rw [this];exact hl) (by omega) (by omega) ha (k:=k) (m:=m) (mid:=mid) (e:=mid + m - k) (b:=b) (by omega) (by omega) (by omega) (by omega) (by omega)
   have q:A ++ X.take (k - a) ++ X.drop (k - a) ++ Y.take (mid - k) ++ Y.drop (mid - k) ++ B=A ++ X ++ Y ++ B:=by rw [nD A,<- ex,nD (A ++ X),<- ey]
   rw [q] at e
   rw [<- ex,<- ey] at p
   exact ⟨Z,e,p,o⟩
  by_cases c3:mid < m
  ·rw [if_pos (by omega),wDQ (a:=mid + m) (b:=b) (by omega) (by omega)]
   obtain ⟨k,k1,k2,k3,k4,k5⟩:=wQo hc hX hY oX oY hl ha hm hb (lo:=mid + m - b) (hi:=mid) (p:=mid + m - 1) (by omega) (by omega) (by omega) (fun i g1 g2=>by omega)
   rw [k3,hH]
   refine fin k (by omega) (by omega) (by omega) (by omega) (fun g1 g2=>?_) (fun g1 g2=>k5 k (by omega) g2)
   have:=k4 (k - 1) (by omega) (by omega)
   rwa [show mid + m - 1 - (k - 1) - m=mid + m - k - m by omega] at this
  ·rw [if_neg (by omega)]
   obtain ⟨k,k1,k2,k3,k4,k5⟩:=wQo hc hX hY oX oY hl ha hm hb (lo:=a) (hi:=m) (p:=mid + m - 1) (by omega) (by omega) (by omega) (fun i g1 g2=>by omega)
   rw [k3,hH]
   refine fin k (by omega) (by omega) (by omega) (by omega) (fun g1 g2=>?_) (fun g1 g2=>k5 k (by omega) g1)
   have:=k4 (k - 1) (by omega) (by omega)
   rwa [show mid + m - 1 - (k - 1) - m=mid + m - k - m by omega] at this
end Go.Proofs.YtkedcbligiebkaaGreat
namespace Go.Proofs.YtkedcbligiebkaaGreat
open Go.KL
def seg (l:List Int) (i j:Nat):List Int:=(l.drop i).take (j - i)
def rng (i j:Nat):List Int:=(nu (j - i)).map fun (k:Nat)=>((i + k:Nat):Int)
theorem wLy {i j:Nat}:∀ x ∈ rng i j,(i:Int) <= x/\x < j:=by
 intro x hx
 obtain ⟨k,hk,rfl⟩:=kB.1 hx
 have:=na.1 hk
 omega
theorem wUD (i j:Nat):(rng i j).Pairwise (· < ·):=by
 unfold rng
 rw [List.pairwise_map]
 exact List.pairwise_lt_range.imp fun h=>by omega
theorem wGT (i j:Nat):(rng i j).length=j - i:=by simp [rng]
theorem wOw {a m b:Nat} (h1:a <= m) (h2:m <= b):rng a m ++ rng m b=rng a b:=by
 unfold rng
 rw [show b - a=(m - a) + (b - m) by omega,List.range_add,ni,List.map_map]
 congr 1
 refine nY fun k _=>?_
 simp only [Function.comp_apply]
 omega
theorem wJG {l:List Int} {i j:Nat} (h:j <= l.length):(seg l i j).length=j - i:=by
 unfold seg;rw [nK,nS];omega
theorem wHl {l:List Int} {a b:Nat} (h1:a <= b):l=l.take a ++ seg l a b ++ l.drop b:=by
 unfold seg
 rw [nD]
 conv=>lhs;rw [<- nE a l]
 congr 1
 conv=>lhs;rw [<- nE (b - a) (l.drop a)]
 congr 1
 rw [List.drop_drop]
 congr 1
 omega
theorem wMh {l:List Int} {a m b:Nat} (h1:a <= m) (h2:m <= b):l=l.take a ++ seg l a m ++ seg l m b ++ l.drop b:=by
 conv=>lhs;rw [wHl (l:=l) h2]
 congr 1
 congr 1
 unfold seg
 conv=>lhs;rw [<- nE a (l.take m)]
 rw [List.take_take,nT h1,List.drop_take]
theorem wOx {A Z Z' B:List Int} (h:Z.length=Z'.length) {i j:Nat} (hij:j <= A.length \/ A.length + Z.length <= i):seg (A ++ Z ++ B) i j=seg (A ++ Z' ++ B) i j:=by
 unfold seg
 apply kD
 intro t
 rw [nj,nj]
 split
 ·rw [nk,nk]
  rcases hij with g | g
  ·rw [nR (by simp;omega),nR (by omega),nR (by simp;omega),nR (by omega)]
  ·rw [nl (by simp;omega),nl (by simp;omega)]
   congr 1
   simp only [nA]
   omega
 ·rfl
theorem wOy {A Z B:List Int} {a b:Nat} (ha:A.length=a) (hb:a + Z.length=b):seg (A ++ Z ++ B) a b=Z:=by
 unfold seg
 rw [nD,<- ha,List.drop_left,List.take_append_of_le_length (by omega),nf (by omega)]
def Srt (K:Int->Int) (l:List Int) (i j:Nat):Prop:=(seg l i j).Perm (rng i j)/\(seg l i j).Pairwise (Lr K)
theorem wIZ {K:Int->Int} {n:Nat} {c:(Int × Int)->Option Int} (hc:ByK K n c) {l:List Int} (hl:l.length=n) (hn:n <= 64) {a b:Nat} (hab:a <= b) (hb:b <= n) (hs:seg l a b=rng a b) :
  ∃ l',wAV l (a:Int) (b:Int) c=some l'/\l'.length=n/\Srt K l' a b/\∀ i j,j <= a \/ b <= i->seg l' i j=seg l i j:=by
 have e:=wHl (l:=l) hab
 have la:(l.take a).length=a:=by rw [nK];omega
 have ls:=wJG (l:=l) (i:=a) (j:=b) (by omega)
 obtain ⟨Z,h1,h2,h3⟩:=wKB hc (A:=l.take a) (X:=seg l a b) (B:=l.drop b) (fun x hx=>by rw [hs] at hx;have:=wLy x hx;omega) (by rw [hs];exact wUD a b) (by rw [<- e];omega) (a:=a) (b:=b) la (by rw [la,ls];omega)
 have lz:Z.length=b - a:=by rw [h2.length_eq,ls]
 rw [<- e] at h1
 refine ⟨_,h1,?_,?_,fun i j hij=>?_⟩
 ·have:=congrArg List.length e
  simp only [nA] at this ⊢
  omega
 ·rw [Srt,wOy la (by omega)]
  exact ⟨by rw [<- hs];exact h2,h3⟩
 ·conv=>rhs;rw [e]
  exact wOx (by omega) (by omega)
theorem wKD {K:Int->Int} {n:Nat} {c:(Int × Int)->Option Int} (hc:ByK K n c) {l:List Int} (hl:l.length=n) (hn:n <= 64) {a m b:Nat} (ham:a < m) (hmb:m < b) (hb:b <= n) (h1:Srt K l a m) (h2:Srt K l m b) :
  ∃ l',wAQ 1000 l (a:Int) (m:Int) (b:Int) c=some l'/\l'.length=n/\Srt K l' a b/\∀ i j,j <= a \/ b <= i->seg l' i j=seg l i j:=by
 have e:=wMh (l:=l) (np ham) (np hmb)
 have e2:=wHl (l:=l) (a:=a) (b:=b) (by omega)
 have la:(l.take a).length=a:=by rw [nK];omega
 have l1:=wJG (l:=l) (i:=a) (j:=m) (by omega)
 have l2:=wJG (l:=l) (i:=m) (j:=b) (by omega)
 have l3:=wJG (l:=l) (i:=a) (j:=b) (by omega)
 have i1:∀ x ∈ seg l a m,(a:Int) <= x/\x < m:=fun x hx=>wLy x (h1.1.mem_iff.1 hx)
 have i2:∀ x ∈ seg l m b,(m:Int) <= x/\x < b:=fun x hx=>wLy x (h2.1.mem_iff.1 hx)
 obtain ⟨Z,g1,g2,g3⟩:=wUC hc 1000 (l.take a) (seg l a m) (seg l m b) (l.drop b) (by omega) (by omega) (fun x hx=>by have:=i1 x hx;omega) (fun x hx=>by have:=i2 x hx;omega) (fun x hx y hy=>by have:=i1 x hx;have:=i2 y hy;omega) h1.2 h2.2 (by rw [<- e];omega) (by omega)
 rw [<- e,la,l1,l2,show a + (m - a)=m by omega,show m + (b - m)=b by omega] at g1
 have lz:Z.length=b - a:=by rw [g2.length_eq,nA,l1,l2];omega
 refine ⟨_,g1,?_,?_,fun i j hij=>?_⟩
 ·have:=congrArg List.length e2
  simp only [nA] at this ⊢
  omega
 ·rw [Srt,wOy la (by omega)]
  refine ⟨?_,g3⟩
  rw [<- wOw (np ham) (np hmb)]
  exact g2.trans (h1.1.append h2.1)
 ·conv=>rhs;rw [e2]
  exact wOx (by omega) (by omega)
def Blk (K:Int->Int) (n bs:Nat) (l:List Int):Prop:=∀ s,bs * s < n->Srt K l (bs * s) (min (bs * s + bs) n)
theorem Srt.same {K:Int->Int} {l l':List Int} {i j:Nat} (h:Srt K l i j) (e:seg l' i j=seg l i j):Srt K l' i j:=by unfold Srt;rw [e];exact h
theorem wLA {K:Int->Int} {n:Nat} {c:(Int × Int)->Option Int} (hc:ByK K n c) (hn:n <= 64):∃ l a l',iter (fun (l16,x17,x18) =>
  if x18 <= (n:Int) then
   (wAV l16 x17 x18 c).bind fun x39 =>
   some (.inl (x39,x18,w64 (x18 + 20)))
  else
   esc (some (l16,x17))) big (rng 0 n,0,20)=some (l,a)/\wAV l a (n:Int) c=some l'/\l'.length=n/\Blk K n 20 l':=by
 obtain ⟨r,h1,l,t,rfl,h2,h3,h4,h5,h6⟩:=wEI (body:=fun (l16,x17,x18) =>
  if x18 <= (n:Int) then
   (wAV l16 x17 x18 c).bind fun x39 =>
   some (.inl (x39,x18,w64 (x18 + 20)))
  else
   esc (some (l16,x17))) (fun t s=>∃ l,s=(l,((20 * t:Nat):Int),((20 * t + 20:Nat):Int))/\l.length=n/\20 * t <= n/\(∀ s,s < t->Srt K l (20 * s) (20 * s + 20))/\(∀ i j,20 * t <= i->j <= n->seg l i j=rng i j))
  (fun r=>∃ l t,r=(l,((20 * t:Nat):Int))/\l.length=n/\20 * t <= n/\n < 20 * t + 20/\(∀ s,s < t->Srt K l (20 * s) (20 * s + 20))/\(∀ i j,20 * t <= i->j <= n->seg l i j=rng i j)) 4
  (fun t s ht ⟨l,hs,g1,g2,g3,g4⟩=>by
   subst hs
   simp only
   by_cases h:((20 * t + 20:Nat):Int) <= (n:Int)
   ·left
    obtain ⟨l',e1,e2,e3,e4⟩:=wIZ hc g1 hn (a:=20 * t) (b:=20 * t + 20) (by omega) (by omega) (g4 _ _ (nQ _) (by omega))
    have ew:w64 (((20 * t + 20:Nat):Int) + 20)=((20 * (t + 1) + 20:Nat):Int):=by
     have:=wEb (a:=20 * t + 20) (b:=20) (by omega)
     rw [show ((20:Nat):Int)=20 from rfl] at this
     rw [this]
     omega
    rw [if_pos h,e1,hH,ew]
    refine ⟨by omega,_,rfl,l',by rw [show 20 * t + 20=20 * (t + 1) by omega],e2,by omega,fun s hs=>?_,fun i j hi hj=>?_⟩
    ·by_cases c1:s=t
     ·rw [c1];exact e3
     ·exact (g3 s (by omega)).same (e4 _ _ (by omega))
    ·rw [e4 _ _ (by omega)]
     exact g4 i j (by omega) hj
   ·right
    rw [if_neg h]
    exact ⟨_,rfl,l,t,rfl,g1,g2,by omega,g3,g4⟩)
  (s0:=(rng 0 n,0,20)) ⟨rng 0 n,rfl,by rw [wGT];omega,by omega,fun s hs=>by omega,fun i j _ hj=>by
   unfold seg
   apply kD
   intro q
   rw [nj]
   split
   ·rw [nk]
    simp only [rng,List.getElem?_map]
    rw [nz (by omega),nz (by omega)]
    simp
   ·rw [List.getElem?_eq_none (by rw [wGT];omega)]⟩ (by omega)
 obtain ⟨l',e1,e2,e3,e4⟩:=wIZ hc h2 hn (a:=20 * t) (b:=n) h3 (nQ _) (h6 _ _ (nQ _) (nQ _))
 refine ⟨l,_,l',h1,e1,e2,fun s hs=>?_⟩
 by_cases c1:s=t
 ·rw [c1,nW (by omega)];exact e3
 ·have hlt:s < t:=by omega
  rw [nT (by omega)]
  exact (h5 s hlt).same (e4 _ _ (by omega))
theorem wPv {K:Int->Int} {n:Nat} {c:(Int × Int)->Option Int} (hc:ByK K n c) (hn:n <= 64) {bs:Nat} (hbs:bs=20 \/ bs=40) (hlt:bs < n) {l:List Int} (hl:l.length=n) (hB:Blk K n bs l) :
    ∃ l',((iter (fun (l121,x122,x123) =>
        if x123 <= (n:Int) then
          (wAQ 1000 l121 x122 (w64 (x122 + (bs:Int))) x123 c).bind fun x146 =>
          some (.inl (x146,x123,w64 (x123 + (w64 (2 * (bs:Int))))))
        else
          esc (some (l121,x122))) big (l,0,w64 (2 * (bs:Int)))).bind fun (l107,x108) =>
      if (w64 (x108 + (bs:Int))) < (n:Int) then
        (wAQ 1000 l107 x108 (w64 (x108 + (bs:Int))) (n:Int) c).bind fun x182 =>
        some (.inl (x182,w64 ((bs:Int) * 2)))
      else
        some (.inl (l107,w64 ((bs:Int) * 2))))=some (Sum.inl (β:=List Int) (l',((2 * bs:Nat):Int)))/\l'.length=n/\Blk K n (2 * bs) l':=by
  have e0:w64 (2 * (bs:Int))=((2 * bs:Nat):Int):=by rw [wAa (by omega) (by omega)];omega
  have e00:w64 ((bs:Int) * 2)=((2 * bs:Nat):Int):=by rw [wAa (by omega) (by omega)];omega
  rw [e0,e00]
  obtain ⟨r,h1,m,t,rfl,h2,h3,h4,h5,h6⟩:=wEI (body:=fun (l121,x122,x123) =>
        if x123 <= (n:Int) then
          (wAQ 1000 l121 x122 (w64 (x122 + (bs:Int))) x123 c).bind fun x146 =>
          some (.inl (x146,x123,w64 (x123 + ((2 * bs:Nat):Int))))
        else
          esc (some (l121,x122))) (fun t s=>∃ l,s=(l,((2 * bs * t:Nat):Int),((2 * bs * t + 2 * bs:Nat):Int))/\l.length=n/\2 * bs * t <= n/\(∀ s,s < t->Srt K l (2 * bs * s) (2 * bs * s + 2 * bs))/\(∀ s,2 * t <= s->bs * s < n->Srt K l (bs * s) (min (bs * s + bs) n)))
    (fun r=>∃ l t,r=(l,((2 * bs * t:Nat):Int))/\l.length=n/\2 * bs * t <= n/\n < 2 * bs * t + 2 * bs/\(∀ s,s < t->Srt K l (2 * bs * s) (2 * bs * s + 2 * bs))/\(∀ s,2 * t <= s->bs * s < n->Srt K l (bs * s) (min (bs * s + bs) n))) 4
    (fun t s ht ⟨l,hs,g1,g2,g3,g4⟩=>by
      subst hs
      simp only
      by_cases h:((2 * bs * t + 2 * bs:Nat):Int) <= (n:Int)
      · left
        have s1:=g4 (2 * t) (nQ _) (by rcases hbs with rfl | rfl <;> omega)
        have s2:=g4 (2 * t + 1) (by omega) (by rcases hbs with rfl | rfl <;> omega)
        have q1:bs * (2 * t)=2 * bs * t:=by rcases hbs with rfl | rfl <;> omega
        have q2:bs * (2 * t + 1)=2 * bs * t + bs:=by rcases hbs with rfl | rfl <;> omega
        rw [q1,nT (by omega)] at s1
        rw [q2,nT (by omega),show 2 * bs * t + bs + bs=2 * bs * t + 2 * bs by omega] at s2
        obtain ⟨l',e1,e2,e3,e4⟩:=wKD hc g1 hn (by omega) (by omega) (by omega) s1 s2
        have ew:w64 (((2 * bs * t + 2 * bs:Nat):Int) + ((2 * bs:Nat):Int))=((2 * bs * (t + 1) + 2 * bs:Nat):Int):=by
          rw [wEb (by omega)]
          rcases hbs with rfl | rfl <;> omega
        rw [if_pos h,wEb (by omega),e1,hH,ew]
        refine ⟨by rcases hbs with rfl | rfl <;> omega,_,rfl,l',by rw [show 2 * bs * t + 2 * bs=2 * bs * (t + 1) by rw [Nat.mul_add,Nat.mul_one]],e2,by rw [Nat.mul_add,Nat.mul_one];omega,fun s hs=>?_,fun s hs hs2=>?_⟩
        · by_cases c1:s=t
          · rw [c1];exact e3
          · exact (g3 s (by omega)).same (e4 _ _ (by rcases hbs with rfl | rfl <;> omega))
        · exact (g4 s (by omega) hs2).same (e4 _ _ (by rcases hbs with rfl | rfl <;> omega))
      · right
        rw [if_neg h]
        exact ⟨_,rfl,l,t,rfl,g1,g2,by omega,g3,g4⟩)
    (s0:=(l,0,((2 * bs:Nat):Int))) ⟨l,by simp,hl,by omega,fun s hs=>by omega,fun s _ hs=>hB s hs⟩ (by omega)
  rw [h1,hH]
  simp only
  rw [wEb (by omega)]
  have fin:∀ l':List Int,l'.length=n->(2 * bs * t < n->Srt K l' (2 * bs * t) n)->(∀ s,s < t->Srt K l' (2 * bs * s) (2 * bs * s + 2 * bs))->Blk K n (2 * bs) l':=fun l' _ g2 g3 s hs=>by
    by_cases c1:s=t
    · subst c1
      rw [nW (by omega)]
      exact g2 hs
    · have:s < t:=by rcases hbs with rfl | rfl <;> omega
      have q:2 * bs * s + 2 * bs <= n:=by rcases hbs with rfl | rfl <;> omega
      rw [nT q]
      exact g3 s this
  have q1:bs * (2 * t)=2 * bs * t:=by rcases hbs with rfl | rfl <;> omega
  have q2:bs * (2 * t + 1)=2 * bs * t + bs:=by rcases hbs with rfl | rfl <;> omega
  by_cases h:((2 * bs * t + bs:Nat):Int) < (n:Int)
  · have s1:=h6 (2 * t) (nQ _) (by omega)
    have s2:=h6 (2 * t + 1) (by omega) (by omega)
    rw [q1,nT (by omega)] at s1
    rw [q2,nW (by omega)] at s2
    obtain ⟨l',e1,e2,e3,e4⟩:=wKD hc h2 hn (by omega) (by omega) (nQ _) s1 s2
    rw [if_pos h,e1,hH]
    refine ⟨l',rfl,e2,fin l' e2 (fun _=>e3) fun s hs=>(h5 s hs).same (e4 _ _ (by rcases hbs with rfl | rfl <;> omega))⟩
  · rw [if_neg h]
    refine ⟨m,rfl,h2,fin m h2 (fun g=>?_) h5⟩
    have s1:=h6 (2 * t) (nQ _) (by omega)
    rw [q1,nW (by omega)] at s1
    exact s1
theorem wOz {K:Int->Int} {n:Nat} {c:(Int × Int)->Option Int} (hc:ByK K n c) (hn:n <= 64):∃ r,wAs (rng 0 n) c=some r/\r.Perm (rng 0 n)/\r.Pairwise (Lr K):=by
 unfold wAs wBT
 rw [wGT,Nat.sub_zero]
 obtain ⟨l,a,l',h1,h2,h3,h4⟩:=wLA hc hn
 rw [h1,hH]
 simp only
 rw [h2,hH]
 obtain ⟨r,g1,g2,g3⟩:=wEI (body:=fun (l88,x89) =>
  if x89 < (n:Int) then
   (iter (fun (l121,x122,x123) =>
    if x123 <= (n:Int) then
     (wAQ 1000 l121 x122 (w64 (x122 + x89)) x123 c).bind fun x146 =>
     some (.inl (x146,x123,w64 (x123 + (w64 (2 * x89)))))
    else
     esc (some (l121,x122))) big (l88,0,w64 (2 * x89))).bind fun (l107,x108) =>
   if (w64 (x108 + x89)) < (n:Int) then
    (wAQ 1000 l107 x108 (w64 (x108 + x89)) (n:Int) c).bind fun x182 =>
    some (.inl (x182,w64 (x89 * 2)))
   else
    some (.inl (l107,w64 (x89 * 2)))
  else
   esc (some l88)) (fun k s=>∃ l bs,s=(l,((bs:Nat):Int))/\(k=0/\bs=20 \/ k=1/\bs=40 \/ k=2/\bs=80)/\l.length=n/\Blk K n bs l) (fun r=>r.length=n/\Srt K r 0 n) 3
  (fun k s hk ⟨l,bs,hs,q1,q2,q3⟩=>by
   subst hs
   simp only
   by_cases h:((bs:Nat):Int) < (n:Int)
   ·left
    obtain ⟨l2,e1,e2,e3⟩:=wPv hc hn (bs:=bs) (by omega) (by omega) q2 q3
    rw [if_pos h,e1]
    exact ⟨by omega,_,rfl,l2,2 * bs,rfl,by omega,e2,e3⟩
   ·right
    rw [if_neg h]
    refine ⟨_,rfl,q2,?_⟩
    by_cases z:n=0
    ·subst z
     have:l=[]:=nJ q2
     subst this
     exact ⟨List.Perm.refl _,List.Pairwise.nil⟩
    ·have:=q3 0 (by omega)
     rw [Nat.mul_zero,Nat.zero_add,nW (by omega)] at this
     exact this) (s0:=(l',20)) ⟨l',20,rfl,.inl ⟨rfl,rfl⟩,h3,h4⟩ (by omega)
 rw [g1,hH]
 refine ⟨r,rfl,?_⟩
 have:seg r 0 n=r:=by unfold seg;rw [List.drop_zero,nf (by omega)]
 unfold Srt at g3
 rwa [this] at g3
end Go.Proofs.YtkedcbligiebkaaGreat
namespace Go.Proofs.YtkedcbligiebkaaGreat
open Go.KL
theorem wPw (x a b:Int):wCo x a b=some (decide (a <= x) && decide (x <= b)):=by
 unfold wCo
 by_cases h:a <= x <;> simp [h]
theorem wPx {K V:Type} [DecidableEq K] {m:List (K × V)} {x y:K} {v:V}:wGV (mput m x v) y=if y=x then some v else wGV m y:=by
 induction m with
 | nil=>simp only [mput,wGV]
 | cons p m ih =>
  obtain ⟨a,u⟩:=p
  rw [mput]
  by_cases h:x=a
  ·subst h
   rw [if_pos rfl,wGV,wGV]
   split <;> rfl
  ·rw [if_neg h,wGV,wGV,ih]
   by_cases h2:y=a
   ·rw [if_pos h2,if_neg (fun e:y=x=>h (e.symm.trans h2)),if_pos h2]
   ·rw [if_neg h2,if_neg h2]
theorem wPy {l:List Int} (hl:l.length <= 1000):wDB l=some (!decide l.Nodup):=by
 unfold wDB
 rw [wDg (by omega)]
 have key:∀ (m k:Nat) (t:List (Int × Bool)),k + m=l.length->(∀ n,wAw t n false=decide (n ∈ l.take k))->(l.take k).Nodup ->
   jn (forN (fun k20 l17 =>
  (idx l (↑k20:Int)).bind fun x41 =>
  if (wAw l17 x41 false)=true then
   esc (some true)
  else
   some (.inl (mput l17 x41 true))) m k t) (fun _=>some false)=some (!decide l.Nodup):=by
  intro m
  induction m with
  | zero =>
   intro k t hk _ hn
   rw [nf (by omega)] at hn
   simp [forN,hn]
  | succ m ih =>
   intro k t hk ht hn
   have hlt:k < l.length:=by omega
   rw [forN,wDw hlt,hH,ht]
   by_cases c:gd l k ∈ l.take k
   ·have:¬ l.Nodup:=fun h=>by
     rw [<- nE k l,wHg hlt] at h
     exact (kE.1 h).2.2 _ c _ (by simp) rfl
    simp [c,this]
   ·rw [if_neg (by simpa using c)]
    simp only
    refine ih (k + 1) _ (by omega) (fun n=>?_) ?_
    ·unfold wAw at ht ⊢
     rw [wPx,wDk hlt]
     by_cases e:n=gd l k
     ·rw [if_pos e];simp [e]
     ·rw [if_neg e,ht];simp [e]
    ·rw [wDk hlt,kE]
     exact ⟨hn,by simp,fun a ha b hb e=>by simp at hb;subst hb;subst e;exact c ha⟩
 exact key l.length 0 [] (by omega) (fun n=>by simp [wAw,wGV]) (by simp)
theorem wLz {α:Type} [Inhabited α] {p:α->Bool}:∀ {l:List α} {j k:Nat},j < l.length->p (gd l j)=true->(∀ i,i < j->p (gd l i)=false)->first p l k=(k:Int) + j
 | [],j,k,h,_,_=>by simp at h
 | a :: l,0,k,h,h1,_=>by
  rw [first,if_pos (show p a=true from h1)];omega
 | a :: l,j + 1,k,h,h1,h2=>by
  have:=h2 0 (by omega)
  rw [first,if_neg (by rw [show p a=false from this];decide),wLz (j:=j) (by simpa using h) h1 fun i hi=>h2 (i + 1) (by omega)]
  omega
theorem wJH {α:Type} [Inhabited α] {l:List α} {a:α} (h:a ∈ l):∃ i,i < l.length/\gd l i=a:=by
 obtain ⟨i,hi,e⟩:=nI h
 exact ⟨i,hi,by rw [wEB hi,e]⟩
theorem wPA {α:Type} [Inhabited α] {l:List α} {p:α->Int}:(l.map p).Nodup ↔ ∀ i,i < l.length->∀ j,j < i->p (gd l i) ≠ p (gd l j):=by
 rw [List.nodup_iff_pairwise_ne,nZ]
 constructor
 ·intro h i hi j hj e
  have:=h j i (by simp;omega) (by simpa using hi) hj
  rw [ng,ng,<- wEB (by omega),<- wEB hi] at this
  exact this e.symm
 ·intro h i j hi hj hij e
  rw [nL] at hi hj
  rw [ng,ng,<- wEB hi,<- wEB hj] at e
  exact h j hj i hij e.symm
theorem wIa (a b:Int):wBh a b=some (if a < b then -1 else if b < a then 1 else 0):=by
 unfold wBh wCS
 simp only [not_true_eq_false,decide_false,hH,Bool.false_eq_true,if_false]
 split
 ·rfl
 ·split <;> rfl
end Go.Proofs.YtkedcbligiebkaaGreat
namespace Go.Proofs.YtkedcbligiebkaaGreat
open Go.KL
theorem wSL {a u:Int} (h:0 <= a) (hu:0 < u):a % u <= a:=by
 have h1:=Int.emod_add_mul_ediv a u
 have h2:=Int.mul_nonneg (Int.le_of_lt hu) (Int.ediv_nonneg h (Int.le_of_lt hu))
 omega
def okQ (x:wAI):Bool:=(decide (1 <= x.Bib) && decide (x.Bib <= 999)) && (decide (0 <= x.Time) && decide (x.Time <= 360000))
def okU (r:wAZ):Prop:=(1 <= r.Unit/\r.Unit <= 600)/\0 <= r.Limit/\r.Limit <= 360000
instance (r:wAZ):Decidable (okU r):=by unfold okU;exact inferInstance
def wPB (l:List wAI) (r:wAZ):Int:=if 60 < l.length then 2 else if l.all okQ=true/\okU r then (if (l.map (·.Bib)).Nodup then 0 else 5) else 3
theorem wSM {l:List wAI} (hn:l.length <= 1000):wBK l wBL=some (l.all okQ):=by
 unfold wBK
 rw [wFB (p:=okQ) (z:=false) (fun x _=>by
  have:wBL x=some (okQ x):=by
   unfold wBL okQ
   rw [wPw,hH]
   by_cases h:(decide (1 <= x.Bib) && decide (x.Bib <= 999))=true
   ·rw [if_pos h,wPw,h];rfl
   ·rw [if_neg h,Bool.eq_false_iff.2 h];rfl
  simp only [this,hH];split <;> rfl) (by omega)]
 cases l.all okQ <;> rfl
theorem wMi {l:List wAI} (hl:l.length <= 1000) (r:wAZ):wCR l r=some (wPB l r):=by
 unfold wCR wPB
 rw [wPn (bytes:=8) (f:=fun x:wAI=>x.Bib) (fun s _ r=>by rw [wSD]) (by omega) (by omega)]
 show (some (l.map (·.Bib))).bind _=_
 rw [hH]
 by_cases h0:60 < l.length
 ·rw [if_pos (by omega),if_pos h0]
 rw [if_neg (by omega),if_neg h0,wSM hl,hH]
 by_cases h1:l.all okQ=true
 case neg=>rw [if_neg h1,if_neg (fun h=>h1 h.1)]
 rw [if_pos h1,wPw,hH]
 by_cases h2:1 <= r.Unit/\r.Unit <= 600
 case neg=>rw [if_neg (by simp;omega),if_neg (fun h=>h2 h.2.1)]
 rw [if_pos (by simp;omega),wPw,hH]
 by_cases h3:0 <= r.Limit/\r.Limit <= 360000
 case neg=>rw [if_neg (by simp;omega),if_neg (fun h=>h3 h.2.2)]
 rw [if_pos (by simp;omega),wPy (by simpa using hl),hH,if_pos (show l.all okQ=true/\okU r from ⟨h1,h2,h3⟩)]
 by_cases h4:(l.map (·.Bib)).Nodup
 ·rw [if_neg (by simp [h4]),if_pos h4]
 ·rw [if_pos (by simp [h4]),if_neg h4]
structure wJI (l:List wAI) (r:wAZ):Prop where
 len:l.length <= 60
 bib:∀ x ∈ l,1 <= x.Bib/\x.Bib <= 999
 time:∀ x ∈ l,0 <= x.Time/\x.Time <= 360000
 unit:1 <= r.Unit/\r.Unit <= 600
 lim:0 <= r.Limit/\r.Limit <= 360000
 bibs:(l.map (·.Bib)).Nodup
theorem wHm {l:List wAI} {r:wAZ}:wPB l r=0 ↔ wJI l r:=by
 unfold wPB
 constructor
 ·intro h
  by_cases h0:60 < l.length
  ·rw [if_pos h0] at h;omega
  rw [if_neg h0] at h
  by_cases h1:l.all okQ=true/\okU r
  case neg=>rw [if_neg h1] at h;omega
  rw [if_pos h1] at h
  by_cases h2:(l.map (·.Bib)).Nodup
  case neg=>rw [if_neg h2] at h;omega
  have:=fun x hx=>nP.1 h1.1 x hx
  simp only [okQ,nH,decide_eq_true_iff] at this
  exact ⟨by omega,fun x hx=>(this x hx).1,fun x hx=>(this x hx).2,h1.2.1,h1.2.2,h2⟩
 ·intro G
  have:=G.len
  rw [if_neg (by omega),if_pos ⟨nP.2 fun x hx=>by
   have h1:=G.bib x hx
   have h2:=G.time x hx
   simp only [okQ,nH,decide_eq_true_iff]
   exact ⟨h1,h2⟩,G.unit,G.lim⟩,if_pos G.bibs]
def bst (l:List wAI):Int:=l.foldl (fun b x=>min b x.Time) 360000
theorem wPz {l:List wAI} {k:Nat} (hk:k < l.length):bst (l.take (k + 1))=min (bst (l.take k)) (gd l k).Time:=by
 unfold bst
 rw [wDk hk,List.foldl_append]
 rfl
theorem wSN (l:List wAI):∀ b:Int,l.foldl (fun b x=>min b x.Time) b <= b/\(∀ x ∈ l,l.foldl (fun b x=>min b x.Time) b <= x.Time)/\((∀ x ∈ l,0 <= x.Time)->0 <= b->0 <= l.foldl (fun b x=>min b x.Time) b):=by
 induction l with
 | nil=>intro b;exact ⟨kH _,fun x hx=>by simp at hx,fun _ h=>h⟩
 | cons a l ih =>
  intro b
  obtain ⟨h1,h2,h3⟩:=ih (min b a.Time)
  rw [List.foldl_cons]
  refine ⟨by omega,fun x hx=>?_,fun h0 hb=>h3 (fun x hx=>h0 x (List.mem_cons_of_mem _ hx)) (by have:=h0 a (List.mem_cons_self ..);omega)⟩
  rcases nv.1 hx with rfl | hx
  ·omega
  ·exact h2 x hx
def dfc (r:wAZ) (best t:Int):Int:=min ((t - best) - (t - best) % r.Unit) r.Limit
def dfs (l:List wAI) (r:wAZ):List Int:=l.map fun x=>dfc r (bst l) x.Time
theorem wPC {l:List wAI} {r:wAZ} (G:wJI l r):0 <= bst l/\bst l <= 360000/\∀ x ∈ l,bst l <= x.Time:=by
 have:=wSN l 360000
 exact ⟨this.2.2 (fun x hx=>(G.time x hx).1) (by omega),this.1,this.2.1⟩
theorem wLB {l:List wAI} {r:wAZ} (hl:l.length <= 1000):wCD l r=some (if wPB l r=0 then dfs l r else [],wPB l r):=by
 unfold wCD
 rw [wMi hl,hH]
 by_cases h:wPB l r=0
 case neg=>rw [if_neg h,if_neg h]
 rw [if_pos h,if_pos h,h]
 have G:=wHm.1 h
 have B:=wPC G
 rw [wDI (s0:=(360000:Int)) (fun k=>bst (l.take k)) (by simp [bst]) (by omega) (fun i hi=>by rw [wDw hi,hH,wPz hi]),hH,nq]
 have hlen:=G.len
 rw [wDI (s0:=([]:List Int)) (fun k=>(l.take k).map fun x=>dfc r (bst l) x.Time) (by simp) (by omega) (fun i hi=>by
  have hx:=wBH hi
  have t:=G.time _ hx
  have b:=B.2.2 _ hx
  have u:=G.unit
  have em:=Int.emod_nonneg ((gd l i).Time - bst l) (show r.Unit ≠ 0 by omega)
  have em2:=wSL (a:=(gd l i).Time - bst l) (u:=r.Unit) (by omega) (by omega)
  have e:w64 ((gd l i).Time - bst l)=(gd l i).Time - bst l:=wAa (by omega) (by omega)
  rw [wDw hi,hH,e,rem,if_neg (by omega),hH,nX (by omega),wAa (by omega) (by omega),wEH (by simp;omega),hH,wDk hi,ni]
  rfl),hH,nq]
 rfl
end Go.Proofs.YtkedcbligiebkaaGreat
namespace Go.Proofs.YtkedcbligiebkaaGreat
open Go.KL
def key (l:List wAI) (r:wAZ) (i:Int):Int:=dfc r (bst l) (gd l i.toNat).Time * 400000 + (gd l i.toNat).Time
theorem or_is (a b:Int):wDe [a,b]=some (if a=0 then b else a):=by
 unfold wDe
 have e:((([a,b]:List Int).length:Nat):Int)=((2:Nat):Int):=rfl
 rw [e,wDg (by omega)]
 have i0:idx [a,b] ((0:Nat):Int)=some a:=rfl
 have i1:idx [a,b] ((0 + 1:Nat):Int)=some b:=rfl
 simp only [forN,i0,i1,hH]
 by_cases c:a=0
 ·rw [if_pos c,if_pos c]
  by_cases c2:b=0
  ·simp [c2]
  ·simp [c2]
 ·rw [if_neg c,if_neg c]
  rfl
theorem wLC {l:List wAI} {r:wAZ} {a b:Int} (ha:0 <= a/\a < l.length) (hb:0 <= b/\b < l.length):wBM a b (dfs l r) l=some (if (if dfc r (bst l) (gd l a.toNat).Time < dfc r (bst l) (gd l b.toNat).Time then (-1:Int) else if dfc r (bst l) (gd l b.toNat).Time < dfc r (bst l) (gd l a.toNat).Time then 1 else 0)=0 then (if (gd l a.toNat).Time < (gd l b.toNat).Time then (-1:Int) else if (gd l b.toNat).Time < (gd l a.toNat).Time then 1 else 0) else (if dfc r (bst l) (gd l a.toNat).Time < dfc r (bst l) (gd l b.toNat).Time then (-1:Int) else if dfc r (bst l) (gd l b.toNat).Time < dfc r (bst l) (gd l a.toNat).Time then 1 else 0)):=by
 unfold wBM
 have e:∀ {i:Int},0 <= i->i < l.length->idx l i=some (gd l i.toNat)/\idx (dfs l r) i=some (dfc r (bst l) (gd l i.toNat).Time):=fun {i} h1 h2=>by
  refine ⟨by unfold idx;rw [if_pos h1,wAy (by omega)],?_⟩
  unfold idx dfs
  rw [if_pos h1,wAy (by simp;omega),wHh _ (by omega)]
 rw [(e ha.1 ha.2).2,hH,(e hb.1 hb.2).2,hH,(e ha.1 ha.2).1,hH,(e hb.1 hb.2).1,hH,wIa,hH,wIa,hH,or_is,hH]
theorem byKey {l:List wAI} {r:wAZ} (G:wJI l r):ByK (key l r) (l.length:Int) (fun x=>wBM x.1 x.2 (dfs l r) l):=by
 intro a b a0 a1 b0 b1
 refine ⟨_,wLC ⟨a0,a1⟩ ⟨b0,b1⟩,?_⟩
 have ta:=G.time _ (wBH (l:=l) (k:=a.toNat) (by omega))
 have tb:=G.time _ (wBH (l:=l) (k:=b.toNat) (by omega))
 unfold key
 generalize dfc r (bst l) (gd l a.toNat).Time=x
 generalize dfc r (bst l) (gd l b.toNat).Time=y
 generalize (gd l a.toNat).Time=s at ta ⊢
 generalize (gd l b.toNat).Time=t at tb ⊢
 by_cases c1:x < y
 ·rw [if_pos c1,if_neg (by decide)]
  constructor
  ·intro _;omega
  ·intro _;decide
 ·simp only [c1,if_false]
  by_cases c2:y < x
  ·rw [if_pos c2,if_neg (by decide)]
   constructor
   ·intro h;exact absurd h (by decide)
   ·intro h;omega
  ·simp only [c2,if_false,if_true]
   by_cases c3:s < t
   ·simp only [c3,if_true]
    constructor
    ·intro _;omega
    ·intro _;decide
   ·simp only [c3,if_false]
    by_cases c4:t < s
    ·simp only [c4,if_true]
     constructor
     ·intro h;exact absurd h (by decide)
     ·intro h;omega
    ·simp only [c4,if_false]
     constructor
     ·intro h;omega
     ·intro h;omega
structure Plc (l:List wAI) (r:wAZ) (p:List Int):Prop where
 perm:p.Perm (rng 0 l.length)
 ord:p.Pairwise (Lr (key l r))
def stt (l:List wAI) (r:wAZ) (i:Int):wAh:=⟨(gd l i.toNat).Bib,dfc r (bst l) (gd l i.toNat).Time,0⟩
theorem wFI {l:List wAI} {r:wAZ} {p:List Int} (h:Plc l r p) {k:Nat} (hk:k < l.length):p.length=l.length/\0 <= gd p k/\gd p k < l.length:=by
 have hl:p.length=l.length:=by rw [h.perm.length_eq,wGT];omega
 have:=wLy _ (h.perm.mem_iff.1 (wBH (l:=p) (k:=k) (by omega)))
 exact ⟨hl,by omega,this.2⟩
theorem wMj {l:List wAI} {r:wAZ} (hl:l.length <= 1000):∃ p,(wPB l r=0->Plc l r p)/\wCT l r=some (if wPB l r=0 then p.map (stt l r) else [],wPB l r):=by
 unfold wCT
 rw [wLB hl,hH]
 by_cases h:wPB l r=0
 case neg=>exact ⟨[],fun e=>absurd e h,by simp only [if_neg h]⟩
 simp only [if_pos h]
 have G:=wHm.1 h
 have h60:=G.len
 rw [wDI (s0:=([]:List Int)) (fun k=>rng 0 k) rfl (by omega) (fun i hi=>by
  rw [wEH (by rw [wGT];simp;omega),hH]
  have:=wOw (a:=0) (m:=i) (b:=i + 1) (by omega) (by omega)
  rw [<- this]
  congr 2
  simp [rng]),hH]
 obtain ⟨p,e,hp,ho⟩:=wOz (byKey G) (by omega)
 rw [e,hH]
 have P:Plc l r p:=⟨hp,ho⟩
 have hpl:p.length=l.length:=by rw [hp.length_eq,wGT];omega
 refine ⟨p,fun _=>P,?_⟩
 rw [wDI (s0:=([]:List wAh)) (fun k=>(p.take k).map (stt l r)) (by simp) (by omega) (fun i hi=>by
  obtain ⟨_,g0,g1⟩:=wFI P (k:=i) (by omega)
  have e1:idx l (gd p i)=some (gd l (gd p i).toNat):=by unfold idx;rw [if_pos g0,wAy (by omega)]
  have e2:idx (dfs l r) (gd p i)=some (dfc r (bst l) (gd l (gd p i).toNat).Time):=by unfold idx dfs;rw [if_pos g0,wAy (by simp;omega),wHh _ (by omega)]
  rw [wBJ (by omega) (by omega),hH,e1,hH,e2,hH,wEH (by simp;omega),hH,wDk hi,ni]
  rfl),hH,nq,h]
end Go.Proofs.YtkedcbligiebkaaGreat
namespace Go.Proofs.YtkedcbligiebkaaGreat
open Go.KL
open Classical
def ru1:wAZ:=⟨1,360000⟩
theorem wSO (l:List wAI):∀ b:Int,l.foldl (fun b x=>min b x.Time) b=b \/ ∃ x ∈ l,l.foldl (fun b x=>min b x.Time) b=x.Time:=by
 induction l with
 | nil=>intro b;exact .inl rfl
 | cons a l ih =>
  intro b
  rw [List.foldl_cons]
  rcases ih (min b a.Time) with h | ⟨x,hx,h⟩
  ·rw [h]
   rcases Int.le_total b a.Time with q | q
   ·exact .inl (Int.min_eq_left q)
   ·exact .inr ⟨a,.head _,Int.min_eq_right q⟩
  ·exact .inr ⟨x,.tail _ hx,h⟩
theorem dfc1 {l:List wAI} (G:wJI l ru1) {x:wAI} (hx:x ∈ l):dfc ru1 (bst l) x.Time=x.Time - bst l:=by
 have h1:=wPC G
 have h2:=h1.2.2 x hx
 have h3:=G.time x hx
 unfold dfc ru1
 simp only [Int.emod_one]
 omega
theorem key1 {l:List wAI} (G:wJI l ru1) {k:Nat} (hk:k < l.length):key l ru1 (k:Int)=((gd l k).Time - bst l) * 400000 + (gd l k).Time:=by
 unfold key
 rw [nB,dfc1 G (wBH hk)]
theorem pos1 {l:List wAI} {p:List Int} (P:Plc l ru1 p) {k:Nat} (hk:k < l.length):∃ i,i < l.length/\gd p i=(k:Int):=by
 have hm:(k:Int) ∈ p:=P.perm.mem_iff.2 (by
  unfold rng
  refine kB.2 ⟨k,na.2 (by omega),by omega⟩)
 obtain ⟨i,hi,e⟩:=wJH hm
 exact ⟨i,by rw [<- (wFI P (k:=0) (by omega)).1];exact hi,e⟩
theorem ord1 {l:List wAI} {p:List Int} (P:Plc l ru1 p) {i j:Nat} (hij:i < j) (hj:j < l.length):Lr (key l ru1) (gd p i) (gd p j):=by
 have hl:=(wFI P (k:=j) hj).1
 have:=(nZ.1 P.ord) i j (by omega) (by omega) hij
 rwa [<- wEB,<- wEB] at this
theorem le1 {l:List wAI} {p:List Int} (G:wJI l ru1) (P:Plc l ru1 p) {i j:Nat} (hij:i <= j) (hj:j < l.length):(gd l (gd p i).toNat).Time <= (gd l (gd p j).toNat).Time:=by
 by_cases e:i=j
 ·rw [e];exact kH _
 ·have h:=(ord1 P (i:=i) (j:=j) (by omega) hj).le
  obtain ⟨_,a0,a1⟩:=wFI P (k:=i) (by omega)
  obtain ⟨_,b0,b1⟩:=wFI P (k:=j) hj
  rw [show gd p i=(((gd p i).toNat:Nat):Int) by omega,show gd p j=(((gd p j).toNat:Nat):Int) by omega,key1 G (by omega),key1 G (by omega)] at h
  omega
theorem wUE {l:List wAI} {p:List Int} (G:wJI l ru1) (P:Plc l ru1 p) (h0:0 < l.length):bst l=(gd l (gd p 0).toNat).Time/\∀ k,k < l.length->(gd l (gd p 0).toNat).Time <= (gd l k).Time:=by
 have hle:∀ k,k < l.length->(gd l (gd p 0).toNat).Time <= (gd l k).Time:=fun k hk=>by
  obtain ⟨i,hi,e⟩:=pos1 P hk
  have:=le1 G P (i:=0) (j:=i) (by omega) hi
  rwa [e,nB] at this
 refine ⟨?_,hle⟩
 obtain ⟨_,a0,a1⟩:=wFI P (k:=0) h0
 have b:=wPC G
 have m0:gd l (gd p 0).toNat ∈ l:=wBH (by omega)
 have c:=b.2.2 _ m0
 rcases wSO l 360000 with h | ⟨x,hx,h⟩
 ·have d:=(G.time _ m0).2
  have:bst l=360000:=h
  omega
 ·obtain ⟨k,hk,rfl⟩:=wJH hx
  have:=hle k hk
  have:bst l=(gd l k).Time:=h
  omega
theorem wSP {l:List wAI} {p:List Int} (G:wJI l ru1) (P:Plc l ru1 p) {i j:Nat} (hi:i < l.length) (hj:j < l.length) (h:(gd l (gd p i).toNat).Time < (gd l (gd p j).toNat).Time):i < j:=by
 rcases Nat.lt_or_ge i j with q | q
 ·exact q
 ·have:=le1 G P q hi
  omega
theorem inj1 {l:List wAI} {p:List Int} (P:Plc l ru1 p) {i j:Nat} (hi:i < l.length) (hj:j < l.length) (h:gd p i=gd p j):i=j:=by
 rcases Nat.lt_trichotomy i j with q | q | q
 ·have:=ord1 P q hj
  rw [h] at this
  unfold Lr at this
  omega
 ·exact q
 ·have:=ord1 P q hi
  rw [h] at this
  unfold Lr at this
  omega
end Go.Proofs.YtkedcbligiebkaaGreat
namespace Go.Proofs.YtkedcbligiebkaaGreat
open Go.KL Go.KL.Net
open Classical
def yT (T:List (List Int)) (O:List Int) (p:Pt):Int:=if p.skier=-1 then (if p.mat=0 then 0 else -gd O (p.mat - 1).toNat) else gd (gd T p.skier.toNat) p.mat.toNat
theorem wQA (T:List (List Int)) (O:List Int):yT T O zp=0:=rfl
theorem wEv (T:List (List Int)) (O:List Int) {s k:Int} (h:0 <= s):yT T O ⟨s,k⟩=gd (gd T s.toNat) k.toNat:=if_neg (by simp only;omega)
theorem wGs (T:List (List Int)) (O:List Int) {k:Int} (h:0 <= k):yT T O ⟨-1,1 + k⟩=-gd O k.toNat:=by
 unfold yT
 rw [if_pos rfl,if_neg (by simp only;omega),show (1 + k - 1)=k by omega]
structure Lens (r:wAD) (T:List (List Int)) (O:List Int):Prop where
 t:T.length=r.Starts.length
 l:∀ k,k < r.Starts.length->(gd T k).length=r.Splits.length + 1
 o:O.length=r.Clocks.length
def wUF (r:wAD) (T:List (List Int)) (k:Nat):Bool:=decide (gd (gd T k) 0=gd r.Starts k) && wSG (fun j=>inB (gd (gd T k) (j + 1) - gd (gd T k) j) (gd r.Splits j).Lo (gd r.Splits j).Hi) r.Splits.length 0
def clkS (r:wAD) (O:List Int) (k:Nat):Bool:=inB (gd O k) (gd r.Clocks k).Offset.Lo (gd r.Clocks k).Offset.Hi
def redS (r:wAD) (T:List (List Int)) (O:List Int) (k:Nat):Bool :=
 inB ((gd r.Readings k).Time - gd (gd T (gd r.Readings k).Skier.toNat) (gd r.Readings k).Mat.toNat - gd O (gd r.Readings k).Clock.toNat) (-(gd r.Clocks (gd r.Readings k).Clock.toNat).Error) (gd r.Clocks (gd r.Readings k).Clock.toNat).Error
theorem wQB {r:wAD} (C:RC r) {T:List (List Int)} {O:List Int}:wDl r (yT T O) ↔ wSG (wUF r T) r.Starts.length 0=true/\wSG (clkS r O) r.Clocks.length 0=true/\wSG (redS r T O) r.Readings.length 0=true:=by
 simp only [wEJ]
 constructor
 ·intro F
  refine ⟨fun k _ hk=>?_,fun k _ hk=>?_,fun k _ hk=>?_⟩
  ·have h0:=fp0 F (s:=(k:Int)) (by omega) (by omega)
   rw [wEv _ _ (by omega),wQA,nB,Int.zero_add] at h0
   unfold wUF
   rw [nH]
   refine ⟨decide_eq_true h0,(wEJ _ _ _).2 fun j _ hj=>?_⟩
   have h1:=fp1 F (s:=(k:Int)) (k:=(j:Int)) (by omega) (by omega) (by omega) (by omega)
   rw [wEv _ _ (by omega),wEv _ _ (by omega),nB,nB,show ((j:Int) + 1).toNat=j + 1 by omega] at h1
   unfold inB
   rw [decide_eq_true_eq]
   omega
  ·have h:=fp2 F (k:=(k:Int)) (by omega) (by omega)
   rw [wGs _ _ (by omega),wQA,nB] at h
   unfold clkS inB
   rw [decide_eq_true_eq]
   omega
  ·have u:=C.ru _ (wBH (show k < r.Readings.length by omega))
   have a:yT T O ⟨(gd r.Readings k).Skier,(gd r.Readings k).Mat⟩ <= yT T O ⟨-1,1 + (gd r.Readings k).Clock⟩ + ((gd r.Readings k).Time + (gd r.Clocks (gd r.Readings k).Clock.toNat).Error):=F ⟨3,0,(k:Int),true⟩ (.inr (.inr (.inr ⟨rfl,rfl,by simp only;omega,by simp only;omega⟩)))
   have b:yT T O ⟨-1,1 + (gd r.Readings k).Clock⟩ <= yT T O ⟨(gd r.Readings k).Skier,(gd r.Readings k).Mat⟩ + ((gd r.Clocks (gd r.Readings k).Clock.toNat).Error - (gd r.Readings k).Time):=F ⟨3,0,(k:Int),false⟩ (.inr (.inr (.inr ⟨rfl,rfl,by simp only;omega,by simp only;omega⟩)))
   rw [wEv _ _ u.1,wGs _ _ u.2.2.2.2.1] at a b
   unfold redS inB
   rw [decide_eq_true_eq]
   omega
 ·rintro ⟨h1,h2,h3⟩ x hx
  have key:yT T O (wCl r x).2.1 <= yT T O (wCl r x).1 + (wCl r x).2.2.1/\yT T O (wCl r x).1 <= yT T O (wCl r x).2.1 + (wCl r x).2.2.2:=by
   unfold wCl
   rcases hx with ⟨k,a,b,c⟩ | ⟨k,a,b,c,d⟩ | ⟨k,a,c,d⟩ | ⟨k,a,c,d⟩
   ·have h:=h1 x.Skier.toNat (by omega) (by omega)
    unfold wUF at h
    rw [nH,decide_eq_true_eq] at h
    rw [if_pos k]
    simp only
    rw [wEv _ _ a,wQA,Int.toNat_zero,h.1]
    omega
   ·have h:=h1 x.Skier.toNat (by omega) (by omega)
    unfold wUF at h
    rw [nH] at h
    have g:=(wEJ _ _ _).1 h.2 x.Index.toNat (by omega) (by omega)
    unfold inB at g
    rw [decide_eq_true_eq] at g
    rw [if_neg (by omega),if_pos k]
    simp only
    rw [wEv _ _ a,wEv _ _ a,show (x.Index + 1).toNat=x.Index.toNat + 1 by omega]
    omega
   ·have h:=h2 x.Index.toNat (by omega) (by omega)
    unfold clkS inB at h
    rw [decide_eq_true_eq] at h
    rw [if_neg (by omega),if_neg (by omega),if_pos k]
    simp only
    rw [wGs _ _ c,wQA]
    omega
   ·have h:=h3 x.Index.toNat (by omega) (by omega)
    unfold redS inB at h
    rw [decide_eq_true_eq] at h
    have u:=C.ru _ (wCV c d)
    rw [if_neg (by omega),if_neg (by omega),if_neg (by omega)]
    simp only
    rw [wEv _ _ u.1,wGs _ _ u.2.2.2.2.1]
    omega
  unfold wDJ
  split
  ·exact key.1
  ·exact key.2
end Go.Proofs.YtkedcbligiebkaaGreat
namespace Go.Proofs.YtkedcbligiebkaaGreat
open Go.KL
theorem wPD {a b:Int} (h0:0 <= a) (hb:0 < b):∃ x,rem a b=some x/\0 <= x/\x < b:=by
 refine ⟨a.tmod b,if_neg (by omega),?_,?_⟩
 ·rw [nX h0];exact Int.emod_nonneg _ (by omega)
 ·rw [nX h0];exact Int.emod_lt_of_pos _ hb
theorem wLD (x:Int):0 <= wEj x:=by unfold wEj;omega
theorem wSQ (x:Int):wEj x < 4294967296:=by unfold wEj;omega
theorem w64u (x:Int):w64 (wEj x)=wEj x:=by
 have:=wLD x
 have:=wSQ x
 exact wAa (by omega) (by omega)
theorem wQC (a:Int) {b:Int} (hb:b ≠ 0):∃ x,quo a b=some x:=⟨_,if_neg hb⟩
theorem wDy (d:wAE) (n:Int) (h0:0 <= d.next) (h1:d.next <= 1000000):∃ x d',wAM d n=some (x,d')/\0 <= d'.next/\d'.next <= d.next + 1/\0 <= x/\(x < n \/ (n <= 1/\x=0)):=by
 unfold wAM
 by_cases hn:n <= 1
 ·exact ⟨0,d,by rw [if_pos hn],h0,by omega,by omega,.inr ⟨hn,rfl⟩⟩
 rw [if_neg hn]
 by_cases hl:(d.bytes.length:Int)=0
 ·exact ⟨0,d,by rw [if_pos hl],h0,by omega,by omega,.inl (by omega)⟩
 rw [if_neg hl]
 obtain ⟨r,e1,r0,r1⟩:=wPD h0 (show (0:Int) < d.bytes.length by omega)
 obtain ⟨b,e2⟩:∃ b,idx d.bytes r=some b:=by
  unfold idx
  rw [if_pos r0,List.getElem?_eq_getElem (by omega)]
  exact ⟨_,rfl⟩
 obtain ⟨q,e3⟩:=wQC d.next (b:=d.bytes.length) hl
 obtain ⟨st,e4,_,_⟩:=wPD (wLD ((wEj ((wEj ((wEj (d.state * 45)) + (wEj b))) + (wEj (77 * (wEj q))))) + 1)) (b:=65519) (by decide)
 rw [e1,hH,e2,hH,e3,hH,e4,hH,wAa (x:=d.next + 1) (by omega) (by omega)]
 have fin:∀ z:Int,∃ x d',((rem (w64 (wEj z)) n).bind fun x=>some (x,(⟨d.bytes,d.next + 1,st⟩:wAE)))=some (x,d')/\0 <= d'.next/\d'.next <= d.next + 1/\0 <= x/\(x < n \/ (n <= 1/\x=0)):=by
  intro z
  obtain ⟨x,e5,x0,x1⟩:=wPD (a:=w64 (wEj z)) (b:=n) (by rw [w64u];exact wLD z) (by omega)
  exact ⟨x,_,by rw [e5];rfl,by show 0 <= d.next + 1;omega,by show d.next + 1 <= _;omega,x0,.inl x1⟩
 by_cases c1:wEj q=0
 ·rw [if_pos c1]
  by_cases c2:n <= 256
  ·rw [if_pos c2];exact fin _
  ·rw [if_neg c2];exact fin _
 ·rw [if_neg c1];exact fin _
theorem wFd (d:wAE) (a b:Int) (h0:0 <= d.next) (h1:d.next <= 1000000) (ha:-1000000 <= a) (hab:a <= b) (hb:b <= 1000000):∃ x d',wAN d a b=some (x,d')/\0 <= d'.next/\d'.next <= d.next + 1/\a <= x/\x <= b:=by
 unfold wAN
 rw [wAa (x:=b - a) (by omega) (by omega),wAa (x:=b - a + 1) (by omega) (by omega)]
 obtain ⟨x,d',e,n0,n1,x0,x1⟩:=wDy d (b - a + 1) h0 h1
 refine ⟨a + x,d',?_,n0,n1,by omega,by omega⟩
 rw [e,hH]
 simp only
 rw [wAa (by omega) (by omega)]
end Go.Proofs.YtkedcbligiebkaaGreat
namespace Go.Proofs.YtkedcbligiebkaaGreat
open Go.KL Go.KL.Net
open Classical
theorem wSR {r:wAD} (C:RC r):code r=0:=by
 unfold code
 rw [if_neg (fun h=>h C.n),if_neg (by have:=C.m;omega),if_neg (by have:=C.c;omega),if_neg (by have:=C.q;omega),if_pos (nP.2 fun s hs=>by
  have:=C.st s hs
  unfold stP inB
  rw [decide_eq_true_eq];omega),if_pos (nP.2 fun s hs=>by
  have:=C.sp s hs
  unfold spP wPq
  rw [decide_eq_true_eq];omega),if_pos (nP.2 fun s hs=>by
  have:=C.ck s hs
  unfold ckP wPq inB
  rw [nH,decide_eq_true_eq,decide_eq_true_eq];omega),if_pos (nP.2 fun s hs=>by
  have:=C.rt s hs
  unfold rtP inB
  rw [decide_eq_true_eq];omega),if_pos (nP.2 fun s hs=>by
  have:=C.ru s hs
  unfold ruP inB
  rw [nH,nH,decide_eq_true_eq,decide_eq_true_eq,decide_eq_true_eq];omega)]
theorem wDp {S:Type} {body:Nat->S->Option S} {n:Nat} {s0:S} (I:Nat->S->Prop) (hn:n <= 1000) (h0:I 0 s0) (h:∀ i s,i < n->I i s->∃ s',body i s=some s'/\I (i + 1) s'):∃ s,wBr 0 (n:Int) body s0=some s/\I n s:=by
 rw [wDP (by omega)]
 have:=wET (body:=body) I n 0 s0 h0 fun i s _ h2 h3=>h i s (by omega) h3
 rwa [Nat.zero_add] at this
theorem wJJ {α:Type} {l:List α} {a:α} {P:α->Prop} (h:∀ x ∈ l,P x) (ha:P a):∀ x ∈ l ++ [a],P x:=fun x hx=>by
 rcases nr.1 hx with h1 | h1
 ·exact h x h1
 ·rw [List.mem_singleton.1 h1];exact ha
def m1B:Nat->List Int × Int × Int × List Int->Option (List Int × Int × Int × List Int):=fun k62 (l53,x56,x57,l58) =>
  (wAM (⟨l53,x56,x57⟩:wAE) 4).bind fun (x142,x143) =>
  (wAM x143 3).bind fun (x156,x157) =>
  (app 8 l58 [w64 ((w64 (300 * x142)) + x156)]).bind fun x175 =>
  some (x157.bytes,x157.next,x157.state,x175)
def m2B:Nat->List Int × Int × Int × List wAG->Option (List Int × Int × Int × List wAG):=fun k274 (l265,x268,x269,l270) =>
  (wAN (⟨l265,x268,x269⟩:wAE) 3 9).bind fun (x305,x306) =>
  (wAM x306 30).bind fun (x353,x354) =>
  (app 16 l270 [(⟨w64 (100 * x305),w64 ((w64 (100 * x305)) + (w64 (10 * x353)))⟩:wAG)]).bind fun x372 =>
  some (x354.bytes,x354.next,x354.state,x372)
def m3I (y282:List wAG):Nat->List Int × Int × Int × Int × List Int->Option (List Int × Int × Int × Int × List Int):=fun k541 (l532,x535,x536,x537,l538) =>
      (chk (↑k541:Int) y282.length).bind fun _ =>
      (wAN (⟨l532,x535,x536⟩:wAE) ((gd y282 k541).Lo) ((gd y282 k541).Hi)).bind fun (x589,x590) =>
      (app 8 l538 [w64 (x537 + x589)]).bind fun x609 =>
      some (x590.bytes,x590.next,x590.state,w64 (x537 + x589),x609)
def m3B (y70:List Int) (y282:List wAG):Nat->List Int × Int × Int × List (List Int)->Option (List Int × Int × Int × List (List Int)):=fun k460 (l450,x453,x454,l455) =>
  (chk (↑k460:Int) y70.length).bind fun _ =>
  (wBr 0 (↑y282.length:Int) (m3I y282) (l450,x453,x454,(gd y70 k460),[(gd y70 k460)])).bind fun (y546,y547,y548,y549,y550) =>
  (app 24 l455 [y550]).bind fun x672 =>
  some (y546,y547,y548,x672)
def m4B:Nat->List Int × Int × Int × List wAH × List Int->Option (List Int × Int × Int × List wAH × List Int):=fun k792 (l779,x782,x783,l784,l788) =>
  (wAN (⟨l779,x782,x783⟩:wAE) (-60) 20).bind fun (x826,x827) =>
  (wAM x827 50).bind fun (x840,x841) =>
  (wAM x841 6).bind fun (x854,x855) =>
  (app 24 l784 [(⟨(⟨x826,w64 (x826 + x840)⟩:wAG),x854⟩:wAH)]).bind fun x880 =>
  (wAN x855 x826 (w64 (x826 + x840))).bind fun (x888,x889) =>
  (app 8 l788 [x888]).bind fun x908 =>
  some (x889.bytes,x889.next,x889.state,x880,x908)
def m5B (y70:List Int) (y282:List wAG) (y468:List (List Int)) (y800:List wAH) (y801:List Int):Nat->List Int × Int × Int × List wAX->Option (List Int × Int × Int × List wAX):=fun k1736 (l1727,x1730,x1731,l1732) =>
  ((wAM (⟨l1727,x1730,x1731⟩:wAE) (↑y70.length:Int)).bind fun (x1833,x1834) =>
  (wAM x1834 (w64 ((↑y282.length:Int) + 1))).bind fun (x1847,x1848) =>
  (wAM x1848 (↑y800.length:Int)).bind fun (x1861,x1862) =>
  some (x1862.bytes,x1862.next,x1862.state,x1833,x1847,x1861)).bind fun (l1767,x1770,x1771,x1774,x1775,x1776) =>
  (chk x1776 y800.length).bind fun _ =>
  (idx y468 x1774).bind fun x2140 =>
  (idx x2140 x1775).bind fun x2156 =>
  (chk x1776 y801.length).bind fun _ =>
  (wAN (⟨l1767,x1770,x1771⟩:wAE) (w64 (-((gd y800 x1776.toNat).Error))) ((gd y800 x1776.toNat).Error)).bind fun (x2171,x2172) =>
  if (w64 (-((gd y800 x1776.toNat).Error))) <= (w64 ((w64 ((max 0 (w64 ((w64 (x2156 + (gd y801 x1776.toNat))) + x2171))) - x2156)) - (gd y801 x1776.toNat))) then
   if (w64 ((w64 ((max 0 (w64 ((w64 (x2156 + (gd y801 x1776.toNat))) + x2171))) - x2156)) - (gd y801 x1776.toNat))) <= ((gd y800 x1776.toNat).Error) then
    (app 32 l1732 [(⟨x1774,x1775,x1776,max 0 (w64 ((w64 (x2156 + (gd y801 x1776.toNat))) + x2171))⟩:wAX)]).bind fun x2225 =>
    some (x2172.bytes,x2172.next,x2172.state,x2225)
   else
    some (x2172.bytes,x2172.next,x2172.state,l1732)
  else
   some (x2172.bytes,x2172.next,x2172.state,l1732)
theorem wLE (p0:wAE) (p1 p2 p3:Int):wBW p0 p1 p2 p3=(wAN p0 1 p1).bind fun (x10,x11) =>
 (wBr 0 x10 m1B (x11.bytes,x11.next,x11.state,[])).bind fun (y67,y68,y69,y70) =>
 (wAM (⟨y67,y68,y69⟩:wAE) p2).bind fun (x223,x224) =>
 (wBr 0 x223 m2B (x224.bytes,x224.next,x224.state,[])).bind fun (y279,y280,y281,y282) =>
 (wBr 0 (↑y70.length:Int) (m3B y70 y282) (y279,y280,y281,[])).bind fun (y465,y466,y467,y468) =>
 (wAN (⟨y465,y466,y467⟩:wAE) 1 3).bind fun (x726,x727) =>
 (wBr 0 x726 m4B (x727.bytes,x727.next,x727.state,[],[])).bind fun (y797,y798,y799,y800,y801) =>
 (wAM (⟨y797,y798,y799⟩:wAE) (w64 (p3 + 1))).bind fun (x1667,x1668) =>
 (wBr 0 x1667 (m5B y70 y282 y468 y800 y801) (x1668.bytes,x1668.next,x1668.state,[])).bind fun (y1741,y1742,y1743,y1744) =>
 some ((⟨y70,y282,y800,y1744⟩:wAD),y468,y801,(⟨y1741,y1742,y1743⟩:wAE)):=rfl
def M1 (n:Int) (k:Nat) (s:List Int × Int × Int × List Int):Prop:=0 <= s.2.1/\s.2.1 <= n + 2 * (k:Int)/\s.2.2.2.length=k/\∀ x ∈ s.2.2.2,0 <= x/\x <= 902
theorem wSS {n:Int} (n0:0 <= n) (n1:n <= 1000) {k:Nat} (hk:k < 10) {s:List Int × Int × Int × List Int} (I:M1 n k s):∃ s',m1B k s=some s'/\M1 n (k + 1) s':=by
 obtain ⟨b,nx,st,l⟩:=s
 obtain ⟨i0,i1,hl,he⟩:=I
 simp only at i0 i1 hl he
 unfold m1B
 simp only
 obtain ⟨x,d1,e1,p0,p1,x0,x1⟩:=wDy ⟨b,nx,st⟩ 4 i0 (by simp only;omega)
 obtain ⟨y,d2,e2,q0,q1,y0,y1⟩:=wDy d1 3 p0 (by simp only at p1;omega)
 simp only at p1
 rw [e1,hH]
 simp only
 rw [e2,hH]
 simp only
 rw [wAa (x:=300 * x) (by omega) (by omega),wAa (by omega) (by omega),wEH (by simp only [nG,nM];omega),hH]
 exact ⟨_,rfl,q0,by simp only;omega,by simp [hl],wJJ he (by omega)⟩
def M2 (n:Int) (k:Nat) (s:List Int × Int × Int × List wAG):Prop:=0 <= s.2.1/\s.2.1 <= n + 2 * (k:Int)/\s.2.2.2.length=k/\∀ x ∈ s.2.2.2,300 <= x.Lo/\x.Lo <= x.Hi/\x.Hi <= 1190
theorem wST {n:Int} (n0:0 <= n) (n1:n <= 1000) {k:Nat} (hk:k < 10) {s:List Int × Int × Int × List wAG} (I:M2 n k s):∃ s',m2B k s=some s'/\M2 n (k + 1) s':=by
 obtain ⟨b,nx,st,l⟩:=s
 obtain ⟨i0,i1,hl,he⟩:=I
 simp only at i0 i1 hl he
 unfold m2B
 simp only
 obtain ⟨x,d1,e1,p0,p1,x0,x1⟩:=wFd ⟨b,nx,st⟩ 3 9 i0 (by simp only;omega) (by omega) (by omega) (by omega)
 simp only at p1
 obtain ⟨y,d2,e2,q0,q1,y0,y1⟩:=wDy d1 30 p0 (by omega)
 rw [e1,hH]
 simp only
 rw [e2,hH]
 simp only
 rw [wAa (x:=100 * x) (by omega) (by omega),wAa (x:=10 * y) (by omega) (by omega),wAa (by omega) (by omega),wEH (by simp only [nG,nM];omega),hH]
 exact ⟨_,rfl,q0,by simp only;omega,by simp [hl],wJJ he (by simp only;omega)⟩
structure RowI (sp:List wAG) (s0:Int) (j:Nat) (l:List Int):Prop where
 len:l.length=j + 1
 z:gd l 0=s0
 d:∀ i,i < j->(gd sp i).Lo <= gd l (i + 1) - gd l i/\gd l (i + 1) - gd l i <= (gd sp i).Hi
 b:∀ i,i < j + 1->0 <= gd l i/\gd l i <= 902 + 1190 * (i:Int)
def M3 (sp:List wAG) (s0 n:Int) (k:Nat) (s:List Int × Int × Int × Int × List Int):Prop:=0 <= s.2.1/\s.2.1 <= n + (k:Int)/\s.2.2.2.1=gd s.2.2.2.2 k/\RowI sp s0 k s.2.2.2.2
theorem wSU {sp:List wAG} (hsp:∀ x ∈ sp,300 <= x.Lo/\x.Lo <= x.Hi/\x.Hi <= 1190) {s0 n:Int} (n0:0 <= n) (n1:n <= 1000) {k:Nat} (hk:k < sp.length) (hk2:k < 10) {s:List Int × Int × Int × Int × List Int} (I:M3 sp s0 n k s):∃ s',m3I sp k s=some s'/\M3 sp s0 n (k + 1) s':=by
 obtain ⟨b,nx,st,t,l⟩:=s
 obtain ⟨i0,i1,ht,R⟩:=I
 simp only at i0 i1 ht R
 have hs:=hsp _ (wBH hk)
 have hb:=R.b k (by omega)
 have hl:=R.len
 unfold m3I
 simp only
 obtain ⟨x,d1,e1,p0,p1,x0,x1⟩:=wFd ⟨b,nx,st⟩ (gd sp k).Lo (gd sp k).Hi i0 (by simp only;omega) (by omega) (by omega) (by omega)
 simp only at p1
 rw [wBJ (by omega) (by omega),hH,e1,hH]
 simp only
 rw [wAa (x:=t + x) (by omega) (by omega),wEH (by simp only [nG,nM];omega),hH]
 have gk:gd (l ++ [t + x]) (k + 1)=t + x:=by rw [<- hl,wFC]
 refine ⟨_,rfl,p0,by simp only;omega,gk.symm,by simp [hl],?_,fun i hi=>?_,fun i hi=>?_⟩
 ·simp only
  rw [wDa (by omega)];exact R.z
 ·simp only
  by_cases c:i=k
  ·rw [c,gk,wDa (by omega)]
   omega
  ·rw [wDa (by omega),wDa (by omega)]
   exact R.d i (by omega)
 ·simp only
  by_cases c:i=k + 1
  ·rw [c,gk];omega
  ·rw [wDa (by omega)]
   exact R.b i (by omega)
def M3o (st:List Int) (sp:List wAG) (n:Int) (k:Nat) (s:List Int × Int × Int × List (List Int)):Prop:=0 <= s.2.1/\s.2.1 <= n + 10 * (k:Int)/\s.2.2.2.length=k/\∀ i,i < k->RowI sp (gd st i) sp.length (gd s.2.2.2 i)
theorem wQD {st:List Int} (hst:∀ x ∈ st,0 <= x/\x <= 902) {sp:List wAG} (hl:sp.length <= 9) (hsp:∀ x ∈ sp,300 <= x.Lo/\x.Lo <= x.Hi/\x.Hi <= 1190) {n:Int} (n0:0 <= n) (n1:n <= 800) {k:Nat} (hk:k < st.length) (hk2:k < 10) {s:List Int × Int × Int × List (List Int)} (I:M3o st sp n k s):∃ s',m3B st sp k s=some s'/\M3o st sp n (k + 1) s':=by
 obtain ⟨b,nx,se,l⟩:=s
 obtain ⟨i0,i1,hll,he⟩:=I
 simp only at i0 i1 hll he
 have hs:=hst _ (wBH hk)
 unfold m3B
 simp only
 obtain ⟨⟨b',nx',st',t',l'⟩,e,J0,J1,_,J⟩:=wDp (n:=sp.length) (body:=m3I sp) (s0:=(b,nx,se,gd st k,[gd st k])) (M3 sp (gd st k) nx) (by omega) ⟨i0,by simp only;omega,rfl,rfl,rfl,(fun i hi=>by omega),fun i hi=>by
  obtain rfl:i=0:=by omega
  show 0 <= gd st k/\gd st k <= _
  omega⟩ fun i s hi I=>wSU hsp i0 (by omega) hi (by omega) I
 simp only at J0 J1 J
 rw [wBJ (by omega) (by omega),hH,e,hH]
 simp only
 rw [wEH (by simp only [nG,nM];omega),hH]
 refine ⟨_,rfl,J0,by simp only;omega,by simp [hll],fun i hi=>?_⟩
 simp only
 by_cases c:i=k
 ·rw [c,show gd (l ++ [l']) k=l' by rw [<- hll,wFC]]
  exact J
 ·rw [wDa (by omega)]
  exact he i (by omega)
def ClkI (c:wAH) (o:Int):Prop:=-60 <= c.Offset.Lo/\c.Offset.Lo <= c.Offset.Hi/\c.Offset.Hi <= 70/\0 <= c.Error/\c.Error <= 5/\c.Offset.Lo <= o/\o <= c.Offset.Hi
def M4 (n:Int) (k:Nat) (s:List Int × Int × Int × List wAH × List Int):Prop:=0 <= s.2.1/\s.2.1 <= n + 4 * (k:Int)/\s.2.2.2.1.length=k/\s.2.2.2.2.length=k/\∀ i,i < k->ClkI (gd s.2.2.2.1 i) (gd s.2.2.2.2 i)
theorem wSV {n:Int} (n0:0 <= n) (n1:n <= 1000) {k:Nat} (hk:k < 10) {s:List Int × Int × Int × List wAH × List Int} (I:M4 n k s):∃ s',m4B k s=some s'/\M4 n (k + 1) s':=by
 obtain ⟨b,nx,st,l,o⟩:=s
 obtain ⟨i0,i1,hl,ho,he⟩:=I
 simp only at i0 i1 hl ho he
 unfold m4B
 simp only
 obtain ⟨a,d1,e1,p0,p1,a0,a1⟩:=wFd ⟨b,nx,st⟩ (-60) 20 i0 (by simp only;omega) (by omega) (by omega) (by omega)
 simp only at p1
 obtain ⟨y,d2,e2,q0,q1,y0,y1⟩:=wDy d1 50 p0 (by omega)
 obtain ⟨z,d3,e3,r0,r1,z0,z1⟩:=wDy d2 6 q0 (by omega)
 obtain ⟨v,d4,e4,s0,s1,v0,v1⟩:=wFd d3 a (a + y) r0 (by omega) (by omega) (by omega) (by omega)
 rw [e1,hH]
 simp only
 rw [e2,hH]
 simp only
 rw [e3,hH]
 simp only
 rw [wAa (x:=a + y) (by omega) (by omega),wEH (by simp only [nG,nM];omega),hH,e4,hH]
 simp only
 rw [wEH (by simp only [nG,nM];omega),hH]
 refine ⟨_,rfl,s0,by simp only;omega,by simp [hl],by simp [ho],fun i hi=>?_⟩
 simp only
 by_cases c:i=k
 ·have h1:gd (l ++ [(⟨⟨a,a + y⟩,z⟩:wAH)]) i=⟨⟨a,a + y⟩,z⟩:=by rw [c,<- hl,wFC]
  have h2:gd (o ++ [v]) i=v:=by rw [c,<- ho,wFC]
  rw [h1,h2]
  unfold ClkI
  simp only
  omega
 ·rw [wDa (by omega),wDa (by omega)]
  exact he i (by omega)
def RdI (n m c:Nat) (T:List (List Int)) (C:List wAH) (O:List Int) (x:wAX):Prop :=
 (0 <= x.Skier/\x.Skier < n/\0 <= x.Mat/\x.Mat <= m/\0 <= x.Clock/\x.Clock < c)/\0 <= x.Time/\x.Time <= 100000/\-(gd C x.Clock.toNat).Error <= x.Time - gd (gd T x.Skier.toNat) x.Mat.toNat - gd O x.Clock.toNat/\x.Time - gd (gd T x.Skier.toNat) x.Mat.toNat - gd O x.Clock.toNat <= (gd C x.Clock.toNat).Error
def M5 (st:List Int) (sp:List wAG) (T:List (List Int)) (C:List wAH) (O:List Int) (n:Int) (k:Nat) (s:List Int × Int × Int × List wAX):Prop:=0 <= s.2.1/\s.2.1 <= n + 4 * (k:Int)/\s.2.2.2.length <= k/\∀ x ∈ s.2.2.2,RdI st.length sp.length C.length T C O x
theorem wSW {st:List Int} {sp:List wAG} {T:List (List Int)} {C:List wAH} {O:List Int} (h1:1 <= st.length) (h2:st.length <= 10) (h3:sp.length <= 9) (hT:T.length=st.length) (hR:∀ i,i < st.length->RowI sp (gd st i) sp.length (gd T i)) (c1:1 <= C.length) (c2:C.length <= 10) (hO:O.length=C.length) (hC:∀ i,i < C.length->ClkI (gd C i) (gd O i)) {n:Int} (n0:0 <= n) (n1:n <= 1000) {k:Nat} (hk:k < 50) {s:List Int × Int × Int × List wAX} (I:M5 st sp T C O n k s):∃ s',m5B st sp T C O k s=some s'/\M5 st sp T C O n (k + 1) s':=by
 obtain ⟨b,nx,se,l⟩:=s
 obtain ⟨i0,i1,hl,he⟩:=I
 simp only at i0 i1 hl he
 unfold m5B
 simp only
 obtain ⟨x,d1,e1,p0,p1,x0,x1⟩:=wDy ⟨b,nx,se⟩ (st.length:Int) i0 (by simp only;omega)
 simp only at p1
 obtain ⟨y,d2,e2,q0,q1,y0,y1⟩:=wDy d1 ((sp.length:Int) + 1) p0 (by omega)
 obtain ⟨z,d3,e3,r0,r1,z0,z1⟩:=wDy d2 (C.length:Int) q0 (by omega)
 have hx:x.toNat < st.length:=by omega
 have hz:z.toNat < C.length:=by omega
 obtain ⟨K1,K2,K3,K4,K5,K6,K7⟩:=hC z.toNat hz
 have R:=hR x.toNat hx
 have hb:=R.b y.toNat (by omega)
 have hlen:=R.len
 obtain ⟨v,d4,e4,s0,s1,v0,v1⟩:=wFd d3 (-(gd C z.toNat).Error) (gd C z.toNat).Error r0 (by omega) (by omega) (by omega) (by omega)
 rw [e1,hH]
 simp only
 rw [wAa (x:=(sp.length:Int) + 1) (by omega) (by omega),e2,hH]
 simp only
 rw [e3,hH,hH]
 simp only
 rw [wBJ (by omega) (by omega),hH,wFb x0 (by omega),hH,wFb y0 (by omega),hH,wBJ (by omega) (by omega),hH,wAa (x:=-(gd C z.toNat).Error) (by omega) (by omega),show (⟨d3.bytes,d3.next,d3.state⟩:wAE)=d3 from rfl,e4,hH]
 simp only
 rw [wAa (x:=gd (gd T x.toNat) y.toNat + gd O z.toNat) (by omega) (by omega),wAa (x:=gd (gd T x.toNat) y.toNat + gd O z.toNat + v) (by omega) (by omega),wAa (x:=max 0 (gd (gd T x.toNat) y.toNat + gd O z.toNat + v) - gd (gd T x.toNat) y.toNat) (by omega) (by omega),wAa (x:=_ - gd O z.toNat) (by omega) (by omega)]
 by_cases g1:-(gd C z.toNat).Error <= max 0 (gd (gd T x.toNat) y.toNat + gd O z.toNat + v) - gd (gd T x.toNat) y.toNat - gd O z.toNat
 ·rw [if_pos g1]
  by_cases g2:max 0 (gd (gd T x.toNat) y.toNat + gd O z.toNat + v) - gd (gd T x.toNat) y.toNat - gd O z.toNat <= (gd C z.toNat).Error
  ·rw [if_pos g2,wEH (by simp only [nG,nM];omega),hH]
   refine ⟨_,rfl,s0,by simp only;omega,by simp;omega,wJJ he ⟨?_,?_,?_,g1,g2⟩⟩
   ·simp only;omega
   ·simp only;omega
   ·simp only;omega
  ·rw [if_neg g2]
   exact ⟨_,rfl,s0,by simp only;omega,by simp only;omega,he⟩
 ·rw [if_neg g1]
  exact ⟨_,rfl,s0,by simp only;omega,by simp only;omega,he⟩
theorem wPE {d:wAE} (h0:d.next=0) {u w q:Int} (u1:1 <= u) (u2:u <= 8) (w1:1 <= w) (w2:w <= 8) (q0:0 <= q) (q1:q <= 40):∃ r T O d',wBW d u w q=some (r,T,O,d')/\RC r/\Lens r T O/\wDl r (yT T O)/\(∀ x ∈ r.Starts,x <= 902)/\(∀ x ∈ r.Clocks,-60 <= x.Offset.Lo/\x.Offset.Hi <= 70)/\(∀ x ∈ r.Readings,x.Time <= 100000)/\(∀ x ∈ r.Splits,300 <= x.Lo/\x.Hi <= 1190)/\1 <= r.Clocks.length/\(∀ x ∈ r.Clocks,x.Error <= 5)/\(r.Readings.length:Int) <= q/\(r.Starts.length:Int) <= u:=by
 rw [wLE]
 obtain ⟨x,d1,e1,m0,m1,x0,x1⟩:=wFd d 1 u (by omega) (by omega) (by omega) (by omega) (by omega)
 obtain ⟨n,rfl⟩:∃ n:Nat,x=n:=⟨x.toNat,by omega⟩
 obtain ⟨⟨b2,nx2,st2,S⟩,e2,a0,a1,hS,eS⟩:=wDp (n:=n) (body:=m1B) (s0:=(d1.bytes,d1.next,d1.state,[])) (M1 d1.next) (by omega) ⟨m0,by simp only;omega,rfl,by simp⟩ fun i s hi I=>wSS m0 (by omega) (by omega) I
 simp only at a0 a1 hS eS
 obtain ⟨y,d3,e3,b0,b1,y0,y1⟩:=wDy ⟨b2,nx2,st2⟩ w a0 (by simp only;omega)
 simp only at b1
 obtain ⟨m,rfl⟩:∃ n:Nat,y=n:=⟨y.toNat,by omega⟩
 obtain ⟨⟨b4,nx4,st4,P⟩,e4,c0,c1,hP,eP⟩:=wDp (n:=m) (body:=m2B) (s0:=(d3.bytes,d3.next,d3.state,[])) (M2 d3.next) (by omega) ⟨b0,by simp only;omega,rfl,by simp⟩ fun i s hi I=>wST b0 (by omega) (by omega) I
 simp only at c0 c1 hP eP
 obtain ⟨⟨b5,nx5,st5,T⟩,e5,f0,f1,hT,eT⟩:=wDp (n:=S.length) (body:=m3B S P) (s0:=(b4,nx4,st4,[])) (M3o S P nx4) (by omega) ⟨c0,by simp only;omega,rfl,fun i hi=>by omega⟩ fun i s hi I=>wQD eS (by omega) eP c0 (by omega) hi (by omega) I
 simp only at f0 f1 hT eT
 obtain ⟨z,d6,e6,g0,g1,z0,z1⟩:=wFd ⟨b5,nx5,st5⟩ 1 3 f0 (by simp only;omega) (by omega) (by omega) (by omega)
 simp only at g1
 obtain ⟨c,rfl⟩:∃ n:Nat,z=n:=⟨z.toNat,by omega⟩
 obtain ⟨⟨b7,nx7,st7,C,O⟩,e7,k0,k1,hC,hO,eC⟩:=wDp (n:=c) (body:=m4B) (s0:=(d6.bytes,d6.next,d6.state,[],[])) (M4 d6.next) (by omega) ⟨g0,by simp only;omega,rfl,rfl,fun i hi=>by omega⟩ fun i s hi I=>wSV g0 (by omega) (by omega) I
 simp only at k0 k1 hC hO eC
 obtain ⟨v,d8,e8,l0,l1,v0,v1⟩:=wDy ⟨b7,nx7,st7⟩ (q + 1) k0 (by simp only;omega)
 simp only at l1
 obtain ⟨h,rfl⟩:∃ n:Nat,v=n:=⟨v.toNat,by omega⟩
 have hTl:T.length=S.length:=by omega
 obtain ⟨⟨b9,nx9,st9,R⟩,e9,_,_,hR,eR⟩:=wDp (n:=h) (body:=m5B S P T C O) (s0:=(d8.bytes,d8.next,d8.state,[])) (M5 S P T C O d8.next) (by omega) ⟨l0,by simp only;omega,nQ _,by simp⟩ fun i s hi I=>wSW (by omega) (by omega) (by omega) hTl (fun i hi=>eT i (by omega)) (by omega) (by omega) (by omega) (fun i hi=>eC i (by omega)) l0 (by omega) (by omega) I
 simp only at hR eR
 rw [e1,hH]
 simp only
 rw [e2,hH]
 simp only
 rw [e3,hH]
 simp only
 rw [e4,hH]
 simp only
 rw [e5,hH]
 simp only
 rw [e6,hH]
 simp only
 rw [e7,hH]
 simp only
 rw [wAa (x:=q + 1) (by omega) (by omega),e8,hH]
 simp only
 rw [e9,hH]
 have hck:∀ x ∈ C,∃ o,ClkI x o:=fun x hx=>by
  obtain ⟨i,hi,rfl⟩:=wLo hx
  exact ⟨_,eC i (by omega)⟩
 have RR:RC ⟨S,P,C,R⟩:=⟨⟨by simp only;omega,by simp only;omega⟩,by simp only;omega,by simp only;omega,by simp only;omega,(fun s hs=>by have:=eS s hs;omega),(fun s hs=>by have:=eP s hs;omega),(fun s hs=>by
  obtain ⟨o,h1,h2,h3,h4,h5,h6,h7⟩:=hck s hs
  exact ⟨⟨h2,by omega,by omega⟩,h4,by omega⟩),(fun x hx=>by have:=eR x hx;exact ⟨this.2.1,by have:=this.2.2.1;omega⟩),fun x hx=>(eR x hx).1⟩
 refine ⟨⟨S,P,C,R⟩,T,O,_,rfl,RR,⟨hTl,fun k hk=>(eT k hk).len,by simp only;omega⟩,(wQB RR).2 ⟨?_,?_,?_⟩,fun x hx=>(eS x hx).2,fun x hx=>?_,fun x hx=>(eR x hx).2.2.1,fun x hx=>⟨(eP x hx).1,(eP x hx).2.2⟩,by simp only;omega,fun x hx=>by
  obtain ⟨o,_,_,_,_,h5,_⟩:=hck x hx
  exact h5,by simp only;omega,by simp only;omega⟩
 ·rw [wEJ]
  intro i _ hi
  have hi:i < S.length:=by simp only at hi;omega
  have Q:=eT i hi
  unfold wUF
  rw [nH,decide_eq_true_eq,wEJ]
  refine ⟨Q.z,fun j _ hj=>?_⟩
  unfold inB
  rw [decide_eq_true_eq]
  exact Q.d j (by simp only at hj;omega)
 ·rw [wEJ]
  intro i _ hi
  have Q:=eC i (by simp only at hi;omega)
  unfold clkS inB
  rw [decide_eq_true_eq]
  exact ⟨Q.2.2.2.2.2.1,Q.2.2.2.2.2.2⟩
 ·rw [wEJ]
  intro i _ hi
  have Q:=eR _ (wBH (l:=R) (k:=i) (by simp only at hi;omega))
  unfold redS inB
  rw [decide_eq_true_eq]
  exact ⟨Q.2.2.2.1,Q.2.2.2.2⟩
 ·obtain ⟨o,h1,h2,h3,_⟩:=hck x hx
  exact ⟨h1,h3⟩
theorem wQE {d:wAE} (h0:d.next=0) {u w q:Int} (u1:1 <= u) (u2:u <= 8) (w1:1 <= w) (w2:w <= 8) (q0:0 <= q) (q1:q <= 40):∃ r T O d',wBW d u w q=some (r,T,O,d')/\RC r/\Lens r T O/\wDl r (yT T O)/\(∀ x ∈ r.Starts,x <= 902)/\(∀ x ∈ r.Clocks,-60 <= x.Offset.Lo/\x.Offset.Hi <= 70)/\(∀ x ∈ r.Readings,x.Time <= 100000)/\(∀ x ∈ r.Splits,300 <= x.Lo/\x.Hi <= 1190)/\1 <= r.Clocks.length/\(∀ x ∈ r.Clocks,x.Error <= 5)/\(r.Readings.length:Int) <= q:=by
 obtain ⟨r,T,O,d',e,h1,h2,h3,h4,h5,h6,h7,h8,h9,h10,_⟩:=wPE h0 u1 u2 w1 w2 q0 q1
 exact ⟨r,T,O,d',e,h1,h2,h3,h4,h5,h6,h7,h8,h9,h10⟩
end Go.Proofs.YtkedcbligiebkaaGreat
namespace Go.Proofs.YtkedcbligiebkaaGreat
open Go.KL Go.KL.Net
open Classical
def ahS (n:Nat) (G:Nat->Nat->Int) (k l:Nat):List (List Int):=(nu n).map fun i=>if i < k then ahK G i n else if i=k then ahK G i l else []
theorem wFe (n:Nat) (G:Nat->Nat->Int) (k l:Nat):(ahS n G k l).length=n:=by simp [ahS]
theorem wQF {r:wAD} (S:wFH r) (m:Int):(wGB r [⟨0,m⟩] ≠ 0->wCr r m=some ([],wGB r [⟨0,m⟩]))/\(wGB r [⟨0,m⟩]=0->∀ F:Nat->Pt->Int,(∀ i,i < r.Starts.length->IsDP r ⟨(i:Int),m⟩ (F i))->wCr r m=some (ahL r.Starts.length (fun i j=>F i ⟨(j:Int),m⟩),0)):=by
 unfold wCr
 obtain ⟨o,e,h0,h1⟩:=wJz S m
 rw [e,hH]
 simp only
 constructor
 ·intro c
  have ho:=h1 c
  subst ho
  simp only
  rw [if_neg c]
 ·intro c F hF
  obtain ⟨d,pts,rfl,D⟩:=h0 c
  obtain ⟨C,m0,m1,hy⟩:=wQn c
  obtain ⟨a,e1,ha⟩:=wHj D hy m0 m1 hF
  have hn:=C.n
  have mk:mkz 24 (↑r.Starts.length:Int) ([]:List Int)=some (List.replicate r.Starts.length []):=by
   unfold mkz
   rw [if_pos (by omega),nB]
  simp only
  rw [if_pos c,e1,hH,mk,hH,List.length_replicate,wDI (S:=List (List Int)) (n:=r.Starts.length) (fun k=>ahS r.Starts.length (fun i j=>F i ⟨(j:Int),m⟩) k 0) (s0:=List.replicate r.Starts.length []) ?_ (by omega) fun k hk=>?_]
  ·rw [hH]
   congr 2
   unfold ahS ahL
   exact nY fun i hi=>if_pos (na.1 hi)
  ·unfold ahS
   refine wLk (by simp) fun i hi=>?_
   rw [nL,kG] at hi
   rw [wJy _ hi,if_neg (by omega),wEB (by simpa using hi)]
   simp [ahK]
  ·rw [wFe,wDI (S:=List (List Int)) (n:=r.Starts.length) (fun j=>ahS r.Starts.length (fun i j=>F i ⟨(j:Int),m⟩) k j) (s0:=ahS r.Starts.length (fun i j=>F i ⟨(j:Int),m⟩) k 0) rfl (by omega) fun j hj=>?_]
   ·rw [hH]
    congr 1
    unfold ahS
    refine nY fun i hi=>?_
    by_cases c1:i < k
    ·rw [if_pos c1,if_pos (by omega)]
    ·rw [if_neg c1]
     by_cases c2:i=k
     ·rw [if_pos c2,if_pos (by omega)]
     ·rw [if_neg c2,if_neg (by omega)]
      split
      ·rfl
      ·rfl
   ·have gk:gd (ahS r.Starts.length (fun i j=>F i ⟨(j:Int),m⟩) k j) k=ahK (fun i j=>F i ⟨(j:Int),m⟩) k j:=by
     unfold ahS
     rw [wJy _ hk,if_neg (by omega),if_pos rfl]
    have l1:=wJC (fun i j=>F i ⟨(j:Int),m⟩) k j
    rw [wBJ (by omega) (by omega),hH,wBJ (by omega) (by omega),hH,ha k j hk hj]
    by_cases c1:F k ⟨(j:Int),m⟩ < 0
    ·rw [if_pos c1,wBJ (by omega) (by rw [wFe];omega),hH,gk,wEH (by simp only [nG,nM];omega),hH]
     congr 1
     refine wLk (by rw [nh,wFe,wFe]) fun i hi=>?_
     rw [nh,wFe] at hi
     rw [wJr (by rw [wFe];exact hk) (by rw [wFe];exact hi)]
     unfold ahS
     rw [wJy _ hi,wJy _ hi]
     by_cases c2:i=k
     ·rw [if_pos c2,if_neg (by omega),if_pos c2,c2,wGr,if_pos c1]
     ·rw [if_neg c2,if_neg c2,if_neg c2]
    ·rw [if_neg c1]
     congr 1
     unfold ahS
     refine nY fun i _=>?_
     by_cases c2:i=k
     ·rw [c2,wGr,if_neg c1]
     ·rw [if_neg c2,if_neg c2]
end Go.Proofs.YtkedcbligiebkaaGreat
namespace Go.Proofs.YtkedcbligiebkaaGreat
open Go.KL Go.KL.Net
open Classical
theorem wUG {r:wAD} (S:wFH r) {a b:wAW} (c:wGB r [a,b]=0) {f g:Pt->Int} (hf:IsDP r (pt a) f) (hg:IsDP r (pt b) g):wEP r a b=some (⟨-g (pt a),f (pt b)⟩,0):=by
 unfold wEP
 obtain ⟨o,e,h0,_⟩:=wLu S (l:=[a,b]) (by simp)
 obtain ⟨d,pts,rfl,D⟩:=h0 c
 obtain ⟨C,_,hs,hy⟩:=err0 c
 simp only [nw,kC,ny,nH] at hs
 have ha:=(wKy (r:=r) (s:=a) hs.1).1
 have hb:=(wKy (r:=r) (s:=b) hs.2).1
 obtain ⟨f',l1,e1,n1,F'⟩:=D.from_ hy ha
 obtain ⟨g',l2,e2,n2,G'⟩:=D.from_ hy hb
 have f1:=F'.one hf hb
 have g1:=G'.one hg ha
 have gn:=hg.near C hb ha
 have pa:=D.pos_ok ha
 have pb:=D.pos_ok hb
 rw [e,hH]
 simp only
 rw [if_pos c]
 unfold wDt
 rw [hH,hH]
 show (wBl d (pt a) (pt b)).bind _=_
 unfold wBl
 rw [pa.2.2,pb.2.2,e1,hH]
 simp only
 rw [hH,e2,hH]
 simp only
 rw [hH]
 simp only
 rw [wBJ (by omega) (by omega),hH,wBJ (by omega) (by omega),hH,nB,nB,f1,g1,wAa (by omega) (by omega)]
 rfl
theorem dp_ex {r:wAD} (S:wFH r) (c:code r=0) (hy:∃ y,wDl r y) {a:Pt} (ha:wIE r a):∃ f,IsDP r a f:=by
 rcases wLt S with ⟨c0,_⟩ | ⟨_,d,pts,_,D⟩
 ·exact absurd c c0
 ·obtain ⟨f,l,_,_,F⟩:=D.from_ hy ha
  exact ⟨_,F⟩
end Go.Proofs.YtkedcbligiebkaaGreat
namespace Go.Proofs.YtkedcbligiebkaaGreat
open Go.KL Go.KL.Net
open Classical
def rsL (T:List (List Int)) (m k:Nat):List wAI:=(nu k).map fun (i:Nat)=>⟨(i:Int) + 1,gd (gd T i) m⟩
theorem wQp {l:List wAI} {p:List Int} (P:Plc l ru1 p) (hb:∀ i,i < l.length->(gd l i).Bib=(i:Int) + 1) (hn:l.length <= 1000) {i k:Nat} (hi:i < l.length) (hk:k < l.length) (e:gd p i=(k:Int)):wBC (k:Int) (p.map (stt l ru1))=some (i:Int):=by
 have pl:p.length=l.length:=(wFI P (k:=i) hi).1
 unfold wBC wAg
 refine (congrArg (fun o=>Option.bind o fun x13:Int=>some x13) (wMZ (f:=fun x=>wAl x (k:Int)) (p:=fun x=>decide (x.Bib=(k:Int) + 1)) (fun a _=>by
  unfold wAl
  rw [wAa (by omega) (by omega)]) (by rw [nL];omega) (fun x:Int=>x))).trans ?_
 rw [hH]
 have bib:∀ q,q < l.length->(gd (p.map (stt l ru1)) q).Bib=gd p q + 1:=fun q hq=>by
  obtain ⟨_,a,b⟩:=wFI P (k:=q) hq
  rw [wHh _ (by omega)]
  unfold stt
  simp only
  rw [hb _ (by omega)]
  omega
 rw [wLz (j:=i) (by rw [nL];omega) (by rw [bib i hi,e];simp) (fun q hq=>by
  rw [bib q (by omega)]
  refine decide_eq_false fun h=>?_
  have:gd p q=gd p i:=by rw [e];omega
  have:=inj1 P (by omega) hi this
  omega)]
 refine congrArg some ?_
 omega
theorem wMk (p0:List Int):wBn p0=some true:=by
 have aw:wCc=some true:=rfl
 unfold wBn
 rw [show wDA p0=some ⟨p0,0,17⟩ from rfl,hH]
 obtain ⟨r,T,O,d',e,C,L,F,h5,_,_,hsp,_⟩:=wQE (d:=⟨p0,0,17⟩) rfl (u:=6) (w:=5) (q:=14) (by omega) (by omega) (by omega) (by omega) (by omega) (by omega)
 have hn:=C.n;have hm:=C.m;have hc:=C.c;have hq:=C.q
 have S:wFH r:=⟨by omega,by omega,by omega,by omega⟩
 have hT:=L.t
 rw [e,hH]
 simp only
 rw [wDI (S:=List wAI) (n:=T.length) (fun k=>rsL T r.Splits.length k) (s0:=[]) rfl (by omega) fun k hk=>by
  rw [wDw hk,hH,wDw (by rw [L.l k (by omega)];omega),hH,wEH (by simp only [rsL,nL,kG,nG,nM];omega),hH]
  unfold rsL
  rw [List.range_succ,ni]
  rfl,hH,hT]
 have ll:(rsL T r.Splits.length r.Starts.length).length=r.Starts.length:=by simp [rsL]
 have lg:∀ k,k < r.Starts.length->gd (rsL T r.Splits.length r.Starts.length) k=⟨(k:Int) + 1,gd (gd T k) r.Splits.length⟩:=fun k hk=>by
  unfold rsL
  rw [wJy _ hk]
 have yz:yT T O zp=0:=rfl
 have yk:∀ k:Nat,yT T O ⟨(k:Int),(r.Splits.length:Int)⟩=gd (gd T k) r.Splits.length:=fun k=>by
  unfold yT
  rw [if_neg (by simp only;omega)]
  simp only [nB]
 have rg:∀ k,k < r.Starts.length->0 <= gd (gd T k) r.Splits.length/\gd (gd T k) r.Splits.length <= 300000:=fun k hk=>by
  have s:=wTw F (s:=k) hk r.Splits.length (nQ _)
  rw [yz,yk] at s
  have s0:=C.st _ (wBH hk)
  have s1:=h5 _ (wBH hk)
  have b1:=wKz (f:=fun j=>(gd r.Splits j).Lo) (b:=1190) (m:=r.Splits.length) fun q hq=>by
   have a:=C.sp _ (wBH hq)
   have b:=hsp _ (wBH hq)
   omega
  have b2:=wKz (f:=fun j=>(gd r.Splits j).Hi) (b:=1190) (m:=r.Splits.length) fun q hq=>by
   have a:=C.sp _ (wBH hq)
   have b:=hsp _ (wBH hq)
   omega
  omega
 have G:wJI (rsL T r.Splits.length r.Starts.length) ru1:=by
  refine ⟨by omega,fun x hx=>?_,fun x hx=>?_,by unfold ru1;simp only;omega,by unfold ru1;simp only;omega,wPA.2 fun i hi j hj=>?_⟩
  ·obtain ⟨i,hi,rfl⟩:=wJH hx
   rw [lg i (by omega)]
   simp only
   omega
  ·obtain ⟨i,hi,rfl⟩:=wJH hx
   have:=rg i (by omega)
   rw [lg i (by omega)]
   simp only
   omega
  ·rw [lg i (by omega),lg j (by omega)]
   simp only
   omega
 generalize rsL T r.Splits.length r.Starts.length=l at ll lg G
 obtain ⟨p,hP,eP⟩:=wMj (l:=l) (r:=ru1) (by omega)
 have e0:=wHm.2 G
 have P:=hP e0
 have pl:p.length=r.Starts.length:=by rw [(wFI P (k:=0) (by omega)).1,ll]
 rw [show (⟨1,360000⟩:wAZ)=ru1 from rfl,eP,e0,if_pos rfl,hH]
 simp only
 have c0:=wSR C
 have pok:∀ i:Nat,i < r.Starts.length->wIE r ⟨(i:Int),(r.Splits.length:Int)⟩:=fun i hi=>.inr (.inl ⟨by simp only;omega,by simp only;omega,by simp only;omega,by simp only;omega⟩)
 have hg:∀ i:Nat,∃ g:Pt->Int,i < r.Starts.length->IsDP r ⟨(i:Int),(r.Splits.length:Int)⟩ g:=fun i=>by
  by_cases hi:i < r.Starts.length
  ·obtain ⟨g,h⟩:=dp_ex S c0 ⟨_,F⟩ (pok i hi)
   exact ⟨g,fun _=>h⟩
  ·exact ⟨fun _=>0,fun h=>absurd h hi⟩
 obtain ⟨g,hg⟩:=Classical.axiomOfChoice hg
 have spt:∀ i:Nat,i < r.Starts.length->wJx r ⟨(i:Int),(r.Splits.length:Int)⟩=true:=fun i hi=>by
  simp only [wJx,inB,nH,decide_eq_true_eq]
  omega
 have c1:wGB r [⟨0,(r.Splits.length:Int)⟩]=0:=by
  unfold wGB
  rw [if_pos c0,if_pos (by
   have:=spt 0 (by omega)
   simp only [nw,kC,ny]
   exact this),if_pos ⟨_,F⟩]
 rw [(wQF S (r.Splits.length:Int)).2 c1 g hg,hH]
 simp only
 rw [(wOs S (r.Splits.length:Int)).2 c1 g hg,hH]
 simp only
 have l1:(ahL r.Starts.length fun i j=>g i ⟨(j:Int),(r.Splits.length:Int)⟩).length=r.Starts.length:=by simp [ahL]
 have l2:(plL r.Starts.length fun i j=>g i ⟨(j:Int),(r.Splits.length:Int)⟩).length=r.Starts.length:=by simp [plL]
 obtain ⟨_,a0,a1⟩:=wFI P (k:=0) (by omega)
 obtain ⟨a,ea⟩:∃ a:Nat,gd p 0=(a:Int):=⟨(gd p 0).toNat,by omega⟩
 have ha:a < r.Starts.length:=by omega
 have i0:idx (p.map (stt l ru1)) 0=some (stt l ru1 (gd p 0)):=by
  have:=wDw (l:=p.map (stt l ru1)) (k:=0) (by rw [nL];omega)
  rw [wHh _ (by omega)] at this
  exact this
 have b0:(stt l ru1 (gd p 0)).Bib=(a:Int) + 1:=by
  unfold stt
  simp only
  rw [ea,nB,lg a ha]
 have wa:w64 ((stt l ru1 (gd p 0)).Bib - 1)=(a:Int):=by
  rw [b0,wAa (by omega) (by omega)];omega
 obtain ⟨best,mn⟩:=wUE G P (by omega)
 rw [ea,nB,lg a ha] at best mn
 simp only at best mn
 have gp:∀ i j:Nat,i < r.Starts.length->j < r.Starts.length->gd (gd T j) r.Splits.length - gd (gd T i) r.Splits.length <= g i ⟨(j:Int),(r.Splits.length:Int)⟩:=fun i j hi hj=>by
  have:=(hg i hi).gr _ F ⟨(j:Int),(r.Splits.length:Int)⟩ (pok j hj)
  rw [yk,yk] at this
  exact this
 have ah:∀ i:Nat,(ahK (fun i j=>g i ⟨(j:Int),(r.Splits.length:Int)⟩) i r.Starts.length).length=(nu r.Starts.length).countP fun (j:Nat)=>decide (g i ⟨(j:Int),(r.Splits.length:Int)⟩ < 0):=fun i=>by
  unfold ahK
  rw [nL,List.countP_eq_length_filter]
 rw [if_pos trivial,if_pos trivial,if_pos trivial,if_pos (by rw [nL,pl]),if_pos (by rw [l1]),if_pos (by rw [l2]),i0,hH,wa,if_neg (by omega),if_neg (by omega),wBJ (by omega) (by rw [l2];omega),hH,nB,if_pos (by
  unfold plL
  rw [wJy _ ha]
  simp only
  rw [ah a,List.countP_eq_zero.2 fun j hj=>by
   have hj:=na.1 hj
   have h1:=gp a j ha hj
   have h2:=mn j (by omega)
   rw [lg j hj] at h2
   simp only at h2
   rw [decide_eq_true_eq]
   omega]
  rfl)]
 have hb:∀ i,i < l.length->(gd l i).Bib=(i:Int) + 1:=fun i hi=>by rw [lg i (by omega)]
 have tm:∀ i k:Nat,i < r.Starts.length->k < r.Starts.length->gd p i=(k:Int)->(idx (p.map (stt l ru1)) (i:Int)=some (stt l ru1 (k:Int))/\(stt l ru1 (k:Int)).Time=gd (gd T k) r.Splits.length - gd (gd T a) r.Splits.length):=fun i k hi hk e=>by
  refine ⟨by rw [wDw (by rw [nL];omega),wHh _ (by omega),e],?_⟩
  unfold stt
  simp only
  rw [nB,dfc1 G (wBH (by omega)),best,lg k hk]
 rw [wJq (by omega) fun k hk=>?_,wGw,aw]
 ·rfl
 ·obtain ⟨i,hi,ei⟩:=pos1 P (k:=k) (by omega)
  rw [wQp P hb (by omega) hi (by omega) ei,hH,if_neg (by omega)]
  have cg:wGB r [⟨(a:Int),(r.Splits.length:Int)⟩,⟨(k:Int),(r.Splits.length:Int)⟩]=0:=by
   unfold wGB
   rw [if_pos c0,if_pos (by simp only [nw,kC,ny,spt a ha,spt k hk]),if_pos ⟨_,F⟩]
  obtain ⟨t1,t2⟩:=tm i k (by omega) hk ei
  rw [wUG S cg (hg a ha) (hg k hk),hH]
  simp only
  have u1:=gp a k ha hk
  have u2:=gp k a hk ha
  rw [if_pos trivial,t1,hH,t2,if_neg (show ¬ gd (gd T k) r.Splits.length - gd (gd T a) r.Splits.length < -g k (pt ⟨(a:Int),(r.Splits.length:Int)⟩) by
   show ¬ gd (gd T k) r.Splits.length - gd (gd T a) r.Splits.length < -g k ⟨(a:Int),(r.Splits.length:Int)⟩
   omega),if_neg (show ¬ g a (pt ⟨(k:Int),(r.Splits.length:Int)⟩) < gd (gd T k) r.Splits.length - gd (gd T a) r.Splits.length by
   show ¬ g a ⟨(k:Int),(r.Splits.length:Int)⟩ < gd (gd T k) r.Splits.length - gd (gd T a) r.Splits.length
   omega),wDw (by rw [l1];exact hk),hH]
  have row:gd (ahL r.Starts.length fun i j=>g i ⟨(j:Int),(r.Splits.length:Int)⟩) k=ahK (fun i j=>g i ⟨(j:Int),(r.Splits.length:Int)⟩) k r.Starts.length:=by
   unfold ahL
   rw [wJy _ hk]
  have rl:=wJC (fun i j=>g i ⟨(j:Int),(r.Splits.length:Int)⟩) k r.Starts.length
  rw [row,wJq (by omega) fun q hq=>?_,wGw]
  have hmem:=wBH hq
  rw [wDw hq,hH]
  generalize gd (ahK (fun i j=>g i ⟨(j:Int),(r.Splits.length:Int)⟩) k r.Starts.length) q=x at hmem
  unfold ahK at hmem
  simp only [kB,List.mem_filter,na,decide_eq_true_eq] at hmem
  obtain ⟨o,⟨ho,hlt⟩,rfl⟩:=hmem
  obtain ⟨j,hj,ej⟩:=pos1 P (k:=o) (by omega)
  have v:=gp k o hk ho
  have bf:=wSP G P hj hi (by
   rw [ej,ei,nB,nB,lg o ho,lg k hk]
   simp only
   omega)
  obtain ⟨s1,s2⟩:=tm j o (by omega) ho ej
  rw [wQp P hb (by omega) hj (by omega) ej,hH,if_neg (by omega),if_neg (by omega),s1,hH,s2,if_neg (by omega)]
end Go.Proofs.YtkedcbligiebkaaGreat
