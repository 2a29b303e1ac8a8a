import Derived.Test.YtabadkdjndnliaaGreatS3
import Derived.Test.YtabadkdjndnliaaGreatS1
set_option linter.all false
open Option renaming bind_some->nA,getD_some->nj,getD_none->nk
open List renaming length_map->nD,replicate->nG,length_take->nH,length_range->nI,mem_singleton->nJ,map_append->nK,take_length->nL,mem_append->nM,range->nN,mem_append_right->nO,mem_append_left->nP,mem_map->nR,countP_append->nS,mem_of_mem_take->nT,length_append->nU,take_append_drop->nV,countP_le_length->nW,mem_range->nX,pairwise_append->nY,nodup_append->na,getElem_of_mem->nc,set->ng,getElem_range->nh,perm_middle->nl,map_map->nn,length_eq_zero_iff->nq,range_succ->nr,length_set->ns,countP_eq_length->nt,set_append_right->nu,length_singleton->nv,length_replicate->nw,mem_cons_of_mem->ny,replicate_succ->kB,countP_eq_zero->kC,append_of_mem->kD,mem_cons_self->kG,getElem?_map->kI,pairwise_map->kJ
open Int renaming toNat_natCast->nE,le_refl->nQ,add_assoc->kA
open Bool renaming false_ne_true->nZ,and_eq_true->nm,false_eq_true->kF
open List.Pairwise renaming imp_of_mem->np,nil->kH
open Nat renaming sub_self->kE
open List.Perm renaming trans->kK
open Option.some renaming inj->kL
namespace Go.Proofs.YtabadkdjndnliaaGreat
open Go.KL
theorem wPd {S B:Type} {body:S->Option (S ⊕ B)} {X:Option B} {F:Nat} {s:S} (h:body s=esc X):iter body (F + 1) s=X:=by
 rw [iter,h]
 cases X <;> rfl
theorem wFo {S B:Type} {body:S->Option (S ⊕ B)} (I:Nat->S->Prop) (m:Nat) {s0:S} (h0:I 0 s0) (hm:m < 1000000) (step:∀ i s,i < m->I i s->∃ s',body s=some (.inl s')/\I (i + 1) s'):∃ s,I m s/\∀ X,body s=esc X->iter body big s0=X:=by
 have key:∀ (d i:Nat) (s:S),i + d=m->I i s->∀ F,d < F->∃ s',I m s'/\∀ X,body s'=esc X->iter body F s=X:=by
  intro d
  induction d with
  | zero =>
   intro i s hi hI F hF
   obtain ⟨F,rfl⟩:∃ G,F=G + 1:=⟨F - 1,by omega⟩
   obtain rfl:i=m:=by omega
   exact ⟨s,hI,fun X h=>wPd h⟩
  | succ d ih =>
   intro i s hi hI F hF
   obtain ⟨F,rfl⟩:∃ G,F=G + 1:=⟨F - 1,by omega⟩
   obtain ⟨s',h1,h2⟩:=step i s (by omega) hI
   obtain ⟨s'',h3,h4⟩:=ih (i + 1) s' (by omega) h2 F (by omega)
   exact ⟨s'',h3,fun X h=>by rw [iter,h1];exact h4 X h⟩
 exact key m 0 s0 (by omega) h0 big (by unfold big;omega)
def Mn (last:Int) (seen:Int->Prop) (x:Int):Prop:=(x=-1/\∀ y,seen y->y <= last) \/ (last < x/\seen x/\∀ y,seen y->last < y->x <= y)
theorem Mn.congr {last:Int} {p q:Int->Prop} {x:Int} (h:Mn last p x) (e:∀ y,p y ↔ q y):Mn last q x:=by
 have:p=q:=funext fun y=>propext (e y)
 exact this ▸ h
theorem bB_is {r:wAF} (G:wGQ r) {last:Int} (hl:-1 <= last) {i:Nat} (hi:i < r.Times.length) {seen:Int->Prop} {x:Int} (h:Mn last seen x):∃ x',iter (bB r last (i:Int)) big (x,0)=some (.inl (x',(i:Int) + 1))/\Mn last (fun y=>seen y \/ y ∈ gd r.Times i) x':=by
 have hn:=G.n;have ht:=G.t
 have hli:=G.len _ (wAW hi)
 obtain ⟨⟨x',k'⟩,⟨hk,hM⟩,hend⟩:=wFo (body:=bB r last (i:Int)) (s0:=(x,(0:Int))) (fun q s=>s.2=(q:Int)/\Mn last (fun y=>seen y \/ y ∈ (gd r.Times i).take q) s.1) (gd r.Times i).length ⟨rfl,h.congr fun y=>by simp⟩ (by omega) (fun q s hq ⟨h1,h2⟩=>by
  obtain ⟨x,k⟩:=s
  simp only at h1 h2
  subst h1
  unfold bB
  simp only
  rw [wAX hi,nA,if_pos (by omega),wAX hq,nA,wAQ (by omega) (by omega)]
  have hs:∀ y,(seen y \/ y ∈ (gd r.Times i).take (q + 1)) ↔ ((seen y \/ y ∈ (gd r.Times i).take q) \/ y=gd (gd r.Times i) q):=fun y=>by
   rw [wBo hq,nM,nJ,or_assoc]
  generalize gd (gd r.Times i) q=v at hs
  have fin:∀ x',Mn last (fun y=>(seen y \/ y ∈ (gd r.Times i).take q) \/ y=v) x'->∃ s',some (.inl (x',(q:Int) + 1))=(some (.inl s'):Option ((Int × Int) ⊕ ((Int × Int) ⊕ QR)))/\s'.2=((q + 1:Nat):Int)/\Mn last (fun y=>seen y \/ y ∈ (gd r.Times i).take (q + 1)) s'.1:=fun x' hx=>⟨_,rfl,rfl,hx.congr fun y=>(hs y).symm⟩
  by_cases c:last < v
  ·rw [if_pos c]
   rcases h2 with ⟨rfl,h3⟩ | ⟨h3,h4,h5⟩
   ·rw [if_pos (by omega)]
    exact fin v (.inr ⟨c,.inr rfl,fun y hy hly=>by
     rcases hy with hy | hy
     ·have:=h3 y hy;omega
     ·omega⟩)
   ·rw [if_neg (by omega)]
    by_cases d:v < x
    ·rw [if_pos d]
     exact fin v (.inr ⟨c,.inr rfl,fun y hy hly=>by
      rcases hy with hy | hy
      ·have:=h5 y hy hly;omega
      ·omega⟩)
    ·rw [if_neg d]
     exact fin x (.inr ⟨h3,.inl h4,fun y hy hly=>by
      rcases hy with hy | hy
      ·exact h5 y hy hly
      ·omega⟩)
  ·rw [if_neg c]
   rcases h2 with ⟨rfl,h3⟩ | ⟨h3,h4,h5⟩
   ·exact fin _ (.inl ⟨rfl,fun y hy=>by
     rcases hy with hy | hy
     ·exact h3 y hy
     ·omega⟩)
   ·exact fin x (.inr ⟨h3,.inl h4,fun y hy hly=>by
     rcases hy with hy | hy
     ·exact h5 y hy hly
     ·omega⟩))
 simp only at hk hM
 subst hk
 refine ⟨x',hend _ ?_,hM.congr fun y=>by rw [nL]⟩
 unfold bB
 simp only
 rw [wAX hi,nA,if_neg (by omega),wAQ (by omega) (by omega)]
theorem aB_is {r:wAF} (G:wGQ r) {last:Int} (hl:-1 <= last) (l66:List Int) (l67:RO):∃ x,Mn last (fun y=>∃ l ∈ r.Times,y ∈ l) x/\iter (aB r l66 l67 last) big (-1,0)=if x < 0 then some (.inr (l67,l66)) else iter (nB r l66 l67 x) big ([],0):=by
 have hn:=G.n;have ht:=G.t
 obtain ⟨⟨x,k⟩,⟨hk,hM⟩,hend⟩:=wFo (body:=aB r l66 l67 last) (s0:=((-1:Int),(0:Int))) (fun q s=>s.2=(q:Int)/\Mn last (fun y=>∃ l ∈ r.Times.take q,y ∈ l) s.1) r.Times.length ⟨rfl,.inl ⟨rfl,fun y hy=>by obtain ⟨l,hl,_⟩:=hy;simp at hl⟩⟩ (by omega) (fun q s hq ⟨h1,h2⟩=>by
  obtain ⟨x,k⟩:=s
  simp only at h1 h2
  subst h1
  unfold aB
  simp only
  rw [if_pos (by omega)]
  obtain ⟨x',e,hx⟩:=bB_is G hl hq h2
  refine ⟨_,e,rfl,hx.congr fun y=>?_⟩
  rw [wBo hq]
  constructor
  ·rintro (⟨l,h1,h2⟩ | h)
   ·exact ⟨l,nP _ h1,h2⟩
   ·exact ⟨_,nO _ (nJ.2 rfl),h⟩
  ·rintro ⟨l,h1,h2⟩
   rcases nM.1 h1 with h1 | h1
   ·exact .inl ⟨l,h1,h2⟩
   ·rw [nJ.1 h1] at h2;exact .inr h2)
 simp only at hk hM
 subst hk
 refine ⟨x,hM.congr fun y=>by rw [nL],hend _ ?_⟩
 unfold aB
 simp only
 rw [if_neg (by omega)]
 by_cases c:x < 0
 ·rw [if_pos c,if_pos c];rfl
 ·rw [if_neg c,if_neg c]
def cvO (o:wAG):wAf:=⟨o.Bib,o.Done,o.Time,o.By⟩
structure Gone (r:wAF) (t:Int) (τ:Nat->Option Int) (g:List Int):Prop where
 len:g.length=r.Bibs.length
 at_:∀ i,i < r.Bibs.length->gd g i=(τ i).getD (-1)
 lt:∀ i s,i < r.Bibs.length->τ i=some s->0 <= s/\s < t
def ByI (r:wAF) (τ:Nat->Option Int) (i:Nat) (t:Int) (k:Nat) (x:Int):Prop :=
 (x=0/\∀ j,j < k->¬ lap r τ i t j) \/ (∃ j,j < k/\x=gd r.Bibs j/\0 < x/\lap r τ i t j/\∀ q,q < k->lap r τ i t q->gd r.Bibs j <= gd r.Bibs q)
section
variable {r:wAF} (G:wGQ r) (hb:∀ b ∈ r.Bibs,1 <= b) {t:Int} {τ:Nat->Option Int} {g:List Int} (K:Gone r t τ g)
include G K
theorem wQk {i j:Nat} (hj:j < r.Bibs.length):lap r τ i t j ↔ τ j=none/\cn (gd r.Times i) t + 2 <= cn (gd r.Times j) t/\gd (gd r.Times j) (cn (gd r.Times j) t - 1)=t:=by
 have ht:=G.t
 have hinc:=G.inc _ (wAW (l:=r.Times) (k:=j) (by omega))
 unfold lap
 constructor
 ·rintro ⟨_,h1,h2,h3⟩
  obtain ⟨c1,c2,c3⟩:=wPz hinc h2
  refine ⟨?_,h3,c3⟩
  cases c:τ j with
  | none=>rfl
  | some s =>
   have:=h1 s c
   have:=(K.lt j s hj c).2
   omega
 ·rintro ⟨h1,h2,h3⟩
  have hle:=wJl (gd r.Times j) t
  refine ⟨hj,(fun s hs=>by rw [h1] at hs;cases hs),?_,h2⟩
  have:=wAW (l:=gd r.Times j) (k:=cn (gd r.Times j) t - 1) (by omega)
  rwa [h3] at this
include hb
theorem wRz {i k:Nat} (hi:i < r.Bibs.length) (hk:k < r.Bibs.length) {x:Int} (I:ByI r τ i t k x):∃ x',byB r g t (cn (gd r.Times i) t:Int) x (k:Int)=some x'/\ByI r τ i t (k + 1) x':=by
 have hn:=G.n;have ht:=G.t;have hgl:=K.len
 have hlk:=G.len _ (wAW (l:=r.Times) (k:=k) (by omega))
 have hli:=G.len _ (wAW (l:=r.Times) (k:=i) (by omega))
 have hc1:=wJl (gd r.Times k) t
 have hc2:=wJl (gd r.Times i) t
 have hbk:=hb _ (wAW hk)
 have no:¬ lap r τ i t k->ByI r τ i t (k + 1) x:=fun h=>by
  rcases I with ⟨h1,h2⟩ | ⟨j,h1,h2,h3,h4,h5⟩
  ·exact .inl ⟨h1,fun j hj=>by
    by_cases e:j=k
    ·subst e;exact h
    ·exact h2 j (by omega)⟩
  ·exact .inr ⟨j,by omega,h2,h3,h4,fun q hq hl=>by
    by_cases e:q=k
    ·subst e;exact absurd hl h
    ·exact h5 q (by omega) hl⟩
 have yes:lap r τ i t k->(x=0 \/ gd r.Bibs k < x)->ByI r τ i t (k + 1) (gd r.Bibs k):=fun h hx=>.inr ⟨k,by omega,rfl,by omega,h,fun q hq hl=>by
  by_cases e:q=k
  ·subst e;exact nQ _
  ·rcases I with ⟨h1,h2⟩ | ⟨j,h1,h2,h3,h4,h5⟩
   ·exact absurd hl (h2 q (by omega))
   ·have:=h5 q (by omega) hl
    omega⟩
 have keep:x ≠ 0->¬ gd r.Bibs k < x->ByI r τ i t (k + 1) x:=fun h0 hx=>by
  rcases I with ⟨h1,h2⟩ | ⟨j,h1,h2,h3,h4,h5⟩
  ·exact absurd h1 h0
  ·exact .inr ⟨j,by omega,h2,h3,h4,fun q hq hl=>by
    by_cases e:q=k
    ·subst e;omega
    ·exact h5 q (by omega) hl⟩
 have hl:=wQk G K (i:=i) hk
 unfold byB
 rw [wAX (by omega),nA,wBy (by omega) (by omega),nA,nE,wOf (by omega),nA,K.at_ k hk]
 cases c:τ k with
 | some s =>
  have hs:=(K.lt k s hk c).1
  rw [nj,if_neg (show ¬ s < 0 by omega)]
  exact ⟨_,rfl,no fun h=>by have:=(hl.1 h).1;rw [c] at this;cases this⟩
 | none =>
  rw [nk,if_pos (show (-1:Int) < 0 by decide),if_pos (show (-1:Int) < 0 by decide),wAQ (x:=(cn (gd r.Times i) t:Int) + 2) (by omega) (by omega)]
  by_cases d:(cn (gd r.Times i) t:Int) + 2 <= (cn (gd r.Times k) t:Int)
  ·rw [if_pos d,wAQ (by omega) (by omega),show ((cn (gd r.Times k) t:Nat):Int) - 1=((cn (gd r.Times k) t - 1:Nat):Int) by omega,wAX (by omega),nA]
   by_cases e:gd (gd r.Times k) (cn (gd r.Times k) t - 1)=t
   ·have hlap:=hl.2 ⟨c,by omega,e⟩
    rw [if_pos e]
    by_cases f:x=0
    ·rw [if_pos f,wAX hk,nA]
     exact ⟨_,rfl,yes hlap (.inl f)⟩
    ·rw [if_neg f,wAX hk,nA]
     by_cases q:gd r.Bibs k < x
     ·rw [if_pos q]
      exact ⟨_,rfl,yes hlap (.inr q)⟩
     ·rw [if_neg q]
      exact ⟨_,rfl,keep f q⟩
   ·rw [if_neg e]
    exact ⟨_,rfl,no fun h=>e (hl.1 h).2.2⟩
  ·rw [if_neg d]
   exact ⟨_,rfl,no fun h=>by have:=(hl.1 h).2.1;omega⟩
theorem yB_is {i:Nat} (hi:i < r.Bibs.length) {l:RO} (hl:l.length <= 100):∃ x,ByI r τ i t r.Bibs.length x/\iter (yB r g t l (i:Int) (cn (gd r.Times i) t:Int)) big (0,0)=some (.inl (if 0 < x then l ++ [⟨gd r.Bibs i,cn (gd r.Times i) t,t,x⟩] else l,(i:Int) + 1)):=by
 have hn:=G.n
 obtain ⟨⟨x,k⟩,⟨hk,hM⟩,hend⟩:=wFo (body:=yB r g t l (i:Int) (cn (gd r.Times i) t:Int)) (s0:=((0:Int),(0:Int))) (fun q s=>s.2=(q:Int)/\ByI r τ i t q s.1) r.Bibs.length ⟨rfl,.inl ⟨rfl,fun j hj=>by omega⟩⟩ (by omega) (fun q s hq ⟨h1,h2⟩=>by
  obtain ⟨x,k⟩:=s
  simp only at h1 h2
  subst h1
  obtain ⟨x',e,hx⟩:=wRz G hb K hi hq h2
  unfold yB
  simp only
  rw [if_pos (by omega),e,nA,wAQ (by omega) (by omega)]
  exact ⟨_,rfl,rfl,hx⟩)
 simp only at hk hM
 subst hk
 refine ⟨x,hM,hend _ ?_⟩
 unfold yB
 simp only
 rw [if_neg (by omega),wAQ (by omega) (by omega)]
 by_cases c:0 < x
 ·rw [if_pos c,if_pos c,wAX hi,nA,wDM (by simp;omega),nA]
 ·rw [if_neg c,if_neg c]
structure EntN (r:wAF) (t:Int) (τ:Nat->Option Int) (i:Nat) (o:wAG):Prop where
 bib:o.Bib=gd r.Bibs i
 time:o.Time=t
 none_:τ i=none
 done:o.Done=cn (gd r.Times i) t
 by_:∃ j,o.By=gd r.Bibs j/\lap r τ i t j/\∀ k,lap r τ i t k->gd r.Bibs j <= gd r.Bibs k
structure Now (r:wAF) (t:Int) (τ:Nat->Option Int) (q:Nat) (w:List wAG):Prop where
 of:∀ o ∈ w,∃ i,i < q/\EntN r t τ i o
 all:∀ i,i < q->τ i=none->(∃ j,lap r τ i t j)->∃ o ∈ w,o.Bib=gd r.Bibs i
 one:(w.map (·.Bib)).Nodup
 len:w.length <= q
theorem nB_is (l67:RO):∃ w,Now r t τ r.Bibs.length w/\iter (nB r g l67 t) big ([],0)=iter (xB r t) big (g,l67,w.map cvO):=by
 have hn:=G.n;have ht:=G.t;have hgl:=K.len
 obtain ⟨⟨l,k⟩,⟨hk,w,hl,hw⟩,hend⟩:=wFo (body:=nB r g l67 t) (s0:=(([]:RO),(0:Int))) (fun q s=>s.2=(q:Int)/\∃ w,s.1=w.map cvO/\Now r t τ q w) r.Bibs.length ⟨rfl,[],rfl,⟨fun o ho=>(by cases ho),fun i hi=>by omega,by simp,by simp⟩⟩ (by omega) (fun q s hq ⟨h1,w,h2,h3⟩=>by
  obtain ⟨l,k⟩:=s
  simp only at h1 h2
  subst h1 h2
  have hlen:=h3.len
  have skip:(¬ (τ q=none/\∃ j,lap r τ q t j))->Now r t τ (q + 1) w:=fun h=>⟨fun o ho=>by
    obtain ⟨i,h4,h5⟩:=h3.of o ho
    exact ⟨i,by omega,h5⟩,fun i hi h4 h5=>by
    by_cases e:i=q
    ·subst e;exact absurd ⟨h4,h5⟩ h
    ·exact h3.all i (by omega) h4 h5,h3.one,by omega⟩
  unfold nB
  simp only
  rw [if_pos (by omega),wBy (by omega) (by omega),nA,nE,K.at_ q hq]
  cases c:τ q with
  | some s =>
   have hs:=(K.lt q s hq c).1
   rw [nj,if_pos hs,wAQ (by omega) (by omega)]
   exact ⟨_,rfl,rfl,w,rfl,skip fun h=>by rw [c] at h;cases h.1⟩
  | none =>
   have hlq:=G.len _ (wAW (l:=r.Times) (k:=q) (by omega))
   rw [nk,if_neg (by decide),wAX (by omega),nA,wOf (by omega),nA,if_pos (by decide)]
   obtain ⟨x,hx,e⟩:=yB_is G hb K hq (l:=w.map cvO) (by simp;omega)
   rw [e]
   refine ⟨_,rfl,rfl,?_⟩
   rcases hx with ⟨rfl,h4⟩ | ⟨j,h4,h5,h6,h7,h8⟩
   ·exact ⟨w,by simp,skip fun h=>by obtain ⟨j,hj⟩:=h.2;exact h4 j hj.1 hj⟩
   ·refine ⟨w ++ [⟨gd r.Bibs q,cn (gd r.Times q) t,t,x⟩],by simp [h6,cvO],⟨fun o ho=>?_,fun i hi h9 h10=>?_,?_,by simp;omega⟩⟩
    ·rcases nM.1 ho with ho | ho
     ·obtain ⟨i,h9,h10⟩:=h3.of o ho
      exact ⟨i,by omega,h10⟩
     ·rw [nJ.1 ho]
      exact ⟨q,by omega,rfl,rfl,c,rfl,j,h5,h7,fun k hk=>h8 k hk.1 hk⟩
    ·by_cases e:i=q
     ·subst e
      exact ⟨_,nO _ (nJ.2 rfl),rfl⟩
     ·obtain ⟨o,ho,eo⟩:=h3.all i (by omega) h9 h10
      exact ⟨o,nP _ ho,eo⟩
    ·rw [nK,na]
     refine ⟨h3.one,by simp,fun a ha b hb' e=>?_⟩
     obtain ⟨o,ho,eo⟩:=nR.1 ha
     obtain ⟨i,h9,h10⟩:=h3.of o ho
     simp at hb'
     have:=wGu G (show i < r.Bibs.length by omega) hq (by rw [<- h10.bib,eo,e,hb'])
     omega)
 simp only at hk hl
 subst hk hl
 refine ⟨w,hw,hend _ ?_⟩
 unfold nB
 simp only
 rw [if_neg (by omega)]
end
theorem wSA {l:RO} (h0:0 < l.length) (hl:l.length <= 100):∃ y:Nat,y < l.length/\wCE 1 (↑l.length:Int) (fstB l) 0=some (y:Int)/\∀ k,k < l.length->(gd l y).Bib <= (gd l k).Bib:=by
 unfold wCE
 rw [if_pos (by omega),show ((l.length:Int) - 1).toNat=l.length - 1 by omega]
 obtain ⟨s,e,y,h1,h2,h3⟩:=wHp (body:=fstB l) (fun q s=>∃ y:Nat,s=y/\y < q + 1/\∀ k,k < q + 1->(gd l y).Bib <= (gd l k).Bib) (l.length - 1) 0 (0:Int) ⟨0,rfl,by omega,fun k hk=>by
  obtain rfl:k=0:=by omega
  exact nQ _⟩ (fun q s _ hq ⟨y,h1,h2,h3⟩=>by
  subst h1
  unfold fstB
  rw [show (1 + (q:Int))=((q + 1:Nat):Int) by omega,wBy (by omega) (by omega),nA,wBy (by omega) (by omega),nA,nE,nE]
  by_cases c:(gd l (q + 1)).Bib < (gd l y).Bib
  ·rw [if_pos c]
   refine ⟨_,rfl,q + 1,rfl,by omega,fun k hk=>?_⟩
   by_cases e:k=q + 1
   ·subst e;exact nQ _
   ·have:=h3 k (by omega);omega
  ·rw [if_neg c]
   refine ⟨_,rfl,y,rfl,by omega,fun k hk=>?_⟩
   by_cases e:k=q + 1
   ·subst e;omega
   ·exact h3 k (by omega))
 subst h1
 exact ⟨y,by omega,e,fun k hk=>h3 k (by omega)⟩
theorem wOg {α:Type} {l:List α} {y:Nat} (h:y < l.length):cut l 0 (y:Int)=some (l.take y):=by
 unfold cut
 rw [if_pos (by omega)]
 simp
theorem wPe {α:Type} {l:List α} {y:Nat} (h:y < l.length):cut l ((y + 1:Nat):Int) (l.length:Int)=some (l.drop (y + 1)):=by
 unfold cut
 rw [if_pos (by omega),nE,nE,List.take_of_length_le (by simp)]
theorem zB_is {r:wAF} (G:wGQ r) {t:Int} {g:List Int} (hg:g.length=r.Bibs.length) {l:RO} {y:Nat} (hy:y < l.length) (hl:l.length <= 100) (x:RO) :
  ∃ g',iter (zB r t l (y:Int) x) big (g,0)=some (.inl (g',x,l.take y ++ l.drop (y + 1)))/\g'.length=r.Bibs.length/\∀ i,i < r.Bibs.length->gd g' i=if gd r.Bibs i=(gd l y).Bib then t else gd g i:=by
 have hn:=G.n
 obtain ⟨⟨g',k⟩,⟨hk,h1,h2,h3⟩,hend⟩:=wFo (body:=zB r t l (y:Int) x) (s0:=(g,(0:Int))) (fun q s=>s.2=(q:Int)/\s.1.length=r.Bibs.length/\(∀ i,i < q->i < r.Bibs.length->gd s.1 i=if gd r.Bibs i=(gd l y).Bib then t else gd g i)/\∀ i,q <= i->i < r.Bibs.length->gd s.1 i=gd g i) r.Bibs.length ⟨rfl,hg,fun i hi=>by omega,fun i _ _=>rfl⟩ (by omega) (fun q s hq ⟨h1,h2,h3,h4⟩=>by
  obtain ⟨g',k⟩:=s
  simp only at h1 h2 h3 h4
  subst h1
  unfold zB
  simp only
  rw [if_pos (by omega),wAX hq,nA,nE,wAQ (by omega) (by omega)]
  by_cases c:gd r.Bibs q=(gd l y).Bib
  ·rw [if_pos c,wBy (by omega) (by omega),nA,nE]
   refine ⟨_,rfl,rfl,by simpa using h2,fun i hi hi2=>?_,fun i hi hi2=>?_⟩
   ·simp only
    rw [wIW (by omega) (by omega)]
    by_cases e:i=q
    ·rw [if_pos e,e,if_pos c]
    ·rw [if_neg e];exact h3 i (by omega) hi2
   ·simp only
    rw [wIW (by omega) (by omega),if_neg (by omega)]
    exact h4 i (by omega) hi2
  ·rw [if_neg c]
   refine ⟨_,rfl,rfl,h2,fun i hi hi2=>?_,fun i hi hi2=>h4 i (by omega) hi2⟩
   by_cases e:i=q
   ·subst e;rw [if_neg c];exact h4 i (by omega) hi2
   ·exact h3 i (by omega) hi2)
 simp only at hk h1 h2 h3
 subst hk
 refine ⟨g',hend _ ?_,h1,fun i hi=>h2 i hi hi⟩
 unfold zB
 simp only
 rw [if_neg (by omega),wOg hy,nA,wAQ (by omega) (by omega),show (y:Int) + 1=((y + 1:Nat):Int) by omega,wPe hy,nA,wDM (by rw [nH,List.length_drop];omega),nA]
theorem wKV {w:List wAG} {y:Nat} (h:y < w.length):gd (w.map cvO) y=cvO (gd w y):=wEV _ h
theorem xB_is {r:wAF} (G:wGQ r) {t:Int} {τ:Nat->Option Int} {g:List Int} (hg:g.length=r.Bibs.length) {w:List wAG} (W:Now r t τ r.Bibs.length w) {out:RO} (ho:out.length <= 100000) :
  ∃ (g':List Int) (e:List wAG),iter (xB r t) big (g,out,w.map cvO)=some (.inl (g',out ++ e.map cvO,t))/\e.Perm w/\e.Pairwise (fun a b=>a.Bib < b.Bib)/\g'.length=r.Bibs.length/\∀ i,i < r.Bibs.length->gd g' i=if ∃ o ∈ e,o.Bib=gd r.Bibs i then t else gd g i:=by
 have hn:=G.n
 have hwl:=W.len
 obtain ⟨⟨g',out',l⟩,⟨e,u,h1,h2,h3,h4,h5,h6,h7,h8⟩,hend⟩:=wFo (body:=xB r t) (s0:=(g,out,w.map cvO)) (fun q s=>∃ e u:List wAG,s.2.1=out ++ e.map cvO/\s.2.2=u.map cvO/\(e ++ u).Perm w/\e.length=q/\e.Pairwise (fun a b=>a.Bib < b.Bib)/\(∀ a ∈ e,∀ b ∈ u,a.Bib < b.Bib)/\s.1.length=r.Bibs.length/\∀ i,i < r.Bibs.length->gd s.1 i=if ∃ o ∈ e,o.Bib=gd r.Bibs i then t else gd g i) w.length ⟨[],w,by simp,rfl,List.Perm.refl _,rfl,kH,(fun a ha=>by cases ha),hg,fun i hi=>by rw [if_neg (fun h=>by obtain ⟨o,ho,_⟩:=h;cases ho)]⟩ (by omega) (fun q s hq ⟨e,u,h1,h2,h3,h4,h5,h6,h7,h8⟩=>by
  obtain ⟨g',out',l⟩:=s
  simp only at h1 h2 h7 h8
  subst h1 h2
  have hlen:=h3.length_eq
  rw [nU] at hlen
  have hul:(u.map cvO).length=u.length:=nD _
  obtain ⟨y,hy,ey,hmin⟩:=wSA (l:=u.map cvO) (by omega) (by omega)
  have hyu:y < u.length:=by omega
  unfold xB
  simp only
  rw [if_pos (by omega),ey,nA,wBy (by omega) (by omega),nA,nE,wDM (by simp;omega),nA]
  obtain ⟨g'',e1,e2,e3⟩:=zB_is G (t:=t) h7 hy (by omega) (out ++ e.map cvO ++ [gd (u.map cvO) y])
  rw [e1]
  have hu:u=u.take y ++ gd u y :: u.drop (y + 1):=by rw [<- wIM hyu,nV]
  have hp:(e ++ [gd u y] ++ (u.take y ++ u.drop (y + 1))).Perm w:=by
   refine kK ?_ h3
   rw [List.append_assoc]
   refine List.Perm.append_left e ?_
   refine kK ?_ (List.Perm.of_eq hu.symm)
   show (gd u y :: (u.take y ++ u.drop (y + 1))).Perm _
   exact nl.symm
  have nd:=(hp.map (·.Bib)).nodup_iff.2 W.one
  rw [nK,na] at nd
  have hrest:∀ b ∈ u.take y ++ u.drop (y + 1),(gd u y).Bib < b.Bib:=fun b hb=>by
   have hbu:b ∈ u:=by
    rw [hu]
    rcases nM.1 hb with h | h
    ·exact nP _ h
    ·exact nO _ (ny _ h)
   obtain ⟨k,hk,ek⟩:=nc hbu
   have hm:=hmin k (by omega)
   rw [wKV hyu,wKV hk,wCv hk,ek] at hm
   have hne:=nd.2.2 (gd u y).Bib (by simp) b.Bib (nR.2 ⟨b,hb,rfl⟩)
   have hm':(gd u y).Bib <= b.Bib:=hm
   omega
  refine ⟨_,rfl,e ++ [gd u y],u.take y ++ u.drop (y + 1),by simp [wKV hyu],by simp [List.map_take,List.map_drop],hp,by simp [h4],?_,?_,e2,fun i hi=>?_⟩
  ·rw [nY]
   exact ⟨h5,List.pairwise_singleton _ _,fun a ha b hb=>by rw [nJ.1 hb];exact h6 a ha _ (wAW hyu)⟩
  ·intro a ha b hb
   rcases nM.1 ha with ha | ha
   ·refine h6 a ha b ?_
    rw [hu]
    rcases nM.1 hb with h | h
    ·exact nP _ h
    ·exact nO _ (ny _ h)
   ·rw [nJ.1 ha];exact hrest b hb
  ·rw [e3 i hi,h8 i hi,wKV hyu]
   by_cases c:gd r.Bibs i=(gd u y).Bib
   ·rw [if_pos (show gd r.Bibs i=(cvO (gd u y)).Bib from c),if_pos ⟨_,nO _ (nJ.2 rfl),c.symm⟩]
   ·rw [if_neg (show ¬ gd r.Bibs i=(cvO (gd u y)).Bib from c)]
    by_cases d:∃ o ∈ e,o.Bib=gd r.Bibs i
    ·obtain ⟨o,h9,h10⟩:=d
     rw [if_pos ⟨o,h9,h10⟩,if_pos ⟨o,nP _ h9,h10⟩]
    ·rw [if_neg d,if_neg]
     rintro ⟨o,h9,h10⟩
     rcases nM.1 h9 with h9 | h9
     ·exact d ⟨o,h9,h10⟩
     ·rw [nJ.1 h9] at h10
      exact c h10.symm)
 simp only at h1 h2 h7 h8
 have hlen:=h3.length_eq
 rw [nU] at hlen
 have hu:u=[]:=List.eq_nil_of_length_eq_zero (by omega)
 subst hu
 rw [List.append_nil] at h3
 subst h1 h2
 refine ⟨g',e,hend _ ?_,h3,h5,h7,h8⟩
 unfold xB
 simp only
 rw [if_neg (by simp)]
structure QI (r:wAF) (last:Int) (g:List Int) (A:List wAG) (τ:Nat->Option Int):Prop where
 len:g.length=r.Bibs.length
 at_:∀ i,i < r.Bibs.length->gd g i=(τ i).getD (-1)
 lt:∀ i s,i < r.Bibs.length->τ i=some s->0 <= s/\s <= last/\∃ l ∈ r.Times,s ∈ l
 ex:∀ i,i < r.Bibs.length->∀ j,j < r.Bibs.length->∀ t ∈ gd r.Times j,t <= last->nbf τ i t->(τ i=some t ↔ ∃ k,lap r τ i t k)
 ents:Ents r τ A
 ord:A.Pairwise ltO
 le:∀ o ∈ A,o.Time <= last
theorem wPf {r:wAF} (G:wGQ r) {last t:Int} {g g':List Int} {A w e:List wAG} {τ:Nat->Option Int} (Q:QI r last g A τ) (hlt:last < t) (ht:∃ l ∈ r.Times,t ∈ l) (hmin:∀ y,(∃ l ∈ r.Times,y ∈ l)->last < y->t <= y)
  (W:Now r t τ r.Bibs.length w) (hp:e.Perm w) (hs:e.Pairwise (fun a b=>a.Bib < b.Bib)) (hg:g'.length=r.Bibs.length) (hat:∀ i,i < r.Bibs.length->gd g' i=if ∃ o ∈ e,o.Bib=gd r.Bibs i then t else gd g i):∃ τ',QI r t g' (A ++ e) τ':=by
 have hrt:=G.t
 have t0:0 <= t:=by obtain ⟨l,hl,h⟩:=ht;exact (G.pos l hl t h).1
 have zin:∀ i,i < r.Bibs.length->((∃ o ∈ e,o.Bib=gd r.Bibs i) ↔ τ i=none/\∃ j,lap r τ i t j):=fun i hi=>by
  constructor
  ·rintro ⟨o,ho,eb⟩
   obtain ⟨i',hi',E⟩:=W.of o (hp.mem_iff.1 ho)
   have:=wGu G hi' hi (E.bib.symm.trans eb)
   subst this
   obtain ⟨j,_,h,_⟩:=E.by_
   exact ⟨E.none_,j,h⟩
  ·rintro ⟨h1,h2⟩
   obtain ⟨o,ho,eb⟩:=W.all i hi h1 h2
   exact ⟨o,hp.mem_iff.2 ho,eb⟩
 obtain ⟨z,hz⟩:∃ z:Nat->Prop,∀ i,z i ↔ i < r.Bibs.length/\∃ o ∈ e,o.Bib=gd r.Bibs i:=⟨_,fun _=>Iff.rfl⟩
 obtain ⟨τ',hτ1,hτ2⟩:∃ τ':Nat->Option Int,(∀ i,z i->τ' i=some t)/\∀ i,¬ z i->τ' i=τ i:=by
  classical
  exact ⟨fun i=>if z i then some t else τ i,fun i hi=>if_pos hi,fun i hi=>if_neg hi⟩
 have h1:∀ i,z i->τ' i=some t/\τ i=none:=fun i hi=>⟨hτ1 i hi,by
  obtain ⟨a,b⟩:=(hz i).1 hi
  exact ((zin i a).1 b).1⟩
 have h2:=hτ2
 have nbN:∀ j,j < r.Bibs.length->(nbf τ j t ↔ τ j=none):=fun j hj=>by
  constructor
  ·intro h
   cases hτ:τ j with
   | none=>rfl
   | some s =>
    have h3:=h s hτ
    have h4:=(Q.lt j s hj hτ).2.1
    omega
  ·intro h s hs;rw [h] at hs;cases hs
 refine ⟨τ',hg,fun i hi=>?_,fun i s hi h=>?_,fun i hi j hj u hu hut hnb=>?_,⟨fun o ho=>?_,fun i hi h=>?_,?_⟩,?_,fun o ho=>?_⟩
 ·rw [hat i hi]
  by_cases c:∃ o ∈ e,o.Bib=gd r.Bibs i
  ·rw [if_pos c,hτ1 i ((hz i).2 ⟨hi,c⟩)];rfl
  ·rw [if_neg c,hτ2 i (fun h=>c ((hz i).1 h).2)];exact Q.at_ i hi
 ·by_cases c:z i
  ·rw [hτ1 i c] at h
   cases h
   exact ⟨t0,nQ _,ht⟩
  ·rw [hτ2 i c] at h
   obtain ⟨a,b,d⟩:=Q.lt i s hi h
   exact ⟨a,by omega,d⟩
 ·have hin:∃ l ∈ r.Times,u ∈ l:=⟨_,wAW (by omega),hu⟩
  rcases Int.lt_or_le last u with c | c
  ·have:u=t:=by have:=hmin u hin c;omega
   subst this
   rw [wJY h1 h2 (nQ _),nbN i hi] at hnb
   simp only [wEt (r:=r) h1 h2 (nQ _)]
   constructor
   ·intro h
    by_cases d:z i
    ·obtain ⟨a,b⟩:=(hz i).1 d
     exact ((zin i a).1 b).2
    ·rw [h2 i d,hnb] at h;cases h
   ·intro h
    exact hτ1 i ((hz i).2 ⟨hi,(zin i hi).2 ⟨hnb,h⟩⟩)
  ·rw [wJY h1 h2 hut] at hnb
   have:=Q.ex i hi j hj u hu c hnb
   simp only [wEt (r:=r) h1 h2 hut]
   rw [<- this]
   by_cases d:z i
   ·rw [(h1 i d).1,(h1 i d).2]
    exact ⟨fun h=>by have:=kL h;omega,fun h=>by cases h⟩
   ·rw [h2 i d]
 ·rcases nM.1 ho with ho | ho
  ·obtain ⟨i,hi,E⟩:=Q.ents.of o ho
   have hot:o.Time <= t:=by have:=Q.le o ho;omega
   have nz:¬ z i:=fun c=>by
    have:=(h1 i c).2
    rw [E.time] at this;cases this
   obtain ⟨j,j1,j2,j3⟩:=E.by_
   exact ⟨i,hi,E.bib,by rw [h2 i nz];exact E.time,E.done,j,j1,(wEt h1 h2 hot i j).2 j2,fun q hq=>j3 q ((wEt h1 h2 hot i q).1 hq)⟩
  ·obtain ⟨i,hi,E⟩:=W.of o (hp.mem_iff.1 ho)
   have hzi:z i:=(hz i).2 ⟨hi,o,ho,E.bib⟩
   obtain ⟨j,j1,j2,j3⟩:=E.by_
   refine ⟨i,hi,E.bib,by rw [E.time];exact (h1 i hzi).1,by rw [E.time];exact E.done,j,j1,?_,fun q hq=>?_⟩
   ·rw [E.time];exact (wEt h1 h2 (nQ _) i j).2 j2
   ·rw [E.time] at hq;exact j3 q ((wEt h1 h2 (nQ _) i q).1 hq)
 ·by_cases c:z i
  ·obtain ⟨_,o,ho,eb⟩:=(hz i).1 c
   exact ⟨o,nO _ ho,eb⟩
  ·rw [h2 i c] at h
   obtain ⟨o,ho,eb⟩:=Q.ents.all i hi h
   exact ⟨o,nP _ ho,eb⟩
 ·rw [nK,na]
  refine ⟨Q.ents.one,(hp.map _).nodup_iff.2 W.one,fun a ha b hb ee=>?_⟩
  obtain ⟨o,ho,e1⟩:=nR.1 ha
  obtain ⟨o2,ho2,e2⟩:=nR.1 hb
  obtain ⟨i,hi,E⟩:=Q.ents.of o ho
  obtain ⟨i',hi',E'⟩:=W.of o2 (hp.mem_iff.1 ho2)
  have:=wGu G hi hi' (by rw [<- E.bib,<- E'.bib,e1,e2,ee])
  subst this
  have:=E.time
  rw [E'.none_] at this
  cases this
 ·have tm:∀ o ∈ e,o.Time=t:=fun o ho=>by
   obtain ⟨_,_,E⟩:=W.of o (hp.mem_iff.1 ho)
   exact E.time
  rw [nY]
  refine ⟨Q.ord,hs.imp_of_mem fun {a b} ha hb h=>.inr ⟨by rw [tm a ha,tm b hb],h⟩,fun a ha b hb=>.inl ?_⟩
  have:=Q.le a ha
  rw [tm b hb]
  omega
 ·rcases nM.1 ho with ho | ho
  ·have:=Q.le o ho;omega
  ·obtain ⟨_,_,E⟩:=W.of o (hp.mem_iff.1 ho)
   rw [E.time];exact nQ _
theorem wQl {last t:Int} (h:last < t) {l:List Int} (hm:t ∈ l):(l.countP fun x=>decide (t < x)) < l.countP fun x=>decide (last < x):=by
 have mono:∀ l:List Int,(l.countP fun x=>decide (t < x)) <= l.countP fun x=>decide (last < x):=fun l=>List.countP_mono_left fun x _ hx=>by simp at hx ⊢;omega
 obtain ⟨a,b,rfl⟩:=kD hm
 rw [nS,nS,List.countP_cons,List.countP_cons]
 have h1:=mono a;have h2:=mono b
 simp [h]
 omega
theorem wSB {r:wAF} (hn:r.Bibs.length <= 60) {g:List Int} (hg:g.length=r.Bibs.length):∃ g',iter (gB r) big (g,0)=iter (qB r) big (g',[],-1)/\g'.length=r.Bibs.length/\∀ i,i < r.Bibs.length->gd g' i=-1:=by
 obtain ⟨⟨g',k⟩,⟨hk,h1,h2⟩,hend⟩:=wFo (body:=gB r) (s0:=(g,(0:Int))) (fun q s=>s.2=(q:Int)/\s.1.length=r.Bibs.length/\∀ i,i < q->i < r.Bibs.length->gd s.1 i=-1) r.Bibs.length ⟨rfl,hg,fun i hi=>by omega⟩ (by omega) (fun q s hq ⟨h1,h2,h3⟩=>by
  obtain ⟨g',k⟩:=s
  simp only at h1 h2 h3
  subst h1
  unfold gB
  simp only
  rw [if_pos (by omega),wBy (by omega) (by omega),nA,wAQ (by omega) (by omega),nE]
  refine ⟨_,rfl,rfl,by simpa using h2,fun i hi hi2=>?_⟩
  simp only
  rw [wIW (by omega) (by omega)]
  by_cases e:i=q
  ·rw [if_pos e]
  ·rw [if_neg e];exact h3 i (by omega) hi2)
 simp only at hk h1 h2
 subst hk
 refine ⟨g',hend _ ?_,h1,fun i hi=>h2 i hi hi⟩
 unfold gB
 simp only
 rw [if_neg (by omega)]
structure RefP (r:wAF) (A:List wAG) (g:List Int) (τ:Nat->Option Int):Prop where
 found:wHx r A τ
 len:g.length=r.Bibs.length
 at_:∀ i,i < r.Bibs.length->gd g i=(τ i).getD (-1)
 pos:∀ i s,i < r.Bibs.length->τ i=some s->0 <= s
theorem wQm {r:wAF} (G:wGQ r) (hb:∀ b ∈ r.Bibs,1 <= b):∃ A g τ,wDA (cvS r)=some (A.map cvO,g)/\RefP r A g τ:=by
 have hn:=G.n;have ht:=G.t
 rw [wLu,mkz,if_pos (by omega),nA]
 obtain ⟨g0,e0,hg0,hz⟩:=wSB (r:=r) hn (g:=nG (r.Bibs.length:Int).toNat 0) (by simp)
 rw [e0]
 have hfl:=wKP G.len r.Times.length
 rw [nL] at hfl
 let mt:Int->Nat:=fun last=>r.Times.flatten.countP fun x=>decide (last < x)
 have hmt:∀ last,mt last <= r.Times.flatten.length:=fun last=>nW
 obtain ⟨⟨O,g⟩,e,A,τ,hO,hR⟩:=wPK (body:=qB r) (fun q s=>∃ A τ,s.2.1=A.map cvO/\QI r s.2.2 s.1 A τ/\-1 <= s.2.2/\q + mt s.2.2 <= r.Times.flatten.length/\A.length <= 60 * q) (fun b=>∃ A τ,b.1=A.map cvO/\RefP r A b.2 τ) r.Times.flatten.length (fun q s hq ⟨A,τ,h1,Q,h2,h3,h4⟩=>by
  obtain ⟨g,O,last⟩:=s
  simp only at h1 Q h2 h3
  subst h1
  obtain ⟨x,hM,e⟩:=aB_is G h2 g (A.map cvO)
  unfold qB
  simp only
  rw [e]
  rcases hM with ⟨rfl,hall⟩ | ⟨hlt,hin,hmin⟩
  ·right
   rw [if_pos (by decide)]
   refine ⟨_,rfl,A,τ,rfl,⟨fun i hi j hj t htj hnb=>Q.ex i hi j hj t htj (hall t ⟨_,wAW (by omega),htj⟩) hnb,fun i s hi h=>(Q.lt i s hi h).2.2,Q.ents,Q.ord⟩,Q.len,Q.at_,fun i s hi h=>(Q.lt i s hi h).1⟩
  ·left
   have x0:0 <= x:=by obtain ⟨l,hl,h⟩:=hin;exact (G.pos l hl x h).1
   have K:Gone r x τ g:=⟨Q.len,Q.at_,fun i s hi h=>⟨(Q.lt i s hi h).1,by have:=(Q.lt i s hi h).2.1;omega⟩⟩
   obtain ⟨w,W,e1⟩:=nB_is G hb K (A.map cvO)
   obtain ⟨g',E,e2,hp,hs,hg',hat⟩:=xB_is G Q.len W (out:=A.map cvO) (by simp;omega)
   obtain ⟨τ',Q'⟩:=wPf G Q hlt hin hmin W hp hs hg' hat
   rw [if_neg (by omega),e1,e2]
   have hd:mt x < mt last:=wQl hlt (by obtain ⟨l,hl,h⟩:=hin;exact List.mem_flatten.2 ⟨l,hl,h⟩)
   have hwl:=W.len;have hel:=hp.length_eq
   exact ⟨by omega,_,rfl,A ++ E,τ',by simp,Q',by simp only;omega,by simp only;omega,by simp;omega⟩) (s0:=(g0,([]:RO),(-1:Int))) ⟨[],fun _=>none,rfl,⟨hg0,fun i hi=>hz i hi,fun i s _ h=>(by cases h),fun i hi j hj t htj hlt _=>by
    have:=(G.pos _ (wAW (l:=r.Times) (k:=j) (by omega)) t htj).1
    simp only at hlt
    omega,⟨fun o ho=>(by cases ho),fun i _ h=>absurd rfl h,by simp⟩,kH,fun o ho=>(by cases ho)⟩,by simp,by have:=hmt (-1);simp only;omega,by simp⟩ (by omega)
 simp only at hO hR
 subst hO
 exact ⟨A,g,τ,e,hR⟩
theorem wOh {r:wAF} (h:wJn r=0):∀ b ∈ r.Bibs,1 <= b:=by
 by_cases c4:r.Bibs.all (rng 1 999)=true
 ·intro b hb
  have:=List.all_eq_true.1 c4 b hb
  unfold rng at this
  simp at this
  omega
 ·exfalso
  unfold wJn at h
  rw [if_neg c4] at h
  repeat' split at h
  all_goals cases h
def ctB (r:wAF) (g:List Int):(List Int) × Int->Option (((List Int) × Int) ⊕ ((List Int) × Int))
 | (l50,x51) =>
   if x51 < (↑l50.length:Int) then
    (idx r.Times x51).bind fun x71 =>
    (chk x51 g.length).bind fun _ =>
    (wAr x71 360000 (gd g x51.toNat)).bind fun x90 =>
    (chk x51 l50.length).bind fun _ =>
    some (.inl ((ng l50 x51.toNat x90),w64 (x51 + 1)))
   else
    esc (some (l50,0))
theorem wOi {r:wAF} (G:wGQ r) {A:List wAG} {g D:List Int} {τ:Nat->Option Int} (R:RefP r A g τ) (hd:D.length=r.Bibs.length) (hD:∀ i,i < r.Bibs.length->(τ i=none/\gd D i=(gd r.Times i).length) \/ ∃ s,τ i=some s/\gd D i=cn (gd r.Times i) s) {l:List Int} (hl:l.length=r.Bibs.length):iter (ctB r g) big (l,0)=some (D,0):=by
 have hn:=G.n;have ht:=G.t;have hgl:=R.len
 obtain ⟨⟨l',k⟩,⟨hk,h1,h2⟩,hend⟩:=wFo (body:=ctB r g) (s0:=(l,(0:Int))) (fun q s=>s.2=(q:Int)/\s.1.length=r.Bibs.length/\∀ i,i < q->i < r.Bibs.length->gd s.1 i=gd D i) r.Bibs.length ⟨rfl,hl,fun i hi=>by omega⟩ (by omega) (fun q s hq ⟨h1,h2,h3⟩=>by
  obtain ⟨l',k⟩:=s
  simp only at h1 h2 h3
  subst h1
  have hlq:=G.len _ (wAW (l:=r.Times) (k:=q) (by omega))
  have hpq:=G.pos _ (wAW (l:=r.Times) (k:=q) (by omega))
  unfold ctB
  simp only
  rw [if_pos (by omega),wAX (by omega),nA,wBy (by omega) (by omega),nA,nE,wOf (by omega),nA,wBy (by omega) (by omega),nA,wAQ (by omega) (by omega),R.at_ q hq]
  refine ⟨_,rfl,rfl,by simpa using h2,fun i hi hi2=>?_⟩
  simp only
  rw [wIW (by omega) (by omega)]
  by_cases e:i=q
  ·subst e
   rw [if_pos rfl]
   rcases hD i hq with ⟨c,d⟩ | ⟨s,c,d⟩
   ·rw [c,nk,if_pos (by decide),d]
    have:cn (gd r.Times i) 360000=(gd r.Times i).length:=nt.2 fun x hx=>by
     have:=hpq x hx;simp;omega
    rw [this]
   ·have hs0:=R.pos i s hq c
    obtain ⟨m,hm,hsm⟩:=R.found.in_ i s hq c
    have hs1:=(G.pos m hm s hsm).2
    rw [c,nj,if_neg (by omega),d]
    have:(if (360000:Int) <= s then (360000:Int) else s)=s:=by split <;> omega
    rw [this]
  ·rw [if_neg e];exact h3 i (by omega) hi2)
 simp only at hk h1 h2
 subst hk
 have:l'=D:=wKv (by omega) fun i hi=>h2 i (by omega) (by omega)
 subst this
 refine hend _ ?_
 unfold ctB
 simp only
 rw [if_neg (by omega)]
theorem wQn {r:wAF} (S:wNW r):∃ (A:List wAG) (D:List Int) (c:Int),A.length <= 100000/\D.length <= 1000/\wCA r=some (A,c)/\wAv (cvS r)=some (A.map cvO,c)/\wCW r=some (D,c)/\wBE (cvS r)=some (D,c):=by
 have p:=wOc S
 have q:=wPc S
 by_cases h:wJn r=0
 ·have G:=wNX h
  have hn:=G.n
  obtain ⟨P,A,τ,e1,R⟩:=wQA G
  obtain ⟨A',g,τ',e2,F⟩:=wQm G (wOh h)
  have hA:=wOa G R.found F.found
  subst hA
  have hτ:∀ i,i < r.Bibs.length->τ i=τ' i:=fun i hi=>wHy G R.found F.found hi
  have hD:=R.dl
  refine ⟨A,P.done,0,R.al,by omega,?_,?_,?_,?_⟩
  ·unfold wCA
   rw [p,nA,if_pos h,e1];rfl
  ·unfold wAv
   rw [q,nA,if_pos h,e2];rfl
  ·unfold wCW
   rw [p,nA,if_pos h,e1];rfl
  ·have:=wOi G F hD (fun i hi=>by rw [<- hτ i hi];exact R.done i hi) (l:=nG (r.Bibs.length:Int).toNat 0) (by simp)
   unfold wBE
   rw [q,nA,if_pos h,e2,nA]
   show (mkz 8 (↑r.Bibs.length:Int) (0:Int)).bind (fun x36=>iter (ctB r g) big (x36,0))=_
   rw [mkz,if_pos (by omega),nA,this]
 ·refine ⟨[],[],wJn r,by simp,by simp,?_,?_,?_,?_⟩
  ·unfold wCA
   rw [p,nA,if_neg h]
  ·unfold wAv
   rw [q,nA,if_neg h];rfl
  ·unfold wCW
   rw [p,nA,if_neg h]
  ·unfold wBE
   rw [q,nA,if_neg h]
theorem wLK {r:wAD} (h:wGp r) (c:wMh r ≠ 0):wDJ r=some (none,wMh r):=by
 unfold wDJ
 rw [wIP h,nA,if_neg c]
theorem wNZ {r:wAD} (g:wGO r):wNW (wDV r):=by
 have hn:=g.n
 have W:=wPT g
 have hc:=g.rules.n
 refine ⟨?_,?_,fun l h=>?_⟩
 ·show (r.Teams.map _).length <= 64
  rw [nD];omega
 ·show (after r).length <= 64
  unfold after
  rw [nD];omega
 ·obtain ⟨t,ht,rfl⟩:=nR.1 (show l ∈ r.Teams.map _ from h)
  have gt:=g.team t ht
  have:=wFU g.rules t.Legs r.Start gt.leg
  have:=gt.legs
  omega
structure Ran (r:wAD) (p:wAL) (A:List wAG) (τ:Nat->Option Int):Prop where
 run:wDh (wDV r)=some (p,A)
 R:RunP (wDV r) p.done A τ
 al:A.length <= 100000
 out:wCA (wDV r)=some (A,0)
 rout:wAv (cvS (wDV r))=some (A.map cvO,0)
 rcnt:wBE (cvS (wDV r))=some (p.done,0)
theorem ran {r:wAD} (g:wGO r):∃ p A τ,Ran r p A τ:=by
 have W:=wPT g
 obtain ⟨p,A,τ,e,R⟩:=wQA W.g
 obtain ⟨A',D,c,hA,_,h1,h2,h3,h4⟩:=wQn (wNZ g)
 have l1:=wLE W e
 have l2:=wJw W e
 rw [h1] at l1
 rw [h3] at l2
 injection l1 with l1
 injection l1 with e1 e2
 injection l2 with l2
 injection l2 with e3 _
 subst e1 e2 e3
 exact ⟨p,_,τ,e,R,hA,h1,h2,h4⟩
theorem wPg {r:wAD} (h:wGp r):∃ A c,wFK r=some (A,c)/\wDd (cv r)=some (A.map cvO,c)/\A.length <= 100000:=by
 unfold wFK wDd
 by_cases c:wMh r=0
 ·have g:=wLr c
  have hq:=wGA h
  rw [c] at hq
  obtain ⟨p,A,τ,P⟩:=ran g
  refine ⟨A,0,?_,?_,P.al⟩
  ·rw [wMe g,nA]
   simp only [if_true]
   rw [wOI g,nA,P.out,nA]
  ·rw [wKz g hq,nA]
   show (wAv (cvS (wDV r))).bind _=_
   rw [P.rout]
   rfl
 ·refine ⟨[],wMh r,?_,?_,by simp⟩
  ·rw [wLK h c,nA]
   simp only [if_neg c]
  ·unfold wBd
   rw [wGA h,nA,if_neg c,nA]
   simp only [if_neg c]
   rfl
def brB (r:wAD) (t:wAH) (k:Nat):Bool :=
 decide (r.Rules.Each <= (((t.Legs.take k).countP fun l=>decide (l.Skier=(gd t.Legs k).Skier):Nat):Int)) || !decide (gd t.Classes (gd t.Legs k).Skier.toNat=gd r.Rules.Classes k)
def brL (r:wAD) (t:wAH) (n:Nat):List Int:=((nN n).filter fun k=>brB r t k).map fun (k:Nat)=>(k:Int)
theorem wNA (r:wAD) (t:wAH) (n:Nat):brL r t (n + 1)=if brB r t n=true then brL r t n ++ [(n:Int)] else brL r t n:=by
 unfold brL
 rw [nr,List.filter_append,nK]
 by_cases c:brB r t n=true
 ·rw [if_pos c];simp [c]
 ·rw [if_neg c];simp [c]
theorem wKW (r:wAD) (t:wAH) (n:Nat):(brL r t n).length <= n:=by
 unfold brL
 rw [nD]
 exact Nat.le_trans (List.length_filter_le _ _) (by simp)
def wKX (r:wAD):List (List Int):=r.Teams.map fun t=>brL r t t.Legs.length
theorem wNa {r:wAD} (g:wGO r) (hq:wBH (cv r)=some 0):wBe (cv r)=some (wKX r,0):=by
 have hn:=g.n
 have hc:=g.rules.n
 unfold wBe
 rw [hq,nA,if_pos rfl,wFl]
 refine wGP (m:=r.Teams.length) (fun i=>((r.Teams.take i).map fun t=>brL r t t.Legs.length,(i:Int))) (fun i hi=>?_) ?_ rfl (by omega)
 ·have gt:=g.team _ (wAW hi)
  have hl:=gt.legs
  simp only
  rw [if_pos (by omega),wDv hi,nA,wFm]
  have inner:∀ X:Option (List (List Int) × Int ⊕ List (List Int) × Int),X=some (.inl ((r.Teams.take (i + 1)).map fun t=>brL r t t.Legs.length,((i + 1:Nat):Int)))->X=some (.inl ((r.Teams.take (i + 1)).map fun t=>brL r t t.Legs.length,((i + 1:Nat):Int))):=fun _ h=>h
  refine wGP (m:=(gd r.Teams i).Legs.length) (fun k=>(brL r (gd r.Teams i) k,(k:Int))) (fun k hk=>?_) ?_ rfl (by omega)
  ·have gl:=gt.leg _ (wAW hk)
   simp only
   rw [if_pos (by omega),wBs (S:=Int) (n:=k) (fun j=>((((gd r.Teams i).Legs.take j).countP fun l=>decide (l.Skier=(gd (gd r.Teams i).Legs k).Skier):Nat):Int)) (s0:=0) rfl (by omega) fun j hj=>?_,nA]
   ·have bl:=wKW r (gd r.Teams i) k
    have sk:=gl.skier
    obtain ⟨a,ha⟩:∃ a:Nat,(gd (gd r.Teams i).Legs k).Skier=a:=⟨(gd (gd r.Teams i).Legs k).Skier.toNat,by omega⟩
    rw [wMj]
    have eE:(cvR r.Rules).Each=r.Rules.Each:=rfl
    rw [eE,wNA]
    unfold brB
    by_cases c1:r.Rules.Each <= ((((gd r.Teams i).Legs.take k).countP fun l=>decide (l.Skier=(gd (gd r.Teams i).Legs k).Skier):Nat):Int)
    ·rw [if_pos c1,wDM (by simp;omega),nA,wAQ (by omega) (by omega),if_pos (by simp [c1])]
     rfl
    ·rw [if_neg c1,wEe hk,nA,wHv,wKL,ha,wAX (by omega),nA,wON,wAX (by omega),nA,nE]
     by_cases c2:gd (gd r.Teams i).Classes a=gd r.Rules.Classes k
     ·rw [if_pos c2,wAQ (by omega) (by omega),if_neg (by simp [c1,c2,<- ha])]
      rfl
     ·rw [if_neg c2,wDM (by simp;omega),nA,wAQ (by omega) (by omega),if_pos (by simp [c2])]
      rfl
   ·have:=nW (p:=fun l:wAN=>decide (l.Skier=(gd (gd r.Teams i).Legs k).Skier)) (l:=(gd r.Teams i).Legs.take j)
    rw [nH] at this
    rw [wEe (by omega),nA,wEe hk,nA,wHv,wHv,wBo (by omega),nS]
    by_cases c:(gd (gd r.Teams i).Legs j).Skier=(gd (gd r.Teams i).Legs k).Skier
    ·rw [if_pos c,wAQ (by omega) (by omega)]
     simp [c]
    ·rw [if_neg c]
     simp [c]
  ·have bl:=wKW r (gd r.Teams i) (gd r.Teams i).Legs.length
   simp only
   rw [if_neg (by omega),wDM (by simp;omega),nA,wAQ (by omega) (by omega),wBo hi,nK]
   rfl
 ·simp only
  rw [if_neg (by omega),nL]
  rfl
theorem arrN8 (a:Arr Int 8) {i j:Nat} (hi:i < 8) (v:Int):(a.set i v).get j=if j=i then v else a.get j:=by
 unfold Arr.set Arr.get
 simp only [List.getD_eq_getElem?_getD]
 by_cases e:j=i
 ·rw [if_pos e,e,List.getElem?_set_self (by rw [a.h];exact hi)]
  rfl
 ·rw [if_neg e,List.getElem?_set_ne (Ne.symm e)]
theorem wQo (xs ys:List (List Int)) (y z:List Int):(xs ++ y :: ys).set xs.length z=xs ++ z :: ys:=by
 rw [nu _ _ (Nat.le_refl _),kE]
 rfl
theorem wLv {r:wAD} (g:wGO r) (hp:wDI r=some 0):wDL r=some (wKX r,0):=by
  have hn:=g.n
  have hc:=g.rules.n
  unfold wDL
  rw [hp,nA,if_pos rfl]
  have em:mkz 24 (r.Teams.length:Int) ([]:List Int)=some (nG r.Teams.length []):=by
    unfold mkz
    rw [if_pos ⟨by omega,by omega,by omega⟩,nE]
  rw [em,nA,wBs (S:=List (List Int)) (n:=r.Teams.length) (fun i=>((r.Teams.take i).map fun t=>brL r t t.Legs.length) ++ nG (r.Teams.length - i) []) (s0:=nG r.Teams.length []) (by simp) (by omega) fun i hi=>?_,nA,nL,kE]
  · simp [wKX]
  have gt:=g.team _ (wAW hi)
  have hl:=gt.legs
  have hN:=gt.n
  generalize hX:((r.Teams.take i).map fun t=>brL r t t.Legs.length)=X
  have lX:X.length=i:=by rw [<- hX,nD,nH];omega
  have eR:r.Teams.length - i=r.Teams.length - (i + 1) + 1:=by omega
  rw [wAX hi,nA,eR,kB,wBo hi,nK,hX]
  generalize hY:nG (r.Teams.length - (i + 1)) ([]:List Int)=Y
  obtain ⟨⟨a,l⟩,e,_,h2⟩:=wNb (S:=Arr Int 8 × List (List Int)) (n:=(gd r.Teams i).Legs.length) (s0:=(Arr.fill 8 0,X ++ [] :: Y)) (body:=fun (k104:Nat) ((a101,l102):Arr Int 8 × List (List Int)) =>
        (idx (gd r.Teams i).Legs (↑k104:Int)).bind fun x133 =>
        ((idx (gd r.Teams i).Classes x133.Skier).bind fun x162 =>
        (idx r.Rules.Classes (↑k104:Int)).bind fun x170 =>
        if x162=x170 then
          (chk x133.Skier 8).bind fun _ =>
          some (decide (r.Rules.Each <= (a101.get x133.Skier.toNat)))
        else
          some true).bind fun b156 =>
        if b156=true then
          (chk (↑i:Int) l102.length).bind fun _ =>
          (app 8 (gd l102 i) [(↑k104:Int)]).bind fun x223 =>
          (chk x133.Skier 8).bind fun _ =>
          some ((a101.set x133.Skier.toNat (w64 ((a101.get x133.Skier.toNat) + 1))),(ng l102 i x223))
        else
          (chk x133.Skier 8).bind fun _ =>
          some ((a101.set x133.Skier.toNat (w64 ((a101.get x133.Skier.toNat) + 1))),l102)) (fun k st=>(∀ s:Nat,s < 8->st.1.get s=((((gd r.Teams i).Legs.take k).countP fun l=>decide (l.Skier=(s:Int)):Nat):Int))/\st.2=X ++ brL r (gd r.Teams i) k :: Y) (by omega) ⟨fun s hs=>by
      have:s=0 \/ s=1 \/ s=2 \/ s=3 \/ s=4 \/ s=5 \/ s=6 \/ s=7:=by omega
      rcases this with rfl | rfl | rfl | rfl | rfl | rfl | rfl | rfl <;> rfl,rfl⟩ (fun k st hk ⟨h1,h2⟩=>by
    obtain ⟨a,l⟩:=st
    simp only at h1 h2
    subst h2
    have gl:=gt.leg _ (wAW hk)
    have sk:=gl.skier
    have bl:=wKW r (gd r.Teams i) k
    obtain ⟨q,hq⟩:∃ q:Nat,(gd (gd r.Teams i).Legs k).Skier=q:=⟨(gd (gd r.Teams i).Legs k).Skier.toNat,by omega⟩
    have hq8:q < 8:=by omega
    have cq:=h1 q hq8
    have cl:=nW (p:=fun l:wAN=>decide (l.Skier=(q:Int))) (l:=(gd r.Teams i).Legs.take k)
    rw [nH] at cl
    have next:∀ s:Nat,s < 8->(a.set q (a.get q + 1)).get s=((((gd r.Teams i).Legs.take (k + 1)).countP fun l=>decide (l.Skier=(s:Int)):Nat):Int):=fun s hs=>by
      rw [arrN8 _ hq8,wBo hk,nS]
      by_cases e:s=q
      · subst e
        rw [if_pos rfl,h1 s hs]
        simp [hq]
      · have:¬ (q:Int)=(s:Int):=by omega
        rw [if_neg e,h1 s hs]
        simp [hq,this]
    have bq:brB r (gd r.Teams i) k=(decide (r.Rules.Each <= a.get q) || !decide (gd (gd r.Teams i).Classes q=gd r.Rules.Classes k)):=by
      unfold brB
      rw [hq,cq,nE]
    dsimp only
    rw [wAX hk,nA,hq,wAX (by omega),nA,wAX (by omega),nA,wBy (by omega) (by omega),nE,wAQ (by omega) (by omega),wNA,bq]
    simp only [nA]
    have gX:gd (X ++ brL r (gd r.Teams i) k :: Y) i=brL r (gd r.Teams i) k:=by
      have:=wMa X Y (brL r (gd r.Teams i) k)
      rwa [lX] at this
    have sX:∀ z,(X ++ brL r (gd r.Teams i) k :: Y).set i z=X ++ z :: Y:=fun z=>by
      have:=wQo X Y (brL r (gd r.Teams i) k) z
      rwa [lX] at this
    have yes:(chk (i:Int) (X ++ brL r (gd r.Teams i) k :: Y).length).bind (fun _=>(app 8 (gd (X ++ brL r (gd r.Teams i) k :: Y) i) [(k:Int)]).bind fun x223=>some (a.set q (a.get q + 1),(X ++ brL r (gd r.Teams i) k :: Y).set i x223))=some (a.set q (a.get q + 1),X ++ (brL r (gd r.Teams i) k ++ [(k:Int)]) :: Y):=by
      rw [wBy (by omega) (by rw [nU,List.length_cons];omega),nA,gX,wDM (by simp;omega),nA,sX]
    by_cases c1:gd (gd r.Teams i).Classes q=gd r.Rules.Classes k
    · rw [if_pos c1,nA]
      by_cases c2:r.Rules.Each <= a.get q
      · rw [if_pos (decide_eq_true c2),yes,if_pos (by simp [c2])]
        exact ⟨_,rfl,next,rfl⟩
      · rw [if_neg (by simp [c2]),if_neg (by simp [c1,c2])]
        exact ⟨_,rfl,next,rfl⟩
    · rw [if_neg c1,nA,if_pos rfl,yes,if_pos (by simp [c1])]
      exact ⟨_,rfl,next,rfl⟩)
  simp only at h2
  rw [e,nA]
  simp only
  rw [h2,<- hY]
  simp
theorem wLw {r:wAD} (h:wGp r):∃ B c,wDL r=some (B,c)/\wBe (cv r)=some (B,c)/\B.length <= 1000/\∀ l ∈ B,l.length <= 1000:=by
 by_cases c:wMh r=0
 ·have g:=wLr c
  have hq:=wGA h
  have hp:=wIP h
  rw [c] at hq hp
  refine ⟨_,0,wLv g hp,wNa g hq,?_,fun l hl=>?_⟩
  ·have:=g.n
   unfold wKX
   rw [nD];omega
  ·obtain ⟨t,ht,rfl⟩:=nR.1 hl
   have gt:=g.team t ht
   have:=gt.legs
   have:=g.rules.n
   have:=wKW r t t.Legs.length
   omega
 ·refine ⟨[],wMh r,?_,?_,by simp,by simp⟩
  ·unfold wDL
   rw [wIP h,nA,if_neg c]
  ·unfold wBe
   rw [wGA h,nA,if_neg c]
theorem wPh {r:wAD} (g:wGO r) {i:Nat} (hi:i < r.Teams.length) (hf:((gd (after r) i).length:Int)=(wDV r).Laps) :
  ∃ k L:Nat,(gd r.Teams i).Legs.length=k + 1/\r.Rules.Laps=(L:Int)/\1 <= L/\(gd (gd r.Teams i).Legs k).Loops.length=L /\
   gd (gd (after r) i) ((wDV r).Laps - 1).toNat=tAt r.Rules (gd (gd r.Teams i).Legs k) (wFB r.Rules ((gd r.Teams i).Legs.take k) r.Start) L:=by
 have gt:=g.team _ (wAW hi)
 have hl:=gt.legs
 have hc:=g.rules.n
 have hL:=g.rules.laps
 obtain ⟨L,eL⟩:=Int.eq_ofNat_of_zero_le (show 0 <= r.Rules.Laps by omega)
 have hL1:1 <= L:=by omega
 have ea:gd (after r) i=wEf r.Rules (gd r.Teams i).Legs r.Start:=by
  unfold after
  rw [wEV _ hi]
 have eT:(wDV r).Laps=((r.Rules.Classes.length * L:Nat):Int):=by
  show (r.Rules.Classes.length:Int) * r.Rules.Laps=_
  rw [eL];simp
 have hpos:1 <= r.Rules.Classes.length * L:=Nat.mul_pos hc.1 hL1
 rw [eT] at hf
 rw [ea] at hf ⊢
 have h0:(gd r.Teams i).Legs.length ≠ 0:=fun e=>by
  rw [nq.1 e] at hf
  simp only [wEf,List.length_nil] at hf
  omega
 obtain ⟨k,ek⟩:∃ k,(gd r.Teams i).Legs.length=k + 1:=⟨(gd r.Teams i).Legs.length - 1,by omega⟩
 have hk:k < (gd r.Teams i).Legs.length:=by omega
 have gl:=gt.leg _ (wAW hk)
 have es:(gd r.Teams i).Legs=(gd r.Teams i).Legs.take k ++ [gd (gd r.Teams i).Legs k]:=by
  have:=wBo hk
  rw [<- ek,nL] at this
  exact this
 have sn:=(wFE r.Rules (gd (gd r.Teams i).Legs k) ((gd r.Teams i).Legs.take k) r.Start).1
 rw [<- es] at sn
 have ln:(wOH r.Rules (gd (gd r.Teams i).Legs k) (wFB r.Rules ((gd r.Teams i).Legs.take k) r.Start)).length=(gd (gd r.Teams i).Legs k).Loops.length:=by
  unfold wOH
  rw [nD,nI]
 have l1:=wIQ (show r.Rules.Laps=(L:Int) from eL) ((gd r.Teams i).Legs.take k) r.Start fun a ha=>gt.leg a (nT ha)
 have lt:((gd r.Teams i).Legs.take k).length=k:=by rw [nH];omega
 rw [lt] at l1
 have tot:=congrArg List.length sn
 rw [nU,ln] at tot
 have m1:(k + 1) * L <= r.Rules.Classes.length * L:=Nat.mul_le_mul_right L (by omega)
 rw [Nat.add_mul,Nat.one_mul] at m1
 have le:=gl.le
 have eLoops:(gd (gd r.Teams i).Legs k).Loops.length=L:=by omega
 refine ⟨k,L,ek,eL,hL1,eLoops,?_⟩
 rw [eT,sn]
 have e1:(((r.Rules.Classes.length * L:Nat):Int) - 1).toNat=(wEf r.Rules ((gd r.Teams i).Legs.take k) r.Start).length + (L - 1):=by omega
 rw [e1]
 have hlt:L - 1 < (wOH r.Rules (gd (gd r.Teams i).Legs k) (wFB r.Rules ((gd r.Teams i).Legs.take k) r.Start)).length:=by rw [ln];omega
 have gdr:∀ (X Y:List Int) (j:Nat),j < Y.length->gd (X ++ Y) (X.length + j)=gd Y j:=fun X Y j hj=>by
  have a:=wBO (xs:=X ++ Y) (k:=X.length + j) (by rw [nU];omega)
  rw [List.getElem?_append_right (by omega),show X.length + j - X.length=j by omega,wBO hj] at a
  exact (kL a).symm
 rw [gdr _ _ _ hlt]
 unfold wOH
 rw [eLoops,wEV _ (by rw [nI];omega)]
 have:gd (nN L) (L - 1)=L - 1:=by
  rw [wCv (by rw [nI];omega),nh]
 rw [this,show L - 1 + 1=L by omega]
theorem wOj {r:wAD} (g:wGO r) {i:Nat} (hi:i < r.Teams.length) (hf:((gd (after r) i).length:Int)=(wDV r).Laps) :
  wAl (cv r) (i:Int)=some (gd (gd (after r) i) ((wDV r).Laps - 1).toNat + unT (gd r.Teams i).Legs * r.Rules.Unused):=by
 have gt:=g.team _ (wAW hi)
 have hl:=gt.legs
 have hc:=g.rules.n
 obtain ⟨k,L,ek,eL,hL1,eLo,et⟩:=wPh g hi hf
 have hk:k < (gd r.Teams i).Legs.length:=by omega
 have W:=wPT g
 have la:(after r).length=r.Teams.length:=by unfold after;rw [nD]
 have hrow:gd (after r) i ∈ (wDV r).Times:=wAW (l:=(wDV r).Times) (k:=i) (show i < (after r).length by omega)
 have hpos:=W.g.pos _ hrow _ (wAW (show ((wDV r).Laps - 1).toNat < (gd (after r) i).length by have:=W.laps;omega))
 have hu:=wGB g.rules gt.leg
 have hun:=g.rules.unused
 unfold wAl
 rw [wDv hi,nA,wFm,ek]
 have ew:w64 (((k + 1:Nat):Int) - 1)=(k:Int):=by rw [wAQ (by omega) (by omega)];omega
 rw [ew]
 have eLa:(cv r).Rules.Laps=(L:Int):=eL
 rw [eLa,wKy g hi hk (by omega),nA,<- et]
 generalize gd (gd (after r) i) ((wDV r).Laps - 1).toNat=X at *
 have mu:∀ v:Int,0 <= v->v <= 48->0 <= v * r.Rules.Unused/\v * r.Rules.Unused <= 48 * 6000:=fun v h1 h2=>⟨Int.mul_nonneg h1 hun.1,Int.mul_le_mul h2 hun.2 hun.1 (by omega)⟩
 have eU:(cv r).Rules.Unused=r.Rules.Unused:=rfl
 refine wGP (m:=k + 1) (fun q=>(X + unT ((gd r.Teams i).Legs.take q) * r.Rules.Unused,(q:Int))) (fun q hq=>?_) ?_ (by simp [unT]) (by omega)
 ·have hq':q < (gd r.Teams i).Legs.length:=by omega
  have gl:=gt.leg _ (wAW hq')
  have h4:=wKT g.rules gl
  have hr:=wGB g.rules (l:=(gd r.Teams i).Legs.take q) fun a ha=>gt.leg a (nT ha)
  rw [nH] at hr
  have hr2:=wGB g.rules (l:=(gd r.Teams i).Legs.take (q + 1)) fun a ha=>gt.leg a (nT ha)
  rw [nH] at hr2
  simp only
  rw [if_pos (by omega)]
  refine wGP (m:=(gd (gd r.Teams i).Legs q).Bouts.length) (fun j=>(X + (unT ((gd r.Teams i).Legs.take q) + unB ((gd (gd r.Teams i).Legs q).Bouts.take j)) * r.Rules.Unused,(j:Int))) (fun j hj=>?_) ?_ (by simp [unB]) (by omega)
  ·have ho:=gl.ok _ (wAW hj)
   have hb:=wGq (l:=(gd (gd r.Teams i).Legs q).Bouts.take j) fun b hb=>gl.ok b (nT hb)
   have hb2:=wGq (l:=(gd (gd r.Teams i).Legs q).Bouts.take (j + 1)) fun b hb=>gl.ok b (nT hb)
   have hu1:=wKQ ho
   rw [nH] at hb hb2
   have b1:=mu (unT ((gd r.Teams i).Legs.take q) + unB ((gd (gd r.Teams i).Legs q).Bouts.take j)) (by omega) (by omega)
   have b2:=mu (un (gd (gd (gd r.Teams i).Legs q).Bouts j)) (by omega) (by omega)
   simp only
   rw [wEe hq',nA,wFz,if_pos (by omega),wAX hj,nA,wJV ho,nA]
   show some (Sum.inl (w64 (_ + w64 (un (gd (gd (gd r.Teams i).Legs q).Bouts j) * (cv r).Rules.Unused)),_))=_
   rw [eU,wAQ (x:=un _ * _) (by omega) (by omega),wAQ (by omega) (by omega),wAQ (by omega) (by omega),wBo hj,wKR]
   have ed:X + (unT ((gd r.Teams i).Legs.take q) + unB ((gd (gd r.Teams i).Legs q).Bouts.take j)) * r.Rules.Unused + un (gd (gd (gd r.Teams i).Legs q).Bouts j) * r.Rules.Unused=X + (unT ((gd r.Teams i).Legs.take q) + (unB ((gd (gd r.Teams i).Legs q).Bouts.take j) + un (gd (gd (gd r.Teams i).Legs q).Bouts j))) * r.Rules.Unused:=by
    rw [<- kA (unT _),Int.add_mul (_ + _) (un _),kA]
   rw [ed]
   rfl
  ·simp only
   rw [wEe hq',nA,wFz,if_neg (by omega),nL,wAQ (by omega) (by omega),wBo hq',wKS]
   rfl
 ·simp only
  rw [if_neg (by omega),<- ek,nL]
  rfl
open Classical
structure Kn8 (r:wAD) (FN:List Bool) (D:List Int) (fin:Nat->Bool) (time done bib:Nat->Int):Prop where
 n:r.Teams.length <= 12
 fl:FN.length=r.Teams.length
 f:∀ k,k < r.Teams.length->gd FN k=fin k
 dl:D.length=r.Teams.length
 d:∀ k,k < r.Teams.length->gd D k=done k
 b:∀ k,k < r.Teams.length->(gd r.Teams k).Bib=bib k
 t:∀ k,k < r.Teams.length->fin k=true->wAl (cv r) (k:Int)=some (time k)
def bf8 (fin:Nat->Bool) (time done bib:Nat->Int) (i j:Nat):Prop :=
 if fin i=true then (fin j=false \/ time i < time j \/ (time i=time j/\bib i < bib j)) else (fin j=false/\(done j < done i \/ (done i=done j/\bib i < bib j)))
def wJa (c:wAT) (FN TK:List Bool) (D:List Int) (l252:List wAR):Int × Int->Option (Int × Int ⊕ ((List wAR × List Bool) ⊕ (List wAR × Int))):=(fun (x283,x284) =>
 if x284 < (↑c.Teams.length:Int) then
 ((chk x284 TK.length).bind fun _ =>
 if (gd TK x284.toNat)=true then
 some x283
 else
 (if x283 < 0 then
 some true
 else
 (chk x284 FN.length).bind fun _ =>
 if (gd FN x284.toNat)=true then
 (chk x283 FN.length).bind fun _ =>
 some (!(gd FN x283.toNat))
 else
 some false).bind fun b315 =>
 if b315=true then
 some x284
 else
 ((chk x283 FN.length).bind fun _ =>
 if (gd FN x283.toNat)=true then
 (chk x284 FN.length).bind fun _ =>
 some (!(gd FN x284.toNat))
 else
 some false).bind fun b351 =>
 if b351=true then
 some x283
 else
 (chk x283 D.length).bind fun _ =>
 (chk x284 D.length).bind fun _ =>
 (chk x284 FN.length).bind fun _ =>
 if (gd FN x284.toNat)=true then
 (wAl c x284).bind fun x420 =>
 (wAl c x283).bind fun x432 =>
 if x420 < x432 then
 some x284
 else
 if x420=x432 then
 (idx c.Teams x284).bind fun x459 =>
 (idx c.Teams x283).bind fun x475 =>
 if x459.Bib < x475.Bib then
 some x284
 else
 some x283
 else
 some x283
 else
 if (gd D x283.toNat) < (gd D x284.toNat) then
 some x284
 else
 if (gd D x283.toNat)=(gd D x284.toNat) then
 (idx c.Teams x284).bind fun x515 =>
 (idx c.Teams x283).bind fun x540 =>
 if x515.Bib < x540.Bib then
 some x284
 else
 some x283
 else
 some x283).bind fun x304 =>
 some (.inl (x304,w64 (x284 + 1)))
 else
 esc ((chk x283 TK.length).bind fun _ =>
 (idx c.Teams x283).bind fun x586 =>
 (chk x283 FN.length).bind fun _ =>
 if (gd FN x283.toNat)=true then
 (wAl c x283).bind fun x629 =>
 iter (fun (x651,x652) =>
 if x652 < (↑c.Teams.length:Int) then
 (chk x652 FN.length).bind fun _ =>
 if (gd FN x652.toNat)=true then
 (wAl c x652).bind fun x683 =>
 if x683 < x629 then
 some (.inl (w64 (x651 + 1),w64 (x652 + 1)))
 else
 some (.inl (x651,w64 (x652 + 1)))
 else
 some (.inl (x651,w64 (x652 + 1)))
 else
 esc ((app 24 l252 [(⟨x586.Bib,x651,x629⟩:wAR)]).bind fun x715 =>
 some (.inl (x715,(ng TK x283.toNat true))))) big (1,0)
 else
 (app 24 l252 [(⟨x586.Bib,0,0⟩:wAR)]).bind fun x733 =>
 some (.inl (x733,(ng TK x283.toNat true)))))
section
variable {r:wAD} {FN TK:List Bool} {D:List Int} {fin:Nat->Bool} {time done bib:Nat->Int} {l252:List wAR}
theorem wLL (K:Kn8 r FN D fin time done bib) {k:Nat} (hk:k < r.Teams.length):(cvT (gd r.Teams k)).Bib=bib k:=K.b k hk
theorem wOk (K:Kn8 r FN D fin time done bib) (tl:TK.length=r.Teams.length) (x:Int) {i:Nat} (hi:i < r.Teams.length) (h:gd TK i=true):wJa (cv r) FN TK D l252 (x,(i:Int))=some (.inl (x,((i + 1:Nat):Int))):=by
 have hn:=K.n
 unfold wJa
 simp only
 rw [wFl,if_pos (by omega),wBy (by omega) (by omega),nA,nE,if_pos h,nA,wAQ (by omega) (by omega)]
 rfl
theorem wNc (K:Kn8 r FN D fin time done bib) (tl:TK.length=r.Teams.length) {i:Nat} (hi:i < r.Teams.length) (h:gd TK i=false):wJa (cv r) FN TK D l252 (-1,(i:Int))=some (.inl ((i:Int),((i + 1:Nat):Int))):=by
 have hn:=K.n
 unfold wJa
 simp only
 rw [wFl,if_pos (by omega),wBy (by omega) (by omega),nA,nE,if_neg (by rw [h];exact nZ),if_pos (by omega),nA,if_pos rfl,nA,wAQ (by omega) (by omega)]
 rfl
theorem wOl (K:Kn8 r FN D fin time done bib) (tl:TK.length=r.Teams.length) {b i:Nat} (hb:b < r.Teams.length) (hi:i < r.Teams.length) (h:gd TK i=false):wJa (cv r) FN TK D l252 ((b:Int),(i:Int))=some (.inl (((if bf8 fin time done bib i b then i else b:Nat):Int),((i + 1:Nat):Int))):=by
 have hn:=K.n
 have fl:=K.fl
 have dl:=K.dl
 have fi:=K.f i hi
 have fb:=K.f b hb
 have key:∀ X:Option Int,X=some ((if bf8 fin time done bib i b then i else b:Nat):Int)->(X.bind fun x304=>some (Sum.inl (x304,w64 ((i:Int) + 1))))=(some (Sum.inl (((if bf8 fin time done bib i b then i else b:Nat):Int),((i + 1:Nat):Int))):Option (Int × Int ⊕ ((List wAR × List Bool) ⊕ (List wAR × Int)))):=fun X h=>by
  rw [h,nA,wAQ (by omega) (by omega)]
  rfl
 unfold wJa
 simp only
 rw [wFl,if_pos (by omega),wBy (by omega) (by omega),nA]
 simp only [nE]
 rw [if_neg (by rw [h];exact nZ),if_neg (by omega),wBy (by omega) (by omega),nA,wBy (i:=(b:Int)) (n:=FN.length) (by omega) (by omega)]
 refine key _ ?_
 simp only [nA,fi,fb]
 unfold bf8
 cases hfi:fin i <;> cases hfb:fin b
 ·simp only [kF,if_false,nA]
  rw [wBy (by omega) (by omega),nA,wBy (by omega) (by omega),nA]
  simp only [K.d i hi,K.d b hb]
  rw [wDv hi,nA,wDv hb,nA,wLL K hi,wLL K hb]
  by_cases c1:done b < done i
  ·rw [if_pos c1,if_pos ⟨trivial,.inl c1⟩]
  ·rw [if_neg c1]
   by_cases c2:done b=done i
   ·rw [if_pos c2]
    by_cases c3:bib i < bib b
    ·rw [if_pos c3,if_pos ⟨trivial,.inr ⟨c2.symm,c3⟩⟩]
    ·rw [if_neg c3,if_neg (by omega)]
   ·rw [if_neg c2,if_neg (by omega)]
 ·simp
 ·simp
 ·simp only [if_true,Bool.not_true,nA,kF,if_false]
  rw [wBy (by omega) (by omega),nA,wBy (by omega) (by omega),nA,K.t i hi hfi,nA,K.t b hb hfb,nA,wDv hi,nA,wDv hb,nA,wLL K hi,wLL K hb]
  by_cases c1:time i < time b
  ·rw [if_pos c1,if_pos (.inr (.inl c1))]
  ·rw [if_neg c1]
   by_cases c2:time i=time b
   ·rw [if_pos c2]
    by_cases c3:bib i < bib b
    ·rw [if_pos c3,if_pos (.inr (.inr ⟨c2,c3⟩))]
    ·rw [if_neg c3,if_neg (by simp;omega)]
   ·rw [if_neg c2,if_neg (by simp;omega)]
noncomputable def wOo (fin:Nat->Bool) (time:Nat->Int) (b m:Nat):Nat:=(nN m).countP fun i=>decide (fin i=true/\time i < time b)
theorem wQp (fin:Nat->Bool) (time:Nat->Int) (b m:Nat):wOo fin time b m <= m:=by
 have:=nW (p:=fun i=>decide (fin i=true/\time i < time b)) (l:=nN m)
 rwa [nI] at this
theorem wPi (K:Kn8 r FN D fin time done bib) (tl:TK.length=r.Teams.length) {b:Nat} (hb:b < r.Teams.length) (hl:l252.length <= 12):wJa (cv r) FN TK D l252 ((b:Int),(r.Teams.length:Int)) =
  esc (some (.inl (l252 ++ [if fin b=true then (⟨bib b,1 + (wOo fin time b r.Teams.length:Int),time b⟩:wAR) else ⟨bib b,0,0⟩],TK.set b true))):=by
 have hn:=K.n
 have fl:=K.fl
 have fb:=K.f b hb
 unfold wJa
 simp only
 rw [wFl,if_neg (by omega),wBy (by omega) (by omega),nA,wDv hb,nA,wLL K hb,wBy (by omega) (by omega),nA,nE,fb]
 congr 1
 by_cases hf:fin b=true
 ·rw [if_pos hf,if_pos hf,K.t b hb hf,nA]
  refine wGP (m:=r.Teams.length) (fun q=>(1 + (wOo fin time b q:Int),(q:Int))) (fun q hq=>?_) ?_ (by simp [wOo]) (by omega)
  ·have le:=wQp fin time b q
   have es:(wOo fin time b (q + 1):Int)=wOo fin time b q + (if fin q=true/\time q < time b then 1 else 0):=by
    unfold wOo
    rw [nr,nS]
    by_cases c:fin q=true/\time q < time b
    ·rw [if_pos c];simp [c]
    ·rw [if_neg c]
     have:(List.countP (fun i=>decide (fin i=true/\time i < time b)) [q])=0:=by
      rw [kC]
      intro a ha
      rw [nJ.1 ha]
      simpa using c
     rw [this];simp
   simp only
   rw [if_pos (by omega),wBy (by omega) (by omega),nA,nE,K.f q hq,es]
   by_cases c1:fin q=true
   ·rw [if_pos c1,K.t q hq c1,nA]
    by_cases c2:time q < time b
    ·rw [if_pos c2,if_pos ⟨c1,c2⟩,wAQ (by omega) (by omega),wAQ (by omega) (by omega),kA]
     rfl
    ·rw [if_neg c2,if_neg fun h=>c2 h.2,wAQ (by omega) (by omega),Int.add_zero]
     rfl
   ·rw [if_neg c1,if_neg fun h=>c1 h.1,wAQ (by omega) (by omega),Int.add_zero]
    rfl
  ·simp only
   rw [if_neg (by omega),wDM (by rw [nv];omega),nA]
   rfl
 ·rw [if_neg hf,if_neg hf,wDM (by rw [nv];omega),nA]
end
section
variable {fin:Nat->Bool} {time done bib:Nat->Int}
theorem wQq {i j:Nat} (h:bf8 fin time done bib i j):¬ bf8 fin time done bib j i:=by
 unfold bf8 at *
 cases hi:fin i <;> cases hj:fin j <;> simp [hi,hj] at h ⊢ <;> omega
theorem wPj {i j:Nat} (hb:bib i ≠ bib j) (h:¬ bf8 fin time done bib i j):bf8 fin time done bib j i:=by
 unfold bf8 at *
 cases hi:fin i <;> cases hj:fin j <;> simp [hi,hj] at h ⊢ <;> omega
theorem wPk {i j k:Nat} (h:bf8 fin time done bib i j) (g:bf8 fin time done bib j k):bf8 fin time done bib i k:=by
 unfold bf8 at *
 cases hi:fin i <;> cases hj:fin j <;> cases hk:fin k <;> simp [hi,hj,hk] at h g ⊢ <;> omega
end
structure Ord8 (n:Nat) (fin:Nat->Bool) (time done bib:Nat->Int) (Ls:List Nat):Prop where
 p:Ls.Perm (nN n)
 o:Ls.Pairwise (bf8 fin time done bib)
noncomputable def rs8 (n:Nat) (fin:Nat->Bool) (time bib:Nat->Int) (b:Nat):wAR:=if fin b=true then ⟨bib b,1 + (wOo fin time b n:Int),time b⟩ else ⟨bib b,0,0⟩
noncomputable def tkL (n:Nat) (S:List Nat):List Bool:=(nN n).map fun i=>decide (i ∈ S)
theorem wPl {n:Nat} (S:List Nat) {i:Nat} (hi:i < n):gd (tkL n S) i=decide (i ∈ S):=by
 unfold tkL
 rw [wEV _ (by rw [nI];exact hi),wCv (by rw [nI];exact hi),nh]
theorem wIX (n:Nat) (S:List Nat):(tkL n S).length=n:=by simp [tkL]
section
variable {r:wAD} {FN:List Bool} {D:List Int} {fin:Nat->Bool} {time done bib:Nat->Int} {Ls:List Nat}
theorem wQr (K:Kn8 r FN D fin time done bib) (hb:∀ i j,i < r.Teams.length->j < r.Teams.length->bib i=bib j->i=j) (P:Ord8 r.Teams.length fin time done bib Ls) {j:Nat} (hj:j < r.Teams.length) {l:List wAR} (hl:l.length <= 12) :
  iter (wJa (cv r) FN (tkL r.Teams.length (Ls.take j)) D l) big (-1,0)=some (.inl (l ++ [rs8 r.Teams.length fin time bib (gd Ls j)],tkL r.Teams.length (Ls.take (j + 1)))):=by
 have hn:=K.n
 have ll:Ls.length=r.Teams.length:=by have:=P.p.length_eq;rwa [nI] at this
 have nd:Ls.Nodup:=P.p.nodup_iff.2 List.nodup_range
 have hjl:j < Ls.length:=by omega
 have lt:∀ k ∈ Ls,k < r.Teams.length:=fun k hk=>nX.1 (P.p.mem_iff.1 hk)
 have hq:gd Ls j < r.Teams.length:=lt _ (wAW hjl)
 have sp:Ls=Ls.take j ++ gd Ls j :: Ls.drop (j + 1):=by rw [<- wIM hjl,nV]
 have nd':=nd
 rw [sp] at nd'
 have nda:=na.1 nd'
 have hun:gd Ls j ∉ Ls.take j:=fun h=>nda.2.2 _ h _ (kG ..) rfl
 have best:∀ k,k < r.Teams.length->k ∉ Ls.take j->k ≠ gd Ls j->bf8 fin time done bib (gd Ls j) k:=fun k hk h1 h2=>by
  have hm:k ∈ Ls:=P.p.mem_iff.2 (nX.2 hk)
  have po:=P.o
  rw [sp] at hm po
  rcases nM.1 hm with h | h
  ·exact absurd h h1
  ·rcases List.mem_cons.1 h with h | h
   ·exact absurd h h2
   ·exact (List.pairwise_cons.1 (nY.1 po).2.1).1 k h
 have tl:=wIX r.Teams.length (Ls.take j)
 have tg:∀ k,k < r.Teams.length->gd (tkL r.Teams.length (Ls.take j)) k=decide (k ∈ Ls.take j):=fun k hk=>wPl _ hk
 obtain ⟨⟨c,q⟩,⟨h1,h2⟩,hend⟩:=wFo (body:=wJa (cv r) FN (tkL r.Teams.length (Ls.take j)) D l) (s0:=((-1:Int),(0:Int))) (fun i s=>s.2=(i:Int)/\((s.1=-1/\∀ k,k < i->k ∈ Ls.take j) \/ ∃ b:Nat,s.1=(b:Int)/\b < i/\b ∉ Ls.take j/\∀ k,k < i->k ∉ Ls.take j->k ≠ b->bf8 fin time done bib b k)) r.Teams.length ⟨rfl,.inl ⟨rfl,fun k hk=>by omega⟩⟩ (by omega) (fun i s hi ⟨h1,h2⟩=>by
  obtain ⟨c,q⟩:=s
  simp only at h1 h2
  subst h1
  by_cases t:i ∈ Ls.take j
  ·refine ⟨_,wOk K tl c hi (by rw [tg i hi];exact decide_eq_true t),rfl,?_⟩
   rcases h2 with ⟨e,h⟩ | ⟨b,e,h3,h4,h5⟩
   ·refine .inl ⟨e,fun k hk=>?_⟩
    by_cases ek:k=i
    ·rw [ek];exact t
    ·exact h k (by omega)
   ·refine .inr ⟨b,e,by omega,h4,fun k hk h6 h7=>?_⟩
    by_cases ek:k=i
    ·subst ek;exact absurd t h6
    ·exact h5 k (by omega) h6 h7
  ·rcases h2 with ⟨rfl,h⟩ | ⟨b,rfl,h3,h4,h5⟩
   ·refine ⟨_,wNc K tl hi (by rw [tg i hi];exact decide_eq_false t),rfl,.inr ⟨i,rfl,by omega,t,fun k hk h6 h7=>?_⟩⟩
    exact absurd (h k (by omega)) h6
   ·refine ⟨_,wOl K tl (b:=b) (by omega) hi (by rw [tg i hi];exact decide_eq_false t),rfl,.inr ?_⟩
    by_cases c:bf8 fin time done bib i b
    ·refine ⟨i,by simp only [if_pos c],by omega,t,fun k hk h6 h7=>?_⟩
     by_cases ek:k=b
     ·rw [ek];exact c
     ·exact wPk c (h5 k (by omega) h6 ek)
    ·refine ⟨b,by simp only [if_neg c],by omega,h4,fun k hk h6 h7=>?_⟩
     by_cases ek:k=i
     ·subst ek
      exact wPj (fun e=>by have:=hb k b hi (by omega) e;omega) c
     ·exact h5 k (by omega) h6 h7)
 simp only at h1 h2
 subst h1
 rcases h2 with ⟨_,h⟩ | ⟨b,rfl,h3,h4,h5⟩
 ·exact absurd (h _ hq) hun
 ·have eb:b=gd Ls j:=by
   by_cases e:b=gd Ls j
   ·exact e
   ·exact absurd (best b h3 h4 e) (wQq (h5 _ hq hun fun q=>e q.symm))
  subst eb
  have set_:(tkL r.Teams.length (Ls.take j)).set (gd Ls j) true=tkL r.Teams.length (Ls.take (j + 1)):=by
   refine wKv (by rw [ns,wIX,wIX]) fun k hk=>?_
   rw [ns,wIX] at hk
   rw [wIW (by rw [wIX];exact hq) (by rw [wIX];exact hk),wPl _ hk,wPl _ hk,wBo hjl]
   by_cases e:k=gd Ls j
   ·rw [if_pos e];simp [e]
   ·rw [if_neg e]
    exact decide_eq_decide.2 (by simp [e])
  rw [hend _ (wPi K tl hq hl),set_]
  rfl
end
section
variable {r:wAD} {p:wAL} {A:List wAG} {τ:Nat->Option Int}
def wKY (r:wAD) (A:List wAG) (D:List Int) (k:Nat):Bool:=(wHI r A D k).fin
def wQs (r:wAD) (A:List wAG) (D:List Int) (k:Nat):Int:=(wHI r A D k).time
def donI (r:wAD) (A:List wAG) (D:List Int) (k:Nat):Int:=(wHI r A D k).done
def wQB (r:wAD) (k:Nat):Int:=(gd r.Teams k).Bib
theorem kn8 (g:wGO r) (P:Ran r p A τ):Kn8 r ((nN r.Teams.length).map (wKY r A p.done)) p.done (wKY r A p.done) (wQs r A p.done) (donI r A p.done) (wQB r):=by
 have hb:(wDV r).Bibs.length=r.Teams.length:=by show (r.Teams.map _).length=_;rw [nD]
 refine ⟨g.n.2,by simp,fun k hk=>?_,by rw [P.R.dl,hb],fun k hk=>rfl,fun k hk=>rfl,fun k hk hf=>?_⟩
 ·rw [wEV _ (by rw [nI];exact hk),wCv (by rw [nI];exact hk),nh]
 ·unfold wKY wHI at hf
  simp only [nm,decide_eq_true_eq] at hf
  exact wOj g hk hf.2
theorem wQt {n i:Nat} (hi:i < n) (f:Nat->Bool):((nN i).map f ++ nG (n - i) false).set i (f i)=(nN (i + 1)).map f ++ nG (n - (i + 1)) false:=by
 rw [show n - i=n - (i + 1) + 1 by omega,kB,nu _ _ (by simp)]
 simp [nr]
theorem wLx (g:wGO r) (hq:wBH (cv r)=some 0) (P:Ran r p A τ) {Ls:List Nat} (O:Ord8 r.Teams.length (wKY r A p.done) (wQs r A p.done) (donI r A p.done) (wQB r) Ls):wBF (cv r)=some (Ls.map (rs8 r.Teams.length (wKY r A p.done) (wQs r A p.done) (wQB r)),0):=by
 have hn:=g.n
 have K:=kn8 g P
 have la:(after r).length=r.Teams.length:=by unfold after;rw [nD]
 have hbib:∀ i j,i < r.Teams.length->j < r.Teams.length->wQB r i=wQB r j->i=j:=fun i j hi hj e=>by
  have nd:=g.bibs
  refine (List.getElem?_inj (by rw [nD];exact hi) nd).1 ?_
  rw [kI,kI,wBO hi,wBO hj]
  exact congrArg some e
 have ll:Ls.length=r.Teams.length:=by have:=O.p.length_eq;rwa [nI] at this
 have em:mkz 1 (r.Teams.length:Int) false=some (nG r.Teams.length false):=by
  unfold mkz
  rw [if_pos ⟨by omega,by omega,by omega⟩,nE]
 unfold wBF
 rw [wKz g hq,nA]
 show (wAv (cvS (wDV r))).bind (fun x=>_)=_
 rw [P.rout,nA]
 show (wBE (cvS (wDV r))).bind (fun x=>_)=_
 rw [P.rcnt,nA]
 have emb:∀ {β:Type} (f:List Bool->Option β),(mkz 1 (↑(cv r).Teams.length:Int) false).bind f=f (nG r.Teams.length false):=fun f=>by rw [wFl,em];rfl
 show Option.bind (mkz 1 (↑(cv r).Teams.length:Int) false) _=_
 rw [emb]
 obtain ⟨s,e,hend⟩:=wFo (S:=List Bool × Int) (B:=List wAR × Int) (body:=fun (l89,x90) =>
   if x90 < (↑l89.length:Int) then
    (idx (after r) x90).bind fun x112 =>
    (chk x90 l89.length).bind fun _ =>
    (wCE 0 (↑(A.map cvO).length:Int) (fun k138 l137 =>
     (chk x90 l137.length).bind fun _ =>
     if (gd l137 x90.toNat)=true then
      (chk (↑k138:Int) (A.map cvO).length).bind fun _ =>
      (idx (cv r).Teams x90).bind fun x175 =>
      some (ng l137 x90.toNat (decide (¬ (((gd (A.map cvO) k138).Bib)=x175.Bib))))
     else
      some (ng l137 x90.toNat false)) (ng l89 x90.toNat (decide ((↑x112.length:Int)=(wDV r).Laps)))).bind fun y143 =>
    some (.inl (y143,w64 (x90 + 1)))
   else
    esc ((mkz 1 (↑(cv r).Teams.length:Int) false).bind fun x230 =>
    iter (fun (l252,l256) =>
     if (↑l252.length:Int) < (↑(cv r).Teams.length:Int) then
      iter (wJa (cv r) l89 l256 p.done l252) big (-1,0)
     else
      esc (some (l252,0))) big ([],x230))) (s0:=(nG r.Teams.length false,(0:Int))) (fun i s=>s=((nN i).map (wKY r A p.done) ++ nG (r.Teams.length - i) false,(i:Int))) r.Teams.length (by simp) (by omega) (fun i s hi hs=>by
  subst hs
  have lX:((nN i).map (wKY r A p.done) ++ nG (r.Teams.length - i) false).length=r.Teams.length:=by simp;omega
  generalize hX:(nN i).map (wKY r A p.done) ++ nG (r.Teams.length - i) false=X at *
  refine ⟨((nN (i + 1)).map (wKY r A p.done) ++ nG (r.Teams.length - (i + 1)) false,((i + 1:Nat):Int)),?_,rfl⟩
  dsimp only
  rw [if_pos (by omega),wAX (by omega),nA,wBy (by omega) (by omega),nA]
  simp only [nE]
  have al:=P.al
  rw [wBs (S:=List Bool) (n:=(A.map cvO).length) (fun k=>X.set i (decide (((gd (after r) i).length:Int)=(wDV r).Laps) && !((A.take k).any fun o=>decide (o.Bib=(gd r.Teams i).Bib)))) (s0:=X.set i (decide (((gd (after r) i).length:Int)=(wDV r).Laps))) (by simp) (by rw [nD];omega) fun k hk=>?_,nA]
  ·rw [nD,nL,wAQ (by omega) (by omega)]
   have ef:(decide (((gd (after r) i).length:Int)=(wDV r).Laps) && !(A.any fun o=>decide (o.Bib=(gd r.Teams i).Bib)))=wKY r A p.done i:=by
    unfold wKY wHI
    exact Bool.and_comm _ _
   rw [ef,<- hX,wQt hi]
   rfl
  ·rw [nD] at hk
   rw [wBy (by omega) (by rw [ns];omega),nA,wIW (by omega) (by omega),if_pos rfl]
   simp only [List.set_set]
   rw [wBo hk,List.any_append]
   by_cases c:(decide (((gd (after r) i).length:Int)=(wDV r).Laps) && !((A.take k).any fun o=>decide (o.Bib=(gd r.Teams i).Bib)))=true
   ·rw [if_pos c,wBy (by omega) (by rw [nD];omega),nA,wDv hi,nA,wEV _ hk]
    simp only [nm,Bool.not_eq_true'] at c
    rw [c.1,c.2]
    show some (X.set i (decide (¬ (gd A k).Bib=(gd r.Teams i).Bib)))=_
    by_cases c3:(gd A k).Bib=(gd r.Teams i).Bib <;> simp [c3]
   ·rw [if_neg c]
    have c:(decide (((gd (after r) i).length:Int)=(wDV r).Laps) && !((A.take k).any fun o=>decide (o.Bib=(gd r.Teams i).Bib)))=false:=by simpa using c
    congr 2
    rw [Bool.not_or,<- Bool.and_assoc,c,Bool.false_and])
 subst e
 refine hend _ ?_
 dsimp only
 rw [if_neg (by simp)]
 congr 1
 rw [emb,kE]
 simp only [List.replicate_zero,List.append_nil]
 refine wGP (m:=r.Teams.length) (fun j=>((Ls.take j).map (rs8 r.Teams.length (wKY r A p.done) (wQs r A p.done) (wQB r)),tkL r.Teams.length (Ls.take j))) (fun j hj=>?_) ?_ ?_ (by omega)
 ·dsimp only
  rw [wFl,if_pos (by rw [nD,nH];omega),wQr K hbib O hj (by rw [nD,nH];omega),wBo (l:=Ls) (k:=j) (by omega),nK]
  rfl
 ·dsimp only
  rw [wFl,if_neg (by rw [nD,nH];omega),<- ll,nL]
  rfl
 ·have:tkL r.Teams.length (Ls.take 0)=nG r.Teams.length false:=by
   refine wKv (by rw [wIX,nw]) fun k hk=>?_
   rw [wIX] at hk
   rw [wPl _ hk,wCv (by rw [nw];exact hk),List.getElem_replicate]
   simp
  rw [this]
  rfl
end
theorem wJb {α β:Type} {f:α->β}:∀ {ys:List β} {xs:List α},(ys).Perm (xs.map f)->∃ zs:List α,zs.Perm xs/\zs.map f=ys
 | [],xs,h=>⟨[],by
  have:=h.length_eq
  simp at this
  rw [nq.1 this.symm],rfl⟩
 | y :: ys,xs,h=>by
  obtain ⟨x,hx,e⟩:=nR.1 (h.mem_iff.1 (kG (a:=y) (l:=ys)))
  obtain ⟨s,t,rfl⟩:=kD hx
  have h2:(ys).Perm ((s ++ t).map f):=by
   rw [nK,List.map_cons,e] at h
   rw [nK]
   exact List.Perm.cons_inv (h.trans nl)
  obtain ⟨zs,p,q⟩:=wJb h2
  exact ⟨x :: zs,(p.cons x).trans nl.symm,by rw [List.map_cons,e,q]⟩
theorem wSC {F:List wAB} (hF:F.Pairwise (lt2 (·.Time) (·.Bib))):∀ j,j < F.length->plc F j=1 + ((F.countP fun x=>decide (x.Time < (gd F j).Time):Nat):Int):=by
 have le:∀ a b,a < b->b < F.length->(gd F a).Time <= (gd F b).Time:=fun a b hab hb=>by
  have:=List.pairwise_iff_getElem.1 hF a b (by omega) hb hab
  rw [<- wCv (show a < F.length by omega),<- wCv hb] at this
  simp only [lt2] at this
  omega
 have up:∀ j,j < F.length->(∀ a,a < j->(gd F a).Time < (gd F j).Time)->F.countP (fun x=>decide (x.Time < (gd F j).Time))=j:=fun j hj h=>by
  rw [<- nV j F,nS]
  have h1:(F.take j).countP (fun x=>decide (x.Time < (gd F j).Time))=j:=by
   have e:(F.take j).length=j:=by rw [nH];omega
   conv=>rhs;rw [<- e]
   refine nt.2 fun x hx=>?_
   obtain ⟨a,ha,rfl⟩:=nc hx
   rw [nH] at ha
   rw [List.getElem_take,<- wCv (show a < F.length by omega)]
   exact decide_eq_true (h a (by omega))
  have h2:(F.drop j).countP (fun x=>decide (x.Time < (gd F j).Time))=0:=by
   refine kC.2 fun x hx=>?_
   obtain ⟨a,ha,rfl⟩:=nc hx
   rw [List.length_drop] at ha
   rw [List.getElem_drop,<- wCv (show j + a < F.length by omega)]
   have:(gd F j).Time <= (gd F (j + a)).Time:=by
    by_cases e:a=0
    ·subst e;exact nQ _
    ·exact le j (j + a) (by omega) (by omega)
   simp;omega
  have e3:gd (F.take j ++ F.drop j) j=gd F j:=by rw [nV]
  rw [e3,h1,h2,Nat.add_zero]
 intro j
 induction j with
 | zero =>
  intro hj
  rw [up 0 hj fun a ha=>by omega]
  rfl
 | succ j ih =>
  intro hj
  rw [plc]
  by_cases c:(gd F (j + 1)).Time=(gd F j).Time
  ·rw [if_pos c,ih (by omega),c]
  ·rw [if_neg c,up (j + 1) hj fun a ha=>by
    have h1:=le j (j + 1) (by omega) hj
    by_cases e:a=j
    ·subst e;omega
    ·have:=le a j (by omega) (by omega)
     omega]
   omega
def cvX (x:wAB):wAR:=⟨x.Bib,x.Place,x.Time⟩
section
variable {r:wAD} {p:wAL} {A:List wAG} {τ:Nat->Option Int}
theorem wSD (g:wGO r) {F O:List wAB} (R:ResP (wHW r A p.done) F O):∃ Ls,Ord8 r.Teams.length (wKY r A p.done) (wQs r A p.done) (donI r A p.done) (wQB r) Ls/\(wJZ F ++ O).map cvX=Ls.map (rs8 r.Teams.length (wKY r A p.done) (wQs r A p.done) (wQB r)):=by
 have nd:((wHW r A p.done).map (·.bib)).Nodup:=by rw [wLG];exact g.bibs
 have eF:wMt (wHW r A p.done)=((nN r.Teams.length).filter (wKY r A p.done)).map fun i=>wQh (wHI r A p.done i):=by
  unfold wMt wHW
  rw [List.filter_map,nn]
  rfl
 have eO:wMu (wHW r A p.done)=((nN r.Teams.length).filter fun i=>!wKY r A p.done i).map fun i=>othR (wHI r A p.done i):=by
  unfold wMu wHW
  rw [List.filter_map,nn]
  rfl
 have fp:=R.fp
 have op:=R.op
 rw [eF] at fp
 rw [eO] at op
 obtain ⟨If,pf,mf⟩:=wJb fp
 obtain ⟨Io,po,mo⟩:=wJb op
 have inF:∀ i ∈ If,i < r.Teams.length/\wKY r A p.done i=true:=fun i hi=>by
  have:=List.mem_filter.1 (pf.mem_iff.1 hi)
  exact ⟨nX.1 this.1,this.2⟩
 have inO:∀ i ∈ Io,i < r.Teams.length/\wKY r A p.done i=false:=fun i hi=>by
  have:=List.mem_filter.1 (po.mem_iff.1 hi)
  exact ⟨nX.1 this.1,by simpa using this.2⟩
 have hfo:=R.fo
 have hoo:=R.oo
 rw [<- mf,kJ] at hfo
 rw [<- mo,kJ] at hoo
 refine ⟨If ++ Io,⟨(pf.append po).trans (List.filter_append_perm _ _),nY.2 ⟨?_,?_,fun a ha b hb=>?_⟩⟩,?_⟩
 ·refine np (fun {a b} ha hb h=>?_) hfo
  unfold bf8
  rw [if_pos (inF a ha).2]
  exact .inr h
 ·refine np (fun {a b} ha hb h=>?_) hoo
  have da:=wOU nd (x:=wHI r A p.done a) (nR.2 ⟨a,nX.2 (inO a ha).1,rfl⟩)
  have db:=wOU nd (x:=wHI r A p.done b) (nR.2 ⟨b,nX.2 (inO b hb).1,rfl⟩)
  unfold bf8
  rw [if_neg (by rw [(inO a ha).2];exact nZ)]
  refine ⟨(inO b hb).2,?_⟩
  have h:-(wEJ (wIS (wHW r A p.done)) (wHI r A p.done a).bib 0) < -(wEJ (wIS (wHW r A p.done)) (wHI r A p.done b).bib 0) \/ -(wEJ (wIS (wHW r A p.done)) (wHI r A p.done a).bib 0)=-(wEJ (wIS (wHW r A p.done)) (wHI r A p.done b).bib 0)/\(wHI r A p.done a).bib < (wHI r A p.done b).bib:=h
  rw [da,db] at h
  rcases h with h | ⟨h1,h2⟩
  ·left
   show (wHI r A p.done b).done < (wHI r A p.done a).done
   omega
  ·right
   refine ⟨?_,h2⟩
   show (wHI r A p.done a).done=(wHI r A p.done b).done
   omega
 ·unfold bf8
  rw [if_pos (inF a ha).2]
  exact .inl (inO b hb).2
 ·rw [nK,nK]
  congr 1
  ·have lF:F.length=If.length:=by rw [<- mf,nD]
   refine wKv (by rw [nD,wGC,nD,lF]) fun k hk=>?_
   rw [nD,wGC] at hk
   have hk':k < If.length:=by omega
   have gF:gd F k=wQh (wHI r A p.done (gd If k)):=by
    have:=wEV (fun i=>wQh (wHI r A p.done i)) hk'
    rw [mf] at this
    exact this
   rw [wEV _ (by rw [wGC];exact hk),wEV _ hk',wLH hk,wSC R.fo k hk,gF]
   unfold rs8
   rw [if_pos (inF _ (wAW hk')).2]
   have ec:F.countP (fun x=>decide (x.Time < (wQh (wHI r A p.done (gd If k))).Time))=wOo (wKY r A p.done) (wQs r A p.done) (gd If k) r.Teams.length:=by
    unfold wOo
    rw [<- mf,List.countP_map,pf.countP_eq,List.countP_filter]
    refine List.countP_congr fun i _=>?_
    simp only [Function.comp,nm,decide_eq_true_eq]
    exact ⟨fun h=>⟨h.2,h.1⟩,fun h=>⟨h.2,h.1⟩⟩
   rw [ec]
   rfl
  ·rw [<- mo,nn]
   refine List.map_congr_left fun i hi=>?_
   unfold rs8
   rw [if_neg (by rw [(inO i hi).2];exact nZ)]
   rfl
end
theorem wIY {r:wAD} (h:wGp r):∃ l c,wCB r=some (l,c)/\wBF (cv r)=some (l.map cvX,c)/\l.length <= 1000:=by
 by_cases c:wMh r=0
 ·have g:=wLr c
  have hq:=wGA h
  rw [c] at hq
  obtain ⟨p,A,τ,P⟩:=ran g
  obtain ⟨F,O,e,R⟩:=wNV g P.run P.R
  obtain ⟨Ls,Od,em⟩:=wSD g R
  refine ⟨_,0,e,by rw [wLx g hq P Od,em],?_⟩
  have hl:=congrArg List.length em
  rw [nD,nD] at hl
  have:=Od.p.length_eq
  rw [nI] at this
  have:=g.n
  omega
 ·refine ⟨[],wMh r,?_,?_,by simp⟩
  ·unfold wCB
   rw [wLK h c,nA]
   simp only [if_neg c]
  ·unfold wBF wBd
   rw [wGA h,nA,if_neg c,nA]
   simp only [if_neg c]
   rfl
def twoR:wAD:=⟨⟨[0,1],1,2,100,250,1200⟩,0,[⟨7,[0,1],[⟨0,[1000,1100],[[true,false,true,true,true,true]]⟩,⟨1,[900,950],[[true,true,true,true,false,false,false,false]]⟩]⟩,⟨3,[1,0],[⟨1,[1000,1150],[[true,true,true,true,true]]⟩,⟨0,[900,1500],[[false,true,true,true,true]]⟩]⟩]⟩
theorem wSE:wCT=some twoR:=by decide +kernel
def vX (x:wAR):wAB:=⟨x.Bib,x.Place,x.Time⟩
theorem wQu:wBF (cv twoR)=some ([⟨7,1,4600⟩,⟨3,2,8400⟩],0):=by decide +kernel
theorem wQv:wCB twoR=some ([⟨7,1,4600⟩,⟨3,2,8400⟩],0):=by
 obtain ⟨l,c,h1,h2,_⟩:=wIY (r:=twoR) (wMp (by decide +kernel))
 rw [wQu] at h2
 injection h2 with h2
 injection h2 with h3 h4
 have e:l=(l.map cvX).map vX:=by
  rw [nn]
  exact (List.map_id l).symm
 rw [h1,e,<- h3,<- h4]
 rfl
theorem wNB:wBu=some true:=by
 unfold wBu
 simp only [wSE,nA,wQv]
 decide +kernel
theorem wLy (r:wAD):wCb r=some true:=by
 unfold wCb
 rw [wQX,nA]
 cases hlg:lgR r with
 | false =>
  show Option.bind wBu _=_
  rw [wNB];rfl
 | true =>
  have h:=wMp hlg
  obtain ⟨oa,oc,o1,o2,ol⟩:=wPg h
  obtain ⟨ba,bc,b1,b2,bl,bl2⟩:=wLw h
  obtain ⟨ra,rc,r1,r2,rl⟩:=wIY h
  rw [if_neg (by simp),wMq h,nA,wQY h,nA,nA]
  dsimp only
  rw [show (⟨⟨r.Rules.Classes,r.Rules.Each,r.Rules.Laps,r.Rules.Spare,r.Rules.Loop,r.Rules.Unused⟩,r.Start,r.Teams⟩:wAD)=r from rfl,
   show (⟨⟨(cv r).Rules.Classes,(cv r).Rules.Each,(cv r).Rules.Laps,(cv r).Rules.Spare,(cv r).Rules.Loop,(cv r).Rules.Unused⟩,(cv r).Start,(cv r).Teams⟩:wAT)=cv r from rfl,o1,nA,o2,nA]
  dsimp only
  rw [if_pos rfl,if_pos (by rw [nD]),wDf (by omega) fun k hk=>?g1,wIy,b1,nA,b2,nA]
  case g1 =>
   rw [wBy (by omega) (by omega),nA,wBy (by omega) (by rw [nD];omega),nA,wEV _ hk]
   exact if_pos rfl
  dsimp only
  rw [if_pos rfl,wQa (by omega) (fun b hb=>by have:=bl2 b hb;omega),nA,if_pos rfl,r1,nA,r2,nA]
  dsimp only
  rw [if_pos rfl,if_pos (by rw [nD]),wDf (by omega) fun k hk=>?g2,wIy,wQb h,nA,if_pos rfl,wNB,nA]
  case g2 =>
   rw [wBy (by omega) (by omega),nA,wBy (by omega) (by rw [nD];omega),nA,wEV _ hk]
   exact if_pos rfl
end Go.Proofs.YtabadkdjndnliaaGreat
