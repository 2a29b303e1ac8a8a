import Derived.Test.YtkedcbligiebkaaY0
set_option linter.all false
open Option renaming bind_some->hD
open List renaming length_append->hH,append_assoc->hJ,length_take->nA,range->nB,length_cons->nD,take_append_drop->nE,length_singleton->nG,set->nJ,length_nil->nK,length_drop->nL,getElem?_append_left->nM,getElem_of_mem->nN,getD_eq_getElem?_getD->nO,pairwise_append->nQ,getElem?_eq_getElem->nT,mem_singleton->nU,getElem?_append_right->nV,mem_map->nW,mem_append->nX,eq_nil_of_length_eq_zero->nY,all_eq_true->na,mem_cons->nb,replicate->nc,mem_range->nf,length_set->ng,length_map->nh,take_of_length_le->ni,getElem?_take->nj,drop_eq_getElem_cons->nm,mem_append_left->nn,take_length->nq,map_append->nr,set_append_right->nu,mem_append_right->nv,getElem?_drop->ny,pairwise_cons->nz,getElem_drop->kA,getElem_take->kB,drop_eq_nil_of_le->kC,all_cons->kD,cons_append->kE,getElem_map->kF,countP_mono_left->kG,getElem?_eq_none->kH,mem_of_mem_take->kI,append_nil->kJ,range_succ->kK,mem_cons_of_mem->kL,map_congr_left->kM,perm_append_singleton->kO,countP_congr->kP,ext_getElem?->kQ,nodup_append->kR,pairwise_iff_getElem->kS,getElem_mem->kT,map_map->kW,sum_replicate_nat->kb,length_eq_one_iff->kc,range_eq_range'->ke,length_flatMap->kg,getElem?_range->kh,countP_append->kl,all_nil->km,getElem?_map->kq,flatMap_cons->kr
open Int renaming toNat_natCast->nH,toNat_of_nonneg->nS,sub_add_cancel->nt,tmod_eq_emod_of_nonneg->nw,add_comm->kV,emod_nonneg->kZ,le_refl->ka,lt_or_le->ki,tmod_lt_of_pos->ko
open Nat renaming le_refl->nI,zero_add->nZ,min_eq_left->nl,min_eq_right->np,sub_self->kU,le_of_lt->kX,lt_or_ge->kj,add_sub_cancel->kn
open Bool renaming false_eq_true->nP,and_eq_true->nR,and_true->kf
open Option.some renaming inj->nk
open Classical renaming axiomOfChoice->kY,em->kx
open List.Perm renaming append_left->kd,refl->kv
open List.Pairwise renaming nil->ku
namespace Go.KL.Net
structure Ed where
 a:Nat
 b:Nat
 c:Int
def wFc (es:List Ed) (x:Nat->Int):Prop:=∀ e ∈ es,x e.b <= x e.a + e.c
theorem wLA {P:Int->Prop} {B:Int} (h:∃ m,P m) (hB:∀ m,P m->m <= B):∃ m,P m/\∀ k,P k->k <= m:=by
 have key:∀ (d:Nat) (m:Int),P m->(B - m).toNat <= d->∃ m,P m/\∀ k,P k->k <= m:=by
  intro d
  induction d with
  | zero =>
   intro m hm hd
   exact ⟨m,hm,fun k hk=>by have:=hB k hk;omega⟩
  | succ d ih =>
   intro m hm hd
   rcases kx (∃ k,P k/\m < k) with ⟨k,hk,hlt⟩ | h
   ·exact ih k hk (by have:=hB k hk;omega)
   ·exact ⟨m,hm,fun k hk=>by
     rcases ki m k with c | c
     ·exact absurd ⟨k,hk,c⟩ h
     ·exact c⟩
 obtain ⟨m,hm⟩:=h
 exact key _ m hm (nI _)
structure Con (n:Nat) (R:Int) (es:List Ed):Prop where
 ends:∀ e ∈ es,e.a < n/\e.b < n
 near:∀ x,wFc es x->∀ a b,a < n->b < n->x b - x a <= R
 all:∀ (S:Nat->Prop) (i:Nat),i < n->S i->(∀ e ∈ es,S e.a->S e.b)->∀ v,v < n->S v
structure Most (n:Nat) (es:List Ed) (top:Nat->Int) (δ:Nat->Int):Prop where
 ok:wFc es δ
 le:∀ v,v < n->δ v <= top v
 gr:∀ x,wFc es x->(∀ v,v < n->x v <= top v)->∀ v,v < n->x v <= δ v
theorem shift {es:List Ed} {x:Nat->Int} (h:wFc es x) (k:Int):wFc es fun v=>x v + k:=fun e he=>by have:=h e he;simp only;omega
theorem wIy {n:Nat} {R:Int} {es:List Ed} (C:Con n R es) {x:Nat->Int} (hx:wFc es x) {top:Nat->Int} {i:Nat} (hi:i < n) (h0:top i=0) (hp:∀ v,v < n->0 <= top v):∃ δ,Most n es top δ:=by
  have ex:∀ v,∃ m:Int,(v < n->(∃ y,wFc es y/\(∀ u,u < n->y u <= top u)/\y v=m)/\∀ y,wFc es y->(∀ u,u < n->y u <= top u)->y v <= m):=by
    intro v
    by_cases hv:v < n
    · obtain ⟨m,hm,hm2⟩:=wLA (P:=fun m=>∃ y,wFc es y/\(∀ u,u < n->y u <= top u)/\y v=m) (B:=R) ⟨_,fun u=>x u + (-(x i + R)),shift hx _,fun u hu=>by
          have:=C.near x hx i u hi hu
          have:=hp u hu
          simp only
          omega,rfl⟩ (by
          rintro m ⟨y,hy,hy2,rfl⟩
          have:=C.near y hy i v hi hv
          have:=hy2 i hi
          omega)
      exact ⟨m,fun _=>⟨hm,fun y hy hy2=>hm2 _ ⟨y,hy,hy2,rfl⟩⟩⟩
    · exact ⟨0,fun h=>absurd h hv⟩
  obtain ⟨δ,sp⟩:=kY ex
  refine ⟨δ,fun e he=>?_,fun v hv=>?_,fun y hy hy2 v hv=>(sp v hv).2 y hy hy2⟩
  · obtain ⟨h1,h2⟩:=C.ends e he
    obtain ⟨⟨y,hy,hy2,hy3⟩,_⟩:=sp e.b h2
    have:=(sp e.a h1).2 y hy hy2
    have:=hy e he
    omega
  · obtain ⟨⟨y,hy,hy2,hy3⟩,_⟩:=sp v hv
    have:=hy2 v hv
    omega
theorem Most.hi {n:Nat} {R:Int} {es:List Ed} (C:Con n R es) {top δ:Nat->Int} (M:Most n es top δ) {i:Nat} (hi:i < n) (h0:top i=0):∀ v,v < n->δ v <= R:=fun v hv=>by
 have:=C.near δ M.ok i v hi hv
 have:=M.le i hi
 omega
theorem Most.tight {n:Nat} {es:List Ed} {top δ:Nat->Int} (M:Most n es top δ) (hes:∀ e ∈ es,e.a < n/\e.b < n) (low:Nat->Int) (h0:∀ v,v < n->low v <= top v) (hT:∃ v,v < n/\δ v < low v) (hge:∀ v,v < n->δ v <= low v) :
  ∃ e ∈ es,low e.a=δ e.a/\δ e.b < low e.b/\δ e.b=δ e.a + e.c:=by
 rcases kx (∃ e ∈ es,low e.a=δ e.a/\δ e.b < low e.b/\δ e.b=δ e.a + e.c) with h | h
 ·exact h
 ·exfalso
  obtain ⟨v,hv,hlt⟩:=hT
  have hx:wFc es (fun u=>if δ u < low u then δ u + 1 else δ u):=by
   intro e he
   obtain ⟨h1,h2⟩:=hes e he
   have a:=M.ok e he
   have b:=hge e.a h1
   have c:=hge e.b h2
   simp only
   by_cases e1:δ e.b < low e.b
   ·by_cases e2:δ e.a < low e.a
    ·rw [if_pos e1,if_pos e2];omega
    ·rw [if_pos e1,if_neg e2]
     by_cases e3:δ e.b=δ e.a + e.c
     ·exact absurd ⟨e,he,by omega,e1,e3⟩ h
     ·omega
   ·rw [if_neg e1]
    split <;> omega
  have:=M.gr _ hx (fun u hu=>by
   have:=M.le u hu
   have:=h0 u hu
   show (if δ u < low u then δ u + 1 else δ u) <= top u
   split <;> omega) v hv
  have this:(if δ v < low v then δ v + 1 else δ v) <= δ v:=this
  rw [if_pos hlt] at this
  omega
theorem wHl (p q:Nat->Bool) (hpq:∀ v,p v=true->q v=true):∀ (l:List Nat),(∃ v ∈ l,p v=false/\q v=true)->l.countP p < l.countP q
 | [],⟨v,h,_⟩=>by cases h
 | a :: l,⟨v,h,hp,hq⟩=>by
  have mono:∀ l:List Nat,l.countP p <= l.countP q:=fun l=>kG fun v _ h=>hpq v h
  rw [List.countP_cons,List.countP_cons]
  rcases nb.1 h with rfl | h
  ·have:=mono l
   simp only [hp,hq,if_true,nP,if_false]
   omega
  ·have:=wHl p q hpq l ⟨v,h,hp,hq⟩
   have:(if p a=true then 1 else 0) <= (if q a=true then 1 else 0):=by
    cases e:p a with
    | true=>rw [hpq a e];simp
    | false=>simp
   omega
def wLY (n:Nat) (δ low:Nat->Int):Nat:=(nB n).countP fun v=>decide (low v=δ v)
theorem wLB (n:Nat) (δ low:Nat->Int):wLY n δ low <= n:=by
 have:=List.countP_le_length (p:=fun v=>decide (low v=δ v)) (l:=nB n)
 rw [List.length_range] at this
 exact this
theorem wLC {n:Nat} {δ low low':Nat->Int} (h1:∀ v,v < n->δ v <= low' v) (h2:∀ v,v < n->low' v <= low v) {v:Nat} (hv:v < n) (a:δ v < low v) (b:low' v=δ v):wLY n δ low < wLY n δ low':=by
 have:=wHl (fun v=>decide (low v=δ v)) (fun v=>decide (low' v=δ v) || !decide (v < n)) (fun u hu=>by
  have hu':=of_decide_eq_true hu
  by_cases hun:u < n
  ·have:=h1 u hun
   have:=h2 u hun
   simp only [Bool.or_eq_true,decide_eq_true_eq]
   exact .inl (by omega)
  ·simp [hun]) (nB n) ⟨v,nf.2 hv,decide_eq_false (by omega),by simp [b]⟩
 have e:(nB n).countP (fun v=>decide (low' v=δ v) || !decide (v < n))=(nB n).countP (fun v=>decide (low' v=δ v)):=by
  apply kP
  intro u hu
  have:u < n:=nf.1 hu
  simp [this]
 unfold wLY
 omega
structure IsD (n:Nat) (es:List Ed) (i:Nat) (f:Nat->Int):Prop where
 ok:wFc es f
 zero:f i=0
 gr:∀ x,wFc es x->∀ v,v < n->x v - x i <= f v
end Go.KL.Net
namespace Go.KL
variable {S S' B B' α:Type}
theorem wHm {body:Nat->S->Option (S ⊕ B)} (I:Nat->S->Prop) (Z:B->Prop):∀ (m k:Nat) (s:S),I k s ->
  (∀ i s,k <= i->i < k + m->I i s->(∃ s',body i s=some (.inl s')/\I (i + 1) s') \/ ∃ b,body i s=some (.inr b)/\Z b) ->
  (∃ s',forN body m k s=some (.inl s')/\I (k + m) s') \/ ∃ b,forN body m k s=some (.inr b)/\Z b
 | 0,k,s,h,_=>.inl ⟨s,rfl,h⟩
 | m + 1,k,s,h,hb=>by
  simp only [forN]
  rcases hb k s (nI _) (by omega) h with ⟨s',h1,h2⟩ | ⟨b,h1,h2⟩
  ·rw [h1]
   have:=wHm I Z m (k + 1) s' h2 fun i s h2 h3 h4=>hb i s (by omega) (by omega) h4
   rwa [show k + 1 + m=k + (m + 1) from by omega] at this
  ·rw [h1];exact .inr ⟨b,rfl,h2⟩
theorem wDC {body:Nat->S->Option S} (I:Nat->S->Prop):∀ (m k:Nat) (s:S),I k s ->
  (∀ i s,k <= i->i < k + m->I i s->∃ s',body i s=some s'/\I (i + 1) s')->∃ s',forN' body m k s=some s'/\I (k + m) s'
 | 0,k,s,h,_=>⟨s,rfl,h⟩
 | m + 1,k,s,h,hb=>by
  simp only [forN']
  obtain ⟨s',h1,h2⟩:=hb k s (nI _) (by omega) h
  rw [h1]
  have:=wDC I m (k + 1) s' h2 fun i s h2 h3 h4=>hb i s (by omega) (by omega) h4
  rwa [show k + 1 + m=k + (m + 1) from by omega] at this
theorem wCi {body:Nat->S->Option (S ⊕ B)} {n:Nat} {s:S} (hn:n <= 9223372036854775807):wEG 0 (n:Int) body s=forN body n 0 s:=by
 unfold wEG
 rw [if_pos (by omega),show ((n:Int) - 0).toNat=n from by omega]
theorem wCJ {body:Nat->S->Option S} {n:Nat} {s:S} (hn:n <= 9223372036854775807):wBd 0 (n:Int) body s=forN' body n 0 s:=by
 unfold wBd
 rw [if_pos (by omega),show ((n:Int) - 0).toNat=n from by omega]
def first (p:α->Bool):List α->Nat->Int
 | [],_=>-1
 | a :: l,k=>if p a then (k:Int) else first p l (k + 1)
theorem wGm (p:α->Bool):∀ (l:List α) (k:Nat),decide (0 <= first p l k)=l.any p
 | [],k=>by simp [first]
 | a :: l,k=>by
  rw [first,List.any_cons]
  by_cases h:p a
  ·simp [h]
  ·simp [h,wGm p l (k + 1)]
theorem wIM {R:Type} {l:List α} {f:α->Option Bool} {p:α->Bool} (hf:∀ a ∈ l,f a=some (p a)) (hn:l.length <= 9223372036854775807) (z:Int->R) :
  (jn (wEG 0 (↑l.length:Int) (fun k2 (_:Unit)=>(idx l (↑k2:Int)).bind fun x=>(f x).bind fun y=>if y=true then esc (some (z (↑k2:Int))) else some (.inl ())) ()) fun _=>some (z (-1)))=some (z (first p l 0)):=by
 rw [wCi hn]
 have key:∀ (m k:Nat),k + m=l.length->(jn (forN (fun k2 (_:Unit)=>(idx l (↑k2:Int)).bind fun x=>(f x).bind fun y=>if y=true then esc (some (z (↑k2:Int))) else some (.inl ())) m k ()) fun _=>some (z (-1)))=some (z (first p (l.drop k) k)):=by
  intro m
  induction m with
  | zero=>intro k hk;rw [kC (by omega)];rfl
  | succ m ih =>
   intro k hk
   have hlt:k < l.length:=by omega
   rw [nm hlt,first,forN,wFG,nT hlt]
   simp only [hD,hf _ (kT hlt)]
   by_cases h:p l[k]=true
   ·simp [h]
   ·simp only [h,if_false,nP]
    exact ih (k + 1) (by omega)
 exact key l.length 0 (by omega)
theorem wDw {R:Type} {l:List α} {g:α->Option (Unit ⊕ R)} {p:α->Bool} {z:R} {K:Unit->Option R} (hg:∀ a ∈ l,g a=if p a=true then some (.inl ()) else some (.inr z)) (hn:l.length <= 9223372036854775807) :
  jn (wEG 0 (↑l.length:Int) (fun k (_:Unit)=>(idx l (↑k:Int)).bind g) ()) K=if l.all p=true then K () else some z:=by
 rw [wCi hn]
 have key:∀ (m k:Nat),k + m=l.length->jn (forN (fun k (_:Unit)=>(idx l (↑k:Int)).bind g) m k ()) K=if (l.drop k).all p=true then K () else some z:=by
  intro m
  induction m with
  | zero=>intro k hk;rw [kC (by omega)];rfl
  | succ m ih =>
   intro k hk
   have hlt:k < l.length:=by omega
   have e:l.drop k=l[k] :: l.drop (k + 1):=nm hlt
   rw [e,kD,forN,wFG,nT hlt]
   simp only [hD,hg _ (kT hlt)]
   by_cases h:p l[k]=true
   ·rw [h]
    simp only [if_true,Bool.true_and]
    exact ih (k + 1) (by omega)
   ·rw [if_neg h]
    have:p l[k]=false:=by simpa using h
    simp only [this,Bool.false_and,wHI,nP,if_false]
 exact key l.length 0 (by omega)
theorem wJu {β:Type} {l:List α} {f:α->β} {bytes:Nat} {g:α->List β->Option (List β)} (hg:∀ a ∈ l,∀ r,g a r=app bytes r [f a]) (hn:l.length <= 9223372036854775807) (hb:l.length * bytes <= 140737488355328) :
  wBd 0 (↑l.length:Int) (fun k r=>(idx l (↑k:Int)).bind fun x=>g x r) []=some (l.map f):=by
 rw [wCJ hn]
 have key:∀ (m k:Nat) (r:List β),k + m=l.length->r.length=k->forN' (fun k r=>(idx l (↑k:Int)).bind fun x=>g x r) m k r=some (r ++ (l.drop k).map f):=by
  intro m
  induction m with
  | zero=>intro k r hk _;rw [kC (by omega)];simp [forN']
  | succ m ih =>
   intro k r hk hr
   have hlt:k < l.length:=by omega
   have e:l.drop k=l[k] :: l.drop (k + 1):=nm hlt
   rw [e,forN',wFG,nT hlt]
   have ha:app bytes r [f l[k]]=some (r ++ [f l[k]]):=by
    refine if_pos ?_
    simp only [nD,nK]
    exact Nat.le_trans (Nat.mul_le_mul_right _ (by omega)) hb
   simp only [hD,hg _ (kT hlt),ha]
   rw [ih (k + 1) _ (by omega) (by simp [hr]),hJ]
   rfl
 exact key l.length 0 [] (by omega) rfl
theorem wDr {bytes:Nat} {l m:List α} (h:(l.length + m.length) * bytes <= 140737488355328):app bytes l m=some (l ++ m):=if_pos h
end Go.KL
namespace Go.KL
variable {S B R α β:Type}
theorem wHn {body:Nat->S->Option (S ⊕ B)} (s:Nat->S):∀ (m k:Nat),(∀ i,k <= i->i < k + m->body i (s i)=some (.inl (s (i + 1))))->forN body m k (s k)=some (.inl (s (k + m)))
 | 0,_,_=>rfl
 | m + 1,k,h=>by
  rw [forN,h k (nI _) (by omega)]
  have:=wHn s m (k + 1) fun i h1 h2=>h i (by omega) (by omega)
  rw [show k + 1 + m=k + (m + 1) by omega] at this
  exact this
theorem wGn {body:Nat->S->Option S} (s:Nat->S):∀ (m k:Nat),(∀ i,k <= i->i < k + m->body i (s i)=some (s (i + 1)))->forN' body m k (s k)=some (s (k + m))
 | 0,_,_=>rfl
 | m + 1,k,h=>by
  rw [forN',h k (nI _) (by omega)]
  have:=wGn s m (k + 1) fun i h1 h2=>h i (by omega) (by omega)
  rw [show k + 1 + m=k + (m + 1) by omega] at this
  exact this
theorem wDb {body:Nat->S->Option S} {n:Nat} {s0:S} (s:Nat->S) (h0:s 0=s0) (hn:n <= 9223372036854775807) (h:∀ i,i < n->body i (s i)=some (s (i + 1))):wBd 0 (n:Int) body s0=some (s n):=by
 rw [wCJ hn,<- h0]
 have:=wGn s n 0 fun i _ hi=>h i (by omega)
 rwa [nZ] at this
theorem wHo {body:Nat->S->Option (S ⊕ B)} {n:Nat} {s0:S} (s:Nat->S) (h0:s 0=s0) (hn:n <= 9223372036854775807) (h:∀ i,i < n->body i (s i)=some (.inl (s (i + 1)))):wEG 0 (n:Int) body s0=some (.inl (s n)):=by
 rw [wCi hn,<- h0]
 have:=wHn s n 0 fun i _ hi=>h i (by omega)
 rwa [nZ] at this
theorem wIz {body:Nat->Unit->Option (Unit ⊕ B)} {n:Nat} (hn:n <= 9223372036854775807) (h:∀ i,i < n->body i ()=some (.inl ())):wEG 0 (n:Int) body ()=some (.inl ()):=wHo (fun _=>()) rfl hn h
theorem wEn [Inhabited α] {l:List α} {k:Nat} (h:k < l.length):idx l (k:Int)=some (gd l k):=by
 rw [wFG]
 exact wAk h
theorem wBn [Inhabited α] {l:List α} {k:Nat} (h:k < l.length):gd l k ∈ l:=List.mem_of_getElem? (wAk h)
theorem wCp [Inhabited α] {l:List α} {k:Nat} (h:k < l.length):l.take (k + 1)=l.take k ++ [gd l k]:=by
 rw [List.take_add_one,wAk h]
 rfl
theorem wFU [Inhabited α] {l:List α} {k:Nat} (h:k < l.length):l.drop k=gd l k :: l.drop (k + 1):=by
 have:=wAk h
 rw [nT h] at this
 rw [nm h,nk this]
theorem wDx [Inhabited α] {l m:List α} {k:Nat} (h:k < l.length):gd (l ++ m) k=gd l k:=by
 have h1:=wAk (xs:=l ++ m) (k:=k) (by rw [hH];omega)
 rw [nM h,wAk h] at h1
 exact (nk h1).symm
theorem wGJ [Inhabited α] (l m:List α) (x:α):gd (l ++ x :: m) l.length=x:=by
 have h1:=wAk (xs:=l ++ x :: m) (k:=l.length) (by simp)
 rw [nV (nI _),kU] at h1
 exact (nk h1).symm
theorem wGK [Inhabited α] [Inhabited β] (f:α->β) {l:List α} {k:Nat} (h:k < l.length):gd (l.map f) k=f (gd l k):=by
 have h1:=wAk (xs:=l.map f) (k:=k) (by simpa using h)
 rw [kq,wAk h] at h1
 exact (nk h1).symm
theorem wLD (o:Option α):(o.bind fun x=>some x)=o:=by cases o <;> rfl
theorem wJA [Inhabited α] {l m:List α} (h:l.length=m.length) (hk:∀ k,k < l.length->gd l k=gd m k):l=m:=by
 apply kQ
 intro k
 rcases kj k l.length with h1 | h1
 ·rw [wAk h1,wAk (by omega),hk k h1]
 ·rw [kH h1,kH (by omega)]
end Go.KL
namespace Go.KL
variable {S B α:Type}
theorem wJB {body:S->Option (S ⊕ B)} (F:Nat):∀ (m:Nat) (s:Nat->S),(∀ i,i < m->body (s i)=some (.inl (s (i + 1))))->iter body (m + F) (s 0)=iter body F (s m)
 | 0,s,_=>by rw [nZ]
 | m + 1,s,h=>by
  rw [show m + 1 + F=(m + F) + 1 by omega,iter,h 0 (by omega)]
  exact wJB F m (fun i=>s (i + 1)) fun i hi=>h (i + 1) (by omega)
theorem wHO {body:S->Option (S ⊕ B)} {m:Nat} (s:Nat->S) (h:∀ i,i < m->body (s i)=some (.inl (s (i + 1)))) {b:B} (hb:body (s m)=some (.inr b)) {s0:S} (h0:s 0=s0) (hm:m < 1000000):iter body big s0=some b:=by
 subst h0
 have:=wJB (big - m - 1 + 1) m s h
 rw [show m + (big - m - 1 + 1)=big by unfold big;omega] at this
 rw [this,iter,hb]
theorem wDT {body:S->Option (S ⊕ B)} (I:Nat->S->Prop) (Z:B->Prop) (m:Nat) (step:∀ i s,i <= m->I i s->(i < m/\∃ s',body s=some (.inl s')/\I (i + 1) s') \/ ∃ b,body s=some (.inr b)/\Z b) {s0:S} (h0:I 0 s0) (hm:m < 1000000):∃ b,iter body big s0=some b/\Z b:=by
 have key:∀ (d i:Nat) (s:S),i + d=m->I i s->∀ F,d < F->∃ b,iter body F s=some b/\Z b:=by
  intro d
  induction d with
  | zero =>
   intro i s hi hI F hF
   obtain ⟨F,rfl⟩:∃ G,F=G + 1:=⟨F - 1,by omega⟩
   rcases step i s (by omega) hI with ⟨h,_⟩ | ⟨b,h1,h2⟩
   ·omega
   ·exact ⟨b,by rw [iter,h1],h2⟩
  | succ d ih =>
   intro i s hi hI F hF
   obtain ⟨F,rfl⟩:∃ G,F=G + 1:=⟨F - 1,by omega⟩
   rcases step i s (by omega) hI with ⟨_,s',h1,h2⟩ | ⟨b,h1,h2⟩
   ·obtain ⟨b,h3,h4⟩:=ih (i + 1) s' (by omega) h2 F (by omega)
    exact ⟨b,by rw [iter,h1];exact h3,h4⟩
   ·exact ⟨b,by rw [iter,h1],h2⟩
 exact key m 0 s0 (by omega) h0 big (by unfold big;omega)
theorem wHP {body:S->Option (S ⊕ B)} (I:Nat->S->Prop) {b:B} (m:Nat) {s0:S} (h0:I 0 s0) (hm:m < 1000000) (step:∀ i s,i <= m->I i s->(i < m/\∃ s',body s=some (.inl s')/\I (i + 1) s') \/ body s=some (.inr b)):iter body big s0=some b:=by
 obtain ⟨c,h1,h2⟩:=wDT (body:=body) I (fun c=>c=b) m (fun i s hi hI=>by
  rcases step i s hi hI with h | h
  ·exact .inl h
  ·exact .inr ⟨b,h,rfl⟩) h0 hm
 rw [h1,h2]
theorem wGo [Inhabited α] {l:List α} {i k:Nat} {x:α} (hi:i < l.length) (hk:k < l.length):gd (l.set i x) k=if k=i then x else gd l k:=by
 have h1:=wAk (xs:=l.set i x) (k:=k) (by rw [ng];exact hk)
 rw [List.getElem?_set] at h1
 by_cases e:i=k
 ·subst e
  rw [if_pos rfl,if_pos hi] at h1
  rw [if_pos rfl]
  exact (nk h1).symm
 ·rw [if_neg e,wAk hk] at h1
  rw [if_neg (fun h=>e h.symm)]
  exact (nk h1).symm
theorem wDg [Inhabited α] {l:List α} {k:Nat} (h:k < l.length):gd l k=l[k]:=by
 have:=wAk h
 rw [nT h] at this
 exact (nk this).symm
end Go.KL
namespace Go.Proofs.Ytkedcbligiebkaa
open Go.KL Go.KL.Net
structure EdOK (n:Nat) (e:wAZ):Prop where
 f0:0 <= e.from_
 f1:e.from_ < n
 t0:0 <= e.to_
 t1:e.to_ < n
 c0:-400000 <= e.count
 c1:e.count <= 400000
def ed (p:Bool) (e:wAZ):Ed:=if p then ⟨e.to_.toNat,e.from_.toNat,e.count⟩ else ⟨e.from_.toNat,e.to_.toNat,e.count⟩
abbrev SS:=List Int × List Int × Int
def spB (es:List wAZ) (p2:Bool):Nat->SS->Option SS:=fun k1375 (l1372,l1373,x1374) =>
      ((idx es (↑k1375:Int)).bind fun x1412 =>
      if p2=true then
        (chk x1412.to_ l1372.length).bind fun _ =>
        if (gd l1372 x1412.to_.toNat) < 1125899906842624 then
          (chk x1412.from_ l1372.length).bind fun _ =>
          if (w64 ((gd l1372 x1412.to_.toNat) + x1412.count)) < (gd l1372 x1412.from_.toNat) then
            ((chk x1412.from_ l1373.length).bind fun _ =>
            some ()).bind fun _ =>
            some ((nJ l1372 x1412.from_.toNat (w64 ((gd l1372 x1412.to_.toNat) + x1412.count))),(nJ l1373 x1412.from_.toNat (↑k1375:Int)),x1412.from_)
          else
            some (l1372,l1373,x1374)
        else
          some (l1372,l1373,x1374)
      else
        (chk x1412.from_ l1372.length).bind fun _ =>
        if (gd l1372 x1412.from_.toNat) < 1125899906842624 then
          (chk x1412.to_ l1372.length).bind fun _ =>
          if (w64 ((gd l1372 x1412.from_.toNat) + x1412.count)) < (gd l1372 x1412.to_.toNat) then
            ((chk x1412.to_ l1373.length).bind fun _ =>
            some ()).bind fun _ =>
            some ((nJ l1372 x1412.to_.toNat (w64 ((gd l1372 x1412.from_.toNat) + x1412.count))),(nJ l1373 x1412.to_.toNat (↑k1375:Int)),x1412.to_)
          else
            some (l1372,l1373,x1374)
        else
          some (l1372,l1373,x1374)).bind fun (l1406,l1407,x1408) =>
      some (l1406,l1407,x1408)
theorem wLs {n:Nat} {es:List wAZ} (hes:∀ e ∈ es,EdOK n e) {p:Bool} {k:Nat} (hk:k < es.length) {far by_:List Int} {last:Int} (hf:far.length=n) (hb:by_.length=n) {M:Int} (hM:M <= 1000000000000000) (h0:0 <= M) (hr:∀ v,v < n->gd far v=1125899906842624 \/ (-M <= gd far v/\gd far v <= M)) :
  (ed p (gd es k)).a < n/\(ed p (gd es k)).b < n /\
  spB es p k (far,by_,last)=some (if gd far (ed p (gd es k)).a < 1125899906842624/\gd far (ed p (gd es k)).a + (ed p (gd es k)).c < gd far (ed p (gd es k)).b then
   (far.set (ed p (gd es k)).b (gd far (ed p (gd es k)).a + (ed p (gd es k)).c),by_.set (ed p (gd es k)).b (k:Int),((ed p (gd es k)).b:Int)) else (far,by_,last)):=by
 obtain ⟨f0,f1,t0,t1,c0,c1⟩:=hes _ (wBn hk)
 have hw:∀ a:Int,0 <= a->a < n->gd far a.toNat < 1125899906842624->w64 (gd far a.toNat + (gd es k).count)=gd far a.toNat + (gd es k).count:=fun a h1 h2 h3=>by
  rcases hr a.toNat (by omega) with c | c
  ·omega
  ·exact wAY (by omega) (by omega)
 unfold spB ed
 rw [wEn hk]
 cases p with
 | true =>
  refine ⟨by simp only [if_true];omega,by simp only [if_true];omega,?_⟩
  simp only [hD,if_true]
  rw [wAz t0 (by omega),hD]
  by_cases a:gd far (gd es k).to_.toNat < 1125899906842624
  ·rw [if_pos a,wAz f0 (by omega),hD,hw _ t0 t1 a]
   by_cases b:gd far (gd es k).to_.toNat + (gd es k).count < gd far (gd es k).from_.toNat
   ·rw [if_pos b,wAz f0 (by omega),if_pos ⟨a,b⟩]
    simp only [hD]
    rw [show (((gd es k).from_.toNat:Nat):Int)=(gd es k).from_ by omega]
   ·rw [if_neg b,if_neg (fun h=>b h.2)];rfl
  ·rw [if_neg a,if_neg (fun h=>a h.1)];rfl
 | false =>
  refine ⟨by simp only [nP,if_false];omega,by simp only [nP,if_false];omega,?_⟩
  simp only [hD,nP,if_false]
  rw [wAz f0 (by omega),hD]
  by_cases a:gd far (gd es k).from_.toNat < 1125899906842624
  ·rw [if_pos a,wAz t0 (by omega),hD,hw _ f0 f1 a]
   by_cases b:gd far (gd es k).from_.toNat + (gd es k).count < gd far (gd es k).to_.toNat
   ·rw [if_pos b,wAz t0 (by omega),if_pos ⟨a,b⟩]
    simp only [hD]
    rw [show (((gd es k).to_.toNat:Nat):Int)=(gd es k).to_ by omega]
   ·rw [if_neg b,if_neg (fun h=>b h.2)];rfl
  ·rw [if_neg a,if_neg (fun h=>a h.1)];rfl
structure Ps (n:Nat) (es:List wAZ) (p:Bool) (far:List Int) (M:Int) (i:Nat) (s:SS):Prop where
 fl:s.1.length=n
 bl:s.2.1.length=n
 rg:∀ v,v < n->gd s.1 v=1125899906842624 \/ (-(M + 400000 * (i:Int)) <= gd s.1 v/\gd s.1 v <= M + 400000 * (i:Int))
 le:∀ v,v < n->gd s.1 v <= gd far v
 ch:(s.2.2=-1/\s.1=far/\∀ e ∈ es.take i,gd far (ed p e).a < 1125899906842624->gd far (ed p e).b <= gd far (ed p e).a + (ed p e).c) \/ (0 <= s.2.2/\s.2.2 < n/\∃ v,v < n/\gd s.1 v < gd far v)
 fe:∀ x,wFc (es.map (ed p)) x->(∀ v,v < n->x v <= gd far v)->∀ v,v < n->x v <= gd s.1 v
 st:∀ δ,wFc (es.map (ed p)) δ->(∀ v,v < n->δ v <= gd far v)->(∀ v,v < n->δ v < 1125899906842624)->∀ e ∈ es.take i,gd far (ed p e).a=δ (ed p e).a->δ (ed p e).b=δ (ed p e).a + (ed p e).c->gd s.1 (ed p e).b=δ (ed p e).b
theorem wLE {n:Nat} {es:List wAZ} (hes:∀ e ∈ es,EdOK n e) (hl:es.length <= 1000) (p:Bool) {far by_:List Int} (hf:far.length=n) (hb:by_.length=n) {M:Int} (hM:M <= 900000000000000) (h0:0 <= M) (hr:∀ v,v < n->gd far v=1125899906842624 \/ (-M <= gd far v/\gd far v <= M)) :
  ∃ s,wBd 0 (↑es.length:Int) (spB es p) (far,by_,-1)=some s/\Ps n es p far M es.length s:=by
 rw [wCJ (by omega)]
 obtain ⟨s,e,P⟩:=wDC (body:=spB es p) (fun i s=>Ps n es p far M i s) es.length 0 (far,by_,-1)
  ⟨hf,hb,fun v hv=>by have:=hr v hv;simp only;omega,fun _ _=>ka _,.inl ⟨rfl,rfl,fun e he=>by simp at he⟩,fun _ _ h=>h,fun _ _ _ _ e he=>by simp at he⟩ (by
  rintro i ⟨f,b,last⟩ _ hi P
  have hi':i < es.length:=by omega
  obtain ⟨fl,bl,rg,le,ch,fe,st⟩:=P
  simp only at fl bl rg le ch fe st
  obtain ⟨ha,hbb,e⟩:=wLs hes (p:=p) hi' (last:=last) fl bl (M:=M + 400000 * (i:Int)) (by omega) (by omega) rg
  have hm:=wBn hi'
  have hok:=hes _ hm
  have hc:-400000 <= (ed p (gd es i)).c/\(ed p (gd es i)).c <= 400000:=by
   have:=hok.c0;have:=hok.c1
   unfold ed
   split <;> exact ⟨by assumption,by assumption⟩
  have hfe:∀ x,wFc (es.map (ed p)) x->x (ed p (gd es i)).b <= x (ed p (gd es i)).a + (ed p (gd es i)).c:=fun x hx=>hx _ (nW.2 ⟨_,hm,rfl⟩)
  have hends:∀ e ∈ es.take i,(ed p e).a < n/\(ed p e).b < n:=fun e he=>by
   obtain ⟨a1,a2,a3,a4,_,_⟩:=hes e (kI he)
   unfold ed
   split <;> (simp only;omega)
  generalize hE:ed p (gd es i)=E at ha hbb e hc hfe
  rw [e]
  by_cases c:gd f E.a < 1125899906842624/\gd f E.a + E.c < gd f E.b
  ·rw [if_pos c]
   obtain ⟨c1,c2⟩:=c
   have rga:-(M + 400000 * (i:Int)) <= gd f E.a/\gd f E.a <= M + 400000 * (i:Int):=by
    rcases rg E.a ha with q | q
    ·omega
    ·exact q
   have hg:∀ v,v < n->gd (f.set E.b (gd f E.a + E.c)) v=if v=E.b then gd f E.a + E.c else gd f v:=fun v hv=>wGo (by omega) (by omega)
   refine ⟨_,rfl,by simp [fl],by simp [bl],fun v hv=>?_,fun v hv=>?_,.inr ⟨by simp only;omega,by simp only;omega,E.b,hbb,?_⟩,fun x hx hxt v hv=>?_,fun δ hδ h1 h2 e' he' g1 g2=>?_⟩
   ·simp only
    rw [hg v hv]
    split
    ·right;omega
    ·rcases rg v hv with q | q
     ·exact .inl q
     ·right;omega
   ·simp only
    rw [hg v hv]
    split
    ·rename_i h;have:=le E.b hbb;rw [h];omega
    ·exact le v hv
   ·simp only
    rw [hg _ hbb,if_pos rfl]
    have:=le E.b hbb
    omega
   ·simp only
    rw [hg v hv]
    have:=fe x hx hxt
    split
    ·rename_i h
     have a1:=this E.a ha
     have a2:=hfe x hx
     rw [h];omega
    ·exact this v hv
   ·have lo:=fe δ hδ h1
    simp only
    rw [wCp hi'] at he'
    rcases nX.1 he' with he' | he'
    ·have old:=st δ hδ h1 h2 e' he' g1 g2
     rw [hg _ (hends e' he').2]
     split
     ·rename_i h
      have a1:=lo E.a ha
      have a2:=hfe δ hδ
      rw [h] at old ⊢
      omega
     ·exact old
    ·have:=nU.1 he'
     subst this
     rw [hE] at g1 g2 ⊢
     rw [hg _ hbb,if_pos rfl]
     have a1:=lo E.a ha
     have a2:=le E.a ha
     omega
  ·rw [if_neg c]
   refine ⟨_,rfl,fl,bl,fun v hv=>?_,le,?_,fe,fun δ hδ h1 h2 e' he' g1 g2=>?_⟩
   ·rcases rg v hv with q | q
    ·exact .inl q
    ·right;simp only;omega
   ·simp only
    rcases ch with ⟨q1,q2,q3⟩ | q
    ·refine .inl ⟨q1,q2,fun e' he' g=>?_⟩
     rw [wCp hi'] at he'
     rcases nX.1 he' with he' | he'
     ·exact q3 e' he' g
     ·have:=nU.1 he'
      subst this
      rw [hE] at g ⊢
      rw [q2] at c
      rcases ki (gd far E.a + E.c) (gd far E.b) with d | d
      ·exact absurd ⟨g,d⟩ c
      ·exact d
    ·exact .inr q
   ·have lo:=fe δ hδ h1
    rw [wCp hi'] at he'
    rcases nX.1 he' with he' | he'
    ·exact st δ hδ h1 h2 e' he' g1 g2
    ·have:=nU.1 he'
     subst this
     rw [hE] at g1 g2 ⊢
     simp only
     have a1:=lo E.a ha
     have a2:=le E.a ha
     have a3:=lo E.b hbb
     have a4:=h2 E.a ha
     have fa:gd f E.a=δ E.a:=by omega
     rw [fa] at c
     rcases ki (δ E.a + E.c) (gd f E.b) with d | d
     ·exact absurd ⟨a4,d⟩ c
     ·omega)
 rw [nZ] at P
 exact ⟨s,e,P⟩
end Go.Proofs.Ytkedcbligiebkaa
namespace Go.Proofs.Ytkedcbligiebkaa
open Go.KL Go.KL.Net
theorem wDy {α:Type} [Inhabited α] (l:List α) (k:Nat):gd l k=(l[k]?).getD default:=by unfold gd;rw [nO]
theorem wJC {α:Type} {m ys:List α} {a:Nat} (h:a <= m.length):(cpy m a ys).length=m.length:=by
 unfold cpy
 simp only [hH,nA,nL]
 omega
theorem wKg {α:Type} [Inhabited α] {m ys:List α} {a j:Nat} (h:a <= m.length) (hj:j < m.length):gd (cpy m a ys) j=if j < a then gd m j else if j < a + ys.length then gd ys (j - a) else gd m j:=by
 rw [wDy,wDy,wDy]
 unfold cpy
 rw [hJ]
 by_cases c:j < a
 ·rw [if_pos c,nM (by rw [nA];omega),nj,if_pos c]
 ·rw [if_neg c,nV (by rw [nA];omega),nA,nl h]
  by_cases d:j < a + ys.length
  ·rw [if_pos d,nM (by rw [nA];omega),nj,if_pos (by omega)]
  ·rw [if_neg d,nV (by rw [nA];omega),nA,ny,np (by omega)]
   congr 2
   omega
theorem wGp (x:Int) {n:Nat} (h1:1 <= n) (h2:n <= 1000):wAu [x] (n:Int)=some (nc n x):=by
 unfold wAu wCf
 have e1:wAc (([x]:List Int).length:Int)=1:=rfl
 have e2:wAc (n:Int)=n:=by unfold wAc;omega
 rw [if_neg (by omega),e1,e2,if_pos (by omega),hD]
 simp only
 rw [show (1:Int) * (n:Int) / 18446744073709551616=0 by omega,show (1:Int) * (n:Int) % 18446744073709551616=n by omega,if_neg (by omega),hD,decide_eq_false (by omega),if_neg (by simp),wAY (by omega) (by omega),mkz,if_pos (by omega),hD,wKb,if_pos (by simp),hD]
 have hlen:(nc (n:Int).toNat (0:Int)).length=n:=by simp
 generalize nc (n:Int).toNat (0:Int)=z at hlen
 have e3:((min ([x]:List Int).length z.length:Nat):Int)=1:=by simp only [nG];omega
 refine wHP (I:=fun i (s:List Int × Int)=>s.1.length=n/\(i:Int) + 1 <= s.2/\s.2 <= n/\∀ j,j < s.2.toNat->gd s.1 j=x) n ⟨by rw [wJC (by simp)];exact hlen,by simp only;omega,by simp only;omega,fun j hj=>?_⟩ (by omega) ?_
 ·simp only at hj ⊢
  rw [wKg (by simp) (by omega),if_neg (by simp),if_pos (by simp only [nG];omega)]
  have:j=0:=by omega
  subst this
  rfl
 ·rintro i ⟨l,k⟩ hi ⟨q1,q2,q3,q4⟩
  simp only at q1 q2 q3 q4 ⊢
  by_cases c:k < (l.length:Int)
  ·left
   refine ⟨by omega,?_⟩
   have hd:(List.take ((l.length:Int).toNat - k.toNat) (List.drop k.toNat l)).length=l.length - k.toNat:=by
    rw [nA,nL];omega
   have ht:(List.take (k.toNat - (0:Int).toNat) (List.drop (0:Int).toNat l))=l.take k.toNat:=by simp
   rw [if_pos c,cut,if_pos (by omega),hD,cut,if_pos (by omega),hD,wKb,if_pos (by omega),hD,ht,hd,nA]
   rw [wAY (by omega) (by omega)]
   refine ⟨_,rfl,by simp only;rw [wJC (by omega)];exact q1,by simp only;omega,by simp only;omega,fun j hj=>?_⟩
   simp only at hj ⊢
   rw [wKg (by omega) (by omega),nA]
   by_cases d:j < k.toNat
   ·rw [if_pos d];exact q4 j d
   ·rw [if_neg d,if_pos (by omega)]
    have:=q4 (j - k.toNat) (by omega)
    rw [wDy] at this ⊢
    rw [nj,if_pos (by omega)]
    exact this
  ·right
   rw [if_neg c,wJj]
   have:l=nc n x:=wJA (by simp [q1]) fun j hj=>by
    rw [q4 j (by omega),wDg (by simpa [q1] using hj)];simp
   rw [this]
def wFV (i:Int) (v:Nat):Int:=if i < 0 \/ (v:Int)=i then 0 else 1125899906842624
theorem wKh (i:Int) (v:Nat):0 <= wFV i v/\wFV i v <= 1125899906842624:=by unfold wFV;split <;> omega
theorem wLF {n:Nat} (i:Int) {l:List Int} (hl:l.length=n) (hn:n <= 1000) (h0:∀ v,v < n->gd l v=1125899906842624):∃ y,(wBd 0 (↑l.length:Int) (fun k1254 l1253 =>
  if i < 0 then
   (chk (↑k1254:Int) l1253.length).bind fun _ =>
   some (nJ l1253 k1254 0)
  else
   if (↑k1254:Int)=i then
    (chk (↑k1254:Int) l1253.length).bind fun _ =>
    some (nJ l1253 k1254 0)
   else
    some l1253) l)=some y/\y.length=n/\∀ v,v < n->gd y v=wFV i v:=by
 rw [wCJ (by omega)]
 obtain ⟨y,e,y1,y2⟩:=wDC (body:=fun (k1254:Nat) (l1253:List Int) =>
  if i < 0 then
   (chk (↑k1254:Int) l1253.length).bind fun _ =>
   some (nJ l1253 k1254 0)
  else
   if (↑k1254:Int)=i then
    (chk (↑k1254:Int) l1253.length).bind fun _ =>
    some (nJ l1253 k1254 0)
   else
    some l1253) (fun k s=>s.length=n/\∀ v,v < n->gd s v=if v < k then wFV i v else 1125899906842624) l.length 0 l ⟨hl,fun v hv=>by rw [if_neg (by omega)];exact h0 v hv⟩ (by
  rintro k s _ hk ⟨s1,s2⟩
  have hk':k < n:=by omega
  have hset:∀ v,v < n->gd (s.set k 0) v=if v=k then 0 else gd s v:=fun v hv=>wGo (by omega) (by omega)
  by_cases c:i < 0 \/ (k:Int)=i
  ·have hb:(if i < 0 then (chk (↑k:Int) s.length).bind fun _=>some (nJ s k 0) else if (↑k:Int)=i then (chk (↑k:Int) s.length).bind fun _=>some (nJ s k 0) else some s)=some (s.set k 0):=by
    rw [wAz (by omega) (by omega)]
    rcases c with c | c
    ·rw [if_pos c];rfl
    ·rw [if_pos c]
     split <;> rfl
   refine ⟨_,hb,by simp [s1],fun v hv=>?_⟩
   rw [hset v hv]
   by_cases e:v=k
   ·subst e
    rw [if_pos rfl,if_pos (by omega),wFV,if_pos c]
   ·rw [if_neg e,s2 v hv]
    by_cases d:v < k
    ·rw [if_pos d,if_pos (by omega)]
    ·rw [if_neg d,if_neg (by omega)]
  ·refine ⟨s,by rw [if_neg (fun h=>c (.inl h)),if_neg (fun h=>c (.inr h))],s1,fun v hv=>?_⟩
   rw [s2 v hv]
   by_cases d:v < k
   ·rw [if_pos d,if_pos (by omega)]
   ·by_cases e:v=k
    ·subst e
     rw [if_neg (by omega),if_pos (by omega),wFV,if_neg c]
    ·rw [if_neg d,if_neg (by omega)])
 rw [nZ] at y2
 exact ⟨y,e,y1,fun v hv=>by rw [y2 v hv,if_pos (by omega)]⟩
structure SpT (n:Nat) (es:List Ed) (i:Int) (far:List Int):Prop where
 fl:far.length=n
 rl:∀ e ∈ es,gd far e.a < 1125899906842624->gd far e.b <= gd far e.a + e.c
 rg:∀ v,v < n->gd far v=1125899906842624 \/ (-400000000000 <= gd far v/\gd far v <= 400000000000)
 le:∀ v,v < n->gd far v <= wFV i v
 fe:∀ x,wFc es x->(∀ v,v < n->x v <= wFV i v)->∀ v,v < n->x v <= gd far v
structure SpI (n:Nat) (es:List Ed) (i:Int) (t:Nat) (s:SS):Prop where
 fl:s.1.length=n
 bl:s.2.1.length=n
 rg:∀ v,v < n->gd s.1 v=1125899906842624 \/ (-(400000000 * (t:Int)) <= gd s.1 v/\gd s.1 v <= 400000000 * (t:Int))
 le:∀ v,v < n->gd s.1 v <= wFV i v
 fe:∀ x,wFc es x->(∀ v,v < n->x v <= wFV i v)->∀ v,v < n->x v <= gd s.1 v
 st:∀ δ,Most n es (wFV i) δ->(∀ v,v < n->δ v < 1125899906842624)->t <= wLY n δ fun v=>gd s.1 v
 la:t=0 \/ (0 <= s.2.2/\s.2.2 < n)
theorem wGq {d:wAd} {n:Nat} (hn:d.number.length=n) (h1:1 <= n) (h2:n <= 500) (hes:∀ e ∈ d.edges,EdOK n e) (hl:d.edges.length <= 1000) (i:Int) (p:Bool) :
  ∃ f last ok,wAf d i p=some (f,last,ok)/\f.by_.length=n/\f.far.length=n/\(ok=true->SpT n (d.edges.map (ed p)) i f.far)/\(ok=false->0 <= last/\last < n/\∀ δ,Most n (d.edges.map (ed p)) (wFV i) δ->¬ ∀ v,v < n->δ v < 1125899906842624):=by
 unfold wAf
 rw [hn,wGp _ h1 (by omega),hD,wGp _ h1 (by omega),hD,hD]
 simp only
 obtain ⟨y,e1,y1,y2⟩:=wLF (n:=n) i (l:=nc n 1125899906842624) (by simp) (by omega) (fun v hv=>by rw [wDg (by simpa using hv)];simp)
 rw [e1,hD,wAY (by omega) (by omega)]
 have hn1:((n:Int) + 1)=((n + 1:Nat):Int):=by omega
 rw [hn1,wCi (by omega)]
 have hmap:∀ e ∈ d.edges.map (ed p),e.a < n/\e.b < n:=fun e he=>by
  obtain ⟨q,hq,rfl⟩:=nW.1 he
  obtain ⟨a1,a2,a3,a4,_,_⟩:=hes q hq
  unfold ed
  split <;> (simp only;omega)
 rcases wHm (B:=wCT × Int × Bool) (body:=fun (k1336:Nat) ((l1333,l1334,x1335):SS) =>
  (wBd 0 (↑d.edges.length:Int) (spB d.edges p) (l1333,l1334,-1)).bind fun (y1380,y1381,y1382) =>
  if y1382 < 0 then
   esc (some ((⟨y1380,y1381⟩:wCT),0,true))
  else
   some (.inl (y1380,y1381,y1382))) (fun t s=>SpI n (d.edges.map (ed p)) i t s) (fun b=>b.2.2=true/\b.1.by_.length=n/\SpT n (d.edges.map (ed p)) i b.1.far) (n + 1) 0 (y,nc n (-1),-1)
  ⟨y1,by simp,fun v hv=>by simp only;rw [y2 v hv];unfold wFV;split <;> omega,fun v hv=>by simp only;rw [y2 v hv];exact ka _,fun x _ hx v hv=>by simp only;rw [y2 v hv];exact hx v hv,fun _ _ _=>Nat.zero_le _,.inl rfl⟩ (by
   rintro t ⟨far,by_,last⟩ _ ht ⟨fl,bl,rg,le,fe,st,la⟩
   simp only at fl bl rg le fe st
   obtain ⟨⟨far',by',last'⟩,e,P⟩:=wLE hes hl p fl bl (M:=400000000 * (t:Int)) (by omega) (by omega) rg
   obtain ⟨gl,ql,qg,qle,ch,qfe,qst⟩:=P
   simp only at gl ql qg qle ch qfe qst
   simp only
   rw [e,hD]
   simp only
   rcases ch with ⟨c1,c2,c3⟩ | ⟨c1,c2,v,hv,c3⟩
   ·right
    subst c1
    rw [if_pos (by omega)]
    refine ⟨_,rfl,rfl,ql,gl,fun e' he' hlt=>?_,fun v hv=>?_,fun v hv=>Int.le_trans (qle v hv) (le v hv),fun x hx hxt v hv=>qfe x hx (fe x hx hxt) v hv⟩
    ·obtain ⟨q,hq,rfl⟩:=nW.1 he'
     simp only at hlt ⊢
     rw [c2] at hlt ⊢
     rw [nq] at c3
     exact c3 q hq hlt
    ·simp only
     rw [c2]
     rcases rg v hv with q | q
     ·exact .inl q
     ·right;omega
   ·left
    rw [if_neg (by omega)]
    refine ⟨_,rfl,gl,ql,fun v hv=>?_,fun v hv=>Int.le_trans (qle v hv) (le v hv),fun x hx hxt v hv=>qfe x hx (fe x hx hxt) v hv,fun δ M hδ=>?_,.inr ⟨c1,c2⟩⟩
    ·simp only
     rcases qg v hv with q | q
     ·exact .inl q
     ·right;omega
    ·have old:=st δ M hδ
     have lo:=fe δ M.ok M.le
     have lo':=qfe δ M.ok lo
     simp only
     obtain ⟨e',he',g1,g2,g3⟩:=M.tight hmap (fun u=>gd far u) (fun u hu=>le u hu) ⟨v,hv,by have:=lo' v hv;omega⟩ lo
     obtain ⟨q,hq,rfl⟩:=nW.1 he'
     rw [nq] at qst
     have h5:=qst δ M.ok lo hδ q hq g1 g3
     have:=wLC (n:=n) (δ:=δ) (low:=fun u=>gd far u) (low':=fun u=>gd far' u) lo' (fun u hu=>qle u hu) (hmap _ he').2 g2 h5
     omega) with ⟨⟨far,by_,last⟩,e,I⟩ | ⟨⟨f,last,ok⟩,e,h3,h4,h5⟩
 ·refine ⟨⟨far,by_⟩,last,false,?_,I.bl,I.fl,(fun h=>by cases h),fun _=>?_⟩
  ·show jn (forN _ (n + 1) 0 (y,nc n (-1),-1)) _=_
   erw [e]
   rfl
  ·have hla:=I.la
   simp only at hla
   refine ⟨by omega,by omega,fun δ M hδ=>?_⟩
   have h6:0 + (n + 1) <= wLY n δ fun v=>gd far v:=I.st δ M hδ
   have:=wLB n δ fun v=>gd far v
   omega
 ·simp only at h3 h4 h5
  subst h3
  refine ⟨f,last,true,?_,h4,h5.fl,fun _=>h5,fun h=>by cases h⟩
  show jn (forN _ (n + 1) 0 (y,nc n (-1),-1)) _=_
  erw [e]
  rfl
theorem SpT.fin {n:Nat} {R:Int} {es:List Ed} (C:Con n R es) (hc:∀ e ∈ es,e.c <= 400000) {i:Int} {far:List Int} (S:SpT n es i far) {k:Nat} (hk:k < n) (h0:wFV i k=0):∀ v,v < n->gd far v < 1125899906842624 :=
 C.all (fun v=>v < n->gd far v < 1125899906842624) k hk (fun _=>by have:=S.le k hk;omega) (fun e he h _=>by
  obtain ⟨h1,h2⟩:=C.ends e he
  have a:=h h1
  have b:=S.rl e he a
  have c:=hc e he
  rcases S.rg e.a h1 with q | q <;> omega) |> fun h v hv=>h v hv hv
theorem SpT.feas {n:Nat} {R:Int} {es:List Ed} (C:Con n R es) (hc:∀ e ∈ es,e.c <= 400000) {i:Int} {far:List Int} (S:SpT n es i far) {k:Nat} (hk:k < n) (h0:wFV i k=0):wFc es fun v=>gd far v :=
 fun e he=>S.rl e he (S.fin C hc hk h0 e.a (C.ends e he).1)
theorem SpT.isD {n:Nat} {R:Int} (hR:R <= 1000000000000) {es:List Ed} (C:Con n R es) (hc:∀ e ∈ es,e.c <= 400000) {i:Nat} (hi:i < n) {far:List Int} (S:SpT n es i far):IsD n es i fun v=>gd far v:=by
 have t0:wFV i i=0:=by unfold wFV;rw [if_pos (.inr rfl)]
 have F:=S.feas C hc hi t0
 have gr:∀ x,wFc es x->∀ v,v < n->x v - x i <= gd far v:=fun x hx v hv=>by
  have:=S.fe (fun u=>x u + (-(x i))) (shift hx _) (fun u hu=>by
   show x u + (-(x i)) <= _
   have:=C.near x hx i u hi hu
   unfold wFV
   split
   ·rename_i h
    rcases h with h | h
    ·omega
    ·have:u=i:=by omega
     subst this;omega
   ·omega) v hv
  have this:x v + (-(x i)) <= gd far v:=this
  omega
 have h1:=gr _ F i hi
 have h2:=S.le i hi
 exact ⟨F,by show gd far i=0;omega,gr⟩
end Go.Proofs.Ytkedcbligiebkaa
namespace Go.Proofs.Ytkedcbligiebkaa
open Go.KL Go.KL.Net
structure RC (r:wAD):Prop where
 n:1 <= r.Starts.length/\r.Starts.length <= 8
 m:r.Splits.length <= 7
 c:r.Clocks.length <= 4
 q:r.Readings.length <= 40
 st:∀ s ∈ r.Starts,0 <= s/\s <= 360000
 sp:∀ s ∈ r.Splits,s.Lo <= s.Hi/\0 <= s.Lo/\s.Hi <= 360000
 ck:∀ s ∈ r.Clocks,(s.Offset.Lo <= s.Offset.Hi/\-36000 <= s.Offset.Lo/\s.Offset.Hi <= 36000)/\0 <= s.Error/\s.Error <= 600
 rt:∀ x ∈ r.Readings,0 <= x.Time/\x.Time <= 360000
 ru:∀ x ∈ r.Readings,0 <= x.Skier/\x.Skier < r.Starts.length/\0 <= x.Mat/\x.Mat <= r.Splits.length/\0 <= x.Clock/\x.Clock < r.Clocks.length
def zp:wAB:=⟨-1,0⟩
def wFW (r:wAD) (p:wAB):Prop:=p=zp \/ (0 <= p.skier/\p.skier < r.Starts.length/\0 <= p.mat/\p.mat <= r.Splits.length) \/ (p.skier=-1/\1 <= p.mat/\p.mat <= r.Clocks.length)
def wDO (r:wAD) (x:wAK):Prop :=
 (x.Kind=0/\0 <= x.Skier/\x.Skier < r.Starts.length/\x.Index=0) \/ (x.Kind=1/\0 <= x.Skier/\x.Skier < r.Starts.length/\0 <= x.Index/\x.Index < r.Splits.length) \/
 (x.Kind=2/\x.Skier=0/\0 <= x.Index/\x.Index < r.Clocks.length) \/ (x.Kind=3/\x.Skier=0/\0 <= x.Index/\x.Index < r.Readings.length)
abbrev Pt:=wAB
def wDK (r:wAD) (x:wAK):Pt × Pt × Int × Int :=
 if x.Kind=0 then (zp,⟨x.Skier,0⟩,gd r.Starts x.Skier.toNat,-gd r.Starts x.Skier.toNat)
 else if x.Kind=1 then (⟨x.Skier,x.Index⟩,⟨x.Skier,x.Index + 1⟩,(gd r.Splits x.Index.toNat).Hi,-(gd r.Splits x.Index.toNat).Lo)
 else if x.Kind=2 then (zp,⟨-1,1 + x.Index⟩,-(gd r.Clocks x.Index.toNat).Offset.Lo,(gd r.Clocks x.Index.toNat).Offset.Hi)
 else (⟨-1,1 + (gd r.Readings x.Index.toNat).Clock⟩,⟨(gd r.Readings x.Index.toNat).Skier,(gd r.Readings x.Index.toNat).Mat⟩,(gd r.Readings x.Index.toNat).Time + (gd r.Clocks (gd r.Readings x.Index.toNat).Clock.toNat).Error,(gd r.Clocks (gd r.Readings x.Index.toNat).Clock.toNat).Error - (gd r.Readings x.Index.toNat).Time)
def wCm (r:wAD) (x:wAK):Pt × Pt × Int:=if x.Up=true then ((wDK r x).1,(wDK r x).2.1,(wDK r x).2.2.1) else ((wDK r x).2.1,(wDK r x).1,(wDK r x).2.2.2)
theorem wFX {α:Type} [Inhabited α] {l:List α} {i:Int} (h0:0 <= i) (h1:i < l.length):idx l i=some (gd l i.toNat):=by
 obtain ⟨k,rfl⟩:=Int.eq_ofNat_of_zero_le h0
 rw [wEn (by omega)]
 rfl
theorem wCN {α:Type} [Inhabited α] {l:List α} {i:Int} (h0:0 <= i) (h1:i < l.length):gd l i.toNat ∈ l:=wBn (by omega)
theorem wJv {r:wAD} (C:RC r) {x:wAK} (h:wDO r x):wBT r x=some (wCm r x):=by
 unfold wBT wBl wCr wCs wCt wCu wCv wCw wCc wCd wBc wCO
 have hm:=C.m;have hc:=C.c;have hq:=C.q;have hn:=C.n
 rcases h with ⟨k,a,b,c⟩ | ⟨k,a,b,c,d⟩ | ⟨k,a,c,d⟩ | ⟨k,a,c,d⟩
 ·have g:=C.st _ (wCN a b)
  have e4:wDK r x=(zp,⟨x.Skier,0⟩,gd r.Starts x.Skier.toNat,-gd r.Starts x.Skier.toNat):=if_pos k
  have w:w64 (-gd r.Starts x.Skier.toNat)=-gd r.Starts x.Skier.toNat:=wAY (by omega) (by omega)
  rw [if_pos k,wFX a b]
  simp only [hD]
  rw [w]
  unfold wCm
  rw [e4]
  split <;> rfl
 ·have g:=C.sp _ (wCN c d)
  have e4:wDK r x=(⟨x.Skier,x.Index⟩,⟨x.Skier,x.Index + 1⟩,(gd r.Splits x.Index.toNat).Hi,-(gd r.Splits x.Index.toNat).Lo):=(if_neg (by omega)).trans (if_pos k)
  have w:w64 (-(gd r.Splits x.Index.toNat).Lo)=-(gd r.Splits x.Index.toNat).Lo:=wAY (by omega) (by omega)
  have w2:w64 (x.Index + 1)=x.Index + 1:=wAY (by omega) (by omega)
  rw [if_neg (by omega),if_pos k,wFX c d]
  simp only [hD]
  rw [w,w2]
  unfold wCm
  rw [e4]
  split <;> rfl
 ·have g:=C.ck _ (wCN c d)
  have e4:wDK r x=(zp,⟨-1,1 + x.Index⟩,-(gd r.Clocks x.Index.toNat).Offset.Lo,(gd r.Clocks x.Index.toNat).Offset.Hi):=(if_neg (by omega)).trans ((if_neg (by omega)).trans (if_pos k))
  have w:w64 (-(gd r.Clocks x.Index.toNat).Offset.Lo)=-(gd r.Clocks x.Index.toNat).Offset.Lo:=wAY (by omega) (by omega)
  have w2:w64 (1 + x.Index)=1 + x.Index:=wAY (by omega) (by omega)
  rw [if_neg (by omega),if_neg (by omega),if_pos k,wFX c d]
  simp only [hD]
  rw [w,w2]
  unfold wCm
  rw [e4]
  split <;> rfl
 ·have g:=C.rt _ (wCN c d)
  have u:=C.ru _ (wCN c d)
  have gc:=C.ck _ (wCN u.2.2.2.2.1 u.2.2.2.2.2)
  have e4:wDK r x=(⟨-1,1 + (gd r.Readings x.Index.toNat).Clock⟩,⟨(gd r.Readings x.Index.toNat).Skier,(gd r.Readings x.Index.toNat).Mat⟩,(gd r.Readings x.Index.toNat).Time + (gd r.Clocks (gd r.Readings x.Index.toNat).Clock.toNat).Error,(gd r.Clocks (gd r.Readings x.Index.toNat).Clock.toNat).Error - (gd r.Readings x.Index.toNat).Time):=(if_neg (by omega)).trans ((if_neg (by omega)).trans (if_neg (by omega)))
  rw [if_neg (by omega),if_neg (by omega),if_neg (by omega),if_pos k,wFX c d]
  simp only [hD]
  rw [wFX u.2.2.2.2.1 u.2.2.2.2.2]
  simp only [hD]
  generalize gd r.Readings x.Index.toNat=X at *
  generalize gd r.Clocks X.Clock.toNat=Y at *
  have w:w64 (X.Time + Y.Error)=X.Time + Y.Error:=wAY (by omega) (by omega)
  have w2:w64 (1 + X.Clock)=1 + X.Clock:=wAY (by omega) (by omega)
  have w3:w64 (Y.Error - X.Time)=Y.Error - X.Time:=wAY (by omega) (by omega)
  rw [w,w2,w3]
  unfold wCm
  rw [e4]
  split <;> rfl
theorem wEo {r:wAD} (C:RC r) {x:wAK} (h:wDO r x):wFW r (wCm r x).1/\wFW r (wCm r x).2.1/\-400000 <= (wCm r x).2.2/\(wCm r x).2.2 <= 400000:=by
 have key:wFW r (wDK r x).1/\wFW r (wDK r x).2.1/\(-400000 <= (wDK r x).2.2.1/\(wDK r x).2.2.1 <= 400000)/\(-400000 <= (wDK r x).2.2.2/\(wDK r x).2.2.2 <= 400000):=by
  have hn:=C.n
  unfold wDK
  rcases h with ⟨k,a,b,c⟩ | ⟨k,a,b,c,d⟩ | ⟨k,a,c,d⟩ | ⟨k,a,c,d⟩
  ·have g:=C.st _ (wCN a b)
   rw [if_pos k]
   exact ⟨.inl rfl,.inr (.inl ⟨a,b,by simp only;omega,by simp only;omega⟩),by simp only;omega,by simp only;omega⟩
  ·have g:=C.sp _ (wCN c d)
   rw [if_neg (by omega),if_pos k]
   exact ⟨.inr (.inl ⟨a,b,by simp only;omega,by simp only;omega⟩),.inr (.inl ⟨a,b,by simp only;omega,by simp only;omega⟩),by simp only;omega,by simp only;omega⟩
  ·have g:=C.ck _ (wCN c d)
   rw [if_neg (by omega),if_neg (by omega),if_pos k]
   exact ⟨.inl rfl,.inr (.inr ⟨rfl,by simp only;omega,by simp only;omega⟩),by simp only;omega,by simp only;omega⟩
  ·have g:=C.rt _ (wCN c d)
   have u:=C.ru _ (wCN c d)
   have gc:=C.ck _ (wCN u.2.2.2.2.1 u.2.2.2.2.2)
   rw [if_neg (by omega),if_neg (by omega),if_neg (by omega)]
   exact ⟨.inr (.inr ⟨rfl,by simp only;omega,by simp only;omega⟩),.inr (.inl ⟨u.1,u.2.1,u.2.2.1,u.2.2.2.1⟩),by simp only;omega,by simp only;omega⟩
 obtain ⟨h1,h2,h3,h4⟩:=key
 unfold wCm
 split
 ·exact ⟨h1,h2,h3⟩
 ·exact ⟨h2,h1,h4⟩
def two (kind skier i:Nat):List wAK:=[⟨kind,skier,i,true⟩,⟨kind,skier,i,false⟩]
def wGr (kind skier m:Nat):List wAK:=(nB m).flatMap (two kind skier)
def skL (kind ns m:Nat):List wAK:=(nB ns).flatMap fun s=>wGr kind s m
def wGs (r:wAD):List wAK:=skL 0 r.Starts.length 1 ++ (skL 1 r.Starts.length r.Splits.length ++ (skL 2 1 r.Clocks.length ++ skL 3 1 r.Readings.length))
theorem wLG {kind ns m:Nat} {x:wAK}:x ∈ skL kind ns m ↔ x.Kind=kind/\0 <= x.Skier/\x.Skier < ns/\0 <= x.Index/\x.Index < m:=by
 unfold skL wGr two
 simp only [List.mem_flatMap,nf,nb,List.not_mem_nil,or_false]
 constructor
 ·rintro ⟨s,hs,i,hi,rfl | rfl⟩ <;> exact ⟨rfl,by simp only;omega,by simp only;omega,by simp only;omega,by simp only;omega⟩
 ·rintro ⟨a,b,c,d,e⟩
  refine ⟨x.Skier.toNat,by omega,x.Index.toNat,by omega,?_⟩
  obtain ⟨k,s,i,u⟩:=x
  simp only at a b c d e
  subst a
  rw [nS b,nS d]
  cases u <;> simp
theorem wDs {r:wAD} {x:wAK}:x ∈ wGs r ↔ wDO r x:=by
 unfold wGs wDO
 simp only [nX,wLG]
 omega
theorem wLH (kind ns m:Nat):(skL kind ns m).length=2 * m * ns:=by
 unfold skL wGr
 rw [kg]
 have:∀ s:Nat,((nB m).flatMap (two kind s)).length=2 * m:=fun s=>by
  rw [kg]
  have e:(nB m).map (fun a=>(two kind s a).length)=nc m 2:=by
   apply List.ext_getElem (by simp)
   intro i h1 h2
   simp [two]
  rw [e,kb]
  omega
 have e:(nB ns).map (fun s=>((nB m).flatMap (two kind s)).length)=nc ns (2 * m):=by
  apply List.ext_getElem (by simp)
  intro i h1 h2
  simp [this]
 rw [e,kb,Nat.mul_comm]
theorem wGt {r:wAD} (C:RC r):(wGs r).length <= 216:=by
 unfold wGs
 simp only [hH,wLH]
 have hm:=C.m;have hc:=C.c;have hq:=C.q;have hn:=C.n
 have h1:2 * r.Splits.length * r.Starts.length <= 14 * 8:=Nat.mul_le_mul (by omega) hn.2
 omega
section
variable {S E:Type}
def wGV (f:S->wAK->Option (S ⊕ E)):List wAK->S->Option (S ⊕ E)
 | [],s=>some (.inl s)
 | x :: l,s=>(f s x).bind fun y=>match y with
  | .inl s'=>wGV f l s'
  | .inr e=>some (.inr e)
theorem wHp (f:S->wAK->Option (S ⊕ E)):∀ (l m:List wAK) (s:S),wGV f (l ++ m) s=(wGV f l s).bind fun y=>match y with
  | .inl s'=>wGV f m s'
  | .inr e=>some (.inr e)
 | [],_,_=>rfl
 | x :: l,m,s=>by
  rw [kE,wGV,wGV]
  cases f s x with
  | none=>rfl
  | some y=>cases y with
   | inl s'=>exact wHp f l m s'
   | inr e=>rfl
def lif {B:Type} (k:E->B) (x:Option (S ⊕ E)):Option (S ⊕ B):=x.bind fun y=>match y with
 | .inl s=>some (.inl s)
 | .inr e=>some (.inr (k e))
theorem wFC {B:Type} (k:E->B) {body:Nat->S->Option (S ⊕ B)} {f:S->wAK->Option (S ⊕ E)} {L:Nat->List wAK}:∀ (m i:Nat) (s:S),(∀ j s,i <= j->j < i + m->body j s=lif k (wGV f (L j) s))->forN body m i s=lif k (wGV f ((List.range' i m).flatMap L) s)
 | 0,_,_,_=>rfl
 | m + 1,i,s,h=>by
  rw [forN,h i s (nI _) (by omega),List.range'_succ,kr,wHp]
  cases wGV f (L i) s with
  | none=>rfl
  | some y=>cases y with
   | inl s'=>exact wFC k m (i + 1) s' fun j s h1 h2=>h j s (by omega) (by omega)
   | inr e=>rfl
theorem wKi {B:Type} (k:E->B) (x:Option (S ⊕ E)):jn (lif (fun e=>(.inr (k e):S ⊕ B)) x) (fun y=>some (.inl y))=lif k x:=by
 cases x with
 | none=>rfl
 | some y=>cases y <;> rfl
theorem wLt (x:Option (S ⊕ E)):jn (lif (fun e=>(.inr e:S ⊕ E)) x) (fun y=>some (.inl y))=x:=by
 cases x with
 | none=>rfl
 | some y=>cases y <;> rfl
theorem wLu (f:S->wAK->Option (S ⊕ E)) (kind skier i:Nat) (s:S):((f s (⟨(kind:Int),(skier:Int),(i:Int),true⟩:wAK)).bind fun yr141 =>
          match yr141 with
          | .inl s151 =>
            (f s151 (⟨(kind:Int),(skier:Int),(i:Int),false⟩:wAK)).bind fun yr154 =>
            match yr154 with
            | .inl s164 =>
              some (.inl s164)
            | .inr s164 =>
              esc (esc (esc (some (.inr s164))))
          | .inr s151 =>
            esc (esc (esc (some (.inr s151)))))=lif (fun e=>(.inr (.inr (.inr e)):S ⊕ (S ⊕ (S ⊕ E)))) (wGV f (two kind skier i) s):=by
  unfold two
  rw [wGV]
  cases f s (⟨(kind:Int),(skier:Int),(i:Int),true⟩:wAK) with
  | none=>rfl
  | some y=>cases y with
    | inr e=>rfl
    | inl s' =>
      simp only [hD]
      rw [wGV]
      cases f s' (⟨(kind:Int),(skier:Int),(i:Int),false⟩:wAK) with
      | none=>rfl
      | some y=>cases y <;> rfl
theorem wJD (f:S->wAK->Option (S ⊕ E)) (s0:S) {r:wAD} (C:RC r):wBV f s0 r=wGV f (wGs r) s0:=by
  unfold wBV
  have hm:=C.m;have hc:=C.c;have hq:=C.q;have hn:=C.n
  have inner:∀ (kind skier m:Nat) (s:S),m <= 1000->(wEG 0 (m:Int) (fun k113 s111 =>
          (f s111 (⟨(kind:Int),(skier:Int),(↑k113:Int),true⟩:wAK)).bind fun yr141 =>
          match yr141 with
          | .inl s151 =>
            (f s151 (⟨(kind:Int),(skier:Int),(↑k113:Int),false⟩:wAK)).bind fun yr154 =>
            match yr154 with
            | .inl s164 =>
              some (.inl s164)
            | .inr s164 =>
              esc (esc (esc (some (.inr s164))))
          | .inr s151 =>
            esc (esc (esc (some (.inr s151))))) s)=lif (fun e=>(.inr (.inr (.inr e)):S ⊕ (S ⊕ (S ⊕ E)))) (wGV f (wGr kind skier m) s):=fun kind skier m s hm=>by
    rw [wCi (by omega),wFC (fun e=>(.inr (.inr (.inr e)):S ⊕ (S ⊕ (S ⊕ E)))) (f:=f) (L:=two kind skier) m 0 s fun j s _ _=>wLu f kind skier j s,<- ke]
    rfl
  have skier:∀ (kind ns m:Nat) (s:S),ns <= 1000->m <= 1000->(jn (wEG 0 (ns:Int) (fun k78 s76 =>
        jn (wEG 0 (m:Int) (fun k113 s111 =>
          (f s111 (⟨(kind:Int),(↑k78:Int),(↑k113:Int),true⟩:wAK)).bind fun yr141 =>
          match yr141 with
          | .inl s151 =>
            (f s151 (⟨(kind:Int),(↑k78:Int),(↑k113:Int),false⟩:wAK)).bind fun yr154 =>
            match yr154 with
            | .inl s164 =>
              some (.inl s164)
            | .inr s164 =>
              esc (esc (esc (some (.inr s164))))
          | .inr s151 =>
            esc (esc (esc (some (.inr s151))))) s76) fun y195 =>
        some (.inl y195)) s) fun y219 =>
      some (.inl y219))=lif (fun e=>(.inr e:S ⊕ E)) (wGV f (skL kind ns m) s):=fun kind ns m s hns hm=>by
    rw [wCi (by omega),wFC (fun e=>(.inr (.inr e):S ⊕ (S ⊕ E))) (f:=f) (L:=fun q=>wGr kind q m) ns 0 s fun j s _ _=>by rw [inner kind j m s hm,wKi],wKi,<- ke]
    rfl
  unfold wEG
  rw [if_pos (by omega)]
  show jn (forN _ 4 0 s0) _=_
  rw [wFC (fun e=>(.inr e:S ⊕ E)) (f:=f) (L:=fun k=>if k=0 then skL 0 r.Starts.length 1 else if k=1 then skL 1 r.Starts.length r.Splits.length else if k=2 then skL 2 1 r.Clocks.length else skL 3 1 r.Readings.length) 4 0 s0 fun j s _ hj=>?_,wLt]
  · congr 1
    show List.flatMap _ [0,1,2,3]=_
    simp only [kr,List.flatMap_nil,kJ]
    rfl
  · have:j=0 \/ j=1 \/ j=2 \/ j=3:=by omega
    rcases this with rfl | rfl | rfl | rfl
    · exact skier 0 r.Starts.length 1 s (by omega) (by omega)
    · exact skier 1 r.Starts.length r.Splits.length s (by omega) (by omega)
    · exact skier 2 1 r.Clocks.length s (by omega) (by omega)
    · exact skier 3 1 r.Readings.length s (by omega) (by omega)
end
end Go.Proofs.Ytkedcbligiebkaa
namespace Go.Proofs.Ytkedcbligiebkaa
open Go.KL Go.KL.Net
def wDi:List Pt->Nat->List (Pt × Int)
 | [],_=>[]
 | p :: l,k=>(p,(k:Int)) :: wDi l (k + 1)
theorem wGL:∀ (l:List Pt) (k:Nat),(wDi l k).length=l.length
 | [],_=>rfl
 | _ :: l,k=>by rw [wDi,nD,nD,wGL l]
theorem wHq:∀ (l:List Pt) (p:Pt) (k:Nat),wDi (l ++ [p]) k=wDi l k ++ [(p,((k + l.length:Nat):Int))]
 | [],p,k=>by simp [wDi]
 | a :: l,p,k=>by
  rw [kE,wDi,wDi,wHq l p (k + 1),kE,nD]
  congr 4
  omega
theorem wHr:∀ {l:List Pt} {k:Nat} {p:Pt},p ∉ l->wGU (wDi l k) p=none/\∀ v,wEC (wDi l k) p v=wDi l k ++ [(p,v)]
 | [],_,_,_=>⟨rfl,fun _=>rfl⟩
 | a :: l,k,p,h=>by
  rw [nb,not_or] at h
  obtain ⟨h1,h2⟩:=wHr (l:=l) (k:=k + 1) h.2
  refine ⟨by rw [wDi,wGU,if_neg h.1];exact h1,fun v=>?_⟩
  rw [wDi,wEC,if_neg h.1,h2 v];rfl
theorem wJE:∀ {l:List Pt} {k i:Nat},l.Nodup->i < l.length->wGU (wDi l k) (gd l i)=some ((k + i:Nat):Int)
 | a :: l,k,0,_,_=>by
  rw [wDi,wGU]
  exact if_pos rfl
 | a :: l,k,i + 1,nd,hi=>by
  rw [List.nodup_cons] at nd
  have hi':i < l.length:=by simpa using hi
  have e:gd (a :: l) (i + 1)=gd l i:=rfl
  have hne:gd l i ≠ a:=fun h=>nd.1 (h ▸ wBn hi')
  rw [e,wDi,wGU,if_neg hne,wJE nd.2 hi']
  congr 2
  omega
def pos (pts:List Pt) (p:Pt):Nat:=(wAs (wDi pts 0) p 0).toNat
theorem wGu {α:Type} [Inhabited α] {l:List α} {a:α} (h:a ∈ l):∃ i,i < l.length/\gd l i=a:=by
 obtain ⟨i,hi,e⟩:=nN h
 exact ⟨i,hi,by rw [wDg hi,e]⟩
theorem wHs {pts:List Pt} (nd:pts.Nodup) {i:Nat} (hi:i < pts.length):pos pts (gd pts i)=i/\wAs (wDi pts 0) (gd pts i) 0=(i:Int)/\wIc (wDi pts 0) (gd pts i)=true:=by
 unfold pos wAs wIc
 rw [wJE nd hi]
 simp
theorem wFt {pts:List Pt} (nd:pts.Nodup) {p:Pt} (h:p ∈ pts):pos pts p < pts.length/\gd pts (pos pts p)=p/\wAs (wDi pts 0) p 0=(pos pts p:Int)/\wIc (wDi pts 0) p=true:=by
 obtain ⟨i,hi,rfl⟩:=wGu h
 obtain ⟨h1,h2,h3⟩:=wHs nd hi
 rw [h1]
 exact ⟨hi,rfl,h2,h3⟩
def wFd (pts:List Pt) (p:Pt):List Pt:=if p ∈ pts then pts else pts ++ [p]
theorem wHQ {pts:List Pt} (nd:pts.Nodup) (p:Pt):(wFd pts p).Nodup:=by
 unfold wFd
 split
 ·exact nd
 ·rename_i h
  rw [kR]
  exact ⟨nd,by simp,fun a ha b hb e=>h (by rw [nU.1 hb] at e;exact e ▸ ha)⟩
theorem wCx {pts:List Pt} {p q:Pt}:q ∈ wFd pts p ↔ q ∈ pts \/ q=p:=by
 unfold wFd
 split
 ·rename_i h
  exact ⟨.inl,fun e=>e.elim id fun e=>e ▸ h⟩
 ·rw [nX,nU]
theorem wHt (pts:List Pt) (p:Pt):pts.length <= (wFd pts p).length/\(wFd pts p).length <= pts.length + 1:=by
 unfold wFd
 split <;> simp
theorem wHu {pts:List Pt} (nd:pts.Nodup) {p q:Pt} (h:q ∈ pts):wAs (wDi (wFd pts p) 0) q 0=wAs (wDi pts 0) q 0:=by
 unfold wFd
 split
 ·rfl
 ·rename_i hp
  obtain ⟨i,hi,rfl⟩:=wGu h
  have e:gd (pts ++ [p]) i=gd pts i:=wDx hi
  have nd2:=wHQ nd p
  unfold wFd at nd2
  rw [if_neg hp] at nd2
  rw [(wHs nd hi).2.1,<- e,(wHs nd2 (by rw [hH];omega)).2.1]
theorem wHv {pts:List Pt} (nd:pts.Nodup) (p:Pt):(if (wIc (wDi pts 0) p)=true then some (wDi pts 0) else some (wEC (wDi pts 0) p (↑((wDi pts 0).length):Int)))=some (wDi (wFd pts p) 0):=by
 by_cases h:p ∈ pts
 ·rw [if_pos (wFt nd h).2.2.2,wFd,if_pos h]
 ·have ho:=wHr (k:=0) h
  have hn:¬ wIc (wDi pts 0) p=true:=by unfold wIc;rw [ho.1];simp
  rw [if_neg hn,ho.2,wFd,if_neg h,wHq,wGL,nZ]
theorem wJF {pts:List Pt} {p:Pt} {i:Nat} (h:i < pts.length):gd (wFd pts p) i=gd pts i:=by
 unfold wFd
 split
 ·rfl
 ·exact wDx h
def mkE (r:wAD) (pts:List Pt) (x:wAK):wAZ:=⟨x,wAs (wDi pts 0) (wCm r x).1 0,wAs (wDi pts 0) (wCm r x).2.1 0,(wCm r x).2.2⟩
structure Desk (r:wAD) (d:wAd) (pts:List Pt):Prop where
 c:RC r
 race:d.Race=r
 num:d.number=wDi pts 0
 nd:pts.Nodup
 len:1 <= pts.length/\pts.length <= 433
 zero:gd pts 0=zp
 all:∀ p,p ∈ pts ↔ wFW r p
 edges:d.edges=(wGs r).map (mkE r pts)
structure OpI (r:wAD) (pre:List wAK) (s:List wAZ × List (Pt × Int)) (pts:List Pt):Prop where
 num:s.2=wDi pts 0
 nd:pts.Nodup
 len:1 <= pts.length/\pts.length <= 1 + 2 * pre.length
 zero:gd pts 0=zp
 ok:∀ p ∈ pts,wFW r p
 has:∀ x ∈ pre,(wCm r x).1 ∈ pts/\(wCm r x).2.1 ∈ pts
 edges:s.1=pre.map (mkE r pts)
def opF (r:wAD):List wAZ × List (Pt × Int)->wAK->Option ((List wAZ × List (Pt × Int)) ⊕ Empty):=fun (l1591,l1595) x1616 =>
  (wBT r x1616).bind fun (x1652,x1653,x1654) =>
  (wBd 0 2 (fun k1692 l1689 =>
   (idx ([x1652,x1653]:List wAB) (↑k1692:Int)).bind fun x1718 =>
   if (wIc l1689 x1718)=true then
    some l1689
   else
    some (wEC l1689 x1718 (↑(l1689.length):Int))) l1595).bind fun y1697 =>
  (app 56 l1591 [(⟨x1616,(wAs y1697 x1652 0),(wAs y1697 x1653 0),x1654⟩:wAZ)]).bind fun x1773 =>
  some (.inl (x1773,y1697))
theorem wLv {r:wAD} (C:RC r) {pre:List wAK} (hp:pre.length <= 216) {x:wAK} (hx:wDO r x) {s:List wAZ × List (Pt × Int)} {pts:List Pt} (I:OpI r pre s pts):∃ s' pts',opF r s x=some (.inl s')/\OpI r (pre ++ [x]) s' pts':=by
 obtain ⟨es,num⟩:=s
 obtain ⟨hn,nd,hl,hz,ok,has,he⟩:=I
 simp only at hn he
 subst hn he
 obtain ⟨o1,o2,_,_⟩:=wEo C hx
 unfold opF
 simp only
 rw [wJv C hx,hD]
 have nd1:=wHQ nd (wCm r x).1
 have nd2:=wHQ nd1 (wCm r x).2.1
 have loop:(wBd 0 2 (fun k1692 l1689 =>
   (idx ([(wCm r x).1,(wCm r x).2.1]:List wAB) (↑k1692:Int)).bind fun x1718 =>
   if (wIc l1689 x1718)=true then
    some l1689
   else
    some (wEC l1689 x1718 (↑(l1689.length):Int))) (wDi pts 0))=some (wDi (wFd (wFd pts (wCm r x).1) (wCm r x).2.1) 0):=by
  unfold wBd
  rw [if_pos (by omega)]
  show forN' _ 2 0 (wDi pts 0)=_
  have i0:idx ([(wCm r x).1,(wCm r x).2.1]:List wAB) ((0:Nat):Int)=some (wCm r x).1:=rfl
  have i1:idx ([(wCm r x).1,(wCm r x).2.1]:List wAB) ((0 + 1:Nat):Int)=some (wCm r x).2.1:=rfl
  simp only [forN',i0,i1,hD]
  rw [wHv nd]
  simp only
  rw [wHv nd1]
 rw [loop,hD,wDr (by rw [nh];simp only [nD,nK];omega),hD]
 have l1:=wHt pts (wCm r x).1
 have l2:=wHt (wFd pts (wCm r x).1) (wCm r x).2.1
 have same:∀ q ∈ pts,wAs (wDi (wFd (wFd pts (wCm r x).1) (wCm r x).2.1) 0) q 0=wAs (wDi pts 0) q 0:=fun q hq=>by
  rw [wHu nd1 (wCx.2 (.inl hq)),wHu nd hq]
 refine ⟨_,wFd (wFd pts (wCm r x).1) (wCm r x).2.1,rfl,rfl,nd2,⟨by omega,by rw [hH,nG];omega⟩,?_,fun p hp=>?_,fun y hy=>?_,?_⟩
 ·rw [wJF (by omega),wJF (by omega),hz]
 ·rcases wCx.1 hp with hp | rfl
  ·rcases wCx.1 hp with hp | rfl
   ·exact ok p hp
   ·exact o1
  ·exact o2
 ·rcases nX.1 hy with hy | hy
  ·obtain ⟨a,b⟩:=has y hy
   exact ⟨wCx.2 (.inl (wCx.2 (.inl a))),wCx.2 (.inl (wCx.2 (.inl b)))⟩
  ·have:=nU.1 hy
   subst this
   exact ⟨wCx.2 (.inl (wCx.2 (.inr rfl))),wCx.2 (.inr rfl)⟩
 ·simp only
  rw [nr]
  congr 1
  refine kM fun y hy=>?_
  obtain ⟨a,b⟩:=has y hy
  unfold mkE
  rw [same _ a,same _ b]
theorem skip (r:wAD) (p:Pt) (h:wFW r p) (C:RC r):p=zp \/ ∃ x,wDO r x/\(wCm r x).2.1=p:=by
 rcases h with h | ⟨a,b,c,d⟩ | ⟨a,b,c⟩
 ·exact .inl h
 ·right
  by_cases e:p.mat=0
  ·refine ⟨⟨0,p.skier,0,true⟩,.inl ⟨rfl,a,b,rfl⟩,?_⟩
   show (⟨p.skier,0⟩:Pt)=p
   rw [<- e]
  ·refine ⟨⟨1,p.skier,p.mat - 1,true⟩,.inr (.inl ⟨rfl,a,b,by simp only;omega,by simp only;omega⟩),?_⟩
   show (⟨p.skier,p.mat - 1 + 1⟩:Pt)=p
   rw [nt]
 ·right
  refine ⟨⟨2,0,p.mat - 1,true⟩,.inr (.inr (.inl ⟨rfl,rfl,by simp only;omega,by simp only;omega⟩)),?_⟩
  show (⟨-1,1 + (p.mat - 1)⟩:Pt)=p
  rw [<- a,kV,nt]
theorem wJG {r:wAD} (C:RC r):∃ d pts,wCe r=some d/\Desk r d pts:=by
 unfold wCe wBc wCI
 simp only [hD]
 rw [wJD _ _ C]
 have hlen:=wGt C
 have key:∀ (l pre:List wAK) (s:List wAZ × List (Pt × Int)) (pts:List Pt),OpI r pre s pts->pre.length + l.length <= 216->(∀ x ∈ l,wDO r x)->∃ s' pts',wGV (opF r) l s=some (.inl s')/\OpI r (pre ++ l) s' pts':=by
  intro l
  induction l with
  | nil=>intro pre s pts I _ _;exact ⟨s,pts,rfl,by rw [kJ];exact I⟩
  | cons x l ih =>
   intro pre s pts I hl hx
   simp only [nD] at hl
   obtain ⟨s1,p1,e,I1⟩:=wLv C (by omega) (hx x (by simp)) I
   obtain ⟨s2,p2,e2,I2⟩:=ih (pre ++ [x]) s1 p1 I1 (by rw [hH,nG];omega) fun y hy=>hx y (by simp [hy])
   refine ⟨s2,p2,by rw [wGV,e];exact e2,?_⟩
   rw [hJ] at I2
   exact I2
 obtain ⟨⟨es,num⟩,pts,e,I⟩:=key (wGs r) [] ([],wEC ([]:List (Pt × Int)) (⟨-1,0⟩:wAB) 0) [zp] ⟨rfl,by simp,⟨by simp,by simp⟩,rfl,fun p hp=>.inl (nU.1 hp),(fun x hx=>by cases hx),rfl⟩ (by simpa using hlen) fun x hx=>wDs.1 hx
 rw [List.nil_append] at I
 have hz:zp ∈ pts:=I.zero ▸ wBn I.len.1
 refine ⟨⟨r,num,es⟩,pts,?_,C,rfl,I.num,I.nd,⟨I.len.1,by have:=I.len.2;omega⟩,I.zero,fun p=>⟨I.ok p,fun h=>?_⟩,I.edges⟩
 ·show (wGV (opF r) (wGs r) _).bind _=_
  rw [e]
  rfl
 ·rcases skip r p h C with rfl | ⟨x,hx,rfl⟩
  ·exact hz
  ·exact (I.has x (wDs.2 hx)).2
end Go.Proofs.Ytkedcbligiebkaa
namespace Go.Proofs.Ytkedcbligiebkaa
open Go.KL Go.KL.Net
def wDG (r:wAD) (y:Pt->Int):Prop:=∀ x,wDO r x->y (wCm r x).2.1 <= y (wCm r x).1 + (wCm r x).2.2
section
variable {r:wAD} {y:Pt->Int}
theorem fp0 (F:wDG r y) {s:Int} (h0:0 <= s) (h1:s < r.Starts.length):y ⟨s,0⟩=y zp + gd r.Starts s.toNat:=by
 have a:y ⟨s,0⟩ <= y zp + gd r.Starts s.toNat:=F ⟨0,s,0,true⟩ (.inl ⟨rfl,h0,h1,rfl⟩)
 have b:y zp <= y ⟨s,0⟩ + -gd r.Starts s.toNat:=F ⟨0,s,0,false⟩ (.inl ⟨rfl,h0,h1,rfl⟩)
 omega
theorem fp1 (F:wDG r y) {s k:Int} (h0:0 <= s) (h1:s < r.Starts.length) (k0:0 <= k) (k1:k < r.Splits.length):y ⟨s,k⟩ + (gd r.Splits k.toNat).Lo <= y ⟨s,k + 1⟩/\y ⟨s,k + 1⟩ <= y ⟨s,k⟩ + (gd r.Splits k.toNat).Hi:=by
 have a:y ⟨s,k + 1⟩ <= y ⟨s,k⟩ + (gd r.Splits k.toNat).Hi:=F ⟨1,s,k,true⟩ (.inr (.inl ⟨rfl,h0,h1,k0,k1⟩))
 have b:y ⟨s,k⟩ <= y ⟨s,k + 1⟩ + -(gd r.Splits k.toNat).Lo:=F ⟨1,s,k,false⟩ (.inr (.inl ⟨rfl,h0,h1,k0,k1⟩))
 omega
theorem fp2 (F:wDG r y) {k:Int} (k0:0 <= k) (k1:k < r.Clocks.length):y ⟨-1,1 + k⟩ <= y zp - (gd r.Clocks k.toNat).Offset.Lo/\y zp <= y ⟨-1,1 + k⟩ + (gd r.Clocks k.toNat).Offset.Hi:=by
 have a:y ⟨-1,1 + k⟩ <= y zp + -(gd r.Clocks k.toNat).Offset.Lo:=F ⟨2,0,k,true⟩ (.inr (.inr (.inl ⟨rfl,rfl,k0,k1⟩)))
 have b:y zp <= y ⟨-1,1 + k⟩ + (gd r.Clocks k.toNat).Offset.Hi:=F ⟨2,0,k,false⟩ (.inr (.inr (.inl ⟨rfl,rfl,k0,k1⟩)))
 omega
theorem wIN (C:RC r) (F:wDG r y) {p:Pt} (hp:wFW r p):-3300000 <= y p - y zp/\y p - y zp <= 3300000:=by
 rcases hp with rfl | ⟨a,b,c,d⟩ | ⟨a,b,c⟩
 ·omega
 ·have key:∀ k:Nat,(k:Int) <= r.Splits.length->0 <= y ⟨p.skier,k⟩ - y zp/\y ⟨p.skier,k⟩ - y zp <= 360000 * ((k:Int) + 1):=by
   intro k
   induction k with
   | zero =>
    intro _
    have:=fp0 F a b
    have:=C.st _ (wCN a b)
    show 0 <= y ⟨p.skier,0⟩ - y zp/\y ⟨p.skier,0⟩ - y zp <= _
    omega
   | succ k ih =>
    intro hk
    have h:=ih (by omega)
    have f:=fp1 F a b (k:=(k:Int)) (by omega) (by omega)
    have g:=C.sp _ (wCN (l:=r.Splits) (i:=(k:Int)) (by omega) (by omega))
    have e:((k + 1:Nat):Int)=(k:Int) + 1:=by omega
    rw [e]
    omega
  have:=key p.mat.toNat (by omega)
  rw [nS c] at this
  have hm:=C.m
  have e:(⟨p.skier,p.mat⟩:Pt)=p:=rfl
  rw [e] at this
  omega
 ·have f:=fp2 F (k:=p.mat - 1) (by omega) (by omega)
  have g:=(C.ck _ (wCN (l:=r.Clocks) (i:=p.mat - 1) (by omega) (by omega))).1
  have e:(⟨-1,1 + (p.mat - 1)⟩:Pt)=p:=by rw [<- a,kV,nt]
  rw [e] at f
  omega
theorem to_zp {S:Pt->Prop} (hS:∀ x,wDO r x->S (wCm r x).1->S (wCm r x).2.1) {p:Pt} (hp:wFW r p) (h:S p):S zp:=by
 rcases hp with rfl | ⟨a,b,c,d⟩ | ⟨a,b,c⟩
 ·exact h
 ·have key:∀ k:Nat,(k:Int) <= r.Splits.length->S ⟨p.skier,k⟩->S zp:=by
   intro k
   induction k with
   | zero=>intro _ hk;exact hS ⟨0,p.skier,0,false⟩ (.inl ⟨rfl,a,b,rfl⟩) hk
   | succ k ih =>
    intro hk h
    refine ih (by omega) ?_
    have e:((k + 1:Nat):Int)=(k:Int) + 1:=by omega
    rw [e] at h
    exact hS ⟨1,p.skier,k,false⟩ (.inr (.inl ⟨rfl,a,b,by simp only;omega,by simp only;omega⟩)) h
  refine key p.mat.toNat (by omega) ?_
  rw [nS c];exact h
 ·have e:(⟨-1,1 + (p.mat - 1)⟩:Pt)=p:=by rw [<- a,kV,nt]
  refine hS ⟨2,0,p.mat - 1,false⟩ (.inr (.inr (.inl ⟨rfl,rfl,by simp only;omega,by simp only;omega⟩))) ?_
  show S ⟨-1,1 + (p.mat - 1)⟩
  rw [e];exact h
theorem of_zp {S:Pt->Prop} (hS:∀ x,wDO r x->S (wCm r x).1->S (wCm r x).2.1) (h:S zp) {p:Pt} (hp:wFW r p):S p:=by
 rcases hp with rfl | ⟨a,b,c,d⟩ | ⟨a,b,c⟩
 ·exact h
 ·have key:∀ k:Nat,(k:Int) <= r.Splits.length->S ⟨p.skier,k⟩:=by
   intro k
   induction k with
   | zero=>intro _;exact hS ⟨0,p.skier,0,true⟩ (.inl ⟨rfl,a,b,rfl⟩) h
   | succ k ih =>
    intro hk
    have e:((k + 1:Nat):Int)=(k:Int) + 1:=by omega
    rw [e]
    exact hS ⟨1,p.skier,k,true⟩ (.inr (.inl ⟨rfl,a,b,by simp only;omega,by simp only;omega⟩)) (ih (by omega))
  have:=key p.mat.toNat (by omega)
  rw [nS c] at this
  exact this
 ·have e:(⟨-1,1 + (p.mat - 1)⟩:Pt)=p:=by rw [<- a,kV,nt]
  have:=hS ⟨2,0,p.mat - 1,true⟩ (.inr (.inr (.inl ⟨rfl,rfl,by simp only;omega,by simp only;omega⟩))) h
  rw [<- e];exact this
def turn (x:wAK):wAK:=⟨x.Kind,x.Skier,x.Index,!x.Up⟩
theorem wLI {x:wAK} (h:wDO r x):wDO r (turn x)/\(wCm r (turn x)).1=(wCm r x).2.1/\(wCm r (turn x)).2.1=(wCm r x).1:=by
 refine ⟨h,?_⟩
 obtain ⟨k,s,i,u⟩:=x
 unfold wCm turn
 cases u <;> exact ⟨rfl,rfl⟩
structure IsDP (r:wAD) (a:Pt) (f:Pt->Int):Prop where
 ok:wDG r f
 zero:f a=0
 gr:∀ y,wDG r y->∀ p,wFW r p->y p - y a <= f p
theorem IsDP.one {a:Pt} {f g:Pt->Int} (F:IsDP r a f) (G:IsDP r a g) {p:Pt} (hp:wFW r p):f p=g p:=by
 have h1:=F.gr g G.ok p hp
 have h2:=G.gr f F.ok p hp
 have:=F.zero;have:=G.zero
 omega
theorem IsDP.near {a:Pt} {f:Pt->Int} (C:RC r) (F:IsDP r a f) (ha:wFW r a) {p:Pt} (hp:wFW r p):-6600000 <= f p/\f p <= 6600000:=by
 have h1:=wIN C F.ok ha
 have h2:=wIN C F.ok hp
 have:=F.zero
 omega
end
section
variable {r:wAD} {d:wAd} {pts:List Pt} (D:Desk r d pts)
include D
theorem Desk.pos_ok {p:Pt} (hp:wFW r p):pos pts p < pts.length/\gd pts (pos pts p)=p/\wAs d.number p 0=(pos pts p:Int):=by
 obtain ⟨h1,h2,h3,_⟩:=wFt D.nd ((D.all p).2 hp)
 exact ⟨h1,h2,by rw [D.num];exact h3⟩
theorem Desk.gd_ok {v:Nat} (hv:v < pts.length):wFW r (gd pts v)/\pos pts (gd pts v)=v:=⟨(D.all _).1 (wBn hv),(wHs D.nd hv).1⟩
theorem Desk.ed_is {x:wAK} (h:wDO r x) (p:Bool):ed p (mkE r pts x)=if p then ⟨pos pts (wCm r x).2.1,pos pts (wCm r x).1,(wCm r x).2.2⟩ else ⟨pos pts (wCm r x).1,pos pts (wCm r x).2.1,(wCm r x).2.2⟩:=by
 obtain ⟨o1,o2,_,_⟩:=wEo D.c h
 have h1:=(wFt D.nd ((D.all _).2 o1)).2.2.1
 have h2:=(wFt D.nd ((D.all _).2 o2)).2.2.1
 unfold ed mkE
 simp only [h1,h2,nH]
theorem Desk.mem {p:Bool} {e:Ed}:e ∈ d.edges.map (ed p) ↔ ∃ x,wDO r x/\e=ed p (mkE r pts x):=by
 rw [D.edges,kW]
 constructor
 ·intro h
  obtain ⟨x,hx,rfl⟩:=nW.1 h
  exact ⟨x,wDs.1 hx,rfl⟩
 ·rintro ⟨x,hx,rfl⟩
  exact nW.2 ⟨x,wDs.2 hx,rfl⟩
theorem Desk.edOK:∀ e ∈ d.edges,EdOK pts.length e:=by
 intro e he
 rw [D.edges] at he
 obtain ⟨x,hx,rfl⟩:=nW.1 he
 have h:=wDs.1 hx
 obtain ⟨o1,o2,c1,c2⟩:=wEo D.c h
 obtain ⟨h1,_,h2,_⟩:=wFt D.nd ((D.all _).2 o1)
 obtain ⟨g1,_,g2,_⟩:=wFt D.nd ((D.all _).2 o2)
 unfold mkE
 rw [h2,g2]
 exact ⟨by simp only;omega,by simp only;omega,by simp only;omega,by simp only;omega,c1,c2⟩
theorem Desk.elen:d.edges.length <= 1000:=by
 have:=wGt D.c
 rw [D.edges,nh]
 omega
theorem Desk.feas {y:Pt->Int} (F:wDG r y):wFc (d.edges.map (ed false)) fun v=>y (gd pts v):=by
 intro e he
 obtain ⟨x,hx,rfl⟩:=D.mem.1 he
 obtain ⟨o1,o2,_,_⟩:=wEo D.c hx
 rw [D.ed_is hx]
 simp only [nP,if_false]
 rw [(D.pos_ok o1).2.1,(D.pos_ok o2).2.1]
 exact F x hx
theorem Desk.back {z:Nat->Int} (F:wFc (d.edges.map (ed false)) z):wDG r fun p=>z (pos pts p):=by
 intro x hx
 have:=F _ (D.mem.2 ⟨x,hx,rfl⟩)
 rw [D.ed_is hx] at this
 simp only [nP,if_false] at this
 exact this
theorem Desk.backT {z:Nat->Int} (F:wFc (d.edges.map (ed true)) z):wDG r fun p=>-z (pos pts p):=by
 intro x hx
 have:=F _ (D.mem.2 ⟨x,hx,rfl⟩)
 rw [D.ed_is hx] at this
 simp only [if_true] at this
 simp only
 omega
theorem Desk.con (p:Bool):Con pts.length 6600000 (d.edges.map (ed p)):=by
 refine ⟨fun e he=>?_,fun z hz a b ha hb=>?_,fun S i hi hSi hS v hv=>?_⟩
 ·obtain ⟨x,hx,rfl⟩:=D.mem.1 he
  obtain ⟨o1,o2,_,_⟩:=wEo D.c hx
  have h1:=(D.pos_ok o1).1
  have h2:=(D.pos_ok o2).1
  rw [D.ed_is hx]
  split
  ·exact ⟨h2,h1⟩
  ·exact ⟨h1,h2⟩
 ·obtain ⟨pa,ea⟩:=D.gd_ok ha
  obtain ⟨pb,eb⟩:=D.gd_ok hb
  cases p with
  | false =>
   have h1:=wIN D.c (D.back hz) pa
   have h2:=wIN D.c (D.back hz) pb
   simp only [ea,eb] at h1 h2
   omega
  | true =>
   have h1:=wIN D.c (D.backT hz) pa
   have h2:=wIN D.c (D.backT hz) pb
   simp only [ea,eb] at h1 h2
   omega
 ·have hcl:∀ x,wDO r x->S (pos pts (wCm r x).1)->S (pos pts (wCm r x).2.1):=fun x hx h=>by
   cases p with
   | false =>
    have:=hS _ (D.mem.2 ⟨x,hx,rfl⟩)
    rw [D.ed_is hx] at this
    simp only [nP,if_false] at this
    exact this h
   | true =>
    obtain ⟨t1,t2,t3⟩:=wLI hx
    have:=hS _ (D.mem.2 ⟨_,t1,rfl⟩)
    rw [D.ed_is t1] at this
    simp only [if_true] at this
    rw [t2,t3] at this
    exact this h
  obtain ⟨pi,ei⟩:=D.gd_ok hi
  obtain ⟨pv,ev⟩:=D.gd_ok hv
  have:=of_zp (S:=fun q=>S (pos pts q)) hcl (to_zp (S:=fun q=>S (pos pts q)) hcl pi (by show S (pos pts (gd pts i));rw [ei];exact hSi)) pv
  have this:S (pos pts (gd pts v)):=this
  rwa [ev] at this
theorem Desk.cost (p:Bool):∀ e ∈ d.edges.map (ed p),e.c <= 400000:=by
 intro e he
 obtain ⟨x,hx,rfl⟩:=D.mem.1 he
 obtain ⟨_,_,_,c⟩:=wEo D.c hx
 rw [D.ed_is hx]
 split <;> exact c
theorem Desk.nlen:d.number.length=pts.length:=by rw [D.num,wGL]
theorem Desk.any:∃ f last ok,wAf d (-1) false=some (f,last,ok)/\f.far.length=pts.length/\f.by_.length=pts.length/\(ok=true ↔ ∃ y,wDG r y)/\(ok=true->wDG r fun p=>gd f.far (pos pts p))/\(ok=false->0 <= last/\last < pts.length):=by
 obtain ⟨f,last,ok,e,bl,fl,h1,h2⟩:=wGq D.nlen D.len.1 (by have:=D.len.2;omega) D.edOK D.elen (-1) false
 have hp:0 < pts.length:=D.len.1
 have t0:wFV (-1) 0=0:=by unfold wFV;rw [if_pos (.inl (by omega))]
 have feas:ok=true->wDG r fun p=>gd f.far (pos pts p):=fun h=>D.back ((h1 h).feas (D.con false) (D.cost false) hp t0)
 refine ⟨f,last,ok,e,fl,bl,⟨fun h=>⟨_,feas h⟩,fun ⟨y,hy⟩=>?_⟩,feas,fun h=>⟨(h2 h).1,(h2 h).2.1⟩⟩
 cases ok with
 | true=>rfl
 | false =>
  exfalso
  obtain ⟨δ,M⟩:=wIy (D.con false) (D.feas hy) hp t0 (fun v _=>(wKh (-1) v).1)
  exact (h2 rfl).2.2 δ M fun v hv=>by have:=M.hi (D.con false) hp t0 v hv;omega
theorem Desk.from_ (hy:∃ y,wDG r y) {a:Pt} (ha:wFW r a):∃ f last,wAf d (pos pts a:Int) false=some (f,last,true)/\f.far.length=pts.length/\IsDP r a fun p=>gd f.far (pos pts p):=by
 obtain ⟨f,last,ok,e,bl,fl,h1,h2⟩:=wGq D.nlen D.len.1 (by have:=D.len.2;omega) D.edOK D.elen (pos pts a:Int) false
 obtain ⟨hp,hg,_⟩:=D.pos_ok ha
 have t0:wFV (pos pts a:Int) (pos pts a)=0:=by unfold wFV;rw [if_pos (.inr rfl)]
 obtain ⟨y,hy⟩:=hy
 have hok:ok=true:=by
  cases ok with
  | true=>rfl
  | false =>
   exfalso
   obtain ⟨δ,M⟩:=wIy (D.con false) (D.feas hy) hp t0 (fun v _=>(wKh _ v).1)
   exact (h2 rfl).2.2 δ M fun v hv=>by have:=M.hi (D.con false) hp t0 v hv;omega
 subst hok
 have I:=(h1 rfl).isD (by omega) (D.con false) (D.cost false) hp
 refine ⟨f,last,e,fl,D.back I.ok,I.zero,fun z hz p hpt=>?_⟩
 have:=I.gr _ (D.feas hz) (pos pts p) (D.pos_ok hpt).1
 simp only [hg,(D.pos_ok hpt).2.1] at this
 exact this
end
end Go.Proofs.Ytkedcbligiebkaa
namespace Go.Proofs.Ytkedcbligiebkaa
open Go.KL Go.KL.Net
def inB (n lo hi:Int):Bool:=decide (lo <= n/\n <= hi)
theorem wHR (n lo hi:Int):wCE n lo hi=some (inB n lo hi):=by
 unfold wCE inB
 by_cases h:lo <= n
 ·rw [if_pos h];simp [h]
 ·rw [if_neg h];simp [h]
def wJw (s:wAA) (lo hi:Int):Bool:=decide (s.Lo <= s.Hi/\lo <= s.Lo/\s.Hi <= hi)
theorem wFu (s:wAA) (lo hi:Int):wBq s lo hi=some (wJw s lo hi):=by
 unfold wBq wJw
 by_cases h:s.Lo <= s.Hi
 ·by_cases h2:lo <= s.Lo
  ·rw [if_pos h,if_pos h2];simp [h,h2]
  ·rw [if_pos h,if_neg h2];simp [h2]
 ·rw [if_neg h];simp [h]
theorem wJH {l:List Int} {f:Int->Option Bool} {p:Int->Bool} (hf:∀ a ∈ l,f a=some (p a)) (hn:l.length <= 1000):wBi l f=some (l.all p):=by
 unfold wBi
 refine (wDw (R:=Bool) (p:=p) (z:=false) (K:=fun _=>some true) (fun a ha=>?_) (by omega)).trans ?_
 ·rw [hf a ha,hD];split <;> rfl
 ·split <;> simp_all
theorem wIO {l:List wAA} {f:wAA->Option Bool} {p:wAA->Bool} (hf:∀ a ∈ l,f a=some (p a)) (hn:l.length <= 1000):wBI l f=some (l.all p):=by
 unfold wBI
 refine (wDw (R:=Bool) (p:=p) (z:=false) (K:=fun _=>some true) (fun a ha=>?_) (by omega)).trans ?_
 ·rw [hf a ha,hD];split <;> rfl
 ·split <;> simp_all
theorem wHS {l:List wAF} {f:wAF->Option Bool} {p:wAF->Bool} (hf:∀ a ∈ l,f a=some (p a)) (hn:l.length <= 1000):wBE l f=some (l.all p):=by
 unfold wBE
 refine (wDw (R:=Bool) (p:=p) (z:=false) (K:=fun _=>some true) (fun a ha=>?_) (by omega)).trans ?_
 ·rw [hf a ha,hD];split <;> rfl
 ·split <;> simp_all
theorem wEW {l:List wAJ} {f:wAJ->Option Bool} {p:wAJ->Bool} (hf:∀ a ∈ l,f a=some (p a)) (hn:l.length <= 1000):wAm l f=some (l.all p):=by
 unfold wAm
 refine (wDw (R:=Bool) (p:=p) (z:=false) (K:=fun _=>some true) (fun a ha=>?_) (by omega)).trans ?_
 ·rw [hf a ha,hD];split <;> rfl
 ·split <;> simp_all
structure wEX (r:wAD):Prop where
 n:r.Starts.length <= 10
 m:r.Splits.length <= 9
 c:r.Clocks.length <= 6
 q:r.Readings.length <= 44
def stP (s:Int):Bool:=inB s 0 360000
def spP (s:wAA):Bool:=wJw s 0 360000
def ckP (c:wAF):Bool:=wJw c.Offset (-36000) 36000 && inB c.Error 0 600
def rtP (x:wAJ):Bool:=inB x.Time 0 360000
def ruP (r:wAD) (x:wAJ):Bool:=inB x.Skier 0 ((r.Starts.length:Int) - 1) && (inB x.Mat 0 r.Splits.length && inB x.Clock 0 ((r.Clocks.length:Int) - 1))
def wHT (r:wAD):Int :=
 if ¬ (1 <= r.Starts.length/\r.Starts.length <= 8) then 2 else if 7 < r.Splits.length then 2 else if 4 < r.Clocks.length then 2 else if 40 < r.Readings.length then 2
 else if r.Starts.all stP=true then (if r.Splits.all spP=true then (if r.Clocks.all ckP=true then (if r.Readings.all rtP=true then (if r.Readings.all (ruP r)=true then 0 else 1) else 3) else 3) else 3) else 3
theorem wJI {r:wAD} (h:wHT r=0):RC r:=by
 unfold wHT at h
 split at h
 ·omega
 ·split at h
  ·omega
  ·split at h
   ·omega
   ·split at h
    ·omega
    ·split at h
     ·split at h
      ·split at h
       ·split at h
        ·split at h
         ·rename_i a1 a2 a3 a4 h1 h2 h3 h4 h5
          rw [na] at h1 h2 h3 h4 h5
          refine ⟨by omega,by omega,by omega,by omega,fun s hs=>?_,fun s hs=>?_,fun s hs=>?_,fun s hs=>?_,fun s hs=>?_⟩
          ·have:=h1 s hs
           simp only [stP,inB,decide_eq_true_eq] at this
           exact this
          ·have:=h2 s hs
           simp only [spP,wJw,decide_eq_true_eq] at this
           exact this
          ·have:=h3 s hs
           simp only [ckP,wJw,inB,nR,decide_eq_true_eq] at this
           exact this
          ·have:=h4 s hs
           simp only [rtP,inB,decide_eq_true_eq] at this
           exact this
          ·have:=h5 s hs
           simp only [ruP,inB,nR,decide_eq_true_eq] at this
           omega
         ·omega
        ·omega
       ·omega
      ·omega
     ·omega
theorem wJJ {r:wAD} (S:wEX r) (s:wAW):wAq r s=some (inB s.Skier 0 ((r.Starts.length:Int) - 1) && inB s.Mat 0 r.Splits.length):=by
 have:=S.n
 unfold wAq
 rw [wAY (by omega) (by omega),wHR,hD,wHR,hD]
 cases inB s.Skier 0 ((r.Starts.length:Int) - 1)
 ·rw [if_neg (by simp)];rfl
 ·rw [if_pos rfl,Bool.true_and]
theorem wIP {r:wAD} (S:wEX r):wDB r=some (wHT r):=by
 have hn:=S.n;have hm:=S.m;have hc:=S.c;have hq:=S.q
 unfold wDB wHT
 rw [wHR,hD]
 by_cases c1:1 <= r.Starts.length/\r.Starts.length <= 8
 ·have e1:inB (r.Starts.length:Int) 1 8=true:=by unfold inB;rw [decide_eq_true_eq];omega
  rw [e1,if_pos rfl,if_neg (show ¬ ¬ (1 <= r.Starts.length/\r.Starts.length <= 8) from fun h=>h c1)]
  by_cases c2:7 < r.Splits.length
  ·rw [if_pos (show (7:Int) < (r.Splits.length:Int) by omega),if_pos c2]
  ·rw [if_neg (show ¬ (7:Int) < (r.Splits.length:Int) by omega),if_neg c2]
   by_cases c3:4 < r.Clocks.length
   ·rw [if_pos (show (4:Int) < (r.Clocks.length:Int) by omega),if_pos c3]
   ·rw [if_neg (show ¬ (4:Int) < (r.Clocks.length:Int) by omega),if_neg c3]
    by_cases c4:40 < r.Readings.length
    ·rw [if_pos (show (40:Int) < (r.Readings.length:Int) by omega),if_pos c4]
    ·rw [if_neg (show ¬ (40:Int) < (r.Readings.length:Int) by omega),if_neg c4]
     rw [wJH (p:=stP) (fun a _=>by unfold wBp;rw [wHR];rfl) (by omega),hD]
     rw [wIO (p:=spP) (fun a _=>by unfold wBr;rw [wFu];rfl) (by omega),hD]
     rw [wHS (p:=ckP) (fun a _=>by
      unfold wBs ckP
      rw [wFu,hD,wHR,hD]
      cases wJw a.Offset (-36000) 36000
      ·rw [if_neg (by simp)];rfl
      ·rw [if_pos rfl];rfl) (by omega),hD]
     rw [wEW (p:=rtP) (fun a _=>by unfold wBt;rw [wHR];rfl) (by omega),hD]
     rw [wEW (p:=ruP r) (fun a _=>by
      unfold wBu ruP
      rw [wJJ S,hD,wAY (by omega) (by omega),wHR,hD]
      simp only
      cases inB a.Skier 0 ((r.Starts.length:Int) - 1)
      ·rw [if_neg (by simp)];rfl
      ·cases inB a.Mat 0 (r.Splits.length:Int)
       ·rw [if_neg (by simp)];rfl
       ·simp) (by omega),hD]
     split
     ·split
      ·split
       ·split
        ·split <;> rfl
        ·rfl
       ·rfl
      ·rfl
     ·rfl
 ·have e1:inB (r.Starts.length:Int) 1 8=false:=by unfold inB;rw [decide_eq_false_iff_not];omega
  rw [e1,if_neg (by simp),if_pos c1]
end Go.Proofs.Ytkedcbligiebkaa
namespace Go.Proofs.Ytkedcbligiebkaa
open Go.KL Go.KL.Net
open Classical
def wHU (r:wAD) (s:wAW):Bool:=inB s.Skier 0 ((r.Starts.length:Int) - 1) && inB s.Mat 0 r.Splits.length
def pt (s:wAW):Pt:=⟨s.Skier,s.Mat⟩
theorem wJK {r:wAD} {s:wAW} (h:wHU r s=true):wFW r (pt s)/\0 <= s.Skier/\s.Skier < r.Starts.length/\0 <= s.Mat/\s.Mat <= r.Splits.length:=by
 simp only [wHU,inB,nR,decide_eq_true_eq] at h
 exact ⟨.inr (.inl ⟨h.1.1,by simp only [pt];omega,h.2.1,h.2.2⟩),h.1.1,by omega,h.2.1,h.2.2⟩
noncomputable def wEy (r:wAD) (l:List wAW):Int:=if wHT r=0 then (if l.all (wHU r)=true then (if ∃ y,wDG r y then 0 else 7) else 1) else wHT r
theorem err0 {r:wAD} {l:List wAW} (h:wEy r l=0):RC r/\wHT r=0/\l.all (wHU r)=true/\∃ y,wDG r y:=by
 unfold wEy at h
 split at h
 ·split at h
  ·split at h
   ·rename_i a b c
    exact ⟨wJI a,a,b,c⟩
   ·omega
  ·omega
 ·contradiction
theorem wHw {r:wAD} (S:wEX r):(wHT r ≠ 0/\wCV r=some (none,wHT r)) \/ (wHT r=0/\∃ d pts,wCV r=some (some d,0)/\Desk r d pts):=by
 unfold wCV
 rw [wIP S,hD]
 by_cases c:wHT r=0
 ·right
  obtain ⟨d,pts,e,D⟩:=wJG (wJI c)
  refine ⟨c,d,pts,?_,D⟩
  rw [if_pos c,e];rfl
 ·left
  exact ⟨c,if_neg c⟩
end Go.Proofs.Ytkedcbligiebkaa
namespace Go.Proofs.Ytkedcbligiebkaa
open Go.KL Go.KL.Net
open Classical
theorem wIQ {l:List wAW} {f:wAW->Option Bool} {p:wAW->Bool} (hf:∀ a ∈ l,f a=some (p a)) (hn:l.length <= 1000):wAt l f=some (l.all p):=by
 unfold wAt
 refine (wDw (R:=Bool) (p:=p) (z:=false) (K:=fun _=>some true) (fun a ha=>?_) (by omega)).trans ?_
 ·rw [hf a ha,hD];split <;> rfl
 ·split <;> simp_all
section
variable {r:wAD} {d:wAd} {pts:List Pt} (D:Desk r d pts)
include D
theorem Desk.holds:∃ b,wBj d=some b/\(b=true ↔ ∃ y,wDG r y):=by
 obtain ⟨f,last,ok,e,_,_,h,_⟩:=D.any
 refine ⟨ok,?_,h⟩
 unfold wBj
 rw [e];rfl
end
theorem wHx {r:wAD} (S:wEX r) {l:List wAW} (hl:l.length <= 10):∃ o,wCW r l=some (o,wEy r l)/\(wEy r l=0->∃ d pts,o=some d/\Desk r d pts)/\(wEy r l ≠ 0->o=none):=by
 unfold wCW
 rcases wHw S with ⟨c,e⟩ | ⟨c,d,pts,e,D⟩
 ·have ee:wEy r l=wHT r:=by unfold wEy;rw [if_neg c]
  refine ⟨none,?_,fun h=>absurd (ee ▸ h) c,fun _=>rfl⟩
  rw [e,hD,ee]
  simp only
  rw [if_neg c]
 ·rw [e,hD]
  simp only
  rw [if_pos trivial,wIQ (p:=wHU r) (fun s _=>wJJ S s) (by omega),hD]
  by_cases c2:l.all (wHU r)=true
  ·rw [if_pos c2]
   obtain ⟨b,e3,h3⟩:=D.holds
   rw [e3,hD]
   by_cases c3:∃ y,wDG r y
   ·have ee:wEy r l=0:=by unfold wEy;rw [if_pos c,if_pos c2,if_pos c3]
    rw [if_pos (h3.2 c3),ee]
    exact ⟨_,rfl,fun _=>⟨d,pts,rfl,D⟩,fun h=>absurd rfl h⟩
   ·have ee:wEy r l=7:=by unfold wEy;rw [if_pos c,if_pos c2,if_neg c3]
    rw [if_neg (fun h=>c3 (h3.1 h)),ee]
    exact ⟨_,rfl,fun h=>by omega,fun _=>rfl⟩
  ·have ee:wEy r l=1:=by unfold wEy;rw [if_pos c,if_neg c2]
   rw [if_neg c2,ee]
   exact ⟨_,rfl,fun h=>by omega,fun _=>rfl⟩
end Go.Proofs.Ytkedcbligiebkaa
namespace Go.Proofs.Ytkedcbligiebkaa
open Go.KL Go.KL.Net
open Classical
theorem wFv {S:Type} {body:Nat->S->Option S} {n:Nat} {s0:S} (I:Nat->S->Prop) (hn:n <= 1000) (h0:I 0 s0) (h:∀ i s,i < n->I i s->∃ s',body i s=some s'/\I (i + 1) s'):∃ s,wBd 0 (n:Int) body s0=some s/\I n s:=by
 rw [wCJ (by omega)]
 have:=wDC (body:=body) I n 0 s0 h0 fun i s _ h2 h3=>h i s (by omega) h3
 rwa [nZ] at this
theorem wLw (a:Arr Int 64) {i j:Nat} (hi:i < 64) (v:Int):(a.set i v).get j=if j=i then v else a.get j:=by
 unfold Arr.set Arr.get
 simp only [nO]
 by_cases e:j=i
 ·rw [if_pos e,e,List.getElem?_set_self (by rw [a.h];exact hi)]
  rfl
 ·rw [if_neg e,List.getElem?_set_ne (Ne.symm e)]
def ahK (G:Nat->Nat->Int) (i k:Nat):List Int:=((nB k).filter fun j=>decide (G i j < 0)).map fun (j:Nat)=>(j:Int)
def beK (G:Nat->Nat->Int) (i k:Nat):Nat:=(nB k).countP fun j=>decide (0 < G j i)
theorem wHy (G:Nat->Nat->Int) (i k:Nat):ahK G i (k + 1)=if G i k < 0 then ahK G i k ++ [(k:Int)] else ahK G i k:=by
 unfold ahK
 rw [kK,List.filter_append,nr]
 by_cases c:G i k < 0
 ·rw [if_pos c];simp [c]
 ·rw [if_neg c];simp [c]
theorem wHz (G:Nat->Nat->Int) (i k:Nat):beK G i (k + 1)=if 0 < G k i then beK G i k + 1 else beK G i k:=by
 unfold beK
 rw [kK,kl]
 by_cases c:0 < G k i
 ·rw [if_pos c];simp [c]
 ·rw [if_neg c];simp [c]
theorem wJL (G:Nat->Nat->Int) (i:Nat):∀ k,(ahK G i k).length <= k
 | 0=>by simp [ahK]
 | k + 1=>by
  have:=wJL G i k
  rw [wHy]
  split
  ·rw [hH,nG];omega
  ·omega
theorem wKj (G:Nat->Nat->Int) (i:Nat):∀ k,beK G i k <= k
 | 0=>by simp [beK]
 | k + 1=>by
  have:=wKj G i k
  rw [wHz]
  split <;> omega
def plL (n:Nat) (G:Nat->Nat->Int):List wAA:=(nB n).map fun i=>⟨1 + ((ahK G i n).length:Int),1 + (beK G i n:Int)⟩
theorem wJx {α:Type} [Inhabited α] {n k:Nat} (f:Nat->α) (h:k < n):gd ((nB n).map f) k=f k:=by
 rw [wDg (by simpa using h)]
 simp
section
variable {r:wAD} {d:wAd} {pts:List Pt} (D:Desk r d pts)
include D
theorem wHV (hy:∃ y,wDG r y) {m:Int} (m0:0 <= m) (m1:m <= r.Splits.length) {F:Nat->Pt->Int} (hF:∀ i,i < r.Starts.length->IsDP r ⟨(i:Int),m⟩ (F i)):∃ a,wBQ d m=some a/\∀ i j,i < r.Starts.length->j < r.Starts.length->a.get (i * 8 + j)=F i ⟨(j:Int),m⟩:=by
 have hn:=D.c.n
 have ok:∀ i,i < r.Starts.length->wFW r ⟨(i:Int),m⟩:=fun i hi=>.inr (.inl ⟨by simp only;omega,by simp only;omega,m0,m1⟩)
 unfold wBQ
 rw [D.race]
 obtain ⟨a,e,I⟩:=wFv (n:=r.Starts.length) (body:=fun k19 a18 =>
  (wAf d (wAs d.number (⟨(↑k19:Int),m⟩:wAB) 0) false).bind fun (x47,x48,x49) =>
  (wBd 0 (↑r.Starts.length:Int) (fun k79 a78 =>
   (chk (wAs d.number (⟨(↑k79:Int),m⟩:wAB) 0) x47.far.length).bind fun _ =>
   (chk (↑k19:Int) 8).bind fun _ =>
   (chk (↑k79:Int) 8).bind fun _ =>
   some (a78.set (k19 * 8 + k79) (gd x47.far (wAs d.number (⟨(↑k79:Int),m⟩:wAB) 0).toNat))) a18).bind fun y84 =>
  some y84) (s0:=(Arr.fill 64 0)) (fun k (a:Arr Int 64)=>∀ i j,i < k->j < r.Starts.length->a.get (i * 8 + j)=F i ⟨(j:Int),m⟩) (by omega) (fun i j h=>by omega) fun k a hk I=>by
  obtain ⟨f,last,e1,fl,Q⟩:=D.from_ hy (ok k hk)
  obtain ⟨b,e2,J⟩:=wFv (n:=r.Starts.length) (body:=fun k79 a78 =>
   (chk (wAs d.number (⟨(↑k79:Int),m⟩:wAB) 0) f.far.length).bind fun _ =>
   (chk (↑k:Int) 8).bind fun _ =>
   (chk (↑k79:Int) 8).bind fun _ =>
   some (a78.set (k * 8 + k79) (gd f.far (wAs d.number (⟨(↑k79:Int),m⟩:wAB) 0).toNat))) (s0:=a) (fun l (a:Arr Int 64)=>(∀ i j,i < k->j < r.Starts.length->a.get (i * 8 + j)=F i ⟨(j:Int),m⟩)/\∀ j,j < l->a.get (k * 8 + j)=F k ⟨(j:Int),m⟩) (by omega) ⟨I,fun j h=>by omega⟩ fun l a hl J=>by
   obtain ⟨h1,_,h3⟩:=D.pos_ok (ok l hl)
   refine ⟨a.set (k * 8 + l) (F k ⟨(l:Int),m⟩),?_,?_⟩
   ·rw [h3,wAz (by omega) (by omega),hD,wAz (by omega) (by omega),hD,wAz (by omega) (by omega),hD,nH,(hF k hk).one Q (ok l hl)]
   ·refine ⟨fun i j hi hj=>?_,fun j hj=>?_⟩
    ·rw [wLw _ (by omega),if_neg (by omega),J.1 i j hi hj]
    ·rw [wLw _ (by omega)]
     by_cases c:j=l
     ·subst c
      rw [if_pos rfl]
     ·rw [if_neg (by omega),J.2 j (by omega)]
  refine ⟨b,?_,fun i j hi hj=>?_⟩
  ·rw [(D.pos_ok (ok k hk)).2.2,e1,hD]
   simp only
   rw [e2];rfl
  ·by_cases c:i=k
   ·subst c;exact J.2 j hj
   ·exact J.1 i j (by omega) hj
 exact ⟨a,by rw [e];rfl,I⟩
end
theorem wJM {r:wAD} (S:wEX r) (m:Int):∃ o,wCg r m=some (o,wEy r [⟨0,m⟩])/\(wEy r [⟨0,m⟩]=0->∃ d pts,o=some d/\Desk r d pts)/\(wEy r [⟨0,m⟩] ≠ 0->o=none):=by
 obtain ⟨o,e,h⟩:=wHx S (l:=[⟨0,m⟩]) (by simp)
 refine ⟨o,?_,h⟩
 unfold wCg
 rw [e,hD]
 cases o <;> rfl
theorem wLx {r:wAD} {m:Int} (h:wEy r [⟨0,m⟩]=0):RC r/\0 <= m/\m <= r.Splits.length/\∃ y,wDG r y:=by
 obtain ⟨C,_,hs,hy⟩:=err0 h
 simp only [kD,km,kf] at hs
 have:=wJK hs
 exact ⟨C,this.2.2.2.1,this.2.2.2.2,hy⟩
theorem wJN {r:wAD} (S:wEX r) (m:Int):(wEy r [⟨0,m⟩] ≠ 0->wBm r m=some ([],wEy r [⟨0,m⟩]))/\(wEy r [⟨0,m⟩]=0->∀ F:Nat->Pt->Int,(∀ i,i < r.Starts.length->IsDP r ⟨(i:Int),m⟩ (F i))->wBm r m=some (plL r.Starts.length (fun i j=>F i ⟨(j:Int),m⟩),0)):=by
 unfold wBm
 obtain ⟨o,e,h0,h1⟩:=wJM S m
 rw [e,hD]
 simp only
 constructor
 ·intro c
  have ho:=h1 c
  subst ho
  simp only
  rw [if_neg c]
 ·intro c F hF
  obtain ⟨d,pts,rfl,D⟩:=h0 c
  obtain ⟨C,m0,m1,hy⟩:=wLx c
  obtain ⟨a,e1,ha⟩:=wHV D hy m0 m1 hF
  have hn:=C.n
  simp only
  rw [if_pos c,e1,hD,wDb (S:=List wAA) (n:=r.Starts.length) (fun k=>(plL r.Starts.length fun i j=>F i ⟨(j:Int),m⟩).take k) (s0:=[]) (by simp) (by omega) fun k hk=>?_]
  ·rw [hD,show (plL r.Starts.length fun i j=>F i ⟨(j:Int),m⟩).take r.Starts.length=plL r.Starts.length fun i j=>F i ⟨(j:Int),m⟩ from ni (by simp [plL])]
  ·rw [wDb (S:=Int × Int) (n:=r.Starts.length) (fun j=>(1 + ((ahK (fun i j=>F i ⟨(j:Int),m⟩) k j).length:Int),1 + (beK (fun i j=>F i ⟨(j:Int),m⟩) k j:Int))) (s0:=(1,1)) (by simp [ahK,beK]) (by omega) fun j hj=>?_]
   ·have pl:(plL r.Starts.length fun i j=>F i ⟨(j:Int),m⟩).length=r.Starts.length:=by simp [plL]
    rw [hD]
    simp only
    rw [wDr (by rw [nA];simp only [nD,nK];omega),hD,wCp (by rw [pl];exact hk)]
    unfold plL
    rw [wJx _ hk]
   ·have l1:=wJL (fun i j=>F i ⟨(j:Int),m⟩) k j
    have l2:=wKj (fun i j=>F i ⟨(j:Int),m⟩) k j
    simp only
    rw [wAz (by omega) (by omega),hD,wAz (by omega) (by omega),hD,ha k j hk hj,ha j k hj hk,wAY (by omega) (by omega),wAY (by omega) (by omega),wHy,wHz]
    by_cases c1:F k ⟨(j:Int),m⟩ < 0
    ·rw [if_pos c1,if_pos c1]
     by_cases c2:0 < F j ⟨(k:Int),m⟩
     ·rw [if_pos c2,if_pos c2,hH,nG]
      congr 2 <;> omega
     ·rw [if_neg c2,if_neg c2,hH,nG]
      congr 2
    ·rw [if_neg c1,if_neg c1]
     by_cases c2:0 < F j ⟨(k:Int),m⟩
     ·rw [if_pos c2,if_pos c2]
      congr 2
     ·rw [if_neg c2,if_neg c2]
end Go.Proofs.Ytkedcbligiebkaa
namespace Go.Proofs.Ytkedcbligiebkaa
open Go.KL Go.KL.Net
open Classical
theorem wIR {r:wAD} {d:wAd} {pts:List Pt} (D:Desk r d pts) (hy:∃ y,wDG r y) {a b:Pt} (ha:wFW r a) (hb:wFW r b) {f g:Pt->Int} (hf:IsDP r a f) (hg:IsDP r b g):wBJ d a b=some ⟨-g a,f b⟩:=by
 obtain ⟨f',l1,e1,n1,F'⟩:=D.from_ hy ha
 obtain ⟨g',l2,e2,n2,G'⟩:=D.from_ hy hb
 have f1:=F'.one hf hb
 have g1:=G'.one hg ha
 have gn:=hg.near D.c hb ha
 have pa:=D.pos_ok ha
 have pb:=D.pos_ok hb
 unfold wBJ
 rw [pa.2.2,pb.2.2,e1,hD]
 simp only
 rw [hD,e2,hD]
 simp only
 rw [hD]
 simp only
 rw [wAz (by omega) (by omega),hD,wAz (by omega) (by omega),hD,nH,nH,f1,g1,wAY (by omega) (by omega)]
theorem wJy {r:wAD} (S:wEX r) (s:wAW):(wEy r [s] ≠ 0->wCF r s=some (⟨0,0⟩,wEy r [s]))/\(wEy r [s]=0->∀ f g,IsDP r zp f->IsDP r (pt s) g->wCF r s=some (⟨-g zp,f (pt s)⟩,0)):=by
 unfold wCF
 obtain ⟨o,e,h0,h1⟩:=wHx S (l:=[s]) (by simp)
 rw [e,hD]
 simp only
 constructor
 ·intro c
  have ho:=h1 c
  subst ho
  simp only
  rw [if_neg c]
 ·intro c f g hf hg
  obtain ⟨d,pts,rfl,D⟩:=h0 c
  obtain ⟨C,_,hs,hy⟩:=err0 c
  simp only [kD,km,kf] at hs
  have hp:=(wJK (r:=r) (s:=s) hs).1
  simp only
  rw [if_pos c]
  unfold wBc wDo
  rw [hD,hD]
  show (wBJ d zp (pt s)).bind _=_
  rw [wIR D hy (.inl rfl) hp hf hg]
  rfl
theorem wKk {r:wAD} (S:wEX r) (c:wHT r=0) (hy:∃ y,wDG r y) {a:Pt} (ha:wFW r a):∃ f,IsDP r a f:=by
 rcases wHw S with ⟨c0,_⟩ | ⟨_,d,pts,_,D⟩
 ·exact absurd c c0
 ·obtain ⟨f,l,_,_,F⟩:=D.from_ hy ha
  exact ⟨_,F⟩
end Go.Proofs.Ytkedcbligiebkaa
namespace Go.Proofs.Ytkedcbligiebkaa
open Go.KL Go.KL.Net
open Classical
structure F4 (r:wAD) (y:Pt->Int):Prop where
 a:∀ s:Nat,s < r.Starts.length->y ⟨(s:Int),0⟩=y zp + gd r.Starts s
 b:∀ s k:Nat,s < r.Starts.length->k < r.Splits.length->(gd r.Splits k).Lo <= y ⟨(s:Int),(k:Int) + 1⟩ - y ⟨(s:Int),(k:Int)⟩/\y ⟨(s:Int),(k:Int) + 1⟩ - y ⟨(s:Int),(k:Int)⟩ <= (gd r.Splits k).Hi
 c:∀ k:Nat,k < r.Clocks.length->y ⟨-1,1 + (k:Int)⟩ <= y zp - (gd r.Clocks k).Offset.Lo/\y zp <= y ⟨-1,1 + (k:Int)⟩ + (gd r.Clocks k).Offset.Hi
 d:∀ x ∈ r.Readings,y ⟨x.Skier,x.Mat⟩ <= y ⟨-1,1 + x.Clock⟩ + (x.Time + (gd r.Clocks x.Clock.toNat).Error)/\y ⟨-1,1 + x.Clock⟩ <= y ⟨x.Skier,x.Mat⟩ + ((gd r.Clocks x.Clock.toNat).Error - x.Time)
theorem wIS {r:wAD} {y:Pt->Int}:wDG r y ↔ F4 r y:=by
 constructor
 ·intro F
  refine ⟨fun s hs=>?_,fun s k hs hk=>?_,fun k hk=>?_,fun x hx=>?_⟩
  ·have h:=fp0 F (s:=(s:Int)) (by omega) (by omega)
   rwa [nH] at h
  ·have h:=fp1 F (s:=(s:Int)) (k:=(k:Int)) (by omega) (by omega) (by omega) (by omega)
   rw [nH] at h
   omega
  ·have h:=fp2 F (k:=(k:Int)) (by omega) (by omega)
   rwa [nH] at h
  ·obtain ⟨k,hk,rfl⟩:=wGu hx
   have a:y ⟨(gd r.Readings k).Skier,(gd r.Readings k).Mat⟩ <= y ⟨-1,1 + (gd r.Readings k).Clock⟩ + ((gd r.Readings k).Time + (gd r.Clocks (gd r.Readings k).Clock.toNat).Error):=F ⟨3,0,(k:Int),true⟩ (.inr (.inr (.inr ⟨rfl,rfl,by simp only;omega,by simp only;omega⟩)))
   have b:y ⟨-1,1 + (gd r.Readings k).Clock⟩ <= y ⟨(gd r.Readings k).Skier,(gd r.Readings k).Mat⟩ + ((gd r.Clocks (gd r.Readings k).Clock.toNat).Error - (gd r.Readings k).Time):=F ⟨3,0,(k:Int),false⟩ (.inr (.inr (.inr ⟨rfl,rfl,by simp only;omega,by simp only;omega⟩)))
   exact ⟨a,b⟩
 ·rintro ⟨h1,h2,h3,h4⟩ x hx
  have key:y (wDK r x).2.1 <= y (wDK r x).1 + (wDK r x).2.2.1/\y (wDK r x).1 <= y (wDK r x).2.1 + (wDK r x).2.2.2:=by
   unfold wDK
   rcases hx with ⟨k,a,b,c⟩ | ⟨k,a,b,c,d⟩ | ⟨k,a,c,d⟩ | ⟨k,a,c,d⟩
   ·have h:=h1 x.Skier.toNat (by omega)
    rw [nS a] at h
    rw [if_pos k]
    simp only
    omega
   ·have h:=h2 x.Skier.toNat x.Index.toNat (by omega) (by omega)
    rw [nS a,nS c] at h
    rw [if_neg (by omega),if_pos k]
    simp only
    omega
   ·have h:=h3 x.Index.toNat (by omega)
    rw [nS c] at h
    rw [if_neg (by omega),if_neg (by omega),if_pos k]
    simp only
    omega
   ·have h:=h4 _ (wCN c d)
    rw [if_neg (by omega),if_neg (by omega),if_neg (by omega)]
    simp only
    omega
  unfold wCm
  split
  ·exact key.1
  ·exact key.2
end Go.Proofs.Ytkedcbligiebkaa
namespace Go.Proofs.Ytkedcbligiebkaa
open Go.KL Go.KL.Net
open Classical
def wEB (f:Nat->Int):Nat->Int
 | 0=>0
 | k + 1=>wEB f k + f k
theorem wLy {r:wAD} {y:Pt->Int} (F:wDG r y) {s:Nat} (hs:s < r.Starts.length):∀ k:Nat,k <= r.Splits.length->y zp + gd r.Starts s + wEB (fun j=>(gd r.Splits j).Lo) k <= y ⟨(s:Int),(k:Int)⟩/\y ⟨(s:Int),(k:Int)⟩ <= y zp + gd r.Starts s + wEB (fun j=>(gd r.Splits j).Hi) k
 | 0,_=>by
  have:=(wIS.1 F).a s hs
  rw [show ((0:Nat):Int)=0 from rfl,this]
  simp only [wEB]
  omega
 | k + 1,h=>by
  have a:=wLy F hs k (by omega)
  have b:=(wIS.1 F).b s k hs (by omega)
  rw [show ((k + 1:Nat):Int)=(k:Int) + 1 by omega]
  simp only [wEB]
  omega
end Go.Proofs.Ytkedcbligiebkaa
namespace Go.Proofs.Ytkedcbligiebkaa
open Go.KL Go.KL.Net
open Classical
theorem wHW {r:wAD} {i k:Nat} (hk:k < r.Starts.length) {m:Int} (m0:0 <= m) (m1:m <= r.Splits.length) {f g:Pt->Int} (hf:IsDP r zp f) (hg:IsDP r ⟨(i:Int),m⟩ g):g ⟨(k:Int),m⟩ <= f ⟨(k:Int),m⟩ + g zp:=by
 have:=hf.gr g hg.ok ⟨(k:Int),m⟩ (.inr (.inl ⟨by simp only;omega,by simp only;omega,m0,m1⟩))
 omega
theorem wIA {r:wAD} (h0:0 < r.Clocks.length) (hc:(gd r.Clocks 0).Offset.Lo=0/\(gd r.Clocks 0).Offset.Hi=0) (hr:∀ x ∈ r.Readings,x.Clock=0) {i k:Nat} (hk:k < r.Starts.length) (hne:k ≠ i) {m:Int} (m0:0 <= m) (m1:m <= r.Splits.length) {f g:Pt->Int} (hf:IsDP r zp f) (hg:IsDP r ⟨(i:Int),m⟩ g):g ⟨(k:Int),m⟩=f ⟨(k:Int),m⟩ + g zp:=by
 have le:=wHW (i:=i) hk m0 m1 hf hg
 have F4f:=wIS.1 hf.ok
 have F4g:=wIS.1 hg.ok
 have zf:=hf.zero
 have zg:=hg.zero
 have cf:=F4f.c 0 h0
 have cg:=F4g.c 0 h0
 rw [hc.1,hc.2,show ((0:Nat):Int)=0 from rfl] at cf cg
 have Z:wDG r (fun p=>if p.skier=(i:Int) then g p - g zp else f p):=by
  rw [wIS]
  have z0:(if (zp:Pt).skier=(i:Int) then g zp - g zp else f zp)=0:=by
   rw [if_neg (show ¬ (zp:Pt).skier=(i:Int) from fun h=>by have:(-1:Int)=(i:Int):=h;omega)];exact zf
  refine ⟨fun s hs=>?_,fun s q hs hq=>?_,fun q hq=>?_,fun x hx=>?_⟩
  ·have a:=F4f.a s hs
   have b:=F4g.a s hs
   simp only
   rw [z0]
   by_cases e:(s:Int)=(i:Int)
   ·rw [if_pos e];omega
   ·rw [if_neg e];omega
  ·have a:=F4f.b s q hs hq
   have b:=F4g.b s q hs hq
   simp only
   by_cases e:(s:Int)=(i:Int)
   ·rw [if_pos e,if_pos e];omega
   ·rw [if_neg e,if_neg e];omega
  ·have a:=F4f.c q hq
   simp only
   rw [z0,if_neg (show ¬ (-1:Int)=(i:Int) by omega)];omega
  ·have a:=F4f.d x hx
   have b:=F4g.d x hx
   have c:=hr x hx
   simp only
   rw [c] at a b ⊢
   rw [if_neg (show ¬ (-1:Int)=(i:Int) by omega)]
   by_cases e:x.Skier=(i:Int)
   ·rw [if_pos e];omega
   ·rw [if_neg e];omega
 have:=hg.gr _ Z ⟨(k:Int),m⟩ (.inr (.inl ⟨by simp only;omega,by simp only;omega,m0,m1⟩))
 simp only [if_true,show ¬ ((k:Int)=(i:Int)) by omega,if_false] at this
 omega
end Go.Proofs.Ytkedcbligiebkaa
namespace Go.Proofs.Ytkedcbligiebkaa
open Go.KL Go.KL.Net
open Classical
theorem wDc {S:Type} {body:Nat->S->Option S} {n:Nat} {s0:S} (I:Nat->S->Prop) (hn:n <= 1000) (h0:I 0 s0) (h:∀ i s,i < n->I i s->∃ s',body i s=some s'/\I (i + 1) s'):∃ s,wBd 0 (n:Int) body s0=some s/\I n s:=by
 rw [wCJ (by omega)]
 have:=wDC (body:=body) I n 0 s0 h0 fun i s _ h2 h3=>h i s (by omega) h3
 rwa [nZ] at this
theorem wFw {f g:Nat->Int}:∀ {m:Nat},(∀ k,k < m->f k=g k)->wEB f m=wEB g m
 | 0,_=>rfl
 | m + 1,h=>by rw [wEB,wEB,wFw fun k hk=>h k (by omega),h m (by omega)]
theorem wGM {α:Type} [Inhabited α] {l:List α} {k:Nat} (h:l.length=k) (x:α):gd (l ++ [x]) k=x:=by
 rw [<- h,wGJ]
theorem wGN {f:Nat->Int} {b:Int}:∀ {m:Nat},(∀ k,k < m->0 <= f k/\f k <= b)->0 <= wEB f m/\wEB f m <= b * (m:Int)
 | 0,_=>by simp only [wEB];omega
 | m + 1,h=>by
  have a:=wGN (m:=m) fun k hk=>h k (by omega)
  have c:=h m (by omega)
  have e:b * ((m + 1:Nat):Int)=b * (m:Int) + b:=by rw [Int.natCast_add,Int.mul_add];simp
  rw [wEB,e]
  omega
end Go.Proofs.Ytkedcbligiebkaa
namespace Go.Proofs.Ytkedcbligiebkaa
open Go.KL
theorem wJO (a b:List Int) (i:Nat):gd (a ++ b) i=if i < a.length then gd a i else gd b (i - a.length):=by
 unfold gd
 split
 ·rename_i h;rw [nO,nM h,<- nO]
 ·rename_i h;rw [nO,nV (by omega),<- nO]
theorem wCq {a b:Nat} (h:b <= a) (ha:a <= 1000000):w64 ((a:Int) - (b:Int))=((a - b:Nat):Int):=by rw [wAY (by omega) (by omega)];omega
theorem wDh {a b:Nat} (h:a + b <= 1000000):w64 ((a:Int) + (b:Int))=((a + b:Nat):Int):=by rw [wAY (by omega) (by omega)];omega
theorem wEp {a:Nat} (h:a <= 1000000):w64 ((a:Int) + 1)=((a + 1:Nat):Int):=by rw [wAY (by omega) (by omega)];omega
theorem wGO {a:Nat} (h:1 <= a) (h2:a <= 1000000):w64 ((a:Int) - 1)=((a - 1:Nat):Int):=by rw [wAY (by omega) (by omega)];omega
theorem wGv {l:List Int} {i j:Nat} (h:i=j):gd l i=gd l j:=by rw [h]
theorem wIT {l:List Int} {p q n:Nat} {c:(Int × Int)->Option Int} (h1:p + n <= q) (h2:q + n <= l.length) (hl:l.length <= 1000):∃ r,wAN l p q n c=some r/\r.length=l.length /\
  ∀ i,i < l.length->gd r i=if p <= i/\i < p + n then gd l (i - p + q) else if q <= i/\i < q + n then gd l (i - q + p) else gd l i:=by
 unfold wAN
 rw [wCJ (by omega)]
 obtain ⟨s,hs,I1,I2⟩:=wDC (body:=fun (k8:Nat) (l7:List Int) =>
  (chk (w64 ((q:Int) + (↑k8:Int))) l7.length).bind fun _ =>
  (chk (w64 ((p:Int) + (↑k8:Int))) l7.length).bind fun _ =>
  (chk (w64 ((q:Int) + (↑k8:Int))) (nJ l7 (w64 ((p:Int) + (↑k8:Int))).toNat (gd l7 (w64 ((q:Int) + (↑k8:Int))).toNat)).length).bind fun _ =>
  some (nJ (nJ l7 (w64 ((p:Int) + (↑k8:Int))).toNat (gd l7 (w64 ((q:Int) + (↑k8:Int))).toNat)) (w64 ((q:Int) + (↑k8:Int))).toNat (gd l7 (w64 ((p:Int) + (↑k8:Int))).toNat)))
  (fun k s=>s.length=l.length/\∀ i,i < l.length->gd s i=if p <= i/\i < p + k then gd l (i - p + q) else if q <= i/\i < q + k then gd l (i - q + p) else gd l i) n 0 l
  ⟨rfl,fun i hi=>by rw [if_neg (by omega),if_neg (by omega)]⟩ (fun k s _ hk ⟨J1,J2⟩=>by
   have hk:k < n:=by omega
   have e1:w64 ((q:Int) + (k:Int))=((q + k:Nat):Int):=wDh (by omega)
   have e2:w64 ((p:Int) + (k:Int))=((p + k:Nat):Int):=wDh (by omega)
   rw [e1,e2,wAz (by omega) (by omega),hD,wAz (by omega) (by omega),hD,wAz (by omega) (by rw [ng];omega),hD]
   simp only [nH]
   refine ⟨_,rfl,by simp [J1],fun i hi=>?_⟩
   rw [wGo (by rw [ng];omega) (by rw [ng];omega),wGo (by omega) (by omega),J2 (p + k) (by omega),J2 (q + k) (by omega),J2 i hi]
   rw [if_neg (show ¬ (p <= q + k/\q + k < p + k) by omega),if_neg (show ¬ (q <= q + k/\q + k < q + k) by omega),if_neg (show ¬ (p <= p + k/\p + k < p + k) by omega),if_neg (show ¬ (q <= p + k/\p + k < q + k) by omega)]
   by_cases c1:i=q + k
   ·subst c1
    rw [if_pos rfl,if_neg (by omega),if_pos (by omega)]
    exact wGv (by omega)
   ·rw [if_neg c1]
    by_cases c2:i=p + k
    ·subst c2
     rw [if_pos rfl,if_pos (by omega)]
     exact wGv (by omega)
    ·rw [if_neg c2]
     by_cases c3:p <= i/\i < p + k
     ·rw [if_pos c3,if_pos (by omega)]
     ·rw [if_neg c3,if_neg (show ¬ (p <= i/\i < p + (k + 1)) by omega)]
      by_cases c4:q <= i/\i < q + k
      ·rw [if_pos c4,if_pos (by omega)]
      ·rw [if_neg c4,if_neg (by omega)])
 rw [hs]
 rw [nZ] at I2
 exact ⟨s,rfl,I1,I2⟩
theorem wEK {P X M Y S:List Int} {c:(Int × Int)->Option Int} (h:X.length=Y.length) (hl:(P ++ X ++ M ++ Y ++ S).length <= 1000):wAN (P ++ X ++ M ++ Y ++ S) (P.length:Nat) ((P.length + X.length + M.length:Nat):Int) (X.length:Nat) c=some (P ++ Y ++ M ++ X ++ S):=by
 have hl':=hl
 simp only [hH] at hl
 obtain ⟨r,hr,h1,h2⟩:=wIT (l:=P ++ X ++ M ++ Y ++ S) (p:=P.length) (q:=P.length + X.length + M.length) (n:=X.length) (c:=c) (by omega) (by simp only [hH];omega) hl'
 rw [hr]
 refine congrArg some (wJA (by rw [h1];simp only [hH];omega) fun i hi=>?_)
 rw [h1] at hi
 rw [h2 i hi]
 simp only [hH] at hi
 simp only [wJO,hH]
 by_cases c1:i < P.length
 ·rw [if_neg (by omega),if_neg (by omega),if_pos (by omega),if_pos (by omega),if_pos (by omega),if_pos c1,if_pos (by omega),if_pos (by omega),if_pos (by omega),if_pos c1]
 ·by_cases c2:i < P.length + X.length
  ·rw [if_pos (by omega),if_pos (by omega),if_neg (by omega),if_pos (by omega),if_pos (by omega),if_pos (by omega),if_neg c1]
   exact wGv (by omega)
  ·rw [if_neg (show ¬ (P.length <= i/\i < P.length + X.length) by omega)]
   by_cases c3:i < P.length + X.length + M.length
   ·rw [if_neg (by omega),if_pos (by omega),if_pos (by omega),if_neg (by omega),if_pos (by omega),if_pos (by omega),if_neg (by omega)]
    exact wGv (by omega)
   ·by_cases c4:i < P.length + X.length + M.length + Y.length
    ·rw [if_pos (by omega),if_pos (by omega),if_pos (by omega),if_pos (by omega),if_neg (by omega),if_pos (by omega),if_neg (by omega)]
     exact wGv (by omega)
    ·rw [if_neg (by omega),if_neg (by omega),if_neg (by omega)]
     exact wGv (by omega)
theorem wJz {P X Y S:List Int} {c:(Int × Int)->Option Int} {m:Nat} (hm:P.length + X.length=m) (g:Y.length < X.length) (hl:(P ++ X ++ Y ++ S).length <= 1000) :
  wAN (P ++ X ++ Y ++ S) (w64 ((m:Int) - (X.length:Nat))) (m:Nat) (Y.length:Nat) c=some (P ++ Y ++ X.drop Y.length ++ X.take Y.length ++ S):=by
 have hx1:(X.take Y.length).length=Y.length:=by rw [nA];omega
 have hx2:(X.drop Y.length).length=X.length - Y.length:=by rw [nL]
 have e3:P ++ X.take Y.length ++ X.drop Y.length ++ Y ++ S=P ++ X ++ Y ++ S:=by rw [hJ P,nE]
 have hsw:=wEK (P:=P) (X:=X.take Y.length) (M:=X.drop Y.length) (Y:=Y) (S:=S) (c:=c) hx1 (by rw [e3];exact hl)
 have hl2:=hl
 simp only [hH] at hl2
 rw [hx1,hx2,e3,show P.length + Y.length + (X.length - Y.length)=m by omega] at hsw
 rw [wCq (by omega) (by omega),show m - X.length=P.length by omega]
 exact hsw
theorem wJP {P X Y S:List Int} {c:(Int × Int)->Option Int} {m:Nat} (hm:P.length + X.length=m) (g:X.length < Y.length) (hl:(P ++ X ++ Y ++ S).length <= 1000) :
  wAN (P ++ X ++ Y ++ S) (w64 ((m:Int) - (X.length:Nat))) (w64 ((w64 ((m:Int) + (Y.length:Nat))) - (X.length:Nat))) (X.length:Nat) c=some (P ++ Y.drop (Y.length - X.length) ++ Y.take (Y.length - X.length) ++ X ++ S):=by
 have hy1:(Y.drop (Y.length - X.length)).length=X.length:=by rw [nL];omega
 have hy2:(Y.take (Y.length - X.length)).length=Y.length - X.length:=by rw [nA];omega
 have e3:P ++ X ++ Y.take (Y.length - X.length) ++ Y.drop (Y.length - X.length) ++ S=P ++ X ++ Y ++ S:=by rw [hJ (P ++ X),nE]
 have hsw:=wEK (P:=P) (X:=X) (M:=Y.take (Y.length - X.length)) (Y:=Y.drop (Y.length - X.length)) (S:=S) (c:=c) hy1.symm (by rw [e3];exact hl)
 have hl2:=hl
 simp only [hH] at hl2
 rw [hy2,e3,show P.length + X.length + (Y.length - X.length)=m + Y.length - X.length by omega] at hsw
 rw [wDh (by omega),wCq (by omega) (by omega),wCq (by omega) (by omega),show m - X.length=P.length by omega]
 exact hsw
theorem wLJ {P X Y S:List Int} {c:(Int × Int)->Option Int} {m:Nat} (hm:P.length + X.length=m) (g:X.length=Y.length) (hl:(P ++ X ++ Y ++ S).length <= 1000) :
  wAN (P ++ X ++ Y ++ S) (w64 ((m:Int) - (X.length:Nat))) (m:Nat) (X.length:Nat) c=some (P ++ Y ++ X ++ S):=by
 have hsw:=wEK (P:=P) (X:=X) (M:=[]) (Y:=Y) (S:=S) (c:=c) g (by simpa using hl)
 have hl2:=hl
 simp only [hH] at hl2
 rw [kJ,kJ,nK,Nat.add_zero,hm] at hsw
 rw [wCq (by omega) (by omega),show m - X.length=P.length by omega]
 exact hsw
def RotI (m:Nat) (G:List Int) (s:List Int × Int × Int) (n:Nat):Prop:=∃ P X Y S:List Int,s=(P ++ X ++ Y ++ S,((X.length:Nat):Int),((Y.length:Nat):Int))/\0 < X.length/\0 < Y.length/\P.length + X.length=m/\(P ++ X ++ Y ++ S).length <= 1000/\P ++ Y ++ X ++ S=G/\X.length + Y.length <= n
theorem wKA {m:Nat} {G:List Int} {c:(Int × Int)->Option Int} {l:List Int} {x y:Int} {n:Nat} (h:RotI m G (l,x,y) n) (hne:x ≠ y):0 < n/\∃ s',(if y < x then
        (wAN l (w64 ((m:Int) - x)) (m:Int) y c).bind fun x46 =>
        some (Sum.inl (β:=List Int × Int) (x46,w64 (x - y),y))
      else
        (wAN l (w64 ((m:Int) - x)) (w64 ((w64 ((m:Int) + y)) - x)) x c).bind fun x62 =>
        some (.inl (x62,x,w64 (y - x))))=some (.inl s')/\RotI m G s' (n - 1):=by
  obtain ⟨P,X,Y,S,e,i1,i2,i3,i4,i5,i6⟩:=h
  injection e with e1 e2
  injection e2 with e2 e3
  subst e1 e2 e3
  have hl:=i4
  simp only [hH] at hl
  refine ⟨by omega,?_⟩
  by_cases g:Y.length < X.length
  · rw [if_pos (by omega),wJz i3 g i4,hD,wCq (by omega) (by omega)]
    have hx1:(X.take Y.length).length=Y.length:=by rw [nA];omega
    have hx2:(X.drop Y.length).length=X.length - Y.length:=by rw [nL]
    refine ⟨_,rfl,P ++ Y,X.drop Y.length,X.take Y.length,S,by rw [hx1,hx2],by omega,by omega,by rw [hH];omega,by simp only [hH];omega,?_,by omega⟩
    rw [hJ (P ++ Y) (X.take _),nE,i5]
  · have g2:X.length < Y.length:=by
      rcases Nat.lt_trichotomy X.length Y.length with h | h | h
      · exact h
      · exact absurd (by rw [h]) hne
      · exact absurd h g
    rw [if_neg (by omega),wJP i3 g2 i4,hD,wCq (by omega) (by omega)]
    have hy1:(Y.drop (Y.length - X.length)).length=X.length:=by rw [nL];omega
    have hy2:(Y.take (Y.length - X.length)).length=Y.length - X.length:=by rw [nA];omega
    refine ⟨_,rfl,P,Y.drop (Y.length - X.length),Y.take (Y.length - X.length),X ++ S,by rw [hy1,hy2,hJ _ X S],by omega,by omega,by omega,by simp only [hH];omega,?_,by omega⟩
    rw [hJ P,nE,<- hJ,i5]
theorem wJQ {A X Y B:List Int} {c:(Int × Int)->Option Int} {a m b:Nat} (ha:A.length=a) (hm:A.length + X.length=m) (hb:A.length + X.length + Y.length=b) (hX:0 < X.length) (hY:0 < Y.length) (hl:(A ++ X ++ Y ++ B).length <= 1000):wAe (A ++ X ++ Y ++ B) (a:Int) (m:Int) (b:Int) c=some (A ++ Y ++ X ++ B):=by
 unfold wAe
 have hl2:=hl
 simp only [hH] at hl2
 rw [wCq (by omega) (by omega),wCq (by omega) (by omega),show m - a=X.length by omega,show b - m=Y.length by omega]
 obtain ⟨r,h1,P,X',Y',S,rfl,h2,h3,h4,h5⟩:=wDT (body:=fun (l16,x17,x18) =>
  if x17=x18 then
   esc (some (l16,x17))
  else
   if x18 < x17 then
    (wAN l16 (w64 ((m:Int) - x17)) (m:Int) x18 c).bind fun x46 =>
    some (.inl (x46,w64 (x17 - x18),x18))
   else
    (wAN l16 (w64 ((m:Int) - x17)) (w64 ((w64 ((m:Int) + x18)) - x17)) x17 c).bind fun x62 =>
    some (.inl (x62,x17,w64 (x18 - x17))))
  (fun n s=>RotI m (A ++ Y ++ X ++ B) s (X.length + Y.length - n)) (fun r=>∃ P X' Y' S:List Int,r=(P ++ X' ++ Y' ++ S,((X'.length:Nat):Int))/\X'.length=Y'.length/\P.length + X'.length=m/\(P ++ X' ++ Y' ++ S).length <= 1000/\P ++ Y' ++ X' ++ S=A ++ Y ++ X ++ B) (X.length + Y.length)
  (fun n s hn h=>by
   obtain ⟨l,x,y⟩:=s
   simp only
   by_cases e:x=y
   ·right
    rw [if_pos e]
    obtain ⟨P,X',Y',S,e',i1,i2,i3,i4,i5,i6⟩:=h
    injection e' with e1 e2
    injection e2 with e2 e3
    subst e1 e2 e3
    exact ⟨_,rfl,P,X',Y',S,rfl,by omega,i3,i4,i5⟩
   ·left
    rw [if_neg e]
    obtain ⟨h1,s',h2,h3⟩:=wKA (c:=c) h e
    exact ⟨by omega,s',h2,by rw [show X.length + Y.length - (n + 1)=X.length + Y.length - n - 1 by omega];exact h3⟩)
  (s0:=(A ++ X ++ Y ++ B,((X.length:Nat):Int),((Y.length:Nat):Int))) ⟨A,X,Y,B,rfl,hX,hY,hm,hl,rfl,by omega⟩ (by omega)
 rw [h1,hD]
 simp only
 rw [wLJ h3 h2 h4,hD,h5]
theorem wFY {body:Int × Int->Option ((Int × Int) ⊕ Int)} (q:Nat->Bool) {lo hi:Nat} (hle:lo <= hi) (hh:hi <= 1000) (mono:∀ i j,lo <= i->i <= j->j < hi->q j=true->q i=true)
  (hb:∀ i j:Nat,lo <= i->i < j->j <= hi->body ((i:Int),(j:Int))=some (.inl (if q ((i + j) / 2)=true then ((((i + j) / 2 + 1:Nat):Int),(j:Int)) else ((i:Int),(((i + j) / 2:Nat):Int)))))
  (he:∀ i:Nat,lo <= i->i <= hi->body ((i:Int),(i:Int))=some (.inr (i:Int))) :
  ∃ k:Nat,lo <= k/\k <= hi/\iter body big ((lo:Int),(hi:Int))=some (k:Int)/\(∀ i,lo <= i->i < k->q i=true)/\(∀ i,k <= i->i < hi->q i=false):=by
 obtain ⟨b,h1,k,rfl,h2⟩:=wDT (body:=body) (fun n s=>∃ i j:Nat,s=((i:Int),(j:Int))/\lo <= i/\i <= j/\j <= hi/\j - i + n <= hi - lo/\(∀ t,lo <= t->t < i->q t=true)/\(∀ t,j <= t->t < hi->q t=false))
  (fun b=>∃ k:Nat,b=(k:Int)/\lo <= k/\k <= hi/\(∀ t,lo <= t->t < k->q t=true)/\(∀ t,k <= t->t < hi->q t=false)) (hi - lo) (fun n s hn ⟨i,j,hs,i1,i2,i3,i4,i5,i6⟩=>by
   subst hs
   rcases kj i j with c | c
   ·left
    refine ⟨by omega,_,hb i j i1 c i3,?_⟩
    by_cases g:q ((i + j) / 2)=true
    ·rw [if_pos g]
     refine ⟨(i + j) / 2 + 1,j,rfl,by omega,by omega,i3,by omega,fun t h1 h2=>?_,i6⟩
     exact mono t ((i + j) / 2) h1 (by omega) (by omega) g
    ·rw [if_neg g]
     refine ⟨i,(i + j) / 2,rfl,i1,by omega,by omega,by omega,i5,fun t h1 h2=>?_⟩
     cases hq:q t with
     | false=>rfl
     | true=>exact absurd (mono _ t (by omega) h1 h2 hq) g
   ·right
    have:i=j:=by omega
    subst this
    exact ⟨_,he i i1 i3,i,rfl,i1,i3,i5,i6⟩) (s0:=((lo:Int),(hi:Int))) ⟨lo,hi,rfl,nI _,hle,nI _,by omega,fun t h1 h2=>by omega,fun t h1 h2=>by omega⟩ (by omega)
 exact ⟨k,h2.1,h2.2.1,h1,h2.2.2⟩
end Go.Proofs.Ytkedcbligiebkaa
namespace Go.Proofs.Ytkedcbligiebkaa
open Go.KL
def Lr (K:Int->Int) (a b:Int):Prop:=K a < K b \/ (K a=K b/\a < b)
theorem Lr.le {K:Int->Int} {a b:Int} (h:Lr K a b):K a <= K b:=by unfold Lr at h;omega
theorem Lr.of {K:Int->Int} {a b:Int} (h:K a <= K b) (h2:a < b):Lr K a b:=by unfold Lr;omega
def ByK (K:Int->Int) (n:Int) (c:(Int × Int)->Option Int):Prop:=∀ a b,0 <= a->a < n->0 <= b->b < n->∃ x,c (a,b)=some x/\(x < 0 ↔ K a < K b)
def In (n:Int) (l:List Int):Prop:=∀ x ∈ l,0 <= x/\x < n
theorem wGP (P T:List Int) (z x:Int):gd (P ++ z :: x :: T) P.length=z/\gd (P ++ z :: x :: T) (P.length + 1)=x/\nJ (nJ (P ++ z :: x :: T) (P.length + 1) z) P.length x=P ++ x :: z :: T/\nJ (nJ (P ++ z :: x :: T) P.length x) (P.length + 1) z=P ++ x :: z :: T:=by
 refine ⟨wGJ _ _ _,?_,?_,?_⟩
 ·have:=wGJ (P ++ [z]) T x
  simpa using this
 ·rw [nu _ _ (by omega),show P.length + 1 - P.length=1 by omega,nu _ _ (by omega),kU]
  rfl
 ·rw [nu _ _ (by omega),kU,nu _ _ (by omega),show P.length + 1 - P.length=1 by omega]
  rfl
def wLz (p1:Int) (c:(Int × Int)->Option Int) (x9:Int) (s:List Int × Int):Option ((List Int × Int) ⊕ ((List Int × Int) ⊕ List Int)):=match s with
  | (l34,x35) =>
        if p1 < x35 then
          (chk x35 l34.length).bind fun _ =>
          (chk (w64 (x35 - 1)) l34.length).bind fun _ =>
          (c ((gd l34 x35.toNat),(gd l34 (w64 (x35 - 1)).toNat))).bind fun x65 =>
          if x65 < 0 then
            (chk (w64 (x35 - 1)) (nJ l34 x35.toNat (gd l34 (w64 (x35 - 1)).toNat)).length).bind fun _ =>
            some (.inl ((nJ (nJ l34 x35.toNat (gd l34 (w64 (x35 - 1)).toNat)) (w64 (x35 - 1)).toNat (gd l34 x35.toNat)),w64 (x35 - 1)))
          else
            esc (some (.inl (l34,w64 (x9 + 1))))
        else
          esc (some (.inl (l34,w64 (x9 + 1))))
theorem wIU (p0:List Int) (p1 p2:Int) (c:(Int × Int)->Option Int):wAS p0 p1 p2 c=iter (fun (l8,x9)=>if x9 < p2 then iter (wLz p1 c x9) big (l8,x9) else esc (some l8)) big (p0,w64 (p1 + 1)):=rfl
theorem wKB {K:Int->Int} {n:Int} {c:(Int × Int)->Option Int} (hc:ByK K n c) {A Z S:List Int} {x:Int} {x9:Int} (hx:0 <= x/\x < n) (hZ:In n Z) (hlt:∀ z ∈ Z,z < x) (ho:Z.Pairwise (Lr K)) (hl:(A ++ Z ++ x :: S).length <= 1000) :
  ∃ Z',iter (wLz (A.length:Nat) c x9) big (A ++ Z ++ x :: S,((A.length + Z.length:Nat):Int))=some (.inl (A ++ Z' ++ S,w64 (x9 + 1)))/\Z'.Perm (Z ++ [x])/\Z'.Pairwise (Lr K):=by
 simp only [hH,nD] at hl
 obtain ⟨b,h1,Z1,Z2,rfl,hb,h2,h3⟩:=wDT (body:=wLz (A.length:Nat) c x9) (fun k s=>∃ Z1 Z2,Z=Z1 ++ Z2/\s=(A ++ Z1 ++ x :: (Z2 ++ S),((A.length + Z1.length:Nat):Int))/\(∀ z ∈ Z2,K x < K z)/\Z2.length=k)
  (fun b=>∃ Z1 Z2,Z=Z1 ++ Z2/\b=.inl (A ++ Z1 ++ x :: (Z2 ++ S),w64 (x9 + 1))/\(∀ z ∈ Z2,K x < K z)/\(∀ z ∈ Z1,K z <= K x)) Z.length
  (fun k s hk ⟨Z1,Z2,e,hs,g1,g2⟩=>by
   subst hs
   have el:Z.length=Z1.length + Z2.length:=by rw [e,hH]
   unfold wLz
   simp only
   rcases List.eq_nil_or_concat Z1 with h | ⟨Y,z,h⟩
   ·subst h
    right
    rw [if_neg (by simp)]
    exact ⟨_,rfl,[],Z2,e,rfl,g1,fun z hz=>by simp at hz⟩
   ·rw [List.concat_eq_append] at h
    subst h
    have e1:A ++ (Y ++ [z]) ++ x :: (Z2 ++ S)=(A ++ Y) ++ z :: x :: (Z2 ++ S):=by simp
    have e2:((A.length + (Y ++ [z]).length:Nat):Int)=(((A ++ Y).length + 1:Nat):Int):=by simp only [hH,nG];omega
    obtain ⟨s1,s2,s3,_⟩:=wGP (A ++ Y) (Z2 ++ S) z x
    have hll:(A ++ Y ++ z :: x :: (Z2 ++ S)).length=A.length + Y.length + 2 + Z2.length + S.length:=by simp only [hH,nD];omega
    have el2:Z.length=Y.length + 1 + Z2.length:=by rw [el];simp
    have hY:(A ++ Y).length=A.length + Y.length:=hH
    have hz:z ∈ Z:=by rw [e];simp
    rw [e1,e2,if_pos (by omega),wAz (by omega) (by omega),hD,wGO (by omega) (by omega),wAz (by omega) (by omega),hD]
    simp only [nH,kn,s1,s2]
    obtain ⟨v,hv,hv2⟩:=hc x z hx.1 hx.2 (hZ z hz).1 (hZ z hz).2
    rw [hv,hD]
    by_cases g:K x < K z
    ·left
     rw [if_pos (hv2.2 g),wAz (by omega) (by rw [ng];omega),hD,s3]
     refine ⟨by omega,_,rfl,Y,z :: Z2,by rw [e];simp,by simp,fun y hy=>?_,by simp;omega⟩
     rcases nb.1 hy with rfl | hy
     ·exact g
     ·exact g1 y hy
    ·right
     rw [if_neg (fun h=>g (hv2.1 h))]
     refine ⟨_,rfl,Y ++ [z],Z2,e,by simp,g1,fun y hy=>?_⟩
     rcases nX.1 hy with hy | hy
     ·have pw:=ho
      rw [e,hJ] at pw
      have:=(nQ.1 pw).2.2 y hy z (by simp)
      have:=this.le
      omega
     ·rw [nU.1 hy];omega) (s0:=(A ++ Z ++ x :: S,((A.length + Z.length:Nat):Int))) ⟨Z,[],by simp,by simp,fun z hz=>by simp at hz,rfl⟩ (by omega)
 subst hb
 refine ⟨Z1 ++ x :: Z2,by rw [h1];simp,?_,?_⟩
 ·simp only [hJ]
  exact kd _ (kO x Z2).symm
 ·rw [nQ] at ho ⊢
  rw [nz]
  have hlt1:∀ z ∈ Z1,z < x:=fun z hz=>hlt z (nn _ hz)
  refine ⟨ho.1,⟨fun z hz=>.inl (h2 z hz),ho.2.1⟩,fun a ha b hb=>?_⟩
  rcases nb.1 hb with rfl | hb
  ·exact Lr.of (h3 a ha) (hlt1 a ha)
  ·exact ho.2.2 a ha b hb
theorem wGw {K:Int->Int} {n:Int} {c:(Int × Int)->Option Int} (hc:ByK K n c) {A X B:List Int} (hX:In n X) (hlt:X.Pairwise (· < ·)) (hl:(A ++ X ++ B).length <= 1000) {a b:Nat} (ha:A.length=a) (hb:A.length + X.length=b) :
  ∃ Z,wAS (A ++ X ++ B) (a:Int) (b:Int) c=some (A ++ Z ++ B)/\Z.Perm X/\Z.Pairwise (Lr K):=by
 rw [wIU]
 simp only [hH] at hl
 subst ha
 rw [wEp (by omega)]
 cases X with
 | nil =>
  refine ⟨[],?_,kv _,ku⟩
  simp only [nK] at hb
  refine wHO (m:=0) (fun _=>(A ++ [] ++ B,((A.length + 1:Nat):Int))) (fun i hi=>by omega) ?_ rfl (by omega)
  simp only
  rw [if_neg (by omega)]
  rfl
 | cons x0 X =>
  simp only [nD] at hl hb
  obtain ⟨r,h1,Z,rfl,h2,h3⟩:=wDT (body:=fun (l8,x9)=>if x9 < (b:Int) then iter (wLz (A.length:Nat) c x9) big (l8,x9) else esc (some l8))
   (fun k s=>∃ Z,s=(A ++ Z ++ (X.drop k ++ B),((A.length + (k + 1):Nat):Int))/\Z.Perm (x0 :: X.take k)/\Z.Pairwise (Lr K)/\k <= X.length) (fun r=>∃ Z,r=A ++ Z ++ B/\Z.Perm (x0 :: X)/\Z.Pairwise (Lr K)) X.length
   (fun k s hk ⟨Z,hs,g1,g2,g3⟩=>by
    subst hs
    simp only
    have hZl:Z.length=k + 1:=by rw [g1.length_eq];simp;omega
    by_cases e:k=X.length
    ·right
     rw [if_neg (by omega)]
     refine ⟨_,rfl,Z,?_,?_,g2⟩
     ·rw [e,List.drop_length];rfl
     ·rwa [e,nq] at g1
    ·left
     have hk':k < X.length:=by omega
     rw [if_pos (by omega)]
     have hsub:∀ z ∈ Z,z ∈ x0 :: X:=fun z hz=>by
      have:=g1.mem_iff.1 hz
      rcases nb.1 this with h | h
      ·rw [h];simp
      ·exact kL _ (kI h)
     have hlast:∀ z ∈ Z,z < gd X k:=fun z hz=>by
      have pw:=nz.1 hlt
      rcases nb.1 (g1.mem_iff.1 hz) with h | h
      ·rw [h];exact pw.1 _ (wBn hk')
      ·have pw2:=pw.2
       rw [<- nE k X,wFU hk'] at pw2
       exact (nQ.1 pw2).2.2 z h _ (by simp)
     obtain ⟨Z',i1,i2,i3⟩:=wKB hc (A:=A) (Z:=Z) (S:=X.drop (k + 1) ++ B) (x:=gd X k) (x9:=((A.length + (k + 1):Nat):Int)) (hX _ (kL _ (wBn hk'))) (fun z hz=>hX z (hsub z hz)) hlast g2 (by simp only [hH,nD,nL];omega)
     refine ⟨by omega,?_⟩
     rw [wFU hk',kE]
     rw [hZl] at i1
     refine ⟨_,i1,Z',by rw [wEp (by omega)];rfl,?_,i3,by omega⟩
     rw [wCp hk']
     exact i2.trans (by simpa using g1.append_right [gd X k]))
   (s0:=(A ++ x0 :: X ++ B,((A.length + 1:Nat):Int))) ⟨[x0],by simp,by simp,by simp,by omega⟩ (by omega)
  exact ⟨Z,by rw [h1],h2,h3⟩
end Go.Proofs.Ytkedcbligiebkaa
namespace Go.Proofs.Ytkedcbligiebkaa
open Go.KL
theorem wGQ {i j:Nat} (h:i + j <= 1000000):w64 ((wAc (w64 ((i:Int) + (j:Int)))) / 2)=(((i + j) / 2:Nat):Int):=by
 rw [wDh h]
 have e:wAc ((i + j:Nat):Int)=((i + j:Nat):Int):=by unfold wAc;omega
 rw [e,wAY (by omega) (by omega)]
 omega
def sm1 (p0:List Int) (p1 p2 p3:Int) (p4:(Int × Int)->Option Int):Option (List Int) :=
  (iter (fun (x14,x15) =>
   if x14 < x15 then
    (chk (w64 ((wAc (w64 (x14 + x15))) / 2)) p0.length).bind fun _ =>
    (chk p1 p0.length).bind fun _ =>
    (p4 ((gd p0 (w64 ((wAc (w64 (x14 + x15))) / 2)).toNat),(gd p0 p1.toNat))).bind fun x43 =>
    if x43 < 0 then
     some (.inl (w64 ((w64 ((wAc (w64 (x14 + x15))) / 2)) + 1),x15))
    else
     some (.inl (x14,w64 ((wAc (w64 (x14 + x15))) / 2)))
   else
    esc (some x14)) big (p2,p3)).bind fun x4 =>
  iter (fun (l80,x81) =>
   if x81 < (w64 (x4 - 1)) then
    (chk (w64 (x81 + 1)) l80.length).bind fun _ =>
    (chk x81 l80.length).bind fun _ =>
    (chk (w64 (x81 + 1)) (nJ l80 x81.toNat (gd l80 (w64 (x81 + 1)).toNat)).length).bind fun _ =>
    some (.inl ((nJ (nJ l80 x81.toNat (gd l80 (w64 (x81 + 1)).toNat)) (w64 (x81 + 1)).toNat (gd l80 x81.toNat)),w64 (x81 + 1)))
   else
    esc (some l80)) big (p0,p1)
def sm2 (p0:List Int) (p1 p2 p3:Int) (p4:(Int × Int)->Option Int):Option (List Int) :=
      (iter (fun (x137,x138) =>
        if x137 < x138 then
          (chk p2 p0.length).bind fun _ =>
          (chk (w64 ((wAc (w64 (x137 + x138))) / 2)) p0.length).bind fun _ =>
          (p4 ((gd p0 p2.toNat),(gd p0 (w64 ((wAc (w64 (x137 + x138))) / 2)).toNat))).bind fun x166 =>
          if x166 < 0 then
            some (.inl (x137,w64 ((wAc (w64 (x137 + x138))) / 2)))
          else
            some (.inl (w64 ((w64 ((wAc (w64 (x137 + x138))) / 2)) + 1),x138))
        else
          esc (some x137)) big (p1,p2)).bind fun x127 =>
      iter (fun (l203,x204) =>
        if x127 < x204 then
          (chk (w64 (x204 - 1)) l203.length).bind fun _ =>
          (chk x204 l203.length).bind fun _ =>
          (chk (w64 (x204 - 1)) (nJ l203 x204.toNat (gd l203 (w64 (x204 - 1)).toNat)).length).bind fun _ =>
          some (.inl ((nJ (nJ l203 x204.toNat (gd l203 (w64 (x204 - 1)).toNat)) (w64 (x204 - 1)).toNat (gd l203 x204.toNat)),w64 (x204 - 1)))
        else
          esc (some l203)) big (p0,p2)
def smS (p0:List Int) (m1:Int) (p4:(Int × Int)->Option Int) (s:Int × Int):Option ((Int × Int) ⊕ Int):=match s with
  | (x260,x261) =>
          if x260 < x261 then
            (chk (w64 (m1 - (w64 ((wAc (w64 (x260 + x261))) / 2)))) p0.length).bind fun _ =>
            (chk (w64 ((wAc (w64 (x260 + x261))) / 2)) p0.length).bind fun _ =>
            (p4 ((gd p0 (w64 (m1 - (w64 ((wAc (w64 (x260 + x261))) / 2)))).toNat),(gd p0 (w64 ((wAc (w64 (x260 + x261))) / 2)).toNat))).bind fun x294 =>
            if x294 < 0 then
              some (.inl (x260,w64 ((wAc (w64 (x260 + x261))) / 2)))
            else
              some (.inl (w64 ((w64 ((wAc (w64 (x260 + x261))) / 2)) + 1),x261))
          else
            esc (some x260)
def smT (rec_:(List Int)->Int->Int->Int->((Int × Int)->Option Int)->Option ((List Int))) (l:List Int) (p1 p3 mid e k:Int) (p4:(Int × Int)->Option Int):Option (List Int) :=
          if p1 < k then
            if k < mid then
              (rec_ l p1 k mid p4).bind fun x373 =>
              if mid < e then
                if e < p3 then
                  (rec_ x373 mid e p3 p4).bind fun x389 =>
                  some x389
                else
                  some x373
              else
                some x373
            else
              if mid < e then
                if e < p3 then
                  (rec_ l mid e p3 p4).bind fun x408 =>
                  some x408
                else
                  some l
              else
                some l
          else
            if mid < e then
              if e < p3 then
                (rec_ l mid e p3 p4).bind fun x427 =>
                some x427
              else
                some l
            else
              some l
def smR (rec_:(List Int)->Int->Int->Int->((Int × Int)->Option Int)->Option ((List Int))) (p0:List Int) (p1 p2 p3 mid e k:Int) (p4:(Int × Int)->Option Int):Option (List Int) :=
        (if k < p2 then
          some (decide (p2 < e))
        else
          some false).bind fun b330 =>
        if b330=true then
          (wAe p0 k p2 e p4).bind fun x357=>smT rec_ x357 p1 p3 mid e k p4
        else
          smT rec_ p0 p1 p3 mid e k p4
theorem wIV (rec_:(List Int)->Int->Int->Int->((Int × Int)->Option Int)->Option ((List Int))) (p0:List Int) (p1 p2 p3:Int) (p4:(Int × Int)->Option Int):wAl rec_ p0 p1 p2 p3 p4 =
 if (w64 (p2 - p1))=1 then sm1 p0 p1 p2 p3 p4
 else if (w64 (p3 - p2))=1 then sm2 p0 p1 p2 p3 p4
 else if (w64 ((wAc (w64 (p1 + p3))) / 2)) < p2 then
  (iter (smS p0 (w64 ((w64 ((w64 ((wAc (w64 (p1 + p3))) / 2)) + p2)) - 1)) p4) big (w64 ((w64 ((w64 ((wAc (w64 (p1 + p3))) / 2)) + p2)) - p3),w64 ((wAc (w64 (p1 + p3))) / 2))).bind fun x250 =>
  smR rec_ p0 p1 p2 p3 (w64 ((wAc (w64 (p1 + p3))) / 2)) (w64 ((w64 ((w64 ((wAc (w64 (p1 + p3))) / 2)) + p2)) - x250)) x250 p4
 else
  (iter (smS p0 (w64 ((w64 ((w64 ((wAc (w64 (p1 + p3))) / 2)) + p2)) - 1)) p4) big (p1,p2)).bind fun x250 =>
  smR rec_ p0 p1 p2 p3 (w64 ((wAc (w64 (p1 + p3))) / 2)) (w64 ((w64 ((w64 ((wAc (w64 (p1 + p3))) / 2)) + p2)) - x250)) x250 p4:=rfl
theorem wGx {K:Int->Int} {Y:List Int} (h:Y.Pairwise (Lr K)) {i j:Nat} (hij:i <= j) (hj:j < Y.length):K (gd Y i) <= K (gd Y j):=by
 rcases kj i j with c | c
 ·have:=kS.1 h i j (by omega) hj c
  rw [<- wDg (by omega),<- wDg hj] at this
  exact this.le
 ·rw [show i=j by omega]
  exact ka _
theorem gd_X {A X Y B:List Int} {i:Nat} (h1:A.length <= i) (h2:i < A.length + X.length):gd (A ++ X ++ Y ++ B) i=gd X (i - A.length):=by
 simp only [wJO,hH]
 rw [if_pos (by omega),if_pos (by omega),if_neg (by omega)]
theorem gd_Y {A X Y B:List Int} {i:Nat} (h1:A.length + X.length <= i) (h2:i < A.length + X.length + Y.length):gd (A ++ X ++ Y ++ B) i=gd Y (i - (A.length + X.length)):=by
 simp only [wJO,hH]
 rw [if_pos (by omega),if_neg (by omega)]
theorem wMA {K:Int->Int} {n:Int} {c:(Int × Int)->Option Int} (hc:ByK K n c) {A Y B:List Int} {x:Int} (hx:0 <= x/\x < n) (hY:In n Y) (hlt:∀ y ∈ Y,x < y) (ho:Y.Pairwise (Lr K)) (hl:(A ++ [x] ++ Y ++ B).length <= 1000) {a m b:Nat} (ha:A.length=a) (hm:a + 1=m) (hb:m + Y.length=b) :
  ∃ Z,sm1 (A ++ [x] ++ Y ++ B) (a:Int) (m:Int) (b:Int) c=some (A ++ Z ++ B)/\Z.Perm ([x] ++ Y)/\Z.Pairwise (Lr K):=by
 have hl2:=hl
 simp only [hH,nG] at hl2
 unfold sm1
 have hx0:gd (A ++ [x] ++ Y ++ B) a=x:=by rw [gd_X (by omega) (by simp;omega),ha,kU];rfl
 have hy:∀ i,m <= i->i < b->gd (A ++ [x] ++ Y ++ B) i=gd Y (i - m):=fun i h1 h2=>by
  rw [gd_Y (by simp;omega) (by simp;omega)]
  exact wGv (by simp;omega)
 obtain ⟨k,k1,k2,k3,k4,k5⟩:=wFY (body:=fun (x14,x15) =>
   if x14 < x15 then
    (chk (w64 ((wAc (w64 (x14 + x15))) / 2)) (A ++ [x] ++ Y ++ B).length).bind fun _ =>
    (chk (a:Int) (A ++ [x] ++ Y ++ B).length).bind fun _ =>
    (c ((gd (A ++ [x] ++ Y ++ B) (w64 ((wAc (w64 (x14 + x15))) / 2)).toNat),(gd (A ++ [x] ++ Y ++ B) (a:Int).toNat))).bind fun x43 =>
    if x43 < 0 then
     some (.inl (w64 ((w64 ((wAc (w64 (x14 + x15))) / 2)) + 1),x15))
    else
     some (.inl (x14,w64 ((wAc (w64 (x14 + x15))) / 2)))
   else
    esc (some x14)) (fun h=>decide (K (gd Y (h - m)) < K x)) (lo:=m) (hi:=b) (by omega) (by omega) (fun i j h1 h2 h3 h4=>by
    have h4:K (gd Y (j - m)) < K x:=by simpa using h4
    have:=wGx ho (i:=i - m) (j:=j - m) (by omega) (by omega)
    simpa using (by omega:K (gd Y (i - m)) < K x)) (fun i j h1 h2 h3=>by
    have hh:(i + j) / 2 - m < Y.length:=by omega
    have hin:=hY _ (wBn hh)
    simp only
    rw [if_pos (by omega),wGQ (by omega),wAz (by omega) (by simp only [hH,nG];omega),hD,wAz (by omega) (by simp only [hH,nG];omega),hD]
    simp only [nH]
    rw [hx0,hy _ (by omega) (by omega)]
    obtain ⟨v,hv,hv2⟩:=hc (gd Y ((i + j) / 2 - m)) x hin.1 hin.2 hx.1 hx.2
    rw [hv,hD]
    by_cases g:K (gd Y ((i + j) / 2 - m)) < K x
    ·rw [if_pos (hv2.2 g),if_pos (by simpa using g),wEp (by omega)]
    ·rw [if_neg (fun h=>g (hv2.1 h)),if_neg (by simpa using g)]) (fun i h1 h2=>by
    simp only
    rw [if_neg (by omega)]
    rfl)
 rw [k3,hD,wGO (by omega) (by omega)]
 obtain ⟨j,rfl⟩:∃ j,k=m + j:=⟨k - m,by omega⟩
 have hj:j <= Y.length:=by omega
 refine ⟨Y.take j ++ x :: Y.drop j,?_,?_,?_⟩
 ·refine wHO (m:=j) (fun i=>(A ++ Y.take i ++ x :: (Y.drop i ++ B),((a + i:Nat):Int))) (fun i hi=>?_) ?_ (by simp) (by omega)
  ·have e:(A ++ Y.take i).length=a + i:=by rw [hH,nA];omega
   have e2:Y.drop i ++ B=gd Y i :: (Y.drop (i + 1) ++ B):=by rw [wFU (by omega)];rfl
   obtain ⟨s1,s2,_,s4⟩:=wGP (A ++ Y.take i) (Y.drop (i + 1) ++ B) x (gd Y i)
   rw [e] at s1 s2 s4
   have hll:(A ++ Y.take i ++ x :: gd Y i :: (Y.drop (i + 1) ++ B)).length <= 1000/\a + i + 2 <= (A ++ Y.take i ++ x :: gd Y i :: (Y.drop (i + 1) ++ B)).length:=by
    rw [hH,e];simp only [nD,hH,nL];omega
   simp only
   rw [if_pos (by omega),e2,wEp (by omega),wAz (by omega) (by omega),hD,wAz (by omega) (by omega),hD,wAz (by omega) (by rw [ng];omega),hD]
   simp only [nH]
   rw [s1,s2,s4,wCp (by omega)]
   simp [Nat.add_assoc]
  ·simp only
   rw [if_neg (by omega)]
   simp
 ·simp only [List.singleton_append]
  refine (List.perm_middle).trans ?_
  rw [nE]
 ·rw [<- nE j Y,nQ] at ho
  rw [nQ,nz]
  refine ⟨ho.1,⟨fun y hy=>?_,ho.2.1⟩,fun y hy z hz=>?_⟩
  ·obtain ⟨i,hi,e⟩:=nN hy
   rw [nL] at hi
   have h5:=k5 (m + (j + i)) (by omega) (by omega)
   rw [show m + (j + i) - m=j + i by omega] at h5
   have e':gd Y (j + i)=y:=by rw [wDg (by omega),<- e,kA]
   rw [e'] at h5
   have h5:¬ K y < K x:=by simpa using h5
   exact Lr.of (by omega) (hlt y (List.mem_of_mem_drop hy))
  ·rcases nb.1 hz with e0 | hz
   ·rw [e0]
    obtain ⟨i,hi,e⟩:=nN hy
    rw [nA] at hi
    have h4:=k4 (m + i) (by omega) (by omega)
    rw [show m + i - m=i by omega] at h4
    have e':gd Y i=y:=by rw [wDg (by omega),<- e,kB]
    rw [e'] at h4
    exact .inl (by simpa using h4)
   ·exact ho.2.2 y hy z hz
theorem wMB {K:Int->Int} {n:Int} {c:(Int × Int)->Option Int} (hc:ByK K n c) {A X B:List Int} {y:Int} (hy:0 <= y/\y < n) (hX:In n X) (hlt:∀ x ∈ X,x < y) (ho:X.Pairwise (Lr K)) (hl:(A ++ X ++ [y] ++ B).length <= 1000) {a m b:Nat} (ha:A.length=a) (hm:a + X.length=m) (hb:m + 1=b) :
    ∃ Z,sm2 (A ++ X ++ [y] ++ B) (a:Int) (m:Int) (b:Int) c=some (A ++ Z ++ B)/\Z.Perm (X ++ [y])/\Z.Pairwise (Lr K):=by
  have hl2:=hl
  simp only [hH,nG] at hl2
  unfold sm2
  have hy0:gd (A ++ X ++ [y] ++ B) m=y:=by rw [gd_Y (by omega) (by simp;omega),show m - (A.length + X.length)=0 by omega];rfl
  have hx:∀ i,a <= i->i < m->gd (A ++ X ++ [y] ++ B) i=gd X (i - a):=fun i h1 h2=>by rw [gd_X (by omega) (by omega),ha]
  obtain ⟨k,k1,k2,k3,k4,k5⟩:=wFY (body:=fun (x137,x138) =>
        if x137 < x138 then
          (chk (m:Int) (A ++ X ++ [y] ++ B).length).bind fun _ =>
          (chk (w64 ((wAc (w64 (x137 + x138))) / 2)) (A ++ X ++ [y] ++ B).length).bind fun _ =>
          (c ((gd (A ++ X ++ [y] ++ B) (m:Int).toNat),(gd (A ++ X ++ [y] ++ B) (w64 ((wAc (w64 (x137 + x138))) / 2)).toNat))).bind fun x166 =>
          if x166 < 0 then
            some (.inl (x137,w64 ((wAc (w64 (x137 + x138))) / 2)))
          else
            some (.inl (w64 ((w64 ((wAc (w64 (x137 + x138))) / 2)) + 1),x138))
        else
          esc (some x137)) (fun h=>decide (K (gd X (h - a)) <= K y)) (lo:=a) (hi:=m) (by omega) (by omega) (fun i j h1 h2 h3 h4=>by
        have h4:K (gd X (j - a)) <= K y:=by simpa using h4
        have:=wGx ho (i:=i - a) (j:=j - a) (by omega) (by omega)
        simpa using (by omega:K (gd X (i - a)) <= K y)) (fun i j h1 h2 h3=>by
        have hh:(i + j) / 2 - a < X.length:=by omega
        have hin:=hX _ (wBn hh)
        simp only
        rw [if_pos (by omega),wGQ (by omega),wAz (by omega) (by simp only [hH,nG];omega),hD,wAz (by omega) (by simp only [hH,nG];omega),hD]
        simp only [nH]
        rw [hy0,hx _ (by omega) (by omega)]
        obtain ⟨v,hv,hv2⟩:=hc y (gd X ((i + j) / 2 - a)) hy.1 hy.2 hin.1 hin.2
        rw [hv,hD]
        by_cases g:K y < K (gd X ((i + j) / 2 - a))
        · rw [if_pos (hv2.2 g),if_neg (by simpa using g)]
        · rw [if_neg (fun h=>g (hv2.1 h)),if_pos (by simpa using g),wEp (by omega)]) (fun i h1 h2=>by
        simp only
        rw [if_neg (by omega)]
        rfl)
  rw [k3,hD]
  obtain ⟨j,rfl⟩:∃ j,k=a + j:=⟨k - a,by omega⟩
  have hj:j <= X.length:=by omega
  refine ⟨X.take j ++ y :: X.drop j,?_,?_,?_⟩
  · refine wHO (m:=X.length - j) (fun i=>(A ++ X.take (X.length - i) ++ y :: (X.drop (X.length - i) ++ B),((m - i:Nat):Int))) (fun i hi=>?_) ?_ (by simp) (by omega)
    · obtain ⟨q,hq⟩:∃ q,X.length - i=q + 1:=⟨X.length - i - 1,by omega⟩
      have hq1:X.length - (i + 1)=q:=by omega
      have e:(A ++ X.take q).length=a + q:=by rw [hH,nA];omega
      obtain ⟨s1,s2,s3,_⟩:=wGP (A ++ X.take q) (X.drop (q + 1) ++ B) (gd X q) y
      rw [e] at s1 s2 s3
      have e2:A ++ X.take (q + 1) ++ y :: (X.drop (q + 1) ++ B)=A ++ X.take q ++ gd X q :: y :: (X.drop (q + 1) ++ B):=by rw [wCp (by omega)];simp
      have hll:a + q + 2 <= (A ++ X.take q ++ gd X q :: y :: (X.drop (q + 1) ++ B)).length:=by rw [hH,e];simp only [nD];omega
      have em:m - i=a + q + 1:=by omega
      simp only
      rw [hq,hq1,e2,em,if_pos (by omega),wGO (by omega) (by omega),wAz (by omega) (by omega),hD,wAz (by omega) (by omega),hD,wAz (by omega) (by rw [ng];omega),hD]
      simp only [nH,kn]
      rw [s1,s2,s3,show m - (i + 1)=a + q by omega,wFU (l:=X) (k:=q) (by omega)]
      rfl
    · simp only
      rw [show X.length - (X.length - j)=j by omega,if_neg (by omega)]
      simp
  · refine (List.perm_middle).trans ?_
    rw [nE]
    exact (kO y X).symm
  · rw [<- nE j X,nQ] at ho
    rw [nQ,nz]
    refine ⟨ho.1,⟨fun x hx=>?_,ho.2.1⟩,fun x hx z hz=>?_⟩
    · obtain ⟨i,hi,e⟩:=nN hx
      rw [nL] at hi
      have h5:=k5 (a + (j + i)) (by omega) (by omega)
      rw [show a + (j + i) - a=j + i by omega] at h5
      have e':gd X (j + i)=x:=by rw [wDg (by omega),<- e,kA]
      rw [e'] at h5
      exact .inl (by simpa using h5)
    · rcases nb.1 hz with e0 | hz
      · rw [e0]
        obtain ⟨i,hi,e⟩:=nN hx
        rw [nA] at hi
        have h4:=k4 (a + i) (by omega) (by omega)
        rw [show a + i - a=i by omega] at h4
        have e':gd X i=x:=by rw [wDg (by omega),<- e,kB]
        rw [e'] at h4
        exact Lr.of (by simpa using h4) (hlt x (kI hx))
      · exact ho.2.2 x hx z hz
end Go.Proofs.Ytkedcbligiebkaa
namespace Go.Proofs.Ytkedcbligiebkaa
open Go.KL
abbrev Rec:=(List Int)->Int->Int->Int->((Int × Int)->Option Int)->Option ((List Int))
def wIB (K:Int->Int) (n:Int) (c:(Int × Int)->Option Int) (r:Rec) (N:Nat):Prop:=∀ A X Y B:List Int,0 < X.length->0 < Y.length->In n X->In n Y->(∀ x ∈ X,∀ y ∈ Y,x < y)->X.Pairwise (Lr K)->Y.Pairwise (Lr K)->(A ++ X ++ Y ++ B).length <= 1000->X.length + Y.length < N ->
 ∃ Z,r (A ++ X ++ Y ++ B) ((A.length:Nat):Int) ((A.length + X.length:Nat):Int) ((A.length + X.length + Y.length:Nat):Int) c=some (A ++ Z ++ B)/\Z.Perm (X ++ Y)/\Z.Pairwise (Lr K)
theorem wIC {K:Int->Int} {n:Int} {c:(Int × Int)->Option Int} {r:Rec} {N:Nat} (H:wIB K n c r N) {A X Y B:List Int} (hX:In n X) (hY:In n Y) (hlt:∀ x ∈ X,∀ y ∈ Y,x < y) (oX:X.Pairwise (Lr K)) (oY:Y.Pairwise (Lr K)) (hl:(A ++ X ++ Y ++ B).length <= 1000) (hN:X.length + Y.length < N) {a k m:Nat} (ha:A.length=a) (hk:a + X.length=k) (hm:k + Y.length=m) (R:List Int->Option (List Int)) :
  ∃ Z,(if (a:Int) < (k:Int) then (if (k:Int) < (m:Int) then (r (A ++ X ++ Y ++ B) (a:Int) (k:Int) (m:Int) c).bind R else R (A ++ X ++ Y ++ B)) else R (A ++ X ++ Y ++ B))=R (A ++ Z ++ B)/\Z.Perm (X ++ Y)/\Z.Pairwise (Lr K):=by
 by_cases h1:(a:Int) < (k:Int)
 ·rw [if_pos h1]
  by_cases h2:(k:Int) < (m:Int)
  ·rw [if_pos h2]
   obtain ⟨Z,e,p,o⟩:=H A X Y B (by omega) (by omega) hX hY hlt oX oY hl hN
   rw [ha,hk,hm] at e
   exact ⟨Z,by rw [e,hD],p,o⟩
  ·rw [if_neg h2]
   have:Y=[]:=nY (by omega)
   subst this
   exact ⟨X,by simp,by simp,oX⟩
 ·rw [if_neg h1]
  have:X=[]:=nY (by omega)
  subst this
  exact ⟨Y,by simp,by simp,oY⟩
theorem wMC {K:Int->Int} {n:Int} {c:(Int × Int)->Option Int} {r:Rec} {N:Nat} (H:wIB K n c r N) {A X1 X2 Y1 Y2 B:List Int} (hX:In n (X1 ++ X2)) (hY:In n (Y1 ++ Y2)) (hlt:∀ x ∈ X1 ++ X2,∀ y ∈ Y1 ++ Y2,x < y) (oX:(X1 ++ X2).Pairwise (Lr K)) (oY:(Y1 ++ Y2).Pairwise (Lr K))
  (o12:∀ x ∈ X1,∀ y ∈ Y2,Lr K x y) (o21:∀ y ∈ Y1,∀ x ∈ X2,Lr K y x) (hl:(A ++ X1 ++ Y1 ++ X2 ++ Y2 ++ B).length <= 1000) (hN1:X1.length + Y1.length < N) (hN2:X2.length + Y2.length < N) {a k mid e b:Nat} (ha:A.length=a) (hk:a + X1.length=k) (hm:k + Y1.length=mid) (he:mid + X2.length=e) (hb:e + Y2.length=b) :
  ∃ Z,smT r (A ++ X1 ++ Y1 ++ X2 ++ Y2 ++ B) (a:Int) (b:Int) (mid:Int) (e:Int) (k:Int) c=some (A ++ Z ++ B)/\Z.Perm ((X1 ++ X2) ++ (Y1 ++ Y2))/\Z.Pairwise (Lr K):=by
 rw [nQ] at oX oY
 have T:∀ l:List Int,smT r l (a:Int) (b:Int) (mid:Int) (e:Int) (k:Int) c=if (a:Int) < (k:Int) then (if (k:Int) < (mid:Int) then (r l (a:Int) (k:Int) (mid:Int) c).bind (fun l=>if (mid:Int) < (e:Int) then (if (e:Int) < (b:Int) then (r l (mid:Int) (e:Int) (b:Int) c).bind some else some l) else some l) else (fun l=>if (mid:Int) < (e:Int) then (if (e:Int) < (b:Int) then (r l (mid:Int) (e:Int) (b:Int) c).bind some else some l) else some l) l) else (fun l=>if (mid:Int) < (e:Int) then (if (e:Int) < (b:Int) then (r l (mid:Int) (e:Int) (b:Int) c).bind some else some l) else some l) l:=fun l=>rfl
 obtain ⟨Z1,e1,p1,o1⟩:=wIC H (A:=A) (X:=X1) (Y:=Y1) (B:=X2 ++ Y2 ++ B) (fun x hx=>hX x (nn _ hx)) (fun y hy=>hY y (nn _ hy)) (fun x hx y hy=>hlt x (nn _ hx) y (nn _ hy)) oX.1 oY.1 (by simpa only [hJ] using hl) hN1 ha hk hm (fun l=>if (mid:Int) < (e:Int) then (if (e:Int) < (b:Int) then (r l (mid:Int) (e:Int) (b:Int) c).bind some else some l) else some l)
 have hZ1:Z1.length=X1.length + Y1.length:=by rw [p1.length_eq,hH]
 have hl2:=hl
 simp only [hH] at hl2
 obtain ⟨Z2,e2,p2,o2⟩:=wIC H (A:=A ++ Z1) (X:=X2) (Y:=Y2) (B:=B) (fun x hx=>hX x (nv _ hx)) (fun y hy=>hY y (nv _ hy)) (fun x hx y hy=>hlt x (nv _ hx) y (nv _ hy)) oX.2.1 oY.2.1 (by simp only [hH];omega) hN2 (a:=mid) (by rw [hH];omega) he hb some
 refine ⟨Z1 ++ Z2,?_,?_,?_⟩
 ·rw [T]
  have q:A ++ X1 ++ Y1 ++ X2 ++ Y2 ++ B=A ++ X1 ++ Y1 ++ (X2 ++ Y2 ++ B):=by simp only [hJ]
  rw [q,e1]
  have q2:A ++ Z1 ++ (X2 ++ Y2 ++ B)=A ++ Z1 ++ X2 ++ Y2 ++ B:=by simp only [hJ]
  rw [q2,e2]
  simp only [hJ]
 ·refine (p1.append p2).trans ?_
  rw [hJ,hJ]
  refine kd _ ?_
  rw [<- hJ,<- hJ]
  exact List.Perm.append_right _ List.perm_append_comm
 ·rw [nQ]
  refine ⟨o1,o2,fun x hx y hy=>?_⟩
  rcases nX.1 (p1.mem_iff.1 hx) with hx | hx <;> rcases nX.1 (p2.mem_iff.1 hy) with hy | hy
  ·exact oX.2.2 x hx y hy
  ·exact o12 x hx y hy
  ·exact o21 x hx y hy
  ·exact oY.2.2 x hx y hy
theorem wMD {K:Int->Int} {n:Int} {c:(Int × Int)->Option Int} {r:Rec} {N:Nat} (H:wIB K n c r N) {A X1 X2 Y1 Y2 B:List Int} (hX:In n (X1 ++ X2)) (hY:In n (Y1 ++ Y2)) (hlt:∀ x ∈ X1 ++ X2,∀ y ∈ Y1 ++ Y2,x < y) (oX:(X1 ++ X2).Pairwise (Lr K)) (oY:(Y1 ++ Y2).Pairwise (Lr K))
  (o12:∀ x ∈ X1,∀ y ∈ Y2,Lr K x y) (o21:∀ y ∈ Y1,∀ x ∈ X2,Lr K y x) (hl:(A ++ X1 ++ X2 ++ Y1 ++ Y2 ++ B).length <= 1000) (hN1:X1.length + Y1.length < N) (hN2:X2.length + Y2.length < N) {a k m mid e b:Nat} (ha:A.length=a) (hk:a + X1.length=k) (hm:k + X2.length=m) (hmid:k + Y1.length=mid) (he:m + Y1.length=e) (hb:e + Y2.length=b) :
  ∃ Z,smR r (A ++ X1 ++ X2 ++ Y1 ++ Y2 ++ B) (a:Int) (m:Int) (b:Int) (mid:Int) (e:Int) (k:Int) c=some (A ++ Z ++ B)/\Z.Perm ((X1 ++ X2) ++ (Y1 ++ Y2))/\Z.Pairwise (Lr K):=by
 have hl2:=hl
 simp only [hH] at hl2
 obtain ⟨Z,e1,p,o⟩:=wMC H (A:=A) (B:=B) hX hY hlt oX oY o12 o21 (by simp only [hH];omega) hN1 hN2 ha hk hmid (e:=e) (by omega) hb
 refine ⟨Z,?_,p,o⟩
 rw [<- e1]
 unfold smR
 by_cases h1:k < m
 ·rw [if_pos (by omega),hD]
  by_cases h2:m < e
  ·rw [if_pos (by simp;omega)]
   have q:A ++ X1 ++ X2 ++ Y1 ++ Y2 ++ B=(A ++ X1) ++ X2 ++ Y1 ++ (Y2 ++ B):=by simp only [hJ]
   have q2:A ++ X1 ++ Y1 ++ X2 ++ Y2 ++ B=(A ++ X1) ++ Y1 ++ X2 ++ (Y2 ++ B):=by simp only [hJ]
   rw [q,wJQ (A:=A ++ X1) (a:=k) (m:=m) (b:=e) (by rw [hH];omega) (by rw [hH];omega) (by rw [hH];omega) (by omega) (by omega) (by rw [<- q];exact hl),hD,q2]
  ·rw [if_neg (by simp;omega)]
   have:Y1=[]:=nY (by omega)
   subst this
   simp
 ·rw [if_neg (by omega),hD,if_neg (by simp)]
  have:X2=[]:=nY (by omega)
  subst this
  simp
theorem wKl {K:Int->Int} {n:Int} {c:(Int × Int)->Option Int} (hc:ByK K n c) {A X Y B:List Int} (hX:In n X) (hY:In n Y) (oX:X.Pairwise (Lr K)) (oY:Y.Pairwise (Lr K)) (hl:(A ++ X ++ Y ++ B).length <= 1000) {a m b lo hi p:Nat} (ha:A.length=a) (hm:a + X.length=m) (hb:m + Y.length=b) (h1:a <= lo) (h2:lo <= hi) (h3:hi <= m) (hp:∀ i,lo <= i->i < hi->i <= p/\m <= p - i/\p - i < b) :
  ∃ k:Nat,lo <= k/\k <= hi/\iter (smS (A ++ X ++ Y ++ B) (p:Int) c) big ((lo:Int),(hi:Int))=some (k:Int)/\(∀ i,lo <= i->i < k->K (gd X (i - a)) <= K (gd Y (p - i - m)))/\(∀ i,k <= i->i < hi->K (gd Y (p - i - m)) < K (gd X (i - a))):=by
 have hl2:=hl
 simp only [hH] at hl2
 have gx:∀ i,a <= i->i < m->gd (A ++ X ++ Y ++ B) i=gd X (i - a):=fun i g1 g2=>by rw [gd_X (by omega) (by omega),ha]
 have gy:∀ i,m <= i->i < b->gd (A ++ X ++ Y ++ B) i=gd Y (i - m):=fun i g1 g2=>by rw [gd_Y (by omega) (by omega)];exact wGv (by omega)
 obtain ⟨k,k1,k2,k3,k4,k5⟩:=wFY (body:=smS (A ++ X ++ Y ++ B) (p:Int) c) (fun i=>decide (K (gd X (i - a)) <= K (gd Y (p - i - m)))) h2 (by omega) (fun i j g1 g2 g3 g4=>by
  have g4:K (gd X (j - a)) <= K (gd Y (p - j - m)):=by simpa using g4
  have q1:=hp i g1 (by omega)
  have q2:=hp j (by omega) g3
  have l1:=wGx oX (i:=i - a) (j:=j - a) (by omega) (by omega)
  have l2:=wGx oY (i:=p - j - m) (j:=p - i - m) (by omega) (by omega)
  simpa using (by omega:K (gd X (i - a)) <= K (gd Y (p - i - m)))) (fun i j g1 g2 g3=>by
  obtain ⟨q0,q1,q2⟩:=hp ((i + j) / 2) (by omega) (by omega)
  have hx:(i + j) / 2 - a < X.length:=by omega
  have hy:p - (i + j) / 2 - m < Y.length:=by omega
  have ix:=hX _ (wBn hx)
  have iy:=hY _ (wBn hy)
  unfold smS
  simp only
  have hpb:p <= 1000000:=by omega
  rw [if_pos (by omega),wGQ (by omega),wCq (by omega) hpb,wAz (by omega) (by simp only [hH];omega),hD,wAz (by omega) (by simp only [hH];omega),hD]
  simp only [nH]
  rw [gx ((i + j) / 2) (by omega) (by omega),gy (p - (i + j) / 2) q1 q2]
  obtain ⟨v,hv,hv2⟩:=hc (gd Y (p - (i + j) / 2 - m)) (gd X ((i + j) / 2 - a)) iy.1 iy.2 ix.1 ix.2
  rw [hv,hD]
  by_cases g:K (gd Y (p - (i + j) / 2 - m)) < K (gd X ((i + j) / 2 - a))
  ·rw [if_pos (hv2.2 g),if_neg (by simpa using g)]
  ·rw [if_neg (fun h=>g (hv2.1 h)),if_pos (by simpa using g),wEp (by omega)]) (fun i g1 g2=>by
  unfold smS
  simp only
  rw [if_neg (by omega)]
  rfl)
 exact ⟨k,k1,k2,k3,fun i g1 g2=>by simpa using k4 i g1 g2,fun i g1 g2=>by simpa using k5 i g1 g2⟩
theorem wME {K:Int->Int} {n:Int} {c:(Int × Int)->Option Int} (hc:ByK K n c):∀ F:Nat,wIB K n c (wAQ F) (F + 1):=by
 intro F
 induction F with
 | zero=>intro A X Y B h1 h2 _ _ _ _ _ _ h;omega
 | succ F ih =>
  intro A X Y B hx0 hy0 hX hY hlt oX oY hl hF
  show ∃ Z,wAl (wAQ F) _ _ _ _ _=_/\_
  rw [wIV]
  have hl2:=hl
  simp only [hH] at hl2
  generalize ha:A.length=a at *
  generalize hm:a + X.length=m at *
  generalize hb:m + Y.length=b at *
  rw [wCq (a:=m) (b:=a) (by omega) (by omega),wCq (a:=b) (b:=m) (by omega) (by omega)]
  by_cases c1:X.length=1
  ·rw [if_pos (by omega)]
   obtain ⟨x,rfl⟩:=kc.1 c1
   exact wMA hc (hX x (by simp)) hY (fun y hy=>hlt x (by simp) y hy) oY hl ha (by simpa using hm) hb
  rw [if_neg (by omega)]
  by_cases c2:Y.length=1
  ·rw [if_pos (by omega)]
   obtain ⟨y,rfl⟩:=kc.1 c2
   exact wMB hc (hY y (by simp)) hX (fun x hx=>hlt x hx y (by simp)) oX hl ha hm (by simpa using hb)
  rw [if_neg (by omega),wGQ (by omega)]
  generalize hmid:(a + b) / 2=mid at *
  rw [wDh (a:=mid) (b:=m) (by omega),wGO (a:=mid + m) (by omega) (by omega)]
  have fin:∀ k:Nat,a <= k->k <= m->m + k <= mid + m->mid + m <= b + k->(a < k->mid + m < b + k->K (gd X (k - 1 - a)) <= K (gd Y (mid + m - k - m)))->(k < m->k < mid->K (gd Y (mid + m - 1 - k - m)) < K (gd X (k - a))) ->
    ∃ Z,smR (wAQ F) (A ++ X ++ Y ++ B) (a:Int) (m:Int) (b:Int) (mid:Int) (w64 (((mid + m:Nat):Int) - (k:Int))) (k:Int) c=some (A ++ Z ++ B)/\Z.Perm (X ++ Y)/\Z.Pairwise (Lr K):=by
   intro k k1 k2 k3 k4 k5 k6
   rw [wCq (by omega) (by omega)]
   have ex:X=X.take (k - a) ++ X.drop (k - a):=(nE ..).symm
   have ey:Y=Y.take (mid - k) ++ Y.drop (mid - k):=(nE ..).symm
   have lx1:(X.take (k - a)).length=k - a:=by rw [nA];omega
   have lx2:(X.drop (k - a)).length=m - k:=by rw [nL];omega
   have ly1:(Y.take (mid - k)).length=mid - k:=by rw [nA];omega
   have ly2:(Y.drop (mid - k)).length=Y.length - (mid - k):=by rw [nL]
   have mx1:∀ x ∈ X.take (k - a),∃ i,i < k - a/\gd X i=x:=fun x hx=>by
    obtain ⟨i,hi,e⟩:=nN hx
    rw [lx1] at hi
    exact ⟨i,hi,by rw [wDg (by omega),<- e,kB]⟩
   have mx2:∀ x ∈ X.drop (k - a),∃ i,k - a <= i/\i < X.length/\gd X i=x:=fun x hx=>by
    obtain ⟨i,hi,e⟩:=nN hx
    rw [lx2] at hi
    exact ⟨k - a + i,by omega,by omega,by rw [wDg (by omega),<- e,kA]⟩
   have my1:∀ y ∈ Y.take (mid - k),∃ i,i < mid - k/\gd Y i=y:=fun y hy=>by
    obtain ⟨i,hi,e⟩:=nN hy
    rw [ly1] at hi
    exact ⟨i,hi,by rw [wDg (by omega),<- e,kB]⟩
   have my2:∀ y ∈ Y.drop (mid - k),∃ i,mid - k <= i/\i < Y.length/\gd Y i=y:=fun y hy=>by
    obtain ⟨i,hi,e⟩:=nN hy
    rw [ly2] at hi
    exact ⟨mid - k + i,by omega,by omega,by rw [wDg (by omega),<- e,kA]⟩
   obtain ⟨Z,e,p,o⟩:=wMD ih (A:=A) (X1:=X.take (k - a)) (X2:=X.drop (k - a)) (Y1:=Y.take (mid - k)) (Y2:=Y.drop (mid - k)) (B:=B) (by rwa [<- ex]) (by rwa [<- ey]) (by rwa [<- ex,<- ey]) (by rwa [<- ex]) (by rwa [<- ey]) (fun x hx y hy=>by
     obtain ⟨i,i1,rfl⟩:=mx1 x hx
     obtain ⟨j,j1,j2,rfl⟩:=my2 y hy
     have h5:=k5 (by omega) (by omega)
     have l1:=wGx oX (i:=i) (j:=k - 1 - a) (by omega) (by omega)
     have l2:=wGx oY (i:=mid + m - k - m) (j:=j) (by omega) j2
     exact Lr.of (by omega) (hlt _ (wBn (by omega)) _ (wBn j2))) (fun y hy x hx=>by
     obtain ⟨i,i1,i2,rfl⟩:=mx2 x hx
     obtain ⟨j,j1,rfl⟩:=my1 y hy
     have h6:=k6 (by omega) (by omega)
     have l1:=wGx oX (i:=k - a) (j:=i) (by omega) i2
     have l2:=wGx oY (i:=j) (j:=mid + m - 1 - k - m) (by omega) (by omega)
     exact .inl (by omega)) (by
     have:A ++ X.take (k - a) ++ X.drop (k - a) ++ Y.take (mid - k) ++ Y.drop (mid - k) ++ B=A ++ X ++ Y ++ B:=by rw [hJ A,<- ex,hJ (A ++ X),<- ey]
     rw [this];exact hl) (by omega) (by omega) ha (k:=k) (m:=m) (mid:=mid) (e:=mid + m - k) (b:=b) (by omega) (by omega) (by omega) (by omega) (by omega)
   have q:A ++ X.take (k - a) ++ X.drop (k - a) ++ Y.take (mid - k) ++ Y.drop (mid - k) ++ B=A ++ X ++ Y ++ B:=by rw [hJ A,<- ex,hJ (A ++ X),<- ey]
   rw [q] at e
   rw [<- ex,<- ey] at p
   exact ⟨Z,e,p,o⟩
  by_cases c3:mid < m
  ·rw [if_pos (by omega),wCq (a:=mid + m) (b:=b) (by omega) (by omega)]
   obtain ⟨k,k1,k2,k3,k4,k5⟩:=wKl hc hX hY oX oY hl ha hm hb (lo:=mid + m - b) (hi:=mid) (p:=mid + m - 1) (by omega) (by omega) (by omega) (fun i g1 g2=>by omega)
   rw [k3,hD]
   refine fin k (by omega) (by omega) (by omega) (by omega) (fun g1 g2=>?_) (fun g1 g2=>k5 k (by omega) g2)
   have:=k4 (k - 1) (by omega) (by omega)
   rwa [show mid + m - 1 - (k - 1) - m=mid + m - k - m by omega] at this
  ·rw [if_neg (by omega)]
   obtain ⟨k,k1,k2,k3,k4,k5⟩:=wKl hc hX hY oX oY hl ha hm hb (lo:=a) (hi:=m) (p:=mid + m - 1) (by omega) (by omega) (by omega) (fun i g1 g2=>by omega)
   rw [k3,hD]
   refine fin k (by omega) (by omega) (by omega) (by omega) (fun g1 g2=>?_) (fun g1 g2=>k5 k (by omega) g1)
   have:=k4 (k - 1) (by omega) (by omega)
   rwa [show mid + m - 1 - (k - 1) - m=mid + m - k - m by omega] at this
end Go.Proofs.Ytkedcbligiebkaa
namespace Go.Proofs.Ytkedcbligiebkaa
open Go.KL
def seg (l:List Int) (i j:Nat):List Int:=(l.drop i).take (j - i)
def rng (i j:Nat):List Int:=(nB (j - i)).map fun (k:Nat)=>((i + k:Nat):Int)
theorem wID {i j:Nat}:∀ x ∈ rng i j,(i:Int) <= x/\x < j:=by
 intro x hx
 obtain ⟨k,hk,rfl⟩:=nW.1 hx
 have:=nf.1 hk
 omega
theorem wMF (i j:Nat):(rng i j).Pairwise (· < ·):=by
 unfold rng
 rw [List.pairwise_map]
 exact List.pairwise_lt_range.imp fun h=>by omega
theorem wEq (i j:Nat):(rng i j).length=j - i:=by simp [rng]
theorem wJR {a m b:Nat} (h1:a <= m) (h2:m <= b):rng a m ++ rng m b=rng a b:=by
 unfold rng
 rw [show b - a=(m - a) + (b - m) by omega,List.range_add,nr,kW]
 congr 1
 refine kM fun k _=>?_
 simp only [Function.comp_apply]
 omega
theorem wGR {l:List Int} {i j:Nat} (h:j <= l.length):(seg l i j).length=j - i:=by
 unfold seg;rw [nA,nL];omega
theorem wFZ {l:List Int} {a b:Nat} (h1:a <= b):l=l.take a ++ seg l a b ++ l.drop b:=by
 unfold seg
 rw [hJ]
 conv=>lhs;rw [<- nE a l]
 congr 1
 conv=>lhs;rw [<- nE (b - a) (l.drop a)]
 congr 1
 rw [List.drop_drop]
 congr 1
 omega
theorem wIW {l:List Int} {a m b:Nat} (h1:a <= m) (h2:m <= b):l=l.take a ++ seg l a m ++ seg l m b ++ l.drop b:=by
 conv=>lhs;rw [wFZ (l:=l) h2]
 congr 1
 congr 1
 unfold seg
 conv=>lhs;rw [<- nE a (l.take m)]
 rw [List.take_take,nl h1,List.drop_take]
theorem wJS {A Z Z' B:List Int} (h:Z.length=Z'.length) {i j:Nat} (hij:j <= A.length \/ A.length + Z.length <= i):seg (A ++ Z ++ B) i j=seg (A ++ Z' ++ B) i j:=by
 unfold seg
 apply kQ
 intro t
 rw [nj,nj]
 split
 ·rw [ny,ny]
  rcases hij with g | g
  ·rw [nM (by simp;omega),nM (by omega),nM (by simp;omega),nM (by omega)]
  ·rw [nV (by simp;omega),nV (by simp;omega)]
   congr 1
   simp only [hH]
   omega
 ·rfl
theorem wJT {A Z B:List Int} {a b:Nat} (ha:A.length=a) (hb:a + Z.length=b):seg (A ++ Z ++ B) a b=Z:=by
 unfold seg
 rw [hJ,<- ha,List.drop_left,List.take_append_of_le_length (by omega),ni (by omega)]
def Srt (K:Int->Int) (l:List Int) (i j:Nat):Prop:=(seg l i j).Perm (rng i j)/\(seg l i j).Pairwise (Lr K)
theorem wFx {K:Int->Int} {n:Nat} {c:(Int × Int)->Option Int} (hc:ByK K n c) {l:List Int} (hl:l.length=n) (hn:n <= 64) {a b:Nat} (hab:a <= b) (hb:b <= n) (hs:seg l a b=rng a b) :
  ∃ l',wAS l (a:Int) (b:Int) c=some l'/\l'.length=n/\Srt K l' a b/\∀ i j,j <= a \/ b <= i->seg l' i j=seg l i j:=by
 have e:=wFZ (l:=l) hab
 have la:(l.take a).length=a:=by rw [nA];omega
 have ls:=wGR (l:=l) (i:=a) (j:=b) (by omega)
 obtain ⟨Z,h1,h2,h3⟩:=wGw hc (A:=l.take a) (X:=seg l a b) (B:=l.drop b) (fun x hx=>by rw [hs] at hx;have:=wID x hx;omega) (by rw [hs];exact wMF a b) (by rw [<- e];omega) (a:=a) (b:=b) la (by rw [la,ls];omega)
 have lz:Z.length=b - a:=by rw [h2.length_eq,ls]
 rw [<- e] at h1
 refine ⟨_,h1,?_,?_,fun i j hij=>?_⟩
 ·have:=congrArg List.length e
  simp only [hH] at this ⊢
  omega
 ·rw [Srt,wJT la (by omega)]
  exact ⟨by rw [<- hs];exact h2,h3⟩
 ·conv=>rhs;rw [e]
  exact wJS (by omega) (by omega)
theorem wGy {K:Int->Int} {n:Nat} {c:(Int × Int)->Option Int} (hc:ByK K n c) {l:List Int} (hl:l.length=n) (hn:n <= 64) {a m b:Nat} (ham:a < m) (hmb:m < b) (hb:b <= n) (h1:Srt K l a m) (h2:Srt K l m b) :
  ∃ l',wAQ 1000 l (a:Int) (m:Int) (b:Int) c=some l'/\l'.length=n/\Srt K l' a b/\∀ i j,j <= a \/ b <= i->seg l' i j=seg l i j:=by
 have e:=wIW (l:=l) (kX ham) (kX hmb)
 have e2:=wFZ (l:=l) (a:=a) (b:=b) (by omega)
 have la:(l.take a).length=a:=by rw [nA];omega
 have l1:=wGR (l:=l) (i:=a) (j:=m) (by omega)
 have l2:=wGR (l:=l) (i:=m) (j:=b) (by omega)
 have l3:=wGR (l:=l) (i:=a) (j:=b) (by omega)
 have i1:∀ x ∈ seg l a m,(a:Int) <= x/\x < m:=fun x hx=>wID x (h1.1.mem_iff.1 hx)
 have i2:∀ x ∈ seg l m b,(m:Int) <= x/\x < b:=fun x hx=>wID x (h2.1.mem_iff.1 hx)
 obtain ⟨Z,g1,g2,g3⟩:=wME hc 1000 (l.take a) (seg l a m) (seg l m b) (l.drop b) (by omega) (by omega) (fun x hx=>by have:=i1 x hx;omega) (fun x hx=>by have:=i2 x hx;omega) (fun x hx y hy=>by have:=i1 x hx;have:=i2 y hy;omega) h1.2 h2.2 (by rw [<- e];omega) (by omega)
 rw [<- e,la,l1,l2,show a + (m - a)=m by omega,show m + (b - m)=b by omega] at g1
 have lz:Z.length=b - a:=by rw [g2.length_eq,hH,l1,l2];omega
 refine ⟨_,g1,?_,?_,fun i j hij=>?_⟩
 ·have:=congrArg List.length e2
  simp only [hH] at this ⊢
  omega
 ·rw [Srt,wJT la (by omega)]
  refine ⟨?_,g3⟩
  rw [<- wJR (kX ham) (kX hmb)]
  exact g2.trans (h1.1.append h2.1)
 ·conv=>rhs;rw [e2]
  exact wJS (by omega) (by omega)
def Blk (K:Int->Int) (n bs:Nat) (l:List Int):Prop:=∀ s,bs * s < n->Srt K l (bs * s) (min (bs * s + bs) n)
theorem Srt.same {K:Int->Int} {l l':List Int} {i j:Nat} (h:Srt K l i j) (e:seg l' i j=seg l i j):Srt K l' i j:=by unfold Srt;rw [e];exact h
theorem wHX {K:Int->Int} {n:Nat} {c:(Int × Int)->Option Int} (hc:ByK K n c) (hn:n <= 64):∃ l a l',iter (fun (l16,x17,x18) =>
  if x18 <= (n:Int) then
   (wAS l16 x17 x18 c).bind fun x39 =>
   some (.inl (x39,x18,w64 (x18 + 20)))
  else
   esc (some (l16,x17))) big (rng 0 n,0,20)=some (l,a)/\wAS l a (n:Int) c=some l'/\l'.length=n/\Blk K n 20 l':=by
 obtain ⟨r,h1,l,t,rfl,h2,h3,h4,h5,h6⟩:=wDT (body:=fun (l16,x17,x18) =>
  if x18 <= (n:Int) then
   (wAS l16 x17 x18 c).bind fun x39 =>
   some (.inl (x39,x18,w64 (x18 + 20)))
  else
   esc (some (l16,x17))) (fun t s=>∃ l,s=(l,((20 * t:Nat):Int),((20 * t + 20:Nat):Int))/\l.length=n/\20 * t <= n/\(∀ s,s < t->Srt K l (20 * s) (20 * s + 20))/\(∀ i j,20 * t <= i->j <= n->seg l i j=rng i j))
  (fun r=>∃ l t,r=(l,((20 * t:Nat):Int))/\l.length=n/\20 * t <= n/\n < 20 * t + 20/\(∀ s,s < t->Srt K l (20 * s) (20 * s + 20))/\(∀ i j,20 * t <= i->j <= n->seg l i j=rng i j)) 4
  (fun t s ht ⟨l,hs,g1,g2,g3,g4⟩=>by
   subst hs
   simp only
   by_cases h:((20 * t + 20:Nat):Int) <= (n:Int)
   ·left
    obtain ⟨l',e1,e2,e3,e4⟩:=wFx hc g1 hn (a:=20 * t) (b:=20 * t + 20) (by omega) (by omega) (g4 _ _ (nI _) (by omega))
    have ew:w64 (((20 * t + 20:Nat):Int) + 20)=((20 * (t + 1) + 20:Nat):Int):=by
     have:=wDh (a:=20 * t + 20) (b:=20) (by omega)
     rw [show ((20:Nat):Int)=20 from rfl] at this
     rw [this]
     omega
    rw [if_pos h,e1,hD,ew]
    refine ⟨by omega,_,rfl,l',by rw [show 20 * t + 20=20 * (t + 1) by omega],e2,by omega,fun s hs=>?_,fun i j hi hj=>?_⟩
    ·by_cases c1:s=t
     ·rw [c1];exact e3
     ·exact (g3 s (by omega)).same (e4 _ _ (by omega))
    ·rw [e4 _ _ (by omega)]
     exact g4 i j (by omega) hj
   ·right
    rw [if_neg h]
    exact ⟨_,rfl,l,t,rfl,g1,g2,by omega,g3,g4⟩)
  (s0:=(rng 0 n,0,20)) ⟨rng 0 n,rfl,by rw [wEq];omega,by omega,fun s hs=>by omega,fun i j _ hj=>by
   unfold seg
   apply kQ
   intro q
   rw [nj]
   split
   ·rw [ny]
    simp only [rng,kq]
    rw [kh (by omega),kh (by omega)]
    simp
   ·rw [kH (by rw [wEq];omega)]⟩ (by omega)
 obtain ⟨l',e1,e2,e3,e4⟩:=wFx hc h2 hn (a:=20 * t) (b:=n) h3 (nI _) (h6 _ _ (nI _) (nI _))
 refine ⟨l,_,l',h1,e1,e2,fun s hs=>?_⟩
 by_cases c1:s=t
 ·rw [c1,np (by omega)];exact e3
 ·have hlt:s < t:=by omega
  rw [nl (by omega)]
  exact (h5 s hlt).same (e4 _ _ (by omega))
theorem wKC {K:Int->Int} {n:Nat} {c:(Int × Int)->Option Int} (hc:ByK K n c) (hn:n <= 64) {bs:Nat} (hbs:bs=20 \/ bs=40) (hlt:bs < n) {l:List Int} (hl:l.length=n) (hB:Blk K n bs l) :
    ∃ l',((iter (fun (l121,x122,x123) =>
        if x123 <= (n:Int) then
          (wAQ 1000 l121 x122 (w64 (x122 + (bs:Int))) x123 c).bind fun x146 =>
          some (.inl (x146,x123,w64 (x123 + (w64 (2 * (bs:Int))))))
        else
          esc (some (l121,x122))) big (l,0,w64 (2 * (bs:Int)))).bind fun (l107,x108) =>
      if (w64 (x108 + (bs:Int))) < (n:Int) then
        (wAQ 1000 l107 x108 (w64 (x108 + (bs:Int))) (n:Int) c).bind fun x182 =>
        some (.inl (x182,w64 ((bs:Int) * 2)))
      else
        some (.inl (l107,w64 ((bs:Int) * 2))))=some (Sum.inl (β:=List Int) (l',((2 * bs:Nat):Int)))/\l'.length=n/\Blk K n (2 * bs) l':=by
  have e0:w64 (2 * (bs:Int))=((2 * bs:Nat):Int):=by rw [wAY (by omega) (by omega)];omega
  have e00:w64 ((bs:Int) * 2)=((2 * bs:Nat):Int):=by rw [wAY (by omega) (by omega)];omega
  rw [e0,e00]
  obtain ⟨r,h1,m,t,rfl,h2,h3,h4,h5,h6⟩:=wDT (body:=fun (l121,x122,x123) =>
        if x123 <= (n:Int) then
          (wAQ 1000 l121 x122 (w64 (x122 + (bs:Int))) x123 c).bind fun x146 =>
          some (.inl (x146,x123,w64 (x123 + ((2 * bs:Nat):Int))))
        else
          esc (some (l121,x122))) (fun t s=>∃ l,s=(l,((2 * bs * t:Nat):Int),((2 * bs * t + 2 * bs:Nat):Int))/\l.length=n/\2 * bs * t <= n/\(∀ s,s < t->Srt K l (2 * bs * s) (2 * bs * s + 2 * bs))/\(∀ s,2 * t <= s->bs * s < n->Srt K l (bs * s) (min (bs * s + bs) n)))
    (fun r=>∃ l t,r=(l,((2 * bs * t:Nat):Int))/\l.length=n/\2 * bs * t <= n/\n < 2 * bs * t + 2 * bs/\(∀ s,s < t->Srt K l (2 * bs * s) (2 * bs * s + 2 * bs))/\(∀ s,2 * t <= s->bs * s < n->Srt K l (bs * s) (min (bs * s + bs) n))) 4
    (fun t s ht ⟨l,hs,g1,g2,g3,g4⟩=>by
      subst hs
      simp only
      by_cases h:((2 * bs * t + 2 * bs:Nat):Int) <= (n:Int)
      · left
        have s1:=g4 (2 * t) (nI _) (by rcases hbs with rfl | rfl <;> omega)
        have s2:=g4 (2 * t + 1) (by omega) (by rcases hbs with rfl | rfl <;> omega)
        have q1:bs * (2 * t)=2 * bs * t:=by rcases hbs with rfl | rfl <;> omega
        have q2:bs * (2 * t + 1)=2 * bs * t + bs:=by rcases hbs with rfl | rfl <;> omega
        rw [q1,nl (by omega)] at s1
        rw [q2,nl (by omega),show 2 * bs * t + bs + bs=2 * bs * t + 2 * bs by omega] at s2
        obtain ⟨l',e1,e2,e3,e4⟩:=wGy hc g1 hn (by omega) (by omega) (by omega) s1 s2
        have ew:w64 (((2 * bs * t + 2 * bs:Nat):Int) + ((2 * bs:Nat):Int))=((2 * bs * (t + 1) + 2 * bs:Nat):Int):=by
          rw [wDh (by omega)]
          rcases hbs with rfl | rfl <;> omega
        rw [if_pos h,wDh (by omega),e1,hD,ew]
        refine ⟨by rcases hbs with rfl | rfl <;> omega,_,rfl,l',by rw [show 2 * bs * t + 2 * bs=2 * bs * (t + 1) by rw [Nat.mul_add,Nat.mul_one]],e2,by rw [Nat.mul_add,Nat.mul_one];omega,fun s hs=>?_,fun s hs hs2=>?_⟩
        · by_cases c1:s=t
          · rw [c1];exact e3
          · exact (g3 s (by omega)).same (e4 _ _ (by rcases hbs with rfl | rfl <;> omega))
        · exact (g4 s (by omega) hs2).same (e4 _ _ (by rcases hbs with rfl | rfl <;> omega))
      · right
        rw [if_neg h]
        exact ⟨_,rfl,l,t,rfl,g1,g2,by omega,g3,g4⟩)
    (s0:=(l,0,((2 * bs:Nat):Int))) ⟨l,by simp,hl,by omega,fun s hs=>by omega,fun s _ hs=>hB s hs⟩ (by omega)
  rw [h1,hD]
  simp only
  rw [wDh (by omega)]
  have fin:∀ l':List Int,l'.length=n->(2 * bs * t < n->Srt K l' (2 * bs * t) n)->(∀ s,s < t->Srt K l' (2 * bs * s) (2 * bs * s + 2 * bs))->Blk K n (2 * bs) l':=fun l' _ g2 g3 s hs=>by
    by_cases c1:s=t
    · subst c1
      rw [np (by omega)]
      exact g2 hs
    · have:s < t:=by rcases hbs with rfl | rfl <;> omega
      have q:2 * bs * s + 2 * bs <= n:=by rcases hbs with rfl | rfl <;> omega
      rw [nl q]
      exact g3 s this
  have q1:bs * (2 * t)=2 * bs * t:=by rcases hbs with rfl | rfl <;> omega
  have q2:bs * (2 * t + 1)=2 * bs * t + bs:=by rcases hbs with rfl | rfl <;> omega
  by_cases h:((2 * bs * t + bs:Nat):Int) < (n:Int)
  · have s1:=h6 (2 * t) (nI _) (by omega)
    have s2:=h6 (2 * t + 1) (by omega) (by omega)
    rw [q1,nl (by omega)] at s1
    rw [q2,np (by omega)] at s2
    obtain ⟨l',e1,e2,e3,e4⟩:=wGy hc h2 hn (by omega) (by omega) (nI _) s1 s2
    rw [if_pos h,e1,hD]
    refine ⟨l',rfl,e2,fin l' e2 (fun _=>e3) fun s hs=>(h5 s hs).same (e4 _ _ (by rcases hbs with rfl | rfl <;> omega))⟩
  · rw [if_neg h]
    refine ⟨m,rfl,h2,fin m h2 (fun g=>?_) h5⟩
    have s1:=h6 (2 * t) (nI _) (by omega)
    rw [q1,np (by omega)] at s1
    exact s1
theorem wJU {K:Int->Int} {n:Nat} {c:(Int × Int)->Option Int} (hc:ByK K n c) (hn:n <= 64):∃ r,wAi (rng 0 n) c=some r/\r.Perm (rng 0 n)/\r.Pairwise (Lr K):=by
 unfold wAi wBH
 rw [wEq,Nat.sub_zero]
 obtain ⟨l,a,l',h1,h2,h3,h4⟩:=wHX hc hn
 rw [h1,hD]
 simp only
 rw [h2,hD]
 obtain ⟨r,g1,g2,g3⟩:=wDT (body:=fun (l88,x89) =>
  if x89 < (n:Int) then
   (iter (fun (l121,x122,x123) =>
    if x123 <= (n:Int) then
     (wAQ 1000 l121 x122 (w64 (x122 + x89)) x123 c).bind fun x146 =>
     some (.inl (x146,x123,w64 (x123 + (w64 (2 * x89)))))
    else
     esc (some (l121,x122))) big (l88,0,w64 (2 * x89))).bind fun (l107,x108) =>
   if (w64 (x108 + x89)) < (n:Int) then
    (wAQ 1000 l107 x108 (w64 (x108 + x89)) (n:Int) c).bind fun x182 =>
    some (.inl (x182,w64 (x89 * 2)))
   else
    some (.inl (l107,w64 (x89 * 2)))
  else
   esc (some l88)) (fun k s=>∃ l bs,s=(l,((bs:Nat):Int))/\(k=0/\bs=20 \/ k=1/\bs=40 \/ k=2/\bs=80)/\l.length=n/\Blk K n bs l) (fun r=>r.length=n/\Srt K r 0 n) 3
  (fun k s hk ⟨l,bs,hs,q1,q2,q3⟩=>by
   subst hs
   simp only
   by_cases h:((bs:Nat):Int) < (n:Int)
   ·left
    obtain ⟨l2,e1,e2,e3⟩:=wKC hc hn (bs:=bs) (by omega) (by omega) q2 q3
    rw [if_pos h,e1]
    exact ⟨by omega,_,rfl,l2,2 * bs,rfl,by omega,e2,e3⟩
   ·right
    rw [if_neg h]
    refine ⟨_,rfl,q2,?_⟩
    by_cases z:n=0
    ·subst z
     have:l=[]:=nY q2
     subst this
     exact ⟨kv _,ku⟩
    ·have:=q3 0 (by omega)
     rw [Nat.mul_zero,nZ,np (by omega)] at this
     exact this) (s0:=(l',20)) ⟨l',20,rfl,.inl ⟨rfl,rfl⟩,h3,h4⟩ (by omega)
 rw [g1,hD]
 refine ⟨r,rfl,?_⟩
 have:seg r 0 n=r:=by unfold seg;rw [List.drop_zero,ni (by omega)]
 unfold Srt at g3
 rwa [this] at g3
end Go.Proofs.Ytkedcbligiebkaa
namespace Go.Proofs.Ytkedcbligiebkaa
open Go.KL
theorem wKD (x a b:Int):wCU x a b=some (decide (a <= x) && decide (x <= b)):=by
 unfold wCU
 by_cases h:a <= x <;> simp [h]
theorem wKE {K V:Type} [DecidableEq K] {m:List (K × V)} {x y:K} {v:V}:wGU (wEC m x v) y=if y=x then some v else wGU m y:=by
 induction m with
 | nil=>simp only [wEC,wGU]
 | cons p m ih =>
  obtain ⟨a,u⟩:=p
  rw [wEC]
  by_cases h:x=a
  ·subst h
   rw [if_pos rfl,wGU,wGU]
   split <;> rfl
  ·rw [if_neg h,wGU,wGU,ih]
   by_cases h2:y=a
   ·rw [if_pos h2,if_neg (fun e:y=x=>h (e.symm.trans h2)),if_pos h2]
   ·rw [if_neg h2,if_neg h2]
theorem wKF {l:List Int} (hl:l.length <= 1000):wCb l=some (!decide l.Nodup):=by
 unfold wCb
 rw [wCi (by omega)]
 have key:∀ (m k:Nat) (t:List (Int × Bool)),k + m=l.length->(∀ n,wAs t n false=decide (n ∈ l.take k))->(l.take k).Nodup ->
   jn (forN (fun k20 l17 =>
  (idx l (↑k20:Int)).bind fun x41 =>
  if (wAs l17 x41 false)=true then
   esc (some true)
  else
   some (.inl (wEC l17 x41 true))) m k t) (fun _=>some false)=some (!decide l.Nodup):=by
  intro m
  induction m with
  | zero =>
   intro k t hk _ hn
   rw [ni (by omega)] at hn
   simp [forN,hn]
  | succ m ih =>
   intro k t hk ht hn
   have hlt:k < l.length:=by omega
   rw [forN,wEn hlt,hD,ht]
   by_cases c:gd l k ∈ l.take k
   ·have:¬ l.Nodup:=fun h=>by
     rw [<- nE k l,wFU hlt] at h
     exact (kR.1 h).2.2 _ c _ (by simp) rfl
    simp [c,this]
   ·rw [if_neg (by simpa using c)]
    simp only
    refine ih (k + 1) _ (by omega) (fun n=>?_) ?_
    ·unfold wAs at ht ⊢
     rw [wKE,wCp hlt]
     by_cases e:n=gd l k
     ·rw [if_pos e];simp [e]
     ·rw [if_neg e,ht];simp [e]
    ·rw [wCp hlt,kR]
     exact ⟨hn,by simp,fun a ha b hb e=>by simp at hb;subst hb;subst e;exact c ha⟩
 exact key l.length 0 [] (by omega) (fun n=>by simp [wAs,wGU]) (by simp)
theorem wJV {α:Type} [Inhabited α] {l:List α} {a:α} (h:a ∈ l):∃ i,i < l.length/\gd l i=a:=by
 obtain ⟨i,hi,e⟩:=nN h
 exact ⟨i,hi,by rw [wDg hi,e]⟩
theorem wJW {α:Type} [Inhabited α] {l:List α} {p:α->Int}:(l.map p).Nodup ↔ ∀ i,i < l.length->∀ j,j < i->p (gd l i) ≠ p (gd l j):=by
 rw [List.nodup_iff_pairwise_ne,kS]
 constructor
 ·intro h i hi j hj e
  have:=h j i (by simp;omega) (by simpa using hi) hj
  rw [kF,kF,<- wDg (by omega),<- wDg hi] at this
  exact this e.symm
 ·intro h i j hi hj hij e
  rw [nh] at hi hj
  rw [kF,kF,<- wDg hi,<- wDg hj] at e
  exact h j hj i hij e.symm
theorem wFy (a b:Int):wBS a b=some (if a < b then -1 else if b < a then 1 else 0):=by
 unfold wBS wCC
 simp only [not_true_eq_false,decide_false,hD,nP,if_false]
 split
 ·rfl
 ·split <;> rfl
end Go.Proofs.Ytkedcbligiebkaa
namespace Go.Proofs.Ytkedcbligiebkaa
open Go.KL
theorem wJX {a u:Int} (h:0 <= a) (hu:0 < u):a % u <= a:=by
 have h1:=Int.emod_add_mul_ediv a u
 have h2:=Int.mul_nonneg (Int.le_of_lt hu) (Int.ediv_nonneg h (Int.le_of_lt hu))
 omega
def okQ (x:wAI):Bool:=(decide (1 <= x.Bib) && decide (x.Bib <= 999)) && (decide (0 <= x.Time) && decide (x.Time <= 360000))
def okU (r:wAX):Prop:=(1 <= r.Unit/\r.Unit <= 600)/\0 <= r.Limit/\r.Limit <= 360000
instance (r:wAX):Decidable (okU r):=by unfold okU;exact inferInstance
def wJY (l:List wAI) (r:wAX):Int:=if 60 < l.length then 2 else if l.all okQ=true/\okU r then (if (l.map (·.Bib)).Nodup then 0 else 5) else 3
theorem wLK {l:List wAI} (hn:l.length <= 1000):wBB l wBC=some (l.all okQ):=by
 unfold wBB
 rw [wDw (p:=okQ) (z:=false) (fun x _=>by
  have:wBC x=some (okQ x):=by
   unfold wBC okQ
   rw [wKD,hD]
   by_cases h:(decide (1 <= x.Bib) && decide (x.Bib <= 999))=true
   ·rw [if_pos h,wKD,h];rfl
   ·rw [if_neg h,Bool.eq_false_iff.2 h];rfl
  simp only [this,hD];split <;> rfl) (by omega)]
 cases l.all okQ <;> rfl
theorem wIX {l:List wAI} (hl:l.length <= 1000) (r:wAX):wCB l r=some (wJY l r):=by
 unfold wCB wJY
 rw [wJu (bytes:=8) (f:=fun x:wAI=>x.Bib) (fun s _ r=>by rw [wLD]) (by omega) (by omega)]
 show (some (l.map (·.Bib))).bind _=_
 rw [hD]
 by_cases h0:60 < l.length
 ·rw [if_pos (by omega),if_pos h0]
 rw [if_neg (by omega),if_neg h0,wLK hl,hD]
 by_cases h1:l.all okQ=true
 case neg=>rw [if_neg h1,if_neg (fun h=>h1 h.1)]
 rw [if_pos h1,wKD,hD]
 by_cases h2:1 <= r.Unit/\r.Unit <= 600
 case neg=>rw [if_neg (by simp;omega),if_neg (fun h=>h2 h.2.1)]
 rw [if_pos (by simp;omega),wKD,hD]
 by_cases h3:0 <= r.Limit/\r.Limit <= 360000
 case neg=>rw [if_neg (by simp;omega),if_neg (fun h=>h3 h.2.2)]
 rw [if_pos (by simp;omega),wKF (by simpa using hl),hD,if_pos (show l.all okQ=true/\okU r from ⟨h1,h2,h3⟩)]
 by_cases h4:(l.map (·.Bib)).Nodup
 ·rw [if_neg (by simp [h4]),if_pos h4]
 ·rw [if_pos (by simp [h4]),if_neg h4]
structure wJZ (l:List wAI) (r:wAX):Prop where
 len:l.length <= 60
 bib:∀ x ∈ l,1 <= x.Bib/\x.Bib <= 999
 time:∀ x ∈ l,0 <= x.Time/\x.Time <= 360000
 unit:1 <= r.Unit/\r.Unit <= 600
 lim:0 <= r.Limit/\r.Limit <= 360000
 bibs:(l.map (·.Bib)).Nodup
theorem wFa {l:List wAI} {r:wAX}:wJY l r=0 ↔ wJZ l r:=by
 unfold wJY
 constructor
 ·intro h
  by_cases h0:60 < l.length
  ·rw [if_pos h0] at h;omega
  rw [if_neg h0] at h
  by_cases h1:l.all okQ=true/\okU r
  case neg=>rw [if_neg h1] at h;omega
  rw [if_pos h1] at h
  by_cases h2:(l.map (·.Bib)).Nodup
  case neg=>rw [if_neg h2] at h;omega
  have:=fun x hx=>na.1 h1.1 x hx
  simp only [okQ,nR,decide_eq_true_iff] at this
  exact ⟨by omega,fun x hx=>(this x hx).1,fun x hx=>(this x hx).2,h1.2.1,h1.2.2,h2⟩
 ·intro G
  have:=G.len
  rw [if_neg (by omega),if_pos ⟨na.2 fun x hx=>by
   have h1:=G.bib x hx
   have h2:=G.time x hx
   simp only [okQ,nR,decide_eq_true_iff]
   exact ⟨h1,h2⟩,G.unit,G.lim⟩,if_pos G.bibs]
def bst (l:List wAI):Int:=l.foldl (fun b x=>min b x.Time) 360000
theorem wKG {l:List wAI} {k:Nat} (hk:k < l.length):bst (l.take (k + 1))=min (bst (l.take k)) (gd l k).Time:=by
 unfold bst
 rw [wCp hk,List.foldl_append]
 rfl
theorem wLL (l:List wAI):∀ b:Int,l.foldl (fun b x=>min b x.Time) b <= b/\(∀ x ∈ l,l.foldl (fun b x=>min b x.Time) b <= x.Time)/\((∀ x ∈ l,0 <= x.Time)->0 <= b->0 <= l.foldl (fun b x=>min b x.Time) b):=by
 induction l with
 | nil=>intro b;exact ⟨ka _,fun x hx=>by simp at hx,fun _ h=>h⟩
 | cons a l ih =>
  intro b
  obtain ⟨h1,h2,h3⟩:=ih (min b a.Time)
  rw [List.foldl_cons]
  refine ⟨by omega,fun x hx=>?_,fun h0 hb=>h3 (fun x hx=>h0 x (kL _ hx)) (by have:=h0 a (List.mem_cons_self ..);omega)⟩
  rcases nb.1 hx with rfl | hx
  ·omega
  ·exact h2 x hx
def dfc (r:wAX) (best t:Int):Int:=min ((t - best) - (t - best) % r.Unit) r.Limit
def dfs (l:List wAI) (r:wAX):List Int:=l.map fun x=>dfc r (bst l) x.Time
theorem wKm {l:List wAI} {r:wAX} (G:wJZ l r):0 <= bst l/\bst l <= 360000/\∀ x ∈ l,bst l <= x.Time:=by
 have:=wLL l 360000
 exact ⟨this.2.2 (fun x hx=>(G.time x hx).1) (by omega),this.1,this.2.1⟩
theorem wMG {l:List wAI} {r:wAX} (G:wJZ l r) {x:wAI} (hx:x ∈ l):0 <= dfc r (bst l) x.Time/\dfc r (bst l) x.Time <= r.Limit/\dfc r (bst l) x.Time <= x.Time - bst l:=by
 have h1:=wKm G
 have h2:=h1.2.2 x hx
 have h3:=G.unit
 have h4:=G.lim
 have h5:=kZ (x.Time - bst l) (show r.Unit ≠ 0 by omega)
 have h6:=wJX (a:=x.Time - bst l) (u:=r.Unit) (by omega) (by omega)
 unfold dfc
 omega
theorem wHY {l:List wAI} {r:wAX} (hl:l.length <= 1000):wBo l r=some (if wJY l r=0 then dfs l r else [],wJY l r):=by
 unfold wBo
 rw [wIX hl,hD]
 by_cases h:wJY l r=0
 case neg=>rw [if_neg h,if_neg h]
 rw [if_pos h,if_pos h,h]
 have G:=wFa.1 h
 have B:=wKm G
 rw [wDb (s0:=(360000:Int)) (fun k=>bst (l.take k)) (by simp [bst]) (by omega) (fun i hi=>by rw [wEn hi,hD,wKG hi]),hD,nq]
 have hlen:=G.len
 rw [wDb (s0:=([]:List Int)) (fun k=>(l.take k).map fun x=>dfc r (bst l) x.Time) (by simp) (by omega) (fun i hi=>by
  have hx:=wBn hi
  have t:=G.time _ hx
  have b:=B.2.2 _ hx
  have u:=G.unit
  have em:=kZ ((gd l i).Time - bst l) (show r.Unit ≠ 0 by omega)
  have em2:=wJX (a:=(gd l i).Time - bst l) (u:=r.Unit) (by omega) (by omega)
  have e:w64 ((gd l i).Time - bst l)=(gd l i).Time - bst l:=wAY (by omega) (by omega)
  rw [wEn hi,hD,e,rem,if_neg (by omega),hD,nw (by omega),wAY (by omega) (by omega),wDr (by simp;omega),hD,wCp hi,nr]
  rfl),hD,nq]
 rfl
end Go.Proofs.Ytkedcbligiebkaa
namespace Go.Proofs.Ytkedcbligiebkaa
open Go.KL
def key (l:List wAI) (r:wAX) (i:Int):Int:=dfc r (bst l) (gd l i.toNat).Time * 400000 + (gd l i.toNat).Time
theorem or_is (a b:Int):wDA [a,b]=some (if a=0 then b else a):=by
 unfold wDA
 have e:((([a,b]:List Int).length:Nat):Int)=((2:Nat):Int):=rfl
 rw [e,wCi (by omega)]
 have i0:idx [a,b] ((0:Nat):Int)=some a:=rfl
 have i1:idx [a,b] ((0 + 1:Nat):Int)=some b:=rfl
 simp only [forN,i0,i1,hD]
 by_cases c:a=0
 ·rw [if_pos c,if_pos c]
  by_cases c2:b=0
  ·simp [c2]
  ·simp [c2]
 ·rw [if_neg c,if_neg c]
  rfl
theorem wHZ {l:List wAI} {r:wAX} {a b:Int} (ha:0 <= a/\a < l.length) (hb:0 <= b/\b < l.length):wBD a b (dfs l r) l=some (if (if dfc r (bst l) (gd l a.toNat).Time < dfc r (bst l) (gd l b.toNat).Time then (-1:Int) else if dfc r (bst l) (gd l b.toNat).Time < dfc r (bst l) (gd l a.toNat).Time then 1 else 0)=0 then (if (gd l a.toNat).Time < (gd l b.toNat).Time then (-1:Int) else if (gd l b.toNat).Time < (gd l a.toNat).Time then 1 else 0) else (if dfc r (bst l) (gd l a.toNat).Time < dfc r (bst l) (gd l b.toNat).Time then (-1:Int) else if dfc r (bst l) (gd l b.toNat).Time < dfc r (bst l) (gd l a.toNat).Time then 1 else 0)):=by
 unfold wBD
 have e:∀ {i:Int},0 <= i->i < l.length->idx l i=some (gd l i.toNat)/\idx (dfs l r) i=some (dfc r (bst l) (gd l i.toNat).Time):=fun {i} h1 h2=>by
  refine ⟨by unfold idx;rw [if_pos h1,wAk (by omega)],?_⟩
  unfold idx dfs
  rw [if_pos h1,wAk (by simp;omega),wGK _ (by omega)]
 rw [(e ha.1 ha.2).2,hD,(e hb.1 hb.2).2,hD,(e ha.1 ha.2).1,hD,(e hb.1 hb.2).1,hD,wFy,hD,wFy,hD,or_is,hD]
theorem byKey {l:List wAI} {r:wAX} (G:wJZ l r):ByK (key l r) (l.length:Int) (fun x=>wBD x.1 x.2 (dfs l r) l):=by
 intro a b a0 a1 b0 b1
 refine ⟨_,wHZ ⟨a0,a1⟩ ⟨b0,b1⟩,?_⟩
 have ta:=G.time _ (wBn (l:=l) (k:=a.toNat) (by omega))
 have tb:=G.time _ (wBn (l:=l) (k:=b.toNat) (by omega))
 unfold key
 generalize dfc r (bst l) (gd l a.toNat).Time=x
 generalize dfc r (bst l) (gd l b.toNat).Time=y
 generalize (gd l a.toNat).Time=s at ta ⊢
 generalize (gd l b.toNat).Time=t at tb ⊢
 by_cases c1:x < y
 ·rw [if_pos c1,if_neg (by decide)]
  constructor
  ·intro _;omega
  ·intro _;decide
 ·simp only [c1,if_false]
  by_cases c2:y < x
  ·rw [if_pos c2,if_neg (by decide)]
   constructor
   ·intro h;exact absurd h (by decide)
   ·intro h;omega
  ·simp only [c2,if_false,if_true]
   by_cases c3:s < t
   ·simp only [c3,if_true]
    constructor
    ·intro _;omega
    ·intro _;decide
   ·simp only [c3,if_false]
    by_cases c4:t < s
    ·simp only [c4,if_true]
     constructor
     ·intro h;exact absurd h (by decide)
     ·intro h;omega
    ·simp only [c4,if_false]
     constructor
     ·intro h;omega
     ·intro h;omega
structure Plc (l:List wAI) (r:wAX) (p:List Int):Prop where
 perm:p.Perm (rng 0 l.length)
 ord:p.Pairwise (Lr (key l r))
def stt (l:List wAI) (r:wAX) (i:Int):wBF:=⟨(gd l i.toNat).Bib,dfc r (bst l) (gd l i.toNat).Time,0⟩
theorem wJa {l:List wAI} {r:wAX} {p:List Int} (h:Plc l r p) {k:Nat} (hk:k < l.length):p.length=l.length/\0 <= gd p k/\gd p k < l.length:=by
 have hl:p.length=l.length:=by rw [h.perm.length_eq,wEq];omega
 have:=wID _ (h.perm.mem_iff.1 (wBn (l:=p) (k:=k) (by omega)))
 exact ⟨hl,by omega,this.2⟩
theorem wIY {l:List wAI} {r:wAX} (hl:l.length <= 1000):∃ p,(wJY l r=0->Plc l r p)/\wCD l r=some (if wJY l r=0 then p.map (stt l r) else [],wJY l r):=by
 unfold wCD
 rw [wHY hl,hD]
 by_cases h:wJY l r=0
 case neg=>exact ⟨[],fun e=>absurd e h,by simp only [if_neg h]⟩
 simp only [if_pos h]
 have G:=wFa.1 h
 have h60:=G.len
 rw [wDb (s0:=([]:List Int)) (fun k=>rng 0 k) rfl (by omega) (fun i hi=>by
  rw [wDr (by rw [wEq];simp;omega),hD]
  have:=wJR (a:=0) (m:=i) (b:=i + 1) (by omega) (by omega)
  rw [<- this]
  congr 2
  simp [rng]),hD]
 obtain ⟨p,e,hp,ho⟩:=wJU (byKey G) (by omega)
 rw [e,hD]
 have P:Plc l r p:=⟨hp,ho⟩
 have hpl:p.length=l.length:=by rw [hp.length_eq,wEq];omega
 refine ⟨p,fun _=>P,?_⟩
 rw [wDb (s0:=([]:List wBF)) (fun k=>(p.take k).map (stt l r)) (by simp) (by omega) (fun i hi=>by
  obtain ⟨_,g0,g1⟩:=wJa P (k:=i) (by omega)
  have e1:idx l (gd p i)=some (gd l (gd p i).toNat):=by unfold idx;rw [if_pos g0,wAk (by omega)]
  have e2:idx (dfs l r) (gd p i)=some (dfc r (bst l) (gd l (gd p i).toNat).Time):=by unfold idx dfs;rw [if_pos g0,wAk (by simp;omega),wGK _ (by omega)]
  rw [wAz (by omega) (by omega),hD,e1,hD,e2,hD,wDr (by simp;omega),hD,wCp hi,nr]
  rfl),hD,nq,h]
end Go.Proofs.Ytkedcbligiebkaa
namespace Go.Proofs.Ytkedcbligiebkaa
open Go.KL
theorem wJb {a b:Int} (h0:0 <= a) (hb:0 < b):∃ x,rem a b=some x/\0 <= x/\x < b:=by
 refine ⟨a.tmod b,if_neg (by omega),?_,?_⟩
 ·rw [nw h0];exact kZ _ (by omega)
 ·rw [nw h0];exact Int.emod_lt_of_pos _ hb
theorem wHa (x:Int):0 <= wDl x:=by unfold wDl;omega
theorem wLM (x:Int):wDl x < 4294967296:=by unfold wDl;omega
theorem w64u (x:Int):w64 (wDl x)=wDl x:=by
 have:=wHa x
 have:=wLM x
 exact wAY (by omega) (by omega)
theorem wKH (a:Int) {b:Int} (hb:b ≠ 0):∃ x,quo a b=some x:=⟨_,if_neg hb⟩
theorem wGS (d:wAL) (n:Int) (h0:0 <= d.next) (h1:d.next <= 1000000):∃ x d',wAa d n=some (x,d')/\0 <= d'.next/\d'.next <= d.next + 1/\0 <= x/\(x < n \/ (n <= 1/\x=0)):=by
 unfold wAa
 by_cases hn:n <= 1
 ·exact ⟨0,d,by rw [if_pos hn],h0,by omega,by omega,.inr ⟨hn,rfl⟩⟩
 rw [if_neg hn]
 by_cases hl:(d.bytes.length:Int)=0
 ·exact ⟨0,d,by rw [if_pos hl],h0,by omega,by omega,.inl (by omega)⟩
 rw [if_neg hl]
 obtain ⟨r,e1,r0,r1⟩:=wJb h0 (show (0:Int) < d.bytes.length by omega)
 obtain ⟨b,e2⟩:∃ b,idx d.bytes r=some b:=by
  unfold idx
  rw [if_pos r0,nT (by omega)]
  exact ⟨_,rfl⟩
 obtain ⟨q,e3⟩:=wKH d.next (b:=d.bytes.length) hl
 obtain ⟨st,e4,_,_⟩:=wJb (wHa ((wDl ((wDl ((wDl (d.state * 45)) + (wDl b))) + (wDl (77 * (wDl q))))) + 1)) (b:=65519) (by decide)
 rw [e1,hD,e2,hD,e3,hD,e4,hD,wAY (x:=d.next + 1) (by omega) (by omega)]
 have fin:∀ z:Int,∃ x d',((rem (w64 (wDl z)) n).bind fun x=>some (x,(⟨d.bytes,d.next + 1,st⟩:wAL)))=some (x,d')/\0 <= d'.next/\d'.next <= d.next + 1/\0 <= x/\(x < n \/ (n <= 1/\x=0)):=by
  intro z
  obtain ⟨x,e5,x0,x1⟩:=wJb (a:=w64 (wDl z)) (b:=n) (by rw [w64u];exact wHa z) (by omega)
  exact ⟨x,_,by rw [e5];rfl,by show 0 <= d.next + 1;omega,by show d.next + 1 <= _;omega,x0,.inl x1⟩
 by_cases c1:wDl q=0
 ·rw [if_pos c1]
  by_cases c2:n <= 256
  ·rw [if_pos c2];exact fin _
  ·rw [if_neg c2];exact fin _
 ·rw [if_neg c1];exact fin _
theorem wFb (d:wAL) (a b:Int) (h0:0 <= d.next) (h1:d.next <= 1000000) (ha:-1000000 <= a) (hab:a <= b) (hb:b <= 1000000):∃ x d',wAT d a b=some (x,d')/\0 <= d'.next/\d'.next <= d.next + 1/\a <= x/\x <= b:=by
 unfold wAT
 rw [wAY (x:=b - a) (by omega) (by omega),wAY (x:=b - a + 1) (by omega) (by omega)]
 obtain ⟨x,d',e,n0,n1,x0,x1⟩:=wGS d (b - a + 1) h0 h1
 refine ⟨a + x,d',?_,n0,n1,by omega,by omega⟩
 rw [e,hD]
 simp only
 rw [wAY (by omega) (by omega)]
end Go.Proofs.Ytkedcbligiebkaa
namespace Go.Proofs.Ytkedcbligiebkaa
open Go.KL
theorem wKI (v:Int) {n:Int} (h1:1 <= n) (h2:n <= 100000):∃ x,wBh v n=some x/\0 <= x/\x < n:=by
 unfold wBh
 rw [if_neg (by omega),rem,if_neg (by omega),hD]
 have a1:=Int.lt_tmod_of_pos v (show 0 < n by omega)
 have a2:=ko v (show 0 < n by omega)
 rw [wAY (by omega) (by omega)]
 have b1:=Int.tmod_nonneg n (a:=v.tmod n + n) (by omega)
 have b2:=ko (v.tmod n + n) (show 0 < n by omega)
 rw [rem,if_neg (by omega)]
 exact ⟨_,rfl,b1,b2⟩
end Go.Proofs.Ytkedcbligiebkaa
namespace Go.Proofs.Ytkedcbligiebkaa
open Go.KL Go.KL.Net
open Classical
theorem coinF (d:wAL) (n:Int) (h0:0 <= d.next) (h1:d.next <= 1000000):∃ b d',wAw d n=some (b,d')/\0 <= d'.next/\d'.next <= d.next + 1:=by
 obtain ⟨x,d',e,m0,m1,_⟩:=wGS d n h0 h1
 unfold wAw
 rw [e]
 exact ⟨_,_,rfl,m0,m1⟩
def frB (k67:Nat):List Int × Int × Int × List wAI->Option (List Int × Int × Int × List wAI):=fun (l58,x61,x62,l63) =>
  (wAa (⟨l58,x61,x62⟩:wAL) 60).bind fun (x95,x96) =>
  (app 16 l63 [(⟨(↑(k67 + 1):Int),w64 (9000 + (w64 (11 * x95)))⟩:wAI)]).bind fun x114 =>
  some (x96.bytes,x96.next,x96.state,x114)
theorem fr_is {n:Nat} (hn:n <= 7) {d:wAL} (d0:0 <= d.next) (d1:d.next <= 10):∃ b x s l,wBd 0 (n:Int) frB (d.bytes,d.next,d.state,[])=some (b,x,s,l)/\(0 <= x/\x <= 20)/\l.length=n/\∀ i,i < n->(gd l i).Bib=(i:Int) + 1/\9000 <= (gd l i).Time/\(gd l i).Time <= 12000:=by
 obtain ⟨⟨b,x,s,l⟩,e,I⟩:=wDc (n:=n) (body:=frB) (s0:=(d.bytes,d.next,d.state,[]))
  (fun (k:Nat) s=>(0 <= s.2.1/\s.2.1 <= 10 + (k:Int))/\s.2.2.2.length=k/\∀ i,i < k->(gd s.2.2.2 i).Bib=(i:Int) + 1/\9000 <= (gd s.2.2.2 i).Time/\(gd s.2.2.2 i).Time <= 12000) (by omega)
  ⟨by simp only;omega,rfl,fun _ h=>by omega⟩ (by
   rintro k ⟨b,x,s,l⟩ hk ⟨a1,a2,a3⟩
   simp only at a1 a2 a3 ⊢
   obtain ⟨v,d2,e2,p0,p1,v0,v1⟩:=wGS ⟨b,x,s⟩ 60 a1.1 (by simp only;omega)
   simp only at p1
   unfold frB
   simp only
   rw [e2,hD]
   simp only
   rw [wAY (x:=11 * v) (by omega) (by omega),wAY (by omega) (by omega),wDr (by simp only [nD,nK];omega),hD]
   refine ⟨_,rfl,by simp only;omega,by simp [a2],fun i hi=>?_⟩
   simp only
   by_cases c:i=k
   ·subst c
    rw [wGM a2]
    simp only
    omega
   ·rw [wDx (by omega)]
    exact a3 i (by omega))
 simp only at I
 exact ⟨b,x,s,l,e,⟨I.1.1,by omega⟩,I.2.1,I.2.2⟩
theorem wLN {l:List wAI} {u:Int} (hn:l.length <= 7) (hl:∀ i,i < l.length->(gd l i).Bib=(i:Int) + 1/\9000 <= (gd l i).Time/\(gd l i).Time <= 12000) (u0:1 <= u) (u1:u <= 50):wJZ l ⟨u,500⟩:=by
 refine ⟨by omega,fun x hx=>?_,fun x hx=>?_,by simp only;omega,by simp only;omega,wJW.2 fun i hi j hj=>?_⟩
 ·obtain ⟨i,hi,rfl⟩:=wJV hx
  have:=hl i hi
  omega
 ·obtain ⟨i,hi,rfl⟩:=wJV hx
  have:=hl i hi
  omega
 ·have a:=hl i hi
  have b:=hl j (by omega)
  omega
def fsB (k259:Nat):List Int × Int × Int × List wAA->Option (List Int × Int × Int × List wAA):=fun (l250,x253,x254,l255) =>
        (wAT (⟨l250,x253,x254⟩:wAL) 2 5).bind fun (x287,x288) =>
        (wAa x288 15).bind fun (x335,x336) =>
        (app 16 l255 [(⟨w64 (100 * x287),w64 ((w64 (100 * x287)) + (w64 (20 * x335)))⟩:wAA)]).bind fun x354 =>
        some (x336.bytes,x336.next,x336.state,x354)
theorem fs_is {n:Nat} (hn:n <= 3) {b0:List Int} {x0 s0:Int} (d0:0 <= x0) (d1:x0 <= 100):∃ b x s l,wBd 0 (n:Int) fsB (b0,x0,s0,[])=some (b,x,s,l)/\(0 <= x/\x <= 110)/\l.length=n/\∀ i,i < n->200 <= (gd l i).Lo/\(gd l i).Lo <= (gd l i).Hi/\(gd l i).Hi <= 800:=by
 obtain ⟨⟨b,x,s,l⟩,e,I⟩:=wDc (n:=n) (body:=fsB) (s0:=(b0,x0,s0,[]))
  (fun (k:Nat) s=>(0 <= s.2.1/\s.2.1 <= 100 + 2 * (k:Int))/\s.2.2.2.length=k/\∀ i,i < k->200 <= (gd s.2.2.2 i).Lo/\(gd s.2.2.2 i).Lo <= (gd s.2.2.2 i).Hi/\(gd s.2.2.2 i).Hi <= 800) (by omega)
  ⟨by simp only;omega,rfl,fun _ h=>by omega⟩ (by
   rintro k ⟨b,x,s,l⟩ hk ⟨a1,a2,a3⟩
   simp only at a1 a2 a3 ⊢
   obtain ⟨v,d2,e2,p0,p1,v0,v1⟩:=wFb ⟨b,x,s⟩ 2 5 a1.1 (by simp only;omega) (by omega) (by omega) (by omega)
   simp only at p1
   obtain ⟨u,d3,e3,q0,q1,u0,u1⟩:=wGS d2 15 p0 (by omega)
   unfold fsB
   simp only
   rw [e2,hD]
   simp only
   rw [e3,hD]
   simp only
   have w1:w64 (100 * v)=100 * v:=wAY (by omega) (by omega)
   have w2:w64 (20 * u)=20 * u:=wAY (by omega) (by omega)
   have w3:w64 (100 * v + 20 * u)=100 * v + 20 * u:=wAY (by omega) (by omega)
   rw [w1,w2,w3,wDr (by simp only [nD,nK];omega),hD]
   refine ⟨_,rfl,by simp only;omega,by simp [a2],fun i hi=>?_⟩
   simp only
   by_cases c:i=k
   ·subst c
    rw [wGM a2]
    simp only
    omega
   ·rw [wDx (by omega)]
    exact a3 i (by omega))
 simp only at I
 exact ⟨b,x,s,l,e,⟨I.1.1,by omega⟩,I.2.1,I.2.2⟩
def SpF (Sp:List wAA):Prop:=Sp.length <= 3/\∀ i,i < Sp.length->200 <= (gd Sp i).Lo/\(gd Sp i).Lo <= (gd Sp i).Hi/\(gd Sp i).Hi <= 800
structure wLO (m k:Nat) (A:Int) (g:Nat->Int) (i:Nat) (x:wAJ):Prop where
 s:x.Skier=(k:Int)
 c:x.Clock=0
 m:∃ q:Nat,x.Mat=(q:Int)/\1 <= q/\q <= i/\q <= m/\-3 <= x.Time - (A + wEB g q)/\x.Time - (A + wEB g q) <= 3
def fiB (Sp:List wAA) (k450 k547:Nat):List Int × Int × Int × List wAJ × Int->Option (List Int × Int × Int × List wAJ × Int):=fun (l538,x541,x542,l543,x546) =>
          (chk (↑k547:Int) Sp.length).bind fun _ =>
          (wAT (⟨l538,x541,x542⟩:wAL) ((gd Sp k547).Lo) ((gd Sp k547).Hi)).bind fun (x591,x592) =>
          (wAw x592 2).bind fun (x606,x607) =>
          if x606=true then
            (wAT x607 (-3) 3).bind fun (x656,x657) =>
            (app 32 l543 [(⟨(↑k450:Int),(↑(k547 + 1):Int),0,w64 ((w64 (x546 + x591)) + x656)⟩:wAJ)]).bind fun x675 =>
            some (x657.bytes,x657.next,x657.state,x675,w64 (x546 + x591))
          else
            some (x607.bytes,x607.next,x607.state,l543,w64 (x546 + x591))
theorem fi_is {Sp:List wAA} (H:SpF Sp) {k:Nat} {b:List Int} {x s t:Int} {R:List wAJ} (hR:R.length <= 100) (d0:0 <= x) (d1:x <= 1000) (t0:0 <= t) (t1:t <= 500):∃ b' x' s' R' g,wBd 0 (Sp.length:Int) (fiB Sp k) (b,x,s,R,t)=some (b',x',s',R',t + wEB g Sp.length)/\(0 <= x'/\x' <= x + 9)/\R'.length <= R.length + 3/\(∀ j,j < Sp.length->(gd Sp j).Lo <= g j/\g j <= (gd Sp j).Hi)/\∀ z ∈ R',z ∈ R \/ wLO Sp.length k t g Sp.length z:=by
 have h3:=H.1
 obtain ⟨⟨b',x',s',R',t'⟩,e,⟨I1,I4,g,I2,I3,I5⟩⟩:=wDc (n:=Sp.length) (body:=fiB Sp k) (s0:=(b,x,s,R,t))
  (fun (i:Nat) s=>(0 <= s.2.1/\s.2.1 <= x + 3 * (i:Int))/\s.2.2.2.1.length <= R.length + i/\∃ g:Nat->Int,(∀ j,j < i->(gd Sp j).Lo <= g j/\g j <= (gd Sp j).Hi)/\s.2.2.2.2=t + wEB g i/\∀ z ∈ s.2.2.2.1,z ∈ R \/ wLO Sp.length k t g i z) (by omega)
  ⟨by simp only;omega,nI _,fun _=>0,fun _ h=>(by omega),by simp only [wEB];omega,fun z hz=>.inl hz⟩ (by
   rintro i ⟨b2,x2,s2,R2,t2⟩ hi ⟨a1,a4,g,a2,a3,a5⟩
   simp only at a1 a2 a3 a4 a5 ⊢
   have sp:=H.2 i hi
   have bd:=wGN (f:=g) (b:=800) (m:=i) fun j hj=>by
    have:=H.2 j (by omega)
    have:=a2 j hj
    omega
   obtain ⟨v,d2,e2,p0,p1,v0,v1⟩:=wFb ⟨b2,x2,s2⟩ (gd Sp i).Lo (gd Sp i).Hi a1.1 (by simp only;omega) (by omega) (by omega) (by omega)
   simp only at p1
   obtain ⟨c,d3,e3,q0,q1⟩:=coinF d2 2 p0 (by omega)
   have w1:w64 (t2 + v)=t2 + v:=wAY (by omega) (by omega)
   have gs:∀ q,q <= i->wEB (fun j=>if j=i then v else g j) q=wEB g q:=fun q hq=>wFw fun j hj=>if_neg (by omega)
   have g1:t2 + v=t + wEB (fun j=>if j=i then v else g j) (i + 1):=by
    rw [wEB,gs i (nI _),a3]
    simp only [if_true]
    omega
   have near:∀ z,wLO Sp.length k t g i z->wLO Sp.length k t (fun j=>if j=i then v else g j) (i + 1) z:=fun z hz=>by
    obtain ⟨q,h1,h2,h3,h4,h5⟩:=hz.m
    exact ⟨hz.s,hz.c,q,h1,h2,by omega,h4,by rw [gs q h3];exact h5⟩
   have gr:∀ j,j < i + 1->(gd Sp j).Lo <= (if j=i then v else g j)/\(if j=i then v else g j) <= (gd Sp j).Hi:=fun j hj=>by
    by_cases e:j=i
    ·rw [if_pos e,e];exact ⟨v0,v1⟩
    ·rw [if_neg e];exact a2 j (by omega)
   unfold fiB
   simp only
   rw [wAz (by omega) (by omega),hD,e2,hD]
   simp only
   rw [e3,hD]
   simp only
   by_cases hc:c=true
   ·obtain ⟨u,d4,e4,r0,r1,u0,u1⟩:=wFb d3 (-3) 3 q0 (by omega) (by omega) (by omega) (by omega)
    rw [if_pos hc,e4,hD]
    simp only
    rw [w1,wAY (by omega) (by omega),wDr (by simp only [nD,nK];omega),hD]
    refine ⟨_,rfl,by simp only;omega,by simp only [hH,nD,nK];omega,_,gr,by simp only;exact g1,fun z hz=>?_⟩
    simp only at hz
    rcases nX.1 hz with hz | hz
    ·rcases a5 z hz with h | h
     ·exact .inl h
     ·exact .inr (near z h)
    ·rw [nU] at hz
     subst hz
     exact .inr ⟨rfl,rfl,i + 1,rfl,by omega,nI _,by omega,by simp only;rw [<- g1];omega,by simp only;rw [<- g1];omega⟩
   ·rw [if_neg hc,w1]
    refine ⟨_,rfl,by simp only;omega,by simp only;omega,_,gr,by simp only;exact g1,fun z hz=>?_⟩
    rcases a5 z hz with h | h
    ·exact .inl h
    ·exact .inr (near z h))
 simp only at I1 I3 I4 I5
 exact ⟨b',x',s',R',g,by rw [e,I3],⟨I1.1,by omega⟩,by omega,I2,I5⟩
def foB (L:List wBF) (Sp:List wAA) (k450:Nat):List Int × Int × Int × List Int × List wAJ->Option (List Int × Int × Int × List Int × List wAJ):=fun (l437,x440,x441,l442,l446) =>
        (chk (↑k450:Int) L.length).bind fun _ =>
        (app 8 l442 [(gd L k450).Time]).bind fun x498 =>
        (wBd 0 (↑Sp.length:Int) (fiB Sp k450) (l437,x440,x441,l446,(gd L k450).Time)).bind fun (y552,y553,y554,y555,y556) =>
        some (y552,y553,y554,x498,y555)
theorem fo_is {L:List wBF} {Sp:List wAA} (H:SpF Sp) (hL:L.length <= 7) (ht:∀ k,k < L.length->0 <= (gd L k).Time/\(gd L k).Time <= 500) {b:List Int} {x s:Int} (d0:0 <= x) (d1:x <= 200):∃ b' x' s' A R,wBd 0 (L.length:Int) (foB L Sp) (b,x,s,[],[])=some (b',x',s',A,R)/\A.length=L.length/\R.length <= 21/\(∀ k,k < L.length->0 <= gd A k/\gd A k <= 500)/\∃ G:Nat->Nat->Int,(∀ k,k < L.length->∀ j,j < Sp.length->(gd Sp j).Lo <= G k j/\G k j <= (gd Sp j).Hi)/\∀ z ∈ R,∃ k,k < L.length/\wLO Sp.length k (gd A k) (G k) Sp.length z:=by
 obtain ⟨⟨b',x',s',A,R⟩,e,I1,I2,I3,I4,G,I5,I6⟩:=wDc (n:=L.length) (body:=foB L Sp) (s0:=(b,x,s,[],[]))
  (fun (k:Nat) s=>(0 <= s.2.1/\s.2.1 <= 200 + 9 * (k:Int))/\s.2.2.2.1.length=k/\s.2.2.2.2.length <= 3 * k/\(∀ i,i < k->0 <= gd s.2.2.2.1 i/\gd s.2.2.2.1 i <= 500)/\∃ G:Nat->Nat->Int,(∀ i,i < k->∀ j,j < Sp.length->(gd Sp j).Lo <= G i j/\G i j <= (gd Sp j).Hi)/\∀ z ∈ s.2.2.2.2,∃ i,i < k/\wLO Sp.length i (gd s.2.2.2.1 i) (G i) Sp.length z) (by omega)
  ⟨by simp only;omega,rfl,by simp,fun _ h=>(by omega),fun _ _=>0,fun _ h=>(by omega),fun z hz=>by cases hz⟩ (by
   rintro k ⟨b2,x2,s2,A,R⟩ hk ⟨a1,a2,a3,a4,G,a5,a6⟩
   simp only at a1 a2 a3 a4 a5 a6 ⊢
   have tk:=ht k hk
   obtain ⟨b3,x3,s3,R3,g,e2,p,hl,hg,hz⟩:=fi_is H (k:=k) (b:=b2) (s:=s2) (R:=R) (by omega) a1.1 (by omega) tk.1 tk.2
   unfold foB
   simp only
   rw [wAz (by omega) (by omega),hD,wDr (by simp only [nD,nK];omega),hD,e2,hD]
   simp only
   refine ⟨_,rfl,by simp only;omega,by simp [a2],by simp only;omega,fun i hi=>?_,fun i=>if i=k then g else G i,fun i hi j hj=>?_,fun z hzz=>?_⟩
   ·simp only
    by_cases c:i=k
    ·subst c;rw [wGM a2];exact tk
    ·rw [wDx (by omega)];exact a4 i (by omega)
   ·by_cases c:i=k
    ·simp only [c,if_true];exact hg j hj
    ·simp only [c,if_false];exact a5 i (by omega) j hj
   ·simp only at hzz ⊢
    rcases hz z hzz with h | h
    ·obtain ⟨i,hi,N⟩:=a6 z h
     exact ⟨i,by omega,by rw [wDx (by omega),if_neg (by omega)];exact N⟩
    ·exact ⟨k,by omega,by rw [wGM a2,if_pos rfl];exact h⟩)
 simp only at I2 I3 I4 I5 I6
 exact ⟨b',x',s',A,R,e,I2,by omega,I4,G,I5,I6⟩
end Go.Proofs.Ytkedcbligiebkaa
namespace Go.Proofs.Ytkedcbligiebkaa
open Go.KL
def cn (p:Nat->Bool):Nat->Nat
 | 0=>0
 | k + 1=>cn p k + if p k=true then 1 else 0
theorem wMH (p:Nat->Bool):∀ n,cn p n <= n
 | 0=>nI _
 | n + 1=>by
  have:=wMH p n
  simp only [cn]
  split <;> omega
theorem wKn {α:Type} [Inhabited α] {l:List α} {k:Nat} (h:k < l.length):idx l (k:Int)=some (gd l k):=by
 rw [wFG]
 unfold gd
 rw [nO,nT h]
 rfl
def pLo (l:List wAA) (i j:Nat):Bool:=decide (j ≠ i) && decide ((gd l j).Hi < (gd l i).Lo)
def pHi (l:List wAA) (i j:Nat):Bool:=decide (j ≠ i) && decide ((gd l j).Lo < (gd l i).Hi)
def plc (l:List wAA) (i:Nat):wAA:=⟨1 + (cn (pLo l i) l.length:Int),1 + (cn (pHi l i) l.length:Int)⟩
def wLZ (l:List wAA):List wAA:=(nB l.length).map (plc l)
def wHb (l:List wAA):List wAA × Int :=
 if 40 < l.length then ([],2) else if l.all (fun s=>decide (s.Lo <= s.Hi))=true then (wLZ l,0) else ([],3)
theorem wLP {l:List wAA} {f:wAA->Option Bool} {p:wAA->Bool} (hf:∀ a,f a=some (p a)) (hn:l.length <= 9223372036854775807):wBM l f=some (l.all p):=by
 unfold wBM wAg wAj wAv
 have:=wIM (R:=Int) (l:=l) (f:=fun x=>(f x).bind fun x5=>some (!x5)) (p:=fun a=>!p a) (fun a _=>by rw [hf];rfl) hn id
 simp only [id] at this
 rw [this]
 simp only [hD,wGm]
 congr 1
 clear this hn
 induction l with
 | nil=>rfl
 | cons a l ih=>rw [List.any_cons,kD,<- ih];cases p a <;> simp
theorem wJc (f:Nat->wAA) (i:Nat):(nB i).map f ++ [f i]=(nB (i + 1)).map f:=by
 rw [kK,nr];rfl
section
variable {l:List wAA} (hn:l.length <= 1000)
include hn
theorem e1 (p:Nat->Bool) {k:Nat} (hk:k < l.length):w64 (1 + (cn p k:Int) + 1)=1 + ((cn p k + 1:Nat):Int):=by
 have:=wMH p k
 rw [wAY (by omega) (by omega)]
 omega
theorem wGz:wBk l=some (wHb l):=by
 unfold wBk wHb
 by_cases h40:40 < l.length
 ·rw [if_pos (by omega),if_pos h40]
 rw [if_neg (by omega),if_neg h40,wLP (f:=wBU) (p:=fun s=>decide (s.Lo <= s.Hi)) (fun a=>rfl) (by omega),hD]
 by_cases ha:l.all (fun s=>decide (s.Lo <= s.Hi))=true
 ·rw [if_pos ha,if_pos ha,wCJ (by omega)]
  obtain ⟨y,y1,y2⟩:=wDC (S:=List wAA) (body:=fun k36 l32 =>
    (idx l (↑k36:Int)).bind fun x60 =>
    (wBd 0 (↑l.length:Int) (fun k93 (x91,x92) =>
     (idx l (↑k93:Int)).bind fun x122 =>
     if (↑k93:Int)=(↑k36:Int) then
      some (x91,x92)
     else
      if x122.Hi < x60.Lo then
       if x122.Lo < x60.Hi then
        some (w64 (x91 + 1),w64 (x92 + 1))
       else
        some (w64 (x91 + 1),x92)
      else
       if x122.Lo < x60.Hi then
        some (x91,w64 (x92 + 1))
       else
        some (x91,x92)) (1,1)).bind fun (y98,y99) =>
    (app 16 l32 [(⟨y98,y99⟩:wAA)]).bind fun x193 =>
    some x193) (fun i r=>r=(nB i).map (plc l)) l.length 0 [] rfl
   (by
    intro i r _ hi hr
    rw [wKn (by omega),hD,wCJ (by omega)]
    obtain ⟨z,z1,z2⟩:=wDC (S:=Int × Int) (body:=fun k93 (x91,x92) =>
     (idx l (↑k93:Int)).bind fun x122 =>
     if (↑k93:Int)=(↑i:Int) then
      some (x91,x92)
     else
      if x122.Hi < (gd l i).Lo then
       if x122.Lo < (gd l i).Hi then
        some (w64 (x91 + 1),w64 (x92 + 1))
       else
        some (w64 (x91 + 1),x92)
      else
       if x122.Lo < (gd l i).Hi then
        some (x91,w64 (x92 + 1))
       else
        some (x91,x92)) (fun k s=>s=(1 + (cn (pLo l i) k:Int),1 + (cn (pHi l i) k:Int))) l.length 0 (1,1) rfl
     (by
      rintro k s _ hk rfl
      refine ⟨_,?_,rfl⟩
      simp only [wKn (show k < l.length by omega),hD]
      by_cases hki:k=i
      ·subst hki
       simp [cn,pLo,pHi]
      ·rw [if_neg (by omega)]
       by_cases h1:(gd l k).Hi < (gd l i).Lo <;> by_cases h2:(gd l k).Lo < (gd l i).Hi <;> simp [cn,pLo,pHi,hki,h1,h2,e1 hn _ (show k < l.length by omega)])
    rw [z1,z2,hD,nZ]
    subst hr
    simp only
    rw [wDr (by simp;omega),hD]
    exact ⟨_,rfl,wJc (plc l) i⟩)
  rw [y1,y2,nZ,hD]
  rfl
 ·rw [if_neg ha,if_neg ha]
end
end Go.Proofs.Ytkedcbligiebkaa
namespace Go.Proofs.Ytkedcbligiebkaa
open Go.KL Go.KL.Net
theorem wLQ {r:wAD} (C:RC r):wHT r=0:=by
 unfold wHT
 rw [if_neg (fun h=>h C.n),if_neg (by have:=C.m;omega),if_neg (by have:=C.c;omega),if_neg (by have:=C.q;omega),if_pos (na.2 fun s hs=>by
  have:=C.st s hs
  unfold stP inB
  rw [decide_eq_true_eq];omega),if_pos (na.2 fun s hs=>by
  have:=C.sp s hs
  unfold spP wJw
  rw [decide_eq_true_eq];omega),if_pos (na.2 fun s hs=>by
  have:=C.ck s hs
  unfold ckP wJw inB
  rw [nR,decide_eq_true_eq,decide_eq_true_eq];omega),if_pos (na.2 fun s hs=>by
  have:=C.rt s hs
  unfold rtP inB
  rw [decide_eq_true_eq];omega),if_pos (na.2 fun s hs=>by
  have:=C.ru s hs
  unfold ruP inB
  rw [nR,nR,decide_eq_true_eq,decide_eq_true_eq,decide_eq_true_eq];omega)]
end Go.Proofs.Ytkedcbligiebkaa
namespace Go.Proofs.Ytkedcbligiebkaa
open Go.KL Go.KL.Net
open Classical
theorem wLR (p:Nat->Bool):∀ n:Nat,cn p n=(nB n).countP p
 | 0=>rfl
 | n + 1=>by
  rw [cn,wLR p n,kK,kl]
  congr 1
  by_cases h:p n=true
  ·rw [if_pos h];simp [h]
  ·rw [if_neg h];simp [h]
def wEv (c:Int) (R:List wAJ):List wAJ:=R.map fun x=>⟨x.Skier,x.Mat,c,x.Time⟩
theorem wIZ (c d:Int) (R:List wAJ):wEv c (wEv d R)=wEv c R:=by
 unfold wEv
 rw [kW]
 rfl
theorem wJd {c:Int} {R:List wAJ} (h:∀ x ∈ R,x.Clock=c):wEv c R=R:=by
 unfold wEv
 rw [show R=R.map id from (List.map_id R).symm,kW]
 exact kM fun x hx=>by
  have e:=h x (by simpa using hx)
  obtain ⟨a,b,c',t⟩:=x
  simp only at e
  subst e
  rfl
theorem wMI {l:List wAJ} (hl:l.length <= 100) (c:Int):wBd 0 (↑l.length:Int) (fun k837 l836 =>
          (chk (↑k837:Int) l836.length).bind fun _ =>
          some (nJ l836 k837 (⟨(gd l836 k837).Skier,(gd l836 k837).Mat,c,(gd l836 k837).Time⟩:wAJ))) l=some (wEv c l):=by
  obtain ⟨s,e,I1,I2⟩:=wDc (n:=l.length) (body:=fun k837 (l836:List wAJ) =>
          (chk (↑k837:Int) l836.length).bind fun _ =>
          some (nJ l836 k837 (⟨(gd l836 k837).Skier,(gd l836 k837).Mat,c,(gd l836 k837).Time⟩:wAJ))) (s0:=l)
    (fun k s=>s.length=l.length/\∀ j,j < l.length->gd s j=if j < k then ⟨(gd l j).Skier,(gd l j).Mat,c,(gd l j).Time⟩ else gd l j) (by omega) ⟨rfl,fun j _=>(if_neg (by omega)).symm⟩ fun k s hk ⟨a1,a2⟩=>by
      refine ⟨_,by rw [wAz (by omega) (by omega),hD],by rw [ng];exact a1,fun j hj=>?_⟩
      rw [wGo (by omega) (by omega)]
      by_cases e:j=k
      · rw [if_pos e,if_pos (by omega),a2 k hk,if_neg (by omega),e]
      · rw [if_neg e,a2 j hj]
        by_cases h:j < k
        · rw [if_pos h,if_pos (by omega)]
        · rw [if_neg h,if_neg (by omega)]
  rw [e]
  refine congrArg some (wJA (by rw [I1];unfold wEv;rw [nh]) fun k hk=>?_)
  rw [I2 k (by omega),if_pos (by omega)]
  unfold wEv
  rw [wGK _ (by omega)]
def KF:List wAF:=[⟨⟨0,0⟩,3⟩,⟨⟨-20,20⟩,3⟩]
structure MkF (A:List Int) (Sp:List wAA) (R:List wAJ) (G:Nat->Nat->Int):Prop where
 n:1 <= A.length/\A.length <= 6
 m:1 <= Sp.length
 H:SpF Sp
 a:∀ k,k < A.length->0 <= gd A k/\gd A k <= 500
 q:R.length <= 21
 g:∀ k,k < A.length->∀ j,j < Sp.length->(gd Sp j).Lo <= G k j/\G k j <= (gd Sp j).Hi
 r:∀ z ∈ R,∃ k,k < A.length/\wLO Sp.length k (gd A k) (G k) Sp.length z
theorem errKF {c:Int} (hc:c=0 \/ c=1):(gd KF c.toNat).Error=3:=by rcases hc with rfl | rfl <;> rfl
theorem wLS {A:List Int} {Sp:List wAA} {R:List wAJ} {G:Nat->Nat->Int} (M:MkF A Sp R G) {c:Int} (hc:c=0 \/ c=1):RC ⟨A,Sp,KF,wEv c R⟩/\∃ y,wDG ⟨A,Sp,KF,wEv c R⟩ y:=by
 have h3:=M.H.1
 have hn:=M.n
 have hq:=M.q
 have gpos:∀ k,k < A.length->∀ q,q <= Sp.length->0 <= wEB (G k) q/\wEB (G k) q <= 800 * (q:Int):=fun k hk q hq=>wGN fun j hj=>by
  have:=M.H.2 j (by omega)
  have:=M.g k hk j (by omega)
  omega
 have one:∀ k,k < A.length->∀ q,1 <= q->q <= Sp.length->200 <= wEB (G k) q:=fun k hk q h1 h2=>by
  obtain ⟨q,rfl⟩:∃ p,q=p + 1:=⟨q - 1,by omega⟩
  have a:=(gpos k hk q (by omega)).1
  have b:=M.g k hk q (by omega)
  have d:=M.H.2 q (by omega)
  rw [wEB]
  omega
 have C:RC ⟨A,Sp,KF,wEv c R⟩:=by
  refine ⟨by simp only;omega,by simp only;omega,by simp [KF],by unfold wEv;simp only [nh];omega,fun s hs=>?_,fun s hs=>?_,fun s hs=>?_,fun x hx=>?_,fun x hx=>?_⟩
  ·obtain ⟨k,hk,rfl⟩:=wGu hs
   simp only at hk ⊢
   have:=M.a k hk
   omega
  ·obtain ⟨k,hk,rfl⟩:=wGu hs
   simp only at hk ⊢
   have:=M.H.2 k hk
   omega
  ·simp only [KF,nb,List.not_mem_nil,or_false] at hs
   rcases hs with rfl | rfl <;> simp only <;> omega
  ·simp only [wEv,nW] at hx
   obtain ⟨z,hz,rfl⟩:=hx
   obtain ⟨k,hk,N⟩:=M.r z hz
   obtain ⟨q,h1,h2,h3',h4,h5,h6⟩:=N.m
   have a:=M.a k hk
   have b:=gpos k hk q (by omega)
   have d:=one k hk q h2 (by omega)
   simp only
   omega
  ·simp only [wEv,nW] at hx
   obtain ⟨z,hz,rfl⟩:=hx
   obtain ⟨k,hk,N⟩:=M.r z hz
   obtain ⟨q,h1,h2,h3',h4,h5,h6⟩:=N.m
   have s:=N.s
   simp only [KF,nD,nK]
   omega
 refine ⟨C,fun p=>if p.skier=-1 then 0 else gd A p.skier.toNat + wEB (G p.skier.toNat) p.mat.toNat,?_⟩
 rw [wIS]
 have ys:∀ s k:Nat,(if (⟨(s:Int),(k:Int)⟩:Pt).skier=-1 then 0 else gd A (⟨(s:Int),(k:Int)⟩:Pt).skier.toNat + wEB (G (⟨(s:Int),(k:Int)⟩:Pt).skier.toNat) (⟨(s:Int),(k:Int)⟩:Pt).mat.toNat)=gd A s + wEB (G s) k:=fun s k=>by
  rw [if_neg (show ¬ (s:Int)=-1 by omega)]
  simp only [nH]
 refine ⟨fun s hs=>?_,fun s k hs hk=>?_,fun k hk=>?_,fun x hx=>?_⟩
 ·have:=ys s 0
  rw [show ((0:Nat):Int)=0 from rfl] at this
  show (if (⟨(s:Int),0⟩:Pt).skier=-1 then (0:Int) else _)=(if (zp:Pt).skier=-1 then (0:Int) else _) + gd A s
  rw [this,if_pos (show (zp:Pt).skier=-1 from rfl)]
  simp only [wEB]
  omega
 ·simp only at hs hk
  have a:=ys s k
  have b:=ys s (k + 1)
  rw [show ((k + 1:Nat):Int)=(k:Int) + 1 by omega] at b
  have d:=M.g s hs k hk
  simp only at a b ⊢
  rw [a,b,wEB]
  omega
 ·simp only [KF,nD,nK] at hk
  simp only [if_true,show (zp:Pt).skier=-1 from rfl]
  match k,hk with
  | 0,_=>exact ⟨by decide,by decide⟩
  | 1,_=>exact ⟨by decide,by decide⟩
  | k + 2,hk=>omega
 ·simp only [wEv,nW] at hx
  obtain ⟨z,hz,rfl⟩:=hx
  obtain ⟨k,hk,N⟩:=M.r z hz
  obtain ⟨q,h1,h2,h3',h4,h5,h6⟩:=N.m
  have s:=N.s
  have e:=errKF hc
  have a:=ys k q
  simp only at a ⊢
  rw [e,s,h1,a]
  simp only [if_true]
  omega
theorem wKJ {A:List Int} {Sp:List wAA} {R:List wAJ} {G:Nat->Nat->Int} (M:MkF A Sp R G) {c:Int} (hc:c=0 \/ c=1):∃ E P:List wAA,E.length=A.length/\P.length=A.length /\
  (∀ i,i < A.length->wCF ⟨A,Sp,KF,wEv c R⟩ ⟨(i:Int),(Sp.length:Int)⟩=some (gd E i,0)/\(gd E i).Lo <= (gd E i).Hi/\gd A i < (gd E i).Lo) /\
  wBm ⟨A,Sp,KF,wEv c R⟩ (Sp.length:Int)=some (P,0)/\wBk E=some (wLZ E,0) /\
  ∀ i,i < A.length->(c=0->gd P i=plc E i)/\(plc E i).Lo <= (gd P i).Lo/\(gd P i).Hi <= (plc E i).Hi:=by
 obtain ⟨C,y0,Y0⟩:=wLS M hc
 generalize er:(⟨A,Sp,KF,wEv c R⟩:wAD)=r at C Y0
 have eA:r.Starts=A:=by rw [<- er]
 have eS:r.Splits=Sp:=by rw [<- er]
 have eK:r.Clocks=KF:=by rw [<- er]
 have eR:r.Readings=wEv c R:=by rw [<- er]
 have hn:=C.n;have hm:=C.m;have hcl:=C.c;have hq:=C.q
 have S:wEX r:=⟨by omega,by omega,by omega,by omega⟩
 have c0:=wLQ C
 have hn6:=M.n
 have m1:(0:Int) <= (Sp.length:Int):=by omega
 have m2:(Sp.length:Int) <= (r.Splits.length:Int):=by rw [eS];omega
 have pok:∀ i:Nat,i < A.length->wFW r ⟨(i:Int),(Sp.length:Int)⟩:=fun i hi=>.inr (.inl ⟨by simp only;omega,by simp only;rw [eA];omega,m1,m2⟩)
 obtain ⟨f,hf⟩:=wKk S c0 ⟨_,Y0⟩ (a:=zp) (.inl rfl)
 have hg:∀ i:Nat,∃ g:Pt->Int,i < A.length->IsDP r ⟨(i:Int),(Sp.length:Int)⟩ g:=fun i=>by
  by_cases hi:i < A.length
  ·obtain ⟨g,h⟩:=wKk S c0 ⟨_,Y0⟩ (pok i hi)
   exact ⟨g,fun _=>h⟩
  ·exact ⟨fun _=>0,fun h=>absurd h hi⟩
 obtain ⟨g,hg⟩:=kY hg
 have sb:∀ i:Nat,i < A.length->wEy r [⟨(i:Int),(Sp.length:Int)⟩]=0:=fun i hi=>by
  unfold wEy
  rw [if_pos c0,if_pos (by
   simp only [kD,km,kf,wHU,inB,nR,decide_eq_true_eq,eA,eS]
   omega),if_pos ⟨_,Y0⟩]
 have el:((nB A.length).map fun i=>(⟨-g i zp,f ⟨(i:Int),(Sp.length:Int)⟩⟩:wAA)).length=A.length:=by simp
 have eg:∀ i,i < A.length->gd ((nB A.length).map fun i=>(⟨-g i zp,f ⟨(i:Int),(Sp.length:Int)⟩⟩:wAA)) i=⟨-g i zp,f ⟨(i:Int),(Sp.length:Int)⟩⟩:=fun i hi=>wJx _ hi
 have lh:∀ i,i < A.length->-g i zp <= f ⟨(i:Int),(Sp.length:Int)⟩:=fun i hi=>by
  have h:=hg i hi
  have a:=h.gr _ hf.ok zp (.inl rfl)
  have z:=hf.zero
  omega
 have low:∀ i,i < A.length->gd A i < -g i zp:=fun i hi=>by
  have h:=hg i hi
  have z:=h.zero
  have s:=(wLy h.ok (s:=i) (by rw [eA];exact hi) Sp.length (by rw [eS];exact nI _)).1
  rw [eA,eS,z] at s
  have p:200 <= wEB (fun j=>(gd Sp j).Lo) Sp.length:=by
   have hm1:=M.m
   obtain ⟨q,e⟩:∃ q,Sp.length=q + 1:=⟨Sp.length - 1,by omega⟩
   have a:=(wGN (f:=fun j=>(gd Sp j).Lo) (b:=800) (m:=q) fun j hj=>by have:=M.H.2 j (by omega);omega).1
   have b:=M.H.2 q (by omega)
   rw [e,wEB]
   omega
  omega
 have pl:=(wJN S (Sp.length:Int)).2 (by
  have:=sb 0 (by omega)
  exact this) g (fun i hi=>hg i (by rw [eA] at hi;exact hi))
 rw [eA] at pl
 refine ⟨(nB A.length).map fun i=>⟨-g i zp,f ⟨(i:Int),(Sp.length:Int)⟩⟩,_,el,by simp [plL],fun i hi=>?_,pl,?_,fun i hi=>?_⟩
 ·rw [eg i hi]
  exact ⟨(wJy S _).2 (sb i hi) f (g i) hf (hg i hi),lh i hi,low i hi⟩
 ·rw [wGz (by rw [el];omega)]
  unfold wHb
  rw [if_neg (by rw [el];omega),if_pos (na.2 fun x hx=>by
   obtain ⟨i,hi,rfl⟩:=nW.1 hx
   exact decide_eq_true (lh i (nf.1 hi)))]
 ·have pg:gd (plL A.length fun i j=>g i ⟨(j:Int),(Sp.length:Int)⟩) i=⟨1 + ((ahK (fun i j=>g i ⟨(j:Int),(Sp.length:Int)⟩) i A.length).length:Int),1 + (beK (fun i j=>g i ⟨(j:Int),(Sp.length:Int)⟩) i A.length:Int)⟩:=by
   unfold plL
   rw [wJx _ hi]
  have ah:(ahK (fun i j=>g i ⟨(j:Int),(Sp.length:Int)⟩) i A.length).length=(nB A.length).countP fun (j:Nat)=>decide (g i ⟨(j:Int),(Sp.length:Int)⟩ < 0):=by
   unfold ahK
   rw [nh,List.countP_eq_length_filter]
  rw [pg]
  unfold plc
  simp only
  rw [wLR,wLR,el,ah]
  unfold beK
  dsimp only
  have gz:g i ⟨(i:Int),(Sp.length:Int)⟩=0:=(hg i hi).zero
  have le1:∀ j:Nat,j < A.length->g i ⟨(j:Int),(Sp.length:Int)⟩ <= f ⟨(j:Int),(Sp.length:Int)⟩ + g i zp:=fun j hj=>wHW (by rw [eA];exact hj) m1 m2 hf (hg i hi)
  have le2:∀ j:Nat,j < A.length->g j ⟨(i:Int),(Sp.length:Int)⟩ <= f ⟨(i:Int),(Sp.length:Int)⟩ + g j zp:=fun j hj=>wHW (by rw [eA];exact hi) m1 m2 hf (hg j hj)
  have pl:∀ j:Nat,j < A.length->(pLo ((nB A.length).map fun i=>(⟨-g i zp,f ⟨(i:Int),(Sp.length:Int)⟩⟩:wAA)) i j=true ↔ j ≠ i/\f ⟨(j:Int),(Sp.length:Int)⟩ < -g i zp):=fun j hj=>by
   unfold pLo
   rw [eg i hi,eg j hj,nR,decide_eq_true_eq,decide_eq_true_eq]
  have ph:∀ j:Nat,j < A.length->(pHi ((nB A.length).map fun i=>(⟨-g i zp,f ⟨(i:Int),(Sp.length:Int)⟩⟩:wAA)) i j=true ↔ j ≠ i/\-g j zp < f ⟨(i:Int),(Sp.length:Int)⟩):=fun j hj=>by
   unfold pHi
   rw [eg i hi,eg j hj,nR,decide_eq_true_eq,decide_eq_true_eq]
  refine ⟨fun e=>?_,?_,?_⟩
  ·have hr:∀ x ∈ r.Readings,x.Clock=0:=fun x hx=>by
    rw [eR] at hx
    simp only [wEv,nW] at hx
    obtain ⟨z,_,rfl⟩:=hx
    exact e
   have h0:0 < r.Clocks.length:=by rw [eK];decide
   have hc0:(gd r.Clocks 0).Offset.Lo=0/\(gd r.Clocks 0).Offset.Hi=0:=by rw [eK];exact ⟨rfl,rfl⟩
   have q1:(nB A.length).countP (fun (j:Nat)=>decide (g i ⟨(j:Int),(Sp.length:Int)⟩ < 0))=(nB A.length).countP (pLo ((nB A.length).map fun i=>(⟨-g i zp,f ⟨(i:Int),(Sp.length:Int)⟩⟩:wAA)) i):=kP fun j hj=>by
    have hj:=nf.1 hj
    rw [pl j hj,decide_eq_true_eq]
    by_cases e:j=i
    ·subst e;rw [gz]
     exact ⟨fun h=>by omega,fun h=>absurd rfl h.1⟩
    ·have:=wIA h0 hc0 hr (i:=i) (by rw [eA];exact hj) e m1 m2 hf (hg i hi)
     rw [this]
     exact ⟨fun h=>⟨e,by omega⟩,fun h=>by omega⟩
   have q2:(nB A.length).countP (fun (j:Nat)=>decide (0 < g j ⟨(i:Int),(Sp.length:Int)⟩))=(nB A.length).countP (pHi ((nB A.length).map fun i=>(⟨-g i zp,f ⟨(i:Int),(Sp.length:Int)⟩⟩:wAA)) i):=kP fun j hj=>by
    have hj:=nf.1 hj
    rw [ph j hj,decide_eq_true_eq]
    by_cases e:j=i
    ·subst e;rw [gz]
     exact ⟨fun h=>by omega,fun h=>absurd rfl h.1⟩
    ·have:=wIA h0 hc0 hr (i:=j) (k:=i) (by rw [eA];exact hi) (fun h=>e h.symm) m1 m2 hf (hg j hj)
     rw [this]
     exact ⟨fun h=>⟨e,by omega⟩,fun h=>by omega⟩
   rw [q1,q2]
  ·have q1:(nB A.length).countP (pLo ((nB A.length).map fun i=>(⟨-g i zp,f ⟨(i:Int),(Sp.length:Int)⟩⟩:wAA)) i) <= (nB A.length).countP (fun (j:Nat)=>decide (g i ⟨(j:Int),(Sp.length:Int)⟩ < 0)):=kG fun j hj h=>by
    have hj:=nf.1 hj
    rw [pl j hj] at h
    rw [decide_eq_true_eq]
    have:=le1 j hj
    omega
   omega
  ·have q2:(nB A.length).countP (fun (j:Nat)=>decide (0 < g j ⟨(i:Int),(Sp.length:Int)⟩)) <= (nB A.length).countP (pHi ((nB A.length).map fun i=>(⟨-g i zp,f ⟨(i:Int),(Sp.length:Int)⟩⟩:wAA)) i):=kG fun j hj h=>by
    have hj:=nf.1 hj
    rw [decide_eq_true_eq] at h
    rw [ph j hj]
    by_cases e:j=i
    ·subst e;rw [gz] at h;omega
    ·have:=le2 j hj
     exact ⟨e,by omega⟩
   omega
end Go.Proofs.Ytkedcbligiebkaa
namespace Go.Proofs.Ytkedcbligiebkaa
open Go.KL Go.KL.Net
open Classical
theorem wKK (p0:List Int) (p1:Int) (_:-9223372036854775808 <= p1) (_:p1 <= 9223372036854775807):wBe p0 p1=some true:=by
 unfold wBe
 rw [show wCa p0=some ⟨p0,0,17⟩ from rfl,hD]
 obtain ⟨n1,d1,e1,a0,a1,a2,a3⟩:=wFb ⟨p0,0,17⟩ 1 6 (by simp only;omega) (by simp only;omega) (by omega) (by omega) (by omega)
 simp only at a1
 obtain ⟨n,rfl⟩:∃ n:Nat,n1=(n:Int):=⟨n1.toNat,by omega⟩
 rw [e1,hD]
 simp only
 obtain ⟨b2,x2,s2,l,e2,x20,hl,hR⟩:=fr_is (n:=n) (by omega) (d:=d1) a0 (by omega)
 erw [e2]
 rw [hD]
 simp only
 obtain ⟨u,eu,u0,u1⟩:=wKI p1 (n:=50) (by omega) (by omega)
 unfold wCH
 rw [eu,hD,hD,wAY (x:=u + 1) (by omega) (by omega)]
 have G:=wLN (l:=l) (u:=u + 1) (by omega) (by rw [hl];exact hR) (by omega) (by omega)
 obtain ⟨p,hP,eP⟩:=wIY (l:=l) (r:=⟨u + 1,500⟩) (by omega)
 have e0:=wFa.2 G
 have P:=hP e0
 rw [eP,e0,if_pos rfl,hD]
 simp only
 have pl:(p.map (stt l ⟨u + 1,500⟩)).length=n:=by rw [nh,(wJa P (k:=0) (by omega)).1,hl]
 have tm:∀ k,k < (p.map (stt l ⟨u + 1,500⟩)).length->0 <= (gd (p.map (stt l ⟨u + 1,500⟩)) k).Time/\(gd (p.map (stt l ⟨u + 1,500⟩)) k).Time <= 500:=fun k hk=>by
  obtain ⟨q1,q2,q3⟩:=wJa P (k:=k) (by omega)
  rw [wGK _ (by omega)]
  have:=wMG G (x:=gd l (gd p k).toNat) (wBn (by omega))
  exact ⟨this.1,this.2.1⟩
 rw [if_pos trivial,if_pos (by rw [pl,hl])]
 generalize p.map (stt l ⟨u + 1,500⟩)=L at pl tm
 obtain ⟨n3,d3,e3,b0,b1,b2',b3⟩:=wFb ⟨b2,x2,s2⟩ 1 3 x20.1 (by simp only;omega) (by omega) (by omega) (by omega)
 simp only at b1
 obtain ⟨m,rfl⟩:∃ m:Nat,n3=(m:Int):=⟨n3.toNat,by omega⟩
 rw [e3,hD]
 simp only
 obtain ⟨b4,x4,s4,Sp,e4,x40,hm,hSp⟩:=fs_is (n:=m) (by omega) (b0:=d3.bytes) (x0:=d3.next) (s0:=d3.state) b0 (by omega)
 erw [e4]
 rw [hD]
 simp only
 have H:SpF Sp:=⟨by omega,by rw [hm];exact hSp⟩
 obtain ⟨b5,x5,s5,A,R,e5,hA,hq,tA,g,hg,hz⟩:=fo_is H (L:=L) (by omega) tm (b:=b4) (x:=x4) (s:=s4) x40.1 (by omega)
 erw [e5]
 rw [hD]
 simp only
 have M:MkF A Sp R g:=⟨by omega,by omega,H,by rw [hA];exact tA,hq,by rw [hA];exact hg,by rw [hA];exact hz⟩
 have R0:wEv 0 R=R:=wJd fun x hx=>by
  obtain ⟨k,_,N⟩:=hz x hx
  exact N.c
 have lC:∀ c,(wEv c R).length=R.length:=fun c=>by unfold wEv;rw [nh]
 have loop:∀ (body:Nat->List wAJ->Option (List wAJ ⊕ Bool)),(∀ i l,i < 2->(∃ c,l=wEv c R)->∃ l',body i l=some (.inl l')/\∃ c,l'=wEv c R)->∃ l',wEG 0 (2:Int) body R=some (.inl l'):=fun body h=>by
  obtain ⟨l1,h1,c1⟩:=h 0 R (by omega) ⟨0,R0.symm⟩
  obtain ⟨l2,h2,_⟩:=h 1 l1 (by omega) c1
  refine ⟨l2,?_⟩
  rw [show (2:Int)=((2:Nat):Int) from rfl,wCi (by omega)]
  unfold forN
  rw [h1]
  simp only [hD]
  unfold forN
  rw [h2]
  rfl
 have fin:∀ {o:Option (List wAJ ⊕ Bool)},(∃ l',o=some (.inl l'))->jn o (fun _=>some true)=some true:=by
  rintro _ ⟨l',rfl⟩
  rfl
 refine fin (loop _ fun i l hi hl=>?_)
 obtain ⟨c0,rfl⟩:=hl
 obtain ⟨c,hc,ec⟩:∃ c:Int,(c=0 \/ c=1)/\gd ([0,1]:List Int) i=c:=by
  match i,hi with
  | 0,_=>exact ⟨0,.inl rfl,rfl⟩
  | 1,_=>exact ⟨1,.inr rfl,rfl⟩
  | i + 2,hi=>omega
 obtain ⟨E,Pl,hE,hPl,hrg,ePl,eCh,hcmp⟩:=wKJ M hc
 have hn6:=M.n
 rw [ec,wAz (by omega) (by simp only [nD,nK];omega),hD,wMI (by rw [lC];omega) c,hD,wIZ]
 rw [show ([(⟨(⟨0,0⟩:wAA),3⟩:wAF),(⟨(⟨-20,20⟩:wAA),3⟩:wAF)]:List wAF)=KF from rfl]
 rw [wHo (S:=List wAA) (n:=A.length) (fun k=>E.take k) (s0:=[]) rfl (by omega) fun k hk=>by
  obtain ⟨h1,h2,h3⟩:=hrg k hk
  rw [h1,hD]
  simp only
  rw [if_pos trivial,if_neg (by omega),wEn hk,hD,if_neg (by omega),wDr (by rw [nA];simp only [nD,nK];omega),hD,wCp (by omega)],wFH,ePl,hD]
 simp only
 rw [show E.take A.length=E from ni (by omega),eCh,hD]
 simp only
 have pE:(wLZ E).length=E.length:=by simp [wLZ]
 rw [if_pos trivial,if_pos trivial,if_pos (by rw [pE];omega),wIz (by omega) fun k hk=>by
  obtain ⟨h1,h2,h3⟩:=hcmp k (by omega)
  have eg:gd (wLZ E) k=plc E k:=by
   unfold wLZ
   exact wJx _ (by omega)
  by_cases e:c=0
  ·rw [if_pos e,wAz (by omega) (by omega),hD,wAz (by omega) (by omega),hD,eg,if_pos (h1 e),if_neg (by omega),if_neg (by omega)]
  ·rw [if_neg e,wAz (by omega) (by omega),hD,wAz (by omega) (by omega),hD,eg,if_neg (by omega),if_neg (by omega)],wFH]
 exact ⟨_,rfl,c,rfl⟩
end Go.Proofs.Ytkedcbligiebkaa
