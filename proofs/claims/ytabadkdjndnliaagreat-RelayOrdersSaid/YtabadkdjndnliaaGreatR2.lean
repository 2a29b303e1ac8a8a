import Derived.Test.YtabadkdjndnliaaGreatR1
import Derived.Test.YtabadkdjndnliaaGreatR0
set_option linter.all false
open Option renaming bind_some->hH
open Bool renaming and_eq_true->nA,false_eq_true->nG,or_eq_true->nf,false_ne_true->kC,not_eq_true'->kY
open Nat renaming eq_of_beq_eq_true->nB,le_refl->nE,beq->nL,zero_add->nl,le_trans->nv,blt_eq->ny,lt_irrefl->kK,blt->kO,add_zero->kQ,lt_of_lt_of_le->kU,sub_self->kf,div_div_eq_div_mul->ki,ble_eq->kj,pow_succ->ku,zero_le->kz
open List renaming mem_cons->nD,mem_append->nH,cons_append->nJ,range->nK,all_eq_true->nM,mem_singleton->nN,length_append->nO,nil_append->nP,append_assoc->nQ,append_of_mem->nR,getD_eq_getElem?_getD->nS,length_nil->nU,length_singleton->nV,length_cons->nW,mem_cons_of_mem->nX,append_nil->nY,pairwise_cons->nZ,mem_append_right->na,getElem?_eq_some_iff->nc,mem_append_left->ng,getElem?_eq_getElem->nh,replicate->nj,length_set->nk,set->np,nodup_cons->nr,count_append->nt,length_replicate->nw,pairwise_append->nz,getElem?_append_right->kA,drop_eq_getElem_cons->kB,mem_range->kD,count_nil->kE,foldl_append->kG,flatMap_cons->kH,drop_eq_nil_of_le->kJ,take_length->kL,getElem?_eq_none->kM,count_cons_of_ne->kP,count_le_length->kR,range_succ->kS,mem_cons_self->kV,any_cons->kW,all_cons->kX,take_sublist->kZ,getElem?_append_left->kc,count_singleton_self->ke,length_eq_zero_iff->kg,foldl_cons->kh,count_cons_self->kk,map_cons->km,getElem_of_mem->ko,flatMap_append->kq,mem_filterMap->kr,count_pos_iff->kv,length_range->ky
open Option.some renaming inj->nI,injEq->kw
open List.cons renaming injEq->nT,inj->aA
open Int renaming toNat_natCast->ni,toNat_of_nonneg->nq
namespace Go.KX
noncomputable section
open Go.RowKit Go.KL
def wCZ:List AOd->List Pos
 | []=>[]
 | .t p :: l=>p :: wCZ l
 | .c _ :: l=>wCZ l
def wMF:AOp->Bool
 | .new _ _ | .box _ _ | .mkm | .mks _ _ _ _ _ _ | .blds _ _ _ _=>true
 | _=>false
def wCL (a:AO):List Pos:=wCZ (wBh a.op) ++ (match a.grd with | some (p,_)=>[p] | none=>[])
def Sub (a:AOp) (o:Oper):Prop:=∀ t,Operand.tmp t ∈ o.op.operands->∃ p ∈ wCZ (wBh a),p.nat - 1=t
def wKs (l:List Oper) (x i:Nat):Prop:=∀ S:Nat->Bool,(∀ k,k < l.length->S k=true->∀ j ∈ prI l k,S j=true)->(∀ j ∈ prI l i,S j=true)->S x=true
def wGv (acc:List Nat):List Nat->Nat
 | []=>0
 | p :: ps=>wGv acc ps ||| (2 ^ p ||| acc.getD p 0)
def wPU (acc:List Nat):List Oper->List Nat
 | []=>acc
 | o :: r=>wPU (acc ++ [wGv acc (wLQ o)]) r
theorem wHs {acc:List Nat} {x:Nat}:∀ {ps:List Nat},(wGv acc ps).testBit x=true->∃ p ∈ ps,x=p \/ (acc.getD p 0).testBit x=true
 | [],h=>by simp [wGv] at h
 | p :: ps,h=>by
  simp only [wGv,Nat.testBit_or,nf,Nat.testBit_two_pow,decide_eq_true_eq] at h
  rcases h with h | h | h
  ·obtain ⟨q,h1,h2⟩:=wHs h
   exact ⟨q,by simp [h1],h2⟩
  ·exact ⟨p,by simp,.inl h.symm⟩
  ·exact ⟨p,by simp,.inr h⟩
theorem wKC {l:List Oper} (hpr:∀ i,i < l.length->∀ j ∈ prI l i,j < i):∀ (rest done:List Oper) (acc:List Nat),l=done ++ rest->acc.length=done.length->(∀ i x,(acc.getD i 0).testBit x=true->wKs l x i) ->
  ∀ i x,((wPU acc rest).getD i 0).testBit x=true->wKs l x i
 | [],done,acc,_,_,h,i,x,hx=>h i x hx
 | o :: r,done,acc,hl,hlen,h,i,x,hx=>by
  refine wKC hpr r (done ++ [o]) (acc ++ [wGv acc (wLQ o)]) (by rw [hl];simp) (by simp [hlen]) ?_ i x hx
  intro i x hx
  rcases Nat.lt_trichotomy i acc.length with hi | hi | hi
  ·rw [nS,kc hi,<- nS] at hx
   exact h i x hx
  ·rw [nS,hi,kA (nE _),kf] at hx
   have hx:(wGv acc (wLQ o)).testBit x=true:=hx
   have hlt:done.length < l.length:=by rw [hl];simp
   have hp:prI l done.length=wLQ o:=by
    unfold prI
    rw [hl,kA (nE _),kf]
    rfl
   obtain ⟨p,h1,h2⟩:=wHs hx
   intro S hdc hS
   rw [hi,hlen] at hS
   have hSp:S p=true:=hS p (by rw [hp];exact h1)
   rcases h2 with rfl | h2
   ·exact hSp
   ·have:=hpr _ hlt p (by rw [hp];exact h1)
    exact h p x h2 S hdc (hdc p (by omega) hSp)
  ·rw [nS,kM (by simp;omega)] at hx
   simp at hx
def dne (b:AO) (p:Pos):Bool:=match b.dst with
 | none=>true
 | some q=>!Pos.beq q p
def subB (a:AOp) (o:Oper):Bool:=o.op.operands.toList.all fun
 | .tmp t=>(wCZ (wBh a)).any fun p=>nL p.nat (t + 1)
 | _=>true
def kdOK (a:AO):Bool:=wCH a.kd || (a.dst.isSome && (nL a.kd 1 || (nL a.kd 3 || ((nL a.kd 6 && nL (kdA a.op) 3) || ((nL a.kd 4 && wMF a.op) || (Nat.ble 8 a.kd && nL (kdA a.op) 1))))))
def zld (m kd:Nat):Nat->List AO->Bool
 | _,[]=>true
 | n,b :: d=>(!Nat.beq b.kd 0 || (m.testBit b.ix || kO (n + 8) kd)) && zld m kd (match wCH b.kd with | true=>n + 1 | false=>n) d
def zop (m:Nat) (l:List Oper) (d:List AO) (a:AO) (t:List AO):Bool :=
 (!wCH a.kd || d.all fun b=>m.testBit b.ix) &&
 ((match a.dst with | none=>true | some p=>d.all (fun b=>dne b p) && t.all (fun b=>dne b p)) &&
 ((wCL a).all (fun p=>dne a p && (t.all (fun b=>dne b p) && d.all (fun b=>dne b p || (m.testBit b.ix && (!(nL a.kd 1 || (nL a.kd 3 || Nat.ble 8 a.kd)) || !(nL b.kd 4 || nL b.kd 6)))))) &&
 ((!Nat.beq a.kd 1 || d.all fun b=>!Nat.beq b.kd 0 || m.testBit b.ix) && (!Nat.ble 8 a.kd || zld m a.kd 0 d) &&
 (t.all (fun b=>!Nat.beq b.ix a.ix) &&
 (kdOK a && (match l[a.ix]? with | none=>false | some o=>!wBn o && subB a.op o))))))
def zgo (an:List Nat) (l:List Oper) (d:List AO):List AO->Bool
 | []=>true
 | a :: t=>zop (an.getD a.ix 0) l d a t && zgo an l (a :: d) t
def wQZ (a:AO):Bool:=nL a.kd 0 && (match a.op with | .mv _=>true | _=>false)
def wQa:List AO->List AO
 | []=>[]
 | a :: t=>match wQZ a with
  | true=>[]
  | false=>a :: wQa t
def wOm:List AO->List AO
 | []=>[]
 | a :: t=>match wQZ a with
  | true=>a :: t
  | false=>wOm t
theorem wPV:∀ os:List AO,os=wQa os ++ wOm os
 | []=>rfl
 | a :: t=>by
  unfold wQa wOm
  cases wQZ a with
  | true=>rfl
  | false=>exact congrArg (a :: ·) (wPV t)
def ztl (an:List Nat) (l:List Oper) (os:List AO):Bool :=
 ((wOm os).all (fun a=>kO a.kd 8) && (wQa os).all fun a=>kO a.kd 8 || ((wCL a).all (fun p=>(wOm os).all fun b=>dne b p) && (match a.dst with | some p=>(wOm os).all fun b=>dne b p | none=>true))) && (zgo an l [] (wQa os) && (zgo an l [] (wOm os) && (wOm os).all fun b=>(wQa os).all fun a=>!Nat.beq a.ix b.ix && (an.getD b.ix 0).testBit a.ix))
def chkZ (l:List Oper) (os:List AO):Bool :=
 (nK l.length).all (fun i=>(prI l i).all (kO · i)) && ((nK l.length).all (fun i=>os.any fun a=>nL a.ix i) && (zgo (wPU [] l) l [] os || ztl (wPU [] l) l os))
def wOX (l:List AO):Nat:=l.countP fun b=>wCH b.kd
structure ZOK (P:Program) (N:Nat) (l:List Oper) (os:List AO):Prop where
 ao:∀ a ∈ os,wGu P N l a=true
 one:os.Pairwise fun a b=>a.ix ≠ b.ix
 pr:∀ i,i < l.length->∀ j ∈ prI l i,j < i
 anc:∀ s a t,os=s ++ a :: t->wCH a.kd=true->∀ b ∈ s,wKs l b.ix a.ix
 wr:∀ s a t,os=s ++ a :: t->∀ p,a.dst=some p->∀ b ∈ s ++ t,b.dst ≠ some p
 rd:∀ s a t,os=s ++ a :: t->∀ p ∈ wCL a,∀ b ∈ a :: t,b.dst ≠ some p
 rdS:∀ a ∈ os,∀ p ∈ wCL a,∀ b ∈ os,b.dst=some p->wKs l b.ix a.ix
 kd:∀ a ∈ os,wCH a.kd=true \/ (a.dst ≠ none/\(a.kd=1 \/ a.kd=3 \/ (a.kd=6/\kdA a.op=3) \/ (a.kd=4/\wMF a.op=true) \/ (8 <= a.kd/\kdA a.op=1)))
 cl:∀ a ∈ os,a.kd=1 \/ a.kd=3 \/ 8 <= a.kd->∀ p ∈ wCL a,∀ b ∈ os,b.dst=some p->b.kd ≠ 4/\b.kd ≠ 6
 sel:∀ a ∈ os,∀ o,l[a.ix]?=some o->wBn o=false
 sub:∀ a ∈ os,∀ o,l[a.ix]?=some o->Sub a.op o
 ld:∀ s a t,os=s ++ a :: t->a.kd=1->∀ b ∈ s,b.kd=0->wKs l b.ix a.ix
 ld8:∀ s a t,os=s ++ a :: t->8 <= a.kd->∀ s1 b s2,s=s1 ++ b :: s2->b.kd=0->wKs l b.ix a.ix \/ wOX s2 + 8 < a.kd
theorem wPW {m kd:Nat}:∀ (x:List AO) (b:AO) (y:List AO) (n:Nat),zld m kd n (x ++ b :: y)=true->b.kd=0->m.testBit b.ix=true \/ n + wOX x + 8 < kd
 | [],b,y,n,h,h0=>by
  rw [nP,zld,h0] at h
  simp only [nA,nf,ny] at h
  rcases h.1 with g | g | g
  ·exact absurd g (by decide)
  ·exact .inl g
  ·exact .inr g
 | c :: x,b,y,n,h,h0=>by
  rw [nJ,zld] at h
  simp only [nA] at h
  have:=wPW x b y _ h.2 h0
  refine this.imp id fun h=>?_
  unfold wOX at h ⊢
  rw [List.countP_cons]
  cases hf:wCH c.kd <;> rw [hf] at h <;> simp only [if_true,if_false,nG] at h ⊢ <;> omega
theorem Pos.beq_self:∀ p:Pos,p.beq p=true
 | .H=>rfl
 | .O p=>Pos.beq_self p
 | .I p=>Pos.beq_self p
theorem wGw {b:AO} {p:Pos} (h:dne b p=true):b.dst ≠ some p:=by
 intro e
 unfold dne at h
 rw [e] at h
 simp [Pos.beq_self] at h
theorem wPX {an:List Nat} {l:List Oper}:∀ (os d:List AO),zgo an l d os=true->∀ s a t,os=s ++ a :: t->zop (an.getD a.ix 0) l (s.reverse ++ d) a t=true
 | [],d,_,s,a,t,e=>by simp at e
 | b :: os,d,h,[],a,t,e=>by
  simp only [nP,nT] at e
  obtain ⟨rfl,rfl⟩:=e
  simp only [zgo,nA] at h
  exact h.1
 | b :: os,d,h,c :: s,a,t,e=>by
  simp only [nJ,nT] at e
  obtain ⟨rfl,rfl⟩:=e
  simp only [zgo,nA] at h
  have:=wPX (s ++ a :: t) (b :: d) h.2 s a t rfl
  simpa using this
theorem wSA {α:Type} {R:α->α->Prop}:∀ (l:List α),(∀ s a t,l=s ++ a :: t->∀ b ∈ t,R a b)->l.Pairwise R
 | [],_=>List.Pairwise.nil
 | a :: l,h=>nZ.2 ⟨fun b hb=>h [] a l rfl b hb,wSA l fun s b t e=>h (a :: s) b t (by rw [e];rfl)⟩
theorem wKt {P:Program} {N:Nat} {l:List Oper} {os:List AO} (hao:∀ a ∈ os,wGu P N l a=true) (hpr:∀ i,i < l.length->∀ j ∈ prI l i,j < i) (hz:zgo (wPU [] l) l [] os=true):ZOK P N l os:=by
 have han:∀ i x,((wPU [] l).getD i 0).testBit x=true->wKs l x i:=wKC hpr l [] [] rfl rfl fun i x h=>by simp at h
 have key:∀ s a t,os=s ++ a :: t->zop ((wPU [] l).getD a.ix 0) l s.reverse a t=true:=fun s a t e=>by
  have:=wPX os [] hz s a t e
  rwa [nY] at this
 have wLe:∀ s a t,os=s ++ a :: t ->
   (wCH a.kd=true->∀ b ∈ s,wKs l b.ix a.ix)/\(∀ p,a.dst=some p->∀ b ∈ s ++ t,b.dst ≠ some p) /\
   (∀ p ∈ wCL a,(∀ b ∈ a :: t,b.dst ≠ some p)/\∀ b ∈ s,b.dst=some p->wKs l b.ix a.ix/\(a.kd=1 \/ a.kd=3 \/ 8 <= a.kd->b.kd ≠ 4/\b.kd ≠ 6)) /\
   ((a.kd=1->∀ b ∈ s,b.kd=0->wKs l b.ix a.ix)/\(8 <= a.kd->∀ s1 b s2,s=s1 ++ b :: s2->b.kd=0->wKs l b.ix a.ix \/ wOX s2 + 8 < a.kd))/\(∀ b ∈ t,a.ix ≠ b.ix)/\kdOK a=true/\(∀ o,l[a.ix]?=some o->wBn o=false/\subB a.op o=true):=by
  intro s a t e
  have hk:=key s a t e
  unfold zop at hk
  simp only [nA,nM,List.mem_reverse,nf,kY] at hk
  obtain ⟨k1,k2,k3,⟨k4,k8⟩,k5,k6,k7⟩:=hk
  refine ⟨fun hf b hb=>?_,fun p hp b hb=>?_,fun p hp=>⟨fun b hb=>?_,fun b hb hd=>?_⟩,⟨fun h1 b hb h0=>?_,fun h8 s1 b s2 es h0=>?_⟩,fun b hb he=>?_,k6,fun o ho=>?_⟩
  ·rcases k1 with k1 | k1
   ·rw [hf] at k1;cases k1
   ·exact han _ _ (k1 b hb)
  ·rw [hp] at k2
   simp only [nA,nM,List.mem_reverse] at k2
   rcases nH.1 hb with hb | hb
   ·exact wGw (k2.1 b hb)
   ·exact wGw (k2.2 b hb)
  ·obtain ⟨g1,g2,g3⟩:=k3 p hp
   rcases nD.1 hb with rfl | hb
   ·exact wGw g1
   ·exact wGw (g2 b hb)
  ·obtain ⟨g1,g2,g3⟩:=k3 p hp
   rcases g3 b hb with g | ⟨g,g'⟩
   ·exact absurd hd (wGw g)
   ·refine ⟨han _ _ g,fun hk=>?_⟩
    rcases g' with g' | g'
    ·rcases hk with hk | hk | hk
     ·rw [hk] at g';exact absurd g' (by decide)
     ·rw [hk] at g';exact absurd g' (by decide)
     ·simp only [Bool.or_eq_false_iff] at g'
      have h8:Nat.ble 8 a.kd=true:=by rw [kj];exact hk
      rw [g'.2.2] at h8
      cases h8
    ·constructor <;> intro h4 <;> rw [h4] at g' <;> exact absurd g' (by decide)
  ·rcases k4 with k4 | k4
   ·rw [h1] at k4;exact absurd k4 (by decide)
   ·rcases k4 b hb with g | g
    ·rw [h0] at g;exact absurd g (by decide)
    ·exact han _ _ g
  ·rcases k8 with k8 | k8
   ·rw [<- Bool.not_eq_true,kj] at k8
    exact absurd h8 k8
   ·rw [es,List.reverse_append,List.reverse_cons,nQ] at k8
    rcases wPW s2.reverse b (s1.reverse) 0 (by simpa using k8) h0 with g | g
    ·exact .inl (han _ _ g)
    ·refine .inr ?_
     unfold wOX at g ⊢
     rw [List.countP_reverse] at g
     omega
  ·have:=k5 b hb
   rw [he] at this
   simp at this
  ·rw [ho] at k7
   simpa using k7
 have mem:∀ a ∈ os,∃ s t,os=s ++ a :: t:=fun a ha=>nR ha
 refine ⟨hao,wSA os fun s a t e=>(wLe s a t e).2.2.2.2.1,hpr,fun s a t e=>(wLe s a t e).1,fun s a t e=>(wLe s a t e).2.1,fun s a t e p hp=>((wLe s a t e).2.2.1 p hp).1,fun a ha p hp b hb hd=>?_,fun a ha=>?_,fun a ha hk p hp b hb hd=>?_,fun a ha o ho=>?_,fun a ha o ho=>?_,fun s a t e=>(wLe s a t e).2.2.2.1.1,fun s a t e=>(wLe s a t e).2.2.2.1.2⟩
 ·obtain ⟨s,t,e⟩:=mem a ha
  obtain ⟨g1,g2⟩:=(wLe s a t e).2.2.1 p hp
  rw [e] at hb
  rcases nH.1 hb with hb | hb
  ·exact (g2 b hb hd).1
  ·exact absurd hd (g1 b hb)
 ·obtain ⟨s,t,e⟩:=mem a ha
  have hk:=(wLe s a t e).2.2.2.2.2.1
  unfold kdOK at hk
  simp only [nf,nA] at hk
  rcases hk with hk | ⟨h1,hk⟩
  ·exact .inl hk
  ·refine .inr ⟨fun e=>(by rw [e] at h1;cases h1),?_⟩
   rcases hk with hk | hk | ⟨hk,h2⟩ | ⟨hk,h2⟩ | ⟨hk,h2⟩
   ·exact .inl (nB hk)
   ·exact .inr (.inl (nB hk))
   ·exact .inr (.inr (.inl ⟨nB hk,nB h2⟩))
   ·exact .inr (.inr (.inr (.inl ⟨nB hk,h2⟩)))
   ·exact .inr (.inr (.inr (.inr ⟨by rwa [kj] at hk,nB h2⟩)))
 ·obtain ⟨s,t,e⟩:=mem a ha
  obtain ⟨g1,g2⟩:=(wLe s a t e).2.2.1 p hp
  rw [e] at hb
  rcases nH.1 hb with hb | hb
  ·exact (g2 b hb hd).2 hk
  ·exact absurd hd (g1 b hb)
 ·obtain ⟨s,t,e⟩:=mem a ha
  exact ((wLe s a t e).2.2.2.2.2.2 o ho).1
 ·obtain ⟨s,t,e⟩:=mem a ha
  have h1:=((wLe s a t e).2.2.2.2.2.2 o ho).2
  unfold subB at h1
  rw [nM] at h1
  intro x hx
  have:=h1 (.tmp x) (by simpa using hx)
  simp only [List.any_eq_true] at this
  obtain ⟨p,g1,g2⟩:=this
  exact ⟨p,g1,by rw [nB g2];rfl⟩
structure ZAll (P:Program) (N:Nat) (l:List Oper) (os A B:List AO):Prop where
 eq:os=A ++ B
 za:ZOK P N l A
 zb:ZOK P N l B
 cross:∀ b ∈ B,∀ a ∈ A,a.ix ≠ b.ix/\wKs l a.ix b.ix
 low:∀ b ∈ B,b.kd < 8
 far:∀ a ∈ A,8 <= a.kd->∀ p,p ∈ wCL a \/ a.dst=some p->∀ b ∈ B,b.dst ≠ some p
 all:∀ i,i < l.length->∃ a ∈ os,a.ix=i
theorem wNd {P:Program} {N:Nat} {l:List Oper} {os:List AO} (hao:∀ a ∈ os,wGu P N l a=true) (h:chkZ l os=true):∃ A B,ZAll P N l os A B:=by
 unfold chkZ at h
 rw [nA,nA,nf] at h
 obtain ⟨hpr0,hall0,hz⟩:=h
 simp only [nM,kD,ny,List.any_eq_true] at hpr0 hall0
 have hpr:∀ i,i < l.length->∀ j ∈ prI l i,j < i:=hpr0
 have hall:∀ i,i < l.length->∃ a ∈ os,a.ix=i:=fun i hi=>by
  obtain ⟨a,h1,h2⟩:=hall0 i hi
  exact ⟨a,h1,nB h2⟩
 have han:∀ i x,((wPU [] l).getD i 0).testBit x=true->wKs l x i:=wKC hpr l [] [] rfl rfl fun i x h=>by simp at h
 rcases hz with hz | hz
 ·exact ⟨os,[],by simp,wKt hao hpr hz,wKt (fun a ha=>by simp at ha) hpr rfl,fun b hb=>by simp at hb,fun b hb=>by simp at hb,fun a _ _ p _ b hb=>by simp at hb,hall⟩
 ·unfold ztl at hz
  simp only [nA,nM,ny,kY] at hz
  obtain ⟨⟨h1,h5⟩,h2,h3,h4⟩:=hz
  have e:=wPV os
  refine ⟨wQa os,wOm os,e,wKt (fun a ha=>hao a (by rw [e];simp [ha])) hpr h2,wKt (fun a ha=>hao a (by rw [e];simp [ha])) hpr h3,fun b hb a ha=>⟨fun e=>?_,han _ _ (h4 b hb a ha).2⟩,h1,fun a ha h8 p hp b hb=>?_,hall⟩
  ·have:=(h4 b hb a ha).1
   rw [e] at this
   simp at this
  ·have h6:=h5 a ha
   simp only [nf,nA,nM,ny] at h6
   rcases h6 with h6 | ⟨h6,h7⟩
   ·omega
   ·rcases hp with hp | hp
    ·exact wGw (h6 p hp b hb)
    ·rw [hp] at h7
     simp only [nM] at h7
     exact wGw (h7 b hb)
theorem wIT {tb:Tr AF} {ex exY:Run} {σf:Tr AV} {h:AH}:∀ (x y:List AO) (n:Nat),wJW tb ex exY σf h n (x ++ y)=true->wJW tb ex exY σf h n x=true
 | [],_,_,_=>rfl
 | a :: x,y,n,hl=>by
  rw [nJ,wEI] at hl
  rw [wEI]
  cases hf:wCH a.kd with
  | true =>
   rw [hf] at hl
   exact wIT x y _ hl
  | false =>
   rw [hf] at hl
   simp only [nA] at hl ⊢
   exact ⟨hl.1,wIT x y _ hl.2⟩
theorem wKD {tb:Tr AF} {ex exY:Run} {σf:Tr AV} {h:AH}:∀ (x:List AO) (a:AO) (y:List AO) (n:Nat),wJW tb ex exY σf h n (x ++ a :: y)=true->wCH a.kd=false->n + wOX x + 8 < a.kd->wHm tb ex exY σf h a=true
 | [],a,y,n,hl,hf,hn=>by
  rw [nP,wEI,hf] at hl
  simp only [nA] at hl
  have hb:kO (n + 8) a.kd=true:=by rw [ny];exact hn
  rw [hb] at hl
  exact hl.1
 | c :: x,a,y,n,hl,hf,hn=>by
  rw [nJ,wEI] at hl
  unfold wOX at hn
  rw [List.countP_cons] at hn
  cases hc:wCH c.kd with
  | true =>
   rw [hc] at hl hn
   exact wKD x a y _ hl hf (by unfold wOX;simp only [if_true] at hn;omega)
  | false =>
   rw [hc] at hl hn
   simp only [nA] at hl
   exact wKD x a y _ hl.2 hf (by unfold wOX;simp only [if_false,nG] at hn;omega)
def LCK (tb:Tr AF) (ex exY:Run) (os:List AO) (σ0:Tr AV) (h0:AH) (σf:Tr AV):Prop :=
 ∀ s b t,os=s ++ b :: t->b.kd=0->∀ σ1 h1,wAX tb ex exY s σ0 h0=some (σ1,h1)->wJW tb ex exY σf h1 0 t=true
theorem wKE {tb:Tr AF} {ex exY:Run}:∀ (os:List AO) (σ:Tr AV) (h:AH) (r:Tr AV × AH),wMs tb ex exY os σ h=some r->wAX tb ex exY os σ h=some r/\LCK tb ex exY os σ h r.1
 | [],σ,h,r,hr=>by
  rw [wOf] at hr
  exact ⟨by rw [wAt];exact hr,fun s b t e=>by simp at e⟩
 | o :: os,σ,h,r,hr=>by
  rw [wMt] at hr
  split at hr
  ·cases hr
  ·rename_i q hq
   split at hr
   ·cases hr
   ·rename_i r' hr'
    have e:r'=r:=by
     split at hr
     ·split at hr
      ·cases hr;rfl
      ·cases hr
     ·cases hr;rfl
    subst e
    obtain ⟨g1,g2⟩:=wKE os _ _ _ hr'
    have g0:∀ s,wAX tb ex exY (o :: s) σ h=wAX tb ex exY s q.1 q.2:=by
     intro s
     rw [wAw]
     unfold wPx at hq
     cases hw:wCf σ o.grd with
     | true =>
      rw [hw] at hq
      simp only at hq ⊢
      split at hq
      ·rename_i y hy
       cases hq
       rfl
      ·cases hq
     | false =>
      rw [hw] at hq
      cases hq
      rfl
    refine ⟨by rw [g0];exact g1,fun s b t e h0 σ1 h1 hs=>?_⟩
    cases s with
    | nil =>
     simp only [nP,nT] at e
     obtain ⟨rfl,rfl⟩:=e
     rw [wAt] at hs
     cases hs
     have hb:nL o.kd 0=true:=by rw [h0];rfl
     rw [hb] at hr
     simp only at hr
     split at hr
     ·assumption
     ·cases hr
    | cons c s =>
     simp only [nJ,nT] at e
     obtain ⟨rfl,rfl⟩:=e
     rw [g0] at hs
     exact g2 s b t rfl h0 σ1 h1 hs
theorem wKu {tb:Tr AF} {ex exY:Run} {os:List AO} {σ:Tr AV} {h:AH} {σf:Tr AV} (hk:∀ a ∈ os,a.kd < 8):LCK tb ex exY os σ h σf:=by
 intro s b t e _ σ1 h1 _
 have:∀ (l:List AO) (n:Nat),(∀ a ∈ l,a.kd < 8)->wJW tb ex exY σf h1 n l=true:=by
  intro l
  induction l with
  | nil=>intro n _;rfl
  | cons a l ih =>
   intro n hl
   rw [wEI]
   have ha:=hl a (by simp)
   have hb:kO (n + 8) a.kd=false:=by rw [<- Bool.not_eq_true,ny];omega
   cases wCH a.kd with
   | true=>exact ih _ fun b hb=>hl b (by simp [hb])
   | false =>
    simp only [hb,Bool.true_and]
    exact ih _ fun b hb=>hl b (by simp [hb])
 exact this t 0 fun a ha=>hk a (by rw [e];simp [ha])
end
end Go.KX
namespace Go.KX
noncomputable section
open Go.RowKit Go.KL
def kdAt (i:Nat):List AO->Nat
 | []=>0
 | a :: os=>match nL a.ix i with
  | true=>a.kd
  | false=>kdAt i os
def lazyA (os:List AO):Bool:=os.any fun a=>kO 3 a.kd
def chkR (P:Program) (N:Nat) (os:List AO) (l:List Oper) (draw:Bool):Bool :=
 let ks:=(nK l.length).map fun i=>kdAt i os
 os.all (fun a=>wGu P N l a && nL (kOf ks a.ix) a.kd) && (match draw with
  | true=>(match lazyA os with
   | true=>os.all (fun a=>kO a.kd 8) && chkZ l os
   | false=>wML l ks (wJG os))
  | false=>inOrder 0 (wJG os) l.length)
def wLg (N:Nat):List Pos->List Nat->Bool
 | [],[]=>true
 | t :: ts,p :: ps=>(nL t.nat (p + 1) && kO p N) && wLg N ts ps
 | _,_=>false
theorem wKv {N:Nat}:∀ {ts:List Pos} {ps:List Nat},wLg N ts ps=true->ts.map Pos.nat=ps.map (· + 1)/\∀ x ∈ ps,x < N
 | [],[],_=>by simp
 | t :: ts,p :: ps,h=>by
  simp only [wLg,nA,ny] at h
  obtain ⟨⟨h1,h2⟩,h3⟩:=h
  obtain ⟨h4,h5⟩:=wKv h3
  refine ⟨by simp [h4,nB h1],?_⟩
  intro x hx
  rcases nD.1 hx with rfl | hx
  ·exact h2
  ·exact h5 x hx
 | [],_ :: _,h=>by simp [wLg] at h
 | _ :: _,[],h=>by simp [wLg] at h
theorem wKw {μ:Mu}:∀ {ts:List Pos} {ns:List Nat} {σA σB:Tr AV} {σ:Env} {as:List AV} {vs:List Value},wPw σA ts as=some σB->ts.map Pos.nat=ns.map (· + 1)->RvL μ as vs->EnvR μ σA σ->EnvR μ σB (wOV σ ns vs)/\ns.length=vs.length
 | [],ns,σA,σB,σ,as,vs,hs,hn,hv,hE=>by
  cases ns with
  | cons _ _=>simp at hn
  | nil =>
   cases as with
   | cons _ _=>simp [wPw] at hs
   | nil=>cases hv;simp only [wPw,kw] at hs;subst hs;exact ⟨hE,rfl⟩
 | t :: ts,ns,σA,σB,σ,as,vs,hs,hn,hv,hE=>by
  cases ns with
  | nil=>simp at hn
  | cons n ns =>
   cases as with
   | nil=>simp [wPw] at hs
   | cons a as =>
    obtain ⟨v,ws,h1,h2,rfl⟩:=hv
    simp only [km,nT] at hn
    have hp:=hE.put (p:=t) h1
    have e:t.nat - 1=n:=by omega
    rw [e] at hp
    obtain ⟨g1,g2⟩:=wKw (ts:=ts) (ns:=ns) (σA:=σA.set t a) (σ:=upd σ n v) (by simpa [wPw] using hs) hn.2 h2 hp
    exact ⟨g1,by simp [g2]⟩
def wEq (P:Program) (N:Nat):AC->Code->Bool
 | .skip,.skip=>true
 | .skip,.label _=>true
 | .rg os,.region _ ops draw=>chkR P N os ops.toList draw
 | .rl os,.region _ ops draw=>draw && (os.all (fun a=>wGu P N ops.toList a) && chkZ ops.toList os)
 | .seq a b,.seq c d=>wEq P N a c && wEq P N b d
 | .cond x a b,.cond y c d=>wCD x y && (wEq P N a c && wEq P N b d)
 | .block i a,.block j c=>nL i j && wEq P N a c
 | .loop a,.loop c=>wEq P N a c
 | .scope a,.scope c=>wEq P N a c
 | .rf g t asg body,.rangeFunc g' ps asg' body'=>wCD g g' && (wLg N t ps.toList && (wEq P N asg asg' && wEq P N body body'))
 | .exit i,.exit j=>nL i j
 | .ret,.ret=>true
 | _,_=>false
def CC (P:Program):Chk:=fun a c N=>wEq P N a c=true
section
variable {P:Program} {tb:Tr AF} {μ μ' μ'':Mu} {w w' w'':World} {h h' h'':AH} {σ:Env} {σA:Tr AV}
def Mk (μ:Mu) (w:World) (n0:Nat) (D:List Deferred):Prop:=∃ rbs:List Nat,D=rbs.map wKj/\rbs.Nodup/\∀ rb ∈ rbs,Dfr w rb/\n0 <= rb/\∀ p c,μ p=some c->c.1 ≠ rb
theorem Mk.nil (μ:Mu) (w:World) (n0:Nat):Mk μ w n0 []:=⟨[],rfl,by simp,by simp⟩
theorem Mk.ext {n0 fl:Nat} {D:List Deferred} (M:Mk μ w n0 D) (E:Ext μ fl w μ' w'):Mk μ' w' n0 D:=by
 obtain ⟨rbs,h1,h2,h3⟩:=M
 refine ⟨rbs,h1,h2,fun rb hrb=>?_⟩
 obtain ⟨g1,g2,g3⟩:=h3 rb hrb
 refine ⟨g1.keep E.keep fun ⟨p,d,q1,q2,_⟩=>g3 p d q1 q2,g2,fun p c hp=>?_⟩
 rcases E.new p c hp with q | ⟨p',d,q1,q2,_⟩ | q
 ·exact g3 p c q
 ·rw [<- q2];exact g3 p' d q1
 ·have:=g1.lt;omega
def PostX (P:Program) (μ:Mu) (fl:Pos) (w:World) (n0:Nat) (rr:Option Nat) (D:List Deferred) (e:Ex) (σA':Tr AV) (h':AH):wCp:=fun D' e' σ' w' =>
 e'=exC e/\∃ μ',Ext μ fl.nat w μ' w'/\Sim (CC P) P μ' h' w'/\EnvR μ' σA' σ'/\Mk μ' w' n0 D'/\h'.fl=fl/\(rr.isSome=true->D'=D)
def wHt (P:Program) (ex:Run) (r:Bool):Prop:=∀ c σA h e σA' h',ex c σA h=some (e,σA',h')->∀ code N,wEq P N c code=true->∀ (rr:Option Nat) (μ:Mu) (σ:Env) (w:World) (D:List Deferred) (n0:Nat),
 rr.isSome=r->Sim (CC P) P μ h w->EnvR μ σA σ->Mk μ w n0 D->n0 <= w.heap.size->CK rr N P code (PostX P μ h.fl w n0 rr D e σA' h') D σ w
def wNe (P:Program) (ex:Run) (r:Bool) (m:Nat):Prop:=∀ c σA h e σA' h',ex (.loop c) σA h=some (e,σA',h')->∀ code N,wEq P N c code=true->∀ (rr:Option Nat) (μ:Mu) (σ:Env) (w:World) (D:List Deferred) (n0:Nat),
 rr.isSome=r->Sim (CC P) P μ h w->EnvR μ σA σ->Mk μ w n0 D->n0 <= w.heap.size->∀ a,Rep N D a σ->Code.roundsIn (WF rr) 0 P code (wIB N (PostX P μ h.fl w n0 rr D e σA' h')) m a w
theorem PostX.trans {fl:Pos} {n0:Nat} {rr:Option Nat} {D D1 D':List Deferred} {e:Ex} {e':Exit} {σA':Tr AV} {σ':Env} (E:Ext μ fl.nat w μ' w') (hD:rr.isSome=true->D1=D) (hP:PostX P μ' fl w' n0 rr D1 e σA' h' D' e' σ' w''):PostX P μ fl w n0 rr D e σA' h' D' e' σ' w'':=by
 obtain ⟨h1,μ2,h2,h3,h4,h5,h6,h7⟩:=hP
 exact ⟨h1,μ2,E.trans h2,h3,h4,h5,h6,fun hr=>(h7 hr).trans (hD hr)⟩
theorem wGx {F:Fence} {n:Nat} {c:Code} {Q Q':Exit->Act->World->Prop} (hQ:∀ e a w,Q e a w->Q' e a w):∀ (m:Nat) (a:Act) (w:World),Code.roundsIn F n P c Q m a w->Code.roundsIn F n P c Q' m a w
 | 0,_,_,h=>h.elim
 | m + 1,a,w,h=>by
  rw [roundsIn_succ] at h ⊢
  refine wpIn_mono h fun e a w q=>?_
  cases e with
  | normal=>exact wGx hQ m a w q
  | _=>exact hQ _ _ _ q
theorem Ext.drew (μ:Mu) (fl:Nat) (w:World):Ext μ fl w μ { w with drawn:=w.drawn + 1 }:=⟨Mu.Le.refl μ,fun _ _ h=>.inl h,(Keep.drew w).weak fun _ _ h=>h.elim⟩
theorem Sim.keepX {C:Chk} {X:Nat->Prop} (S:Sim C P μ h w) (K:Keep w w' X) (hX:∀ p c,μ p=some c->¬ X c.1):Sim C P μ h w' :=
 ⟨S.nx,fun p c hp=>kU (S.lt p c hp) K.size,S.inj,fun p b hb=>let ⟨c,h1,h2⟩:=S.at_ p b hb;⟨c,h1,h2.keep K (hX p c h1)⟩⟩
def wDw (P:Program):List AR->List ResultVar->Bool
 | [],[]=>true
 | .t p :: l,.tmp t :: k=>nL p.nat (t + 1) && wDw P l k
 | .c p n :: l,.cell a t :: k=>nL p.nat (a + 1) && ((match n with | none=>wOh P t false | some n=>wOh P t true && szT P t n) && wDw P l k)
 | _,_=>false
def chkF (P:Program) (k:Nat) (af:AF):Bool:=match P.funcs[k]? with
 | none=>false
 | some fn=>match fn.body with
  | none=>false
  | some c => nL fn.ntmps af.n && (wDw P af.res fn.results.toList && (!(fn.name == "runtime.NumGoroutine") && wEq P fn.ntmps af.body c))
theorem wKF {C:Chk} (hE:EnvR μ σA σ) (S:Sim C P μ h w):∀ {l:List AR} {k:List ResultVar} {vs:List AV},wDw P l k=true->wRI σA h l=some vs->∃ VS,RvL μ vs VS/\wRG P w σ k VS
 | [],[],vs,_,hr=>by simp only [wRI] at hr;cases hr;exact ⟨[],rfl,trivial⟩
 | .t p :: l,.tmp t :: k,vs,hc,hr=>by
  simp only [wDw,nA] at hc
  simp only [wRI,res1] at hr
  split at hr
  ·rename_i vs' hvs
   cases hr
   obtain ⟨VS,g1,g2⟩:=wKF hE S hc.2 hvs
   have e:=nB hc.1
   have g:=hE p
   rw [e] at g
   exact ⟨_,wBe g g1,rfl,g2⟩
  ·cases hr
 | .c p n :: l,.cell a t :: k,vs,hc,hr=>by
  simp only [wDw,nA] at hc
  obtain ⟨c1,c2,c3⟩:=hc
  have e:=nB c1
  have g:=hE p
  rw [e] at g
  rw [wRI] at hr
  split at hr
  ·rename_i v hv
   split at hr
   ·rename_i vs' hvs
    cases hr
    obtain ⟨VS,g1,g2⟩:=wKF hE S c3 hvs
    simp only [res1] at hv
    split at hv
    ·rename_i b off hb
     split at hv
     ·rename_i cl hcl
      obtain ⟨c,ws,q1,q2,q3⟩:=wEV hcl S
      rw [hb] at g
      obtain ⟨c',k1,k2⟩:=g
      rw [q1] at k1;cases k1
      have k2:σ a=.pointer (some ⟨c.1,off,none⟩):=k2
      split at hv
      ·rw [wFp] at hv
       obtain ⟨cv,r1,r2⟩:=wEj q2 hv
       refine ⟨_,wBe r2 g1,⟨_,k2,?_⟩,g2⟩
       simp [loadVar,wEK c2,load,Sem.run,q3 w (Keep.refl w _) _ _ r1]
      ·rename_i n
       simp only [nA] at c2
       obtain ⟨r,hr3,rfl⟩:=wDN hv
       obtain ⟨r1,r2⟩:=wEk hr3 q2
       refine ⟨_,wBe ⟨_,r1,rfl⟩ g1,⟨_,k2,?_⟩,g2⟩
       have:=KL.run_loadCells (P:=P) (w:=w) (b:=c.1) (off:=off) (n:=n) ((ws.drop off).take n) (by simp;omega) fun j u hu=>q3 w (Keep.refl w _) _ _ (wFH rfl j u hu)
       simp [loadVar,wEK c2.1,wDU c2.2,this]
     ·cases hv
    ·cases hv
   ·cases hr
  ·cases hr
 | [],_ :: _,_,hc,_=>by simp [wDw] at hc
 | .t _ :: _,[],_,hc,_=>by simp [wDw] at hc
 | .c _ _ :: _,[],_,hc,_=>by simp [wDw] at hc
 | .t _ :: _,.cell _ _ :: _,_,hc,_=>by simp [wDw] at hc
 | .c _ _ :: _,.tmp _ :: _,_,hc,_=>by simp [wDw] at hc
theorem wQb {C:Chk} {l:List AR} {rs:Array ResultVar} {v:AV} (hE:EnvR μ σA σ) (S:Sim C P μ h w) (hc:wDw P l rs.toList=true) (hr:wOU σA h l=some (v,h')):h'=h/\∃ cv,Rv μ v cv/\(wCY rs σ).run P w=.ok cv w:=by
 unfold wOU at hr
 split at hr
 ·rename_i vs hvs
  cases hr
  refine ⟨rfl,?_⟩
  obtain ⟨VS,g1,g2⟩:=wKF hE S hc hvs
  have hrs:rs=rs.toList.toArray:=by simp
  unfold tupA
  split
  ·rename_i v
   obtain ⟨cv,ws,q1,q2,q3⟩:=g1
   cases q2
   subst q3
   refine ⟨cv,q1,?_⟩
   have hl:∃ r,rs=#[r]:=by
    cases hq:rs.toList with
    | nil=>rw [hq] at g2;exact g2.elim
    | cons r k =>
     cases k with
     | nil=>exact ⟨r,Array.ext' (by simpa using hq)⟩
     | cons r' k=>rw [hq] at g2;cases r <;> cases r' <;> exact g2.2.elim
   obtain ⟨r,rfl⟩:=hl
   exact wOa g2
  ·rename_i hne
   refine ⟨_,⟨VS,g1,rfl⟩,?_⟩
   rw [hrs]
   refine resLn g2 ?_
   have hl:=wCl g1
   cases hb:VS.length == 1 with
   | false=>rfl
   | true =>
    have:vs.length=1:=by rw [<- hl];exact eq_of_beq hb
    obtain ⟨v,hv⟩:=List.length_eq_one_iff.1 this
    exact absurd hv (hne v)
 ·cases hr
def wIU (P:Program) (tb:Tr AF):Prop:=∀ p af,tb.get p=some af->chkF P (p.nat - 1) af=true
theorem wNf (T:wIU P tb) {ex:Run} (HE:wHt P ex false):wFq (CC P) P tb ex:=by
 intro f args h v h' hr
 unfold wIt at hr
 split at hr
 ·rename_i af haf
  have hcf:=T f af haf
  unfold chkF at hcf
  split at hcf
  ·cases hcf
  ·rename_i fn hfn
   split at hcf
   ·cases hcf
   ·rename_i c hbody
    simp only [nA,kY] at hcf
    obtain ⟨c1,c2,c3,c4⟩:=hcf
    refine ⟨fun a w=>?_,fun μ w vs S hv=>?_⟩
    ·have c3' : ¬ fn.name = "runtime.NumGoroutine" := by simpa using c3
     simp [callFunc,program,Sem.run,hfn,hbody,c3']
    ·split at hr
     ·rename_i hle
      have hle:=Nat.le_of_ble_eq_true hle
      have e1:=nB c1
      have key:∀ e σA' h1,ex af.body (wLY args .H .e) h=some (e,σA',h1)->(e=.nrm \/ e=.ret)->wOU σA' h1 af.res=some (v,h')->Gv P (f.nat - 1) vs w fun cv w'=>∃ μ',Ext μ h.fl.nat w μ' w'/\Sim (CC P) P μ' h' w'/\Rv μ' v cv/\h'.fl=h.fl:=by
       intro e σA' h1 hx he hres
       refine Gv.ofM hfn hbody rfl rfl (by rw [wCl hv,<- wEJ,e1];exact hle) ?_
       refine (HE _ _ _ _ _ _ hx c fn.ntmps c4 none μ (wPG vs) w [] w.heap.size rfl S (wPy hv) (Mk.nil μ w _) (nE _)).mono ?_
       rintro D' e' σ' w' ⟨rfl,μ',q1,q2,q3,q4,q5,_⟩
       obtain ⟨rbs,m1,m2,m3⟩:=q4
       have fin:∃ rbs:List Nat,D'=rbs.map wKj/\rbs.Nodup/\(∀ rb ∈ rbs,Dfr w' rb)/\∀ w2,Keep w' w2 (· ∈ rbs)->w2.heap.size=w'.heap.size->∃ cv,(wCY fn.results σ').run P w2=.ok cv w2/\∃ μ',Ext μ h.fl.nat w μ' w2/\Sim (CC P) P μ' h' w2/\Rv μ' v cv/\h'.fl=h.fl:=by
        refine ⟨rbs,m1,m2,fun rb hrb=>(m3 rb hrb).1,fun w2 K hs=>?_⟩
        have S2:=q2.keepX K fun p c hp hm=>(m3 _ hm).2.2 p c hp rfl
        obtain ⟨rfl,cv,r1,r2⟩:=wQb q3 S2 c2 hres
        refine ⟨cv,r2,μ',⟨q1.mono,q1.new,?_⟩,S2,r1,q5⟩
        exact q1.keep.step K fun i hi hm=>absurd (m3 i hm).2.1 (Nat.not_le.2 hi)
       rcases he with rfl | rfl
       ·exact fin
       ·exact fin
      split at hr
      ·exact key _ _ _ (by assumption) (.inl rfl) hr
      ·exact key _ _ _ (by assumption) (.inr rfl) hr
      ·cases hr
     ·cases hr
 ·cases hr
theorem wOn {ex:Run} (HE:wHt P ex true):wEo (CC P) P ex:=by
 intro b args h v h' hr
 unfold wIu at hr
 split at hr
 ·rename_i σA t asg body hB
  intro μ w xv c S hx hc
  split at hr <;> first | (cases hr;done) | skip
  rename_i σS hset
  split at hr <;> first | (cases hr;done) | skip
  rename_i σ1 h1 hasg
  split at hr <;> first | (cases hr;done) | skip
  rename_i σx tx ax bx hB1
  split at hr <;> first | (cases hr;done) | skip
  rename_i h2 hput2
  split at hr <;> first | (cases hr;done) | skip
  rename_i e σ3 h3 hbody
  split at hr <;> first | (cases hr;done) | skip
  rename_i σy ty ay by_ hB3
  split at hr <;> first | (cases hr;done) | skip
  rename_i h4 hput4
  cases hr
  obtain ⟨c',g1,g2⟩:=S.at_ b _ hB
  rw [hc] at g1;cases g1
  have L:wLZ (CC P) μ w c σA t asg body .ready:=g2
  obtain ⟨hSE,hSl⟩:=wKw hset L.ht hx L.env
  refine Yd.of L.at_ L.tN hSl fun σ0 hσ0=>?_
  have hE0:EnvR μ σS σ0:=by
   intro p
   rw [hσ0];exact hSE p
  refine (HE _ _ _ _ _ _ hasg c.g.ac c.g.N L.asg (some c.1) μ σ0 w [] 0 rfl S hE0 (Mk.nil μ w _) (kz _)).mono ?_
  rintro D' e' σ' w1 ⟨rfl,μ1,q1,q2,q3,q4,q5,q6⟩
  have hc1:=q1.mono b c hc
  obtain ⟨c',r1,r2⟩:=q2.at_ b _ hB1
  rw [hc1] at r1;cases r1
  have L1:wLZ (CC P) μ1 w1 c σx tx ax bx .ready:=r2
  refine ⟨rfl,q6 rfl,L1.at_,fun w2 hl2 K hs=>?_⟩
  obtain ⟨s1,s2,s3⟩:=q2.put hput2 hB1 trivial hc1 K (B':=.loop σA t asg body .busy) ⟨hl2,L.env.mono q1.mono,L.ht,L.tN,L.asg,L.body⟩
  rw [q5] at s2 s3
  refine (HE _ _ _ _ _ _ hbody c.g.bc c.g.N L.body (some c.1) μ1 σ' w2 [] 0 rfl s1 q3 (Mk.nil μ1 w2 _) (kz _)).mono ?_
  rintro D'' e'' σ'' w3 ⟨rfl,μ3,t1,t2,t3,t4,t5,t6⟩
  rw [s3] at t1 t5
  have hc3:=t1.mono b c hc1
  obtain ⟨c',u1,u2⟩:=t2.at_ b _ hB3
  rw [hc3] at u1;cases u1
  have L3:wLZ (CC P) μ3 w3 c σy ty ay by_ .busy:=u2
  have fin:∀ w4,LoopAt w4 c.1 c.g.N c.g.σ c.g.t c.g.ac c.g.bc c.g.rb c.g.fn (lsC e.done).1 (lsC e.done).2->Keep w3 w4 (·=c.1)->∃ μ',Ext μ h.fl.nat w μ' w4/\Sim (CC P) P μ' h' w4/\AV.bool e.go=.bool e.go/\h'.fl=h.fl:=by
   intro w4 hl4 K4
   obtain ⟨v1,v2,v3⟩:=t2.put hput4 hB3 trivial hc3 K4 (B':=.loop σA t asg body e.done) ⟨hl4,(L.env.mono q1.mono).mono t1.mono,L.ht,L.tN,L.asg,L.body⟩
   rw [t5] at v2 v3
   exact ⟨μ3,(q1.trans s2).trans (t1.trans v2),v1,rfl,v3⟩
  cases e with
  | nrm=>exact ⟨L3.at_,fun w4 hl K4 _=>fin w4 hl K4⟩
  | ret=>exact ⟨L3.at_,fun w4 hl K4 _=>fin w4 hl K4⟩
  | exit i=>exact ⟨L3.at_,fun w4 hl K4 _=>fin w4 hl K4⟩
 ·cases hr
end
end
end Go.KX
namespace Go.KX
open Go.RowKit Go.KL
theorem wKG (b:AC) (exR:Run) (e:Ex) (σ:Tr AV) (h:AH):seqK b exR (e,σ,h)=(match e with | .nrm=>exR b σ h | e=>some (e,σ,h)):=by cases e <;> rfl
theorem wRL {x:R} {k:Ex × Tr AV × AH->R} {r:Ex × Tr AV × AH} (hr:Option.rec (motive:=fun _=>R) none k x=some r):∃ y,x=some y/\k y=some r:=by
 cases x with
 | none=>cases hr
 | some y=>exact ⟨y,rfl,hr⟩
structure Fr (h h':AH):Prop where
 nx:h.nx.nat <= h'.nx.nat
 fl:h'.fl=h.fl
 get:∀ p,p.nat < h.fl.nat->p.nat < h.nx.nat->h'.m.get p=h.m.get p
theorem Fr.refl (h:AH):Fr h h:=⟨nE _,rfl,fun _ _ _=>rfl⟩
theorem Fr.trans {a b c:AH} (h:Fr a b) (k:Fr b c):Fr a c :=
 ⟨nv h.nx k.nx,k.fl.trans h.fl,fun p h1 h2=>(k.get p (by rw [h.fl];exact h1) (kU h2 h.nx)).trans (h.get p h1 h2)⟩
theorem Fr.push (h:AH) (B:AB):Fr h (h.push B):=by
 refine ⟨?_,rfl,fun p _ h2=>?_⟩
 ·show h.nx.nat <= h.nx.succ.nat
  rw [Pos.nat_succ];omega
 ·show (h.m.set h.nx B).get p=_
  rw [Tr.get_set,if_neg (fun e=>by subst e;omega)]
theorem Fr.put {h h':AH} {p:Pos} {B:AB} (hp:h.put p B=some h'):Fr h h':=by
 obtain ⟨h1,rfl⟩:=wIP hp
 refine ⟨nE _,rfl,fun q h2 _=>?_⟩
 show (h.m.set p B).get q=_
 rw [Tr.get_set,if_neg (fun e=>by subst e;omega)]
theorem Fr.setAt {h h':AH} {b:Pos} {off:Nat} {vs:List AV} (hs:KX.setAt h b off vs=some h'):Fr h h':=by
 unfold KX.setAt at hs
 split at hs
 ·split at hs
  ·exact Fr.put hs
  ·cases hs
 ·split at hs
  ·exact Fr.put hs
  ·cases hs
 ·cases hs
theorem wQc {h h':AH} {o:Option AV} {v:AV} (hr:okV h o=some (v,h')):h'=h:=by
 cases o with
 | none=>cases hr
 | some x=>cases hr;rfl
theorem wHX {α:Type} {b:Bool} {x:Option α} {y:α} (hr:ifO b x=some y):x=some y:=by
 cases b with
 | true=>exact hr
 | false=>cases hr
section
variable {tb:Tr AF} {ex exY:Run} {σ:Tr AV} {h h':AH} {v:AV}
theorem wSB {T sz by_ m:Nat} {news:List AV} {x:AV} (hr:app h T sz by_ m news x=some (v,h')):Fr h h':=by
 unfold app at hr
 split at hr
 ·split at hr <;> first | (cases hr;exact Fr.refl _) | (cases hr;done)
 ·split at hr
  ·have hr:=wHX hr;cases hr;exact Fr.push _ _
  ·split at hr
   ·split at hr
    ·rename_i hs;cases hr;exact Fr.setAt hs
    ·cases hr
   ·have hr:=wHX hr
    split at hr
    ·cases hr;exact Fr.push _ _
    ·cases hr
  ·split at hr
   ·split at hr
    ·split at hr
     ·rename_i hs;cases hr;exact Fr.setAt hs
     ·cases hr
    ·have hr:=wHX hr
     split at hr
     ·rename_i hs;cases hr;exact (Fr.put hs).trans (Fr.push _ _)
     ·cases hr
   ·cases hr
  ·cases hr
theorem wPY {z:List AV} {b:Pos} {off n:Nat} (hr:clr h z b off n=some (v,h')):Fr h h':=by
 unfold clr at hr
 split at hr
 ·cases hr;exact Fr.refl _
 ·have hr:=wHX hr
  split at hr
  ·rename_i hs;cases hr;exact Fr.setAt hs
  ·cases hr
def FrX (ex:Run):Prop:=∀ c σ h e σ' h',ex c σ h=some (e,σ',h')->Fr h h'
theorem wPZ {l:List AR} (hr:wOU σ h l=some (v,h')):Fr h h':=by
 unfold wOU at hr
 split at hr
 ·cases hr;exact Fr.refl _
 ·cases hr
theorem wNg (HE:FrX ex) {f:Pos} {args:List AV} (hr:wIt tb ex f args h=some (v,h')):Fr h h':=by
 unfold wIt at hr
 split at hr
 ·split at hr
  ·split at hr
   ·rename_i h1;exact (HE _ _ _ _ _ _ h1).trans (wPZ hr)
   ·rename_i h1;exact (HE _ _ _ _ _ _ h1).trans (wPZ hr)
   ·cases hr
  ·cases hr
 ·cases hr
theorem wOo (HY:FrX ex) {b:Pos} {args:List AV} (hr:wIu ex b args h=some (v,h')):Fr h h':=by
 unfold wIu at hr
 split at hr
 ·split at hr
  ·cases hr
  ·split at hr
   ·rename_i h1
    split at hr
    ·split at hr
     ·rename_i h2
      split at hr
      ·rename_i h3
       split at hr
       ·split at hr
        ·rename_i h4
         cases hr
         exact (HY _ _ _ _ _ _ h1).trans ((Fr.put h2).trans ((HY _ _ _ _ _ _ h3).trans (Fr.put h4)))
        ·cases hr
       ·cases hr
      ·cases hr
     ·cases hr
    ·cases hr
   ·cases hr
 ·cases hr
theorem wNh (HE:FrX ex) (HY:FrX exY) (op:AOp) (hr:opY op tb ex exY σ h=some (v,h')):Fr h h':=by
  cases op with
  | call x l =>
    have hr:wFo x l tb ex exY σ h=some (v,h'):=hr
    unfold wFo at hr
    split at hr
    · exact wNg HE hr
    · exact wOo HY hr
    · cases hr
  | new T z=>cases hr;exact Fr.push _ _
  | box T x=>cases hr;exact Fr.push _ _
  | mkm=>cases hr;exact Fr.push _ _
  | mks T sz b z x y =>
    have hr:wGg T sz b z x y σ h=some (v,h'):=hr
    unfold wGg at hr
    split at hr
    · have hr:=wHX hr;cases hr;exact Fr.push _ _
    · cases hr
  | blds T n z ps =>
    have hr:wEH T n z ps σ h=some (v,h'):=hr
    unfold wEH at hr
    split at hr
    · cases hr;exact Fr.push _ _
    · cases hr
  | st n x y =>
    have hr:wPO n x y σ h=some (v,h'):=hr
    unfold wPO at hr
    split at hr
    · split at hr
      · split at hr
        · rename_i hs;cases hr;exact Fr.setAt hs
        · cases hr
      · cases hr
    · cases hr
  | mput two k x y z =>
    have hr:wFm two k x y z σ h=some (v,h'):=hr
    unfold wFm at hr
    split at hr
    · split at hr
      · split at hr
        · split at hr
          · rename_i hs;cases hr;exact Fr.put hs
          · cases hr
        · cases hr
      · cases hr
    · cases hr
  | mdel two k x y =>
    have hr:wFn two k x y σ h=some (v,h'):=hr
    unfold wFn at hr
    split at hr
    · split at hr
      · split at hr
        · split at hr
          · rename_i hs;cases hr;exact Fr.put hs
          · cases hr
        · cases hr
      · cases hr
    · cases hr
  | app T sz b x y =>
    have hr:wIq T sz b x y σ h=some (v,h'):=hr
    unfold wIq at hr
    split at hr
    · exact wSB (wHX hr)
    · cases hr
  | cpy sz x y =>
    have hr:wIr sz x y σ h=some (v,h'):=hr
    unfold wIr at hr
    split at hr
    · split at hr
      · have hr:=wHX hr
        split at hr
        · rename_i hs;cases hr;exact Fr.setAt hs
        · cases hr
      · cases hr
    · cases hr
  | clr z x =>
    have hr:wIs z x σ h=some (v,h'):=hr
    unfold wIs at hr
    split at hr
    · exact wPY hr
    · exact wPY hr
    · cases hr;exact Fr.refl _
    · cases hr;exact Fr.refl _
    · cases hr
  | bad=>cases hr
  | apz T sz b z x y =>
    have hr:wIv T sz b z x y σ h=some (v,h'):=hr
    unfold wIv at hr
    split at hr
    · split at hr
      · cases hr;exact Fr.refl _
      · have hr:=wHX hr;cases hr;exact Fr.push _ _
    · cases hr
  | _ =>
    have e:h'=h:=by
      dsimp only [opY] at hr
      first
        | exact wQc hr
        | (simp only [wRH,wGe,wOS,wHW,wGf,wJj,wJk,wJl,wJm,wJn,wLX,wJo,wGh,wJp,wJq,wGi,wJr,wGj,wPv,wJs,wOT,wJt,wJu,wEd,wJv,wJw] at hr
           repeat' (split at hr)
           all_goals first
             | exact wQc hr
             | (cases hr;rfl)
             | (cases hr;done)
             | exact wQc (wHX hr)
             | (have hr2:=wHX hr;cases hr2;rfl))
    subst e
    exact Fr.refl _
theorem wPa (HE:FrX ex) (HY:FrX exY) (k:Nat) (op:AOp) (hr:opK k op tb ex exY σ h=some (v,h')):Fr h h':=by
 by_cases k2:nL k 2=true
 ·have hr:wPP op tb ex exY σ h=some (v,h'):=by
   have e:opK k op=wPP op:=by unfold opK;rw [k2]
   rw [e] at hr;exact hr
  unfold wPP at hr
  split at hr
  ·rename_i v0 h0 hq
   cases hr
   have F:=wNh HE HY op hq
   exact ⟨F.nx,rfl,fun p _ h2=>F.get p h2 h2⟩
  ·cases hr
 ·have e:opK k op=opY op:=by
   unfold opK
   cases hb:nL k 2 with
   | true=>exact absurd hb k2
   | false=>rfl
  rw [e] at hr
  exact wNh HE HY op hr
theorem wSC (HE:FrX ex) (HY:FrX exY) (op:AOp) (hr:wPP op tb ex exY σ h=some (v,h')):∀ p,p.nat < h.nx.nat->h'.m.get p=h.m.get p:=by
 unfold wPP at hr
 split at hr
 ·rename_i v0 h0 hq
  cases hr
  have F:=wNh HE HY op hq
  exact fun p h2=>F.get p h2 h2
 ·cases hr
theorem wHu (HE:FrX ex) (HY:FrX exY):∀ (l:List AO) (σ:Tr AV) (h:AH) (σ':Tr AV) (h':AH),wAX tb ex exY l σ h=some (σ',h')->Fr h h'
 | [],σ,h,σ',h',hr=>by
  rw [wAt] at hr;cases hr;exact Fr.refl _
 | o :: os,σ,h,σ',h',hr=>by
  rw [wAw] at hr
  split at hr
  ·split at hr
   ·rename_i r hq
    exact (wPa HE HY _ _ hq).trans (wHu HE HY os _ _ _ _ hr)
   ·cases hr
  ·exact wHu HE HY os _ _ _ _ hr
theorem wNi {exR:Run} (HR:FrX exR) {b:AC} {r:Ex × Tr AV × AH} {e:Ex} {σ':Tr AV} (hr:seqK b exR r=some (e,σ',h')):Fr r.2.2 h':=by
 obtain ⟨e0,σ0,h0⟩:=r
 rw [wKG] at hr
 cases e0 with
 | nrm=>exact HR _ _ _ _ _ _ hr
 | exit i=>cases hr;exact Fr.refl _
 | ret=>cases hr;exact Fr.refl _
theorem wQd {exR:Run} (HE:FrX ex) (HY:FrX exY) (HR:FrX exR) (c:AC) (f:Bool) {e:Ex} {σ':Tr AV} (hr:step c f tb ex exY exR σ h=some (e,σ',h')):Fr h h':=by
 cases c with
 | skip=>cases hr;exact Fr.refl _
 | rg l =>
  have hr:sRg l tb ex exY exR σ h=some (e,σ',h'):=hr
  unfold sRg at hr
  cases hq:wAX tb ex exY l σ h with
  | none=>rw [hq] at hr;cases hr
  | some y =>
   rw [hq] at hr
   cases hr
   exact wHu HE HY l _ _ _ _ hq
 | seq a b =>
  have hr:wRc a b exR σ h=some (e,σ',h'):=hr
  unfold wRc at hr
  obtain ⟨y,h1,h2⟩:=wRL hr
  exact (HR _ _ _ _ _ _ h1).trans (wNi HR h2)
 | cond c a b =>
  have hr:wMu c a b exR σ h=some (e,σ',h'):=hr
  unfold wMu at hr
  split at hr
  ·exact HR _ _ _ _ _ _ hr
  ·exact HR _ _ _ _ _ _ hr
  ·cases hr
 | block i a =>
  have hr:wKi i a exR σ h=some (e,σ',h'):=hr
  unfold wKi at hr
  obtain ⟨y,h1,h2⟩:=wRL hr
  obtain ⟨e0,σ0,h0⟩:=y
  refine (HR _ _ _ _ _ _ h1).trans ?_
  unfold wPR at h2
  cases e0 with
  | nrm=>cases h2;exact Fr.refl _
  | ret=>cases h2;exact Fr.refl _
  | exit j =>
   simp only at h2
   cases hb:nL j i with
   | true=>rw [hb] at h2;cases h2;exact Fr.refl _
   | false=>rw [hb] at h2;cases h2;exact Fr.refl _
 | loop a =>
  have hr:wMv a exR σ h=some (e,σ',h'):=hr
  unfold wMv at hr
  obtain ⟨y,h1,h2⟩:=wRL hr
  exact (HR _ _ _ _ _ _ h1).trans (wNi HR h2)
 | rf g t asg body =>
  have hr:sRf f g t asg body tb ex σ h=some (e,σ',h'):=hr
  unfold sRf at hr
  split at hr
  ·split at hr
   ·rename_i h1
    have F:=(Fr.push h (.loop σ t asg body .ready)).trans (wNg HE h1)
    split at hr
    ·split at hr
     ·rename_i h2;cases hr;exact F.trans (Fr.put h2)
     ·cases hr
    ·split at hr
     ·rename_i h2;cases hr;exact F.trans (Fr.put h2)
     ·cases hr
    ·cases hr
   ·cases hr
  ·cases hr
 | exit i=>cases hr;exact Fr.refl _
 | scope a=>exact HR _ _ _ _ _ _ hr
 | ret=>cases hr;exact Fr.refl _
 | rl l =>
  have hr:sRl l tb ex exY σ h=some (e,σ',h'):=hr
  rw [wPQ] at hr
  split at hr
  ·rename_i y hq
   cases hr
   exact wHu HE HY l _ _ _ _ (wKE _ _ _ _ hq).1
  ·cases hr
theorem wEr (tb:Tr AF):∀ (n:Nat) (r:Bool),FrX (exec tb n r)
 | 0,r=>fun c σ h e σ' h' hr=>by cases hr
 | n + 1,r=>fun c σ h e σ' h' hr=>by
  rw [wIw] at hr
  exact wQd (wEr tb n false) (wEr tb n true) (wEr tb n r) c _ hr
end
end Go.KX
namespace Go.KX
open Go.RowKit Go.KL
theorem wQe {a b:IntKind} (h:keq a b=true):a=b:=by
 cases a <;> cases b <;> first | rfl | (simp [keq] at h)
theorem wQf {a b:Int} (h:zeq a b=true):a=b:=by
 cases a with
 | ofNat a=>cases b with
  | ofNat b=>simp only [zeq] at h;rw [nB h]
  | negSucc b=>simp [zeq] at h
 | negSucc a=>cases b with
  | ofNat b=>simp [zeq] at h
  | negSucc b=>simp only [zeq] at h;rw [nB h]
mutual
theorem wKH:∀ {a b:AV},same a b=true->a=b
 | .int k n,.int k' n',h=>by simp only [same,nA] at h;rw [wQe h.1,wQf h.2]
 | .bool a,.bool b,h=>by simp only [same,beq_iff_eq] at h;rw [h]
 | .ptr b o,.ptr b' o',h=>by simp only [same,nA] at h;rw [Pos.beq_eq h.1,nB h.2]
 | .pnil,.pnil,_=>rfl
 | .sl b o n c,.sl b' o' n' c',h=>by simp only [same,nA] at h;rw [Pos.beq_eq h.1,nB h.2.1,nB h.2.2.1,nB h.2.2.2]
 | .rw b o n c,.rw b' o' n' c',h=>by simp only [same,nA] at h;rw [Pos.beq_eq h.1,nB h.2.1,nB h.2.2.1,nB h.2.2.2]
 | .snil,.snil,_=>rfl
 | .map b,.map b',h=>by simp only [same] at h;rw [Pos.beq_eq h]
 | .mnil,.mnil,_=>rfl
 | .fn f fi ca,.fn f' fi' ca',h=>by simp only [same,nA] at h;rw [Pos.beq_eq h.1,wDr h.2.1,wDr h.2.2]
 | .fnil,.fnil,_=>rfl
 | .agg l,.agg l',h=>by simp only [same] at h;rw [wDr h]
 | .tup l,.tup l',h=>by simp only [same] at h;rw [wDr h]
theorem wDr:∀ {a b:List AV},wGk a b=true->a=b
 | [],[],_=>rfl
 | a :: l,b :: k,h=>by simp only [wGk,nA] at h;rw [wKH h.1,wDr h.2]
 | [],_ :: _,h=>by simp [wGk] at h
 | _ :: _,[],h=>by simp [wGk] at h
end
section
variable {tb:Tr AF} {ex exY:Run} {σ:Tr AV} {h h':AH} {v:AV}
theorem wNj {o:Option AV} (hr:okV h o=some (v,h')) (h2:AH):okV h2 o=some (v,h2):=by
 cases o with
 | none=>cases hr
 | some x=>cases hr;rfl
end
section
variable {P:Program} {l:List Oper} {σ σ':Env} {o:Oper} {w:World}
def Agr (l:List Oper) (o:Oper) (σ σ':Env):Prop:=∀ d ∈ wED l o,σ d=σ' d
theorem wSD (h:Agr l o σ σ'):∀ y ∈ o.op.operands,ev σ y=ev σ' y:=by
 intro y hy
 cases y with
 | tmp t=>exact h t (ng _ (kr.2 ⟨.tmp t,by simpa using hy,rfl⟩))
 | _=>rfl
theorem wCK (h:Agr l o σ σ'):wanted l σ o=wanted l σ' o:=by
 unfold wanted
 cases hg:o.guard with
 | none=>rfl
 | some g =>
  obtain ⟨j,b⟩:=g
  simp only
  cases hd:(l[j]?).bind (·.dst) with
  | none=>rfl
  | some t =>
   simp only
   rw [h t (by unfold wED;rw [hg];simp only [hd];simp)]
theorem wNk (hs:wBn o=false) (h:Agr l o σ σ'):execOp (ev σ) o=execOp (ev σ') o:=execOp_congr o (wMK hs) (wSD h)
theorem Runs.agr (hs:wBn o=false) (h:Agr l o σ σ') {v:Value} {w':World}:Runs P σ w o v w' ↔ Runs P σ' w o v w':=by
 unfold Runs;rw [wNk hs h]
theorem Runs.det {v v':Value} {w1 w2:World} (h:Runs P σ w o v w1) (h':Runs P σ w o v' w2):v=v'/\w1=w2:=by
 have:=h.2.symm.trans h'.2
 simp only [Result.ok.injEq] at this
 obtain ⟨e,e2⟩:=this
 exact ⟨by simpa using e,e2⟩
theorem Step1.agr (hs:wBn o=false) (h:Agr l o σ σ') {R:Value->World->Prop} (hh:Step1 P l o σ w R):Step1 P l o σ' w R:=by
 have e:=wNk hs h
 have ew:=wCK h
 rcases hh with ⟨h1,⟨h2,w',h3,h4⟩ | ⟨v,w',h3,h4⟩ | ⟨f,args,R',h3,h4,h5⟩ | hy⟩ | ⟨h1,h2⟩
 ·exact .inl ⟨ew ▸ h1,.inl ⟨h2,w',by unfold Does at h3 ⊢;rw [<- e];exact h3,h4⟩⟩
 ·exact .inl ⟨ew ▸ h1,.inr (.inl ⟨v,w',by unfold Runs at h3 ⊢;rw [<- e];exact h3,h4⟩)⟩
 ·exact .inl ⟨ew ▸ h1,.inr (.inr (.inl ⟨f,args,R',by unfold Enters at h3 ⊢;rw [<- e];exact h3,h4,h5⟩))⟩
 ·exact .inl ⟨ew ▸ h1,.inr (.inr (.inr (by unfold Rounds at hy ⊢;rw [<- e];exact hy)))⟩
 ·exact .inr ⟨ew ▸ h1,h2⟩
end
end Go.KX
namespace Go.KX
open Go.RowKit Go.KL
section
variable {tb:Tr AF} {ex exY:Run} {C:Chk} {P:Program}
theorem wDW:∀ (l1 l2:List AO) (σ:Tr AV) (h:AH) (r:Tr AV × AH),wAX tb ex exY (l1 ++ l2) σ h=some r->∃ σ1 h1,wAX tb ex exY l1 σ h=some (σ1,h1)/\wAX tb ex exY l2 σ1 h1=some r
 | [],l2,σ,h,r,hr=>⟨σ,h,wAt _ _ _ _ _,hr⟩
 | a :: l1,l2,σ,h,r,hr=>by
  rw [nJ,wAw] at hr
  rw [wAw]
  cases hw:wCf σ a.grd with
  | true =>
   rw [hw] at hr
   simp only at hr ⊢
   cases hq:opK a.kd a.op tb ex exY σ h with
   | none=>rw [hq] at hr;cases hr
   | some q =>
    rw [hq] at hr
    exact wDW l1 l2 _ _ r hr
  | false =>
   rw [hw] at hr
   exact wDW l1 l2 _ _ r hr
theorem wIV {d:Option Pos} {σ:Tr AV} {v:AV} {p:Pos}:evA (wFw d σ v) (.t p)=if d=some p then v else evA σ (.t p):=by
 cases d with
 | none =>
  rw [if_neg (by simp)]
  rfl
 | some q =>
  show evA (σ.set q v) (.t p)=_
  rw [wJy,Tr.get_set]
  by_cases e:p=q
  ·subst e
   rw [if_pos rfl,if_pos rfl]
   rfl
  ·rw [if_neg e,if_neg (fun h=>e (by cases h;rfl)),wJy]
theorem wCm:∀ (l:List AO) (σ:Tr AV) (h:AH) (σ':Tr AV) (h':AH),wAX tb ex exY l σ h=some (σ',h')->∀ p,(∀ a ∈ l,a.dst ≠ some p)->evA σ' (.t p)=evA σ (.t p)
 | [],σ,h,σ',h',hr,p,_=>by
  rw [wAt] at hr
  cases hr
  rfl
 | a :: l,σ,h,σ',h',hr,p,hp=>by
  have hn:a.dst ≠ some p:=hp a (by simp)
  rw [wAw] at hr
  cases hw:wCf σ a.grd with
  | true =>
   rw [hw] at hr
   simp only at hr
   cases hq:opK a.kd a.op tb ex exY σ h with
   | none=>rw [hq] at hr;cases hr
   | some q =>
    rw [hq] at hr
    rw [wCm l _ _ _ _ hr p fun b hb=>hp b (by simp [hb]),wIV,if_neg hn]
  | false =>
   rw [hw] at hr
   rw [wCm l _ _ _ _ hr p fun b hb=>hp b (by simp [hb]),wIV,if_neg hn]
variable {μ μ':Mu} {h:AH} {w:World}
theorem Sim.adopt {c:Cl} {B:AB} (S:Sim C P μ h w) (hlt:c.1 < w.heap.size) (hn:∀ p d,μ p=some d->d.1 ≠ c.1) (hB:AbR C P (μ.add h.nx c) w c B):Sim C P (μ.add h.nx c) (h.push B) w:=by
 have hn0:=S.nx h.nx (nE _)
 have hle:=Mu.add_le (c:=c) hn0
 refine ⟨?_,?_,?_,?_⟩
 ·intro p hp
  have hp:h.nx.succ.nat <= p.nat:=hp
  rw [Pos.nat_succ] at hp
  unfold Mu.add
  rw [if_neg (fun e=>by subst e;omega)]
  exact S.nx p (by omega)
 ·intro p d hd
  unfold Mu.add at hd
  split at hd
  ·cases hd;exact hlt
  ·exact S.lt p d hd
 ·intro p q a b d e hp hq la lb hd he hde
  simp only [AH.push,Tr.get_set] at hp hq
  unfold Mu.add at hd he
  split at hd <;> split at he
  ·rename_i h1 h2;rw [h1,h2]
  ·cases hd;exact absurd hde.symm (hn _ _ he)
  ·cases he;exact absurd hde (hn _ _ hd)
  ·rename_i h1 h2
   rw [if_neg h1] at hp
   rw [if_neg h2] at hq
   exact S.inj p q a b d e hp hq la lb hd he hde
 ·intro p b hb
  simp only [AH.push,Tr.get_set] at hb
  split at hb
  ·rename_i e
   subst e
   cases hb
   exact ⟨c,Mu.add_same _ _ _,hB⟩
  ·rename_i e
   obtain ⟨d,h1,h2⟩:=S.at_ p b hb
   exact ⟨d,hle _ _ h1,h2.mono hle⟩
end
end Go.KX
namespace Go.KX
open Go.RowKit Go.KL
theorem wFg:∀ {l:List AOd} {p:Pos},AOd.t p ∈ l->p ∈ wCZ l
 | .t q :: l,p,h=>by
  rcases nD.1 h with h | h
  ·cases h;simp [wCZ]
  ·simp only [wCZ,nD];exact .inr (wFg h)
 | .c v :: l,p,h=>by
  rcases nD.1 h with h | h
  ·cases h
  ·show p ∈ wCZ l
   exact wFg h
noncomputable def rst (σ:Tr AV):List Pos->Tr AV
 | []=>.e
 | p :: ps=>(rst σ ps).set p (evA σ (.t p))
theorem wGy (σ:Tr AV):∀ (ps:List Pos) (p:Pos),evA (rst σ ps) (.t p)=if p ∈ ps then evA σ (.t p) else u
 | [],p=>by rw [if_neg (by simp)];rfl
 | q :: ps,p=>by
  show evA ((rst σ ps).set q (evA σ (.t q))) (.t p)=_
  rw [wJy,Tr.get_set]
  by_cases e:p=q
  ·subst e
   rw [if_pos rfl,if_pos (by simp)]
   rfl
  ·rw [if_neg e,<- wJy,wGy σ ps p]
   simp [e]
open Classical in
noncomputable def rsl (σ:Env) (ps:List Pos):Env:=fun d=>if ∃ p ∈ ps,p.nat - 1=d then σ d else undef
theorem wGz {μ:Mu} {σA:Tr AV} {σ:Env} {ps:List Pos} (h:∀ p ∈ ps,Rv μ (evA σA (.t p)) (σ (p.nat - 1))):EnvR μ (rst σA ps) (rsl σ ps):=by
 intro p
 rw [wGy]
 unfold rsl
 by_cases hp:p ∈ ps
 ·rw [if_pos hp,if_pos ⟨p,hp,rfl⟩]
  exact h p hp
 ·rw [if_neg hp,if_neg]
  ·exact wNC μ
  ·rintro ⟨q,hq,e⟩
   have h1:=q.nat_pos
   have h2:=p.nat_pos
   have:q=p:=Pos.nat_inj (by omega)
   exact hp (this ▸ hq)
section
variable {tb:Tr AF} {ex exY:Run} {C:Chk} {P:Program} {μ:Mu} {σA:Tr AV} {σ:Env} {h h':AH} {v:AV} {o:Oper} {a:AOp} {w:World}
theorem wKx (hr:opY a tb ex exY σA h=some (v,h')):opY a tb ex exY (rst σA (wCZ (wBh a))) h=some (v,h'):=by
 rw [<- hr]
 refine wNc a (fun x hx=>?_) h
 cases x with
 | t p=>rw [wGy,if_pos (wFg hx)]
 | c v=>rfl
theorem wQg (hs:wBn o=false) (hb:Sub a o):execOp (ev (rsl σ (wCZ (wBh a)))) o=execOp (ev σ) o:=by
 refine execOp_congr o (wMK hs) fun y hy=>?_
 cases y with
 | tmp t =>
  show rsl σ (wCZ (wBh a)) t=σ t
  unfold rsl
  rw [if_pos (hb t hy)]
 | _=>rfl
theorem wIW (hs:wBn o=false) (hb:Sub a o) {v:Value} {w':World}:Runs P (rsl σ (wCZ (wBh a))) w o v w' ↔ Runs P σ w o v w':=by
 unfold Runs;rw [wQg hs hb]
theorem wHA (hs:wBn o=false) (hb:Sub a o) (hk:kdA a=3) (hc:wGt P a o.op=true) (hr:opY a tb ex exY σA h=some (v,h')) (hv:∀ p ∈ wCZ (wBh a),Rv μ (evA σA (.t p)) (σ (p.nat - 1))) :
  ∃ cv,Rv μ v cv/\∀ w,Runs P σ w o cv w:=by
 obtain ⟨_,h2⟩:=wHp (tb:=tb) (ex:=ex) (exY:=exY) hk hc _ _ _ _ (wKx hr)
 obtain ⟨cv,g1,g2⟩:=h2 μ _ (wGz hv)
 exact ⟨cv,g1,fun w=>(wIW hs hb).1 (g2 o w rfl)⟩
theorem wNl (hs:wBn o=false) (hb:Sub a o) (hk:kdA a=1 \/ kdA a=3) (hc:wGt P a o.op=true) (hr:opY a tb ex exY σA h=some (v,h')) (S:Sim C P μ h w) (hv:∀ p ∈ wCZ (wBh a),Rv μ (evA σA (.t p)) (σ (p.nat - 1))) :
  ∃ cv,Rv μ v cv/\Runs P σ w o cv w:=by
 obtain ⟨_,h2⟩:=wHq (C:=C) (tb:=tb) (ex:=ex) (exY:=exY) hk hc _ _ _ _ (wKx hr)
 obtain ⟨cv,g1,g2⟩:=h2 μ _ w (wGz hv) S
 exact ⟨cv,g1,(wIW hs hb).1 (g2 o rfl w (Keep.refl w _))⟩
theorem wKy {op:Op} (hk:wMF a=true) (hc:wGt P a op=true):OkA C P op (opY a tb ex exY):=by
 cases a <;> first
  | (simp [wMF] at hk;done)
  | exact a_new hc | exact a_box hc | exact a_mkm hc | exact a_mks hc | exact wRz hc
theorem wLh (hs:wBn o=false) (hb:Sub a o) (hk:wMF a=true) (hc:wGt P a o.op=true) (hr:opY a tb ex exY σA h=some (v,h')) (hv:∀ p ∈ wCZ (wBh a),Rv μ (evA σA (.t p)) (σ (p.nat - 1))) :
  ∃ (B:AB) (vf:Pos->AV) (ob:Obj) (val:Nat->Value),h'=h.push B/\v=vf h.nx/\wLa B/\(∀ w:World,Runs P σ w o (val w.heap.size) (w.alloc ob)) /\
   (∀ μ' (w:World) b,μ.Le μ'->w.heap[b]?=some ob->AbR C P μ' w ⟨b,0,g0⟩ B)/\∀ μ' p b,μ' p=some ⟨b,0,g0⟩->Rv μ' (vf p) (val b):=by
 obtain ⟨B,vf,e1,e2,_,e4,e5⟩:=wKy (C:=C) (tb:=tb) (ex:=ex) (exY:=exY) hk hc _ _ _ _ (wKx hr)
 obtain ⟨ob,val,g1,g2,g3⟩:=e5 μ _ (wGz hv) o rfl
 exact ⟨B,vf,ob,val,e1,e2,e4,fun w=>(wIW hs hb).1 (g1 w),g2,g3⟩
end
end Go.KX
namespace Go.KX
open Go.RowKit Go.KL
section
variable {tb:Tr AF} {ex exY:Run} {P:Program}
theorem wKz {s t:List AO} {a:AO} {σ0:Tr AV} {h0:AH} {r:Tr AV × AH} (hr:wAX tb ex exY (s ++ a :: t) σ0 h0=some r) :
  ∃ σ1 h1,wAX tb ex exY s σ0 h0=some (σ1,h1) /\
   ((wCf σ1 a.grd=true/\∃ v h2,opK a.kd a.op tb ex exY σ1 h1=some (v,h2)/\wAX tb ex exY t (wFw a.dst σ1 v) h2=some r) \/
    (wCf σ1 a.grd=false/\wAX tb ex exY t (wFw a.dst σ1 u) h1=some r)):=by
 obtain ⟨σ1,h1,e1,e2⟩:=wDW s (a :: t) σ0 h0 r hr
 refine ⟨σ1,h1,e1,?_⟩
 rw [wAw] at e2
 cases hw:wCf σ1 a.grd with
 | true =>
  rw [hw] at e2
  simp only at e2
  cases hq:opK a.kd a.op tb ex exY σ1 h1 with
  | none=>rw [hq] at e2;cases e2
  | some q =>
   rw [hq] at e2
   exact .inl ⟨rfl,q.1,q.2,rfl,e2⟩
 | false =>
  rw [hw] at e2
  exact .inr ⟨rfl,e2⟩
theorem wDs {l:List Oper} {S:Nat->Bool} (hdc:∀ k,k < l.length->S k=true->∀ j ∈ prI l k,S j=true) {x i:Nat} (hp:∀ j ∈ prI l i,S j=true) (h:wKs l x i):S x=true:=h S hdc hp
variable {N:Nat} {l:List Oper} {os s t:List AO} {a:AO} {σ0 σ1 σf:Tr AV} {h0 h1 hf:AH}
theorem wKI (Z:ZOK P N l os) (e:os=s ++ a :: t) {v:AV} {σ2:Tr AV} {h2:AH} (hr:wAX tb ex exY t (wFw a.dst σ2 v) h2=some (σf,hf)) {p:Pos} (hp:a.dst=some p):evA σf (.t p)=v:=by
 rw [wCm t _ _ _ _ hr p fun b hb=>Z.wr s a t e p hp b (na _ hb),wIV,if_pos hp]
theorem wSE (Z:ZOK P N l os) (e:os=s ++ a :: t) (hr:wAX tb ex exY (a :: t) σ1 h1=some (σf,hf)) {p:Pos} (hp:p ∈ wCL a):evA σf (.t p)=evA σ1 (.t p) :=
 wCm (a :: t) _ _ _ _ hr p fun b hb=>Z.rd s a t e p hp b hb
end
end Go.KX
namespace Go.KX
open Go.RowKit Go.KL
section
variable {tb:Tr AF} {ex exY:Run} {P:Program} {N:Nat} {l:List Oper} {os s t:List AO} {a:AO} {σ0 σ1 σA σf:Tr AV} {h0 h h1 hf:AH} {μ μS:Mu} {σ σ':Env} {w:World} {o:Oper}
theorem wCn:∀ {s s' t t':List AO} {a:AO},(s ++ a :: t).Pairwise (fun a b=>a.ix ≠ b.ix)->s ++ a :: t=s' ++ a :: t'->s=s'/\t=t'
 | [],[],t,t',a,_,e=>by
  simp only [nP,nT,true_and] at e
  exact ⟨rfl,e⟩
 | [],b :: s',t,t',a,hp,e=>by
  simp only [nP,nJ,nT] at e
  obtain ⟨rfl,rfl⟩:=e
  rw [nP] at hp
  exact absurd rfl ((nZ.1 hp).1 a (by simp))
 | b :: s,[],t,t',a,hp,e=>by
  simp only [nP,nJ,nT] at e
  obtain ⟨rfl,rfl⟩:=e
  rw [nJ] at hp
  exact absurd rfl ((nZ.1 hp).1 b (by simp))
 | b :: s,b' :: s',t,t',a,hp,e=>by
  simp only [nJ,nT] at e
  rw [nJ] at hp
  obtain ⟨h1,h2⟩:=wCn (nZ.1 hp).2 e.2
  exact ⟨by rw [e.1,h1],h2⟩
theorem wEW (A:AOK P N l a o) (hs:Sub a.op o):∀ d ∈ wED l o,∃ p ∈ wCL a,p.nat - 1=d:=by
 intro d hd
 unfold wED at hd
 rcases nH.1 hd with hd | hd
 ·obtain ⟨y,h1,h2⟩:=kr.1 hd
  cases y with
  | tmp t =>
   simp only [kw] at h2
   subst h2
   obtain ⟨p,h3,h4⟩:=hs t (by simpa using h1)
   exact ⟨p,ng _ h3,h4⟩
  | _=>simp at h2
 ·rcases A.grd with ⟨_,h2⟩ | ⟨p,b,j,d',h1,h2,h3,h4⟩
  ·rw [h2] at hd;simp at hd
  ·rw [h2] at hd
   simp only [h3,Option.toList_some,nN] at hd
   subst hd
   exact ⟨p,na _ (by rw [h1];simp),h4.symm⟩
structure Pend (tb:Tr AF) (ex exY:Run) (P:Program) (l:List Oper) (os:List AO) (σ0:Tr AV) (h0:AH) (σf:Tr AV) (w0:World) (μ μS:Mu) (σ:Env) (w:World) (a:AO) (o:Oper) (p:Pos):Prop where
 get:l[a.ix]?=some o
 dst:a.dst=some p
 fact:(wanted l σ o=false/\σ (p.nat - 1)=undef/\evA σf (.t p)=u) \/ (wanted l σ o=true /\
  (((a.kd=1 \/ a.kd=3 \/ 8 <= a.kd)/\Rv μ (evA σf (.t p)) (σ (p.nat - 1))) \/
   (a.kd=6/\Rv μS (evA σf (.t p)) (σ (p.nat - 1))/\∃ w1 w2,Runs P σ w1 o (σ (p.nat - 1)) w2) \/
   (a.kd=4/\Rv μS (evA σf (.t p)) (σ (p.nat - 1))/\∃ w1 ob s1 t1 σ1 h1,Runs P σ w1 o (σ (p.nat - 1)) (w1.alloc ob)/\w.heap[w1.heap.size]?=some ob/\w0.heap.size <= w1.heap.size /\
    os=s1 ++ a :: t1/\wAX tb ex exY s1 σ0 h0=some (σ1,h1)/\μS h1.nx=some ⟨w1.heap.size,0,g0⟩/\∀ q c,μS q=some c->c.1=w1.heap.size->q=h1.nx)))
theorem wNm {tb:Tr AF} {ex exY:Run} {k:Nat} {op:AOp} {σ:Tr AV} {h h':AH} {v:AV} (hk:k ≠ 2) (hr:opK k op tb ex exY σ h=some (v,h')):opY op tb ex exY σ h=some (v,h'):=by
 have hb:nL k 2=false:=by
  cases hb:nL k 2 with
  | false=>rfl
  | true=>exact absurd (nB hb) hk
 have:opK k op=opY op:=by unfold opK;rw [hb]
 rwa [this] at hr
theorem wLi {k:Nat} (h:8 <= k):¬ wCH k=true:=by
 unfold wCH
 simp only [nf,not_or]
 exact ⟨fun e=>by have:=nB e;omega,fun e=>by have:=nB e;omega⟩
theorem wNn {w:World} {a b:Obj} (h:w.alloc a=w.alloc b):a=b:=by
 have h1:=heap_alloc_new w a
 rw [h,heap_alloc_new] at h1
 exact (nI h1).symm
theorem wSF (Z:ZOK P N l os) (e:os=s ++ a :: t) {μ0:Mu} {w0:World} {fl:Nat} (hs:wAX tb ex exY s σ0 h0=some (σA,h)) (hr:wAX tb ex exY (a :: t) σA h=some (σf,hf))
  (E:Ext μ0 fl w0 μ w) (S:Sim (CC P) P μ h w) (hE:EnvR μ σA σ') (hle:μ.Le μS) {p:Pos} (Pd:Pend tb ex exY P l os σ0 h0 σf w0 μ μS σ w a o p) (hag:∀ q ∈ wCL a,σ (q.nat - 1)=σ' (q.nat - 1)) :
  ∃ σB hB μB,wAX tb ex exY (s ++ [a]) σ0 h0=some (σB,hB)/\wAX tb ex exY t σB hB=some (σf,hf)/\μ.Le μB/\μB.Le μS/\Ext μ0 fl w0 μB w/\Sim (CC P) P μB hB w/\hB.fl=h.fl/\EnvR μB σB (upd σ' (p.nat - 1) (σ (p.nat - 1)))/\(a.kd=4->wanted l σ o=true->μB h.nx ≠ none):=by
 have ha:a ∈ os:=by rw [e];simp
 obtain ⟨o',A⟩:=wCs (Z.ao a ha)
 have eo:o'=o:=by have:=A.get;rw [Pd.get] at this;exact (nI this).symm
 subst eo
 have hsel:=Z.sel a ha _ A.get
 have hsub:=Z.sub a ha _ A.get
 have hagr:Agr l o' σ σ':=fun d hd=>by
  obtain ⟨q,h1,rfl⟩:=wEW A hsub d hd
  exact hag q h1
 have hw:=wIS A hE
 have hwσ:wanted l σ o'=wCf σA a.grd:=(wCK hagr).trans hw
 obtain ⟨pd,dd,d1,d2,d3,_⟩:∃ p d,a.dst=some p/\o'.dst=some d/\d=p.nat - 1/\d < N:=by
  rcases A.dst with ⟨h1,_⟩ | h
  ·rw [Pd.dst] at h1;cases h1
  ·exact h
 have ep:pd=p:=by rw [Pd.dst] at d1;exact (nI d1).symm
 subst ep
 have eput:∀ cv,put' σ' o' cv=upd σ' (pd.nat - 1) cv:=fun cv=>by unfold put';rw [d2,d3]
 obtain ⟨σx,hx,q1,q2⟩:=wKz (s:=[]) (a:=a) (t:=t) (σ0:=σA) (h0:=h) (by rw [nP];exact hr)
 rw [wAt] at q1
 cases q1
 have split1:∀ {σB hB},(match wCf σA a.grd with | true=>(match opK a.kd a.op tb ex exY σA h with | some r=>some (wFw a.dst σA r.1,r.2) | none=>none) | false=>some (wFw a.dst σA u,h))=some (σB,hB)->wAX tb ex exY (s ++ [a]) σ0 h0=some (σB,hB):=by
  intro σB hB hq
  have app:∀ (l1 l2:List AO) (x:Tr AV) (y:AH) (x1:Tr AV) (y1:AH),wAX tb ex exY l1 x y=some (x1,y1)->wAX tb ex exY (l1 ++ l2) x y=wAX tb ex exY l2 x1 y1:=by
   intro l1
   induction l1 with
   | nil=>intro l2 x y x1 y1 h;rw [wAt] at h;cases h;rfl
   | cons b l1 ih =>
    intro l2 x y x1 y1 h
    rw [nJ,wAw]
    rw [wAw] at h
    cases hb:wCf x b.grd with
    | true =>
     rw [hb] at h
     simp only at h ⊢
     cases hq:opK b.kd b.op tb ex exY x y with
     | none=>rw [hq] at h;cases h
     | some r=>rw [hq] at h;exact ih l2 _ _ _ _ h
    | false =>
     rw [hb] at h
     exact ih l2 _ _ _ _ h
  rw [app s [a] _ _ _ _ hs,wAw]
  cases hb:wCf σA a.grd with
  | true =>
   rw [hb] at hq
   simp only at hq ⊢
   cases hk:opK a.kd a.op tb ex exY σA h with
   | none=>rw [hk] at hq;cases hq
   | some r =>
    rw [hk] at hq
    cases hq
    exact wAt _ _ _ _ _
  | false =>
   rw [hb] at hq
   cases hq
   rw [wAt]
 rcases q2 with ⟨g1,v,h2,g2,g3⟩ | ⟨g1,g3⟩
 ·have hv:evA σf (.t pd)=v:=wKI Z e g3 Pd.dst
  have hrun:=split1 (σB:=wFw a.dst σA v) (hB:=h2) (by rw [g1];simp only;rw [g2])
  rcases Pd.fact with ⟨f1,_⟩ | ⟨_,⟨fk,f1⟩ | ⟨fk,f1,w1,w2,f2⟩ | ⟨fk,f1,w1,ob,s1,t1,σ1,h1,f2,f3,f4,f5,f6,f7,f8⟩⟩
  ·rw [hwσ,g1] at f1;cases f1
  ·have gY:opY a.op tb ex exY σA h=some (v,h2):=wNm (by omega) g2
   have hk:kdA a.op=1 \/ kdA a.op=3:=by
    rcases fk with fk | fk | fk
    ·exact A.k1 fk
    ·exact .inr (A.k3 fk)
    ·rcases Z.kd a ha with hh | ⟨_,hh | hh | hh | hh | hh⟩
     ·exact absurd hh (wLi fk)
     ·omega
     ·omega
     ·omega
     ·omega
     ·exact .inl hh.2
   obtain ⟨e1,_⟩:=wHq (C:=CC P) hk A.op _ _ _ _ gY
   subst e1
   rw [hv] at f1
   exact ⟨_,_,μ,hrun,g3,Mu.Le.refl μ,hle,E,S,rfl,by rw [<- eput];exact wDv A hE f1,fun h4 _=>by omega⟩
  ·have gY:opY a.op tb ex exY σA h=some (v,h2):=by rw [fk] at g2;exact g2
   have hk:kdA a.op=3:=by
    rcases Z.kd a ha with hh | ⟨_,hh | hh | hh | hh | hh⟩
    ·rw [fk] at hh;exact absurd hh (by decide)
    ·omega
    ·omega
    ·exact hh.2
    ·omega
    ·omega
   obtain ⟨e1,e2⟩:=wHp hk A.op _ _ _ _ gY
   subst e1
   obtain ⟨cv,c1,c2⟩:=e2 μ σ' hE
   have:=Runs.det ((Runs.agr hsel hagr).2 (c2 o' w1 rfl)) f2
   rw [<- eput,<- this.1]
   exact ⟨_,_,μ,hrun,g3,Mu.Le.refl μ,hle,E,S,rfl,wDv A hE c1,fun h4 _=>by omega⟩
  ·have gY:opY a.op tb ex exY σA h=some (v,h2):=by rw [fk] at g2;exact g2
   have hk:wMF a.op=true:=by
    rcases Z.kd a ha with hh | ⟨_,hh | hh | hh | hh | hh⟩
    ·rw [fk] at hh;exact absurd hh (by decide)
    ·omega
    ·omega
    ·omega
    ·exact hh.2
    ·omega
   obtain ⟨B,vf,e1,e2,_,_,e5⟩:=wKy (C:=CC P) hk A.op _ _ _ _ gY
   obtain ⟨ob',val,c1,c2,c3⟩:=e5 μ σ' hE o' rfl
   obtain ⟨k1,k2⟩:=Runs.det ((Runs.agr hsel hagr).2 (c1 w1)) f2
   have k2:=wNn k2
   subst k2
   have es:s1=s:=(wCn (f5 ▸ Z.one) (f5.symm.trans e)).1
   subst es
   rw [hs] at f6
   cases f6
   have hn0:=S.nx h.nx (nE _)
   have hadd:=Mu.add_le (c:=(⟨w1.heap.size,0,g0⟩:Cl)) hn0
   have hlt:w1.heap.size < w.heap.size:=wAV f3
   subst e1 e2
   have hv':Rv (μ.add h.nx ⟨w1.heap.size,0,g0⟩) (vf h.nx) (σ (pd.nat - 1)):=by
    rw [<- k1]
    exact c3 _ _ _ (Mu.add_same _ _ _)
   refine ⟨_,_,μ.add h.nx ⟨w1.heap.size,0,g0⟩,hrun,g3,hadd,?_,⟨E.mono.trans hadd,?_,E.keep⟩,S.adopt hlt ?_ (c2 _ w _ hadd f3),rfl,?_,fun _ _=>by rw [Mu.add_same];simp⟩
   ·intro q d hq
    unfold Mu.add at hq
    split at hq
    ·rename_i eq
     subst eq
     cases hq
     exact f7
    ·exact hle q d hq
   ·intro q c hq
    unfold Mu.add at hq
    split at hq
    ·cases hq
     exact .inr (.inr f4)
    ·exact E.new q c hq
   ·intro q d hq hd
    have:=f8 q d (hle q d hq) hd
    subst this
    rw [hn0] at hq
    cases hq
   ·rw [<- eput]
    exact wDv A (hE.mono hadd) hv'
 ·have hrun:=split1 (σB:=wFw a.dst σA u) (hB:=h) (by rw [g1])
  rcases Pd.fact with ⟨_,f2,_⟩ | ⟨f1,_⟩
  ·refine ⟨_,_,μ,hrun,g3,Mu.Le.refl μ,hle,E,S,rfl,?_,fun _ hw'=>by rw [hwσ,g1] at hw';cases hw'⟩
   rw [f2,<- eput]
   exact wDv A hE (wNC μ)
  ·rw [hwσ,g1] at f1;cases f1
structure JS (tb:Tr AF) (ex exY:Run) (P:Program) (l:List Oper) (os:List AO) (σ0:Tr AV) (h0:AH) (σf:Tr AV) (hf:AH) (μ0:Mu) (w0:World) (S:Nat->Bool) (σ:Env) (w:World) (s t:List AO) (σA:Tr AV) (h:AH) (σ':Env) (μ μS:Mu):Prop where
 e:os=s ++ t
 hs:wAX tb ex exY s σ0 h0=some (σA,h)
 hr:wAX tb ex exY t σA h=some (σf,hf)
 inS:∀ a ∈ s,S a.ix=true
 free:∀ a ∈ t,S a.ix=true->wCH a.kd=false
 E:Ext μ0 h0.fl.nat w0 μ w
 sim:Sim (CC P) P μ h w
 fl:h.fl=h0.fl
 env:EnvR μ σA σ'
 ag:∀ q:Pos,(∀ a ∈ t,S a.ix=true->a.dst ≠ some q)->σ (q.nat - 1)=σ' (q.nat - 1)
 le:μ.Le μS
 nm:∀ q c,μS q=some c->μ q=some c \/ ∃ a o s1 t1 σ1 h1,a ∈ t/\S a.ix=true/\l[a.ix]?=some o/\wanted l σ o=true/\a.kd=4/\os=s1 ++ a :: t1/\wAX tb ex exY s1 σ0 h0=some (σ1,h1)/\q=h1.nx
 pd:∀ a ∈ t,S a.ix=true->∃ o p,Pend tb ex exY P l os σ0 h0 σf w0 μ μS σ w a o p
theorem Pend.mono {μB:Mu} {w0:World} {p:Pos} (h:Pend tb ex exY P l os σ0 h0 σf w0 μ μS σ w a o p) (hm:μ.Le μB):Pend tb ex exY P l os σ0 h0 σf w0 μB μS σ w a o p:=by
 refine ⟨h.get,h.dst,?_⟩
 rcases h.fact with f | ⟨f,⟨f1,f2⟩ | f1 | f1⟩
 ·exact .inl f
 ·exact .inr ⟨f,.inl ⟨f1,f2.mono hm⟩⟩
 ·exact .inr ⟨f,.inr (.inl f1)⟩
 ·exact .inr ⟨f,.inr (.inr f1)⟩
theorem JS.catch1 (Z:ZOK P N l os) {μ0:Mu} {w0:World} {S:Nat->Bool} (J:JS tb ex exY P l os σ0 h0 σf hf μ0 w0 S σ w s (a :: t) σA h σ' μ μS) (ha:S a.ix=true) :
  ∃ σB hB σ'' μB,JS tb ex exY P l os σ0 h0 σf hf μ0 w0 S σ w (s ++ [a]) t σB hB σ'' μB μS:=by
 obtain ⟨o,p,Pd⟩:=J.pd a (by simp) ha
 have hag:∀ q ∈ wCL a,σ (q.nat - 1)=σ' (q.nat - 1):=fun q hq=>J.ag q fun b hb _=>Z.rd s a t J.e q hq b hb
 obtain ⟨σB,hB,μB,c1,c2,c3,c4,c5,c6,c7,c8,c9⟩:=wSF Z J.e J.hs J.hr J.E J.sim J.env J.le Pd hag
 have hne:∀ b ∈ t,b.ix ≠ a.ix:=fun b hb e=>by
  have:=Z.one
  rw [J.e] at this
  exact (nZ.1 (nz.1 this).2.1).1 b hb e.symm
 refine ⟨σB,hB,_,μB,by rw [J.e];simp,c1,c2,fun b hb=>?_,fun b hb=>J.free b (by simp [hb]),c5,c6,c7.trans J.fl,c8,fun q hq=>?_,c4,fun q c hq=>?_,fun b hb hS=>?_⟩
 ·rcases nH.1 hb with hb | hb
  ·exact J.inS b hb
  ·rw [nN.1 hb];exact ha
 ·by_cases e:q=p
  ·subst e
   rw [wCo]
  ·rw [wDg _ _ (fun h=>e (Pos.nat_inj (by have:=q.nat_pos;have:=p.nat_pos;omega)))]
   refine J.ag q fun b hb hS=>?_
   rcases nD.1 hb with rfl | hb
   ·rw [Pd.dst]
    intro h
    cases h
    exact e rfl
   ·exact hq b hb hS
 ·rcases J.nm q c hq with h1 | ⟨b,ob,s1,t1,σ1,h1,k1,k2,k3,k4,k5,k6,k7,k8⟩
  ·exact .inl (c3 _ _ h1)
  ·rcases nD.1 k1 with rfl | k1
   ·left
    have hs1:s1=s:=(wCn (k6 ▸ Z.one) (k6.symm.trans J.e)).1
    subst hs1
    rw [J.hs] at k7
    cases k7
    subst k8
    rw [Pd.get] at k3
    cases k3
    have:=c9 k5 k4
    cases hm:μB h.nx with
    | none=>exact absurd hm this
    | some c' =>
     have:=c4 _ _ hm
     rw [hq] at this
     exact this.symm
   ·exact .inr ⟨b,ob,s1,t1,σ1,h1,k1,k2,k3,k4,k5,k6,k7,k8⟩
 ·obtain ⟨o',p',h'⟩:=J.pd b (by simp [hb]) hS
  exact ⟨o',p',h'.mono c3⟩
end
end Go.KX
namespace Go.KX
open Go.RowKit Go.KL
section
variable {tb:Tr AF} {ex exY:Run} {P:Program} {N:Nat} {l:List Oper} {os s t:List AO} {a:AO} {σ0 σA σf:Tr AV} {h0 h hf:AH} {μ μS:Mu} {σ σ':Env} {w:World} {o:Oper}
theorem wDc:∀ (l1 l2:List AO) (x:Tr AV) (y:AH) (x1:Tr AV) (y1:AH),wAX tb ex exY l1 x y=some (x1,y1)->wAX tb ex exY (l1 ++ l2) x y=wAX tb ex exY l2 x1 y1
 | [],l2,x,y,x1,y1,h=>by rw [wAt] at h;cases h;rfl
 | b :: l1,l2,x,y,x1,y1,h=>by
  rw [nJ,wAw]
  rw [wAw] at h
  cases hb:wCf x b.grd with
  | true =>
   rw [hb] at h
   simp only at h ⊢
   cases hq:opK b.kd b.op tb ex exY x y with
   | none=>rw [hq] at h;cases h
   | some r=>rw [hq] at h;exact wDc l1 l2 _ _ _ _ h
  | false =>
   rw [hb] at h
   exact wDc l1 l2 _ _ _ _ h
theorem wQh (HE:FrX ex) (HY:FrX exY) (Z:ZOK P N l os) (e:os=s ++ t) (hs:wAX tb ex exY s σ0 h0=some (σA,h)) {b:AO} (hb:b ∈ t) {s1 t1:List AO} {σ1:Tr AV} {h1:AH} (e1:os=s1 ++ b :: t1) (hr:wAX tb ex exY s1 σ0 h0=some (σ1,h1)):h.nx.nat <= h1.nx.nat:=by
 obtain ⟨r,r',rfl⟩:=nR hb
 have es:s1=s ++ r:=(wCn (e1 ▸ Z.one) (e1.symm.trans (e.trans (nQ _ _ _).symm))).1
 subst es
 rw [wDc s r _ _ _ _ hs] at hr
 exact (wHu HE HY _ _ _ _ _ hr).nx
theorem wGJ (Z:ZOK P N l os) {S:Nat->Bool} (hdc:∀ k,k < l.length->S k=true->∀ j ∈ prI l k,S j=true) (ha:a ∈ os) (hS:S a.ix=false) {b:AO} (hb:b ∈ os) (hbS:S b.ix=true) (A:AOK P N l a o) {ob:Oper} (hob:l[b.ix]?=some ob) (v:Value):Agr l ob σ (put' σ o v):=by
 obtain ⟨ob',B⟩:=wCs (Z.ao b hb)
 have eo:ob'=ob:=by have:=B.get;rw [hob] at this;exact (nI this).symm
 subst eo
 intro d hd
 obtain ⟨p,hp,rfl⟩:=wEW B (Z.sub b hb _ B.get) d hd
 symm
 refine wGQ fun dd hdd e=>?_
 rcases A.dst with ⟨_,h2⟩ | ⟨q,d',h1,h2,h3,_⟩
 ·rw [h2] at hdd;cases hdd
 ·rw [h2] at hdd
  have hdd:=nI hdd
  have eq:q=p:=Pos.nat_inj (by have:=q.nat_pos;have:=p.nat_pos;have:q.nat - 1=p.nat - 1:=h3.symm.trans (hdd.trans e);omega)
  subst eq
  have:=Z.rdS b hb q hp a ha h1
  have hlt:b.ix < l.length:=(nc.1 hob).1
  have:=wDs hdc (hdc _ hlt hbS) this
  rw [hS] at this
  cases this
theorem JS.fixed (HC:wFq (CC P) P tb ex) (HY':wEo (CC P) P exY) (HE:FrX ex) (HY:FrX exY) (Z:ZOK P N l os) {μ0:Mu} {w0:World} {S:Nat->Bool} (J:JS tb ex exY P l os σ0 h0 σf hf μ0 w0 S σ w s (a :: t) σA h σ' μ μS) (hfix:wCH a.kd=true) (hS:S a.ix=false)
  (hdc:∀ k,k < l.length->S k=true->∀ j ∈ prI l k,S j=true) (A:AOK P N l a o) :
  Step1 P l o σ w fun v w'=>∃ σB hB σ'' μB μT,JS tb ex exY P l os σ0 h0 σf hf μ0 w0 (fun k=>k == a.ix || S k) (put' σ o v) w' (s ++ [a]) t σB hB σ'' μB μT:=by
 have ha:a ∈ os:=by rw [J.e];simp
 have hsel:=Z.sel a ha _ A.get
 have hag:∀ q ∈ wCL a,σ (q.nat - 1)=σ' (q.nat - 1):=fun q hq=>J.ag q fun b hb _=>Z.rd s a t J.e q hq b hb
 have hagr:Agr l o σ σ':=fun d hd=>by
  obtain ⟨q,h1,rfl⟩:=wEW A (Z.sub a ha _ A.get) d hd
  exact hag q h1
 have hw:=wIS A J.env
 have main:∀ (v:AV) (cv:Value) (hB:AH) (w':World) (μB:Mu),wAX tb ex exY (s ++ [a]) σ0 h0=some (wFw a.dst σA v,hB)->wAX tb ex exY t (wFw a.dst σA v) hB=some (σf,hf) ->
   Ext μ h.fl.nat w μB w'->Sim (CC P) P μB hB w'->EnvR μB (wFw a.dst σA v) (put' σ' o cv)->hB.fl=h.fl ->
   ∃ σB hB σ'' μB μT,JS tb ex exY P l os σ0 h0 σf hf μ0 w0 (fun k=>k == a.ix || S k) (put' σ o cv) w' (s ++ [a]) t σB hB σ'' μB μT:=by
  intro v cv hB w' μB r1 r2 E' S' hE' hfl
  have hne:∀ b ∈ t,b.ix ≠ a.ix:=fun b hb e=>by
   have:=Z.one
   rw [J.e] at this
   exact (nZ.1 (nz.1 this).2.1).1 b hb e.symm
  have hSb:∀ b ∈ t,(b.ix == a.ix || S b.ix)=true->S b.ix=true:=fun b hb h=>by
   have:=hne b hb
   simpa [this] using h
  have hbo:∀ b ∈ t,b ∈ os:=fun b hb=>by rw [J.e];simp [hb]
  have eB:os=(s ++ [a]) ++ t:=by rw [J.e];simp
  have hnm:∀ b ∈ t,∀ s1 t1 σ1 h1,os=s1 ++ b :: t1->wAX tb ex exY s1 σ0 h0=some (σ1,h1)->μB h1.nx=none/\μ h1.nx=none:=fun b hb s1 t1 σ1 h1 e1 hr=>by
   have g1:=wQh HE HY Z eB r1 hb e1 hr
   have g2:=wQh HE HY Z J.e J.hs (b:=b) (by simp [hb]) e1 hr
   exact ⟨S'.nx _ g1,J.sim.nx _ g2⟩
  let μT:Mu:=fun q=>match μB q with | some c=>some c | none=>μS q
  have hT:μB.Le μT:=fun q c hq=>by show (match μB q with | some c=>some c | none=>μS q)=_;rw [hq]
  have hST:μS.Le μT:=fun q c hq=>by
   show (match μB q with | some c=>some c | none=>μS q)=_
   cases hB:μB q with
   | none=>exact hq
   | some c' =>
    rcases J.nm q c hq with h1 | ⟨b,ob,s1,t1,σ1,h1,k1,k2,k3,k4,k5,k6,k7,k8⟩
    ·rw [E'.mono _ _ h1] at hB
     exact hB.symm ▸ rfl
    ·rcases nD.1 k1 with rfl | k1
     ·rw [hS] at k2;cases k2
     ·have:=(hnm b k1 s1 t1 σ1 h1 k6 k7).1
      rw [<- k8,hB] at this
      cases this
  refine ⟨_,hB,_,μB,μT,eB,r1,r2,fun b hb=>?_,fun b hb hh=>J.free b (by simp [hb]) (hSb b hb hh),?_,S',hfl.trans J.fl,hE',fun q hq=>?_,hT,fun q c hq=>?_,fun b hb hh=>?_⟩
  ·rcases nH.1 hb with hb | hb
   ·simp [J.inS b hb]
   ·rw [nN.1 hb];simp
  ·have:=J.E
   refine this.trans ?_
   rw [<- J.fl]
   exact E'
  ·have old:σ (q.nat - 1)=σ' (q.nat - 1) \/ a.dst=some q:=by
    by_cases hq':a.dst=some q
    ·exact .inr hq'
    ·exact .inl (J.ag q fun b hb h=>by
      rcases nD.1 hb with rfl | hb
      ·exact hq'
      ·exact hq b hb (by simp [h]))
   rcases A.dst with ⟨h1,h2⟩ | ⟨p,d,h1,h2,h3,_⟩
   ·unfold put'
    rw [h2]
    rcases old with old | old
    ·exact old
    ·rw [h1] at old;cases old
   ·unfold put'
    rw [h2]
    by_cases e:q.nat - 1=d
    ·simp only [e,wCo]
    ·simp only
     rw [wDg _ _ e,wDg _ _ e]
     rcases old with old | old
     ·exact old
     ·rw [h1] at old
      cases old
      exact absurd h3.symm e
  ·have hq:(match μB q with | some c=>some c | none=>μS q)=some c:=hq
   cases hB':μB q with
   | some c' =>
    rw [hB'] at hq
    exact .inl hq
   | none =>
    rw [hB'] at hq
    rcases J.nm q c hq with h1 | ⟨b,ob,s1,t1,σ1,h1,k1,k2,k3,k4,k5,k6,k7,k8⟩
    ·rw [E'.mono _ _ h1] at hB'
     cases hB'
    ·rcases nD.1 k1 with rfl | k1
     ·rw [hS] at k2;cases k2
     ·exact .inr ⟨b,ob,s1,t1,σ1,h1,k1,by simp [k2],k3,(wCK (wGJ Z hdc ha hS (hbo b k1) k2 A k3 cv)).symm.trans k4,k5,k6,k7,k8⟩
  ·have hbS:=hSb b hb hh
   obtain ⟨ob,p,Pd⟩:=J.pd b (by simp [hb]) hbS
   have hA:=wGJ (σ:=σ) Z hdc ha hS (hbo b hb) hbS A Pd.get cv
   have hp:put' σ o cv (p.nat - 1)=σ (p.nat - 1):=wGQ fun d hd e=>by
    rcases A.dst with ⟨_,h2⟩ | ⟨q,d',h1,h2,h3,_⟩
    ·rw [h2] at hd;cases hd
    ·rw [h2] at hd
     have hd:=nI hd
     have eq:q=p:=Pos.nat_inj (by have:=q.nat_pos;have:=p.nat_pos;have:q.nat - 1=p.nat - 1:=h3.symm.trans (hd.trans e);omega)
     subst eq
     exact Z.wr s a t J.e q h1 b (na _ hb) Pd.dst
   have hsb:=Z.sel b (hbo b hb) _ Pd.get
   refine ⟨ob,p,Pd.get,Pd.dst,?_⟩
   rw [hp,<- wCK hA]
   rcases Pd.fact with f | ⟨f,⟨f1,f2⟩ | ⟨f1,f2,w1,w2,f3⟩ | ⟨f1,f2,w1,o1,s1,t1,σ1,h1,f3,f4,f5,f6,f7,f8,f9⟩⟩
   ·exact .inl f
   ·exact .inr ⟨f,.inl ⟨f1,f2.mono E'.mono⟩⟩
   ·exact .inr ⟨f,.inr (.inl ⟨f1,f2.mono hST,w1,w2,(Runs.agr hsb hA).1 f3⟩)⟩
   ·obtain ⟨n1,n2⟩:=hnm b hb s1 t1 σ1 h1 f6 f7
    have nimg:¬ img μ h.fl.nat w1.heap.size:=by
     rintro ⟨q,d,g1,g2,_⟩
     have:=f9 q d (J.le _ _ g1) g2
     rw [this,n2] at g1
     cases g1
    refine .inr ⟨f,.inr (.inr ⟨f1,f2.mono hST,w1,o1,s1,t1,σ1,h1,(Runs.agr hsb hA).1 f3,(E'.keep.block _ (wAV f4) nimg).trans f4,f5,f6,f7,hST _ _ f8,fun q c hq hc=>?_⟩)⟩
    have hq:(match μB q with | some c=>some c | none=>μS q)=some c:=hq
    cases hB':μB q with
    | none=>rw [hB'] at hq;exact f9 q c hq hc
    | some c' =>
     rw [hB'] at hq
     cases hq
     rcases E'.new q c hB' with g | g | g
     ·exact f9 q c (J.le _ _ g) hc
     ·rw [hc] at g;exact absurd g nimg
     ·have:=wAV f4;omega
 obtain ⟨σx,hx,q1,q2⟩:=wKz (s:=[]) (a:=a) (t:=t) (σ0:=σA) (h0:=h) (by rw [nP];exact J.hr)
 rw [wAt] at q1
 cases q1
 refine Step1.agr hsel (fun d hd=>(hagr d hd).symm) ?_
 rcases q2 with ⟨g1,v,h2,g2,g3⟩ | ⟨g1,g3⟩
 ·refine (wRy HC HY' A (hw.trans g1) g2 J.env J.sim).mono ?_
  rintro cv w' ⟨_,μB,e1,e2,e3,e4⟩
  refine main v cv h2 w' μB ?_ g3 e1 e2 e3 e4
  rw [wDc s [a] _ _ _ _ J.hs,wAw,g1]
  simp only
  rw [g2]
  exact wAt _ _ _ _ _
 ·refine .inr ⟨hw.trans g1,?_⟩
  refine main u undef h w μ ?_ g3 (Ext.refl μ _ w) J.sim (wDv A J.env (wNC μ)) rfl
  rw [wDc s [a] _ _ _ _ J.hs,wAw,g1]
  exact wAt _ _ _ _ _
theorem JS.opnd (Z:ZOK P N l os) {μ0:Mu} {w0:World} {S:Nat->Bool} (J:JS tb ex exY P l os σ0 h0 σf hf μ0 w0 S σ w s t σA h σ' μ μS) (ha:a ∈ os) (hl:a.ix < l.length) (hp:∀ j ∈ prI l a.ix,S j=true)
  (hdc:∀ k,k < l.length->S k=true->∀ j ∈ prI l k,S j=true) {p:Pos} (hr:p ∈ wCL a):Rv μS (evA σf (.t p)) (σ (p.nat - 1))/\(a.kd=1 \/ a.kd=3 \/ 8 <= a.kd->Rv μ (evA σf (.t p)) (σ (p.nat - 1))):=by
 have base:(∀ b ∈ t,b.dst ≠ some p)->Rv μ (evA σf (.t p)) (σ (p.nat - 1)):=fun hn=>by
  rw [wCm t _ _ _ _ J.hr p hn,J.ag p fun b hb _=>hn b hb]
  exact J.env p
 by_cases hw:∃ b ∈ t,b.dst=some p
 ·obtain ⟨b,hb,hd⟩:=hw
  have hbo:b ∈ os:=by rw [J.e];simp [hb]
  have hanc:=Z.rdS a ha p hr b hbo hd
  have hS:=wDs hdc hp hanc
  obtain ⟨ob,p',Pd⟩:=J.pd b hb hS
  have ep:p'=p:=by have:=Pd.dst;rw [hd] at this;exact (nI this).symm
  subst ep
  rcases Pd.fact with ⟨_,f1,f2⟩ | ⟨_,⟨_,f1⟩ | ⟨f0,f1,_⟩ | ⟨f0,f1,_⟩⟩
  ·rw [f1,f2]
   exact ⟨wNC _,fun _=>wNC _⟩
  ·exact ⟨f1.mono J.le,fun _=>f1⟩
  ·exact ⟨f1,fun hk=>absurd f0 (Z.cl a ha hk p' hr b hbo hd).2⟩
  ·exact ⟨f1,fun hk=>absurd f0 (Z.cl a ha hk p' hr b hbo hd).1⟩
 ·have:=base fun b hb hd=>hw ⟨b,hb,hd⟩
  exact ⟨this.mono J.le,fun _=>this⟩
end
end Go.KX
namespace Go.KX
open Go.RowKit Go.KL
section
variable {tb:Tr AF} {ex exY:Run} {P:Program} {N:Nat} {l:List Oper} {os s t:List AO} {a:AO} {σ0 σA σf:Tr AV} {h0 h h1 h' hf:AH} {μ μS:Mu} {σ σ':Env} {w:World} {o:Oper} {v:AV}
theorem wOp {a:AOp} {op:Op} (hk:kdA a=1) (hc:wGt P a op=true) (hE:EnvR μ σA σ) (hm:∀ b c,μ b=some c->h.m.get b=h1.m.get b) (hr:opY a tb ex exY σA h1=some (v,h')):opY a tb ex exY σA h=some (v,h):=by
 have cel:∀ b c,μ b=some c->wDM h b=wDM h1 b:=fun b c hb=>by unfold wDM;rw [hm b c hb]
 cases a <;> first | (simp [kdA] at hk;done) | skip
 case ld x =>
  have hr:wOS x σA h1=some (v,h'):=hr
  show wOS x σA h=some (v,h)
  have hc:wRn P x op=true:=hc
  unfold wRn at hc
  split at hc
  ·simp only [nA] at hc
   have g:=wAF hc.2 hE
   unfold wOS at hr ⊢
   split at hr
   ·rename_i b off hb
    rw [hb] at g
    obtain ⟨c,g1,_⟩:=g
    simp only [hb,cel b c g1]
    split at hr
    ·exact wNj hr h
    ·cases hr
   ·cases hr
  ·cases hc
 case ldA n x =>
  have hr:wHW n x σA h1=some (v,h'):=hr
  show wHW n x σA h=some (v,h)
  have hc:wNR P n x op=true:=hc
  unfold wNR at hc
  split at hc
  ·simp only [nA] at hc
   have g:=wAF hc.2 hE
   unfold wHW at hr ⊢
   split at hr
   ·rename_i b off hb
    rw [hb] at g
    obtain ⟨c,g1,_⟩:=g
    simp only [hb,cel b c g1]
    split at hr
    ·exact wNj hr h
    ·cases hr
   ·cases hr
  ·cases hc
 case lk two k ok z x y =>
  have hr:wOT two k ok z x y σA h1=some (v,h'):=hr
  show wOT two k ok z x y σA h=some (v,h)
  have hc:wRr P two k ok z x y op=true:=hc
  unfold wRr at hc
  split at hc
  ·simp only [nA] at hc
   have g:=wAF hc.2.2.1 hE
   unfold wOT at hr ⊢
   split at hr
   ·rename_i b hb
    rw [hb] at g
    obtain ⟨c,g1,_⟩:=g
    simp only [hb,hm b c g1]
    repeat' (split at hr)
    all_goals first | (cases hr;done) | (cases hr;rfl)
   ·cases hr
  ·cases hc
 case lenM x =>
  have hr:wEd x σA h1=some (v,h'):=hr
  show wEd x σA h=some (v,h)
  have hc:wJF P x op=true:=hc
  unfold wJF at hc
  split at hc
  ·split at hc
   ·simp only [nA] at hc
    obtain ⟨_,hc⟩:=hc
    split at hc
    ·simp only [nA] at hc
     have g:=wAF hc.2 hE
     unfold wEd at hr ⊢
     split at hr
     ·rename_i hb
      cases hr
      simp_all
     ·rename_i b hb
      rw [hb] at g
      obtain ⟨c,g1,_⟩:=g
      simp only [hb,hm b c g1]
      repeat' (split at hr)
      all_goals first | (cases hr;done) | (cases hr;rfl)
     ·cases hr
    ·cases hc
   ·cases hc
  ·cases hc
theorem wIX (HE:FrX ex) (HY:FrX exY):∀ (r:List AO) (σ1:Tr AV) (h1:AH) (σ2:Tr AV) (h2:AH),wAX tb ex exY r σ1 h1=some (σ2,h2)->(∀ b ∈ r,wGu P N l b=true) ->
  (∀ b ∈ r,b.kd=2 \/ (b.kd=1 \/ b.kd=3 \/ (b.kd=6/\kdA b.op=3) \/ (b.kd=4/\wMF b.op=true) \/ (8 <= b.kd/\kdA b.op=1)))->h1.nx.nat <= h2.nx.nat/\∀ p:Pos,p.nat < h1.nx.nat->h2.m.get p=h1.m.get p
 | [],σ1,h1,σ2,h2,hr,_,_=>by
  rw [wAt] at hr
  cases hr
  exact ⟨nE _,fun _ _=>rfl⟩
 | b :: r,σ1,h1,σ2,h2,hr,hc,hk=>by
  rw [wAw] at hr
  cases hw:wCf σ1 b.grd with
  | false =>
   rw [hw] at hr
   exact wIX HE HY r _ _ _ _ hr (fun c hcc=>hc c (by simp [hcc])) (fun c hcc=>hk c (by simp [hcc]))
  | true =>
   rw [hw] at hr
   simp only at hr
   cases hq:opK b.kd b.op tb ex exY σ1 h1 with
   | none=>rw [hq] at hr;cases hr
   | some q =>
    rw [hq] at hr
    obtain ⟨v,h3⟩:=q
    obtain ⟨g1,g2⟩:=wIX HE HY r _ _ _ _ hr (fun c hcc=>hc c (by simp [hcc])) (fun c hcc=>hk c (by simp [hcc]))
    obtain ⟨o,A⟩:=wCs (hc b (by simp))
    have one:h1.nx.nat <= h3.nx.nat/\∀ p:Pos,p.nat < h1.nx.nat->h3.m.get p=h1.m.get p:=by
     have same:h3=h1->h1.nx.nat <= h3.nx.nat/\∀ p:Pos,p.nat < h1.nx.nat->h3.m.get p=h1.m.get p:=fun e=>by subst e;exact ⟨nE _,fun _ _=>rfl⟩
     rcases hk b (by simp) with k | k | k | ⟨k,k'⟩ | ⟨k,k'⟩ | ⟨k,k'⟩
     ·exact ⟨(wPa HE HY _ _ hq).nx,wSC HE HY b.op (by rw [k] at hq;exact hq)⟩
     ·rw [k] at hq
      exact same (wHq (C:=CC P) (A.k1 k) A.op _ _ _ _ hq).1
     ·rw [k] at hq
      exact same (wHp (A.k3 k) A.op _ _ _ _ hq).1
     ·rw [k] at hq
      exact same (wHp k' A.op _ _ _ _ hq).1
     ·rw [k] at hq
      obtain ⟨B,vf,e1,_⟩:=wKy (C:=CC P) k' A.op _ _ _ _ hq
      subst e1
      refine ⟨(Fr.push h1 B).nx,fun p hp=>?_⟩
      show (h1.m.set h1.nx B).get p=_
      rw [Tr.get_set,if_neg (fun e=>by subst e;omega)]
     ·exact same (wHq (C:=CC P) (.inl k') A.op _ _ _ _ (wNm (by omega) hq)).1
    exact ⟨nv one.1 g1,fun p hp=>(g2 p (kU hp one.1)).trans (one.2 p hp)⟩
theorem JS.full {μ0:Mu} {w0:World} {S:Nat->Bool} (J:JS tb ex exY P l os σ0 h0 σf hf μ0 w0 S σ w s t σA h σ' μ μS):wAX tb ex exY os σ0 h0=some (σf,hf):=by
 rw [J.e,wDc s t _ _ _ _ J.hs]
 exact J.hr
theorem JS.frm (Z:ZOK P N l os) {μ0:Mu} {w0:World} {S:Nat->Bool} (J:JS tb ex exY P l os σ0 h0 σf hf μ0 w0 S σ w s t σA h σ' μ μS) (ha:a ∈ os) (hl:a.ix < l.length) (hp:∀ j ∈ prI l a.ix,S j=true)
  (hdc:∀ k,k < l.length->S k=true->∀ j ∈ prI l k,S j=true) (A:AOK P N l a o) {s1 t1:List AO} {σ1:Tr AV} (e1:os=s1 ++ a :: t1) (hr1:wAX tb ex exY s1 σ0 h0=some (σ1,h1)) :
  wanted l σ o=wCf σ1 a.grd/\∀ p ∈ wCL a,evA σf (.t p)=evA σ1 (.t p):=by
 have hf:=J.full
 have hrd:∀ p ∈ wCL a,evA σf (.t p)=evA σ1 (.t p):=fun p hp=>by
  rw [e1,wDc s1 _ _ _ _ _ hr1] at hf
  exact wSE Z e1 hf hp
 refine ⟨?_,hrd⟩
 have hE:EnvR μS (rst σf (wCL a)) (rsl σ (wCL a)):=wGz fun p hpr=>(J.opnd Z ha hl hp hdc hpr).1
 have hw:=wIS A hE
 have hag:Agr l o (rsl σ (wCL a)) σ:=fun d hd=>by
  obtain ⟨p,h1,h2⟩:=wEW A (Z.sub a ha _ A.get) d hd
  unfold rsl
  rw [if_pos ⟨p,h1,h2⟩]
 rw [<- wCK hag,hw]
 cases hg:a.grd with
 | none=>rfl
 | some q =>
  obtain ⟨p,b⟩:=q
  show isB b (evA _ (.t p))=isB b (evA _ (.t p))
  have hpr:p ∈ wCL a:=na _ (by rw [hg];simp)
  rw [wGy,if_pos hpr,hrd p hpr]
theorem wSG (HE:FrX ex) (HY:FrX exY) (Z:ZOK P N l os) {a b:AO} {s1 t1 s2 t2:List AO} {σ1 σ2:Tr AV} {h1 h2:AH} (e1:os=s1 ++ a :: t1) (e2:os=s2 ++ b :: t2) (r1:wAX tb ex exY s1 σ0 h0=some (σ1,h1)) (r2:wAX tb ex exY s2 σ0 h0=some (σ2,h2))
  (w1:wCf σ1 a.grd=true) (ka:a.kd=4) (la:wMF a.op=true) (hin:a ∈ s2):h1.nx.nat < h2.nx.nat:=by
 obtain ⟨o,A⟩:=wCs (Z.ao a (by rw [e1];simp))
 obtain ⟨r,r',rfl⟩:=nR hin
 have es:s1=r:=(wCn (e1 ▸ Z.one) (e1.symm.trans (e2.trans (by rw [nQ,nJ])))).1
 subst es
 rw [wDc s1 _ _ _ _ _ r1,wAw,w1] at r2
 simp only at r2
 cases hq:opK a.kd a.op tb ex exY σ1 h1 with
 | none=>rw [hq] at r2;cases r2
 | some q =>
  rw [hq] at r2
  obtain ⟨v,h3⟩:=q
  rw [ka] at hq
  obtain ⟨B,vf,q1,_⟩:=wKy (C:=CC P) la A.op _ _ _ _ hq
  subst q1
  have:=(wHu HE HY _ _ _ _ _ r2).nx
  have h3:(h1.push B).nx.nat=h1.nx.nat + 1:=Pos.nat_succ _
  simp only at this
  omega
theorem nm_ne (HE:FrX ex) (HY:FrX exY) (Z:ZOK P N l os) {a b:AO} {s1 t1 s2 t2:List AO} {σ1 σ2:Tr AV} {h1 h2:AH} (e1:os=s1 ++ a :: t1) (e2:os=s2 ++ b :: t2) (r1:wAX tb ex exY s1 σ0 h0=some (σ1,h1)) (r2:wAX tb ex exY s2 σ0 h0=some (σ2,h2))
  (w1:wCf σ1 a.grd=true) (w2:wCf σ2 b.grd=true) (ka:a.kd=4) (la:wMF a.op=true) (kb:b.kd=4) (lb:wMF b.op=true) (hne:a ≠ b):h1.nx ≠ h2.nx:=by
 have ha:a ∈ s2 ++ b :: t2:=by rw [<- e2,e1];simp
 rcases nH.1 ha with h | h
 ·intro e
  have:=wSG HE HY Z e1 e2 r1 r2 w1 ka la h
  rw [e] at this
  exact absurd this (kK _)
 ·rcases nD.1 h with h | h
  ·exact absurd h hne
  ·obtain ⟨r,r',rfl⟩:=nR h
   have es:s1=s2 ++ b :: r:=(wCn (e1 ▸ Z.one) (e1.symm.trans (e2.trans (by rw [nQ,nJ])))).1
   intro e
   have:=wSG HE HY Z e2 e1 r2 r1 w2 kb lb (by rw [es];simp)
   rw [e] at this
   exact absurd this (kK _)
end
end Go.KX
namespace Go.KX
open Go.RowKit Go.KL
section
variable {tb:Tr AF} {ex exY:Run} {P:Program} {N:Nat} {l:List Oper} {os s t:List AO} {a:AO} {σ0 σA σf:Tr AV} {h0 h h1 h' hf:AH} {μ μS:Mu} {σ σ':Env} {w:World} {o:Oper} {v:AV}
theorem wNo (Z:ZOK P N l os) {a b:AO} (ha:a ∈ os) (hb:b ∈ os) (e:b.ix=a.ix):b=a:=by
 obtain ⟨s,t,hs⟩:=nR ha
 have one:=Z.one
 rw [hs] at hb one
 rcases nH.1 hb with h | h
 ·exact absurd e ((nz.1 one).2.2 b h a (by simp))
 ·rcases nD.1 h with h | h
  ·exact h
  ·exact absurd e.symm ((nZ.1 (nz.1 one).2.1).1 b h)
theorem wGK (A:AOK P N l a o) {q:Pos} (hn:a.dst ≠ some q) (cv:Value):put' σ o cv (q.nat - 1)=σ (q.nat - 1):=by
 refine wGQ fun d hd e=>?_
 rcases A.dst with ⟨_,h2⟩ | ⟨p,d',h1,h2,h3,_⟩
 ·rw [h2] at hd;cases hd
 ·rw [h2] at hd
  have hd:=nI hd
  have:p=q:=Pos.nat_inj (by have:=q.nat_pos;have:=p.nat_pos;have:p.nat - 1=q.nat - 1:=h3.symm.trans (hd.trans e);omega)
  subst this
  exact hn h1
theorem JS.add (Z:ZOK P N l os) {μ0:Mu} {w0:World} {S:Nat->Bool} (J:JS tb ex exY P l os σ0 h0 σf hf μ0 w0 S σ w s t σA h σ' μ μS) (ha:a ∈ t) (hS:S a.ix=false) (hfree:wCH a.kd=false)
  (hdc:∀ k,k < l.length->S k=true->∀ j ∈ prI l k,S j=true) (A:AOK P N l a o) {cv:Value} {w':World} {μT:Mu} (K:Keep w w' Non) (hle:μS.Le μT)
  (hnew:∀ q c,μT q=some c->μS q=some c \/ (c.1=w.heap.size/\wanted l σ o=true/\a.kd=4/\∃ s1 t1 σ1 h1,os=s1 ++ a :: t1/\wAX tb ex exY s1 σ0 h0=some (σ1,h1)/\q=h1.nx))
  (hpa:∃ p,Pend tb ex exY P l os σ0 h0 σf w0 μ μT (put' σ o cv) w' a o p) :
  JS tb ex exY P l os σ0 h0 σf hf μ0 w0 (fun k=>k == a.ix || S k) (put' σ o cv) w' s t σA h σ' μ μT:=by
 have hao:a ∈ os:=by rw [J.e];simp [ha]
 have hbo:∀ b ∈ t,b ∈ os:=fun b hb=>by rw [J.e];simp [hb]
 obtain ⟨sa,ta,ea⟩:=nR hao
 have hself:Agr l o σ (put' σ o cv):=by
  intro d hd
  obtain ⟨p,hp,rfl⟩:=wEW A (Z.sub a hao _ A.get) d hd
  exact (wGK A (Z.rd sa a ta ea p hp a (by simp)) cv).symm
 refine ⟨J.e,J.hs,J.hr,fun b hb=>by simp [J.inS b hb],fun b hb hh=>?_,⟨J.E.mono,J.E.new,J.E.keep.step K fun _ _ hn=>hn.elim⟩,J.sim.keep K,J.fl,J.env,fun q hq=>?_,J.le.trans hle,fun q c hq=>?_,fun b hb hh=>?_⟩
 ·by_cases e:b.ix=a.ix
  ·rw [wNo Z hao (hbo b hb) e];exact hfree
  ·exact J.free b hb (by simpa [e] using hh)
 ·rw [wGK A (hq a ha (by simp))]
  exact J.ag q fun b hb hs=>hq b hb (by simp [hs])
 ·rcases hnew q c hq with h1 | ⟨_,h2,h3,s1,t1,σ1,h1,e1,e2,e3⟩
  ·rcases J.nm q c h1 with g | ⟨b,ob,s1,t1,σ1,h1,k1,k2,k3,k4,k5,k6,k7,k8⟩
   ·exact .inl g
   ·exact .inr ⟨b,ob,s1,t1,σ1,h1,k1,by simp [k2],k3,(wCK (wGJ Z hdc hao hS (hbo b k1) k2 A k3 cv)).symm.trans k4,k5,k6,k7,k8⟩
  ·exact .inr ⟨a,o,s1,t1,σ1,h1,ha,by simp,A.get,(wCK hself).symm.trans h2,h3,e1,e2,e3⟩
 ·by_cases e:b.ix=a.ix
  ·have:=wNo Z hao (hbo b hb) e
   subst this
   exact ⟨o,hpa⟩
  ·have hbS:S b.ix=true:=by simpa [e] using hh
   obtain ⟨ob,p,Pd⟩:=J.pd b hb hbS
   have hA:=wGJ (σ:=σ) Z hdc hao hS (hbo b hb) hbS A Pd.get cv
   have hp:put' σ o cv (p.nat - 1)=σ (p.nat - 1):=by
    refine wGK A (fun hd=>?_) cv
    have hb':=hbo b hb
    rw [ea] at hb'
    have hb'':b ∈ sa ++ ta:=by
     rcases nH.1 hb' with h | h
     ·exact ng _ h
     ·rcases nD.1 h with h | h
      ·exact absurd (by rw [h]) e
      ·exact na _ h
    exact Z.wr sa a ta ea p hd b hb'' Pd.dst
   have hsb:=Z.sel b (hbo b hb) _ Pd.get
   refine ⟨ob,p,Pd.get,Pd.dst,?_⟩
   rw [hp,<- wCK hA]
   rcases Pd.fact with f | ⟨f,⟨f1,f2⟩ | ⟨f1,f2,w1,w2,f3⟩ | ⟨f1,f2,w1,o1,s1,t1,σ1,h1,f3,f4,f5,f6,f7,f8,f9⟩⟩
   ·exact .inl f
   ·exact .inr ⟨f,.inl ⟨f1,f2⟩⟩
   ·exact .inr ⟨f,.inr (.inl ⟨f1,f2.mono hle,w1,w2,(Runs.agr hsb hA).1 f3⟩)⟩
   ·refine .inr ⟨f,.inr (.inr ⟨f1,f2.mono hle,w1,o1,s1,t1,σ1,h1,(Runs.agr hsb hA).1 f3,(K.block _ (wAV f4) id).trans f4,f5,f6,f7,hle _ _ f8,fun q c hq hc=>?_⟩)⟩
    rcases hnew q c hq with h1 | ⟨h1,_⟩
    ·exact f9 q c h1 hc
    ·have:=wAV f4
     omega
theorem wHv:∀ (r:List AO),(∀ b ∈ r,b.kd ≠ 0) \/ ∃ x b y,r=x ++ b :: y/\b.kd=0/\∀ c ∈ x,c.kd ≠ 0
 | []=>.inl fun b hb=>by simp at hb
 | a :: r=>by
  by_cases h0:a.kd=0
  ·exact .inr ⟨[],a,r,rfl,h0,fun c hc=>by simp at hc⟩
  ·rcases wHv r with h | ⟨x,b,y,h1,h2,h3⟩
   ·refine .inl fun b hb=>?_
    rcases nD.1 hb with rfl | hb
    ·exact h0
    ·exact h b hb
   ·refine .inr ⟨a :: x,b,y,by rw [h1];rfl,h2,fun c hc=>?_⟩
    rcases nD.1 hc with rfl | hc
    ·exact h0
    ·exact h3 c hc
theorem JS.freeOp {σg:Tr AV} (HE:FrX ex) (HY:FrX exY) (Z:ZOK P N l os) (HL:LCK tb ex exY os σ0 h0 σg) (Hg:∀ a ∈ os,8 <= a.kd->∀ p,p ∈ wCL a \/ a.dst=some p->evA σf (.t p)=evA σg (.t p)) {μ0:Mu} {w0:World} {S:Nat->Bool} (J:JS tb ex exY P l os σ0 h0 σf hf μ0 w0 S σ w s t σA h σ' μ μS) (ha:a ∈ t) (hS:S a.ix=false) (hfree:wCH a.kd=false)
  (hp:∀ j ∈ prI l a.ix,S j=true) (hdc:∀ k,k < l.length->S k=true->∀ j ∈ prI l k,S j=true) (A:AOK P N l a o) :
  Step1 P l o σ w fun cv w'=>∃ μT,JS tb ex exY P l os σ0 h0 σf hf μ0 w0 (fun k=>k == a.ix || S k) (put' σ o cv) w' s t σA h σ' μ μT:=by
 have hao:a ∈ os:=by rw [J.e];simp [ha]
 have hl:a.ix < l.length:=(nc.1 A.get).1
 obtain ⟨r,r',et⟩:=nR ha
 have e1:os=(s ++ r) ++ a :: r':=by rw [J.e,et,nQ]
 have hsel:=Z.sel a hao _ A.get
 have hsub:=Z.sub a hao _ A.get
 have hfull:=J.full
 rw [e1] at hfull
 obtain ⟨σ1,h1,r1,r2⟩:=wKz hfull
 obtain ⟨hw,hrd⟩:=J.frm Z hao hl hp hdc A e1 r1
 have hrr:wAX tb ex exY r σA h=some (σ1,h1):=by rw [<- wDc s r _ _ _ _ J.hs];exact r1
 have hself:∀ cv,Agr l o σ (put' σ o cv):=by
  intro cv d hd
  obtain ⟨p,hp,rfl⟩:=wEW A hsub d hd
  exact (wGK A (Z.rd _ a _ e1 p hp a (by simp)) cv).symm
 obtain ⟨hdn,hkd⟩:a.dst ≠ none/\(a.kd=1 \/ a.kd=3 \/ (a.kd=6/\kdA a.op=3) \/ (a.kd=4/\wMF a.op=true) \/ (8 <= a.kd/\kdA a.op=1)):=by
  rcases Z.kd a hao with h | h
  ·rw [hfree] at h;cases h
  ·exact h
 obtain ⟨p,d,d1,d2,d3,_⟩:∃ p d,a.dst=some p/\o.dst=some d/\d=p.nat - 1/\d < N:=by
  rcases A.dst with ⟨h1,_⟩ | h
  ·exact absurd h1 hdn
  ·exact h
 have eput:∀ cv,put' σ o cv (p.nat - 1)=cv:=fun cv=>by unfold put';rw [d2,d3];exact wCo _ _ _
 have hslot:∀ q ∈ wCZ (wBh a.op),q ∈ wCL a:=fun q hq=>ng _ hq
 rcases r2 with ⟨g1,v,h2,g2,g3⟩ | ⟨g1,g3⟩
 ·have hv:evA σf (.t p)=v:=wKI Z e1 g3 d1
  have hw':wanted l σ o=true:=hw.trans g1
  have hwn:∀ cv,wanted l (put' σ o cv) o=true:=fun cv=>(wCK (hself cv)).symm.trans hw'
  have hvS:∀ q ∈ wCZ (wBh a.op),Rv μS (evA σ1 (.t q)) (σ (q.nat - 1)):=fun q hq=>by
   rw [<- hrd q (hslot q hq)]
   exact (J.opnd Z hao hl hp hdc (hslot q hq)).1
  have clean:(a.kd=1 \/ a.kd=3 \/ 8 <= a.kd)->(∃ cv,Rv μ v cv/\Runs P σ w o cv w)->Step1 P l o σ w fun cv w'=>∃ μT,JS tb ex exY P l os σ0 h0 σf hf μ0 w0 (fun k=>k == a.ix || S k) (put' σ o cv) w' s t σA h σ' μ μT:=by
   rintro hk ⟨cv,c1,c2⟩
   refine .inl ⟨hw',.inr (.inl ⟨cv,w,c2,μS,J.add Z ha hS hfree hdc A (Keep.refl w _) (Mu.Le.refl _) (fun q c hq=>.inl hq) ⟨p,A.get,d1,.inr ⟨hwn cv,.inl ⟨hk,?_⟩⟩⟩⟩)⟩
   rw [hv,eput]
   exact c1
  have hvC:(a.kd=1 \/ a.kd=3 \/ 8 <= a.kd)->∀ q ∈ wCZ (wBh a.op),Rv μ (evA σ1 (.t q)) (σ (q.nat - 1)):=fun hk q hq=>by
   rw [<- hrd q (hslot q hq)]
   exact (J.opnd Z hao hl hp hdc (hslot q hq)).2 hk
  have loadC:(a.kd=1 \/ a.kd=3 \/ 8 <= a.kd)->kdA a.op=1->∀ (x:List AO),(∀ b ∈ x,b ∈ t)->∀ {σ2:Tr AV} {h3 h4:AH} {σ3:Tr AV},wAX tb ex exY x σA h=some (σ2,h3)->opY a.op tb ex exY σ3 h3=some (v,h4)->(∀ b ∈ x,b.kd=0->False)->(∀ q ∈ wCL a,evA σf (.t q)=evA σ3 (.t q))->∃ cv,Rv μ v cv/\Runs P σ w o cv w:=by
   intro hk k x hx σ2 h3 h4 σ3 hrx gY hx0 hrd3
   have hv3:∀ q ∈ wCZ (wBh a.op),Rv μ (evA σ3 (.t q)) (σ (q.nat - 1)):=fun q hq=>by
    rw [<- hrd3 q (hslot q hq)]
    exact (J.opnd Z hao hl hp hdc (hslot q hq)).2 hk
   have hrs:=wKx gY
   have henv:=wGz hv3
   obtain ⟨_,hold⟩:=wIX HE HY x _ _ _ _ hrx (fun b hb=>Z.ao b (by rw [J.e];simp [hx b hb])) (fun b hb=>by
    rcases Z.kd b (by rw [J.e];simp [hx b hb]) with h | h
    ·unfold wCH at h
     simp only [nf] at h
     rcases h with h | h
     ·exact absurd (nB h) (hx0 b hb)
     ·exact .inl (nB h)
    ·exact .inr h.2)
   have hm:∀ b c,μ b=some c->h.m.get b=h3.m.get b:=fun b c hb=>by
    refine (hold b ?_).symm
    rcases Nat.lt_or_ge b.nat h.nx.nat with hlt | hge
    ·exact hlt
    ·rw [J.sim.nx b hge] at hb;cases hb
   have hld:=wOp k A.op henv hm hrs
   obtain ⟨cv,c1,c2⟩:=wNl (C:=CC P) hsel hsub (.inl k) A.op hld J.sim (fun q hq=>by rw [wGy,if_pos hq];exact hv3 q hq)
   exact ⟨cv,c1,c2⟩
  rcases hkd with hk | hk | ⟨hk,hk2⟩ | ⟨hk,hk2⟩ | ⟨hk,hk2⟩
  ·have gY:opY a.op tb ex exY σ1 h1=some (v,h2):=by rw [hk] at g2;exact g2
   refine clean (.inl hk) ?_
   rcases A.k1 hk with k | k
   ·exact loadC (.inl hk) k r (fun b hb=>by rw [et];simp [hb]) hrr gY (fun b hb h0=>by
     have:=wDs hdc hp (Z.ld _ a _ e1 hk b (by simp [hb]) h0)
     have:=J.free b (by rw [et];simp [hb]) this
     rw [h0] at this
     cases this) hrd
   ·obtain ⟨cv,c1,c2⟩:=wHA hsel hsub k A.op gY (hvC (.inl hk))
    exact ⟨cv,c1,c2 w⟩
  ·have gY:opY a.op tb ex exY σ1 h1=some (v,h2):=by rw [hk] at g2;exact g2
   obtain ⟨cv,c1,c2⟩:=wHA hsel hsub (A.k3 hk) A.op gY (hvC (.inr (.inl hk)))
   exact clean (.inr (.inl hk)) ⟨cv,c1,c2 w⟩
  ·have gY:opY a.op tb ex exY σ1 h1=some (v,h2):=by rw [hk] at g2;exact g2
   obtain ⟨cv,c1,c2⟩:=wHA hsel hsub hk2 A.op gY hvS
   refine .inl ⟨hw',.inr (.inl ⟨cv,w,c2 w,μS,J.add Z ha hS hfree hdc A (Keep.refl w _) (Mu.Le.refl _) (fun q c hq=>.inl hq) ⟨p,A.get,d1,.inr ⟨hwn cv,.inr (.inl ⟨hk,?_,w,w,?_⟩)⟩⟩⟩)⟩
   ·rw [hv,eput]
    exact c1
   ·rw [eput]
    exact (Runs.agr hsel (hself cv)).1 (c2 w)
  ·have gY:opY a.op tb ex exY σ1 h1=some (v,h2):=by rw [hk] at g2;exact g2
   obtain ⟨B,vf,ob,val,_,ev',_,c1,c2,c3⟩:=wLh (C:=CC P) hsel hsub hk2 A.op gY hvS
   have hno:μS h1.nx=none:=by
    cases hq:μS h1.nx with
    | none=>rfl
    | some c =>
     rcases J.nm _ c hq with g | ⟨b,ob',s2,t2,σ2,h3,k1,k2,k3,k4,k5,k6,k7,k8⟩
     ·have:=wQh HE HY Z J.e J.hs ha e1 r1
      rw [J.sim.nx _ this] at g
      cases g
     ·have hbo:b ∈ os:=by rw [J.e];simp [k1]
      have hne:a ≠ b:=fun e=>by subst e;rw [hS] at k2;cases k2
      obtain ⟨ob2,B2⟩:=wCs (Z.ao b hbo)
      have hb2:wMF b.op=true:=by
       rcases Z.kd b hbo with hh | ⟨_,hh | hh | hh | hh | hh⟩
       ·rw [k5] at hh;exact absurd hh (by decide)
       ·omega
       ·omega
       ·omega
       ·exact hh.2
       ·omega
      have hwb:wCf σ2 b.grd=true:=by
       have hlb:b.ix < l.length:=(nc.1 k3).1
       have eo:ob2=ob':=by have:=B2.get;rw [k3] at this;exact (nI this).symm
       subst eo
       have:=(J.frm Z hbo hlb (hdc _ hlb k2) hdc B2 k6 k7).1
       rw [<- this]
       exact k4
      exact absurd k8 (nm_ne HE HY Z e1 k6 r1 k7 g1 hwb hk hk2 k5 hb2 hne)
   have hadd:=Mu.add_le (c:=(⟨w.heap.size,0,g0⟩:Cl)) hno
   have hsz:∀ q c,μS q=some c->c.1 < w.heap.size:=fun q c hq=>by
    rcases J.nm q c hq with g | ⟨b,ob',s2,t2,σ2,h3,k1,k2,k3,k4,k5,k6,k7,k8⟩
    ·exact J.sim.lt q c g
    ·obtain ⟨ob2,p2,Pd⟩:=J.pd b k1 k2
     have eo:ob2=ob':=by have:=Pd.get;rw [k3] at this;exact (nI this).symm
     subst eo
     rcases Pd.fact with ⟨f,_⟩ | ⟨_,⟨f,_⟩ | ⟨f,_⟩ | ⟨_,_,w1,o1,s3,t3,σ3,h4,_,f4,_,f6,f7,f8,_⟩⟩
     ·rw [k4] at f;cases f
     ·omega
     ·omega
     ·have es:s3=s2:=(wCn (f6 ▸ Z.one) (f6.symm.trans k6)).1
      subst es
      rw [k7] at f7
      cases f7
      subst k8
      rw [hq] at f8
      cases f8
      exact wAV f4
   refine .inl ⟨hw',.inr (.inl ⟨val w.heap.size,w.alloc ob,c1 w,μS.add h1.nx ⟨w.heap.size,0,g0⟩,J.add Z ha hS hfree hdc A (wAy w ob) hadd (fun q c hq=>?_) ⟨p,A.get,d1,.inr ⟨hwn _,.inr (.inr ⟨hk,?_,w,ob,s ++ r,r',σ1,h1,?_,heap_alloc_new w ob,J.E.keep.size,e1,r1,Mu.add_same _ _ _,fun q c hq hc=>?_⟩)⟩⟩⟩)⟩
   ·unfold Mu.add at hq
    split at hq
    ·rename_i eq
     cases hq
     exact .inr ⟨rfl,hw',hk,s ++ r,r',σ1,h1,e1,r1,eq⟩
    ·exact .inl hq
   ·rw [hv,eput,ev']
    exact c3 _ _ _ (Mu.add_same _ _ _)
   ·rw [eput]
    exact (Runs.agr hsel (hself _)).1 (c1 w)
   ·unfold Mu.add at hq
    split at hq
    ·rename_i eq
     exact eq
    ·have:=hsz q c hq
     omega
  ·have gY:opY a.op tb ex exY σ1 h1=some (v,h2):=wNm (by omega) g2
   refine clean (.inr (.inr hk)) ?_
   rcases wHv r with hz | ⟨x,b,y,er,hb0,hx0⟩
   ·exact loadC (.inr (.inr hk)) hk2 r (fun b hb=>by rw [et];simp [hb]) hrr gY (fun b hb h0=>hz b hb h0) hrd
   ·have e2:os=(s ++ x) ++ b :: (y ++ a :: r'):=by rw [J.e,et,er];simp
    have hfull2:=J.full
    rw [e2] at hfull2
    obtain ⟨σ2,h3,r3,_⟩:=wKz hfull2
    have hbt:b ∈ t:=by rw [et,er];simp
    have hanc:wOX y + 8 < a.kd:=by
     rcases Z.ld8 _ a _ e1 hk (s ++ x) b y (by rw [er];simp) hb0 with g | g
     ·have:=J.free b hbt (wDs hdc hp g)
      rw [hb0] at this
      cases this
     ·exact g
    have hlk:=HL _ b _ e2 hb0 _ _ r3
    have hsame:=wKD y a r' 0 hlk hfree (by omega)
    have hgf:wCf σg a.grd=true:=by
     rw [<- g1]
     cases hg:a.grd with
     | none=>rfl
     | some q =>
      obtain ⟨q,c⟩:=q
      show isB c (evA _ (.t q))=isB c (evA _ (.t q))
      have hqr:q ∈ wCL a:=na _ (by rw [hg];simp)
      rw [<- Hg a hao hk q (.inl hqr),hrd q hqr]
    unfold wHm at hsame
    rw [d1] at hsame
    simp only [hgf] at hsame
    split at hsame
    ·rename_i v' h5 hq
     have hvv:=wKH hsame
     rw [<- Hg a hao hk p (.inr d1),hv] at hvv
     subst hvv
     have hrx:wAX tb ex exY x σA h=some (σ2,h3):=by rw [<- wDc s x _ _ _ _ J.hs];exact r3
     exact loadC (.inr (.inr hk)) hk2 x (fun b hb=>by rw [et,er];simp [hb]) hrx hq (fun b hb h0=>hx0 b hb h0) (fun q hq=>Hg a hao hk q (.inl hq))
    ·cases hsame
 ·refine .inr ⟨hw.trans g1,μS,J.add Z ha hS hfree hdc A (Keep.refl w _) (Mu.Le.refl _) (fun q c hq=>.inl hq) ⟨p,A.get,d1,.inl ⟨(wCK (hself _)).symm.trans (hw.trans g1),eput _,?_⟩⟩⟩
  exact wKI Z e1 (v:=u) g3 d1
theorem JS.catch (Z:ZOK P N l os) {μ0:Mu} {w0:World} {S:Nat->Bool}:∀ (r:List AO) {s t:List AO} {σA:Tr AV} {h:AH} {σ':Env} {μ:Mu},JS tb ex exY P l os σ0 h0 σf hf μ0 w0 S σ w s (r ++ t) σA h σ' μ μS->(∀ a ∈ r,S a.ix=true) ->
  ∃ σB hB σ'' μB,JS tb ex exY P l os σ0 h0 σf hf μ0 w0 S σ w (s ++ r) t σB hB σ'' μB μS
 | [],s,t,σA,h,σ',μ,J,_=>⟨σA,h,σ',μ,by rw [nY];exact J⟩
 | a :: r,s,t,σA,h,σ',μ,J,hS=>by
  obtain ⟨σB,hB,σ'',μB,J1⟩:=JS.catch1 (t:=r ++ t) Z J (hS a (by simp))
  obtain ⟨σC,hC,σ3,μC,J2⟩:=JS.catch Z r J1 fun b hb=>hS b (by simp [hb])
  exact ⟨σC,hC,σ3,μC,by rw [show s ++ a :: r=s ++ [a] ++ r by simp];exact J2⟩
theorem JS.anew {A B:List AO} {σm:Tr AV} {h2:AH} {μ0:Mu} {w0:World} {S:Nat->Bool} (J:JS tb ex exY P l A σ0 h0 σm h2 μ0 w0 S σ w s [] σA h σ' μ μS) (hr:wAX tb ex exY B σm h2=some (σf,hf)) (hB:∀ b ∈ B,S b.ix=false) :
  Ext μ0 h0.fl.nat w0 μ w/\h2.fl=h0.fl/\JS tb ex exY P l B σm h2 σf hf μ w S σ w [] B σm h2 σ' μ μ:=by
 have hr1:=J.hr
 rw [wAt] at hr1
 cases hr1
 exact ⟨J.E,J.fl,rfl,wAt _ _ _ _ _,hr,fun b hb=>(by simp at hb),fun b hb hS=>(by rw [hB b hb] at hS;cases hS),Ext.refl μ _ w,J.sim,rfl,J.env,fun q _=>J.ag q fun b hb=>(by simp at hb),Mu.Le.refl _,fun q c hq=>.inl hq,fun b hb hS=>(by rw [hB b hb] at hS;cases hS)⟩
theorem CK.lazy {rr:Option Nat} {Q:wCp} {D:List Deferred} {id:Nat} (hm:P.follows .mixedOrders=true) (HC:wFq (CC P) P tb ex) (HY':wEo (CC P) P exY) (HE:FrX ex) (HY:FrX exY) (ZZ:∃ A B,ZAll P N l os A B) (HL0:LCK tb ex exY os σ0 h0 σf)
  (hr:wAX tb ex exY os σ0 h0=some (σf,hf)) (S:Sim (CC P) P μ h0 w) (hE:EnvR μ σ0 σ)
  (hQ:∀ μ' w' σ',Ext μ h0.fl.nat w μ' w'->Sim (CC P) P μ' hf w'->EnvR μ' σf σ'->hf.fl=h0.fl->Q D .normal σ' w'):CK rr N P (.region id l.toArray true) Q D σ w:=by
 obtain ⟨A,B,ZZ⟩:=ZZ
 obtain ⟨σm,h2,hrA,hrB⟩:=wDW A B σ0 h0 _ (ZZ.eq ▸ hr)
 have HL:LCK tb ex exY A σ0 h0 σf/\LCK tb ex exY B σm h2 σf:=by
  refine ⟨fun s b t e k0 σ1 h1 hs=>?_,wKu ZZ.low⟩
  have:=HL0 s b (t ++ B) (by rw [ZZ.eq,e];simp) k0 σ1 h1 hs
  exact wIT t B 0 this
 have Hg:∀ a ∈ A,8 <= a.kd->∀ p,p ∈ wCL a \/ a.dst=some p->evA σm (.t p)=evA σf (.t p):=fun a ha h8 p hp=>(wCm B _ _ _ _ hrB p fun b hb=>ZZ.far a ha h8 p hp b hb).symm
 have lt:∀ b ∈ os,b.ix < l.length:=fun b hb=>by
  rw [ZZ.eq] at hb
  rcases nH.1 hb with hb | hb
  ·obtain ⟨o,A⟩:=wCs (ZZ.za.ao b hb)
   exact (nc.1 A.get).1
  ·obtain ⟨o,A⟩:=wCs (ZZ.zb.ao b hb)
   exact (nc.1 A.get).1
 have stepB:∀ (S1:Nat->Bool) (a:AO) (σ1:Env) (w1:World) (μm:Mu) (wm:World) (s t:List AO) (σA:Tr AV) (h:AH) (σ':Env) (μ1 μS:Mu) (o:Oper),a ∈ B->S1 a.ix=false->(∀ j ∈ prI l a.ix,S1 j=true)->(∀ k,k < l.length->S1 k=true->∀ j ∈ prI l k,S1 j=true)->AOK P N l a o ->
   JS tb ex exY P l B σm h2 σf hf μm wm S1 σ1 w1 s t σA h σ' μ1 μS->Step1 P l o σ1 w1 fun v w'=>∃ s t σA h σ' μ1 μS,JS tb ex exY P l B σm h2 σf hf μm wm (fun k=>k == a.ix || S1 k) (put' σ1 o v) w' s t σA h σ' μ1 μS:=by
  intro S1 a σ1 w1 μm wm s t σA h σ' μ1 μS o ha hSi hpi hdc A J
  have hat:a ∈ t:=by
   have:=ha
   rw [J.e] at this
   rcases nH.1 this with h | h
   ·rw [J.inS a h] at hSi;cases hSi
   ·exact h
  cases hf:wCH a.kd with
  | true =>
   obtain ⟨r,r',et⟩:=nR hat
   rw [et] at J
   obtain ⟨σB,hB,σ'',μB,J1⟩:=JS.catch ZZ.zb r J fun b hb=>wDs hdc hpi (ZZ.zb.anc (s ++ r) a r' (by rw [J.e,nQ]) hf b (by simp [hb]))
   refine (J1.fixed HC HY' HE HY ZZ.zb hf hSi hdc A).mono ?_
   rintro v w' ⟨σC,hC,σ3,μC,μT,J2⟩
   exact ⟨_,_,_,_,_,_,_,J2⟩
  | false =>
   refine (J.freeOp HE HY ZZ.zb HL.2 (fun _ _ _ _ _=>rfl) hat hSi hf hpi hdc A).mono ?_
   rintro v w' ⟨μT,J2⟩
   exact ⟨_,_,_,_,_,_,_,J2⟩
 have toB:∀ (S1:Nat->Bool) (σ1:Env) (w1:World) (s t:List AO) (σA:Tr AV) (h:AH) (σ':Env) (μ1 μS:Mu),(∀ a ∈ A,S1 a.ix=true)->(∀ b ∈ B,S1 b.ix=false)->JS tb ex exY P l A σ0 h0 σm h2 μ w S1 σ1 w1 s t σA h σ' μ1 μS ->
   ∃ μm σ',Ext μ h0.fl.nat w μm w1/\h2.fl=h0.fl/\JS tb ex exY P l B σm h2 σf hf μm w1 S1 σ1 w1 [] B σm h2 σ' μm μm:=by
  intro S1 σ1 w1 s t σA h σ' μ1 μS hA hB J
  have J0:JS tb ex exY P l A σ0 h0 σm h2 μ w S1 σ1 w1 s (t ++ []) σA h σ' μ1 μS:=by rw [nY];exact J
  obtain ⟨σB,hB',σ'',μB,J1⟩:=JS.catch ZZ.za t J0 fun b hb=>hA b (by rw [J.e];simp [hb])
  obtain ⟨g1,g2,g3⟩:=J1.anew hrB hB
  exact ⟨μB,σ'',g1,g2,g3⟩
 refine CK.anyRel hm ZZ.za.pr (fun S σ w1=>((∀ b ∈ B,S b.ix=false)/\∃ s t σA h σ' μ1 μS,JS tb ex exY P l A σ0 h0 σm h2 μ w S σ w1 s t σA h σ' μ1 μS) \/
  ((∀ a ∈ A,S a.ix=true)/\∃ μm wm,Ext μ h0.fl.nat w μm wm/\h2.fl=h0.fl/\∃ s t σA h σ' μ1 μS,JS tb ex exY P l B σm h2 σf hf μm wm S σ w1 s t σA h σ' μ1 μS)) ?_ ?_ ?_
 ·exact .inl ⟨fun b _=>rfl,[],A,σ0,h0,σ,μ,μ,rfl,wAt _ _ _ _ _,hrA,fun b hb=>(by simp at hb),fun b _ hb=>(by cases hb),Ext.drew μ _ w,S.keep (Keep.drew w),rfl,hE,fun _ _=>rfl,Mu.Le.refl _,fun q c hq=>.inl hq,fun b _ hb=>(by cases hb)⟩
 ·rintro S1 i σ1 w1 hi hSi hpi hdc hlt hI
  obtain ⟨a,ha,rfl⟩:=ZZ.all i hi
  rw [ZZ.eq] at ha
  rcases nH.1 ha with ha | ha
  ·obtain ⟨o,AK⟩:=wCs (ZZ.za.ao a ha)
   refine ⟨o,AK.get,wHr AK,?_⟩
   rcases hI with ⟨hB,s,t,σA,h,σ',μ1,μS,J⟩ | ⟨hA,_⟩
   ·have hB':∀ b ∈ B,(fun k=>k == a.ix || S1 k) b.ix=false:=fun b hb=>by
     have:=(ZZ.cross b hb a ha).1
     simp [hB b hb,Ne.symm this]
    have hat:a ∈ t:=by
     have:=ha
     rw [J.e] at this
     rcases nH.1 this with h | h
     ·rw [J.inS a h] at hSi;cases hSi
     ·exact h
    cases hf:wCH a.kd with
    | true =>
     obtain ⟨r,r',et⟩:=nR hat
     rw [et] at J
     obtain ⟨σB,hB2,σ'',μB,J1⟩:=JS.catch ZZ.za r J fun b hb=>wDs hdc hpi (ZZ.za.anc (s ++ r) a r' (by rw [J.e,nQ]) hf b (by simp [hb]))
     refine (J1.fixed HC HY' HE HY ZZ.za hf hSi hdc AK).mono ?_
     rintro v w' ⟨σC,hC,σ3,μC,μT,J2⟩
     exact .inl ⟨hB',_,_,_,_,_,_,_,J2⟩
    | false =>
     refine (J.freeOp HE HY ZZ.za HL.1 Hg hat hSi hf hpi hdc AK).mono ?_
     rintro v w' ⟨μT,J2⟩
     exact .inl ⟨hB',_,_,_,_,_,_,_,J2⟩
   ·rw [hA a ha] at hSi
    cases hSi
  ·obtain ⟨o,AK⟩:=wCs (ZZ.zb.ao a ha)
   refine ⟨o,AK.get,wHr AK,?_⟩
   have hA:∀ c ∈ A,S1 c.ix=true:=fun c hc=>wDs hdc hpi (ZZ.cross a ha c hc).2
   rcases hI with ⟨hB,s,t,σA,h,σ',μ1,μS,J⟩ | ⟨_,μm,wm,g1,g2,s,t,σA,h,σ',μ1,μS,J⟩
   ·obtain ⟨μm,σ2,g1,g2,J1⟩:=toB S1 σ1 w1 s t σA h σ' μ1 μS hA hB J
    refine (stepB S1 a σ1 w1 _ _ _ _ _ _ _ _ _ o ha hSi hpi hdc AK J1).mono ?_
    rintro v w' ⟨s,t,σA,h,σ',μ1,μS,J2⟩
    exact .inr ⟨fun c hc=>by simp [hA c hc],_,_,g1,g2,_,_,_,_,_,_,_,J2⟩
   ·refine (stepB S1 a σ1 w1 _ _ _ _ _ _ _ _ _ o ha hSi hpi hdc AK J).mono ?_
    rintro v w' ⟨s,t,σA,h,σ',μ1,μS,J2⟩
    exact .inr ⟨fun c hc=>by simp [hA c hc],_,_,g1,g2,_,_,_,_,_,_,_,J2⟩
 ·rintro S1 σ1 w1 hall hI
  have hI2:∃ μm wm,Ext μ h0.fl.nat w μm wm/\h2.fl=h0.fl/\∃ s t σA h σ' μ1 μS,JS tb ex exY P l B σm h2 σf hf μm wm S1 σ1 w1 s t σA h σ' μ1 μS:=by
   rcases hI with ⟨hB,s,t,σA,h,σ',μ1,μS,J⟩ | ⟨_,hI⟩
   ·obtain ⟨μm,σ2,g1,g2,J1⟩:=toB S1 σ1 w1 s t σA h σ' μ1 μS (fun a ha=>hall _ (lt a (by rw [ZZ.eq];simp [ha]))) hB J
    exact ⟨_,_,g1,g2,_,_,_,_,_,_,_,J1⟩
   ·exact hI
  obtain ⟨μm,wm,g1,g2,s,t,σA,h,σ',μ1,μS,J⟩:=hI2
  have J0:JS tb ex exY P l B σm h2 σf hf μm wm S1 σ1 w1 s (t ++ []) σA h σ' μ1 μS:=by rw [nY];exact J
  obtain ⟨σB,hB,σ'',μB,J1⟩:=JS.catch ZZ.zb t J0 fun b hb=>hall _ (lt b (by rw [ZZ.eq,J.e];simp [hb]))
  have hr1:=J1.hr
  rw [wAt] at hr1
  cases hr1
  refine hQ μB w1 σ1 (g1.trans (g2 ▸ J1.E)) J1.sim (fun q=>?_) (J1.fl.trans g2)
  rw [J1.ag q fun b hb=>by simp at hb]
  exact J1.env q
end
end Go.KX
namespace Go.KX
open Go.RowKit Go.KL
section
variable {P:Program} {tb:Tr AF}
theorem wNp (hm:P.follows .mixedOrders=true) {ex exY:Run} (HC:wFq (CC P) P tb ex) (HY:wEo (CC P) P exY) (FE:FrX ex) (FY:FrX exY) {os:List AO} {σA σA':Tr AV} {h h':AH} (hr:wAX tb ex exY os σA h=some (σA',h')) {id N:Nat} {ops:Array Oper} {draw:Bool} (hc:chkR P N os ops.toList draw=true)
  {rr:Option Nat} {μ:Mu} {σ:Env} {w:World} {D:List Deferred} {n0:Nat} (S:Sim (CC P) P μ h w) (hE:EnvR μ σA σ) (M:Mk μ w n0 D):CK rr N P (.region id ops draw) (PostX P μ h.fl w n0 rr D .nrm σA' h') D σ w:=by
 unfold chkR at hc
 simp only [nA,nM] at hc
 obtain ⟨c1,c2⟩:=hc
 have hop:ops=ops.toList.toArray:=by simp
 have hcs:∀ a ∈ os,wGu P N ops.toList a=true/\kOf ((nK ops.toList.length).map fun i=>kdAt i os) a.ix=a.kd:=fun a ha=>⟨(c1 a ha).1,nB (c1 a ha).2⟩
 have post:∀ {w0:World},Ext μ h.fl.nat w μ w0->Sim (CC P) P μ h w0->OKS N P ops.toList (PostX P μ h.fl w n0 rr D .nrm σA' h') D ((nK ops.toList.length).map fun i=>kdAt i os) (wJG os) σ w0:=by
  intro w0 E0 S0
  refine wJH HC HY os σA h σA' h' hr hcs μ σ w0 S0 hE fun μ' w' σ' q1 q2 q3 q4=>?_
  have E:=E0.trans q1
  exact ⟨rfl,μ',E,q2,q3,M.ext E,q4,fun _=>rfl⟩
 rw [hop]
 cases draw with
 | true =>
  simp only at c2
  split at c2
  ·simp only [nA,nM,ny] at c2
   exact CK.lazy hm HC HY FE FY (wNd (fun a ha=>(c1 a ha).1) c2.2) (wKu c2.1) hr S hE fun μ' w' σ' q1 q2 q3 q4=>⟨rfl,μ',q1,q2,q3,M.ext q1,q4,fun _=>rfl⟩
  ·exact CK.anyOrd hm _ _ c2 (post (Ext.drew μ _ w) (S.keep (Keep.drew w)))
 | false=>exact CK.reg _ c2 (post (Ext.refl μ _ w) S)
theorem wOq {ex:Run} (HC:wFq (CC P) P tb ex) {g:AOd} {t:List Pos} {asg body:AC} {g':Operand} {ps:Array Tmp} {asg' body':Code} {N:Nat} (hc:wEq P N (.rf g t asg body) (.rangeFunc g' ps asg' body')=true)
  {σA σA':Tr AV} {h h':AH} {e:Ex} (hr:sRf true g t asg body tb ex σA h=some (e,σA',h')) {μ:Mu} {σ:Env} {w:World} {D:List Deferred} {n0:Nat} (S:Sim (CC P) P μ h w) (hE:EnvR μ σA σ) (M:Mk μ w n0 D) (hn:n0 <= w.heap.size) :
  CK none N P (.rangeFunc g' ps asg' body') (PostX P μ h.fl w n0 none D e σA' h') D σ w:=by
 simp only [wEq,nA] at hc
 obtain ⟨c1,c2,c3,c4⟩:=hc
 obtain ⟨p,rfl⟩:∃ p:List Nat,ps=p.toArray:=⟨ps.toList,by simp⟩
 ·obtain ⟨ht,c6⟩:=wKv (by simpa using c2)
  unfold sRf at hr
  split at hr
  ·rename_i f fi ca hg
   have hx:=wAF c1 hE
   rw [hg] at hx
   obtain ⟨fv,cv,g1,g2,g3⟩:=hx
   split at hr <;> first | (cases hr;done) | skip
   rename_i rv h2 hcall
   obtain ⟨hcf,hgv⟩:=HC _ _ _ _ _ hcall
   refine CK.rangeFunc (t:=p) g3 hcf fun fn l rb w1 e1 e2 hl hd K hs=>?_
   subst e1 e2
   have hle:=Mu.add_le (c:=(⟨w.heap.size + 1,0,⟨N,σ,p,asg',body',w.heap.size,fn⟩⟩:Cl)) (S.nx h.nx (nE _))
   obtain ⟨s1,s2,s3,s4⟩:=S.push (w':=w1) (c:=⟨w.heap.size + 1,0,⟨N,σ,p,asg',body',w.heap.size,fn⟩⟩) (B:=.loop σA t asg body .ready) K (Nat.le_succ _) (by show w.heap.size + 1 < _;omega) ⟨hl,hE.mono hle,ht,c6,c3,c4⟩
   generalize hμ1:μ.add h.nx (⟨w.heap.size + 1,0,⟨N,σ,p,asg',body',w.heap.size,fn⟩⟩:Cl)=μ1 at *
   have M1:Mk μ1 w1 n0 (wKj w.heap.size :: D):=by
    have M':=M.ext s2
    obtain ⟨rbs,m1,m2,m3⟩:=M'
    have hold:∀ rb ∈ rbs,rb < w.heap.size:=by
     obtain ⟨rbs0,k1,k2,k3⟩:=M
     intro rb hrb
     have hmm:rbs.map wKj=rbs0.map wKj:=by rw [<- m1,<- k1]
     have hinj:rbs=rbs0:=by
      have:∀ (a b:List Nat),a.map wKj=b.map wKj->a=b:=by
       intro a
       induction a with
       | nil=>intro b hb;cases b with
        | nil=>rfl
        | cons _ _=>simp at hb
       | cons x a ih=>intro b hb;cases b with
        | nil=>simp at hb
        | cons y b =>
         simp only [km,nT] at hb
         have hxy:x=y:=by have:=hb.1;simp [wKj] at this;exact this
         rw [hxy,ih b hb.2]
      exact this _ _ hmm
     exact (k3 rb (hinj ▸ hrb)).1.lt
    refine ⟨w.heap.size :: rbs,by rw [km,<- m1],nr.2 ⟨fun hm=>absurd (hold _ hm) (kK _),m2⟩,fun rb hrb=>?_⟩
    rcases nD.1 hrb with rfl | hrb
    ·refine ⟨hd,hn,fun q c hq=>?_⟩
     rw [<- hμ1] at hq
     unfold Mu.add at hq
     split at hq
     ·cases hq;show w.heap.size + 1 ≠ _;omega
     ·have:=S.lt q c hq;omega
    ·exact m3 rb hrb
   have G:=hgv μ1 w1 (fv ++ (.func (.yield (w.heap.size + 1)) #[] #[] :: cv)) s1 (wDo (g1.mono s2.mono) (wBe ⟨_,s4,rfl⟩ (g2.mono s2.mono)))
   rw [nQ]
   refine G.mono ?_
   rintro v3 w3 ⟨μ3,q1,q2,q3,q4⟩
   rw [s3] at q1 q4
   have E13:=s2.trans q1
   have hc3:=q1.mono _ _ s4
   have fin:∀ {B:AB} {h3:AH} (w4:World),h2.m.get h.nx=some B->wLa B->h2.put h.nx .dead=some h3->Keep w3 w4 (·=w.heap.size + 1)->w4.heap.size=w3.heap.size->∃ μ',Ext μ h.fl.nat w μ' w4/\Sim (CC P) P μ' h3 w4/\EnvR μ' σA σ/\Mk μ' w4 n0 (wKj w.heap.size :: D)/\h3.fl=h.fl:=by
    intro B h3 w4 hB hlv hput K4 _
    obtain ⟨v1,v2,v3⟩:=q2.put hput hB hlv hc3 K4 (B':=.dead) trivial
    rw [q4] at v2 v3
    exact ⟨μ3,E13.trans v2,v1,hE.mono E13.mono,(M1.ext q1).ext v2,v3⟩
   split at hr
   ·rename_i sx tx ax bx hB
    split at hr <;> first | (cases hr;done) | skip
    rename_i h3 hput
    cases hr
    obtain ⟨c',u1,u2⟩:=q2.at_ _ _ hB
    rw [hc3] at u1;cases u1
    have L3:wLZ (CC P) μ3 w3 ⟨w.heap.size + 1,0,⟨N,σ,p,asg',body',w.heap.size,fn⟩⟩ sx tx ax bx .ready:=u2
    refine .inl ⟨L3.at_,fun w4 K4 hs4=>?_⟩
    obtain ⟨μ',a1,a2,a3,a4,a5⟩:=fin w4 hB trivial hput K4 hs4
    exact ⟨rfl,μ',a1,a2,a3,a4,a5,fun hq=>by cases hq⟩
   ·rename_i sx tx ax bx ee hB
    split at hr <;> first | (cases hr;done) | skip
    rename_i h3 hput
    cases hr
    obtain ⟨c',u1,u2⟩:=q2.at_ _ _ hB
    rw [hc3] at u1;cases u1
    have L3:wLZ (CC P) μ3 w3 ⟨w.heap.size + 1,0,⟨N,σ,p,asg',body',w.heap.size,fn⟩⟩ sx tx ax bx (.done e):=u2
    cases e with
    | nrm =>
     refine .inl ⟨L3.at_,fun w4 K4 hs4=>?_⟩
     obtain ⟨μ',a1,a2,a3,a4,a5⟩:=fin w4 hB trivial hput K4 hs4
     exact ⟨rfl,μ',a1,a2,a3,a4,a5,fun hq=>by cases hq⟩
    | ret =>
     refine .inr ⟨.ret,.inl rfl,L3.at_,fun w4 K4 hs4=>?_⟩
     obtain ⟨μ',a1,a2,a3,a4,a5⟩:=fin w4 hB trivial hput K4 hs4
     exact ⟨rfl,μ',a1,a2,a3,a4,a5,fun hq=>by cases hq⟩
    | exit i =>
     refine .inr ⟨.exit i,.inr ⟨i,rfl⟩,L3.at_,fun w4 K4 hs4=>?_⟩
     obtain ⟨μ',a1,a2,a3,a4,a5⟩:=fin w4 hB trivial hput K4 hs4
     exact ⟨rfl,μ',a1,a2,a3,a4,a5,fun hq=>by cases hq⟩
   ·cases hr
  ·cases hr
theorem CK.ofRounds {rr:Option Nat} {N:Nat} {c:Code} {Q:wCp} {D:List Deferred} {σ:Env} {w:World} (m:Nat) (hh:∀ a,Rep N D a σ->Code.roundsIn (WF rr) 0 P c (wIB N Q) m a w):CK rr N P (.loop c) Q D σ w :=
 fun a ha=>wpIn_loop_rounds m (hh a ha)
theorem wSH {exR:Run} {r:Bool} (HE:wHt P exR r) {a b:AC} {σA σA':Tr AV} {h h':AH} {e:Ex} (hr:wRc a b exR σA h=some (e,σA',h')) {c d:Code} {N:Nat} (hc1:wEq P N a c=true) (hc2:wEq P N b d=true)
  {rr:Option Nat} {μ:Mu} {σ:Env} {w:World} {D:List Deferred} {n0:Nat} (hrr:rr.isSome=r) (S:Sim (CC P) P μ h w) (hE:EnvR μ σA σ) (M:Mk μ w n0 D) (hn:n0 <= w.heap.size):CK rr N P (.seq c d) (PostX P μ h.fl w n0 rr D e σA' h') D σ w:=by
 obtain ⟨⟨e1,σ1,h1⟩,ha,hb⟩:=wRL hr
 rw [wKG] at hb
 refine CK.seq ((HE _ _ _ _ _ _ ha c N hc1 rr μ σ w D n0 hrr S hE M hn).mono ?_)
 intro D' e' σ' w' hp
 obtain ⟨rfl,μ1,q1,q2,q3,q4,q5,q6⟩:=hp
 cases e1 with
 | nrm =>
  refine (HE _ _ _ _ _ _ hb d N hc2 rr μ1 σ' w' D' n0 hrr q2 q3 q4 (nv hn q1.keep.size)).mono ?_
  intro D'' e'' σ'' w'' hp
  rw [q5] at hp
  exact PostX.trans q1 q6 hp
 | ret=>cases hb;exact ⟨rfl,μ1,q1,q2,q3,q4,q5,q6⟩
 | exit i=>cases hb;exact ⟨rfl,μ1,q1,q2,q3,q4,q5,q6⟩
theorem wQi {exR:Run} {r:Bool} {m:Nat} (HE:wHt P exR r) (HL:wNe P exR r m) {a:AC} {σA σA':Tr AV} {h h':AH} {e:Ex} (hr:wMv a exR σA h=some (e,σA',h')) {c:Code} {N:Nat} (hc:wEq P N a c=true)
  {rr:Option Nat} {μ:Mu} {σ:Env} {w:World} {D:List Deferred} {n0:Nat} (hrr:rr.isSome=r) (S:Sim (CC P) P μ h w) (hE:EnvR μ σA σ) (M:Mk μ w n0 D) (hn:n0 <= w.heap.size):∀ act,Rep N D act σ->Code.roundsIn (WF rr) 0 P c (wIB N (PostX P μ h.fl w n0 rr D e σA' h')) (m + 1) act w:=by
 obtain ⟨⟨e1,σ1,h1⟩,ha,hb⟩:=wRL hr
 rw [wKG] at hb
 intro act hact
 rw [roundsIn_succ]
 refine wpIn_mono (HE _ _ _ _ _ _ ha c N hc rr μ σ w D n0 hrr S hE M hn act hact) ?_
 rintro e' act' w' ⟨σ',D',hrep,hp⟩
 obtain ⟨rfl,μ1,q1,q2,q3,q4,q5,q6⟩:=hp
 cases e1 with
 | nrm =>
  refine wGx ?_ m act' w' (HL _ _ _ _ _ _ hb c N hc rr μ1 σ' w' D' n0 hrr q2 q3 q4 (nv hn q1.keep.size) act' hrep)
  rintro e'' act'' w'' ⟨σ'',D'',hrep',hp⟩
  rw [q5] at hp
  exact ⟨σ'',D'',hrep',PostX.trans q1 q6 hp⟩
 | ret=>cases hb;exact ⟨σ',D',hrep,rfl,μ1,q1,q2,q3,q4,q5,q6⟩
 | exit i=>cases hb;exact ⟨σ',D',hrep,rfl,μ1,q1,q2,q3,q4,q5,q6⟩
theorem wQj (hm:P.follows .mixedOrders=true) (T:wIU P tb):∀ (n:Nat) (r:Bool),wHt P (exec tb n r) r/\wNe P (exec tb n r) r n:=by
 intro n
 induction n with
 | zero=>intro r;exact ⟨fun c σA h e σA' h' hr=>(by cases hr),fun c σA h e σA' h' hr=>(by cases hr)⟩
 | succ n ih =>
  intro r
  have HC:=wNf T (ih false).1
  have HY:=wOn (P:=P) (ih true).1
  obtain ⟨HE,HL⟩:=ih r
  have loop:wNe P (exec tb (n + 1) r) r (n + 1):=by
   intro c σA h e σA' h' hr code N hc rr μ σ w D n0 hrr S hE M hn
   have hr:wMv c (exec tb n r) σA h=some (e,σA',h'):=hr
   exact wQi HE HL hr hc hrr S hE M hn
  refine ⟨?_,loop⟩
  intro c σA h e σA' h' hr code N hc rr μ σ w D n0 hrr S hE M hn
  rw [wIw] at hr
  cases c with
  | skip =>
   have hr:sNrm σA h=some (e,σA',h'):=hr
   cases hr
   have fin:PostX P μ h.fl w n0 rr D .nrm σA h D .normal σ w:=⟨rfl,μ,Ext.refl μ _ w,S,hE,M,rfl,fun _=>rfl⟩
   cases code <;> simp only [wEq,nG] at hc
   ·exact CK.skip fin
   ·exact CK.label fin
  | rg os =>
   have hr:sRg os tb (exec tb n false) (exec tb n true) (exec tb n r) σA h=some (e,σA',h'):=hr
   unfold sRg at hr
   have:∃ y,wAX tb (exec tb n false) (exec tb n true) os σA h=some y/\some (Ex.nrm,y.1,y.2)=some (e,σA',h'):=by
    cases hq:wAX tb (exec tb n false) (exec tb n true) os σA h with
    | none=>rw [hq] at hr;cases hr
    | some y=>rw [hq] at hr;exact ⟨y,rfl,hr⟩
   obtain ⟨y,h1,h2⟩:=this
   cases h2
   cases code <;> simp only [wEq,nG] at hc
   exact wNp hm HC HY (wEr tb n false) (wEr tb n true) h1 hc S hE M
  | seq a b =>
   have hr:wRc a b (exec tb n r) σA h=some (e,σA',h'):=hr
   cases code <;> simp only [wEq,nG,nA] at hc
   exact wSH HE hr hc.1 hc.2 hrr S hE M hn
  | cond x a b =>
   have hr:wMu x a b (exec tb n r) σA h=some (e,σA',h'):=hr
   cases code <;> simp only [wEq,nG,nA] at hc
   have hx:=wAF hc.1 hE
   unfold wMu at hr
   split at hr
   ·rename_i hb;rw [hb] at hx
    exact CK.condT hx (HE _ _ _ _ _ _ hr _ N hc.2.1 rr μ σ w D n0 hrr S hE M hn)
   ·rename_i hb;rw [hb] at hx
    exact CK.condF hx (HE _ _ _ _ _ _ hr _ N hc.2.2 rr μ σ w D n0 hrr S hE M hn)
   ·cases hr
  | block i a =>
   have hr:wKi i a (exec tb n r) σA h=some (e,σA',h'):=hr
   cases code <;> simp only [wEq,nG,nA] at hc
   rename_i j code
   have hij:=nB hc.1
   subst hij
   obtain ⟨⟨e1,σ1,h1⟩,ha,hb⟩:=wRL hr
   refine CK.block ((HE _ _ _ _ _ _ ha code N hc.2 rr μ σ w D n0 hrr S hE M hn).mono ?_)
   rintro D' e' σ' w' ⟨rfl,μ1,q1,q2,q3,q4,q5,q6⟩
   cases e1 with
   | nrm=>cases hb;exact ⟨rfl,μ1,q1,q2,q3,q4,q5,q6⟩
   | ret=>cases hb;exact ⟨rfl,μ1,q1,q2,q3,q4,q5,q6⟩
   | exit k =>
    have hb:Bool.rec (motive:=fun _=>R) (some (.exit k,σ1,h1)) (some (.nrm,σ1,h1)) (nL k i)=some (e,σA',h'):=hb
    cases hk:nL k i with
    | true =>
     rw [hk] at hb;cases hb
     have:=nB hk
     subst this
     exact wID ⟨rfl,μ1,q1,q2,q3,q4,q5,q6⟩
    | false =>
     rw [hk] at hb;cases hb
     exact wKa ⟨rfl,μ1,q1,q2,q3,q4,q5,q6⟩ hk
  | loop a =>
   have hr':exec tb (n + 1) r (.loop a) σA h=some (e,σA',h'):=hr
   cases code <;> simp only [wEq,nG] at hc
   exact CK.ofRounds (n + 1) (loop _ _ _ _ _ _ hr' _ N hc rr μ σ w D n0 hrr S hE M hn)
  | rf g t asg body =>
   have hr:sRf (!r) g t asg body tb (exec tb n false) σA h=some (e,σA',h'):=hr
   cases r with
   | true=>unfold sRf at hr;simp at hr
   | false =>
    have hnone:rr=none:=by cases rr <;> first | rfl | cases hrr
    subst hnone
    cases code <;> first | (simp only [wEq,nG] at hc;done) | skip
    exact wOq HC hc hr S hE M hn
  | exit i =>
   have hr:some (Ex.exit i,σA,h)=some (e,σA',h'):=hr
   cases hr
   cases code <;> simp only [wEq,nG] at hc
   have:=nB hc
   subst this
   exact CK.exit ⟨rfl,μ,Ext.refl μ _ w,S,hE,M,rfl,fun _=>rfl⟩
  | scope a =>
   have hr:exec tb n r a σA h=some (e,σA',h'):=hr
   cases code <;> simp only [wEq,nG] at hc
   refine CK.scope ((HE _ _ _ _ _ _ hr _ N hc rr μ σ w D n0 hrr S hE M hn).mono ?_)
   rintro D' e' σ' w' ⟨rfl,q⟩
   cases e with
   | nrm=>exact ⟨rfl,q⟩
   | ret=>exact ⟨rfl,q⟩
   | exit k=>exact ⟨rfl,q⟩
  | ret =>
   have hr:some (Ex.ret,σA,h)=some (e,σA',h'):=hr
   cases hr
   cases code <;> simp only [wEq,nG] at hc
   exact CK.ret ⟨rfl,μ,Ext.refl μ _ w,S,hE,M,rfl,fun _=>rfl⟩
  | rl os =>
   have hr:sRl os tb (exec tb n false) (exec tb n true) σA h=some (e,σA',h'):=hr
   rw [wPQ] at hr
   split at hr
   ·rename_i y hq
    cases hr
    obtain ⟨g1,g2⟩:=wKE _ _ _ _ hq
    cases code <;> simp only [wEq,nG,nA,nM] at hc
    rename_i id ops draw
    obtain ⟨rfl,c1,c2⟩:=hc
    have hop:ops=ops.toList.toArray:=by simp
    rw [hop]
    exact CK.lazy hm HC HY (wEr tb n false) (wEr tb n true) (wNd c1 c2) g2 g1 S hE fun μ' w' σ' q1 q2 q3 q4=>⟨rfl,μ',q1,q2,q3,M.ext q1,q4,fun _=>rfl⟩
   ·cases hr
theorem Sim.empty (C:Chk) (P:Program) (w:World):Sim C P (fun _=>none) ⟨.e,.H,.H⟩ w :=
 ⟨fun _ _=>rfl,fun _ _ h=>(by cases h),fun _ _ _ _ _ _ h=>(by rw [Tr.get_e] at h;cases h),fun _ _ h=>(by rw [Tr.get_e] at h;cases h)⟩
def wNq (f:Nat->AF->Prop):Tr AF->(Nat->Nat)->Prop
 | .e,_=>True
 | .n l v r,g=>(match v with | none=>True | some a=>f (g 1) a)/\wNq f l (fun n=>g (2 * n))/\wNq f r (fun n=>g (2 * n + 1))
theorem wHB {f:Nat->AF->Prop}:∀ {t:Tr AF} {g:Nat->Nat},wNq f t g->∀ p a,t.get p=some a->f (g p.nat) a
 | .e,g,_,p,a,hq=>by rw [Tr.get_e] at hq;cases hq
 | .n l v r,g,⟨h1,h2,h3⟩,.H,a,hq=>by
  rw [Tr.get_H] at hq;subst hq;exact h1
 | .n l v r,g,⟨h1,h2,h3⟩,.O p,a,hq=>wHB h2 p a hq
 | .n l v r,g,⟨h1,h2,h3⟩,.I p,a,hq=>wHB h3 p a hq
theorem wSI (h:wNq (fun n a=>chkF P (n - 1) a=true) tb fun n=>n):wIU P tb:=fun p af hq=>wHB h p af hq
end
end Go.KX
namespace Go.KX
noncomputable section
open Go.RowKit Go.KL
section
variable {P:Program} {tb:Tr AF} {n:Nat} {σ σ1 σ':Tr AV} {h h1 h2 h':AH} {e:Ex} {c c1 c2:AC}
def RunOK (P:Program) (c:AC) (σA:Tr AV) (h:AH) (e:Ex) (σA':Tr AV) (h':AH):Prop:=∀ code N,wEq P N c code=true->∀ (μ:Mu) (σ:Env) (w:World) (D:List Deferred) (n0:Nat),
 Sim (CC P) P μ h w->EnvR μ σA σ->Mk μ w n0 D->n0 <= w.heap.size->CK none N P code (PostX P μ h.fl w n0 none D e σA' h') D σ w
theorem RunOK.exec (hm:P.follows .mixedOrders=true) (T:wIU P tb) (hr:exec tb n false c σ h=some (e,σ',h')):RunOK P c σ h e σ' h' :=
 fun code N hc μ σ w D n0 S hE M hn=>(wQj hm T n false).1 _ _ _ _ _ _ hr code N hc none μ σ w D n0 rfl S hE M hn
theorem RunOK.seq (A:RunOK P c1 σ h .nrm σ1 h1) (B:RunOK P c2 σ1 h1 e σ' h'):RunOK P (.seq c1 c2) σ h e σ' h':=by
 intro code N hc μ σ w D n0 S hE M hn
 cases code <;> simp only [wEq,nG,nA] at hc
 refine CK.seq ((A _ N hc.1 μ σ w D n0 S hE M hn).mono ?_)
 rintro D' e' σ' w' ⟨rfl,μ1,q1,q2,q3,q4,q5,q6⟩
 refine (B _ N hc.2 μ1 σ' w' D' n0 q2 q3 q4 (nv hn q1.keep.size)).mono ?_
 intro D'' e'' σ'' w'' hp
 rw [q5] at hp
 exact PostX.trans q1 q6 hp
theorem RunOK.less (A:RunOK P c σ h2 e σ' h') (hs:∀ p b,h2.m.get p=some b->h.m.get p=some b) (hn:h2.nx=h.nx) (hf:h2.fl=h.fl):RunOK P c σ h e σ' h':=by
 intro code N hc μ σ w D n0 S hE M hn0
 rw [<- hf]
 exact A code N hc μ σ w D n0 ⟨by rw [hn];exact S.nx,S.lt,fun p q a b c d hp hq=>S.inj p q a b c d (hs p a hp) (hs q b hq),fun p b hp=>S.at_ p b (hs p b hp)⟩ hE M hn0
def wFO:Nat->AC->AC
 | k + 1,.seq _ b=>wFO k b
 | _,c=>c
def wLj (tb:Tr AF) (n:Nat):Nat->AC->Tr AV->AH->Option (Tr AV × AH)
 | 0,_,σ,h=>some (σ,h)
 | k + 1,.seq a b,σ,h=>match KX.exec tb n false a σ h with
  | some (.nrm,σ1,h1)=>wLj tb n k b σ1 h1
  | _=>none
 | _ + 1,_,_,_=>none
theorem wLA (hm:P.follows .mixedOrders=true) (T:wIU P tb):∀ (k:Nat) (c:AC) (σ:Tr AV) (h:AH),wLj tb n k c σ h=some (σ1,h1)->RunOK P (wFO k c) σ1 h1 e σ' h'->RunOK P c σ h e σ' h'
 | 0,c,σ,h,hr,B=>by
  have hr:some (σ,h)=some (σ1,h1):=by simpa [wLj] using hr
  cases hr
  have hd:wFO 0 c=c:=by cases c <;> rfl
  rwa [hd] at B
 | k + 1,c,σ,h,hr,B=>by
  cases c <;> first | (simp only [wLj] at hr;cases hr;done) | skip
  rename_i a b
  rw [wLj] at hr
  split at hr
  ·rename_i σ2 h2 hq
   exact (RunOK.exec hm T hq).seq (wLA hm T k b σ2 h2 hr B)
  ·cases hr
def wHC:Tr AV->Tr AV->Bool
 | .e,.e=>true
 | .n l v r,.n l' v' r'=>(match v,v' with | none,none=>true | some a,some b=>same a b | _,_=>false) && (wHC l l' && wHC r r')
 | _,_=>false
theorem wHD:∀ {s t:Tr AV},wHC s t=true->s=t
 | .e,.e,_=>rfl
 | .n l v r,.n l' v' r',hs=>by
  simp only [wHC,nA] at hs
  obtain ⟨h1,h2,h3⟩:=hs
  rw [wHD h2,wHD h3]
  cases v <;> cases v' <;> simp only [nG] at h1
  ·rfl
  ·rw [wKH h1]
 | .e,.n _ _ _,hs=>by simp [wHC] at hs
 | .n _ _ _,.e,hs=>by simp [wHC] at hs
def wNr:AB->AB->Bool
 | .cells T l,.cells T' l'=>nL T T' && wGk l l'
 | .row T s l,.row T' s' l'=>nL T T' && (nL s s' && wGk l l')
 | _,_=>false
theorem wNs {a b:AB} (hs:wNr a b=true):a=b:=by
 unfold wNr at hs
 split at hs
 ·simp only [nA] at hs
  rw [nB hs.1,wDr hs.2]
 ·simp only [nA] at hs
  rw [nB hs.1,nB hs.2.1,wDr hs.2.2]
 ·cases hs
def wLk:Tr AB->Tr AB->Bool
 | .e,_=>true
 | .n l v r,.n l' v' r'=>(match v,v' with | none,_=>true | some a,some b=>wNr a b | _,_=>false) && (wLk l l' && wLk r r')
 | _,_=>false
theorem wHE:∀ {s t:Tr AB},wLk s t=true->∀ p b,s.get p=some b->t.get p=some b
 | .e,t,_,p,b,hg=>by rw [Tr.get_e] at hg;cases hg
 | .n l v r,.n l' v' r',hs,p,b,hg=>by
  simp only [wLk,nA] at hs
  obtain ⟨h1,h2,h3⟩:=hs
  cases p with
  | H =>
   rw [Tr.get_H] at hg ⊢
   subst hg
   cases v' <;> simp only [nG] at h1
   rw [wNs h1]
  | O p=>rw [Tr.get_O] at hg ⊢;exact wHE h2 p b hg
  | I p=>rw [Tr.get_I] at hg ⊢;exact wHE h3 p b hg
 | .n _ _ _,.e,hs,_,_,_=>by simp [wLk] at hs
def stg (tb:Tr AF) (n k:Nat) (c:AC) (σ:Tr AV) (h:AH) (σ1:Tr AV) (h2:AH):Bool:=match wLj tb n k c σ h with
 | some (σ',h')=>wHC σ' σ1 && (h2.nx.beq h'.nx && (h2.fl.beq h'.fl && wLk h2.m h'.m))
 | none=>false
theorem wLB (hm:P.follows .mixedOrders=true) (T:wIU P tb) (k:Nat) (hs:stg tb n k c σ h σ1 h2=true) (B:RunOK P (wFO k c) σ1 h2 e σ' h'):RunOK P c σ h e σ' h':=by
 unfold stg at hs
 split at hs
 ·rename_i σ2 h3 hq
  simp only [nA] at hs
  obtain ⟨g1,g2,g3,g4⟩:=hs
  have:=wHD g1
  subst this
  exact wLA hm T k c σ h hq (B.less (wHE g4) (Pos.beq_eq g2) (Pos.beq_eq g3))
 ·cases hs
def stgB (tb:Tr AF) (n:Nat) (c:AC) (σ:Tr AV) (h:AH) (rs:List AR) (b:Bool):Bool:=match KX.exec tb n false c σ h with
 | some (.ret,σ',h')=>(match wOU σ' h' rs with
  | some (.bool b',_)=>b' == b
  | _=>false)
 | _=>false
theorem wQk (hm:P.follows .mixedOrders=true) (T:wIU P tb) {rs:List AR} {b:Bool} (hs:stgB tb n c σ h rs b=true):∃ σ' h' h3,RunOK P c σ h .ret σ' h'/\wOU σ' h' rs=some (.bool b,h3):=by
 unfold stgB at hs
 split at hs
 ·rename_i σ' h' hq
  split at hs
  ·rename_i b' h3 hq2
   have:=eq_of_beq hs
   subst this
   exact ⟨σ',h',h3,RunOK.exec hm T hq,hq2⟩
  ·cases hs
 ·cases hs
open Classical in
def wLC (c0:AC) (σ0:Tr AV) (h0:AH) (r:Ex × Tr AV × AH):Run:=fun c σ h=>if c=c0/\σ=σ0/\h=h0 then some r else none
theorem wLl (T:wIU P tb) (f:Pos) (k:Nat) (hk:f.nat=k + 1) {af:AF} (hf:tb.get f=some af) {b:Bool} (hr:∃ σ' h' h3,RunOK P af.body .e ⟨.e,.H,.H⟩ .ret σ' h'/\wOU σ' h' af.res=some (.bool b,h3)) (w:World) :
  Gv P k [] w fun cv w'=>cv=.bool b/\Keep w w' Non:=by
 obtain ⟨σ',h',h3,R,hres⟩:=hr
 have HE:wHt P (wLC af.body .e ⟨.e,.H,.H⟩ (.ret,σ',h')) false:=by
  intro c σA h e σA' h1 hx code N hc rr μ σ w D n0 hrr S hE M hn
  unfold wLC at hx
  split at hx
  ·rename_i hq
   obtain ⟨rfl,rfl,rfl⟩:=hq
   cases hx
   have:rr=none:=by cases rr <;> first | rfl | cases hrr
   subst this
   exact R code N hc μ σ w D n0 S hE M hn
  ·cases hx
 have hcall:wIt tb (wLC af.body .e ⟨.e,.H,.H⟩ (.ret,σ',h')) f [] ⟨.e,.H,.H⟩=some (.bool b,h3):=by
  unfold wIt
  rw [hf]
  have hle:Nat.ble (len ([]:List AV)) af.n=true:=by rw [kj];exact kz _
  simp only [hle]
  have hi:wLY [] Pos.H .e=.e:=rfl
  rw [hi]
  unfold wLC
  rw [if_pos ⟨rfl,rfl,rfl⟩]
  exact hres
 obtain ⟨_,hg⟩:=wNf T HE f [] _ _ _ hcall
 have:=hg _ w [] (Sim.empty _ _ w) rfl
 rw [hk] at this
 refine this.mono ?_
 rintro cv w' ⟨μ',h1,h2,h3,_⟩
 exact ⟨h3,h1.keep.weak fun i _ ⟨p,d,hp,_⟩=>by cases hp⟩
end
end
end Go.KX
namespace Go.KL
variable {S S' B B' α:Type}
theorem wIb {body:Nat->S->Option (S ⊕ B)} (I:Nat->S->Prop) (Z:B->Prop):∀ (m k:Nat) (s:S),I k s ->
  (∀ i s,k <= i->i < k + m->I i s->(∃ s',body i s=some (.inl s')/\I (i + 1) s') \/ ∃ b,body i s=some (.inr b)/\Z b) ->
  (∃ s',forN body m k s=some (.inl s')/\I (k + m) s') \/ ∃ b,forN body m k s=some (.inr b)/\Z b
 | 0,k,s,h,_=>.inl ⟨s,rfl,h⟩
 | m + 1,k,s,h,hb=>by
  simp only [forN]
  rcases hb k s (nE _) (by omega) h with ⟨s',h1,h2⟩ | ⟨b,h1,h2⟩
  ·rw [h1]
   have:=wIb I Z m (k + 1) s' h2 fun i s h2 h3 h4=>hb i s (by omega) (by omega) h4
   rwa [show k + 1 + m=k + (m + 1) from by omega] at this
  ·rw [h1];exact .inr ⟨b,rfl,h2⟩
theorem wJK {body:Nat->S->Option S} (I:Nat->S->Prop):∀ (m k:Nat) (s:S),I k s ->
  (∀ i s,k <= i->i < k + m->I i s->∃ s',body i s=some s'/\I (i + 1) s')->∃ s',forN' body m k s=some s'/\I (k + m) s'
 | 0,k,s,h,_=>⟨s,rfl,h⟩
 | m + 1,k,s,h,hb=>by
  simp only [forN']
  obtain ⟨s',h1,h2⟩:=hb k s (nE _) (by omega) h
  rw [h1]
  have:=wJK I m (k + 1) s' h2 fun i s h2 h3 h4=>hb i s (by omega) (by omega) h4
  rwa [show k + 1 + m=k + (m + 1) from by omega] at this
theorem wDO {body:Nat->S->Option (S ⊕ B)} {n:Nat} {s:S} (hn:n <= 9223372036854775807):wEy 0 (n:Int) body s=forN body n 0 s:=by
 unfold wEy
 rw [if_pos (by omega),show ((n:Int) - 0).toNat=n from by omega]
theorem wHw {body:Nat->S->Option S} {n:Nat} {s:S} (hn:n <= 9223372036854775807):wCy 0 (n:Int) body s=forN' body n 0 s:=by
 unfold wCy
 rw [if_pos (by omega),show ((n:Int) - 0).toNat=n from by omega]
def first (p:α->Bool):List α->Nat->Int
 | [],_=>-1
 | a :: l,k=>if p a then (k:Int) else first p l (k + 1)
theorem wFR (p:α->Bool):∀ (l:List α) (k:Nat),decide (0 <= first p l k)=l.any p
 | [],k=>by simp [first]
 | a :: l,k=>by
  rw [first,kW]
  by_cases h:p a
  ·simp [h]
  ·simp [h,wFR p l (k + 1)]
theorem wFi {R:Type} {l:List α} {f:α->Option Bool} {p:α->Bool} (hf:∀ a ∈ l,f a=some (p a)) (hn:l.length <= 9223372036854775807) (z:Int->R) :
  (jn (wEy 0 (↑l.length:Int) (fun k2 (_:Unit)=>(idx l (↑k2:Int)).bind fun x=>(f x).bind fun y=>if y=true then esc (some (z (↑k2:Int))) else some (.inl ())) ()) fun _=>some (z (-1)))=some (z (first p l 0)):=by
 rw [wDO hn]
 have key:∀ (m k:Nat),k + m=l.length->(jn (forN (fun k2 (_:Unit)=>(idx l (↑k2:Int)).bind fun x=>(f x).bind fun y=>if y=true then esc (some (z (↑k2:Int))) else some (.inl ())) m k ()) fun _=>some (z (-1)))=some (z (first p (l.drop k) k)):=by
  intro m
  induction m with
  | zero=>intro k hk;rw [kJ (by omega)];rfl
  | succ m ih =>
   intro k hk
   have hlt:k < l.length:=by omega
   rw [kB hlt,first,forN,wIG,nh hlt]
   simp only [hH,hf _ (List.getElem_mem hlt)]
   by_cases h:p l[k]=true
   ·simp [h]
   ·simp only [h,if_false,nG]
    exact ih (k + 1) (by omega)
 exact key l.length 0 (by omega)
theorem wLo [DecidableEq α] {l m:List α} (hn:l.length <= 9223372036854775807) :
  (if (↑l.length:Int)=(↑m.length:Int) then jn (wEy 0 (↑l.length:Int) (fun k4 (_:Unit)=>(idx l (↑k4:Int)).bind fun x26=>(idx m (↑k4:Int)).bind fun x34=>if x26=x34 then some (.inl ()) else esc (some false)) ()) fun _=>some true else some false)=some (decide (l=m)):=by
 by_cases hl:l.length=m.length
 ·rw [if_pos (by omega),wDO hn]
  have key:∀ (n k:Nat),k + n=l.length->(jn (forN (fun k4 (_:Unit)=>(idx l (↑k4:Int)).bind fun x26=>(idx m (↑k4:Int)).bind fun x34=>if x26=x34 then some (.inl ()) else esc (some false)) n k ()) fun _=>some true)=some (decide (l.drop k=m.drop k)):=by
   intro n
   induction n with
   | zero=>intro k hk;rw [kJ (by omega),kJ (by omega)];simp [forN]
   | succ n ih =>
    intro k hk
    have h1:k < l.length:=by omega
    have h2:k < m.length:=by omega
    rw [kB h1,kB h2,forN,wIG,wIG,nh h1,nh h2]
    simp only [hH]
    by_cases h:l[k]=m[k]
    ·rw [if_pos h]
     simp only
     rw [ih (k + 1) (by omega)]
     congr 1
     exact decide_eq_decide.2 ⟨fun e=>by rw [e,h],fun e=>(aA e).2⟩
    ·rw [if_neg h]
     have:¬ l[k] :: l.drop (k + 1)=m[k] :: m.drop (k + 1):=fun e=>h (aA e).1
     simp only [wOZ,wJb,this,decide_false]
  have:=key l.length 0 (by omega)
  simpa using this
 ·rw [if_neg (by omega)]
  have:l ≠ m:=fun e=>hl (by rw [e])
  simp [this]
theorem wFs {bytes:Nat} {l m:List α} (h:(l.length + m.length) * bytes <= 140737488355328):app bytes l m=some (l ++ m):=if_pos h
end Go.KL
namespace Go.KL
variable {S B R α β:Type}
theorem wLD {body:Nat->S->Option (S ⊕ B)} (s:Nat->S):∀ (m k:Nat),(∀ i,k <= i->i < k + m->body i (s i)=some (.inl (s (i + 1))))->forN body m k (s k)=some (.inl (s (k + m)))
 | 0,_,_=>rfl
 | m + 1,k,h=>by
  rw [forN,h k (nE _) (by omega)]
  have:=wLD s m (k + 1) fun i h1 h2=>h i (by omega) (by omega)
  rw [show k + 1 + m=k + (m + 1) by omega] at this
  exact this
theorem wJL {body:Nat->S->Option S} (s:Nat->S):∀ (m k:Nat),(∀ i,k <= i->i < k + m->body i (s i)=some (s (i + 1)))->forN' body m k (s k)=some (s (k + m))
 | 0,_,_=>rfl
 | m + 1,k,h=>by
  rw [forN',h k (nE _) (by omega)]
  have:=wJL s m (k + 1) fun i h1 h2=>h i (by omega) (by omega)
  rw [show k + 1 + m=k + (m + 1) by omega] at this
  exact this
theorem wDj {body:Nat->S->Option S} {n:Nat} {s0:S} (s:Nat->S) (h0:s 0=s0) (hn:n <= 9223372036854775807) (h:∀ i,i < n->body i (s i)=some (s (i + 1))):wCy 0 (n:Int) body s0=some (s n):=by
 rw [wHw hn,<- h0]
 have:=wJL s n 0 fun i _ hi=>h i (by omega)
 rwa [nl] at this
theorem wGL {body:Nat->S->Option (S ⊕ B)} {n:Nat} {s0:S} (s:Nat->S) (h0:s 0=s0) (hn:n <= 9223372036854775807) (h:∀ i,i < n->body i (s i)=some (.inl (s (i + 1)))):wEy 0 (n:Int) body s0=some (.inl (s n)):=by
 rw [wDO hn,<- h0]
 have:=wLD s n 0 fun i _ hi=>h i (by omega)
 rwa [nl] at this
theorem wNt {body:Nat->Unit->Option (Unit ⊕ B)} {n:Nat} (hn:n <= 9223372036854775807) (h:∀ i,i < n->body i ()=some (.inl ())):wEy 0 (n:Int) body ()=some (.inl ()):=wGL (fun _=>()) rfl hn h
theorem wAY [Inhabited α] {l:List α} {k:Nat} (h:k < l.length):idx l (k:Int)=some (gd l k):=by
 rw [wIG]
 exact wCi h
theorem wCh [Inhabited α] {l:List α} {k:Nat} (h:k < l.length):gd l k ∈ l:=List.mem_of_getElem? (wCi h)
theorem wEw [Inhabited α] {l:List α} {k:Nat} (h:k < l.length):l.take (k + 1)=l.take k ++ [gd l k]:=by
 rw [List.take_add_one,wCi h]
 rfl
theorem wIc [Inhabited α] {l m:List α} {k:Nat} (h:k < l.length):gd (l ++ m) k=gd l k:=by
 have h1:=wCi (xs:=l ++ m) (k:=k) (by rw [nO];omega)
 rw [kc h,wCi h] at h1
 exact (nI h1).symm
theorem wFS [Inhabited α] (l m:List α) (x:α):gd (l ++ x :: m) l.length=x:=by
 have h1:=wCi (xs:=l ++ x :: m) (k:=l.length) (by simp)
 rw [kA (nE _),kf] at h1
 exact (nI h1).symm
theorem wQl [Inhabited α] [Inhabited β] (f:α->β) {l:List α} {k:Nat} (h:k < l.length):gd (l.map f) k=f (gd l k):=by
 have h1:=wCi (xs:=l.map f) (k:=k) (by simpa using h)
 rw [List.getElem?_map,wCi h] at h1
 exact (nI h1).symm
theorem wSK [Inhabited α] {l m:List α} (h:l.length=m.length) (hk:∀ k,k < l.length->gd l k=gd m k):l=m:=by
 apply List.ext_getElem?
 intro k
 rcases Nat.lt_or_ge k l.length with h1 | h1
 ·rw [wCi h1,wCi (by omega),hk k h1]
 ·rw [kM h1,kM (by omega)]
end Go.KL
namespace Go.KL
def wCj (m:Nat) (ok:Nat->Nat->Bool):Nat->List Int->List (List Int)
 | 0,o=>[o]
 | k + 1,o=>(nK m).flatMap fun s=>if ok s o.length=true then wCj m ok k (o ++ [(s:Int)]) else []
def wKM (tk:List Int->Option Int) (st:List Int × Int) (o:List Int):List Int × Int :=
 match tk o with
 | some v=>if st.1=[] \/ v < st.2 then (o,v) else st
 | none=>st
structure Fits2 (m:Nat) (ok:Nat->Nat->Bool) (n:Nat) (o:List Int):Prop where
 len:o.length=n
 rg:∀ i,i < n->0 <= gd o i/\gd o i < m
 ok:∀ i,i < n->ok (gd o i).toNat i=true
theorem wFT {m:Nat} {ok:Nat->Nat->Bool}:∀ {k:Nat} {o x:List Int},x ∈ wCj m ok k o ↔ ∃ y:List Int,x=o ++ y/\y.length=k/\∀ i,i < k->(0 <= gd y i/\gd y i < m)/\ok (gd y i).toNat (o.length + i)=true
 | 0,o,x=>by
  unfold wCj
  rw [nN]
  constructor
  ·rintro rfl;exact ⟨[],by simp,rfl,fun i h=>by omega⟩
  ·rintro ⟨y,rfl,h,_⟩
   rw [List.eq_nil_of_length_eq_zero h,nY]
 | k + 1,o,x=>by
  unfold wCj
  rw [List.mem_flatMap]
  constructor
  ·rintro ⟨s,hs,hx⟩
   have hs:=kD.1 hs
   split at hx
   ·rename_i c
    obtain ⟨y,rfl,hl,hy⟩:=wFT.1 hx
    refine ⟨(s:Int) :: y,by simp,by simp [hl],fun i hi=>?_⟩
    cases i with
    | zero=>exact ⟨⟨by show (0:Int) <= (s:Int);omega,by show (s:Int) < m;omega⟩,by show ok ((s:Int)).toNat (o.length + 0)=true;rw [ni,kQ];exact c⟩
    | succ i =>
     have:=hy i (by omega)
     rw [nO,nV,Nat.add_assoc,Nat.add_comm 1 i] at this
     exact this
   ·cases hx
  ·rintro ⟨y,rfl,hl,hy⟩
   match y,hl,hy with
   | a :: y,hl,hy =>
    have h0:=hy 0 (by omega)
    have h0':(0 <= a/\a < m)/\ok a.toNat (o.length + 0)=true:=h0
    refine ⟨a.toNat,kD.2 (by omega),?_⟩
    rw [if_pos (by rw [<- h0'.2,kQ])]
    refine wFT.2 ⟨y,by rw [nQ,nq h0'.1.1];rfl,by simpa using hl,fun i hi=>?_⟩
    have:=hy (i + 1) (by omega)
    rw [nO,nV,Nat.add_assoc,Nat.add_comm 1 i]
    exact this
theorem wHJ {m:Nat} {ok:Nat->Nat->Bool} {n:Nat} {x:List Int}:x ∈ wCj m ok n [] ↔ Fits2 m ok n x:=by
 rw [wFT]
 constructor
 ·rintro ⟨y,rfl,h,hy⟩
  exact ⟨by simpa using h,fun i hi=>(hy i hi).1,fun i hi=>by
   have:=(hy i hi).2
   rw [nU,nl] at this
   exact this⟩
 ·intro h
  exact ⟨x,rfl,h.len,fun i hi=>⟨h.rg i hi,by rw [nU,nl];exact h.ok i hi⟩⟩
structure wQm (tk:List Int->Option Int) (L:List (List Int)) (st:List Int × Int):Prop where
 none_:st.1=[]->st.2=0/\∀ o ∈ L,tk o=none
 some_:st.1 ≠ []->st.1 ∈ L/\tk st.1=some st.2/\∀ o ∈ L,∀ v,tk o=some v->st.2 <= v
theorem wOs {tk:List Int->Option Int}:∀ {L:List (List Int)},(∀ o ∈ L,o ≠ [])->wQm tk L (L.foldl (wKM tk) ([],0)):=by
 have key:∀ (L M:List (List Int)) (st:List Int × Int),(∀ o ∈ L ++ M,o ≠ [])->wQm tk L st->wQm tk (L ++ M) (M.foldl (wKM tk) st):=by
  intro L M
  induction M generalizing L with
  | nil=>intro st _ h;rw [nY];exact h
  | cons a M ih =>
   intro st hne h
   rw [kh,show L ++ a :: M=(L ++ [a]) ++ M by simp]
   refine ih (L ++ [a]) _ (by simpa using hne) ?_
   have ha:a ≠ []:=hne a (by simp)
   unfold wKM
   cases ht:tk a with
   | none =>
    simp only
    refine ⟨fun e=>⟨(h.none_ e).1,fun o ho=>?_⟩,fun e=>⟨ng _ (h.some_ e).1,(h.some_ e).2.1,fun o ho v hv=>?_⟩⟩
    ·rcases nH.1 ho with ho | ho
     ·exact (h.none_ e).2 o ho
     ·rw [nN.1 ho];exact ht
    ·rcases nH.1 ho with ho | ho
     ·exact (h.some_ e).2.2 o ho v hv
     ·rw [nN.1 ho,ht] at hv;cases hv
   | some w =>
    simp only
    by_cases c:st.1=[] \/ w < st.2
    ·rw [if_pos c]
     refine ⟨fun e=>absurd e ha,fun _=>⟨by simp,ht,fun o ho v hv=>?_⟩⟩
     rcases nH.1 ho with ho | ho
     ·rcases c with c | c
      ·rw [(h.none_ c).2 o ho] at hv;cases hv
      ·by_cases e:st.1=[]
       ·rw [(h.none_ e).2 o ho] at hv;cases hv
       ·have:=(h.some_ e).2.2 o ho v hv
        simp only
        omega
     ·rw [nN.1 ho,ht] at hv
      cases hv
      exact Int.le_refl _
    ·rw [if_neg c]
     refine ⟨fun e=>absurd (.inl e) c,fun e=>⟨ng _ (h.some_ e).1,(h.some_ e).2.1,fun o ho v hv=>?_⟩⟩
     rcases nH.1 ho with ho | ho
     ·exact (h.some_ e).2.2 o ho v hv
     ·rw [nN.1 ho,ht] at hv
      cases hv
      have:¬ w < st.2:=fun q=>c (.inr q)
      omega
 intro L hL
 exact key [] L ([],0) hL ⟨fun _=>⟨rfl,fun o ho=>by cases ho⟩,fun h=>absurd rfl h⟩
end Go.KL
namespace Go.Proofs.YtabadkdjndnliaaGreat
open Go.KL
def inB (n lo hi:Int):Bool:=decide (lo <= n/\n <= hi)
theorem wId (n lo hi:Int):wBr n lo hi=some (inB n lo hi):=by
 unfold wBr inB
 by_cases h:lo <= n
 ·rw [if_pos h];simp [h]
 ·rw [if_neg h];simp [h]
structure wPb (p:wAA):Prop where
 n:1 <= p.Classes.length/\p.Classes.length <= 4
 cls:∀ c ∈ p.Classes,0 <= c/\c <= 3
 each:1 <= p.Each/\p.Each <= 4
 laps:1 <= p.Laps/\p.Laps <= 5
 spare:0 <= p.Spare/\p.Spare <= 600
 loop:0 <= p.Loop/\p.Loop <= 600
 unused:0 <= p.Unused/\p.Unused <= 6000
theorem wGM {n lo hi:Int} (h1:lo <= n) (h2:n <= hi):inB n lo hi=true:=by unfold inB;simp [h1,h2]
theorem wFj {l:List Int} {f:Int->Option Bool} {p:Int->Bool} (hf:∀ a,f a=some (p a)) (hn:l.length <= 9223372036854775807):wAs l f=some (l.all p):=by
 unfold wAs wBI wBX wBc
 have:=wFi (R:=Int) (l:=l) (f:=fun x=>(f x).bind fun x5=>some (!x5)) (p:=fun a=>!p a) (fun a _=>by rw [hf];rfl) hn id
 simp only [id] at this
 rw [this]
 simp only [hH,wFR]
 congr 1
 clear this hn
 induction l with
 | nil=>rfl
 | cons a l ih=>rw [kW,kX,<- ih];cases p a <;> simp
theorem wQn {l:List wAE} {f:wAE->Option Bool} {p:wAE->Bool} (hf:∀ a ∈ l,f a=some (p a)) (hn:l.length <= 9223372036854775807):wBK l f=some (l.all p):=by
 unfold wBK wAM wAS wAb
 have:=wFi (R:=Int) (l:=l) (f:=fun x=>(f x).bind fun x5=>some (!x5)) (p:=fun a=>!p a) (fun a ha=>by rw [hf a ha];rfl) hn id
 simp only [id] at this
 rw [this]
 simp only [hH,wFR]
 congr 1
 clear this hn hf
 induction l with
 | nil=>rfl
 | cons a l ih=>rw [kW,kX,<- ih];cases p a <;> simp
end Go.Proofs.YtabadkdjndnliaaGreat
namespace Go.KL
variable {S B α:Type}
theorem wNu {body:S->Option (S ⊕ B)} (F:Nat):∀ (m:Nat) (s:Nat->S),(∀ i,i < m->body (s i)=some (.inl (s (i + 1))))->iter body (m + F) (s 0)=iter body F (s m)
 | 0,s,_=>by rw [nl]
 | m + 1,s,h=>by
  rw [show m + 1 + F=(m + F) + 1 by omega,iter,h 0 (by omega)]
  exact wNu F m (fun i=>s (i + 1)) fun i hi=>h (i + 1) (by omega)
theorem wFt [Inhabited α] {l:List α} {i k:Nat} {x:α} (hi:i < l.length) (hk:k < l.length):gd (l.set i x) k=if k=i then x else gd l k:=by
 have h1:=wCi (xs:=l.set i x) (k:=k) (by rw [nk];exact hk)
 rw [List.getElem?_set] at h1
 by_cases e:i=k
 ·subst e
  rw [if_pos rfl,if_pos hi] at h1
  rw [if_pos rfl]
  exact (nI h1).symm
 ·rw [if_neg e,wCi hk] at h1
  rw [if_neg (fun h=>e h.symm)]
  exact (nI h1).symm
theorem gd_is [Inhabited α] {l:List α} {k:Nat} (h:k < l.length):gd l k=l[k]:=by
 have:=wCi h
 rw [nh h] at this
 exact (nI this).symm
theorem wLp [DecidableEq α] {l:List α} (hn:l.length <= 9223372036854775807) :
  (if (↑l.length:Int)=(↑l.length:Int) then jn (wEy 0 (↑l.length:Int) (fun k4 (_:Unit)=>(idx l (↑k4:Int)).bind fun x26=>(idx l (↑k4:Int)).bind fun x34=>if x26=x34 then some (.inl ()) else esc (some false)) ()) fun _=>some true else some false)=some true:=by
 rw [wLo hn]
 simp
end Go.KL
namespace Go.KL
def wEC (q:Nat->Bool):Nat->Nat->Bool
 | 0,_=>true
 | m + 1,k=>q k && wEC q m (k + 1)
def fnd {B:Type} (f:Nat->Option B):Nat->Nat->Option B
 | 0,_=>none
 | m + 1,k=>match f k with
  | some c=>some c
  | none=>fnd f m (k + 1)
theorem wFU (q:Nat->Bool):∀ m k,wEC q m k=true ↔ ∀ i,k <= i->i < k + m->q i=true
 | 0,k=>⟨fun _ i h1 h2=>by omega,fun _=>rfl⟩
 | m + 1,k=>by
  rw [wEC,nA,wFU q m (k + 1)]
  constructor
  ·rintro ⟨h1,h2⟩ i h3 h4
   by_cases e:i=k
   ·exact e ▸ h1
   ·exact h2 i (by omega) (by omega)
  ·exact fun h=>⟨h k (by omega) (by omega),fun i h1 h2=>h i (by omega) (by omega)⟩
theorem wNv {B:Type} (q:Nat->Bool) (c:B):∀ m k,fnd (fun i=>if q i=true then none else some c) m k=if wEC q m k=true then none else some c
 | 0,_=>rfl
 | m + 1,k=>by
  rw [fnd,wNv q c m (k + 1),wEC]
  cases q k <;> simp
def out {S B:Type} (s:S):Option B->S ⊕ B
 | none=>.inl s
 | some c=>.inr c
theorem wLE {B:Type} {body:Nat->Unit->Option (Unit ⊕ B)} {f:Nat->Option B}:∀ (m k:Nat),(∀ i,k <= i->i < k + m->body i ()=some (out () (f i)))->forN body m k ()=some (out () (fnd f m k))
 | 0,_,_=>rfl
 | m + 1,k,h=>by
  rw [forN,h k (by omega) (by omega),fnd]
  cases f k with
  | none=>exact wLE m (k + 1) fun i h1 h2=>h i (by omega) (by omega)
  | some c=>rfl
theorem wOt {B:Type} {body:Nat->Unit->Option (Unit ⊕ B)} {n:Nat} (f:Nat->Option B) (hn:n <= 1000) (h:∀ i,i < n->body i ()=some (out () (f i))):wEy 0 (n:Int) body ()=some (out () (fnd f n 0)):=by
 rw [wDO (by omega)]
 exact wLE n 0 fun i _ hi=>h i (by omega)
theorem wDt {B:Type} {body:Nat->Unit->Option (Unit ⊕ B)} {n:Nat} (q:Nat->Bool) (c:B) (hn:n <= 1000) (h:∀ i,i < n->body i ()=some (if q i=true then .inl () else .inr c)):wEy 0 (n:Int) body ()=some (if wEC q n 0=true then .inl () else .inr c):=by
 rw [wOt (fun i=>if q i=true then none else some c) hn fun i hi=>by rw [h i hi];split <;> rfl,wNv]
 split <;> rfl
theorem wFV {B:Type} {body:Int->Option (Int ⊕ B)} {f:Nat->Option B} {z:B} {n:Nat} (h:∀ i,i < n->body (i:Int)=some (out ((i:Int) + 1) (f i))) (hz:body (n:Int)=some (.inr z)):∀ (m k F:Nat),k + m=n->m < F->iter body F (k:Int)=some ((fnd f m k).getD z)
 | 0,k,F,hk,hF=>by
  obtain ⟨F,rfl⟩:∃ G,F=G + 1:=⟨F - 1,by omega⟩
  obtain rfl:k=n:=by omega
  rw [iter,hz]
  rfl
 | m + 1,k,F,hk,hF=>by
  obtain ⟨F,rfl⟩:∃ G,F=G + 1:=⟨F - 1,by omega⟩
  rw [iter,h k (by omega),fnd]
  cases f k with
  | none=>exact wFV h hz m (k + 1) F (by omega) (by omega)
  | some c=>rfl
theorem wOu {B:Type} {body:Int->Option (Int ⊕ B)} {n:Nat} (f:Nat->Option B) {z:B} (hn:n <= 1000) (h:∀ i,i < n->body (i:Int)=some (out ((i:Int) + 1) (f i))) (hz:body (n:Int)=some (.inr z)):iter body big 0=some ((fnd f n 0).getD z) :=
 wFV h hz n 0 big (by omega) (by unfold big;omega)
theorem wIe {B:Type} {body:Int->Option (Int ⊕ B)} {n:Nat} (q:Nat->Bool) (c:B) {z:B} (hn:n <= 1000) (h:∀ i,i < n->body (i:Int)=some (if q i=true then .inl ((i:Int) + 1) else .inr c)) (hz:body (n:Int)=some (.inr z)):iter body big 0=some (if wEC q n 0=true then z else c):=by
 rw [wOu (fun i=>if q i=true then none else some c) hn (fun i hi=>by rw [h i hi];split <;> rfl) hz,wNv]
 split <;> rfl
theorem wDZ {α:Type} [Inhabited α] (p:α->Bool) (l:List α):l.all p=wEC (fun k=>p (gd l k)) l.length 0:=by
 rw [Bool.eq_iff_iff,wFU,nM]
 constructor
 ·exact fun h i _ hi=>h _ (wCh (by omega))
 ·intro h a ha
  obtain ⟨k,hk,e⟩:=ko ha
  have:=h k (by omega) (by omega)
  rw [gd_is hk,e] at this
  exact this
end Go.KL
namespace Go.Proofs.YtabadkdjndnliaaGreat
open Go.KL
open Classical
theorem wEX {S:Type} {body:Nat->S->Option S} {n:Nat} {s0:S} (I:Nat->S->Prop) (hn:n <= 1000) (h0:I 0 s0) (h:∀ i s,i < n->I i s->∃ s',body i s=some s'/\I (i + 1) s'):∃ s,wCy 0 (n:Int) body s0=some s/\I n s:=by
 rw [wHw (by omega)]
 have:=wJK (body:=body) I n 0 s0 h0 fun i s _ h2 h3=>h i s (by omega) h3
 rwa [nl] at this
structure wFZ (p:wAA) (s:wAB):Prop where
 rules:wPb p
 m:1 <= s.Classes.length/\s.Classes.length <= 8
 t:s.Times.length=s.Classes.length
 cls:∀ c ∈ s.Classes,0 <= c/\c <= 3
 row:∀ i,i < s.Classes.length->(gd s.Times i).length=p.Classes.length
 val:∀ i,i < s.Classes.length->∀ j,j < p.Classes.length->0 <= gd (gd s.Times i) j/\gd (gd s.Times i) j <= 100000
theorem wNw {α:Type} [Inhabited α] {l:List α} {k:Nat} (h:k < l.length):gd l k=l[k]:=by
 have:=wCi h
 rw [nh h] at this
 exact (nI this).symm
theorem memQ {α:Type} [Inhabited α] {l:List α} {a:α} (h:a ∈ l):∃ i,i < l.length/\gd l i=a:=by
 obtain ⟨i,hi,e⟩:=ko h
 exact ⟨i,hi,by rw [wNw hi];exact e⟩
def okA (p:wAA) (s:wAB) (o:List Int) (k:Nat):Prop:=gd s.Classes (gd o k).toNat=gd p.Classes k/\((o.take (k + 1)).count (gd o k):Int) <= p.Each
def vl (s:wAB) (o:List Int):Nat->Int
 | 0=>0
 | k + 1=>vl s o k + gd (gd s.Times (gd o k).toNat) k
noncomputable def tk (p:wAA) (s:wAB) (o:List Int):Option Int:=if ∀ k,k < o.length->okA p s o k then some (vl s o o.length) else none
theorem wKN {p:wAA} {s:wAB} (S:wFZ p s) {o:List Int} (hr:∀ i,i < o.length->0 <= gd o i/\gd o i < s.Classes.length):∀ k,k <= o.length->k <= p.Classes.length->0 <= vl s o k/\vl s o k <= 100000 * (k:Int)
 | 0,_,_=>by simp only [vl];omega
 | k + 1,h1,h2=>by
  have a:=wKN S hr k (by omega) (by omega)
  have r:=hr k (by omega)
  have b:=S.val (gd o k).toNat (by omega) k (by omega)
  rw [vl]
  omega
theorem arrN {n:Nat} (a:Arr Int n) {i j:Nat} (hi:i < n) (v:Int):(a.set i v).get j=if j=i then v else a.get j:=by
 unfold Arr.set Arr.get
 simp only [nS]
 by_cases e:j=i
 ·rw [if_pos e,e,List.getElem?_set_self (by rw [a.h];exact hi)]
  rfl
 ·rw [if_neg e,List.getElem?_set_ne (Ne.symm e)]
theorem wLF {p:wAA} {s:wAB} (S:wFZ p s) {o:List Int} (ho:o.length <= p.Classes.length) (hr:∀ i,i < o.length->0 <= gd o i/\gd o i < s.Classes.length):wBQ ⟨s,p⟩ o=some (match tk p s o with | some v=>(v,true) | none=>(0,false)):=by
 have hm:=S.m;have hn:=S.rules.n;have hE:=S.rules.each
 unfold wBQ
 rw [wDO (by omega)]
 rcases wIb (S:=Arr Int 8 × List Int) (B:=Int × Bool) (body:=fun (k31:Nat) ((a26,l27):Arr Int 8 × List Int) =>
  (idx o (↑k31:Int)).bind fun x56 =>
  (chk x56 8).bind fun _ =>
  (wAT (⟨s,p⟩:wAI) x56 (↑k31:Int)).bind fun x76 =>
  if x76=true then
   if p.Each < ((a26.set x56.toNat (w64 ((a26.get x56.toNat) + 1))).get x56.toNat) then
    esc (some (0,false))
   else
    (idx s.Times x56).bind fun x95 =>
    (idx x95 (↑k31:Int)).bind fun x108 =>
    (app 8 l27 [x108]).bind fun x120 =>
    some (.inl ((a26.set x56.toNat (w64 ((a26.get x56.toNat) + 1))),x120))
  else
   esc (some (0,false)))
  (fun k st=>(∀ j,j < k->okA p s o j)/\(∀ v:Nat,v < 8->st.1.get v=((o.take k).count (v:Int):Int))/\st.2=(nK k).map fun j=>gd (gd s.Times (gd o j).toNat) j)
  (fun b=>b=(0,false)/\¬ ∀ k,k < o.length->okA p s o k) o.length 0 (Arr.fill 8 0,[]) ⟨fun j h=>by omega,fun v hv=>by
   rcases (show v=0 \/ v=1 \/ v=2 \/ v=3 \/ v=4 \/ v=5 \/ v=6 \/ v=7 by omega) with rfl | rfl | rfl | rfl | rfl | rfl | rfl | rfl <;> rfl,rfl⟩ (by
  rintro k ⟨a,l⟩ _ hk ⟨i1,i2,i3⟩
  simp only at i2 i3 ⊢
  have hk:k < o.length:=by omega
  obtain ⟨r0,r1⟩:=hr k hk
  have hkp:k < p.Classes.length:=by omega
  have hg:(gd o k).toNat < s.Classes.length:=by omega
  have e1:idx s.Classes (gd o k)=some (gd s.Classes (gd o k).toNat):=by unfold idx;rw [if_pos r0,wCi hg]
  have e2:idx s.Times (gd o k)=some (gd s.Times (gd o k).toNat):=by unfold idx;rw [if_pos r0,wCi (by rw [S.t];exact hg)]
  have cl:(o.take k).count (gd o k) <= k:=nv kR (by rw [List.length_take];omega)
  have ga:a.get (gd o k).toNat=((o.take k).count (gd o k):Int):=by
   rw [i2 _ (by omega),nq r0]
  have tc:(o.take (k + 1)).count (gd o k)=(o.take k).count (gd o k) + 1:=by
   rw [wEw hk,nt,ke]
  rw [wAY hk,hH,wCu (by omega) (by omega),hH]
  unfold wAT
  rw [e1,hH,wAY (by omega),hH,hH]
  have w:w64 (a.get (gd o k).toNat + 1)=a.get (gd o k).toNat + 1:=wAa (by omega) (by omega)
  rw [w,arrN _ (by omega),if_pos rfl]
  by_cases c1:gd s.Classes (gd o k).toNat=gd p.Classes k
  ·rw [if_pos (decide_eq_true c1)]
   by_cases c2:p.Each < a.get (gd o k).toNat + 1
   ·rw [if_pos c2]
    refine .inr ⟨_,rfl,rfl,fun h=>?_⟩
    have:=(h k hk).2
    rw [tc] at this
    omega
   ·rw [if_neg c2,e2,hH,wAY (by rw [S.row _ (by omega)];omega),hH,wFs (by rw [i3];simp only [List.length_map,ky,nW,nU];omega),hH]
    refine .inl ⟨_,rfl,fun j hj=>?_,fun v hv=>?_,?_⟩
    ·by_cases e:j=k
     ·rw [e];exact ⟨c1,by rw [tc];omega⟩
     ·exact i1 j (by omega)
    ·simp only
     rw [arrN _ (by omega),wEw hk,nt]
     by_cases e:v=(gd o k).toNat
     ·rw [if_pos e,ga,e,nq r0,ke]
      omega
     ·rw [if_neg e,i2 v hv,List.count_eq_zero_of_not_mem (l:=[gd o k]) (fun h=>by
       rw [nN] at h
       omega)]
      omega
    ·simp only
     rw [i3,kS,List.map_append]
     rfl
  ·rw [if_neg (by simpa using c1)]
   exact .inr ⟨_,rfl,rfl,fun h=>c1 (h k hk).1⟩) with ⟨⟨a,l⟩,e,i1,_,i3⟩ | ⟨b,e,rfl,hb⟩
 ·rw [nl] at i1 i3
  erw [e]
  have et:tk p s o=some (vl s o o.length):=by unfold tk;rw [if_pos i1]
  rw [et]
  simp only at i3
  show ((wCG l).bind fun x160=>some (x160,true))=_
  rw [i3]
  unfold wCG
  rw [wDj (S:=Int) (n:=((nK o.length).map fun j=>gd (gd s.Times (gd o j).toNat) j).length) (fun k=>vl s o k) (s0:=0) rfl (by simp;omega) fun k hk=>?_]
  ·simp only [hH,List.length_map,ky]
  ·have hk':k < o.length:=by simpa using hk
   have bd:=wKN S hr k (by omega) (by omega)
   have bd2:=wKN S hr (k + 1) (by omega) (by omega)
   rw [vl] at bd2
   have eg:gd ((nK o.length).map fun j=>gd (gd s.Times (gd o j).toNat) j) k=gd (gd s.Times (gd o k).toNat) k:=by
    rw [wQl _ (by simpa using hk')]
    have:gd (nK o.length) k=k:=by
     unfold gd
     rw [nS,List.getElem?_range hk']
     rfl
    rw [this]
   rw [wAY hk,hH,eg,wAa (by omega) (by omega)]
   rfl
 ·erw [e]
  have et:tk p s o=none:=by unfold tk;rw [if_neg hb]
  rw [et]
  rfl
noncomputable def okf (p:wAA) (s:wAB) (w:Int) (x pos:Nat):Bool:=decide ((x:Int) ≠ w/\gd s.Classes x=gd p.Classes pos)
theorem wNx {p:wAA} {s:wAB} (S:wFZ p s) (w:Int):∀ (k f:Nat) (o:List Int) (st:List Int × Int),k < f->o.length + k=p.Classes.length->(∀ i,i < o.length->0 <= gd o i/\gd o i < s.Classes.length)->wAq f o ⟨s,p⟩ st.1 st.2 w ()=some ((wCj s.Classes.length (okf p s w) k o).foldl (wKM (tk p s)) st):=by
 have hm:=S.m;have hn:=S.rules.n
 intro k
 induction k with
 | zero =>
  intro f o st hf hl hr
  obtain ⟨f,rfl⟩:∃ g,f=g + 1:=⟨f - 1,by omega⟩
  have oc:wAU o=some o:=by
   unfold wAU
   rw [wFs (by simp only [nU];omega)]
   rfl
  have one:o ≠ []:=fun h=>by rw [h] at hl;simp only [nU] at hl;omega
  show wAc (wAq f) o ⟨s,p⟩ st.1 st.2 w ()=_
  unfold wAc
  rw [if_pos (show (o.length:Int)=(p.Classes.length:Int) by omega),wLF S (by omega) hr,hH]
  show _=some (wKM (tk p s) st o)
  unfold wKM
  cases tk p s o with
  | none=>rfl
  | some v =>
   simp only [if_true]
   by_cases c:st.1=[]
   ·rw [if_pos c,if_pos (.inl c),oc,hH,wHk one,hH]
   ·rw [if_neg c]
    by_cases c2:v < st.2
    ·rw [if_pos c2,if_pos (.inr c2),oc,hH,wHk one,hH]
    ·rw [if_neg c2,if_neg (fun h=>h.elim c c2)]
 | succ k ih =>
  intro f o st hf hl hr
  obtain ⟨f,rfl⟩:∃ g,f=g + 1:=⟨f - 1,by omega⟩
  have oc:wAU o=some o:=by
   unfold wAU
   rw [wFs (by simp only [nU];omega)]
   rfl
  show wAc (wAq f) o ⟨s,p⟩ st.1 st.2 w ()=_
  unfold wAc
  rw [if_neg (show ¬ (o.length:Int)=(p.Classes.length:Int) by omega)]
  rw [wDj (S:=List Int × Int) (n:=s.Classes.length) (fun q=>((nK q).flatMap fun x=>if okf p s w x o.length=true then wCj s.Classes.length (okf p s w) k (o ++ [(x:Int)]) else []).foldl (wKM (tk p s)) st) (s0:=(st.1,st.2)) rfl (by omega) fun q hq=>?_]
  ·rfl
  ·generalize hQ:((nK q).flatMap fun x=>if okf p s w x o.length=true then wCj s.Classes.length (okf p s w) k (o ++ [(x:Int)]) else []).foldl (wKM (tk p s)) st=S2
   have step:((nK (q + 1)).flatMap fun x=>if okf p s w x o.length=true then wCj s.Classes.length (okf p s w) k (o ++ [(x:Int)]) else []).foldl (wKM (tk p s)) st=(if okf p s w q o.length=true then wCj s.Classes.length (okf p s w) k (o ++ [(q:Int)]) else []).foldl (wKM (tk p s)) S2:=by
    rw [kS,kq,kG,hQ,List.flatMap_singleton]
   rw [step]
   clear hQ step
   obtain ⟨b0,v0⟩:=S2
   simp only
   by_cases c:(q:Int)=w
   ·rw [if_pos c,if_neg (by unfold okf;simp [c])]
    rfl
   ·rw [if_neg c]
    unfold wAT
    rw [wAY hq,hH,wAY (show o.length < p.Classes.length by omega),hH,hH]
    by_cases c2:gd s.Classes q=gd p.Classes o.length
    ·rw [if_pos (decide_eq_true c2),oc,hH,wFs (by simp only [nW,nU];omega),hH,if_pos (by unfold okf;simp [c,c2])]
     rw [ih f (o ++ [(q:Int)]) (b0,v0) (by omega) (by rw [nO,nV];omega) (fun i hi=>by
      rw [nO,nV] at hi
      by_cases e:i < o.length
      ·rw [wIc e];exact hr i e
      ·rw [show i=o.length by omega,wFS];omega)]
     rfl
    ·rw [if_neg (by simpa using c2),if_neg (by unfold okf;simp [c2])]
     rfl
end Go.Proofs.YtabadkdjndnliaaGreat
namespace Go.Proofs.YtabadkdjndnliaaGreat
open Go.KL
open Classical
structure Adm (p:wAA) (s:wAB) (w:Int) (o:List Int):Prop where
 len:o.length=p.Classes.length
 rg:∀ i,i < p.Classes.length->(0 <= gd o i/\gd o i < s.Classes.length)/\gd o i ≠ w
 ok:∀ i,i < p.Classes.length->okA p s o i
structure wPc (p:wAA) (s:wAB) (w:Int) (st:List Int × Int):Prop where
 none_:st.1=[]->st.2=0/\∀ o,¬ Adm p s w o
 some_:st.1 ≠ []->Adm p s w st.1/\st.2=vl s st.1 p.Classes.length/\∀ o,Adm p s w o->st.2 <= vl s o p.Classes.length
theorem tk_some {p:wAA} {s:wAB} {w:Int} {o:List Int} (h:Adm p s w o):tk p s o=some (vl s o p.Classes.length):=by
 unfold tk
 rw [if_pos (by rw [h.len];exact h.ok),h.len]
theorem wSL {p:wAA} {s:wAB} {o:List Int} {v:Int} (h:tk p s o=some v):∀ k,k < o.length->okA p s o k:=by
 unfold tk at h
 split at h
 ·assumption
 ·cases h
theorem wNy {p:wAA} {s:wAB} {w:Int} {o:List Int} (h:Adm p s w o):o ∈ wCj s.Classes.length (okf p s w) p.Classes.length []:=wHJ.2 ⟨h.len,fun i hi=>(h.rg i hi).1,fun i hi=>by
 unfold okf
 have:=h.rg i hi
 have:=h.ok i hi
 unfold okA at this
 rw [decide_eq_true]
 exact ⟨by omega,this.1⟩⟩
theorem wKO {p:wAA} {s:wAB} (S:wFZ p s) (w:Int):∃ st,wAd ⟨s,p⟩ w=some st/\wPc p s w st:=by
 have hn:=S.rules.n
 unfold wAd
 have:=wNx S w p.Classes.length 1000 [] ([],0) (by omega) (by simp) (fun i hi=>by simp at hi)
 simp only at this
 rw [this,hH]
 refine ⟨_,rfl,?_⟩
 have L:=wOs (tk:=tk p s) (L:=wCj s.Classes.length (okf p s w) p.Classes.length []) (fun o ho e=>by
  have:=(wHJ.1 ho).len
  rw [e,nU] at this
  omega)
 refine ⟨fun e=>⟨(L.none_ e).1,fun o ho=>?_⟩,fun e=>?_⟩
 ·have:=(L.none_ e).2 o (wNy ho)
  rw [tk_some ho] at this
  cases this
 ·obtain ⟨a,b,c⟩:=L.some_ e
  simp only at a b c ⊢
  have f:=wHJ.1 a
  have A:Adm p s w ((wCj s.Classes.length (okf p s w) p.Classes.length []).foldl (wKM (tk p s)) ([],0)).1:=by
   refine ⟨f.len,fun i hi=>⟨f.rg i hi,fun q=>?_⟩,?_⟩
   ·have:=of_decide_eq_true (f.ok i hi)
    rw [nq (f.rg i hi).1] at this
    exact this.1 q
   ·have h:=wSL b
    rw [f.len] at h
    exact h
  refine ⟨A,?_,fun o ho=>c o (wNy ho) _ (tk_some ho)⟩
  rw [tk_some A] at b
  exact (nI b).symm
theorem wQo {p:wAA} {s:wAB} {w:Int} {o:List Int} (h:Adm p s w o):Adm p s (-1) o:=⟨h.len,fun i hi=>⟨(h.rg i hi).1,by have:=h.rg i hi;omega⟩,h.ok⟩
theorem wSM {p:wAA} {s:wAB} (S:wFZ p s) {w:Int} {o:List Int} (h:Adm p s w o):0 <= vl s o p.Classes.length/\vl s o p.Classes.length <= 400000:=by
 have:=S.rules.n
 have:=wKN S (o:=o) (fun i hi=>(h.rg i (by rw [<- h.len];exact hi)).1) p.Classes.length (by rw [h.len];exact nE _) (nE _)
 omega
theorem wPd {p:wAA} {s:wAB} (S:wFZ p s) {w:Int} {st:List Int × Int} (h:wPc p s w st):0 <= st.2/\st.2 <= 400000:=by
 by_cases c:st.1=[]
 ·rw [(h.none_ c).1];omega
 ·have:=h.some_ c
  rw [this.2.1]
  exact wSM S this.1
end Go.Proofs.YtabadkdjndnliaaGreat
namespace Go.Proofs.YtabadkdjndnliaaGreat
open Go.KL
theorem wEe (x a c:Int):wAG x a c=some (!inB x a c):=by
 unfold wAG inB
 by_cases h:x < a
 ·rw [if_pos h,decide_eq_false (by omega)];rfl
 ·rw [if_neg h,<- decide_not]
  congr 1
  exact decide_eq_decide.2 (by omega)
def wMG (l:List Int):Bool:=l.all fun n=>inB n 0 3
def wSN (p:wAA):Bool:=inB p.Each 1 4 && (inB p.Laps 1 5 && (inB p.Spare 0 600 && (inB p.Loop 0 600 && inB p.Unused 0 6000)))
def wHb (p:wAA):Int:=if inB p.Classes.length 1 4=true then (if wMG p.Classes=true then (if wSN p=true then 0 else 3) else 3) else 2
def rfR (p:wAA):wAD:=⟨p.Classes,p.Each,p.Laps,p.Spare,p.Loop,p.Unused⟩
def rfS (s:wAB):wAC:=⟨s.Classes,s.Times⟩
theorem wHx {l:List Int} (hl:l.length <= 1000):wCA l=some (wMG l):=by
 unfold wCA
 rw [wFj (f:=wBa) (p:=fun n=>inB n 0 3) (fun a=>by unfold wBa;rw [wId];rfl) (by omega),hH]
 rfl
theorem wLq {p:wAA} (hl:p.Classes.length <= 1000):wBv p=some (wHb p):=by
 unfold wBv wHb
 rw [wId,hH]
 by_cases h1:inB p.Classes.length 1 4=true
 case neg=>rw [if_neg h1,if_neg h1]
 rw [if_pos h1,if_pos h1,wHx hl,hH]
 by_cases h2:wMG p.Classes=true
 case neg=>rw [if_neg h2,if_neg h2]
 rw [if_pos h2,if_pos h2]
 unfold wCr
 rw [hH,wQn (p:=fun a=>match a.of p with | some x=>inB x a.lo a.hi | none=>true) (fun a ha=>by
  unfold wBM
  simp only [nD,List.not_mem_nil,or_false] at ha
  rcases ha with rfl | rfl | rfl | rfl | rfl <;> simp [wBS,wBT,wBU,wBV,wBW,wId]) (by simp)]
 simp only [hH,kX,List.all_nil,Bool.and_true,wBS,wBT,wBU,wBV,wBW]
 have e:(inB p.Each 1 4 && (inB p.Laps 1 5 && (inB p.Spare 0 600 && (inB p.Loop 0 600 && inB p.Unused 0 6000))))=wSN p:=rfl
 rw [e]
 by_cases h3:wSN p=true
 ·rw [if_pos h3,if_pos h3]
 ·rw [if_neg h3,if_neg h3]
theorem wPe {l:List Int} (hl:l.length <= 1000):wBd l=some (!wMG l):=by
 unfold wBd
 rw [wDt (n:=l.length) (fun k=>inB (gd l k) 0 3) true hl fun k hk=>?_,<- wDZ (fun n=>inB n 0 3)]
 ·unfold wMG
  cases l.all (fun n=>inB n 0 3) <;> rfl
 ·rw [wAY hk,hH,wEe,hH]
  cases inB (gd l k) 0 3 <;> rfl
theorem wNz {p:wAA} (hl:p.Classes.length <= 1000):wBD (rfR p)=some (wHb p):=by
 unfold wBD wHb wSN rfR
 simp only [wEe,hH,wPe hl]
 cases inB p.Classes.length 1 4 <;> cases wMG p.Classes <;> cases inB p.Each 1 4 <;> cases inB p.Laps 1 5 <;> cases inB p.Spare 0 600 <;> cases inB p.Loop 0 600 <;> cases inB p.Unused 0 6000 <;> rfl
theorem wOv {p:wAA} (h:wHb p=0):wPb p:=by
 unfold wHb at h
 split at h
 ·rename_i h1
  split at h
  ·rename_i h2
   split at h
   ·rename_i h3
    unfold wSN at h3
    unfold wMG at h2
    unfold inB at h1 h2 h3
    simp only [nA,decide_eq_true_eq,nM] at h1 h2 h3
    exact ⟨by omega,h2,h3.1,h3.2.1,h3.2.2.1,h3.2.2.2.1,h3.2.2.2.2⟩
   ·cases h
  ·cases h
 ·cases h
def wOA (p:wAA) (s:wAB):Bool:=s.Times.all fun l=>decide ((l.length:Int)=(p.Classes.length:Int))
def wLr (s:wAB):Bool:=s.Times.all fun l=>l.all fun n=>inB n 0 100000
def wEx (p:wAA) (s:wAB):Int :=
 if wHb p=0 then (if inB s.Classes.length 1 8=true then (if s.Times.length=s.Classes.length then (if wOA p s=true then (if wMG s.Classes=true then (if wLr s=true then 0 else 3) else 3) else 2) else 2) else 2) else wHb p
structure Wd (p:wAA) (s:wAB):Prop where
 a:p.Classes.length <= 6
 b:s.Classes.length <= 10
 c:s.Times.length <= 10
 d:∀ l ∈ s.Times,l.length <= 6
theorem wJM {l:List (List Int)} {f:List Int->Option Bool} {q:List Int->Bool} (hf:∀ a ∈ l,f a=some (q a)) (hn:l.length <= 9223372036854775807):wBO l f=some (l.all q):=by
 unfold wBO wAk wAx wAz
 have:=wFi (R:=Int) (l:=l) (f:=fun x=>(f x).bind fun x5=>some (!x5)) (p:=fun a=>!q a) (fun a ha=>by rw [hf a ha];rfl) hn id
 simp only [id] at this
 rw [this]
 simp only [hH,wFR]
 congr 1
 clear this hn hf
 induction l with
 | nil=>rfl
 | cons a l ih=>rw [kW,kX,<- ih];cases q a <;> simp
theorem wDH {p:wAA} {s:wAB} (W:Wd p s):wAl p s=some (wEx p s):=by
 have wa:=W.a;have wb:=W.b;have wc:=W.c
 unfold wAl wEx
 rw [wLq (by omega),hH]
 by_cases h0:wHb p=0
 case neg=>rw [if_neg h0,if_neg h0]
 rw [if_pos h0,if_pos h0,wId,hH]
 by_cases h1:inB s.Classes.length 1 8=true
 case neg=>rw [if_neg h1,if_neg h1]
 rw [if_pos h1,if_pos h1]
 by_cases h2:s.Times.length=s.Classes.length
 case neg=>rw [if_neg (by omega),if_neg h2]
 rw [if_pos (by omega),if_pos h2,wJM (f:=fun x=>wBN x p) (q:=fun l=>decide ((l.length:Int)=(p.Classes.length:Int))) (fun a _=>rfl) (by omega),hH]
 have e:(s.Times.all fun l=>decide ((l.length:Int)=(p.Classes.length:Int)))=wOA p s:=rfl
 rw [e]
 by_cases h3:wOA p s=true
 case neg=>rw [if_neg h3,if_neg h3]
 rw [if_pos h3,if_pos h3,wHx (by omega),hH]
 by_cases h4:wMG s.Classes=true
 case neg=>rw [if_neg h4,if_neg h4]
 rw [if_pos h4,if_pos h4,wJM (q:=fun l=>l.all fun n=>inB n 0 100000) (fun a ha=>by
  have:=W.d a ha
  unfold wBP
  rw [wFj (f:=wAj) (p:=fun n=>inB n 0 100000) (fun a=>by unfold wAj;rw [wId];rfl) (by omega),hH]) (by omega),hH]
 have e:(s.Times.all fun l=>l.all fun n=>inB n 0 100000)=wLr s:=rfl
 rw [e]
 by_cases h5:wLr s=true
 ·rw [if_pos h5,if_pos h5]
 ·rw [if_neg h5,if_neg h5]
theorem wEQ {p:wAA} {s:wAB} (W:Wd p s):wAL (rfR p) (rfS s)=some (wEx p s):=by
  have wa:=W.a;have wb:=W.b;have wc:=W.c
  have hp:(rfR p).Classes=p.Classes:=rfl
  have hs:(rfS s).Classes=s.Classes:=rfl
  have ht:(rfS s).Times=s.Times:=rfl
  unfold wAL wEx
  rw [wNz (by omega),hH,hp,hs,ht]
  by_cases h0:wHb p=0
  case neg=>rw [if_neg h0,if_neg h0]
  rw [if_pos h0,if_pos h0,wEe,hH]
  by_cases h1:inB s.Classes.length 1 8=true
  case neg =>
    have:inB s.Classes.length 1 8=false:=by simpa using h1
    rw [this];rfl
  rw [h1,if_neg (by decide),if_pos rfl]
  by_cases h2:s.Times.length=s.Classes.length
  case neg=>rw [if_neg (by omega),if_neg h2]
  rw [if_pos (by omega),if_pos h2]
  have row:∀ i,i < s.Times.length->iter (fun x120 =>
                    (idx s.Times (i:Int)).bind fun x134 =>
                    if x120 < (↑x134.length:Int) then
                      (idx x134 x120).bind fun x163 =>
                      (wAG x163 0 100000).bind fun x170 =>
                      if x170=true then
                        esc (esc (some (3:Int)))
                      else
                        some (.inl (w64 (x120 + 1)))
                    else
                      esc (some (.inl (w64 ((i:Int) + 1))))) big 0=some (if ((gd s.Times i).all fun n=>inB n 0 100000)=true then .inl ((i:Int) + 1) else .inr 3):=by
    intro i hi
    have:=W.d _ (wCh hi)
    rw [wIe (n:=(gd s.Times i).length) (fun k=>inB (gd (gd s.Times i) k) 0 100000) (.inr 3) (z:=.inl ((i:Int) + 1)) (by omega) (fun k hk=>?g1) ?g2,<- wDZ (fun n=>inB n 0 100000)]
    case g1 =>
      rw [wAY hi,hH,if_pos (by omega),wAY hk,hH,wEe,hH,wAa (by omega) (by omega)]
      cases inB (gd (gd s.Times i) k) 0 100000 <;> rfl
    case g2 =>
      rw [wAY hi,hH,if_neg (by omega),wAa (by omega) (by omega)]
      rfl
  rw [wIe (n:=s.Times.length) (fun k=>decide (((gd s.Times k).length:Int)=(p.Classes.length:Int))) (2:Int) (z:=if wMG s.Classes=true then (if wLr s=true then 0 else 3) else 3) (by omega) (fun k hk=>?g1) ?g2,show wEC (fun k=>decide (((gd s.Times k).length:Int)=(p.Classes.length:Int))) s.Times.length 0=wOA p s from (wDZ (fun l:List Int=>decide ((l.length:Int)=(p.Classes.length:Int))) s.Times).symm]
  case g1 =>
    rw [if_pos (by omega),wAY hk,hH,wAa (by omega) (by omega)]
    by_cases c:((gd s.Times k).length:Int)=(p.Classes.length:Int)
    · rw [if_pos c,if_pos (decide_eq_true c)]
    · rw [if_neg c,if_neg (by simpa using c)];rfl
  case g2 =>
    rw [if_neg (by omega),wPe (by omega),hH]
    cases h4:wMG s.Classes with
    | false=>rfl
    | true =>
      rw [if_neg (by decide),wIe (n:=s.Times.length) (fun k=>(gd s.Times k).all fun n=>inB n 0 100000) (3:Int) (z:=0) (by omega) (fun k hk=>?k1) ?k2,show wEC (fun k=>(gd s.Times k).all fun n=>inB n 0 100000) s.Times.length 0=wLr s from (wDZ (fun l:List Int=>l.all fun n=>inB n 0 100000) s.Times).symm]
      · rfl
      case k1=>rw [if_pos (by omega),row k hk]
      case k2=>rw [if_neg (by omega)];rfl
theorem wFW {p:wAA} {s:wAB} (h:wEx p s=0):wFZ p s:=by
 unfold wEx at h
 split at h
 case isFalse h0=>exact absurd h h0
 case isTrue h0 =>
  have R:=wOv h0
  split at h
  ·rename_i h1
   split at h
   ·rename_i h2
    split at h
    ·rename_i h3
     split at h
     ·rename_i h4
      split at h
      ·rename_i h5
       unfold inB at h1
       unfold wMG inB at h4
       unfold wOA at h3
       unfold wLr inB at h5
       simp only [decide_eq_true_eq,nM] at h1 h3 h4 h5
       refine ⟨R,by omega,h2,h4,fun i hi=>?_,fun i hi j hj=>?_⟩
       ·have:=h3 _ (wCh (show i < s.Times.length by omega));omega
       ·have l:=h3 _ (wCh (show i < s.Times.length by omega))
        exact h5 _ (wCh (show i < s.Times.length by omega)) _ (wCh (by omega))
      ·cases h
     ·cases h
    ·cases h
   ·cases h
  ·cases h
end Go.Proofs.YtabadkdjndnliaaGreat
namespace Go.Proofs.YtabadkdjndnliaaGreat
open Go.KL
open Classical
theorem wFX {l:List Int} {E:Int} (hE:0 <= E) (h:∀ k,k < l.length->((l.take (k + 1)).count (gd l k):Int) <= E):∀ j,j <= l.length->∀ v,((l.take j).count v:Int) <= E
 | 0,_,v=>by simpa using hE
 | j + 1,hj,v=>by
  have hlt:j < l.length:=by omega
  by_cases e:v=gd l j
  ·rw [e];exact h j hlt
  ·have:=wFX hE h j (by omega) v
   rw [wEw hlt,nt,kP (Ne.symm e),kE,kQ]
   exact this
theorem wJN {l:List Int} {E:Int} (hE:0 <= E):(∀ k,k < l.length->((l.take (k + 1)).count (gd l k):Int) <= E) ↔ ∀ k,k < l.length->(l.count (gd l k):Int) <= E:=by
 constructor
 ·intro h k _
  have:=wFX hE h l.length (nE _) (gd l k)
  rwa [kL] at this
 ·intro h k hk
  have:=h k hk
  have s:=(kZ (k + 1) l).count_le (gd l k)
  omega
def okT (p:wAA) (s:wAB) (o:List Int) (k:Nat):Prop:=(o.count (gd o k):Int) <= p.Each/\gd s.Classes (gd o k).toNat=gd p.Classes k
theorem wQp {p:wAA} {s:wAB} (hE:0 <= p.Each) {o:List Int}:(∀ k,k < o.length->okA p s o k) ↔ ∀ k,k < o.length->okT p s o k:=by
 unfold okA okT
 have c:=wJN (l:=o) hE
 constructor
 ·intro h k hk
  exact ⟨c.1 (fun k hk=>(h k hk).2) k hk,(h k hk).1⟩
 ·intro h k hk
  exact ⟨(h k hk).2,c.2 (fun k hk=>(h k hk).1) k hk⟩
theorem wOw {o:List Int} (ho:o.length <= 1000) {k:Nat} (hk:k < o.length):wCy 0 (↑o.length:Int) (fun k42 x41 =>
      (idx o (↑k42:Int)).bind fun x68 =>
      (idx o (↑k:Int)).bind fun x77 =>
      if x68=x77 then
        some (w64 (x41 + 1))
      else
        some x41) 0=some (o.count (gd o k):Int):=by
  rw [wDj (S:=Int) (n:=o.length) (fun j=>((o.take j).count (gd o k):Int)) (s0:=0) (by simp) (by omega) fun j hj=>?_,kL]
  have:=(kZ j o).count_le (gd o k)
  have:=kR (a:=gd o k) (l:=o)
  rw [wAY hj,hH,wAY hk,hH,wEw hj,nt]
  by_cases c:gd o j=gd o k
  · rw [if_pos c,c,kk,kE,wAa (by omega) (by omega)]
    congr 1
  · rw [if_neg c,kP c,kE,kQ]
theorem wJO {p:wAA} {s:wAB} (S:wFZ p s) {o:List Int} (ho:o.length=p.Classes.length) (hr:∀ i,i < o.length->0 <= gd o i/\gd o i < s.Classes.length):wAv (rfR p) (rfS s) o=some (match tk p s o with | some v=>v | none=>-1):=by
 have hn:=S.rules.n
 have hp:(rfR p).Classes=p.Classes:=rfl
 have he:(rfR p).Each=p.Each:=rfl
 have hs:(rfS s).Classes=s.Classes:=rfl
 have ht:(rfS s).Times=s.Times:=rfl
 have iff:=wQp (p:=p) (s:=s) (o:=o) (by have:=S.rules.each;omega)
 have bd:=wKN S hr
 unfold wAv
 rw [hp,he,hs,ht]
 have step:∀ k (x:Int),k < o.length->x=vl s o k->((wCy 0 (↑o.length:Int) (fun k42 x41 =>
   (idx o (↑k42:Int)).bind fun x68 =>
   (idx o (↑k:Int)).bind fun x77 =>
   if x68=x77 then
    some (w64 (x41 + 1))
   else
    some x41) 0).bind fun y47 =>
  if p.Each < y47 then
   esc (some (-1:Int))
  else
   (idx o (↑k:Int)).bind fun x112 =>
   (idx s.Classes x112).bind fun x121 =>
   (idx p.Classes (↑k:Int)).bind fun x130 =>
   if x121=x130 then
    (idx s.Times x112).bind fun x147 =>
    (idx x147 (↑k:Int)).bind fun x161 =>
    some (.inl (w64 (x + x161)))
   else
    esc (some (-1)))=some (if okT p s o k then .inl (vl s o (k + 1)) else .inr (-1:Int)):=by
  intro k x hk hx
  subst hx
  have r:=hr k hk
  obtain ⟨a,ha⟩:∃ a:Nat,gd o k=a:=⟨(gd o k).toNat,by omega⟩
  have b1:=bd k (by omega) (by omega)
  have hv:=S.val a (by omega) k (by omega)
  have rl:=S.row a (by omega)
  have hT:=S.t
  rw [wOw (by omega) hk,hH]
  unfold okT
  by_cases c1:p.Each < (o.count (gd o k):Int)
  ·rw [if_pos c1,if_neg fun q=>by omega];rfl
  ·rw [if_neg c1,wAY hk,hH,ha,wAY (by omega),hH,wAY (by omega),hH,ni]
   rw [ha] at c1
   by_cases c2:gd s.Classes a=gd p.Classes k
   ·rw [if_pos c2,if_pos ⟨by omega,c2⟩,wAY (by omega),hH,wAY (by omega),hH,wAa (by omega) (by omega),vl,ha,ni]
   ·rw [if_neg c2,if_neg fun q=>c2 q.2];rfl
 unfold tk
 by_cases c:∀ k,k < o.length->okA p s o k
 ·rw [if_pos c]
  have c':=iff.1 c
  rw [wGL (S:=Int) (B:=Int) (n:=o.length) (fun k=>vl s o k) (s0:=0) rfl (by omega) fun k hk=>by rw [step k _ hk rfl,if_pos (c' k hk)]]
  rfl
 ·rw [if_neg c]
  have c':¬ ∀ k,k < o.length->okT p s o k:=fun q=>c (iff.2 q)
  rcases wIb (S:=Int) (B:=Int) (body:=fun k15 x14 =>
  (wCy 0 (↑o.length:Int) (fun k42 x41 =>
   (idx o (↑k42:Int)).bind fun x68 =>
   (idx o (↑k15:Int)).bind fun x77 =>
   if x68=x77 then
    some (w64 (x41 + 1))
   else
    some x41) 0).bind fun y47 =>
  if p.Each < y47 then
   esc (some (-1:Int))
  else
   (idx o (↑k15:Int)).bind fun x112 =>
   (idx s.Classes x112).bind fun x121 =>
   (idx p.Classes (↑k15:Int)).bind fun x130 =>
   if x121=x130 then
    (idx s.Times x112).bind fun x147 =>
    (idx x147 (↑k15:Int)).bind fun x161 =>
    some (.inl (w64 (x14 + x161)))
   else
    esc (some (-1))) (fun k x=>x=vl s o k/\∀ j,j < k->okT p s o j) (fun b=>b=-1) o.length 0 0 ⟨rfl,fun j hj=>by omega⟩ (fun k x _ hk ⟨hx,hj⟩=>by
   rw [step k x (by omega) hx]
   by_cases q:okT p s o k
   ·rw [if_pos q]
    refine .inl ⟨_,rfl,rfl,fun j h=>?_⟩
    by_cases e:j=k
    ·rw [e];exact q
    ·exact hj j (by omega)
   ·rw [if_neg q]
    exact .inr ⟨_,rfl,rfl⟩) with ⟨x,e,_,h⟩ | ⟨b,e,rfl⟩
  ·rw [nl] at h
   exact absurd h c'
  ·rw [wDO (by omega),e]
   rfl
theorem wLs {p:wAA} {s:wAB} (W:Wd p s) {o:List Int} (ho:o.length <= 12):∃ r,wCe p s o=some r/\wBj (rfR p) (rfS s) o=some r:=by
 have wb:=W.b
 have hp:(rfR p).Classes=p.Classes:=rfl
 have hs:(rfS s).Classes=s.Classes:=rfl
 unfold wCe wBj
 rw [wDH W,hH,wEQ W,hH,hp,hs]
 by_cases h0:wEx p s=0
 case neg=>exact ⟨_,by rw [if_neg h0],by rw [if_neg h0]⟩
 have S:=wFW h0
 have hm:=S.m
 rw [if_pos h0,if_pos h0]
 by_cases h1:(o.length:Int)=(p.Classes.length:Int)
 case neg=>exact ⟨_,by rw [if_neg h1],by rw [if_neg h1]⟩
 rw [if_pos h1,if_pos h1,wFj (f:=fun x=>wBo x s) (p:=fun n=>inB n 0 ((s.Classes.length:Int) - 1)) (fun a=>by unfold wBo;rw [wAa (by omega) (by omega),wId];rfl) (by omega),hH,
  wDt (n:=o.length) (fun k=>inB (gd o k) 0 ((s.Classes.length:Int) - 1)) ((0:Int),(1:Int)) (by omega) fun k hk=>?g1,<- wDZ (fun n=>inB n 0 ((s.Classes.length:Int) - 1))]
 case g1 =>
  rw [wAY hk,hH,wAa (by omega) (by omega),wEe,hH]
  cases inB (gd o k) 0 ((s.Classes.length:Int) - 1) <;> rfl
 by_cases h2:(o.all fun n=>inB n 0 ((s.Classes.length:Int) - 1))=true
 case neg=>exact ⟨_,by rw [if_neg h2],by rw [if_neg h2];rfl⟩
 rw [if_pos h2,if_pos h2]
 have hr:∀ i,i < o.length->0 <= gd o i/\gd o i < s.Classes.length:=fun i hi=>by
  have:=nM.1 h2 _ (wCh hi)
  unfold inB at this
  have:=of_decide_eq_true this
  omega
 simp only [wDm]
 rw [wLF S (by omega) hr,wJO S (by omega) hr,hH,hH]
 cases ht:tk p s o with
 | none=>exact ⟨(0,8),rfl,rfl⟩
 | some v =>
  have hv:0 <= v:=by
   unfold tk at ht
   split at ht
   ·injection ht with ht
    have:=(wKN S hr o.length (nE _) (by omega)).1
    omega
   ·cases ht
  refine ⟨(v,0),rfl,?_⟩
  simp only
  rw [if_neg (by omega)]
end Go.Proofs.YtabadkdjndnliaaGreat
namespace Go.KL
theorem wOB {S B:Type} {body:S->Option (S ⊕ B)} {X:Option B} {F:Nat} {s:S} (h:body s=esc X):iter body (F + 1) s=X:=by
 rw [iter,h]
 cases X <;> rfl
theorem wLG {S B:Type} {body:S->Option (S ⊕ B)} (st:Nat->S) (m:Nat) {s0:S} (h0:st 0=s0) (hm:m < 1000000) (step:∀ i,i < m->body (st i)=some (.inl (st (i + 1)))) {X:Option B} (he:body (st m)=esc X):iter body big s0=X:=by
 subst h0
 have:=wNu (big - m - 1 + 1) m st step
 rw [show m + (big - m - 1 + 1)=big by unfold big;omega] at this
 rw [this]
 exact wOB he
def dig (m:Nat):Nat->Nat->List Int
 | 0,_=>[]
 | j + 1,c=>((c / m ^ j % m:Nat):Int) :: dig m j c
theorem wOC (m:Nat):∀ j c,(dig m j c).length=j
 | 0,_=>rfl
 | j + 1,c=>by rw [dig,nW,wOC m j c]
theorem wPf {m:Nat} (hm:0 < m):∀ {j c:Nat} {x:Int},x ∈ dig m j c->0 <= x/\x < m
 | 0,_,_,h=>by cases h
 | j + 1,c,x,h=>by
  rcases nD.1 h with rfl | h
  ·have:=Nat.mod_lt (c / m ^ j) hm
   omega
  ·exact wPf hm h
theorem wLH {m:Nat} (hm:0 < m) {s:Nat} (hs:s < m) (c:Nat):∀ j,dig m (j + 1) (m * c + s)=dig m j c ++ [(s:Int)]
 | 0=>by
  simp only [dig,Nat.pow_zero,Nat.div_one,nP]
  rw [Nat.mul_add_mod,Nat.mod_eq_of_lt hs]
 | j + 1=>by
  rw [dig,wLH hm hs c j,dig]
  have:(m * c + s) / m ^ (j + 1)=c / m ^ j:=by
   rw [Nat.pow_succ',<- ki,Nat.mul_add_div hm,Nat.div_eq_of_lt hs,kQ]
  rw [this]
  rfl
abbrev alw:Nat->Nat->Bool:=fun _ _=>true
theorem wHy (m:Nat):∀ k o,wCj m alw (k + 1) o=(wCj m alw k o).flatMap fun l=>(nK m).map fun s:Nat=>l ++ [(s:Int)]
 | 0,o=>by
  simp only [wCj,if_true,kH,List.flatMap_nil,nY]
  rw [<- List.flatMap_singleton' ((nK m).map _),List.flatMap_map]
 | k + 1,o=>by
  rw [wCj]
  simp only [if_true]
  have:(fun s:Nat=>wCj m alw (k + 1) (o ++ [(s:Int)]))=fun s:Nat=>(wCj m alw k (o ++ [(s:Int)])).flatMap fun l=>(nK m).map fun s:Nat=>l ++ [(s:Int)]:=funext fun s=>wHy m k _
  rw [this,<- List.flatMap_assoc]
  conv=>rhs;rw [wCj]
  simp only [if_true]
theorem wJP (m:Nat):∀ q,nK (q * m)=(nK q).flatMap fun c=>(nK m).map fun s=>m * c + s
 | 0=>by simp
 | q + 1=>by
  rw [Nat.succ_mul,List.range_add,wJP m q,kS,kq]
  simp only [kH,List.flatMap_nil,nY]
  rw [Nat.mul_comm q m]
theorem wSO {m:Nat} (hm:0 < m):∀ k,(nK (m ^ k)).map (dig m k)=wCj m alw k []
 | 0=>rfl
 | k + 1=>by
  rw [wHy,<- wSO hm k,ku,wJP,List.map_flatMap,List.flatMap_map]
  congr 1
  funext c
  rw [List.map_map]
  refine List.map_congr_left fun s hs=>?_
  exact wLH hm (kD.1 hs) c k
end Go.KL
namespace Go.Proofs.YtabadkdjndnliaaGreat
open Go.KL
open Classical
noncomputable def upR (tk:List Int->Option Int) (w:Int) (st:List Int × Int) (o:List Int):List Int × Int :=
 if w ∈ o then st else match tk o with
  | some v=>if st.2 < 0 \/ v < st.2 then (o,v) else st
  | none=>st
def Kpt (a b:List Int × Int):Prop:=(a.1=[]/\a.2=-1/\b=([],0)) \/ (a.1 ≠ []/\0 <= a.2/\b=a)
theorem rl_up {tk:List Int->Option Int} {w:Int} {a b:List Int × Int} {o:List Int} (h:Kpt a b) (hw:w ∉ o) (ho:o ≠ []) (hv:∀ v,tk o=some v->0 <= v):Kpt (upR tk w a o) (wKM tk b o):=by
 unfold upR wKM
 rw [if_neg hw]
 cases e:tk o with
 | none=>exact h
 | some v =>
  have:=hv v e
  simp only
  rcases h with ⟨a1,a2,rfl⟩ | ⟨a1,a2,rfl⟩
  ·rw [if_pos (.inl (by omega)),if_pos (.inl rfl)]
   exact .inr ⟨ho,this,rfl⟩
  ·by_cases c:v < b.2
   ·rw [if_pos (.inr c),if_pos (.inr c)]
    exact .inr ⟨ho,this,rfl⟩
   ·rw [if_neg fun q=>by rcases q with q | q <;> omega,if_neg fun q=>q.elim a1 c]
    exact .inr ⟨a1,a2,rfl⟩
theorem wLI {α β:Type} {f:β->α->β}:∀ {l:List α} {b:β},(∀ x ∈ l,∀ b,f b x=b)->l.foldl f b=b
 | [],_,_=>rfl
 | x :: l,b,h=>by
  rw [kh,h x (kV ..)]
  exact wLI fun y hy=>h y (nX _ hy)
section
variable {p:wAA} {s:wAB}
theorem wSP (S:wFZ p s) {o:List Int} (ho:o.length <= p.Classes.length) (hr:∀ i,i < o.length->0 <= gd o i/\gd o i < s.Classes.length) {v:Int} (h:tk p s o=some v):0 <= v:=by
 unfold tk at h
 split at h
 ·injection h with h
  have:=(wKN S hr o.length (nE _) ho).1
  omega
 ·cases h
theorem wSQ (S:wFZ p s) (w:Int):∀ (k:Nat) (o:List Int) (a b:List Int × Int),Kpt a b->o.length + k=p.Classes.length->w ∉ o->(∀ i,i < o.length->0 <= gd o i/\gd o i < s.Classes.length)->Kpt ((wCj s.Classes.length alw k o).foldl (upR (tk p s) w) a) ((wCj s.Classes.length (okf p s w) k o).foldl (wKM (tk p s)) b)
 | 0,o,a,b,h,hl,hw,hr=>by
  have hn:=S.rules.n
  exact rl_up h hw (fun e=>by rw [e,nU] at hl;omega) fun v hv=>wSP S (by omega) hr hv
 | k + 1,o,a,b,h,hl,hw,hr=>by
  rw [wCj,wCj]
  have key:∀ (L:List Nat) (a b:List Int × Int),(∀ x ∈ L,x < s.Classes.length)->Kpt a b->Kpt ((L.flatMap fun x=>if alw x o.length=true then wCj s.Classes.length alw k (o ++ [(x:Int)]) else []).foldl (upR (tk p s) w) a) ((L.flatMap fun x=>if okf p s w x o.length=true then wCj s.Classes.length (okf p s w) k (o ++ [(x:Int)]) else []).foldl (wKM (tk p s)) b):=by
   intro L
   induction L with
   | nil=>exact fun a b _ h=>h
   | cons x L ih =>
    intro a b hL h
    simp only [if_true] at ih ⊢
    rw [kH,kH,kG,kG]
    refine ih _ _ (fun y hy=>hL y (nX _ hy)) ?_
    have hx:=hL x (kV ..)
    have hr':∀ i,i < (o ++ [(x:Int)]).length->0 <= gd (o ++ [(x:Int)]) i/\gd (o ++ [(x:Int)]) i < s.Classes.length:=fun i hi=>by
     rw [nO,nV] at hi
     by_cases e:i < o.length
     ·rw [wIc e];exact hr i e
     ·have:i=o.length:=by omega
      rw [this,wFS]
      omega
    by_cases c:okf p s w x o.length=true
    ·rw [if_pos c]
     unfold okf at c
     have c:=of_decide_eq_true c
     exact wSQ S w k _ a b h (by rw [nO,nV];omega) (fun q=>by
      rcases nH.1 q with q | q
      ·exact hw q
      ·exact c.1 (nN.1 q).symm) hr'
    ·rw [if_neg c]
     show Kpt _ b
     rw [wLI]
     ·exact h
     intro y hy a
     obtain ⟨z,rfl,hz,_⟩:=wFT.1 hy
     unfold upR
     split
     ·rfl
     ·rename_i hn
      have:tk p s (o ++ [(x:Int)] ++ z)=none:=by
       unfold tk
       refine if_neg fun q=>c ?_
       have q:=(q o.length (by simp only [nO,nV];omega)).1
       rw [nQ,List.singleton_append,wFS,ni] at q
       unfold okf
       exact decide_eq_true ⟨fun e=>hn (by rw [<- e];simp),q⟩
      rw [this]
  exact key (nK s.Classes.length) a b (fun x hx=>kD.1 hx) h
end
end Go.Proofs.YtabadkdjndnliaaGreat
namespace Go.KL
def wc (c:Nat->Nat->Int):List Nat->Int
 | []=>0
 | [_]=>0
 | b :: a :: l=>c a b + wc c (a :: l)
theorem wDu (c:Nat->Nat->Int) (a:Nat) (q:List Nat):∀ p,wc c (p ++ a :: q)=wc c (p ++ [a]) + wc c (a :: q)
 | []=>by simp [wc]
 | [b]=>by simp [wc]
 | b :: d :: p=>by
  have:=wDu c a q (d :: p)
  simp only [nJ,wc] at this ⊢
  omega
theorem wHK:∀ {l:List Nat},¬ l.Nodup->∃ p a q r,l=p ++ a :: (q ++ a :: r)
 | [],h=>absurd List.nodup_nil h
 | x :: l,h=>by
  by_cases m:x ∈ l
  ·obtain ⟨q,r,e⟩:=nR m
   exact ⟨[],x,q,r,by rw [e];rfl⟩
  ·obtain ⟨p,a,q,r,e⟩:=wHK (l:=l) fun n=>h (nr.2 ⟨m,n⟩)
   exact ⟨x :: p,a,q,r,by rw [e];rfl⟩
theorem wHL:∀ {N:Nat} {l:List Nat},l.Nodup->(∀ x ∈ l,x < N)->l.length <= N
 | 0,l,_,h=>by
  cases l with
  | nil=>simp
  | cons x l=>exact absurd (h x (kV ..)) (by omega)
 | N + 1,l,d,h=>by
  have a:=wHL (N:=N) (l:=l.erase N) (d.erase N) fun x hx=>by
   have:=(d.mem_erase_iff).1 hx
   have:=h x this.2
   omega
  have:=List.length_erase (a:=N) (l:=l)
  split at this <;> omega
theorem wOD {c:Nat->Nat->Int} {N:Nat} (hy:∀ a q,(∀ x ∈ a :: q,x < N)->(a :: q).Nodup->0 <= wc c (a :: (q ++ [a]))):∀ (n a:Nat) (q:List Nat),q.length <= n->(∀ x ∈ a :: q,x < N)->0 <= wc c (a :: (q ++ [a])):=by
 intro n
 induction n with
 | zero =>
  intro a q hq h
  have:q=[]:=kg.1 (by omega)
  subst this
  exact hy a [] h (by simp)
 | succ n ih =>
  intro a q hq h
  by_cases d:(a :: q).Nodup
  ·exact hy a q h d
  ·obtain ⟨p,b,q',r,e⟩:=wHK d
   have le:p.length + q'.length + r.length + 2=q.length + 1:=by
    have:=congrArg List.length e
    simp at this
    omega
   have e2:a :: (q ++ [a])=p ++ b :: (q' ++ b :: (r ++ [a])):=by
    have:a :: (q ++ [a])=(a :: q) ++ [a]:=rfl
    rw [this,e]
    simp
   have s1:=wDu c b (q' ++ b :: (r ++ [a])) p
   have s2:=wDu c b (r ++ [a]) (b :: q')
   have s3:=wDu c b (r ++ [a]) p
   have m:∀ x,x ∈ p ++ b :: (q' ++ b :: r)->x < N:=fun x hx=>h x (by rw [e];exact hx)
   have c1:=ih b q' (by omega) fun x hx=>m x (by
    rcases nD.1 hx with rfl | hx
    ·simp
    ·simp [hx])
   have c2:0 <= wc c (p ++ b :: (r ++ [a])):=by
    cases p with
    | nil =>
     injection e with e0 _
     subst e0
     exact ih a r (by simp at le;omega) fun x hx=>m x (by
      rcases nD.1 hx with rfl | hx
      ·simp
      ·simp [hx])
    | cons y p =>
     injection e with e0 _
     subst e0
     have:=ih a (p ++ b :: r) (by simp at le ⊢;omega) fun x hx=>m x (by
      rcases nD.1 hx with rfl | hx
      ·simp
      ·rcases nH.1 hx with hx | hx
       ·simp [hx]
       ·rcases nD.1 hx with rfl | hx
        ·simp
        ·simp [hx])
     simpa using this
   rw [e2,s1]
   simp only [nJ] at s2
   rw [s2]
   omega
theorem wQq {c:Nat->Nat->Int} {N:Nat} (lo:∀ a b,a < N->b < N->-100000 <= c a b):∀ {l:List Nat},(∀ x ∈ l,x < N)->l ≠ []->-100000 * (l.length:Int) + 100000 <= wc c l
 | [],_,h=>absurd rfl h
 | [_],_,_=>by simp [wc]
 | b :: a :: l,h,_=>by
  have:=wQq lo (l:=a :: l) (fun x hx=>h x (nX _ hx)) (by simp)
  have:=lo a b (h a (by simp)) (h b (by simp))
  simp only [wc,nW] at *
  omega
theorem wOE {c:Nat->Nat->Int} {N:Nat} (lo:∀ a b,a < N->b < N->-100000 <= c a b) (hy:∀ a q,(∀ x ∈ a :: q,x < N)->(a :: q).Nodup->0 <= wc c (a :: (q ++ [a]))):∀ (n:Nat) (l:List Nat),l.length <= n->(∀ x ∈ l,x < N)->l ≠ []->-100000 * (N:Int) + 100000 <= wc c l:=by
 intro n
 induction n with
 | zero=>intro l hl _ hn;exact absurd (kg.1 (by omega)) hn
 | succ n ih =>
  intro l hl h hn
  by_cases d:l.Nodup
  ·have:=wQq lo h hn
   have:=wHL d h
   omega
  ·obtain ⟨p,b,q,r,e⟩:=wHK d
   have s1:=wDu c b (q ++ b :: r) p
   have s2:=wDu c b r (b :: q)
   have s3:=wDu c b r p
   have m:∀ x,x ∈ p ++ b :: (q ++ b :: r)->x < N:=fun x hx=>h x (by rw [e];exact hx)
   have c1:=wOD hy q.length b q (nE _) fun x hx=>m x (by
    rcases nD.1 hx with rfl | hx
    ·simp
    ·simp [hx])
   have c2:=ih (p ++ b :: r) (by
    rw [e] at hl
    simp at hl ⊢
    omega) (fun x hx=>m x (by
     rcases nH.1 hx with hx | hx
     ·simp [hx]
     ·rcases nD.1 hx with rfl | hx
      ·simp
      ·simp [hx])) (by simp)
   rw [e,s1]
   simp only [nJ] at s2
   rw [s2]
   omega
theorem wIf {α:Type} {P:α->Prop} {f:α->Int} {B:Int} (ne:∃ a,P a) (lo:∀ a,P a->B <= f a):∃ a,P a/\∀ b,P b->f a <= f b:=by
 have:∀ n:Nat,∀ a,P a->f a - B <= n->∃ a,P a/\∀ b,P b->f a <= f b:=by
  intro n
  induction n with
  | zero=>exact fun a ha hn=>⟨a,ha,fun b hb=>by have:=lo b hb;omega⟩
  | succ n ih =>
   intro a ha hn
   by_cases q:∃ b,P b/\f b < f a
   ·obtain ⟨b,hb,l⟩:=q
    exact ih b hb (by omega)
   ·exact ⟨a,ha,fun b hb=>by
     by_cases h:f b < f a
     ·exact absurd ⟨b,hb,h⟩ q
     ·omega⟩
 obtain ⟨a,ha⟩:=ne
 exact this (f a - B).toNat a ha (by have:=lo a ha;omega)
theorem pots {c:Nat->Nat->Int} {N:Nat} (lo:∀ a b,a < N->b < N->-100000 <= c a b) (hy:∀ a q,(∀ x ∈ a :: q,x < N)->(a :: q).Nodup->0 <= wc c (a :: (q ++ [a]))):∃ π:Nat->Int,(∀ v,v < N->-100000 * (N:Int) + 100000 <= π v/\π v <= 0)/\∀ a b,a < N->b < N->π b <= π a + c a b:=by
 have ex:∀ v:Nat,∃ x:Int,v < N->∃ l,(∀ y ∈ v :: l,y < N)/\x=wc c (v :: l)/\∀ l',(∀ y ∈ v :: l',y < N)->x <= wc c (v :: l'):=by
  intro v
  by_cases hv:v < N
  ·obtain ⟨l,hl,m⟩:=wIf (P:=fun l:List Nat=>∀ y ∈ v :: l,y < N) (f:=fun l=>wc c (v :: l)) (B:=-100000 * (N:Int) + 100000) ⟨[],by simpa using hv⟩ (fun l hl=>wOE lo hy _ (v :: l) (nE _) hl (by simp))
   exact ⟨_,fun _=>⟨l,hl,rfl,m⟩⟩
  ·exact ⟨0,fun h=>absurd h hv⟩
 refine ⟨fun v=>(ex v).choose,fun v hv=>?_,fun a b ha hb=>?_⟩
 ·obtain ⟨l,hl,e,m⟩:=(ex v).choose_spec hv
  refine ⟨?_,by simpa [wc] using m [] (by simpa using hv)⟩
  show _ <= (ex v).choose
  rw [e]
  exact wOE lo hy _ (v :: l) (nE _) hl (by simp)
 ·obtain ⟨l,hl,e,_⟩:=(ex a).choose_spec ha
  obtain ⟨_,_,_,m⟩:=(ex b).choose_spec hb
  have:=m (a :: l) (fun y hy=>by
   rcases nD.1 hy with rfl | hy
   ·exact hb
   ·exact hl y hy)
  simp only [wc] at this
  simp only
  omega
end Go.KL
namespace Go.Proofs.YtabadkdjndnliaaGreat
noncomputable section
open Go.KL
open Classical
def tm (s:wAB) (i k:Nat):Int:=gd (gd s.Times i) k
def who (o:List Int) (k:Nat):Nat:=(gd o k).toNat
def wGD (p:wAA) (s:wAB) (i k:Nat):Prop:=gd s.Classes i=gd p.Classes k
def old (p:wAA) (s:wAB) (o:List Int) (k:Nat):Int:=if k < p.Classes.length then tm s (who o k) k else 0
structure Fre (p:wAA) (s:wAB) (o:List Int) (cF:Nat->Int) (sk:Nat->Nat):Prop where
 one:∀ k,cF k < 1000000->cF k=tm s (sk k) k/\sk k < s.Classes.length/\wGD p s (sk k) k/\(o.count (sk k:Int):Int) < p.Each
 le:∀ i k,i < s.Classes.length->k < p.Classes.length->wGD p s i k->(o.count (i:Int):Int) < p.Each->cF k <= tm s i k
 lo:∀ k,k < p.Classes.length->0 <= cF k
def cc (p:wAA) (s:wAB) (o:List Int) (cF:Nat->Int) (a b:Nat):Int :=
 if a < p.Classes.length then (if b < p.Classes.length then (if wGD p s (who o b) a then tm s (who o b) a - tm s (who o b) b else 1000000) else cF a) else (if b < p.Classes.length then -tm s (who o b) b else 0)
def nu (p:wAA) (o:List Int) (sk:Nat->Nat) (a b:Nat):Int:=if b < p.Classes.length then gd o b else (sk a:Int)
def real (c:Nat->Nat->Int):List Nat->Prop
 | []=>True
 | [_]=>True
 | b :: a :: l=>c a b < 1000000/\real c (a :: l)
def hh (p:wAA) (o:List Int) (k:Nat) (v:Int):Nat:=if k < p.Classes.length/\gd o k=v then 1 else 0
def hd (l:List Nat) (x:Nat):Nat:=match l with | []=>x | b :: _=>b
def tl (l:List Nat) (x:Nat):List Nat:=match l with | []=>[] | _ :: l=>l ++ [x]
theorem hd_tl (l:List Nat) (x:Nat):l ++ [x]=hd l x :: tl l x:=by cases l <;> rfl
theorem wPg {s:wAB} {o:List Int} {a:Nat} (ha:a < o.length) (w:Int):∀ k,k <= o.length->vl s (o.set a w) k=vl s o k + (if a < k then tm s w.toNat a - tm s (who o a) a else 0)
 | 0,_=>by simp [vl]
 | k + 1,hk=>by
  have ih:=wPg (s:=s) ha w k (by omega)
  rw [vl,vl,ih,wFt ha (by omega)]
  by_cases e:k=a
  ·subst e
   rw [if_pos rfl,if_neg (by omega),if_pos (by omega)]
   unfold tm who
   omega
  ·rw [if_neg e]
   by_cases q:a < k
   ·rw [if_pos q,if_pos (by omega)];omega
   ·rw [if_neg q,if_neg (by omega)];omega
theorem wQr {o:List Int} {a:Nat} (ha:a < o.length) (w v:Int):(o.set a w).count v + (if gd o a=v then 1 else 0)=o.count v + (if w=v then 1 else 0):=by
 rw [List.count_set ha,<- wNw ha]
 by_cases e:gd o a=v
 ·have:0 < o.count v:=kv.2 (e ▸ wCh ha)
  simp only [e,beq_self_eq_true,if_true,beq_iff_eq]
  omega
 ·simp only [beq_iff_eq,e,if_false]
  omega
section
variable {p:wAA} {s:wAB} {o:List Int} {cF:Nat->Int} {sk:Nat->Nat}
theorem wHc (S:wFZ p s) {i k:Nat} (hi:i < s.Classes.length) (hk:k < p.Classes.length):0 <= tm s i k/\tm s i k <= 100000:=S.val i hi k hk
theorem wFY (A:Adm p s (-1) o) {k:Nat} (hk:k < p.Classes.length):who o k < s.Classes.length/\gd o k=(who o k:Int):=by
 have:=(A.rg k hk).1
 unfold who
 omega
theorem wQs (S:wFZ p s) (A:Adm p s (-1) o) (F:Fre p s o cF sk) (a b:Nat):-100000 <= cc p s o cF a b:=by
 unfold cc
 split
 ·rename_i ha
  split
  ·rename_i hb
   have:=wFY A hb
   have:=wHc S this.1 ha
   have:=wHc S (wFY A hb).1 hb
   split <;> omega
  ·have:=F.lo a ha;omega
 ·split
  ·rename_i hb
   have:=wHc S (wFY A hb).1 hb
   omega
  ·omega
theorem edge (A:Adm p s (-1) o) (F:Fre p s o cF sk) {a b:Nat} (ha:a < p.Classes.length) (h:cc p s o cF a b < 1000000):(0 <= nu p o sk a b/\nu p o sk a b < s.Classes.length)/\wGD p s (nu p o sk a b).toNat a/\tm s (nu p o sk a b).toNat a=cc p s o cF a b + old p s o b:=by
 unfold cc at h ⊢
 unfold nu old
 rw [if_pos ha] at h ⊢
 by_cases hb:b < p.Classes.length
 ·rw [if_pos hb] at h ⊢
  rw [if_pos hb,if_pos hb]
  have w:=wFY A hb
  by_cases m:wGD p s (who o b) a
  ·rw [if_pos m,w.2,ni]
   exact ⟨by omega,m,by omega⟩
  ·rw [if_neg m] at h;omega
 ·rw [if_neg hb] at h ⊢
  rw [if_neg hb,if_neg hb]
  have f:=F.one a h
  rw [ni]
  exact ⟨by omega,f.2.2.1,by omega⟩
theorem swap (A:Adm p s (-1) o) (F:Fre p s o cF sk) (x:Nat):∀ l:List Nat,(tl l x).Nodup->l.Nodup->(∀ a ∈ l ++ [x],a <= p.Classes.length)->real (cc p s o cF) (l ++ [x])->∃ o':List Int,o'.length=p.Classes.length/\(∀ k,k < p.Classes.length->(0 <= gd o' k/\gd o' k < s.Classes.length)/\wGD p s (who o' k) k)/\(∀ k,k < p.Classes.length->k ∉ tl l x->gd o' k=gd o k)/\vl s o' p.Classes.length=vl s o p.Classes.length + wc (cc p s o cF) (l ++ [x]) - old p s o x + old p s o (hd l x)/\∀ v:Int,o'.count v + hh p o x v <= o.count v + hh p o (hd l x) v + (if p.Classes.length ∈ l/\(o.count v:Int) < p.Each then 1 else 0)
 | [],_,_,_,_=>⟨o,A.len,fun k hk=>⟨(A.rg k hk).1,(A.ok k hk).1⟩,fun _ _ _=>rfl,by simp only [nP,wc,hd];omega,fun v=>by simp [hd]⟩
 | b :: l,d1,d2,m,r=>by
  have e:=hd_tl l x
  have ea:b :: l ++ [x]=b :: hd l x :: tl l x:=by rw [<- e];rfl
  have ma:hd l x <= p.Classes.length:=m _ (by rw [ea];simp)
  have mb:b <= p.Classes.length:=m _ (by simp)
  have d1':(hd l x :: tl l x).Nodup:=by rw [<- e];exact d1
  have da:=(nr.1 d1').1
  have db:=nr.1 d2
  rw [ea] at r
  obtain ⟨o1,l1,ok1,same1,v1,c1⟩:=swap A F x l (nr.1 d1').2 db.2 (fun a ha=>m a (nX _ ha)) (by rw [e];exact r.2)
  have ht:tl (b :: l) x=hd l x :: tl l x:=by rw [<- e];rfl
  have ev:wc (cc p s o cF) (b :: l ++ [x])=cc p s o cF (hd l x) b + wc (cc p s o cF) (l ++ [x]):=by rw [ea,e];rfl
  rw [ht,ev]
  generalize hd l x=a at *
  by_cases ha:a < p.Classes.length
  ·have E:=edge A F ha r.1
   refine ⟨o1.set a (nu p o sk a b),by rw [nk];exact l1,fun k hk=>?_,fun k hk hn=>?_,?_,fun v=>?_⟩
   ·unfold who
    rw [wFt (by omega) (by omega)]
    by_cases q:k=a
    ·subst q
     rw [if_pos rfl]
     exact ⟨E.1,E.2.1⟩
    ·rw [if_neg q]
     exact ok1 k hk
   ·rw [wFt (by omega) (by omega),if_neg fun q=>hn (by rw [q];simp)]
    exact same1 k hk fun q=>hn (nX _ q)
   ·have oa:old p s o a=tm s (who o1 a) a:=by
     unfold old who
     rw [if_pos ha,same1 a ha da]
    rw [wPg (by omega) _ _ (by omega),if_pos ha,E.2.2]
    simp only [hd]
    omega
   ·have cs:=wQr (o:=o1) (a:=a) (by omega) (nu p o sk a b) v
    rw [same1 a ha da] at cs
    have ha':hh p o a v=if gd o a=v then 1 else 0:=by unfold hh;simp only [ha,true_and]
    have ci:=c1 v
    rw [ha'] at ci
    simp only [hd]
    by_cases hb:b < p.Classes.length
    ·have hb':hh p o b v=if gd o b=v then 1 else 0:=by unfold hh;simp only [hb,true_and]
     have en:nu p o sk a b=gd o b:=by unfold nu;rw [if_pos hb]
     rw [en] at cs
     rw [en,hb']
     have nb:(p.Classes.length ∈ b :: l) ↔ p.Classes.length ∈ l:=by
      rw [nD]
      exact ⟨fun q=>q.resolve_left (by omega),.inr⟩
     have nb':(if p.Classes.length ∈ b :: l/\(o.count v:Int) < p.Each then 1 else 0)=(if p.Classes.length ∈ l/\(o.count v:Int) < p.Each then 1 else 0):=by simp only [nb]
     omega
    ·have eb:b=p.Classes.length:=by omega
     have en:nu p o sk a b=(sk a:Int):=by unfold nu;rw [if_neg hb]
     have f:=F.one a (by
      have:=r.1
      unfold cc at this
      rwa [if_pos ha,if_neg hb] at this)
     have z0:(if p.Classes.length ∈ l/\(o.count v:Int) < p.Each then 1 else 0)=0:=if_neg (fun q=>db.1 (by rw [eb];exact q.1))
     rw [z0] at ci
     rw [en] at cs
     rw [en,eb]
     by_cases q:(o.count v:Int) < p.Each
     ·have z1:(if p.Classes.length ∈ p.Classes.length :: l/\(o.count v:Int) < p.Each then 1 else 0)=1:=if_pos ⟨by simp,q⟩
      have:(if (sk a:Int)=v then 1 else 0) <= 1:=by split <;> omega
      omega
     ·have:¬ (sk a:Int)=v:=fun h=>q (by rw [<- h];exact f.2.2.2)
      rw [if_neg this] at cs
      omega
  ·have ea:a=p.Classes.length:=by omega
   refine ⟨o1,l1,ok1,fun k hk hn=>same1 k hk fun q=>hn (nX _ q),?_,fun v=>?_⟩
   ·have:cc p s o cF a b=-old p s o b:=by
     unfold cc old
     rw [if_neg ha]
     split
     ·rfl
     ·rfl
    have h0:old p s o a=0:=by unfold old;rw [if_neg ha]
    simp only [hd]
    omega
   ·have ci:=c1 v
    have h0:hh p o a v=0:=by unfold hh;rw [if_neg fun q=>ha q.1]
    have:(if p.Classes.length ∈ l/\(o.count v:Int) < p.Each then 1 else 0) <= (if p.Classes.length ∈ b :: l/\(o.count v:Int) < p.Each then 1 else 0):=by
     split
     ·rename_i q
      rw [if_pos ⟨nX _ q.1,q.2⟩]
      exact nE _
     ·omega
    omega
theorem mx_le {l:List Nat}:∀ x ∈ l,x <= l.foldl max 0:=by
 have g:∀ (l:List Nat) (b:Nat),b <= l.foldl max b/\∀ x ∈ l,x <= l.foldl max b:=by
  intro l
  induction l with
  | nil=>intro b;simp
  | cons y l ih =>
   intro b
   have:=ih (max b y)
   simp only [kh]
   refine ⟨by omega,fun x hx=>?_⟩
   rcases nD.1 hx with rfl | hx
   ·omega
   ·exact this.2 x hx
 exact (g l 0).2
theorem wOF (S:wFZ p s) (A:Adm p s (-1) o) (F:Fre p s o cF sk):∀ l:List Nat,real (cc p s o cF) l \/ 1200000 - 100000 * (l.length:Int) <= wc (cc p s o cF) l
 | []=>.inl trivial
 | [_]=>.inl trivial
 | b :: a :: l=>by
  have lo:=wQs S A F a b
  rcases wOF S A F (a :: l) with h | h
  ·by_cases q:cc p s o cF a b < 1000000
   ·exact .inl ⟨q,h⟩
   ·right
    have:=wQq (c:=cc p s o cF) (N:=(a :: l).foldl max 0 + 1) (fun x y _ _=>wQs S A F x y) (l:=a :: l) (fun x hx=>Nat.lt_succ_of_le (mx_le x hx)) (by simp)
    simp only [wc,nW] at *
    omega
  ·right
   simp only [wc,nW] at *
   omega
end
end
end Go.Proofs.YtabadkdjndnliaaGreat
namespace Go.Proofs.YtabadkdjndnliaaGreat
open Go.KL
open Classical
structure Pot (p:wAA) (s:wAB) (o:List Int) (f:Int) (L K:Nat->Int):Prop where
 bf:-400000 <= f/\f <= 0
 bl:∀ k,k < p.Classes.length->-400000 <= L k/\L k <= 0
 bk:∀ i,i < s.Classes.length->-400000 <= K i/\K i <= 0
 may:∀ i k,i < s.Classes.length->k < p.Classes.length->wGD p s i k->K i <= L k + tm s i k
 hold:∀ k,k < p.Classes.length->L k <= K (who o k) - tm s (who o k) k
 spare:∀ i,i < s.Classes.length->(o.count (i:Int):Int) < p.Each->f <= K i
 used:∀ i,i < s.Classes.length->0 < o.count (i:Int)->K i <= f
section
variable {p:wAA} {s:wAB} {o:List Int}
theorem wSR (S:wFZ p s):∃ cF sk,Fre p s o cF sk:=by
 have ex:∀ k:Nat,∃ (x:Int) (i:Nat),(x < 1000000->x=tm s i k/\i < s.Classes.length/\wGD p s i k/\(o.count (i:Int):Int) < p.Each)/\(k < p.Classes.length->(∀ i,i < s.Classes.length->wGD p s i k->(o.count (i:Int):Int) < p.Each->x <= tm s i k)/\0 <= x):=by
  intro k
  by_cases hk:k < p.Classes.length
  ·by_cases q:∃ i,i < s.Classes.length/\wGD p s i k/\(o.count (i:Int):Int) < p.Each
   ·obtain ⟨i,h,m⟩:=wIf (P:=fun i=>i < s.Classes.length/\wGD p s i k/\(o.count (i:Int):Int) < p.Each) (f:=fun i=>tm s i k) (B:=0) q (fun i hi=>(wHc S hi.1 hk).1)
    exact ⟨tm s i k,i,fun _=>⟨rfl,h⟩,fun _=>⟨fun j h1 h2 h3=>m j ⟨h1,h2,h3⟩,(wHc S h.1 hk).1⟩⟩
   ·exact ⟨1000000,0,fun h=>absurd h (by omega),fun _=>⟨fun j h1 h2 h3=>absurd ⟨j,h1,h2,h3⟩ q,by omega⟩⟩
  ·exact ⟨1000000,0,fun h=>absurd h (by omega),fun h=>absurd h hk⟩
 refine ⟨fun k=>(ex k).choose,fun k=>(ex k).choose_spec.choose,fun k h=>?_,fun i k hi hk hm hc=>?_,fun k hk=>?_⟩
 ·exact (ex k).choose_spec.choose_spec.1 h
 ·exact ((ex k).choose_spec.choose_spec.2 hk).1 i hi hm hc
 ·exact ((ex k).choose_spec.choose_spec.2 hk).2
theorem wQt (S:wFZ p s) (A:Adm p s (-1) o) (best:∀ o',Adm p s (-1) o'->vl s o p.Classes.length <= vl s o' p.Classes.length) {cF:Nat->Int} {sk:Nat->Nat} (F:Fre p s o cF sk) (a:Nat) (q:List Nat) (h:∀ x ∈ a :: q,x < p.Classes.length + 1) (d:(a :: q).Nodup):0 <= wc (cc p s o cF) (a :: (q ++ [a])):=by
 have hn:=S.rules.n
 have hE:=S.rules.each
 have len:=wHL d h
 simp only [nW] at len
 rcases wOF S A F (a :: (q ++ [a])) with r | r
 case inr =>
  simp only [nW,nO,nU] at r
  omega
 have dd:=nr.1 d
 obtain ⟨o',l',ok',_,v',c'⟩:=swap A F a (a :: q) (by
  show (q ++ [a]).Nodup
  exact List.nodup_append.2 ⟨dd.2,by simp,fun x hx y hy=>by
   rw [nN.1 hy]
   exact fun e=>dd.1 (e ▸ hx)⟩) d (fun x hx=>by
   rcases nH.1 hx with hx | hx
   ·exact Nat.le_of_lt_succ (h x hx)
   ·rw [nN.1 hx]
    exact Nat.le_of_lt_succ (h a (by simp))) r
 have e:a :: q ++ [a]=a :: (q ++ [a]):=rfl
 rw [e] at v'
 simp only [hd] at v' c'
 have cnt:∀ v,(o.count v:Int) <= p.Each:=by
  intro v
  have:=wFX (l:=o) (E:=p.Each) (by omega) (fun k hk=>(A.ok k (by rw [<- A.len];exact hk)).2) o.length (nE _) v
  rwa [kL] at this
 have A':Adm p s (-1) o':=by
  refine ⟨l',fun i hi=>⟨(ok' i hi).1,by have:=(ok' i hi).1;omega⟩,?_⟩
  have:=(wJN (l:=o') (E:=p.Each) (by omega)).2 fun k hk=>by
   have:=c' (gd o' k)
   have:=cnt (gd o' k)
   split at * <;> omega
  exact fun k hk=>⟨(ok' k hk).2,this k (by omega)⟩
 have:=best o' A'
 omega
theorem cc_is {cF:Nat->Int} {a b:Nat} (ha:a < p.Classes.length) (hb:b < p.Classes.length) (m:wGD p s (who o b) a):cc p s o cF a b=tm s (who o b) a - tm s (who o b) b:=by
 unfold cc
 rw [if_pos ha,if_pos hb,if_pos m]
theorem wSS (S:wFZ p s) (A:Adm p s (-1) o) (best:∀ o',Adm p s (-1) o'->vl s o p.Classes.length <= vl s o' p.Classes.length):∃ f L K,Pot p s o f L K:=by
 have hn:=S.rules.n
 obtain ⟨cF,sk,F⟩:=wSR (o:=o) S
 obtain ⟨π,bd,ar⟩:=pots (c:=cc p s o cF) (N:=p.Classes.length + 1) (fun a b _ _=>wQs S A F a b) (wQt S A best F)
 have hp:∀ v,v <= p.Classes.length->-400000 <= π v/\π v <= 0:=fun v hv=>by
  have:=bd v (by omega)
  omega
 have ex:∀ i:Nat,∃ x:Int,i < s.Classes.length->(-400000 <= x/\x <= 0)/\(∀ k,k < p.Classes.length->wGD p s i k->x <= π k + tm s i k)/\(0 < o.count (i:Int)->x <= π p.Classes.length)/\(x=0 \/ (∃ k,k < p.Classes.length/\wGD p s i k/\x=π k + tm s i k) \/ (0 < o.count (i:Int)/\x=π p.Classes.length)):=by
  intro i
  by_cases hi:i < s.Classes.length
  ·obtain ⟨x,hx,m⟩:=wIf (P:=fun x:Int=>x=0 \/ (∃ k,k < p.Classes.length/\wGD p s i k/\x=π k + tm s i k) \/ (0 < o.count (i:Int)/\x=π p.Classes.length)) (f:=id) (B:=-400000) ⟨0,.inl rfl⟩ (fun x hx=>by
    rcases hx with rfl | ⟨k,hk,_,rfl⟩ | ⟨_,rfl⟩
    ·simp
    ·have:=hp k (by omega)
     have:=wHc S hi hk
     simp only [id];omega
    ·exact (hp _ (nE _)).1)
   simp only [id] at m
   refine ⟨x,fun _=>⟨⟨?_,m 0 (.inl rfl)⟩,fun k hk hm=>m _ (.inr (.inl ⟨k,hk,hm,rfl⟩)),fun h=>m _ (.inr (.inr ⟨h,rfl⟩)),hx⟩⟩
   rcases hx with rfl | ⟨k,hk,_,rfl⟩ | ⟨_,rfl⟩
   ·omega
   ·have:=hp k (by omega)
    have:=wHc S hi hk
    omega
   ·exact (hp _ (nE _)).1
  ·exact ⟨0,fun h=>absurd h hi⟩
 have held:∀ k,k < p.Classes.length->wGD p s (who o k) k/\0 < o.count (who o k:Int):=fun k hk=>by
  refine ⟨(A.ok k hk).1,kv.2 ?_⟩
  rw [<- (wFY A hk).2]
  exact wCh (by rw [A.len];exact hk)
 refine ⟨π p.Classes.length,π,fun i=>(ex i).choose,hp _ (nE _),fun k hk=>hp k (by omega),fun i hi=>((ex i).choose_spec hi).1,fun i k hi hk hm=>((ex i).choose_spec hi).2.1 k hk hm,fun k hk=>?_,fun i hi hc=>?_,fun i hi hc=>((ex i).choose_spec hi).2.2.1 hc⟩
 ·have w:=wFY A hk
  have hf:π k <= π p.Classes.length - tm s (who o k) k:=by
   have:=ar p.Classes.length k (by omega) (by omega)
   unfold cc at this
   rw [if_neg (kK _),if_pos hk] at this
   omega
  have h0:=hp p.Classes.length (nE _)
  rcases ((ex (who o k)).choose_spec w.1).2.2.2 with e | ⟨j,hj,hm,e⟩ | ⟨_,e⟩
  ·simp only [e];omega
  ·have:=ar j k (by omega) (by omega)
   rw [cc_is hj hk hm] at this
   simp only [e];omega
  ·simp only [e];exact hf
 ·have h0:=hp p.Classes.length (nE _)
  rcases ((ex i).choose_spec hi).2.2.2 with e | ⟨j,hj,hm,e⟩ | ⟨_,e⟩
  ·simp only [e];omega
  ·have:=ar j p.Classes.length (by omega) (by omega)
   unfold cc at this
   rw [if_pos hj,if_neg (kK _)] at this
   have:=F.le i j hi hj hm hc
   simp only [e];omega
  ·simp only [e];omega
end
end Go.Proofs.YtabadkdjndnliaaGreat
namespace Go.KL
def wCN (f:Nat->Int):Nat->Int
 | 0=>0
 | k + 1=>wCN f k + f k
theorem wDI {f g:Nat->Int}:∀ n,(∀ i,i < n->f i=g i)->wCN f n=wCN g n
 | 0,_=>rfl
 | n + 1,h=>by rw [wCN,wCN,wDI n fun i hi=>h i (by omega),h n (by omega)]
theorem wER {f:Nat->Int}:∀ n,(∀ i,i < n->f i=0)->wCN f n=0
 | 0,_=>rfl
 | n + 1,h=>by rw [wCN,wER n fun i hi=>h i (by omega),h n (by omega)];rfl
theorem wGN {f g:Nat->Int}:∀ n,wCN (fun i=>f i + g i) n=wCN f n + wCN g n
 | 0=>rfl
 | n + 1=>by rw [wCN,wCN,wCN,wGN n];omega
theorem wJQ {f:Nat->Nat->Int} {m:Nat}:∀ n,wCN (fun i=>wCN (f i) m) n=wCN (fun j=>wCN (fun i=>f i j) n) m
 | 0=>by
  show (0:Int)=_
  exact (wER m fun _ _=>rfl).symm
 | n + 1=>by
  rw [wCN,wJQ n,<- wGN]
  rfl
theorem wIg {k:Nat} {v:Int}:∀ {n:Nat},k < n->wCN (fun i=>if i=k then v else 0) n=v
 | 0,h=>by omega
 | n + 1,h=>by
  rw [wCN]
  by_cases e:k=n
  ·subst e
   rw [if_pos rfl,wER k fun i hi=>if_neg (by omega)]
   omega
  ·rw [if_neg (by omega),wIg (by omega)]
   omega
theorem wOx {f g:Nat->Int} {k n:Nat} (hk:k < n) (h:∀ i,i < n->i ≠ k->g i=f i):wCN g n=wCN f n + (g k - f k):=by
 have:wCN g n=wCN (fun i=>f i + if i=k then g k - f k else 0) n:=wDI n fun i hi=>by
  by_cases e:i=k
  ·subst e;rw [if_pos rfl];omega
  ·rw [if_neg e,h i hi e];omega
 rw [this,wGN,wIg hk]
end Go.KL
namespace Go.Proofs.YtabadkdjndnliaaGreat
open Go.KL
open Classical
theorem wOy {S B:Type} {body:S->Option (S ⊕ B)} (I:S->Prop) (Z:B->Prop) (μ:S->Int) (lo:Int) (h:∀ s,I s->lo <= μ s) (step:∀ s,I s->(∃ s',body s=some (.inl s')/\I s'/\μ s' < μ s) \/ ∃ b,body s=some (.inr b)/\Z b) {s0:S} (h0:I s0) (hm:μ s0 - lo < 1000000000):∃ b,iter body big s0=some b/\Z b:=by
 have key:∀ (F:Nat) (s:S),I s->μ s - lo < F->∃ b,iter body F s=some b/\Z b:=by
  intro F
  induction F with
  | zero=>intro s hs hF;have:=h s hs;omega
  | succ F ih =>
   intro s hs hF
   rcases step s hs with ⟨s',e,i,m⟩ | ⟨b,e,z⟩
   ·obtain ⟨b,e2,z⟩:=ih s' i (by omega)
    exact ⟨b,by rw [iter,e];exact e2,z⟩
   ·exact ⟨b,by rw [iter,e],z⟩
 exact key big s0 h0 (by unfold big;omega)
theorem wOG (a v:Int) (b:Bool):wAK a v b=some (if v < a then v else a,if v < a then true else b):=by
 unfold wAK
 split <;> rfl
section
variable {p:wAA} {s:wAB} {o:List Int} {f:Int} {L K:Nat->Int}
structure Ge (p:wAA) (s:wAB) (f:Int) (L K:Nat->Int) (x:Int) (l k:List Int):Prop where
 ll:l.length=p.Classes.length
 kl:k.length=s.Classes.length
 xb:f <= x/\x <= 0
 lb:∀ j,j < p.Classes.length->L j <= gd l j/\gd l j <= 0
 kb:∀ i,i < s.Classes.length->K i <= gd k i/\gd k i <= 0
def tot (p:wAA) (s:wAB) (x:Int) (l k:List Int):Int:=x + wCN (gd l) p.Classes.length + wCN (gd k) s.Classes.length
structure Mv (p:wAA) (s:wAB) (b:Bool) (x:Int) (l k:List Int) (b':Bool) (x':Int) (l' k':List Int):Prop where
 le:tot p s x' l' k' <= tot p s x l k
 no:b'=false->b=false/\x'=x/\l'=l/\k'=k
 yes:b'=true->b=true \/ tot p s x' l' k' < tot p s x l k
theorem Mv.refl (b:Bool) (x:Int) (l k:List Int):Mv p s b x l k b x l k:=⟨Int.le_refl _,fun h=>⟨h,rfl,rfl,rfl⟩,.inl⟩
theorem Mv.trans {b:Bool} {x:Int} {l k:List Int} {b1:Bool} {x1:Int} {l1 k1:List Int} {b2:Bool} {x2:Int} {l2 k2:List Int} (h:Mv p s b x l k b1 x1 l1 k1) (g:Mv p s b1 x1 l1 k1 b2 x2 l2 k2):Mv p s b x l k b2 x2 l2 k2:=by
 have a:=h.le
 have c:=g.le
 refine ⟨by omega,fun e=>?_,fun e=>?_⟩
 ·obtain ⟨e1,rfl,rfl,rfl⟩:=g.no e
  exact h.no e1
 ·rcases g.yes e with e1 | lt
  ·rcases h.yes e1 with e2 | lt
   ·exact .inl e2
   ·exact .inr (by omega)
  ·exact .inr (by omega)
theorem wLJ {l:List Int} {j:Nat} (hj:j < l.length):l.set j (gd l j)=l:=by
 refine wSK (by rw [nk]) fun k hk=>?_
 rw [nk] at hk
 rw [wFt hj hk]
 split
 ·rename_i e;rw [e]
 ·rfl
theorem lowF {x:Int} {l k:List Int} (G:Ge p s f L K x l k) {v:Int} (hv:f <= v) (b:Bool):∃ r b',wAK x v b=some (r,b')/\Ge p s f L K r l k/\Mv p s b x l k b' r l k/\(b'=false->x <= v):=by
 have xb:=G.xb
 refine ⟨_,_,wOG _ _ _,⟨G.ll,G.kl,?_,G.lb,G.kb⟩,?_,?_⟩
 ·split <;> omega
 ·refine ⟨?_,fun e=>?_,fun e=>?_⟩
  ·unfold tot;split <;> omega
  ·split at e
   ·cases e
   ·rename_i q
    exact ⟨e,if_neg q,rfl,rfl⟩
  ·unfold tot
   split
   ·right;omega
   ·rename_i q
    rw [if_neg q] at e
    exact .inl e
 ·intro e
  split at e
  ·cases e
  ·omega
theorem wGO {l:List Int} {j n:Nat} (hl:l.length=n) (hj:j < n) (v:Int):wCN (gd (l.set j v)) n=wCN (gd l) n + (v - gd l j):=by
 rw [wOx (f:=gd l) (g:=gd (l.set j v)) hj fun i hi hne=>by rw [wFt (by omega) (by omega),if_neg hne],wFt (by omega) (by omega),if_pos rfl]
theorem lowL {x:Int} {l k:List Int} (G:Ge p s f L K x l k) {j:Nat} (hj:j < p.Classes.length) {v:Int} (hv:L j <= v) (b:Bool):∃ r b',wAK (gd l j) v b=some (r,b')/\Ge p s f L K x (l.set j r) k/\Mv p s b x l k b' x (l.set j r) k/\(b'=false->gd l j <= v):=by
 have ll:=G.ll
 have lb:=G.lb j hj
 refine ⟨_,_,wOG _ _ _,⟨by rw [nk];exact ll,G.kl,G.xb,fun i hi=>?_,G.kb⟩,?_,?_⟩
 ·have:=G.lb i hi
  rw [wFt (by omega) (by omega)]
  split
  ·rename_i e;subst e;split <;> omega
  ·exact this
 ·refine ⟨?_,fun e=>?_,fun e=>?_⟩
  ·unfold tot;rw [wGO ll hj];split <;> omega
  ·split at e
   ·cases e
   ·rename_i q
    rw [if_neg q]
    exact ⟨e,rfl,wLJ (by omega),rfl⟩
  ·unfold tot
   rw [wGO ll hj]
   split
   ·right;omega
   ·rename_i q
    rw [if_neg q] at e
    exact .inl e
 ·intro e
  split at e
  ·cases e
  ·omega
theorem lowK {x:Int} {l k:List Int} (G:Ge p s f L K x l k) {i:Nat} (hi:i < s.Classes.length) {v:Int} (hv:K i <= v) (b:Bool):∃ r b',wAK (gd k i) v b=some (r,b')/\Ge p s f L K x l (k.set i r)/\Mv p s b x l k b' x l (k.set i r)/\(b'=false->gd k i <= v):=by
 have kl:=G.kl
 have kb:=G.kb i hi
 refine ⟨_,_,wOG _ _ _,⟨G.ll,by rw [nk];exact kl,G.xb,G.lb,fun j hj=>?_⟩,?_,?_⟩
 ·have:=G.kb j hj
  rw [wFt (by omega) (by omega)]
  split
  ·rename_i e;subst e;split <;> omega
  ·exact this
 ·refine ⟨?_,fun e=>?_,fun e=>?_⟩
  ·unfold tot;rw [wGO kl hi];split <;> omega
  ·split at e
   ·cases e
   ·rename_i q
    rw [if_neg q]
    exact ⟨e,rfl,rfl,wLJ (by omega)⟩
  ·unfold tot
   rw [wGO kl hi]
   split
   ·right;omega
   ·rename_i q
    rw [if_neg q] at e
    exact .inl e
 ·intro e
  split at e
  ·cases e
  ·omega
theorem wPh (S:wFZ p s) {i k:Nat} (hi:i < s.Classes.length) (hk:k < p.Classes.length):wAT (⟨s,p⟩:wAI) (i:Int) (k:Int)=some (decide (wGD p s i k)):=by
 unfold wAT wGD
 simp only
 rw [wAY hi,hH,wAY hk,hH]
 exact congrArg some (decide_eq_decide.2 Iff.rfl)
def wRN (p:wAA) (s:wAB) (o:List Int) (k356:Nat):Nat->Bool × List Int × List Int->Option (Bool × List Int × List Int):=(fun k406 (b403,l404,l405) =>
          (wAT (⟨s,p⟩:wAI) (↑k356:Int) (↑k406:Int)).bind fun x462 =>
          if x462=true then
            (chk (↑k356:Int) l405.length).bind fun _ =>
            (chk (↑k406:Int) l404.length).bind fun _ =>
            (idx s.Times (↑k356:Int)).bind fun x485 =>
            (idx x485 (↑k406:Int)).bind fun x498 =>
            (wAK (gd l405 k356) (w64 ((gd l404 k406) + x498)) b403).bind fun (x507,x508) =>
            (chk (↑k406:Int) o.length).bind fun _ =>
            if (gd o k406)=(↑k356:Int) then
              (chk (↑k356:Int) (np l405 k356 x507).length).bind fun _ =>
              (wAK (gd l404 k406) (w64 ((gd (np l405 k356 x507) k356) - x498)) x508).bind fun (x569,x570) =>
              some (x570,(np l404 k406 x569),(np l405 k356 x507))
            else
              some (x508,l404,(np l405 k356 x507))
          else
            (chk (↑k406:Int) o.length).bind fun _ =>
            if (gd o k406)=(↑k356:Int) then
              (chk (↑k406:Int) l404.length).bind fun _ =>
              (chk (↑k356:Int) l405.length).bind fun _ =>
              (idx s.Times (↑k356:Int)).bind fun x609 =>
              (idx x609 (↑k406:Int)).bind fun x622 =>
              (wAK (gd l404 k406) (w64 ((gd l405 k356) - x622)) b403).bind fun (x631,x632) =>
              some (x632,(np l404 k406 x631),l405)
            else
              some (b403,l404,l405))
def CCq (p:wAA) (s:wAB) (o:List Int) (i k:Nat) (l r:List Int):Prop:=(wGD p s i k->gd r i <= gd l k + tm s i k)/\(gd o k=(i:Int)->gd l k <= gd r i - tm s i k)
theorem wOz (S:wFZ p s) (ho:o.length=p.Classes.length) (P:Pot p s o f L K) {i k:Nat} (hi:i < s.Classes.length) (hk:k < p.Classes.length) {b:Bool} {x:Int} {l r:List Int} (G:Ge p s f L K x l r):∃ b' l' r',wRN p s o i k (b,l,r)=some (b',l',r')/\Ge p s f L K x l' r'/\Mv p s b x l r b' x l' r'/\(b'=false->CCq p s o i k l r):=by
 have hT:=S.t
 have hR:=S.row i hi
 have tb:=wHc S hi hk
 have bl:=P.bl k hk
 have bk:=P.bk i hi
 have gl:=G.lb k hk
 have gk:=G.kb i hi
 have ll:=G.ll
 have kl:=G.kl
 unfold wRN
 simp only
 rw [wPh S hi hk,hH]
 by_cases m:wGD p s i k
 ·rw [if_pos (decide_eq_true m),wCu (by omega) (by omega),hH,wCu (by omega) (by omega),hH,wAY (by omega),hH,wAY (by omega),hH]
  have et:gd (gd s.Times i) k=tm s i k:=rfl
  rw [et,wAa (by omega) (by omega)]
  have pm:=P.may i k hi hk m
  obtain ⟨r1,b1,e1,G1,M1,c1⟩:=lowK G hi (v:=gd l k + tm s i k) (by omega) b
  rw [e1,hH]
  simp only
  rw [wCu (by omega) (by omega),hH]
  by_cases q:gd o k=(i:Int)
  ·rw [if_pos q,wCu (by omega) (by rw [nk];omega),hH]
   have gk1:=G1.kb i hi
   have ph:=P.hold k hk
   have wi:who o k=i:=by unfold who;rw [q];rfl
   rw [wi] at ph
   rw [wAa (by omega) (by omega)]
   obtain ⟨r2,b2,e2,G2,M2,c2⟩:=lowL G1 hk (v:=gd (r.set i r1) i - tm s i k) (by omega) b1
   rw [e2,hH]
   refine ⟨_,_,_,rfl,G2,M1.trans M2,fun e=>?_⟩
   have n2:=M2.no e
   have n1:=M1.no n2.1
   have e3:=c2 e
   rw [n1.2.2.2] at e3
   exact ⟨fun _=>c1 n2.1,fun _=>e3⟩
  ·rw [if_neg q]
   exact ⟨_,_,_,rfl,G1,M1,fun e=>⟨fun _=>c1 e,fun h=>absurd h q⟩⟩
 ·rw [if_neg (by rw [decide_eq_false m];exact kC),wCu (by omega) (by omega),hH]
  by_cases q:gd o k=(i:Int)
  ·rw [if_pos q,wCu (by omega) (by omega),hH,wCu (by omega) (by omega),hH,wAY (by omega),hH,wAY (by omega),hH]
   have et:gd (gd s.Times i) k=tm s i k:=rfl
   have ph:=P.hold k hk
   have wi:who o k=i:=by unfold who;rw [q];rfl
   rw [wi] at ph
   rw [et,wAa (by omega) (by omega)]
   obtain ⟨r2,b2,e2,G2,M2,c2⟩:=lowL G hk (v:=gd r i - tm s i k) (by omega) b
   rw [e2,hH]
   exact ⟨_,_,_,rfl,G2,M2,fun e=>⟨fun h=>absurd h m,fun _=>c2 e⟩⟩
  ·rw [if_neg q]
   exact ⟨_,_,_,rfl,G,Mv.refl _ _ _ _,fun _=>⟨fun h=>absurd h m,fun h=>absurd h q⟩⟩
theorem wOH (S:wFZ p s) (ho:o.length=p.Classes.length) (P:Pot p s o f L K) {i:Nat} (hi:i < s.Classes.length) {b:Bool} {x:Int} {l r:List Int} (G:Ge p s f L K x l r):∃ b' l' r',wCy 0 (↑l.length:Int) (wRN p s o i) (b,l,r)=some (b',l',r')/\Ge p s f L K x l' r'/\Mv p s b x l r b' x l' r'/\(b'=false->∀ k,k < p.Classes.length->CCq p s o i k l r):=by
 have hn:=S.rules.n
 obtain ⟨⟨b',l',r'⟩,e,g1,g2,g3⟩:=wEX (S:=Bool × List Int × List Int) (body:=wRN p s o i) (n:=l.length) (s0:=(b,l,r)) (fun k st=>Ge p s f L K x st.2.1 st.2.2/\Mv p s b x l r st.1 x st.2.1 st.2.2/\(st.1=false->∀ j,j < k->CCq p s o i j l r)) (by rw [G.ll];omega) ⟨G,Mv.refl _ _ _ _,fun _ j hj=>by omega⟩ (fun k st hk ⟨h1,h2,h3⟩=>by
  obtain ⟨b1,l1,r1⟩:=st
  simp only at h1 h2 h3
  obtain ⟨b2,l2,r2,e,G2,M2,c2⟩:=wOz S ho P (b:=b1) hi (by rw [<- G.ll];exact hk) h1
  refine ⟨_,e,G2,h2.trans M2,fun z j hj=>?_⟩
  have n2:=M2.no z
  by_cases q:j=k
  ·have n1:=h2.no n2.1
   have:=c2 z
   rw [n1.2.2.1,n1.2.2.2] at this
   rw [q];exact this
  ·exact h3 n2.1 j (by omega))
 exact ⟨b',l',r',e,g1,g2,fun z k hk=>g3 z k (by rw [G.ll];exact hk)⟩
end
end Go.Proofs.YtabadkdjndnliaaGreat
namespace Go.Proofs.YtabadkdjndnliaaGreat
open Go.KL
open Classical
section
variable {p:wAA} {s:wAB} {o:List Int} {f:Int} {L K:Nat->Int}
theorem wOI (ho:o.length <= 1000) (hr:∀ k,k < o.length->0 <= gd o k/\gd o k < 8):∃ a:Arr Int 8,(wCy 0 (↑o.length:Int) (fun k44 a43 =>
      (chk (↑k44:Int) o.length).bind fun _ =>
      (chk (gd o k44) 8).bind fun _ =>
      some (a43.set ((gd o k44).toNat) (w64 ((a43.get ((gd o k44).toNat)) + 1)))) (Arr.fill 8 0))=some a/\∀ i,i < 8->a.get i=(o.count (i:Int):Int):=by
  obtain ⟨a,e,h⟩:=wEX (S:=Arr Int 8) (body:=fun k44 a43 =>
      (chk (↑k44:Int) o.length).bind fun _ =>
      (chk (gd o k44) 8).bind fun _ =>
      some (a43.set ((gd o k44).toNat) (w64 ((a43.get ((gd o k44).toNat)) + 1)))) (n:=o.length) (s0:=Arr.fill 8 0) (fun k a=>∀ i,i < 8->a.get i=((o.take k).count (i:Int):Int)) ho (fun i hi=>by
        have:i=0 \/ i=1 \/ i=2 \/ i=3 \/ i=4 \/ i=5 \/ i=6 \/ i=7:=by omega
        rcases this with rfl | rfl | rfl | rfl | rfl | rfl | rfl | rfl <;> rfl) (fun k a hk h=>by
    have r:=hr k hk
    have c:=(kZ k o).count_le (gd o k)
    have cl:=kR (a:=gd o k) (l:=o)
    have hv:=h (gd o k).toNat (by omega)
    rw [nq r.1] at hv
    rw [wCu (by omega) (by omega),hH,wCu r.1 (by omega),hH]
    refine ⟨_,rfl,fun i hi=>?_⟩
    rw [arrN _ (by omega),wEw hk,nt,hv,wAa (by omega) (by omega)]
    by_cases e:i=(gd o k).toNat
    · have e':(i:Int)=gd o k:=by omega
      rw [if_pos e,e',kk,kE]
      omega
    · rw [if_neg e,kP (by omega),kE,h i hi]
      omega)
  rw [kL] at h
  exact ⟨a,e,h⟩
def skB (p:wAA) (s:wAB) (o:List Int) (y49:Arr Int 8):Nat->Bool × Int × List Int × List Int->Option (Bool × Int × List Int × List Int):=(fun k356 (b352,x353,l354,l355) =>
        (wCy 0 (↑l354.length:Int) (wRN p s o k356) (b352,l354,l355)).bind fun (y411,y412,y413) =>
        (chk (↑k356:Int) 8).bind fun _ =>
        if (y49.get k356) < p.Each then
          (chk (↑k356:Int) y413.length).bind fun _ =>
          (wAK x353 (gd y413 k356) y411).bind fun (x693,x694) =>
          if 0 < (y49.get k356) then
            (wAK (gd y413 k356) x693 x694).bind fun (x712,x713) =>
            some (x713,x693,y412,(np y413 k356 x712))
          else
            some (x694,x693,y412,y413)
        else
          if 0 < (y49.get k356) then
            (chk (↑k356:Int) y413.length).bind fun _ =>
            (wAK (gd y413 k356) x353 y411).bind fun (x747,x748) =>
            some (x748,x353,y412,(np y413 k356 x747))
          else
            some (y411,x353,y412,y413))
def DD (p:wAA) (s:wAB) (o:List Int) (i:Nat) (x:Int) (l r:List Int):Prop:=(∀ k,k < p.Classes.length->CCq p s o i k l r)/\((o.count (i:Int):Int) < p.Each->x <= gd r i)/\(0 < o.count (i:Int)->gd r i <= x)
theorem wQu (S:wFZ p s) (ho:o.length=p.Classes.length) (P:Pot p s o f L K) {y:Arr Int 8} (hy:∀ i,i < 8->y.get i=(o.count (i:Int):Int)) {i:Nat} (hi:i < s.Classes.length) {b:Bool} {x:Int} {l r:List Int} (G:Ge p s f L K x l r):∃ b' x' l' r',skB p s o y i (b,x,l,r)=some (b',x',l',r')/\Ge p s f L K x' l' r'/\Mv p s b x l r b' x' l' r'/\(b'=false->DD p s o i x l r):=by
 have hm:=S.m
 obtain ⟨b1,l1,r1,e1,G1,M1,c1⟩:=wOH S ho P (b:=b) hi G
 have hyi:=hy i (by omega)
 unfold skB
 simp only
 rw [e1,hH]
 simp only
 rw [wCu (by omega) (by omega),hH,hyi]
 have kl:=G1.kl
 have kb:=G1.kb i hi
 have xb:=G1.xb
 by_cases q1:(o.count (i:Int):Int) < p.Each
 ·rw [if_pos q1,wCu (by omega) (by omega),hH]
  have ps:=P.spare i hi q1
  obtain ⟨x2,b2,e2,G2,M2,c2⟩:=lowF G1 (v:=gd r1 i) (by omega) b1
  rw [e2,hH]
  simp only
  by_cases q2:0 < (o.count (i:Int):Int)
  ·rw [if_pos q2]
   have pu:=P.used i hi (by omega)
   have xb2:=G2.xb
   obtain ⟨r3,b3,e3,G3,M3,c3⟩:=lowK G2 hi (v:=x2) (by omega) b2
   rw [e3,hH]
   refine ⟨_,_,_,_,rfl,G3,(M1.trans M2).trans M3,fun z=>?_⟩
   have n3:=M3.no z
   have n2:=M2.no n3.1
   have n1:=M1.no n2.1
   have a2:=c2 n3.1
   have a3:=c3 z
   rw [n1.2.2.2] at a2 a3
   rw [n2.2.1] at a3
   exact ⟨c1 n2.1,fun _=>a2,fun _=>a3⟩
  ·rw [if_neg q2]
   refine ⟨_,_,_,_,rfl,G2,M1.trans M2,fun z=>?_⟩
   have n2:=M2.no z
   have n1:=M1.no n2.1
   have a2:=c2 z
   rw [n1.2.2.2] at a2
   exact ⟨c1 n2.1,fun _=>a2,fun h=>absurd h (by omega)⟩
 ·rw [if_neg q1]
  by_cases q2:0 < (o.count (i:Int):Int)
  ·rw [if_pos q2,wCu (by omega) (by omega),hH]
   have pu:=P.used i hi (by omega)
   obtain ⟨r3,b3,e3,G3,M3,c3⟩:=lowK G1 hi (v:=x) (by omega) b1
   rw [e3,hH]
   refine ⟨_,_,_,_,rfl,G3,M1.trans M3,fun z=>?_⟩
   have n3:=M3.no z
   have n1:=M1.no n3.1
   have a3:=c3 z
   rw [n1.2.2.2] at a3
   exact ⟨c1 n3.1,fun h=>absurd h q1,fun _=>a3⟩
  ·rw [if_neg q2]
   exact ⟨_,_,_,_,rfl,G1,M1,fun z=>⟨c1 z,fun h=>absurd h q1,fun h=>absurd h (by omega)⟩⟩
theorem wQv (S:wFZ p s) (ho:o.length=p.Classes.length) (P:Pot p s o f L K) {y:Arr Int 8} (hy:∀ i,i < 8->y.get i=(o.count (i:Int):Int)) {b:Bool} {x:Int} {l r:List Int} (G:Ge p s f L K x l r):∃ b' x' l' r',wCy 0 (↑r.length:Int) (skB p s o y) (b,x,l,r)=some (b',x',l',r')/\Ge p s f L K x' l' r'/\Mv p s b x l r b' x' l' r'/\(b'=false->∀ i,i < s.Classes.length->DD p s o i x l r):=by
 have hm:=S.m
 obtain ⟨⟨b',x',l',r'⟩,e,g1,g2,g3⟩:=wEX (S:=Bool × Int × List Int × List Int) (body:=skB p s o y) (n:=r.length) (s0:=(b,x,l,r)) (fun k st=>Ge p s f L K st.2.1 st.2.2.1 st.2.2.2/\Mv p s b x l r st.1 st.2.1 st.2.2.1 st.2.2.2/\(st.1=false->∀ j,j < k->DD p s o j x l r)) (by rw [G.kl];omega) ⟨G,Mv.refl _ _ _ _,fun _ j hj=>by omega⟩ (fun k st hk ⟨h1,h2,h3⟩=>by
  obtain ⟨b1,x1,l1,r1⟩:=st
  simp only at h1 h2 h3
  obtain ⟨b2,x2,l2,r2,e,G2,M2,c2⟩:=wQu S ho P hy (b:=b1) (i:=k) (by rw [<- G.kl];exact hk) h1
  refine ⟨_,e,G2,h2.trans M2,fun z j hj=>?_⟩
  have n2:=M2.no z
  by_cases q:j=k
  ·have n1:=h2.no n2.1
   have:=c2 z
   rw [n1.2.1,n1.2.2.1,n1.2.2.2] at this
   rw [q];exact this
  ·exact h3 n2.1 j (by omega))
 exact ⟨b',x',l',r',e,g1,g2,fun z i hi=>g3 z i (by rw [G.kl];exact hi)⟩
def wLK (p:wAA) (s:wAB) (o:List Int) (y49:Arr Int 8):Int × List Int × List Int->Option (Int × List Int × List Int ⊕ Int × List Int × List Int):=(fun (x306,l307,l308) =>
      (wCy 0 (↑l308.length:Int) (skB p s o y49) (false,x306,l307,l308)).bind fun (y361,y362,y363,y364) =>
      if y361=true then
        some (.inl (y362,y363,y364))
      else
        esc (some (y362,y363,y364)))
theorem wKP {g:Nat->Int} {c:Int}:∀ n:Nat,(∀ i,i < n->c <= g i)->c * (n:Int) <= wCN g n
 | 0,_=>by simp [wCN]
 | n + 1,h=>by
  have a:=wKP n fun i hi=>h i (by omega)
  have b:=h n (by omega)
  rw [wCN,Int.natCast_succ,Int.mul_add]
  omega
theorem rounds (S:wFZ p s) (A:Adm p s (-1) o) (P:Pot p s o f L K) {y:Arr Int 8} (hy:∀ i,i < 8->y.get i=(o.count (i:Int):Int)) {l0 r0:List Int} (G0:Ge p s f L K 0 l0 r0) (h0:tot p s 0 l0 r0=0):∃ x l r,iter (wLK p s o y) big (0,l0,r0)=some (x,l,r)/\l.length=p.Classes.length/\r.length=s.Classes.length/\Pot p s o x (gd l) (gd r):=by
 have hm:=S.m
 have hn:=S.rules.n
 have ho:=A.len
 obtain ⟨⟨x,l,r⟩,e,z⟩:=wOy (S:=Int × List Int × List Int) (B:=Int × List Int × List Int) (body:=wLK p s o y) (s0:=(0,l0,r0)) (fun st=>Ge p s f L K st.1 st.2.1 st.2.2) (fun st=>st.2.1.length=p.Classes.length/\st.2.2.length=s.Classes.length/\Pot p s o st.1 (gd st.2.1) (gd st.2.2)) (fun st=>tot p s st.1 st.2.1 st.2.2) (-400000 * 13) (fun st G=>by
  have a:=wKP (g:=gd st.2.1) (c:=-400000) p.Classes.length fun i hi=>by
   have:=G.lb i hi
   have:=P.bl i hi
   omega
  have b:=wKP (g:=gd st.2.2) (c:=-400000) s.Classes.length fun i hi=>by
   have:=G.kb i hi
   have:=P.bk i hi
   omega
  have:=G.xb
  have:=P.bf
  unfold tot
  omega) (fun st G=>by
  obtain ⟨x,l,r⟩:=st
  simp only at G ⊢
  obtain ⟨b',x',l',r',e,G',M,c⟩:=wQv S ho P hy (b:=false) G
  unfold wLK
  simp only
  rw [e,hH]
  cases b' with
  | true =>
   left
   refine ⟨_,if_pos rfl,G',?_⟩
   rcases M.yes rfl with h | h
   ·cases h
   ·exact h
  | false =>
   right
   obtain ⟨_,rfl,rfl,rfl⟩:=M.no rfl
   refine ⟨_,if_neg kC,G.ll,G.kl,?_⟩
   have d:=c rfl
   have xb:=G.xb
   have bf:=P.bf
   refine ⟨by simp only;omega,fun k hk=>?_,fun i hi=>?_,fun i k hi hk hm=>((d i hi).1 k hk).1 hm,fun k hk=>?_,fun i hi hc=>(d i hi).2.1 hc,fun i hi hc=>(d i hi).2.2 hc⟩
   ·have:=G.lb k hk
    have:=P.bl k hk
    simp only;omega
   ·have:=G.kb i hi
    have:=P.bk i hi
    simp only;omega
   ·have w:=wFY A hk
    exact ((d (who o k) w.1).1 k hk).2 w.2) G0 (by simp only;omega)
 exact ⟨x,l,r,e,z⟩
end
end Go.Proofs.YtabadkdjndnliaaGreat
namespace Go.Proofs.YtabadkdjndnliaaGreat
open Go.KL
open Classical
section
variable {p:wAA} {s:wAB}
theorem set_z (q:Nat) (D:List Int) (d:Int):(nj (q + 1) (0:Int) ++ D).set q d=nj q 0 ++ d :: D:=by
 rw [List.replicate_succ',nQ,List.set_append_right _ _ (by simp)]
 simp
theorem wQw (a:Nat) {m:Nat} (hm:0 < m):rem (a:Int) (m:Int)=some ((a % m:Nat):Int):=by
 unfold rem
 rw [if_neg (by omega),Int.tmod_eq_emod_of_nonneg (by omega)]
 rfl
theorem wQx {a m:Nat} (hm:0 < m) (ha:a <= 4096):quo (a:Int) (m:Int)=some ((a / m:Nat):Int):=by
 have:=Nat.div_le_self a m
 unfold quo
 have h0:(0:Int) <= ((a / m:Nat):Int):=Int.natCast_nonneg _
 rw [if_neg (by omega),Int.tdiv_eq_ediv_of_nonneg (by omega),<- Int.natCast_ediv]
 generalize a / m=q at *
 rw [wAa (by omega) (by omega)]
def decB (p:wAA) (s:wAB) (w:Int) (l54:List Int) (x57:Int):List Int × Int × Bool × Int->Option (List Int × Int × Bool × Int ⊕ List Int × Int):=(fun (l111,x112,b113,x114) =>
          if 0 <= x114 then
            (rem x112 (↑s.Classes.length:Int)).bind fun x139 =>
            (chk x114 l111.length).bind fun _ =>
            (quo x112 (↑s.Classes.length:Int)).bind fun x148 =>
            if b113=true then
              (chk x114 (np l111 x114.toNat x139).length).bind fun _ =>
              some (.inl ((np l111 x114.toNat x139),x148,decide (¬ ((gd (np l111 x114.toNat x139) x114.toNat)=w)),w64 (x114 - 1)))
            else
              some (.inl ((np l111 x114.toNat x139),x148,false,w64 (x114 - 1)))
          else
            esc ((wAv (rfR p) (rfS s) l111).bind fun x186 =>
            if b113=true then
              if 0 <= x186 then
                if x57 < 0 then
                  some (l111,x186)
                else
                  if x186 < x57 then
                    some (l111,x186)
                  else
                    some (l54,x57)
              else
                some (l54,x57)
            else
              some (l54,x57)))
theorem wST (S:wFZ p s) (w:Int) (l:List Int) (x:Int) {c:Nat} (hc:c <= 4096):iter (decB p s w l x) big (nj p.Classes.length 0,(c:Int),true,w64 ((p.Classes.length:Int) - 1))=some (upR (tk p s) w (l,x) (dig s.Classes.length p.Classes.length c)):=by
 have hm:=S.m
 have hn:=S.rules.n
 have hdl:=wOC s.Classes.length
 have hp:∀ j,c / s.Classes.length ^ j <= 4096:=fun j=>nv (Nat.div_le_self _ _) hc
 refine wLG (fun j=>(nj (p.Classes.length - j) 0 ++ dig s.Classes.length j c,((c / s.Classes.length ^ j:Nat):Int),decide (w ∉ dig s.Classes.length j c),(p.Classes.length:Int) - 1 - j)) p.Classes.length ?_ (by omega) (fun j hj=>?_) ?_
 ·simp only [Nat.sub_zero,dig,nY,Nat.pow_zero,Nat.div_one,List.not_mem_nil,not_false_eq_true,decide_true]
  rw [wAa (by omega) (by omega)]
  simp
 ·have hq:=hp j
  have lt:=Nat.mod_lt (c / s.Classes.length ^ j) (show s.Classes.length > 0 by omega)
  have er:=wQw (c / s.Classes.length ^ j) (m:=s.Classes.length) (by omega)
  have eq:=wQx (a:=c / s.Classes.length ^ j) (m:=s.Classes.length) (by omega) (by omega)
  rw [ki,<- ku] at eq
  have ei:((p.Classes.length:Int) - 1 - j).toNat=p.Classes.length - (j + 1):=by omega
  have en:p.Classes.length - j=p.Classes.length - (j + 1) + 1:=by omega
  have ls:(nj (p.Classes.length - j) (0:Int) ++ dig s.Classes.length j c).length=p.Classes.length:=by
   rw [nO,nw,hdl];omega
  unfold decB
  simp only
  rw [if_pos (by omega),er,hH,wCu (by omega) (by omega),hH,eq,hH,ei,en,set_z]
  have eg:gd (nj (p.Classes.length - (j + 1)) (0:Int) ++ ((c / s.Classes.length ^ j % s.Classes.length:Nat):Int) :: dig s.Classes.length j c) (p.Classes.length - (j + 1))=((c / s.Classes.length ^ j % s.Classes.length:Nat):Int):=by
   have:=wFS (nj (p.Classes.length - (j + 1)) (0:Int)) (dig s.Classes.length j c) ((c / s.Classes.length ^ j % s.Classes.length:Nat):Int)
   rwa [nw] at this
  rw [eg,wAa (by omega) (by omega)]
  have ej:(p.Classes.length:Int) - 1 - j - 1=(p.Classes.length:Int) - 1 - ((j + 1:Nat):Int):=by omega
  rw [ej]
  by_cases b:w ∉ dig s.Classes.length j c
  ·rw [if_pos (decide_eq_true b),wCu (by omega) (by rw [nO,nW,nw,hdl];omega),hH]
   have:decide (¬ ((c / s.Classes.length ^ j % s.Classes.length:Nat):Int)=w)=decide (w ∉ dig s.Classes.length (j + 1) c):=by
    refine decide_eq_decide.2 ?_
    rw [dig,nD,not_or]
    exact ⟨fun h=>⟨fun e=>h e.symm,b⟩,fun h e=>h.1 e.symm⟩
   rw [this]
   rfl
  ·rw [if_neg (by rw [decide_eq_false b];exact kC)]
   have:false=decide (w ∉ dig s.Classes.length (j + 1) c):=by
    refine (decide_eq_false ?_).symm
    rw [dig,nD,not_or]
    exact fun h=>b h.2
   rw [this]
   rfl
 ·unfold decB
  simp only
  rw [if_neg (by omega),kf]
  simp only [List.replicate_zero,nP]
  have rg:∀ i,i < (dig s.Classes.length p.Classes.length c).length->0 <= gd (dig s.Classes.length p.Classes.length c) i/\gd (dig s.Classes.length p.Classes.length c) i < s.Classes.length:=fun i hi=>wPf (by omega) (wCh hi)
  rw [wJO S (hdl _ _) rg,hH]
  congr 1
  unfold upR
  by_cases b:w ∈ dig s.Classes.length p.Classes.length c
  ·rw [if_pos b,if_neg (by rw [decide_eq_false (fun h=>h b)];exact kC)]
  ·rw [if_neg b,if_pos (decide_eq_true b)]
   cases ht:tk p s (dig s.Classes.length p.Classes.length c) with
   | none=>rfl
   | some v =>
    have:=wSP S (by rw [hdl];exact nE _) rg ht
    simp only
    rw [if_pos this]
    by_cases c1:x < 0
    ·rw [if_pos c1,if_pos (.inl c1)]
    ·rw [if_neg c1]
     by_cases c2:v < x
     ·rw [if_pos c2,if_pos (.inr c2)]
     ·rw [if_neg c2,if_neg fun h=>h.elim c1 c2]
theorem wOJ (S:wFZ p s) {j:Nat} (hj:j <= p.Classes.length):s.Classes.length ^ j <= 4096:=by
 have hm:=S.m
 have hn:=S.rules.n
 have a:=Nat.pow_le_pow_left hm.2 j
 have b:=Nat.pow_le_pow_right (show 0 < 8 by omega) (show j <= 4 by omega)
 have:8 ^ 4=4096:=rfl
 omega
theorem wPA (S:wFZ p s) (w:Int):wAr (rfR p) (rfS s) w=some ((wCj s.Classes.length alw p.Classes.length []).foldl (upR (tk p s) w) ([],-1)):=by
 have hm:=S.m
 have hn:=S.rules.n
 have hp:(rfR p).Classes=p.Classes:=rfl
 have hs:(rfS s).Classes=s.Classes:=rfl
 unfold wAr
 rw [hp,hs]
 refine wLG (fun j=>(((s.Classes.length ^ j:Nat):Int),(j:Int))) p.Classes.length rfl (by omega) (fun j hj=>?_) ?_
 ·have:=wOJ S (j:=j + 1) (by omega)
  have:=wOJ S (j:=j) (by omega)
  simp only
  rw [if_pos (by omega),<- Int.natCast_mul,<- ku,Nat.succ_eq_add_one,wAa (by omega) (by omega),wAa (by omega) (by omega)]
  rfl
 ·have hb:=wOJ S (nE _)
  simp only
  rw [if_neg (by omega),wDj (S:=List Int × Int) (n:=s.Classes.length ^ p.Classes.length) (fun q=>((nK q).map (dig s.Classes.length p.Classes.length)).foldl (upR (tk p s) w) ([],-1)) (s0:=([],-1)) rfl (by omega) fun c hc=>?_,hH,wSO (by omega)]
  generalize hT:((nK c).map (dig s.Classes.length p.Classes.length)).foldl (upR (tk p s) w) ([],-1)=T
  rw [kS,List.map_append,kG,hT]
  obtain ⟨l,x⟩:=T
  have em:mkz 8 (p.Classes.length:Int) (0:Int)=some (nj p.Classes.length 0):=by
   unfold mkz
   rw [if_pos ⟨by omega,by omega,by omega⟩,ni]
  simp only
  rw [em,hH,nw]
  have d:=wST S w l x (c:=c) (by omega)
  unfold decB at d
  rw [d,hH]
  rfl
theorem wHM (S:wFZ p s) (w:Int):∃ a b,wAr (rfR p) (rfS s) w=some a/\wAd ⟨s,p⟩ w=some b/\Kpt a b:=by
 have hn:=S.rules.n
 refine ⟨_,_,wPA S w,?_,wSQ S w p.Classes.length [] _ _ (.inl ⟨rfl,rfl,rfl⟩) (by simp) (by simp) (fun i hi=>by simp at hi)⟩
 unfold wAd
 have:=wNx S w p.Classes.length 1000 [] ([],0) (by omega) (by simp) (fun i hi=>by simp at hi)
 simp only at this
 rw [this,hH]
theorem wOK (W:Wd p s) (w:Int):∃ r,wCv p s w=some r/\wBp (rfR p) (rfS s) w=some r:=by
 have hs:(rfS s).Classes=s.Classes:=rfl
 have wb:=W.b
 unfold wCv wBp
 rw [wDH W,hH,wEQ W,hH,hs]
 by_cases h0:wEx p s=0
 case neg=>exact ⟨_,by rw [if_neg h0],by rw [if_neg h0]⟩
 have S:=wFW h0
 have hm:=S.m
 rw [if_pos h0,if_pos h0,wAa (by omega) (by omega),wId,hH,wEe,hH]
 cases hb:inB w 0 ((s.Classes.length:Int) - 1) with
 | false=>exact ⟨(0,1),rfl,rfl⟩
 | true =>
  obtain ⟨a,b,ea,eb,R⟩:=wHM S (-1)
  obtain ⟨a',b',ea',eb',R'⟩:=wHM S w
  obtain ⟨st,es,B⟩:=wKO S (-1)
  obtain ⟨st',es',B'⟩:=wKO S w
  rw [eb] at es
  rw [eb'] at es'
  obtain rfl:=nI es
  obtain rfl:=nI es'
  have v:=wPd S B
  have v':=wPd S B'
  simp only [if_true,Bool.not_true,nG,if_false]
  rw [ea,hH,eb,hH,ea',hH,eb',hH]
  rcases R' with ⟨x1,x2,rfl⟩ | ⟨x1,x2,rfl⟩
  ·exact ⟨(0,6),by simp,by rw [if_pos (by omega)]⟩
  ·rw [if_neg x1,if_neg (by omega)]
   refine ⟨_,rfl,?_⟩
   rcases R with ⟨y1,y2,rfl⟩ | ⟨y1,y2,rfl⟩
   ·exact absurd (B'.some_ x1).1 fun h=>(B.none_ rfl).2 _ (wQo h)
   ·rfl
end
end Go.Proofs.YtabadkdjndnliaaGreat
