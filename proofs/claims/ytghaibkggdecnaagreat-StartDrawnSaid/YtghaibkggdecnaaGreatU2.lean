import Derived.Test.YtghaibkggdecnaaGreatU1
import Derived.Test.YtghaibkggdecnaaGreatU0
set_option linter.all false
open Option renaming bind_some->nA
open Bool renaming and_eq_true->nB,false_eq_true->nH,or_eq_true->na,true_and->kD,not_eq_true'->kS,eq_iff_iff->kc
open Nat renaming eq_of_beq_eq_true->nD,beq->nM,le_refl->nP,blt_eq->nq,sub_self->nz,blt->kG,le_trans->kH,zero_add->kJ,lt_of_lt_of_le->kQ,min_eq_left->kf,lt_irrefl->kj,ble_eq->kz
open List renaming nodup_iff_pairwise_ne->nE,all_eq_true->nG,cons_append->nI,mem_cons->nK,mem_append->nL,append_assoc->nN,getElem?_eq_getElem->nO,append_of_mem->nQ,nil_append->nR,pairwise_iff_getElem->nT,length_append->nU,length_take->nV,pairwise_cons->nW,mem_append_right->nX,getElem?_eq_some_iff->nY,drop_eq_getElem_cons->nZ,mem_cons_of_mem->nb,take_length->nc,take_append_drop->nf,map_append->nh,getD_eq_getElem?_getD->ni,range->nj,length_drop->nk,mem_cons_self->nl,length_map->no,drop_eq_nil_of_le->np,mem_append_left->nr,pairwise_append->nt,mem_of_mem_take->nu,getElem?_append_right->nv,map_cons->nw,append_nil->ny,mem_singleton->kA,flatten_cons->kB,take_of_length_le->kC,getElem_map->kE,mem_filter->kK,mergeSort_perm->kL,flatten_append->kM,replicate->kO,nodup_append->kU,getElem?_append_left->kV,length_cons->kW,set->kX,pairwise_mergeSort->kZ,range_succ->ke,pairwise_lt_range->kg,mem_range->kh,set_append_right->ki,sum_cons->kk,filter_eq_self->kl,mem_filterMap->km,all_map->ko,mem_map->kq,set_cons_zero->kr,filter_filter->ku,filter_congr->kx
open Option.some renaming inj->nJ,injEq->kv
open List.cons renaming injEq->nS,inj->aC
open List.Perm renaming refl->kP,eq_of_pairwise->kY,trans->aA,of_eq->aB
open Int renaming tmod_eq_emod_of_nonneg->kR
namespace Go.KX
noncomputable section
open Go.RowKit Go.KL
def wBa:List AOd->List Pos
 | []=>[]
 | .t p :: l=>p :: wBa l
 | .c _ :: l=>wBa l
def wJl:AOp->Bool
 | .new _ _ | .box _ _ | .mkm | .mks _ _ _ _ _ _ | .blds _ _ _ _=>true
 | _=>false
def wBK (a:AO):List Pos:=wBa (wAo a.op) ++ (match a.grd with | some (p,_)=>[p] | none=>[])
def Sub (a:AOp) (o:Oper):Prop:=∀ t,Operand.tmp t ∈ o.op.operands->∃ p ∈ wBa (wAo a),p.nat - 1=t
def wIh (l:List Oper) (x i:Nat):Prop:=∀ S:Nat->Bool,(∀ k,k < l.length->S k=true->∀ j ∈ prI l k,S j=true)->(∀ j ∈ prI l i,S j=true)->S x=true
def wFR (acc:List Nat):List Nat->Nat
 | []=>0
 | p :: ps=>wFR acc ps ||| (2 ^ p ||| acc.getD p 0)
def wNG (acc:List Nat):List Oper->List Nat
 | []=>acc
 | o :: r=>wNG (acc ++ [wFR acc (wJB o)]) r
theorem wGH {acc:List Nat} {x:Nat}:∀ {ps:List Nat},(wFR acc ps).testBit x=true->∃ p ∈ ps,x=p \/ (acc.getD p 0).testBit x=true
 | [],h=>by simp [wFR] at h
 | p :: ps,h=>by
  simp only [wFR,Nat.testBit_or,na,Nat.testBit_two_pow,decide_eq_true_eq] at h
  rcases h with h | h | h
  ·obtain ⟨q,h1,h2⟩:=wGH h
   exact ⟨q,by simp [h1],h2⟩
  ·exact ⟨p,by simp,.inl h.symm⟩
  ·exact ⟨p,by simp,.inr h⟩
theorem wIB {l:List Oper} (hpr:∀ i,i < l.length->∀ j ∈ prI l i,j < i):∀ (rest done:List Oper) (acc:List Nat),l=done ++ rest->acc.length=done.length->(∀ i x,(acc.getD i 0).testBit x=true->wIh l x i) ->
  ∀ i x,((wNG acc rest).getD i 0).testBit x=true->wIh l x i
 | [],done,acc,_,_,h,i,x,hx=>h i x hx
 | o :: r,done,acc,hl,hlen,h,i,x,hx=>by
  refine wIB hpr r (done ++ [o]) (acc ++ [wFR acc (wJB o)]) (by rw [hl];simp) (by simp [hlen]) ?_ i x hx
  intro i x hx
  rcases Nat.lt_trichotomy i acc.length with hi | hi | hi
  ·rw [ni,kV hi,<- ni] at hx
   exact h i x hx
  ·rw [ni,hi,nv (nP _),nz] at hx
   have hx:(wFR acc (wJB o)).testBit x=true:=hx
   have hlt:done.length < l.length:=by rw [hl];simp
   have hp:prI l done.length=wJB o:=by
    unfold prI
    rw [hl,nv (nP _),nz]
    rfl
   obtain ⟨p,h1,h2⟩:=wGH hx
   intro S hdc hS
   rw [hi,hlen] at hS
   have hSp:S p=true:=hS p (by rw [hp];exact h1)
   rcases h2 with rfl | h2
   ·exact hSp
   ·have:=hpr _ hlt p (by rw [hp];exact h1)
    exact h p x h2 S hdc (hdc p (by omega) hSp)
  ·rw [ni,List.getElem?_eq_none (by simp;omega)] at hx
   simp at hx
def dne (b:AO) (p:Pos):Bool:=match b.dst with
 | none=>true
 | some q=>!Pos.beq q p
def subB (a:AOp) (o:Oper):Bool:=o.op.operands.toList.all fun
 | .tmp t=>(wBa (wAo a)).any fun p=>nM p.nat (t + 1)
 | _=>true
def kdOK (a:AO):Bool:=wBG a.kd || (a.dst.isSome && (nM a.kd 1 || (nM a.kd 3 || ((nM a.kd 6 && nM (kdA a.op) 3) || ((nM a.kd 4 && wJl a.op) || (Nat.ble 8 a.kd && nM (kdA a.op) 1))))))
def zld (m kd:Nat):Nat->List AO->Bool
 | _,[]=>true
 | n,b :: d=>(!Nat.beq b.kd 0 || (m.testBit b.ix || kG (n + 8) kd)) && zld m kd (match wBG b.kd with | true=>n + 1 | false=>n) d
def zop (m:Nat) (l:List Oper) (d:List AO) (a:AO) (t:List AO):Bool :=
 (!wBG a.kd || d.all fun b=>m.testBit b.ix) &&
 ((match a.dst with | none=>true | some p=>d.all (fun b=>dne b p) && t.all (fun b=>dne b p)) &&
 ((wBK a).all (fun p=>dne a p && (t.all (fun b=>dne b p) && d.all (fun b=>dne b p || (m.testBit b.ix && (!(nM a.kd 1 || (nM a.kd 3 || Nat.ble 8 a.kd)) || !(nM b.kd 4 || nM b.kd 6)))))) &&
 ((!Nat.beq a.kd 1 || d.all fun b=>!Nat.beq b.kd 0 || m.testBit b.ix) && (!Nat.ble 8 a.kd || zld m a.kd 0 d) &&
 (t.all (fun b=>!Nat.beq b.ix a.ix) &&
 (kdOK a && (match l[a.ix]? with | none=>false | some o=>!wAt o && subB a.op o))))))
def zgo (an:List Nat) (l:List Oper) (d:List AO):List AO->Bool
 | []=>true
 | a :: t=>zop (an.getD a.ix 0) l d a t && zgo an l (a :: d) t
def wOJ (a:AO):Bool:=nM a.kd 0 && (match a.op with | .mv _=>true | _=>false)
def wOK:List AO->List AO
 | []=>[]
 | a :: t=>match wOJ a with
  | true=>[]
  | false=>a :: wOK t
def wMY:List AO->List AO
 | []=>[]
 | a :: t=>match wOJ a with
  | true=>a :: t
  | false=>wMY t
theorem wNH:∀ os:List AO,os=wOK os ++ wMY os
 | []=>rfl
 | a :: t=>by
  unfold wOK wMY
  cases wOJ a with
  | true=>rfl
  | false=>exact congrArg (a :: ·) (wNH t)
def ztl (an:List Nat) (l:List Oper) (os:List AO):Bool :=
 ((wMY os).all (fun a=>kG a.kd 8) && (wOK os).all fun a=>kG a.kd 8 || ((wBK a).all (fun p=>(wMY os).all fun b=>dne b p) && (match a.dst with | some p=>(wMY os).all fun b=>dne b p | none=>true))) && (zgo an l [] (wOK os) && (zgo an l [] (wMY os) && (wMY os).all fun b=>(wOK os).all fun a=>!Nat.beq a.ix b.ix && (an.getD b.ix 0).testBit a.ix))
def chkZ (l:List Oper) (os:List AO):Bool :=
 (nj l.length).all (fun i=>(prI l i).all (kG · i)) && ((nj l.length).all (fun i=>os.any fun a=>nM a.ix i) && (zgo (wNG [] l) l [] os || ztl (wNG [] l) l os))
def wMJ (l:List AO):Nat:=l.countP fun b=>wBG b.kd
structure ZOK (P:Program) (N:Nat) (l:List Oper) (os:List AO):Prop where
 ao:∀ a ∈ os,wFQ P N l a=true
 one:os.Pairwise fun a b=>a.ix ≠ b.ix
 pr:∀ i,i < l.length->∀ j ∈ prI l i,j < i
 anc:∀ s a t,os=s ++ a :: t->wBG a.kd=true->∀ b ∈ s,wIh l b.ix a.ix
 wr:∀ s a t,os=s ++ a :: t->∀ p,a.dst=some p->∀ b ∈ s ++ t,b.dst ≠ some p
 rd:∀ s a t,os=s ++ a :: t->∀ p ∈ wBK a,∀ b ∈ a :: t,b.dst ≠ some p
 rdS:∀ a ∈ os,∀ p ∈ wBK a,∀ b ∈ os,b.dst=some p->wIh l b.ix a.ix
 kd:∀ a ∈ os,wBG a.kd=true \/ (a.dst ≠ none/\(a.kd=1 \/ a.kd=3 \/ (a.kd=6/\kdA a.op=3) \/ (a.kd=4/\wJl a.op=true) \/ (8 <= a.kd/\kdA a.op=1)))
 cl:∀ a ∈ os,a.kd=1 \/ a.kd=3 \/ 8 <= a.kd->∀ p ∈ wBK a,∀ b ∈ os,b.dst=some p->b.kd ≠ 4/\b.kd ≠ 6
 sel:∀ a ∈ os,∀ o,l[a.ix]?=some o->wAt o=false
 sub:∀ a ∈ os,∀ o,l[a.ix]?=some o->Sub a.op o
 ld:∀ s a t,os=s ++ a :: t->a.kd=1->∀ b ∈ s,b.kd=0->wIh l b.ix a.ix
 ld8:∀ s a t,os=s ++ a :: t->8 <= a.kd->∀ s1 b s2,s=s1 ++ b :: s2->b.kd=0->wIh l b.ix a.ix \/ wMJ s2 + 8 < a.kd
theorem wNI {m kd:Nat}:∀ (x:List AO) (b:AO) (y:List AO) (n:Nat),zld m kd n (x ++ b :: y)=true->b.kd=0->m.testBit b.ix=true \/ n + wMJ x + 8 < kd
 | [],b,y,n,h,h0=>by
  rw [nR,zld,h0] at h
  simp only [nB,na,nq] at h
  rcases h.1 with g | g | g
  ·exact absurd g (by decide)
  ·exact .inl g
  ·exact .inr g
 | c :: x,b,y,n,h,h0=>by
  rw [nI,zld] at h
  simp only [nB] at h
  have:=wNI x b y _ h.2 h0
  refine this.imp id fun h=>?_
  unfold wMJ at h ⊢
  rw [List.countP_cons]
  cases hf:wBG c.kd <;> rw [hf] at h <;> simp only [if_true,if_false,nH] at h ⊢ <;> omega
theorem Pos.beq_self:∀ p:Pos,p.beq p=true
 | .H=>rfl
 | .O p=>Pos.beq_self p
 | .I p=>Pos.beq_self p
theorem wFS {b:AO} {p:Pos} (h:dne b p=true):b.dst ≠ some p:=by
 intro e
 unfold dne at h
 rw [e] at h
 simp [Pos.beq_self] at h
theorem wNJ {an:List Nat} {l:List Oper}:∀ (os d:List AO),zgo an l d os=true->∀ s a t,os=s ++ a :: t->zop (an.getD a.ix 0) l (s.reverse ++ d) a t=true
 | [],d,_,s,a,t,e=>by simp at e
 | b :: os,d,h,[],a,t,e=>by
  simp only [nR,nS] at e
  obtain ⟨rfl,rfl⟩:=e
  simp only [zgo,nB] at h
  exact h.1
 | b :: os,d,h,c :: s,a,t,e=>by
  simp only [nI,nS] at e
  obtain ⟨rfl,rfl⟩:=e
  simp only [zgo,nB] at h
  have:=wNJ (s ++ a :: t) (b :: d) h.2 s a t rfl
  simpa using this
theorem wPW {α:Type} {R:α->α->Prop}:∀ (l:List α),(∀ s a t,l=s ++ a :: t->∀ b ∈ t,R a b)->l.Pairwise R
 | [],_=>List.Pairwise.nil
 | a :: l,h=>nW.2 ⟨fun b hb=>h [] a l rfl b hb,wPW l fun s b t e=>h (a :: s) b t (by rw [e];rfl)⟩
theorem wIi {P:Program} {N:Nat} {l:List Oper} {os:List AO} (hao:∀ a ∈ os,wFQ P N l a=true) (hpr:∀ i,i < l.length->∀ j ∈ prI l i,j < i) (hz:zgo (wNG [] l) l [] os=true):ZOK P N l os:=by
 have han:∀ i x,((wNG [] l).getD i 0).testBit x=true->wIh l x i:=wIB hpr l [] [] rfl rfl fun i x h=>by simp at h
 have key:∀ s a t,os=s ++ a :: t->zop ((wNG [] l).getD a.ix 0) l s.reverse a t=true:=fun s a t e=>by
  have:=wNJ os [] hz s a t e
  rwa [ny] at this
 have wJR:∀ s a t,os=s ++ a :: t ->
   (wBG a.kd=true->∀ b ∈ s,wIh l b.ix a.ix)/\(∀ p,a.dst=some p->∀ b ∈ s ++ t,b.dst ≠ some p) /\
   (∀ p ∈ wBK a,(∀ b ∈ a :: t,b.dst ≠ some p)/\∀ b ∈ s,b.dst=some p->wIh l b.ix a.ix/\(a.kd=1 \/ a.kd=3 \/ 8 <= a.kd->b.kd ≠ 4/\b.kd ≠ 6)) /\
   ((a.kd=1->∀ b ∈ s,b.kd=0->wIh l b.ix a.ix)/\(8 <= a.kd->∀ s1 b s2,s=s1 ++ b :: s2->b.kd=0->wIh l b.ix a.ix \/ wMJ s2 + 8 < a.kd))/\(∀ b ∈ t,a.ix ≠ b.ix)/\kdOK a=true/\(∀ o,l[a.ix]?=some o->wAt o=false/\subB a.op o=true):=by
  intro s a t e
  have hk:=key s a t e
  unfold zop at hk
  simp only [nB,nG,List.mem_reverse,na,kS] at hk
  obtain ⟨k1,k2,k3,⟨k4,k8⟩,k5,k6,k7⟩:=hk
  refine ⟨fun hf b hb=>?_,fun p hp b hb=>?_,fun p hp=>⟨fun b hb=>?_,fun b hb hd=>?_⟩,⟨fun h1 b hb h0=>?_,fun h8 s1 b s2 es h0=>?_⟩,fun b hb he=>?_,k6,fun o ho=>?_⟩
  ·rcases k1 with k1 | k1
   ·rw [hf] at k1;cases k1
   ·exact han _ _ (k1 b hb)
  ·rw [hp] at k2
   simp only [nB,nG,List.mem_reverse] at k2
   rcases nL.1 hb with hb | hb
   ·exact wFS (k2.1 b hb)
   ·exact wFS (k2.2 b hb)
  ·obtain ⟨g1,g2,g3⟩:=k3 p hp
   rcases nK.1 hb with rfl | hb
   ·exact wFS g1
   ·exact wFS (g2 b hb)
  ·obtain ⟨g1,g2,g3⟩:=k3 p hp
   rcases g3 b hb with g | ⟨g,g'⟩
   ·exact absurd hd (wFS g)
   ·refine ⟨han _ _ g,fun hk=>?_⟩
    rcases g' with g' | g'
    ·rcases hk with hk | hk | hk
     ·rw [hk] at g';exact absurd g' (by decide)
     ·rw [hk] at g';exact absurd g' (by decide)
     ·simp only [Bool.or_eq_false_iff] at g'
      have h8:Nat.ble 8 a.kd=true:=by rw [kz];exact hk
      rw [g'.2.2] at h8
      cases h8
    ·constructor <;> intro h4 <;> rw [h4] at g' <;> exact absurd g' (by decide)
  ·rcases k4 with k4 | k4
   ·rw [h1] at k4;exact absurd k4 (by decide)
   ·rcases k4 b hb with g | g
    ·rw [h0] at g;exact absurd g (by decide)
    ·exact han _ _ g
  ·rcases k8 with k8 | k8
   ·rw [<- Bool.not_eq_true,kz] at k8
    exact absurd h8 k8
   ·rw [es,List.reverse_append,List.reverse_cons,nN] at k8
    rcases wNI s2.reverse b (s1.reverse) 0 (by simpa using k8) h0 with g | g
    ·exact .inl (han _ _ g)
    ·refine .inr ?_
     unfold wMJ at g ⊢
     rw [List.countP_reverse] at g
     omega
  ·have:=k5 b hb
   rw [he] at this
   simp at this
  ·rw [ho] at k7
   simpa using k7
 have mem:∀ a ∈ os,∃ s t,os=s ++ a :: t:=fun a ha=>nQ ha
 refine ⟨hao,wPW os fun s a t e=>(wJR s a t e).2.2.2.2.1,hpr,fun s a t e=>(wJR s a t e).1,fun s a t e=>(wJR s a t e).2.1,fun s a t e p hp=>((wJR s a t e).2.2.1 p hp).1,fun a ha p hp b hb hd=>?_,fun a ha=>?_,fun a ha hk p hp b hb hd=>?_,fun a ha o ho=>?_,fun a ha o ho=>?_,fun s a t e=>(wJR s a t e).2.2.2.1.1,fun s a t e=>(wJR s a t e).2.2.2.1.2⟩
 ·obtain ⟨s,t,e⟩:=mem a ha
  obtain ⟨g1,g2⟩:=(wJR s a t e).2.2.1 p hp
  rw [e] at hb
  rcases nL.1 hb with hb | hb
  ·exact (g2 b hb hd).1
  ·exact absurd hd (g1 b hb)
 ·obtain ⟨s,t,e⟩:=mem a ha
  have hk:=(wJR s a t e).2.2.2.2.2.1
  unfold kdOK at hk
  simp only [na,nB] at hk
  rcases hk with hk | ⟨h1,hk⟩
  ·exact .inl hk
  ·refine .inr ⟨fun e=>(by rw [e] at h1;cases h1),?_⟩
   rcases hk with hk | hk | ⟨hk,h2⟩ | ⟨hk,h2⟩ | ⟨hk,h2⟩
   ·exact .inl (nD hk)
   ·exact .inr (.inl (nD hk))
   ·exact .inr (.inr (.inl ⟨nD hk,nD h2⟩))
   ·exact .inr (.inr (.inr (.inl ⟨nD hk,h2⟩)))
   ·exact .inr (.inr (.inr (.inr ⟨by rwa [kz] at hk,nD h2⟩)))
 ·obtain ⟨s,t,e⟩:=mem a ha
  obtain ⟨g1,g2⟩:=(wJR s a t e).2.2.1 p hp
  rw [e] at hb
  rcases nL.1 hb with hb | hb
  ·exact (g2 b hb hd).2 hk
  ·exact absurd hd (g1 b hb)
 ·obtain ⟨s,t,e⟩:=mem a ha
  exact ((wJR s a t e).2.2.2.2.2.2 o ho).1
 ·obtain ⟨s,t,e⟩:=mem a ha
  have h1:=((wJR s a t e).2.2.2.2.2.2 o ho).2
  unfold subB at h1
  rw [nG] at h1
  intro x hx
  have:=h1 (.tmp x) (by simpa using hx)
  simp only [List.any_eq_true] at this
  obtain ⟨p,g1,g2⟩:=this
  exact ⟨p,g1,by rw [nD g2];rfl⟩
structure ZAll (P:Program) (N:Nat) (l:List Oper) (os A B:List AO):Prop where
 eq:os=A ++ B
 za:ZOK P N l A
 zb:ZOK P N l B
 cross:∀ b ∈ B,∀ a ∈ A,a.ix ≠ b.ix/\wIh l a.ix b.ix
 low:∀ b ∈ B,b.kd < 8
 far:∀ a ∈ A,8 <= a.kd->∀ p,p ∈ wBK a \/ a.dst=some p->∀ b ∈ B,b.dst ≠ some p
 all:∀ i,i < l.length->∃ a ∈ os,a.ix=i
theorem wLI {P:Program} {N:Nat} {l:List Oper} {os:List AO} (hao:∀ a ∈ os,wFQ P N l a=true) (h:chkZ l os=true):∃ A B,ZAll P N l os A B:=by
 unfold chkZ at h
 rw [nB,nB,na] at h
 obtain ⟨hpr0,hall0,hz⟩:=h
 simp only [nG,kh,nq,List.any_eq_true] at hpr0 hall0
 have hpr:∀ i,i < l.length->∀ j ∈ prI l i,j < i:=hpr0
 have hall:∀ i,i < l.length->∃ a ∈ os,a.ix=i:=fun i hi=>by
  obtain ⟨a,h1,h2⟩:=hall0 i hi
  exact ⟨a,h1,nD h2⟩
 have han:∀ i x,((wNG [] l).getD i 0).testBit x=true->wIh l x i:=wIB hpr l [] [] rfl rfl fun i x h=>by simp at h
 rcases hz with hz | hz
 ·exact ⟨os,[],by simp,wIi hao hpr hz,wIi (fun a ha=>by simp at ha) hpr rfl,fun b hb=>by simp at hb,fun b hb=>by simp at hb,fun a _ _ p _ b hb=>by simp at hb,hall⟩
 ·unfold ztl at hz
  simp only [nB,nG,nq,kS] at hz
  obtain ⟨⟨h1,h5⟩,h2,h3,h4⟩:=hz
  have e:=wNH os
  refine ⟨wOK os,wMY os,e,wIi (fun a ha=>hao a (by rw [e];simp [ha])) hpr h2,wIi (fun a ha=>hao a (by rw [e];simp [ha])) hpr h3,fun b hb a ha=>⟨fun e=>?_,han _ _ (h4 b hb a ha).2⟩,h1,fun a ha h8 p hp b hb=>?_,hall⟩
  ·have:=(h4 b hb a ha).1
   rw [e] at this
   simp at this
  ·have h6:=h5 a ha
   simp only [na,nB,nG,nq] at h6
   rcases h6 with h6 | ⟨h6,h7⟩
   ·omega
   ·rcases hp with hp | hp
    ·exact wFS (h6 p hp b hb)
    ·rw [hp] at h7
     simp only [nG] at h7
     exact wFS (h7 b hb)
theorem wGe {tb:Tr AF} {ex exY:Run} {σf:Tr AV} {h:AH}:∀ (x y:List AO) (n:Nat),wHX tb ex exY σf h n (x ++ y)=true->wHX tb ex exY σf h n x=true
 | [],_,_,_=>rfl
 | a :: x,y,n,hl=>by
  rw [nI,wCy] at hl
  rw [wCy]
  cases hf:wBG a.kd with
  | true =>
   rw [hf] at hl
   exact wGe x y _ hl
  | false =>
   rw [hf] at hl
   simp only [nB] at hl ⊢
   exact ⟨hl.1,wGe x y _ hl.2⟩
theorem wIC {tb:Tr AF} {ex exY:Run} {σf:Tr AV} {h:AH}:∀ (x:List AO) (a:AO) (y:List AO) (n:Nat),wHX tb ex exY σf h n (x ++ a :: y)=true->wBG a.kd=false->n + wMJ x + 8 < a.kd->wGB tb ex exY σf h a=true
 | [],a,y,n,hl,hf,hn=>by
  rw [nR,wCy,hf] at hl
  simp only [nB] at hl
  have hb:kG (n + 8) a.kd=true:=by rw [nq];exact hn
  rw [hb] at hl
  exact hl.1
 | c :: x,a,y,n,hl,hf,hn=>by
  rw [nI,wCy] at hl
  unfold wMJ at hn
  rw [List.countP_cons] at hn
  cases hc:wBG c.kd with
  | true =>
   rw [hc] at hl hn
   exact wIC x a y _ hl hf (by unfold wMJ;simp only [if_true] at hn;omega)
  | false =>
   rw [hc] at hl hn
   simp only [nB] at hl
   exact wIC x a y _ hl.2 hf (by unfold wMJ;simp only [if_false,nH] at hn;omega)
def LCK (tb:Tr AF) (ex exY:Run) (os:List AO) (σ0:Tr AV) (h0:AH) (σf:Tr AV):Prop :=
 ∀ s b t,os=s ++ b :: t->b.kd=0->∀ σ1 h1,wAN tb ex exY s σ0 h0=some (σ1,h1)->wHX tb ex exY σf h1 0 t=true
theorem wID {tb:Tr AF} {ex exY:Run}:∀ (os:List AO) (σ:Tr AV) (h:AH) (r:Tr AV × AH),wKb tb ex exY os σ h=some r->wAN tb ex exY os σ h=some r/\LCK tb ex exY os σ h r.1
 | [],σ,h,r,hr=>by
  rw [wMR] at hr
  exact ⟨by rw [wAa];exact hr,fun s b t e=>by simp at e⟩
 | o :: os,σ,h,r,hr=>by
  rw [wKc] at hr
  split at hr
  ·cases hr
  ·rename_i q hq
   split at hr
   ·cases hr
   ·rename_i r' hr'
    have e:r'=r:=by
     split at hr
     ·split at hr
      ·cases hr;rfl
      ·cases hr
     ·cases hr;rfl
    subst e
    obtain ⟨g1,g2⟩:=wID os _ _ _ hr'
    have g0:∀ s,wAN tb ex exY (o :: s) σ h=wAN tb ex exY s q.1 q.2:=by
     intro s
     rw [wAb]
     unfold wNh at hq
     cases hw:wBd σ o.grd with
     | true =>
      rw [hw] at hq
      simp only at hq ⊢
      split at hq
      ·rename_i y hy
       cases hq
       rfl
      ·cases hq
     | false =>
      rw [hw] at hq
      cases hq
      rfl
    refine ⟨by rw [g0];exact g1,fun s b t e h0 σ1 h1 hs=>?_⟩
    cases s with
    | nil =>
     simp only [nR,nS] at e
     obtain ⟨rfl,rfl⟩:=e
     rw [wAa] at hs
     cases hs
     have hb:nM o.kd 0=true:=by rw [h0];rfl
     rw [hb] at hr
     simp only at hr
     split at hr
     ·assumption
     ·cases hr
    | cons c s =>
     simp only [nI,nS] at e
     obtain ⟨rfl,rfl⟩:=e
     rw [g0] at hs
     exact g2 s b t rfl h0 σ1 h1 hs
theorem wIj {tb:Tr AF} {ex exY:Run} {os:List AO} {σ:Tr AV} {h:AH} {σf:Tr AV} (hk:∀ a ∈ os,a.kd < 8):LCK tb ex exY os σ h σf:=by
 intro s b t e _ σ1 h1 _
 have:∀ (l:List AO) (n:Nat),(∀ a ∈ l,a.kd < 8)->wHX tb ex exY σf h1 n l=true:=by
  intro l
  induction l with
  | nil=>intro n _;rfl
  | cons a l ih =>
   intro n hl
   rw [wCy]
   have ha:=hl a (by simp)
   have hb:kG (n + 8) a.kd=false:=by rw [<- Bool.not_eq_true,nq];omega
   cases wBG a.kd with
   | true=>exact ih _ fun b hb=>hl b (by simp [hb])
   | false =>
    simp only [hb,kD]
    exact ih _ fun b hb=>hl b (by simp [hb])
 exact this t 0 fun a ha=>hk a (by rw [e];simp [ha])
end
end Go.KX
namespace Go.KX
noncomputable section
open Go.RowKit Go.KL
def kdAt (i:Nat):List AO->Nat
 | []=>0
 | a :: os=>match nM a.ix i with
  | true=>a.kd
  | false=>kdAt i os
def lazyA (os:List AO):Bool:=os.any fun a=>kG 3 a.kd
def chkR (P:Program) (N:Nat) (os:List AO) (l:List Oper) (draw:Bool):Bool :=
 let ks:=(nj l.length).map fun i=>kdAt i os
 os.all (fun a=>wFQ P N l a && nM (kOf ks a.ix) a.kd) && (match draw with
  | true=>(match lazyA os with
   | true=>os.all (fun a=>kG a.kd 8) && chkZ l os
   | false=>wJq l ks (wHQ os))
  | false=>inOrder 0 (wHQ os) l.length)
def wJT (N:Nat):List Pos->List Nat->Bool
 | [],[]=>true
 | t :: ts,p :: ps=>(nM t.nat (p + 1) && kG p N) && wJT N ts ps
 | _,_=>false
theorem wIk {N:Nat}:∀ {ts:List Pos} {ps:List Nat},wJT N ts ps=true->ts.map Pos.nat=ps.map (· + 1)/\∀ x ∈ ps,x < N
 | [],[],_=>by simp
 | t :: ts,p :: ps,h=>by
  simp only [wJT,nB,nq] at h
  obtain ⟨⟨h1,h2⟩,h3⟩:=h
  obtain ⟨h4,h5⟩:=wIk h3
  refine ⟨by simp [h4,nD h1],?_⟩
  intro x hx
  rcases nK.1 hx with rfl | hx
  ·exact h2
  ·exact h5 x hx
 | [],_ :: _,h=>by simp [wJT] at h
 | _ :: _,[],h=>by simp [wJT] at h
theorem wIl {μ:Mu}:∀ {ts:List Pos} {ns:List Nat} {σA σB:Tr AV} {σ:Env} {as:List AV} {vs:List Value},wNg σA ts as=some σB->ts.map Pos.nat=ns.map (· + 1)->RvL μ as vs->EnvR μ σA σ->EnvR μ σB (wNE σ ns vs)/\ns.length=vs.length
 | [],ns,σA,σB,σ,as,vs,hs,hn,hv,hE=>by
  cases ns with
  | cons _ _=>simp at hn
  | nil =>
   cases as with
   | cons _ _=>simp [wNg] at hs
   | nil=>cases hv;simp only [wNg,kv] at hs;subst hs;exact ⟨hE,rfl⟩
 | t :: ts,ns,σA,σB,σ,as,vs,hs,hn,hv,hE=>by
  cases ns with
  | nil=>simp at hn
  | cons n ns =>
   cases as with
   | nil=>simp [wNg] at hs
   | cons a as =>
    obtain ⟨v,ws,h1,h2,rfl⟩:=hv
    simp only [nw,nS] at hn
    have hp:=hE.put (p:=t) h1
    have e:t.nat - 1=n:=by omega
    rw [e] at hp
    obtain ⟨g1,g2⟩:=wIl (ts:=ts) (ns:=ns) (σA:=σA.set t a) (σ:=upd σ n v) (by simpa [wNg] using hs) hn.2 h2 hp
    exact ⟨g1,by simp [g2]⟩
def wDw (P:Program) (N:Nat):AC->Code->Bool
 | .skip,.skip=>true
 | .skip,.label _=>true
 | .rg os,.region _ ops draw=>chkR P N os ops.toList draw
 | .rl os,.region _ ops draw=>draw && (os.all (fun a=>wFQ P N ops.toList a) && chkZ ops.toList os)
 | .seq a b,.seq c d=>wDw P N a c && wDw P N b d
 | .cond x a b,.cond y c d=>wBC x y && (wDw P N a c && wDw P N b d)
 | .block i a,.block j c=>nM i j && wDw P N a c
 | .loop a,.loop c=>wDw P N a c
 | .scope a,.scope c=>wDw P N a c
 | .rf g t asg body,.rangeFunc g' ps asg' body'=>wBC g g' && (wJT N t ps.toList && (wDw P N asg asg' && wDw P N body body'))
 | .exit i,.exit j=>nM i j
 | .ret,.ret=>true
 | _,_=>false
def CC (P:Program):Chk:=fun a c N=>wDw P N a c=true
section
variable {P:Program} {tb:Tr AF} {μ μ' μ'':Mu} {w w' w'':World} {h h' h'':AH} {σ:Env} {σA:Tr AV}
def Mk (μ:Mu) (w:World) (n0:Nat) (D:List Deferred):Prop:=∃ rbs:List Nat,D=rbs.map wIY/\rbs.Nodup/\∀ rb ∈ rbs,Dfr w rb/\n0 <= rb/\∀ p c,μ p=some c->c.1 ≠ rb
theorem Mk.nil (μ:Mu) (w:World) (n0:Nat):Mk μ w n0 []:=⟨[],rfl,by simp,by simp⟩
theorem Mk.ext {n0 fl:Nat} {D:List Deferred} (M:Mk μ w n0 D) (E:Ext μ fl w μ' w'):Mk μ' w' n0 D:=by
 obtain ⟨rbs,h1,h2,h3⟩:=M
 refine ⟨rbs,h1,h2,fun rb hrb=>?_⟩
 obtain ⟨g1,g2,g3⟩:=h3 rb hrb
 refine ⟨g1.keep E.keep fun ⟨p,d,q1,q2,_⟩=>g3 p d q1 q2,g2,fun p c hp=>?_⟩
 rcases E.new p c hp with q | ⟨p',d,q1,q2,_⟩ | q
 ·exact g3 p c q
 ·rw [<- q2];exact g3 p' d q1
 ·have:=g1.lt;omega
def PostX (P:Program) (μ:Mu) (fl:Pos) (w:World) (n0:Nat) (rr:Option Nat) (D:List Deferred) (e:Ex) (σA':Tr AV) (h':AH):wBw:=fun D' e' σ' w' =>
 e'=exC e/\∃ μ',Ext μ fl.nat w μ' w'/\Sim (CC P) P μ' h' w'/\EnvR μ' σA' σ'/\Mk μ' w' n0 D'/\h'.fl=fl/\(rr.isSome=true->D'=D)
def wHS (P:Program) (ex:Run) (r:Bool):Prop:=∀ c σA h e σA' h',ex c σA h=some (e,σA',h')->∀ code N,wDw P N c code=true->∀ (rr:Option Nat) (μ:Mu) (σ:Env) (w:World) (D:List Deferred) (n0:Nat),
 rr.isSome=r->Sim (CC P) P μ h w->EnvR μ σA σ->Mk μ w n0 D->n0 <= w.heap.size->CK rr N P code (PostX P μ h.fl w n0 rr D e σA' h') D σ w
def wLJ (P:Program) (ex:Run) (r:Bool) (m:Nat):Prop:=∀ c σA h e σA' h',ex (.loop c) σA h=some (e,σA',h')->∀ code N,wDw P N c code=true->∀ (rr:Option Nat) (μ:Mu) (σ:Env) (w:World) (D:List Deferred) (n0:Nat),
 rr.isSome=r->Sim (CC P) P μ h w->EnvR μ σA σ->Mk μ w n0 D->n0 <= w.heap.size->∀ a,Rep N D a σ->Code.roundsIn (WF rr) 0 P code (wFi N (PostX P μ h.fl w n0 rr D e σA' h')) m a w
theorem PostX.trans {fl:Pos} {n0:Nat} {rr:Option Nat} {D D1 D':List Deferred} {e:Ex} {e':Exit} {σA':Tr AV} {σ':Env} (E:Ext μ fl.nat w μ' w') (hD:rr.isSome=true->D1=D) (hP:PostX P μ' fl w' n0 rr D1 e σA' h' D' e' σ' w''):PostX P μ fl w n0 rr D e σA' h' D' e' σ' w'':=by
 obtain ⟨h1,μ2,h2,h3,h4,h5,h6,h7⟩:=hP
 exact ⟨h1,μ2,E.trans h2,h3,h4,h5,h6,fun hr=>(h7 hr).trans (hD hr)⟩
theorem wFT {F:Fence} {n:Nat} {c:Code} {Q Q':Exit->Act->World->Prop} (hQ:∀ e a w,Q e a w->Q' e a w):∀ (m:Nat) (a:Act) (w:World),Code.roundsIn F n P c Q m a w->Code.roundsIn F n P c Q' m a w
 | 0,_,_,h=>h.elim
 | m + 1,a,w,h=>by
  rw [roundsIn_succ] at h ⊢
  refine wpIn_mono h fun e a w q=>?_
  cases e with
  | normal=>exact wFT hQ m a w q
  | _=>exact hQ _ _ _ q
theorem Ext.drew (μ:Mu) (fl:Nat) (w:World):Ext μ fl w μ { w with drawn:=w.drawn + 1 }:=⟨Mu.Le.refl μ,fun _ _ h=>.inl h,(Keep.drew w).weak fun _ _ h=>h.elim⟩
theorem Sim.keepX {C:Chk} {X:Nat->Prop} (S:Sim C P μ h w) (K:Keep w w' X) (hX:∀ p c,μ p=some c->¬ X c.1):Sim C P μ h w' :=
 ⟨S.nx,fun p c hp=>kQ (S.lt p c hp) K.size,S.inj,fun p b hb=>let ⟨c,h1,h2⟩:=S.at_ p b hb;⟨c,h1,h2.keep K (hX p c h1)⟩⟩
def wCo (P:Program):List AR->List ResultVar->Bool
 | [],[]=>true
 | .t p :: l,.tmp t :: k=>nM p.nat (t + 1) && wCo P l k
 | .c p n :: l,.cell a t :: k=>nM p.nat (a + 1) && ((match n with | none=>wMT P t false | some n=>wMT P t true && szT P t n) && wCo P l k)
 | _,_=>false
def chkF (P:Program) (k:Nat) (af:AF):Bool:=match P.funcs[k]? with
 | none=>false
 | some fn=>match fn.body with
  | none=>false
  | some c => nM fn.ntmps af.n && (wCo P af.res fn.results.toList && (!(fn.name == "runtime.NumGoroutine") && wDw P fn.ntmps af.body c))
theorem wIE {C:Chk} (hE:EnvR μ σA σ) (S:Sim C P μ h w):∀ {l:List AR} {k:List ResultVar} {vs:List AV},wCo P l k=true->wOg σA h l=some vs->∃ VS,RvL μ vs VS/\wOe P w σ k VS
 | [],[],vs,_,hr=>by simp only [wOg] at hr;cases hr;exact ⟨[],rfl,trivial⟩
 | .t p :: l,.tmp t :: k,vs,hc,hr=>by
  simp only [wCo,nB] at hc
  simp only [wOg,res1] at hr
  split at hr
  ·rename_i vs' hvs
   cases hr
   obtain ⟨VS,g1,g2⟩:=wIE hE S hc.2 hvs
   have e:=nD hc.1
   have g:=hE p
   rw [e] at g
   exact ⟨_,wAm g g1,rfl,g2⟩
  ·cases hr
 | .c p n :: l,.cell a t :: k,vs,hc,hr=>by
  simp only [wCo,nB] at hc
  obtain ⟨c1,c2,c3⟩:=hc
  have e:=nD c1
  have g:=hE p
  rw [e] at g
  rw [wOg] at hr
  split at hr
  ·rename_i v hv
   split at hr
   ·rename_i vs' hvs
    cases hr
    obtain ⟨VS,g1,g2⟩:=wIE hE S c3 hvs
    simp only [res1] at hv
    split at hv
    ·rename_i b off hb
     split at hv
     ·rename_i cl hcl
      obtain ⟨c,ws,q1,q2,q3⟩:=wDI hcl S
      rw [hb] at g
      obtain ⟨c',k1,k2⟩:=g
      rw [q1] at k1;cases k1
      have k2:σ a=.pointer (some ⟨c.1,off,none⟩):=k2
      split at hv
      ·rw [wEW] at hv
       obtain ⟨cv,r1,r2⟩:=wDV q2 hv
       refine ⟨_,wAm r2 g1,⟨_,k2,?_⟩,g2⟩
       simp [loadVar,wDA c2,load,Sem.run,q3 w (Keep.refl w _) _ _ r1]
      ·rename_i n
       simp only [nB] at c2
       obtain ⟨r,hr3,rfl⟩:=wCE hv
       obtain ⟨r1,r2⟩:=wDW hr3 q2
       refine ⟨_,wAm ⟨_,r1,rfl⟩ g1,⟨_,k2,?_⟩,g2⟩
       have:=KL.run_loadCells (P:=P) (w:=w) (b:=c.1) (off:=off) (n:=n) ((ws.drop off).take n) (by simp;omega) fun j u hu=>q3 w (Keep.refl w _) _ _ (wDq rfl j u hu)
       simp [loadVar,wDA c2.1,wCJ c2.2,this]
     ·cases hv
    ·cases hv
   ·cases hr
  ·cases hr
 | [],_ :: _,_,hc,_=>by simp [wCo] at hc
 | .t _ :: _,[],_,hc,_=>by simp [wCo] at hc
 | .c _ _ :: _,[],_,hc,_=>by simp [wCo] at hc
 | .t _ :: _,.cell _ _ :: _,_,hc,_=>by simp [wCo] at hc
 | .c _ _ :: _,.tmp _ :: _,_,hc,_=>by simp [wCo] at hc
theorem wOL {C:Chk} {l:List AR} {rs:Array ResultVar} {v:AV} (hE:EnvR μ σA σ) (S:Sim C P μ h w) (hc:wCo P l rs.toList=true) (hr:wNf σA h l=some (v,h')):h'=h/\∃ cv,Rv μ v cv/\(wBx rs σ).run P w=.ok cv w:=by
 unfold wNf at hr
 split at hr
 ·rename_i vs hvs
  cases hr
  refine ⟨rfl,?_⟩
  obtain ⟨VS,g1,g2⟩:=wIE hE S hc hvs
  have hrs:rs=rs.toList.toArray:=by simp
  unfold tupA
  split
  ·rename_i v
   obtain ⟨cv,ws,q1,q2,q3⟩:=g1
   cases q2
   subst q3
   refine ⟨cv,q1,?_⟩
   have hl:∃ r,rs=#[r]:=by
    cases hq:rs.toList with
    | nil=>rw [hq] at g2;exact g2.elim
    | cons r k =>
     cases k with
     | nil=>exact ⟨r,Array.ext' (by simpa using hq)⟩
     | cons r' k=>rw [hq] at g2;cases r <;> cases r' <;> exact g2.2.elim
   obtain ⟨r,rfl⟩:=hl
   exact wOq g2
  ·rename_i hne
   refine ⟨_,⟨VS,g1,rfl⟩,?_⟩
   rw [hrs]
   refine resLn g2 ?_
   have hl:=wBi g1
   cases hb:VS.length == 1 with
   | false=>rfl
   | true =>
    have:vs.length=1:=by rw [<- hl];exact eq_of_beq hb
    obtain ⟨v,hv⟩:=List.length_eq_one_iff.1 this
    exact absurd hv (hne v)
 ·cases hr
def wJU (P:Program) (tb:Tr AF):Prop:=∀ p af,tb.get p=some af->chkF P (p.nat - 1) af=true
theorem wLK (T:wJU P tb) {ex:Run} (HE:wHS P ex false):wEX (CC P) P tb ex:=by
 intro f args h v h' hr
 unfold wHG at hr
 split at hr
 ·rename_i af haf
  have hcf:=T f af haf
  unfold chkF at hcf
  split at hcf
  ·cases hcf
  ·rename_i fn hfn
   split at hcf
   ·cases hcf
   ·rename_i c hbody
    simp only [nB,kS] at hcf
    obtain ⟨c1,c2,c3,c4⟩:=hcf
    refine ⟨fun a w=>?_,fun μ w vs S hv=>?_⟩
    ·have c3' : ¬ fn.name = "runtime.NumGoroutine" := by simpa using c3
     simp [callFunc,program,Sem.run,hfn,hbody,c3']
    ·split at hr
     ·rename_i hle
      have hle:=Nat.le_of_ble_eq_true hle
      have e1:=nD c1
      have key:∀ e σA' h1,ex af.body (wKY args .H .e) h=some (e,σA',h1)->(e=.nrm \/ e=.ret)->wNf σA' h1 af.res=some (v,h')->Gv P (f.nat - 1) vs w fun cv w'=>∃ μ',Ext μ h.fl.nat w μ' w'/\Sim (CC P) P μ' h' w'/\Rv μ' v cv/\h'.fl=h.fl:=by
       intro e σA' h1 hx he hres
       refine Gv.ofM hfn hbody rfl rfl (by rw [wBi hv,<- wCz,e1];exact hle) ?_
       refine (HE _ _ _ _ _ _ hx c fn.ntmps c4 none μ (wMt vs) w [] w.heap.size rfl S (wNi hv) (Mk.nil μ w _) (nP _)).mono ?_
       rintro D' e' σ' w' ⟨rfl,μ',q1,q2,q3,q4,q5,_⟩
       obtain ⟨rbs,m1,m2,m3⟩:=q4
       have fin:∃ rbs:List Nat,D'=rbs.map wIY/\rbs.Nodup/\(∀ rb ∈ rbs,Dfr w' rb)/\∀ w2,Keep w' w2 (· ∈ rbs)->w2.heap.size=w'.heap.size->∃ cv,(wBx fn.results σ').run P w2=.ok cv w2/\∃ μ',Ext μ h.fl.nat w μ' w2/\Sim (CC P) P μ' h' w2/\Rv μ' v cv/\h'.fl=h.fl:=by
        refine ⟨rbs,m1,m2,fun rb hrb=>(m3 rb hrb).1,fun w2 K hs=>?_⟩
        have S2:=q2.keepX K fun p c hp hm=>(m3 _ hm).2.2 p c hp rfl
        obtain ⟨rfl,cv,r1,r2⟩:=wOL q3 S2 c2 hres
        refine ⟨cv,r2,μ',⟨q1.mono,q1.new,?_⟩,S2,r1,q5⟩
        exact q1.keep.step K fun i hi hm=>absurd (m3 i hm).2.1 (Nat.not_le.2 hi)
       rcases he with rfl | rfl
       ·exact fin
       ·exact fin
      split at hr
      ·exact key _ _ _ (by assumption) (.inl rfl) hr
      ·exact key _ _ _ (by assumption) (.inr rfl) hr
      ·cases hr
     ·cases hr
 ·cases hr
theorem wMZ {ex:Run} (HE:wHS P ex true):wDa (CC P) P ex:=by
 intro b args h v h' hr
 unfold wHH at hr
 split at hr
 ·rename_i σA t asg body hB
  intro μ w xv c S hx hc
  split at hr <;> first | (cases hr;done) | skip
  rename_i σS hset
  split at hr <;> first | (cases hr;done) | skip
  rename_i σ1 h1 hasg
  split at hr <;> first | (cases hr;done) | skip
  rename_i σx tx ax bx hB1
  split at hr <;> first | (cases hr;done) | skip
  rename_i h2 hput2
  split at hr <;> first | (cases hr;done) | skip
  rename_i e σ3 h3 hbody
  split at hr <;> first | (cases hr;done) | skip
  rename_i σy ty ay by_ hB3
  split at hr <;> first | (cases hr;done) | skip
  rename_i h4 hput4
  cases hr
  obtain ⟨c',g1,g2⟩:=S.at_ b _ hB
  rw [hc] at g1;cases g1
  have L:wJM (CC P) μ w c σA t asg body .ready:=g2
  obtain ⟨hSE,hSl⟩:=wIl hset L.ht hx L.env
  refine Yd.of L.at_ L.tN hSl fun σ0 hσ0=>?_
  have hE0:EnvR μ σS σ0:=by
   intro p
   rw [hσ0];exact hSE p
  refine (HE _ _ _ _ _ _ hasg c.g.ac c.g.N L.asg (some c.1) μ σ0 w [] 0 rfl S hE0 (Mk.nil μ w _) (Nat.zero_le _)).mono ?_
  rintro D' e' σ' w1 ⟨rfl,μ1,q1,q2,q3,q4,q5,q6⟩
  have hc1:=q1.mono b c hc
  obtain ⟨c',r1,r2⟩:=q2.at_ b _ hB1
  rw [hc1] at r1;cases r1
  have L1:wJM (CC P) μ1 w1 c σx tx ax bx .ready:=r2
  refine ⟨rfl,q6 rfl,L1.at_,fun w2 hl2 K hs=>?_⟩
  obtain ⟨s1,s2,s3⟩:=q2.put hput2 hB1 trivial hc1 K (B':=.loop σA t asg body .busy) ⟨hl2,L.env.mono q1.mono,L.ht,L.tN,L.asg,L.body⟩
  rw [q5] at s2 s3
  refine (HE _ _ _ _ _ _ hbody c.g.bc c.g.N L.body (some c.1) μ1 σ' w2 [] 0 rfl s1 q3 (Mk.nil μ1 w2 _) (Nat.zero_le _)).mono ?_
  rintro D'' e'' σ'' w3 ⟨rfl,μ3,t1,t2,t3,t4,t5,t6⟩
  rw [s3] at t1 t5
  have hc3:=t1.mono b c hc1
  obtain ⟨c',u1,u2⟩:=t2.at_ b _ hB3
  rw [hc3] at u1;cases u1
  have L3:wJM (CC P) μ3 w3 c σy ty ay by_ .busy:=u2
  have fin:∀ w4,LoopAt w4 c.1 c.g.N c.g.σ c.g.t c.g.ac c.g.bc c.g.rb c.g.fn (lsC e.done).1 (lsC e.done).2->Keep w3 w4 (·=c.1)->∃ μ',Ext μ h.fl.nat w μ' w4/\Sim (CC P) P μ' h' w4/\AV.bool e.go=.bool e.go/\h'.fl=h.fl:=by
   intro w4 hl4 K4
   obtain ⟨v1,v2,v3⟩:=t2.put hput4 hB3 trivial hc3 K4 (B':=.loop σA t asg body e.done) ⟨hl4,(L.env.mono q1.mono).mono t1.mono,L.ht,L.tN,L.asg,L.body⟩
   rw [t5] at v2 v3
   exact ⟨μ3,(q1.trans s2).trans (t1.trans v2),v1,rfl,v3⟩
  cases e with
  | nrm=>exact ⟨L3.at_,fun w4 hl K4 _=>fin w4 hl K4⟩
  | ret=>exact ⟨L3.at_,fun w4 hl K4 _=>fin w4 hl K4⟩
  | exit i=>exact ⟨L3.at_,fun w4 hl K4 _=>fin w4 hl K4⟩
 ·cases hr
end
end
end Go.KX
namespace Go.KX
open Go.RowKit Go.KL
theorem wIF (b:AC) (exR:Run) (e:Ex) (σ:Tr AV) (h:AH):seqK b exR (e,σ,h)=(match e with | .nrm=>exR b σ h | e=>some (e,σ,h)):=by cases e <;> rfl
theorem wOj {x:R} {k:Ex × Tr AV × AH->R} {r:Ex × Tr AV × AH} (hr:Option.rec (motive:=fun _=>R) none k x=some r):∃ y,x=some y/\k y=some r:=by
 cases x with
 | none=>cases hr
 | some y=>exact ⟨y,rfl,hr⟩
structure Fr (h h':AH):Prop where
 nx:h.nx.nat <= h'.nx.nat
 fl:h'.fl=h.fl
 get:∀ p,p.nat < h.fl.nat->p.nat < h.nx.nat->h'.m.get p=h.m.get p
theorem Fr.refl (h:AH):Fr h h:=⟨nP _,rfl,fun _ _ _=>rfl⟩
theorem Fr.trans {a b c:AH} (h:Fr a b) (k:Fr b c):Fr a c :=
 ⟨kH h.nx k.nx,k.fl.trans h.fl,fun p h1 h2=>(k.get p (by rw [h.fl];exact h1) (kQ h2 h.nx)).trans (h.get p h1 h2)⟩
theorem Fr.push (h:AH) (B:AB):Fr h (h.push B):=by
 refine ⟨?_,rfl,fun p _ h2=>?_⟩
 ·show h.nx.nat <= h.nx.succ.nat
  rw [Pos.nat_succ];omega
 ·show (h.m.set h.nx B).get p=_
  rw [Tr.get_set,if_neg (fun e=>by subst e;omega)]
theorem Fr.put {h h':AH} {p:Pos} {B:AB} (hp:h.put p B=some h'):Fr h h':=by
 obtain ⟨h1,rfl⟩:=wGa hp
 refine ⟨nP _,rfl,fun q h2 _=>?_⟩
 show (h.m.set p B).get q=_
 rw [Tr.get_set,if_neg (fun e=>by subst e;omega)]
theorem Fr.setAt {h h':AH} {b:Pos} {off:Nat} {vs:List AV} (hs:KX.setAt h b off vs=some h'):Fr h h':=by
 unfold KX.setAt at hs
 split at hs
 ·split at hs
  ·exact Fr.put hs
  ·cases hs
 ·split at hs
  ·exact Fr.put hs
  ·cases hs
 ·cases hs
theorem wOM {h h':AH} {o:Option AV} {v:AV} (hr:okV h o=some (v,h')):h'=h:=by
 cases o with
 | none=>cases hr
 | some x=>cases hr;rfl
theorem wFn {α:Type} {b:Bool} {x:Option α} {y:α} (hr:ifO b x=some y):x=some y:=by
 cases b with
 | true=>exact hr
 | false=>cases hr
section
variable {tb:Tr AF} {ex exY:Run} {σ:Tr AV} {h h':AH} {v:AV}
theorem wPX {T sz by_ m:Nat} {news:List AV} {x:AV} (hr:app h T sz by_ m news x=some (v,h')):Fr h h':=by
 unfold app at hr
 split at hr
 ·split at hr <;> first | (cases hr;exact Fr.refl _) | (cases hr;done)
 ·split at hr
  ·have hr:=wFn hr;cases hr;exact Fr.push _ _
  ·split at hr
   ·split at hr
    ·rename_i hs;cases hr;exact Fr.setAt hs
    ·cases hr
   ·have hr:=wFn hr
    split at hr
    ·cases hr;exact Fr.push _ _
    ·cases hr
  ·split at hr
   ·split at hr
    ·split at hr
     ·rename_i hs;cases hr;exact Fr.setAt hs
     ·cases hr
    ·have hr:=wFn hr
     split at hr
     ·rename_i hs;cases hr;exact (Fr.put hs).trans (Fr.push _ _)
     ·cases hr
   ·cases hr
  ·cases hr
theorem wNK {z:List AV} {b:Pos} {off n:Nat} (hr:clr h z b off n=some (v,h')):Fr h h':=by
 unfold clr at hr
 split at hr
 ·cases hr;exact Fr.refl _
 ·have hr:=wFn hr
  split at hr
  ·rename_i hs;cases hr;exact Fr.setAt hs
  ·cases hr
def FrX (ex:Run):Prop:=∀ c σ h e σ' h',ex c σ h=some (e,σ',h')->Fr h h'
theorem wNL {l:List AR} (hr:wNf σ h l=some (v,h')):Fr h h':=by
 unfold wNf at hr
 split at hr
 ·cases hr;exact Fr.refl _
 ·cases hr
theorem wLL (HE:FrX ex) {f:Pos} {args:List AV} (hr:wHG tb ex f args h=some (v,h')):Fr h h':=by
 unfold wHG at hr
 split at hr
 ·split at hr
  ·split at hr
   ·rename_i h1;exact (HE _ _ _ _ _ _ h1).trans (wNL hr)
   ·rename_i h1;exact (HE _ _ _ _ _ _ h1).trans (wNL hr)
   ·cases hr
  ·cases hr
 ·cases hr
theorem wMa (HY:FrX ex) {b:Pos} {args:List AV} (hr:wHH ex b args h=some (v,h')):Fr h h':=by
 unfold wHH at hr
 split at hr
 ·split at hr
  ·cases hr
  ·split at hr
   ·rename_i h1
    split at hr
    ·split at hr
     ·rename_i h2
      split at hr
      ·rename_i h3
       split at hr
       ·split at hr
        ·rename_i h4
         cases hr
         exact (HY _ _ _ _ _ _ h1).trans ((Fr.put h2).trans ((HY _ _ _ _ _ _ h3).trans (Fr.put h4)))
        ·cases hr
       ·cases hr
      ·cases hr
     ·cases hr
    ·cases hr
   ·cases hr
 ·cases hr
theorem wLM (HE:FrX ex) (HY:FrX exY) (op:AOp) (hr:opY op tb ex exY σ h=some (v,h')):Fr h h':=by
  cases op with
  | call x l =>
    have hr:wEV x l tb ex exY σ h=some (v,h'):=hr
    unfold wEV at hr
    split at hr
    · exact wLL HE hr
    · exact wMa HY hr
    · cases hr
  | new T z=>cases hr;exact Fr.push _ _
  | box T x=>cases hr;exact Fr.push _ _
  | mkm=>cases hr;exact Fr.push _ _
  | mks T sz b z x y =>
    have hr:wFD T sz b z x y σ h=some (v,h'):=hr
    unfold wFD at hr
    split at hr
    · have hr:=wFn hr;cases hr;exact Fr.push _ _
    · cases hr
  | blds T n z ps =>
    have hr:wCx T n z ps σ h=some (v,h'):=hr
    unfold wCx at hr
    split at hr
    · cases hr;exact Fr.push _ _
    · cases hr
  | st n x y =>
    have hr:wNA n x y σ h=some (v,h'):=hr
    unfold wNA at hr
    split at hr
    · split at hr
      · split at hr
        · rename_i hs;cases hr;exact Fr.setAt hs
        · cases hr
      · cases hr
    · cases hr
  | mput two k x y z =>
    have hr:wET two k x y z σ h=some (v,h'):=hr
    unfold wET at hr
    split at hr
    · split at hr
      · split at hr
        · split at hr
          · rename_i hs;cases hr;exact Fr.put hs
          · cases hr
        · cases hr
      · cases hr
    · cases hr
  | mdel two k x y =>
    have hr:wEU two k x y σ h=some (v,h'):=hr
    unfold wEU at hr
    split at hr
    · split at hr
      · split at hr
        · split at hr
          · rename_i hs;cases hr;exact Fr.put hs
          · cases hr
        · cases hr
      · cases hr
    · cases hr
  | app T sz b x y =>
    have hr:wHD T sz b x y σ h=some (v,h'):=hr
    unfold wHD at hr
    split at hr
    · exact wPX (wFn hr)
    · cases hr
  | cpy sz x y =>
    have hr:wHE sz x y σ h=some (v,h'):=hr
    unfold wHE at hr
    split at hr
    · split at hr
      · have hr:=wFn hr
        split at hr
        · rename_i hs;cases hr;exact Fr.setAt hs
        · cases hr
      · cases hr
    · cases hr
  | clr z x =>
    have hr:wHF z x σ h=some (v,h'):=hr
    unfold wHF at hr
    split at hr
    · exact wNK hr
    · exact wNK hr
    · cases hr;exact Fr.refl _
    · cases hr;exact Fr.refl _
    · cases hr
  | bad=>cases hr
  | apz T sz b z x y =>
    have hr:wHI T sz b z x y σ h=some (v,h'):=hr
    unfold wHI at hr
    split at hr
    · split at hr
      · cases hr;exact Fr.refl _
      · have hr:=wFn hr;cases hr;exact Fr.push _ _
    · cases hr
  | _ =>
    have e:h'=h:=by
      dsimp only [opY] at hr
      first
        | exact wOM hr
        | (simp only [wOf,wFB,wMG,wFm,wFC,wHh,wHi,wHj,wHk,wHl,wJL,wHm,wFE,wHn,wHo,wFF,wHp,wFG,wNe,wHq,wMH,wHr,wHs,wDL,wHt,wHu] at hr
           repeat' (split at hr)
           all_goals first
             | exact wOM hr
             | (cases hr;rfl)
             | (cases hr;done)
             | exact wOM (wFn hr)
             | (have hr2:=wFn hr;cases hr2;rfl))
    subst e
    exact Fr.refl _
theorem wNM (HE:FrX ex) (HY:FrX exY) (k:Nat) (op:AOp) (hr:opK k op tb ex exY σ h=some (v,h')):Fr h h':=by
 by_cases k2:nM k 2=true
 ·have hr:wNB op tb ex exY σ h=some (v,h'):=by
   have e:opK k op=wNB op:=by unfold opK;rw [k2]
   rw [e] at hr;exact hr
  unfold wNB at hr
  split at hr
  ·rename_i v0 h0 hq
   cases hr
   have F:=wLM HE HY op hq
   exact ⟨F.nx,rfl,fun p _ h2=>F.get p h2 h2⟩
  ·cases hr
 ·have e:opK k op=opY op:=by
   unfold opK
   cases hb:nM k 2 with
   | true=>exact absurd hb k2
   | false=>rfl
  rw [e] at hr
  exact wLM HE HY op hr
theorem wPY (HE:FrX ex) (HY:FrX exY) (op:AOp) (hr:wNB op tb ex exY σ h=some (v,h')):∀ p,p.nat < h.nx.nat->h'.m.get p=h.m.get p:=by
 unfold wNB at hr
 split at hr
 ·rename_i v0 h0 hq
  cases hr
  have F:=wLM HE HY op hq
  exact fun p h2=>F.get p h2 h2
 ·cases hr
theorem wGI (HE:FrX ex) (HY:FrX exY):∀ (l:List AO) (σ:Tr AV) (h:AH) (σ':Tr AV) (h':AH),wAN tb ex exY l σ h=some (σ',h')->Fr h h'
 | [],σ,h,σ',h',hr=>by
  rw [wAa] at hr;cases hr;exact Fr.refl _
 | o :: os,σ,h,σ',h',hr=>by
  rw [wAb] at hr
  split at hr
  ·split at hr
   ·rename_i r hq
    exact (wNM HE HY _ _ hq).trans (wGI HE HY os _ _ _ _ hr)
   ·cases hr
  ·exact wGI HE HY os _ _ _ _ hr
theorem wLN {exR:Run} (HR:FrX exR) {b:AC} {r:Ex × Tr AV × AH} {e:Ex} {σ':Tr AV} (hr:seqK b exR r=some (e,σ',h')):Fr r.2.2 h':=by
 obtain ⟨e0,σ0,h0⟩:=r
 rw [wIF] at hr
 cases e0 with
 | nrm=>exact HR _ _ _ _ _ _ hr
 | exit i=>cases hr;exact Fr.refl _
 | ret=>cases hr;exact Fr.refl _
theorem wON {exR:Run} (HE:FrX ex) (HY:FrX exY) (HR:FrX exR) (c:AC) (f:Bool) {e:Ex} {σ':Tr AV} (hr:step c f tb ex exY exR σ h=some (e,σ',h')):Fr h h':=by
 cases c with
 | skip=>cases hr;exact Fr.refl _
 | rg l =>
  have hr:sRg l tb ex exY exR σ h=some (e,σ',h'):=hr
  unfold sRg at hr
  cases hq:wAN tb ex exY l σ h with
  | none=>rw [hq] at hr;cases hr
  | some y =>
   rw [hq] at hr
   cases hr
   exact wGI HE HY l _ _ _ _ hq
 | seq a b =>
  have hr:wOz a b exR σ h=some (e,σ',h'):=hr
  unfold wOz at hr
  obtain ⟨y,h1,h2⟩:=wOj hr
  exact (HR _ _ _ _ _ _ h1).trans (wLN HR h2)
 | cond c a b =>
  have hr:wKd c a b exR σ h=some (e,σ',h'):=hr
  unfold wKd at hr
  split at hr
  ·exact HR _ _ _ _ _ _ hr
  ·exact HR _ _ _ _ _ _ hr
  ·cases hr
 | block i a =>
  have hr:wIX i a exR σ h=some (e,σ',h'):=hr
  unfold wIX at hr
  obtain ⟨y,h1,h2⟩:=wOj hr
  obtain ⟨e0,σ0,h0⟩:=y
  refine (HR _ _ _ _ _ _ h1).trans ?_
  unfold wND at h2
  cases e0 with
  | nrm=>cases h2;exact Fr.refl _
  | ret=>cases h2;exact Fr.refl _
  | exit j =>
   simp only at h2
   cases hb:nM j i with
   | true=>rw [hb] at h2;cases h2;exact Fr.refl _
   | false=>rw [hb] at h2;cases h2;exact Fr.refl _
 | loop a =>
  have hr:wKe a exR σ h=some (e,σ',h'):=hr
  unfold wKe at hr
  obtain ⟨y,h1,h2⟩:=wOj hr
  exact (HR _ _ _ _ _ _ h1).trans (wLN HR h2)
 | rf g t asg body =>
  have hr:sRf f g t asg body tb ex σ h=some (e,σ',h'):=hr
  unfold sRf at hr
  split at hr
  ·split at hr
   ·rename_i h1
    have F:=(Fr.push h (.loop σ t asg body .ready)).trans (wLL HE h1)
    split at hr
    ·split at hr
     ·rename_i h2;cases hr;exact F.trans (Fr.put h2)
     ·cases hr
    ·split at hr
     ·rename_i h2;cases hr;exact F.trans (Fr.put h2)
     ·cases hr
    ·cases hr
   ·cases hr
  ·cases hr
 | exit i=>cases hr;exact Fr.refl _
 | scope a=>exact HR _ _ _ _ _ _ hr
 | ret=>cases hr;exact Fr.refl _
 | rl l =>
  have hr:sRl l tb ex exY σ h=some (e,σ',h'):=hr
  rw [wNC] at hr
  split at hr
  ·rename_i y hq
   cases hr
   exact wGI HE HY l _ _ _ _ (wID _ _ _ _ hq).1
  ·cases hr
theorem wDc (tb:Tr AF):∀ (n:Nat) (r:Bool),FrX (exec tb n r)
 | 0,r=>fun c σ h e σ' h' hr=>by cases hr
 | n + 1,r=>fun c σ h e σ' h' hr=>by
  rw [wHJ] at hr
  exact wON (wDc tb n false) (wDc tb n true) (wDc tb n r) c _ hr
end
end Go.KX
namespace Go.KX
open Go.RowKit Go.KL
theorem wOO {a b:IntKind} (h:keq a b=true):a=b:=by
 cases a <;> cases b <;> first | rfl | (simp [keq] at h)
theorem wOP {a b:Int} (h:zeq a b=true):a=b:=by
 cases a with
 | ofNat a=>cases b with
  | ofNat b=>simp only [zeq] at h;rw [nD h]
  | negSucc b=>simp [zeq] at h
 | negSucc a=>cases b with
  | ofNat b=>simp [zeq] at h
  | negSucc b=>simp only [zeq] at h;rw [nD h]
mutual
theorem wLO:∀ {a b:AV},same a b=true->a=b
 | .int k n,.int k' n',h=>by simp only [same,nB] at h;rw [wOO h.1,wOP h.2]
 | .bool a,.bool b,h=>by simp only [same,beq_iff_eq] at h;rw [h]
 | .ptr b o,.ptr b' o',h=>by simp only [same,nB] at h;rw [Pos.beq_eq h.1,nD h.2]
 | .pnil,.pnil,_=>rfl
 | .sl b o n c,.sl b' o' n' c',h=>by simp only [same,nB] at h;rw [Pos.beq_eq h.1,nD h.2.1,nD h.2.2.1,nD h.2.2.2]
 | .rw b o n c,.rw b' o' n' c',h=>by simp only [same,nB] at h;rw [Pos.beq_eq h.1,nD h.2.1,nD h.2.2.1,nD h.2.2.2]
 | .snil,.snil,_=>rfl
 | .map b,.map b',h=>by simp only [same] at h;rw [Pos.beq_eq h]
 | .mnil,.mnil,_=>rfl
 | .fn f fi ca,.fn f' fi' ca',h=>by simp only [same,nB] at h;rw [Pos.beq_eq h.1,wDx h.2.1,wDx h.2.2]
 | .fnil,.fnil,_=>rfl
 | .agg l,.agg l',h=>by simp only [same] at h;rw [wDx h]
 | .tup l,.tup l',h=>by simp only [same] at h;rw [wDx h]
theorem wDx:∀ {a b:List AV},wGW a b=true->a=b
 | [],[],_=>rfl
 | a :: l,b :: k,h=>by simp only [wGW,nB] at h;rw [wLO h.1,wDx h.2]
 | [],_ :: _,h=>by simp [wGW] at h
 | _ :: _,[],h=>by simp [wGW] at h
end
section
variable {tb:Tr AF} {ex exY:Run} {σ:Tr AV} {h h':AH} {v:AV}
theorem wLP {o:Option AV} (hr:okV h o=some (v,h')) (h2:AH):okV h2 o=some (v,h2):=by
 cases o with
 | none=>cases hr
 | some x=>cases hr;rfl
end
section
variable {P:Program} {l:List Oper} {σ σ':Env} {o:Oper} {w:World}
def Agr (l:List Oper) (o:Oper) (σ σ':Env):Prop:=∀ d ∈ wCt l o,σ d=σ' d
theorem wPZ (h:Agr l o σ σ'):∀ y ∈ o.op.operands,ev σ y=ev σ' y:=by
 intro y hy
 cases y with
 | tmp t=>exact h t (nr _ (km.2 ⟨.tmp t,by simpa using hy,rfl⟩))
 | _=>rfl
theorem wBJ (h:Agr l o σ σ'):wanted l σ o=wanted l σ' o:=by
 unfold wanted
 cases hg:o.guard with
 | none=>rfl
 | some g =>
  obtain ⟨j,b⟩:=g
  simp only
  cases hd:(l[j]?).bind (·.dst) with
  | none=>rfl
  | some t =>
   simp only
   rw [h t (by unfold wCt;rw [hg];simp only [hd];simp)]
theorem wLQ (hs:wAt o=false) (h:Agr l o σ σ'):execOp (ev σ) o=execOp (ev σ') o:=execOp_congr o (wJp hs) (wPZ h)
theorem Runs.agr (hs:wAt o=false) (h:Agr l o σ σ') {v:Value} {w':World}:Runs P σ w o v w' ↔ Runs P σ' w o v w':=by
 unfold Runs;rw [wLQ hs h]
theorem Runs.det {v v':Value} {w1 w2:World} (h:Runs P σ w o v w1) (h':Runs P σ w o v' w2):v=v'/\w1=w2:=by
 have:=h.2.symm.trans h'.2
 simp only [Result.ok.injEq] at this
 obtain ⟨e,e2⟩:=this
 exact ⟨by simpa using e,e2⟩
theorem Step1.agr (hs:wAt o=false) (h:Agr l o σ σ') {R:Value->World->Prop} (hh:Step1 P l o σ w R):Step1 P l o σ' w R:=by
 have e:=wLQ hs h
 have ew:=wBJ h
 rcases hh with ⟨h1,⟨h2,w',h3,h4⟩ | ⟨v,w',h3,h4⟩ | ⟨f,args,R',h3,h4,h5⟩ | hy⟩ | ⟨h1,h2⟩
 ·exact .inl ⟨ew ▸ h1,.inl ⟨h2,w',by unfold Does at h3 ⊢;rw [<- e];exact h3,h4⟩⟩
 ·exact .inl ⟨ew ▸ h1,.inr (.inl ⟨v,w',by unfold Runs at h3 ⊢;rw [<- e];exact h3,h4⟩)⟩
 ·exact .inl ⟨ew ▸ h1,.inr (.inr (.inl ⟨f,args,R',by unfold Enters at h3 ⊢;rw [<- e];exact h3,h4,h5⟩))⟩
 ·exact .inl ⟨ew ▸ h1,.inr (.inr (.inr (by unfold Rounds at hy ⊢;rw [<- e];exact hy)))⟩
 ·exact .inr ⟨ew ▸ h1,h2⟩
end
end Go.KX
namespace Go.KX
open Go.RowKit Go.KL
section
variable {tb:Tr AF} {ex exY:Run} {C:Chk} {P:Program}
theorem wCL:∀ (l1 l2:List AO) (σ:Tr AV) (h:AH) (r:Tr AV × AH),wAN tb ex exY (l1 ++ l2) σ h=some r->∃ σ1 h1,wAN tb ex exY l1 σ h=some (σ1,h1)/\wAN tb ex exY l2 σ1 h1=some r
 | [],l2,σ,h,r,hr=>⟨σ,h,wAa _ _ _ _ _,hr⟩
 | a :: l1,l2,σ,h,r,hr=>by
  rw [nI,wAb] at hr
  rw [wAb]
  cases hw:wBd σ a.grd with
  | true =>
   rw [hw] at hr
   simp only at hr ⊢
   cases hq:opK a.kd a.op tb ex exY σ h with
   | none=>rw [hq] at hr;cases hr
   | some q =>
    rw [hq] at hr
    exact wCL l1 l2 _ _ r hr
  | false =>
   rw [hw] at hr
   exact wCL l1 l2 _ _ r hr
theorem wGf {d:Option Pos} {σ:Tr AV} {v:AV} {p:Pos}:evA (wEb d σ v) (.t p)=if d=some p then v else evA σ (.t p):=by
 cases d with
 | none =>
  rw [if_neg (by simp)]
  rfl
 | some q =>
  show evA (σ.set q v) (.t p)=_
  rw [wHx,Tr.get_set]
  by_cases e:p=q
  ·subst e
   rw [if_pos rfl,if_pos rfl]
   rfl
  ·rw [if_neg e,if_neg (fun h=>e (by cases h;rfl)),wHx]
theorem wBj:∀ (l:List AO) (σ:Tr AV) (h:AH) (σ':Tr AV) (h':AH),wAN tb ex exY l σ h=some (σ',h')->∀ p,(∀ a ∈ l,a.dst ≠ some p)->evA σ' (.t p)=evA σ (.t p)
 | [],σ,h,σ',h',hr,p,_=>by
  rw [wAa] at hr
  cases hr
  rfl
 | a :: l,σ,h,σ',h',hr,p,hp=>by
  have hn:a.dst ≠ some p:=hp a (by simp)
  rw [wAb] at hr
  cases hw:wBd σ a.grd with
  | true =>
   rw [hw] at hr
   simp only at hr
   cases hq:opK a.kd a.op tb ex exY σ h with
   | none=>rw [hq] at hr;cases hr
   | some q =>
    rw [hq] at hr
    rw [wBj l _ _ _ _ hr p fun b hb=>hp b (by simp [hb]),wGf,if_neg hn]
  | false =>
   rw [hw] at hr
   rw [wBj l _ _ _ _ hr p fun b hb=>hp b (by simp [hb]),wGf,if_neg hn]
variable {μ μ':Mu} {h:AH} {w:World}
theorem Sim.adopt {c:Cl} {B:AB} (S:Sim C P μ h w) (hlt:c.1 < w.heap.size) (hn:∀ p d,μ p=some d->d.1 ≠ c.1) (hB:AbR C P (μ.add h.nx c) w c B):Sim C P (μ.add h.nx c) (h.push B) w:=by
 have hn0:=S.nx h.nx (nP _)
 have hle:=Mu.add_le (c:=c) hn0
 refine ⟨?_,?_,?_,?_⟩
 ·intro p hp
  have hp:h.nx.succ.nat <= p.nat:=hp
  rw [Pos.nat_succ] at hp
  unfold Mu.add
  rw [if_neg (fun e=>by subst e;omega)]
  exact S.nx p (by omega)
 ·intro p d hd
  unfold Mu.add at hd
  split at hd
  ·cases hd;exact hlt
  ·exact S.lt p d hd
 ·intro p q a b d e hp hq la lb hd he hde
  simp only [AH.push,Tr.get_set] at hp hq
  unfold Mu.add at hd he
  split at hd <;> split at he
  ·rename_i h1 h2;rw [h1,h2]
  ·cases hd;exact absurd hde.symm (hn _ _ he)
  ·cases he;exact absurd hde (hn _ _ hd)
  ·rename_i h1 h2
   rw [if_neg h1] at hp
   rw [if_neg h2] at hq
   exact S.inj p q a b d e hp hq la lb hd he hde
 ·intro p b hb
  simp only [AH.push,Tr.get_set] at hb
  split at hb
  ·rename_i e
   subst e
   cases hb
   exact ⟨c,Mu.add_same _ _ _,hB⟩
  ·rename_i e
   obtain ⟨d,h1,h2⟩:=S.at_ p b hb
   exact ⟨d,hle _ _ h1,h2.mono hle⟩
end
end Go.KX
namespace Go.KX
open Go.RowKit Go.KL
theorem wEN:∀ {l:List AOd} {p:Pos},AOd.t p ∈ l->p ∈ wBa l
 | .t q :: l,p,h=>by
  rcases nK.1 h with h | h
  ·cases h;simp [wBa]
  ·simp only [wBa,nK];exact .inr (wEN h)
 | .c v :: l,p,h=>by
  rcases nK.1 h with h | h
  ·cases h
  ·show p ∈ wBa l
   exact wEN h
noncomputable def rst (σ:Tr AV):List Pos->Tr AV
 | []=>.e
 | p :: ps=>(rst σ ps).set p (evA σ (.t p))
theorem wFU (σ:Tr AV):∀ (ps:List Pos) (p:Pos),evA (rst σ ps) (.t p)=if p ∈ ps then evA σ (.t p) else u
 | [],p=>by rw [if_neg (by simp)];rfl
 | q :: ps,p=>by
  show evA ((rst σ ps).set q (evA σ (.t q))) (.t p)=_
  rw [wHx,Tr.get_set]
  by_cases e:p=q
  ·subst e
   rw [if_pos rfl,if_pos (by simp)]
   rfl
  ·rw [if_neg e,<- wHx,wFU σ ps p]
   simp [e]
open Classical in
noncomputable def rsl (σ:Env) (ps:List Pos):Env:=fun d=>if ∃ p ∈ ps,p.nat - 1=d then σ d else undef
theorem wFV {μ:Mu} {σA:Tr AV} {σ:Env} {ps:List Pos} (h:∀ p ∈ ps,Rv μ (evA σA (.t p)) (σ (p.nat - 1))):EnvR μ (rst σA ps) (rsl σ ps):=by
 intro p
 rw [wFU]
 unfold rsl
 by_cases hp:p ∈ ps
 ·rw [if_pos hp,if_pos ⟨p,hp,rfl⟩]
  exact h p hp
 ·rw [if_neg hp,if_neg]
  ·exact wKh μ
  ·rintro ⟨q,hq,e⟩
   have h1:=q.nat_pos
   have h2:=p.nat_pos
   have:q=p:=Pos.nat_inj (by omega)
   exact hp (this ▸ hq)
section
variable {tb:Tr AF} {ex exY:Run} {C:Chk} {P:Program} {μ:Mu} {σA:Tr AV} {σ:Env} {h h':AH} {v:AV} {o:Oper} {a:AOp} {w:World}
theorem wIm (hr:opY a tb ex exY σA h=some (v,h')):opY a tb ex exY (rst σA (wBa (wAo a))) h=some (v,h'):=by
 rw [<- hr]
 refine wLH a (fun x hx=>?_) h
 cases x with
 | t p=>rw [wFU,if_pos (wEN hx)]
 | c v=>rfl
theorem wOQ (hs:wAt o=false) (hb:Sub a o):execOp (ev (rsl σ (wBa (wAo a)))) o=execOp (ev σ) o:=by
 refine execOp_congr o (wJp hs) fun y hy=>?_
 cases y with
 | tmp t =>
  show rsl σ (wBa (wAo a)) t=σ t
  unfold rsl
  rw [if_pos (hb t hy)]
 | _=>rfl
theorem wGg (hs:wAt o=false) (hb:Sub a o) {v:Value} {w':World}:Runs P (rsl σ (wBa (wAo a))) w o v w' ↔ Runs P σ w o v w':=by
 unfold Runs;rw [wOQ hs hb]
theorem wFW (hs:wAt o=false) (hb:Sub a o) (hk:kdA a=3) (hc:wFP P a o.op=true) (hr:opY a tb ex exY σA h=some (v,h')) (hv:∀ p ∈ wBa (wAo a),Rv μ (evA σA (.t p)) (σ (p.nat - 1))) :
  ∃ cv,Rv μ v cv/\∀ w,Runs P σ w o cv w:=by
 obtain ⟨_,h2⟩:=wGE (tb:=tb) (ex:=ex) (exY:=exY) hk hc _ _ _ _ (wIm hr)
 obtain ⟨cv,g1,g2⟩:=h2 μ _ (wFV hv)
 exact ⟨cv,g1,fun w=>(wGg hs hb).1 (g2 o w rfl)⟩
theorem wLR (hs:wAt o=false) (hb:Sub a o) (hk:kdA a=1 \/ kdA a=3) (hc:wFP P a o.op=true) (hr:opY a tb ex exY σA h=some (v,h')) (S:Sim C P μ h w) (hv:∀ p ∈ wBa (wAo a),Rv μ (evA σA (.t p)) (σ (p.nat - 1))) :
  ∃ cv,Rv μ v cv/\Runs P σ w o cv w:=by
 obtain ⟨_,h2⟩:=wGF (C:=C) (tb:=tb) (ex:=ex) (exY:=exY) hk hc _ _ _ _ (wIm hr)
 obtain ⟨cv,g1,g2⟩:=h2 μ _ w (wFV hv) S
 exact ⟨cv,g1,(wGg hs hb).1 (g2 o rfl w (Keep.refl w _))⟩
theorem wIn {op:Op} (hk:wJl a=true) (hc:wFP P a op=true):OkA C P op (opY a tb ex exY):=by
 cases a <;> first
  | (simp [wJl] at hk;done)
  | exact a_new hc | exact a_box hc | exact a_mkm hc | exact a_mks hc | exact wPV hc
theorem wJV (hs:wAt o=false) (hb:Sub a o) (hk:wJl a=true) (hc:wFP P a o.op=true) (hr:opY a tb ex exY σA h=some (v,h')) (hv:∀ p ∈ wBa (wAo a),Rv μ (evA σA (.t p)) (σ (p.nat - 1))) :
  ∃ (B:AB) (vf:Pos->AV) (ob:Obj) (val:Nat->Value),h'=h.push B/\v=vf h.nx/\wJN B/\(∀ w:World,Runs P σ w o (val w.heap.size) (w.alloc ob)) /\
   (∀ μ' (w:World) b,μ.Le μ'->w.heap[b]?=some ob->AbR C P μ' w ⟨b,0,g0⟩ B)/\∀ μ' p b,μ' p=some ⟨b,0,g0⟩->Rv μ' (vf p) (val b):=by
 obtain ⟨B,vf,e1,e2,_,e4,e5⟩:=wIn (C:=C) (tb:=tb) (ex:=ex) (exY:=exY) hk hc _ _ _ _ (wIm hr)
 obtain ⟨ob,val,g1,g2,g3⟩:=e5 μ _ (wFV hv) o rfl
 exact ⟨B,vf,ob,val,e1,e2,e4,fun w=>(wGg hs hb).1 (g1 w),g2,g3⟩
end
end Go.KX
namespace Go.KX
open Go.RowKit Go.KL
section
variable {tb:Tr AF} {ex exY:Run} {P:Program}
theorem wIo {s t:List AO} {a:AO} {σ0:Tr AV} {h0:AH} {r:Tr AV × AH} (hr:wAN tb ex exY (s ++ a :: t) σ0 h0=some r) :
  ∃ σ1 h1,wAN tb ex exY s σ0 h0=some (σ1,h1) /\
   ((wBd σ1 a.grd=true/\∃ v h2,opK a.kd a.op tb ex exY σ1 h1=some (v,h2)/\wAN tb ex exY t (wEb a.dst σ1 v) h2=some r) \/
    (wBd σ1 a.grd=false/\wAN tb ex exY t (wEb a.dst σ1 u) h1=some r)):=by
 obtain ⟨σ1,h1,e1,e2⟩:=wCL s (a :: t) σ0 h0 r hr
 refine ⟨σ1,h1,e1,?_⟩
 rw [wAb] at e2
 cases hw:wBd σ1 a.grd with
 | true =>
  rw [hw] at e2
  simp only at e2
  cases hq:opK a.kd a.op tb ex exY σ1 h1 with
  | none=>rw [hq] at e2;cases e2
  | some q =>
   rw [hq] at e2
   exact .inl ⟨rfl,q.1,q.2,rfl,e2⟩
 | false =>
  rw [hw] at e2
  exact .inr ⟨rfl,e2⟩
theorem wCj {l:List Oper} {S:Nat->Bool} (hdc:∀ k,k < l.length->S k=true->∀ j ∈ prI l k,S j=true) {x i:Nat} (hp:∀ j ∈ prI l i,S j=true) (h:wIh l x i):S x=true:=h S hdc hp
variable {N:Nat} {l:List Oper} {os s t:List AO} {a:AO} {σ0 σ1 σf:Tr AV} {h0 h1 hf:AH}
theorem wIG (Z:ZOK P N l os) (e:os=s ++ a :: t) {v:AV} {σ2:Tr AV} {h2:AH} (hr:wAN tb ex exY t (wEb a.dst σ2 v) h2=some (σf,hf)) {p:Pos} (hp:a.dst=some p):evA σf (.t p)=v:=by
 rw [wBj t _ _ _ _ hr p fun b hb=>Z.wr s a t e p hp b (nX _ hb),wGf,if_pos hp]
theorem wPa (Z:ZOK P N l os) (e:os=s ++ a :: t) (hr:wAN tb ex exY (a :: t) σ1 h1=some (σf,hf)) {p:Pos} (hp:p ∈ wBK a):evA σf (.t p)=evA σ1 (.t p) :=
 wBj (a :: t) _ _ _ _ hr p fun b hb=>Z.rd s a t e p hp b hb
end
end Go.KX
namespace Go.KX
open Go.RowKit Go.KL
section
variable {tb:Tr AF} {ex exY:Run} {P:Program} {N:Nat} {l:List Oper} {os s t:List AO} {a:AO} {σ0 σ1 σA σf:Tr AV} {h0 h h1 hf:AH} {μ μS:Mu} {σ σ':Env} {w:World} {o:Oper}
theorem wBk:∀ {s s' t t':List AO} {a:AO},(s ++ a :: t).Pairwise (fun a b=>a.ix ≠ b.ix)->s ++ a :: t=s' ++ a :: t'->s=s'/\t=t'
 | [],[],t,t',a,_,e=>by
  simp only [nR,nS,true_and] at e
  exact ⟨rfl,e⟩
 | [],b :: s',t,t',a,hp,e=>by
  simp only [nR,nI,nS] at e
  obtain ⟨rfl,rfl⟩:=e
  rw [nR] at hp
  exact absurd rfl ((nW.1 hp).1 a (by simp))
 | b :: s,[],t,t',a,hp,e=>by
  simp only [nR,nI,nS] at e
  obtain ⟨rfl,rfl⟩:=e
  rw [nI] at hp
  exact absurd rfl ((nW.1 hp).1 b (by simp))
 | b :: s,b' :: s',t,t',a,hp,e=>by
  simp only [nI,nS] at e
  rw [nI] at hp
  obtain ⟨h1,h2⟩:=wBk (nW.1 hp).2 e.2
  exact ⟨by rw [e.1,h1],h2⟩
theorem wDJ (A:AOK P N l a o) (hs:Sub a.op o):∀ d ∈ wCt l o,∃ p ∈ wBK a,p.nat - 1=d:=by
 intro d hd
 unfold wCt at hd
 rcases nL.1 hd with hd | hd
 ·obtain ⟨y,h1,h2⟩:=km.1 hd
  cases y with
  | tmp t =>
   simp only [kv] at h2
   subst h2
   obtain ⟨p,h3,h4⟩:=hs t (by simpa using h1)
   exact ⟨p,nr _ h3,h4⟩
  | _=>simp at h2
 ·rcases A.grd with ⟨_,h2⟩ | ⟨p,b,j,d',h1,h2,h3,h4⟩
  ·rw [h2] at hd;simp at hd
  ·rw [h2] at hd
   simp only [h3,Option.toList_some,kA] at hd
   subst hd
   exact ⟨p,nX _ (by rw [h1];simp),h4.symm⟩
structure Pend (tb:Tr AF) (ex exY:Run) (P:Program) (l:List Oper) (os:List AO) (σ0:Tr AV) (h0:AH) (σf:Tr AV) (w0:World) (μ μS:Mu) (σ:Env) (w:World) (a:AO) (o:Oper) (p:Pos):Prop where
 get:l[a.ix]?=some o
 dst:a.dst=some p
 fact:(wanted l σ o=false/\σ (p.nat - 1)=undef/\evA σf (.t p)=u) \/ (wanted l σ o=true /\
  (((a.kd=1 \/ a.kd=3 \/ 8 <= a.kd)/\Rv μ (evA σf (.t p)) (σ (p.nat - 1))) \/
   (a.kd=6/\Rv μS (evA σf (.t p)) (σ (p.nat - 1))/\∃ w1 w2,Runs P σ w1 o (σ (p.nat - 1)) w2) \/
   (a.kd=4/\Rv μS (evA σf (.t p)) (σ (p.nat - 1))/\∃ w1 ob s1 t1 σ1 h1,Runs P σ w1 o (σ (p.nat - 1)) (w1.alloc ob)/\w.heap[w1.heap.size]?=some ob/\w0.heap.size <= w1.heap.size /\
    os=s1 ++ a :: t1/\wAN tb ex exY s1 σ0 h0=some (σ1,h1)/\μS h1.nx=some ⟨w1.heap.size,0,g0⟩/\∀ q c,μS q=some c->c.1=w1.heap.size->q=h1.nx)))
theorem wLS {tb:Tr AF} {ex exY:Run} {k:Nat} {op:AOp} {σ:Tr AV} {h h':AH} {v:AV} (hk:k ≠ 2) (hr:opK k op tb ex exY σ h=some (v,h')):opY op tb ex exY σ h=some (v,h'):=by
 have hb:nM k 2=false:=by
  cases hb:nM k 2 with
  | false=>rfl
  | true=>exact absurd (nD hb) hk
 have:opK k op=opY op:=by unfold opK;rw [hb]
 rwa [this] at hr
theorem wJW {k:Nat} (h:8 <= k):¬ wBG k=true:=by
 unfold wBG
 simp only [na,not_or]
 exact ⟨fun e=>by have:=nD e;omega,fun e=>by have:=nD e;omega⟩
theorem wLT {w:World} {a b:Obj} (h:w.alloc a=w.alloc b):a=b:=by
 have h1:=heap_alloc_new w a
 rw [h,heap_alloc_new] at h1
 exact (nJ h1).symm
theorem wPb (Z:ZOK P N l os) (e:os=s ++ a :: t) {μ0:Mu} {w0:World} {fl:Nat} (hs:wAN tb ex exY s σ0 h0=some (σA,h)) (hr:wAN tb ex exY (a :: t) σA h=some (σf,hf))
  (E:Ext μ0 fl w0 μ w) (S:Sim (CC P) P μ h w) (hE:EnvR μ σA σ') (hle:μ.Le μS) {p:Pos} (Pd:Pend tb ex exY P l os σ0 h0 σf w0 μ μS σ w a o p) (hag:∀ q ∈ wBK a,σ (q.nat - 1)=σ' (q.nat - 1)) :
  ∃ σB hB μB,wAN tb ex exY (s ++ [a]) σ0 h0=some (σB,hB)/\wAN tb ex exY t σB hB=some (σf,hf)/\μ.Le μB/\μB.Le μS/\Ext μ0 fl w0 μB w/\Sim (CC P) P μB hB w/\hB.fl=h.fl/\EnvR μB σB (upd σ' (p.nat - 1) (σ (p.nat - 1)))/\(a.kd=4->wanted l σ o=true->μB h.nx ≠ none):=by
 have ha:a ∈ os:=by rw [e];simp
 obtain ⟨o',A⟩:=wBs (Z.ao a ha)
 have eo:o'=o:=by have:=A.get;rw [Pd.get] at this;exact (nJ this).symm
 subst eo
 have hsel:=Z.sel a ha _ A.get
 have hsub:=Z.sub a ha _ A.get
 have hagr:Agr l o' σ σ':=fun d hd=>by
  obtain ⟨q,h1,rfl⟩:=wDJ A hsub d hd
  exact hag q h1
 have hw:=wGd A hE
 have hwσ:wanted l σ o'=wBd σA a.grd:=(wBJ hagr).trans hw
 obtain ⟨pd,dd,d1,d2,d3,_⟩:∃ p d,a.dst=some p/\o'.dst=some d/\d=p.nat - 1/\d < N:=by
  rcases A.dst with ⟨h1,_⟩ | h
  ·rw [Pd.dst] at h1;cases h1
  ·exact h
 have ep:pd=p:=by rw [Pd.dst] at d1;exact (nJ d1).symm
 subst ep
 have eput:∀ cv,put' σ' o' cv=upd σ' (pd.nat - 1) cv:=fun cv=>by unfold put';rw [d2,d3]
 obtain ⟨σx,hx,q1,q2⟩:=wIo (s:=[]) (a:=a) (t:=t) (σ0:=σA) (h0:=h) (by rw [nR];exact hr)
 rw [wAa] at q1
 cases q1
 have split1:∀ {σB hB},(match wBd σA a.grd with | true=>(match opK a.kd a.op tb ex exY σA h with | some r=>some (wEb a.dst σA r.1,r.2) | none=>none) | false=>some (wEb a.dst σA u,h))=some (σB,hB)->wAN tb ex exY (s ++ [a]) σ0 h0=some (σB,hB):=by
  intro σB hB hq
  have app:∀ (l1 l2:List AO) (x:Tr AV) (y:AH) (x1:Tr AV) (y1:AH),wAN tb ex exY l1 x y=some (x1,y1)->wAN tb ex exY (l1 ++ l2) x y=wAN tb ex exY l2 x1 y1:=by
   intro l1
   induction l1 with
   | nil=>intro l2 x y x1 y1 h;rw [wAa] at h;cases h;rfl
   | cons b l1 ih =>
    intro l2 x y x1 y1 h
    rw [nI,wAb]
    rw [wAb] at h
    cases hb:wBd x b.grd with
    | true =>
     rw [hb] at h
     simp only at h ⊢
     cases hq:opK b.kd b.op tb ex exY x y with
     | none=>rw [hq] at h;cases h
     | some r=>rw [hq] at h;exact ih l2 _ _ _ _ h
    | false =>
     rw [hb] at h
     exact ih l2 _ _ _ _ h
  rw [app s [a] _ _ _ _ hs,wAb]
  cases hb:wBd σA a.grd with
  | true =>
   rw [hb] at hq
   simp only at hq ⊢
   cases hk:opK a.kd a.op tb ex exY σA h with
   | none=>rw [hk] at hq;cases hq
   | some r =>
    rw [hk] at hq
    cases hq
    exact wAa _ _ _ _ _
  | false =>
   rw [hb] at hq
   cases hq
   rw [wAa]
 rcases q2 with ⟨g1,v,h2,g2,g3⟩ | ⟨g1,g3⟩
 ·have hv:evA σf (.t pd)=v:=wIG Z e g3 Pd.dst
  have hrun:=split1 (σB:=wEb a.dst σA v) (hB:=h2) (by rw [g1];simp only;rw [g2])
  rcases Pd.fact with ⟨f1,_⟩ | ⟨_,⟨fk,f1⟩ | ⟨fk,f1,w1,w2,f2⟩ | ⟨fk,f1,w1,ob,s1,t1,σ1,h1,f2,f3,f4,f5,f6,f7,f8⟩⟩
  ·rw [hwσ,g1] at f1;cases f1
  ·have gY:opY a.op tb ex exY σA h=some (v,h2):=wLS (by omega) g2
   have hk:kdA a.op=1 \/ kdA a.op=3:=by
    rcases fk with fk | fk | fk
    ·exact A.k1 fk
    ·exact .inr (A.k3 fk)
    ·rcases Z.kd a ha with hh | ⟨_,hh | hh | hh | hh | hh⟩
     ·exact absurd hh (wJW fk)
     ·omega
     ·omega
     ·omega
     ·omega
     ·exact .inl hh.2
   obtain ⟨e1,_⟩:=wGF (C:=CC P) hk A.op _ _ _ _ gY
   subst e1
   rw [hv] at f1
   exact ⟨_,_,μ,hrun,g3,Mu.Le.refl μ,hle,E,S,rfl,by rw [<- eput];exact wCn A hE f1,fun h4 _=>by omega⟩
  ·have gY:opY a.op tb ex exY σA h=some (v,h2):=by rw [fk] at g2;exact g2
   have hk:kdA a.op=3:=by
    rcases Z.kd a ha with hh | ⟨_,hh | hh | hh | hh | hh⟩
    ·rw [fk] at hh;exact absurd hh (by decide)
    ·omega
    ·omega
    ·exact hh.2
    ·omega
    ·omega
   obtain ⟨e1,e2⟩:=wGE hk A.op _ _ _ _ gY
   subst e1
   obtain ⟨cv,c1,c2⟩:=e2 μ σ' hE
   have:=Runs.det ((Runs.agr hsel hagr).2 (c2 o' w1 rfl)) f2
   rw [<- eput,<- this.1]
   exact ⟨_,_,μ,hrun,g3,Mu.Le.refl μ,hle,E,S,rfl,wCn A hE c1,fun h4 _=>by omega⟩
  ·have gY:opY a.op tb ex exY σA h=some (v,h2):=by rw [fk] at g2;exact g2
   have hk:wJl a.op=true:=by
    rcases Z.kd a ha with hh | ⟨_,hh | hh | hh | hh | hh⟩
    ·rw [fk] at hh;exact absurd hh (by decide)
    ·omega
    ·omega
    ·omega
    ·exact hh.2
    ·omega
   obtain ⟨B,vf,e1,e2,_,_,e5⟩:=wIn (C:=CC P) hk A.op _ _ _ _ gY
   obtain ⟨ob',val,c1,c2,c3⟩:=e5 μ σ' hE o' rfl
   obtain ⟨k1,k2⟩:=Runs.det ((Runs.agr hsel hagr).2 (c1 w1)) f2
   have k2:=wLT k2
   subst k2
   have es:s1=s:=(wBk (f5 ▸ Z.one) (f5.symm.trans e)).1
   subst es
   rw [hs] at f6
   cases f6
   have hn0:=S.nx h.nx (nP _)
   have hadd:=Mu.add_le (c:=(⟨w1.heap.size,0,g0⟩:Cl)) hn0
   have hlt:w1.heap.size < w.heap.size:=wAG f3
   subst e1 e2
   have hv':Rv (μ.add h.nx ⟨w1.heap.size,0,g0⟩) (vf h.nx) (σ (pd.nat - 1)):=by
    rw [<- k1]
    exact c3 _ _ _ (Mu.add_same _ _ _)
   refine ⟨_,_,μ.add h.nx ⟨w1.heap.size,0,g0⟩,hrun,g3,hadd,?_,⟨E.mono.trans hadd,?_,E.keep⟩,S.adopt hlt ?_ (c2 _ w _ hadd f3),rfl,?_,fun _ _=>by rw [Mu.add_same];simp⟩
   ·intro q d hq
    unfold Mu.add at hq
    split at hq
    ·rename_i eq
     subst eq
     cases hq
     exact f7
    ·exact hle q d hq
   ·intro q c hq
    unfold Mu.add at hq
    split at hq
    ·cases hq
     exact .inr (.inr f4)
    ·exact E.new q c hq
   ·intro q d hq hd
    have:=f8 q d (hle q d hq) hd
    subst this
    rw [hn0] at hq
    cases hq
   ·rw [<- eput]
    exact wCn A (hE.mono hadd) hv'
 ·have hrun:=split1 (σB:=wEb a.dst σA u) (hB:=h) (by rw [g1])
  rcases Pd.fact with ⟨_,f2,_⟩ | ⟨f1,_⟩
  ·refine ⟨_,_,μ,hrun,g3,Mu.Le.refl μ,hle,E,S,rfl,?_,fun _ hw'=>by rw [hwσ,g1] at hw';cases hw'⟩
   rw [f2,<- eput]
   exact wCn A hE (wKh μ)
  ·rw [hwσ,g1] at f1;cases f1
structure JS (tb:Tr AF) (ex exY:Run) (P:Program) (l:List Oper) (os:List AO) (σ0:Tr AV) (h0:AH) (σf:Tr AV) (hf:AH) (μ0:Mu) (w0:World) (S:Nat->Bool) (σ:Env) (w:World) (s t:List AO) (σA:Tr AV) (h:AH) (σ':Env) (μ μS:Mu):Prop where
 e:os=s ++ t
 hs:wAN tb ex exY s σ0 h0=some (σA,h)
 hr:wAN tb ex exY t σA h=some (σf,hf)
 inS:∀ a ∈ s,S a.ix=true
 free:∀ a ∈ t,S a.ix=true->wBG a.kd=false
 E:Ext μ0 h0.fl.nat w0 μ w
 sim:Sim (CC P) P μ h w
 fl:h.fl=h0.fl
 env:EnvR μ σA σ'
 ag:∀ q:Pos,(∀ a ∈ t,S a.ix=true->a.dst ≠ some q)->σ (q.nat - 1)=σ' (q.nat - 1)
 le:μ.Le μS
 nm:∀ q c,μS q=some c->μ q=some c \/ ∃ a o s1 t1 σ1 h1,a ∈ t/\S a.ix=true/\l[a.ix]?=some o/\wanted l σ o=true/\a.kd=4/\os=s1 ++ a :: t1/\wAN tb ex exY s1 σ0 h0=some (σ1,h1)/\q=h1.nx
 pd:∀ a ∈ t,S a.ix=true->∃ o p,Pend tb ex exY P l os σ0 h0 σf w0 μ μS σ w a o p
theorem Pend.mono {μB:Mu} {w0:World} {p:Pos} (h:Pend tb ex exY P l os σ0 h0 σf w0 μ μS σ w a o p) (hm:μ.Le μB):Pend tb ex exY P l os σ0 h0 σf w0 μB μS σ w a o p:=by
 refine ⟨h.get,h.dst,?_⟩
 rcases h.fact with f | ⟨f,⟨f1,f2⟩ | f1 | f1⟩
 ·exact .inl f
 ·exact .inr ⟨f,.inl ⟨f1,f2.mono hm⟩⟩
 ·exact .inr ⟨f,.inr (.inl f1)⟩
 ·exact .inr ⟨f,.inr (.inr f1)⟩
theorem JS.catch1 (Z:ZOK P N l os) {μ0:Mu} {w0:World} {S:Nat->Bool} (J:JS tb ex exY P l os σ0 h0 σf hf μ0 w0 S σ w s (a :: t) σA h σ' μ μS) (ha:S a.ix=true) :
  ∃ σB hB σ'' μB,JS tb ex exY P l os σ0 h0 σf hf μ0 w0 S σ w (s ++ [a]) t σB hB σ'' μB μS:=by
 obtain ⟨o,p,Pd⟩:=J.pd a (by simp) ha
 have hag:∀ q ∈ wBK a,σ (q.nat - 1)=σ' (q.nat - 1):=fun q hq=>J.ag q fun b hb _=>Z.rd s a t J.e q hq b hb
 obtain ⟨σB,hB,μB,c1,c2,c3,c4,c5,c6,c7,c8,c9⟩:=wPb Z J.e J.hs J.hr J.E J.sim J.env J.le Pd hag
 have hne:∀ b ∈ t,b.ix ≠ a.ix:=fun b hb e=>by
  have:=Z.one
  rw [J.e] at this
  exact (nW.1 (nt.1 this).2.1).1 b hb e.symm
 refine ⟨σB,hB,_,μB,by rw [J.e];simp,c1,c2,fun b hb=>?_,fun b hb=>J.free b (by simp [hb]),c5,c6,c7.trans J.fl,c8,fun q hq=>?_,c4,fun q c hq=>?_,fun b hb hS=>?_⟩
 ·rcases nL.1 hb with hb | hb
  ·exact J.inS b hb
  ·rw [kA.1 hb];exact ha
 ·by_cases e:q=p
  ·subst e
   rw [wBp]
  ·rw [wCS _ _ (fun h=>e (Pos.nat_inj (by have:=q.nat_pos;have:=p.nat_pos;omega)))]
   refine J.ag q fun b hb hS=>?_
   rcases nK.1 hb with rfl | hb
   ·rw [Pd.dst]
    intro h
    cases h
    exact e rfl
   ·exact hq b hb hS
 ·rcases J.nm q c hq with h1 | ⟨b,ob,s1,t1,σ1,h1,k1,k2,k3,k4,k5,k6,k7,k8⟩
  ·exact .inl (c3 _ _ h1)
  ·rcases nK.1 k1 with rfl | k1
   ·left
    have hs1:s1=s:=(wBk (k6 ▸ Z.one) (k6.symm.trans J.e)).1
    subst hs1
    rw [J.hs] at k7
    cases k7
    subst k8
    rw [Pd.get] at k3
    cases k3
    have:=c9 k5 k4
    cases hm:μB h.nx with
    | none=>exact absurd hm this
    | some c' =>
     have:=c4 _ _ hm
     rw [hq] at this
     exact this.symm
   ·exact .inr ⟨b,ob,s1,t1,σ1,h1,k1,k2,k3,k4,k5,k6,k7,k8⟩
 ·obtain ⟨o',p',h'⟩:=J.pd b (by simp [hb]) hS
  exact ⟨o',p',h'.mono c3⟩
end
end Go.KX
namespace Go.KX
open Go.RowKit Go.KL
section
variable {tb:Tr AF} {ex exY:Run} {P:Program} {N:Nat} {l:List Oper} {os s t:List AO} {a:AO} {σ0 σA σf:Tr AV} {h0 h hf:AH} {μ μS:Mu} {σ σ':Env} {w:World} {o:Oper}
theorem wCO:∀ (l1 l2:List AO) (x:Tr AV) (y:AH) (x1:Tr AV) (y1:AH),wAN tb ex exY l1 x y=some (x1,y1)->wAN tb ex exY (l1 ++ l2) x y=wAN tb ex exY l2 x1 y1
 | [],l2,x,y,x1,y1,h=>by rw [wAa] at h;cases h;rfl
 | b :: l1,l2,x,y,x1,y1,h=>by
  rw [nI,wAb]
  rw [wAb] at h
  cases hb:wBd x b.grd with
  | true =>
   rw [hb] at h
   simp only at h ⊢
   cases hq:opK b.kd b.op tb ex exY x y with
   | none=>rw [hq] at h;cases h
   | some r=>rw [hq] at h;exact wCO l1 l2 _ _ _ _ h
  | false =>
   rw [hb] at h
   exact wCO l1 l2 _ _ _ _ h
theorem wOR (HE:FrX ex) (HY:FrX exY) (Z:ZOK P N l os) (e:os=s ++ t) (hs:wAN tb ex exY s σ0 h0=some (σA,h)) {b:AO} (hb:b ∈ t) {s1 t1:List AO} {σ1:Tr AV} {h1:AH} (e1:os=s1 ++ b :: t1) (hr:wAN tb ex exY s1 σ0 h0=some (σ1,h1)):h.nx.nat <= h1.nx.nat:=by
 obtain ⟨r,r',rfl⟩:=nQ hb
 have es:s1=s ++ r:=(wBk (e1 ▸ Z.one) (e1.symm.trans (e.trans (nN _ _ _).symm))).1
 subst es
 rw [wCO s r _ _ _ _ hs] at hr
 exact (wGI HE HY _ _ _ _ _ hr).nx
theorem wEk (Z:ZOK P N l os) {S:Nat->Bool} (hdc:∀ k,k < l.length->S k=true->∀ j ∈ prI l k,S j=true) (ha:a ∈ os) (hS:S a.ix=false) {b:AO} (hb:b ∈ os) (hbS:S b.ix=true) (A:AOK P N l a o) {ob:Oper} (hob:l[b.ix]?=some ob) (v:Value):Agr l ob σ (put' σ o v):=by
 obtain ⟨ob',B⟩:=wBs (Z.ao b hb)
 have eo:ob'=ob:=by have:=B.get;rw [hob] at this;exact (nJ this).symm
 subst eo
 intro d hd
 obtain ⟨p,hp,rfl⟩:=wDJ B (Z.sub b hb _ B.get) d hd
 symm
 refine wEq fun dd hdd e=>?_
 rcases A.dst with ⟨_,h2⟩ | ⟨q,d',h1,h2,h3,_⟩
 ·rw [h2] at hdd;cases hdd
 ·rw [h2] at hdd
  have hdd:=nJ hdd
  have eq:q=p:=Pos.nat_inj (by have:=q.nat_pos;have:=p.nat_pos;have:q.nat - 1=p.nat - 1:=h3.symm.trans (hdd.trans e);omega)
  subst eq
  have:=Z.rdS b hb q hp a ha h1
  have hlt:b.ix < l.length:=(nY.1 hob).1
  have:=wCj hdc (hdc _ hlt hbS) this
  rw [hS] at this
  cases this
theorem JS.fixed (HC:wEX (CC P) P tb ex) (HY':wDa (CC P) P exY) (HE:FrX ex) (HY:FrX exY) (Z:ZOK P N l os) {μ0:Mu} {w0:World} {S:Nat->Bool} (J:JS tb ex exY P l os σ0 h0 σf hf μ0 w0 S σ w s (a :: t) σA h σ' μ μS) (hfix:wBG a.kd=true) (hS:S a.ix=false)
  (hdc:∀ k,k < l.length->S k=true->∀ j ∈ prI l k,S j=true) (A:AOK P N l a o) :
  Step1 P l o σ w fun v w'=>∃ σB hB σ'' μB μT,JS tb ex exY P l os σ0 h0 σf hf μ0 w0 (fun k=>k == a.ix || S k) (put' σ o v) w' (s ++ [a]) t σB hB σ'' μB μT:=by
 have ha:a ∈ os:=by rw [J.e];simp
 have hsel:=Z.sel a ha _ A.get
 have hag:∀ q ∈ wBK a,σ (q.nat - 1)=σ' (q.nat - 1):=fun q hq=>J.ag q fun b hb _=>Z.rd s a t J.e q hq b hb
 have hagr:Agr l o σ σ':=fun d hd=>by
  obtain ⟨q,h1,rfl⟩:=wDJ A (Z.sub a ha _ A.get) d hd
  exact hag q h1
 have hw:=wGd A J.env
 have main:∀ (v:AV) (cv:Value) (hB:AH) (w':World) (μB:Mu),wAN tb ex exY (s ++ [a]) σ0 h0=some (wEb a.dst σA v,hB)->wAN tb ex exY t (wEb a.dst σA v) hB=some (σf,hf) ->
   Ext μ h.fl.nat w μB w'->Sim (CC P) P μB hB w'->EnvR μB (wEb a.dst σA v) (put' σ' o cv)->hB.fl=h.fl ->
   ∃ σB hB σ'' μB μT,JS tb ex exY P l os σ0 h0 σf hf μ0 w0 (fun k=>k == a.ix || S k) (put' σ o cv) w' (s ++ [a]) t σB hB σ'' μB μT:=by
  intro v cv hB w' μB r1 r2 E' S' hE' hfl
  have hne:∀ b ∈ t,b.ix ≠ a.ix:=fun b hb e=>by
   have:=Z.one
   rw [J.e] at this
   exact (nW.1 (nt.1 this).2.1).1 b hb e.symm
  have hSb:∀ b ∈ t,(b.ix == a.ix || S b.ix)=true->S b.ix=true:=fun b hb h=>by
   have:=hne b hb
   simpa [this] using h
  have hbo:∀ b ∈ t,b ∈ os:=fun b hb=>by rw [J.e];simp [hb]
  have eB:os=(s ++ [a]) ++ t:=by rw [J.e];simp
  have hnm:∀ b ∈ t,∀ s1 t1 σ1 h1,os=s1 ++ b :: t1->wAN tb ex exY s1 σ0 h0=some (σ1,h1)->μB h1.nx=none/\μ h1.nx=none:=fun b hb s1 t1 σ1 h1 e1 hr=>by
   have g1:=wOR HE HY Z eB r1 hb e1 hr
   have g2:=wOR HE HY Z J.e J.hs (b:=b) (by simp [hb]) e1 hr
   exact ⟨S'.nx _ g1,J.sim.nx _ g2⟩
  let μT:Mu:=fun q=>match μB q with | some c=>some c | none=>μS q
  have hT:μB.Le μT:=fun q c hq=>by show (match μB q with | some c=>some c | none=>μS q)=_;rw [hq]
  have hST:μS.Le μT:=fun q c hq=>by
   show (match μB q with | some c=>some c | none=>μS q)=_
   cases hB:μB q with
   | none=>exact hq
   | some c' =>
    rcases J.nm q c hq with h1 | ⟨b,ob,s1,t1,σ1,h1,k1,k2,k3,k4,k5,k6,k7,k8⟩
    ·rw [E'.mono _ _ h1] at hB
     exact hB.symm ▸ rfl
    ·rcases nK.1 k1 with rfl | k1
     ·rw [hS] at k2;cases k2
     ·have:=(hnm b k1 s1 t1 σ1 h1 k6 k7).1
      rw [<- k8,hB] at this
      cases this
  refine ⟨_,hB,_,μB,μT,eB,r1,r2,fun b hb=>?_,fun b hb hh=>J.free b (by simp [hb]) (hSb b hb hh),?_,S',hfl.trans J.fl,hE',fun q hq=>?_,hT,fun q c hq=>?_,fun b hb hh=>?_⟩
  ·rcases nL.1 hb with hb | hb
   ·simp [J.inS b hb]
   ·rw [kA.1 hb];simp
  ·have:=J.E
   refine this.trans ?_
   rw [<- J.fl]
   exact E'
  ·have old:σ (q.nat - 1)=σ' (q.nat - 1) \/ a.dst=some q:=by
    by_cases hq':a.dst=some q
    ·exact .inr hq'
    ·exact .inl (J.ag q fun b hb h=>by
      rcases nK.1 hb with rfl | hb
      ·exact hq'
      ·exact hq b hb (by simp [h]))
   rcases A.dst with ⟨h1,h2⟩ | ⟨p,d,h1,h2,h3,_⟩
   ·unfold put'
    rw [h2]
    rcases old with old | old
    ·exact old
    ·rw [h1] at old;cases old
   ·unfold put'
    rw [h2]
    by_cases e:q.nat - 1=d
    ·simp only [e,wBp]
    ·simp only
     rw [wCS _ _ e,wCS _ _ e]
     rcases old with old | old
     ·exact old
     ·rw [h1] at old
      cases old
      exact absurd h3.symm e
  ·have hq:(match μB q with | some c=>some c | none=>μS q)=some c:=hq
   cases hB':μB q with
   | some c' =>
    rw [hB'] at hq
    exact .inl hq
   | none =>
    rw [hB'] at hq
    rcases J.nm q c hq with h1 | ⟨b,ob,s1,t1,σ1,h1,k1,k2,k3,k4,k5,k6,k7,k8⟩
    ·rw [E'.mono _ _ h1] at hB'
     cases hB'
    ·rcases nK.1 k1 with rfl | k1
     ·rw [hS] at k2;cases k2
     ·exact .inr ⟨b,ob,s1,t1,σ1,h1,k1,by simp [k2],k3,(wBJ (wEk Z hdc ha hS (hbo b k1) k2 A k3 cv)).symm.trans k4,k5,k6,k7,k8⟩
  ·have hbS:=hSb b hb hh
   obtain ⟨ob,p,Pd⟩:=J.pd b (by simp [hb]) hbS
   have hA:=wEk (σ:=σ) Z hdc ha hS (hbo b hb) hbS A Pd.get cv
   have hp:put' σ o cv (p.nat - 1)=σ (p.nat - 1):=wEq fun d hd e=>by
    rcases A.dst with ⟨_,h2⟩ | ⟨q,d',h1,h2,h3,_⟩
    ·rw [h2] at hd;cases hd
    ·rw [h2] at hd
     have hd:=nJ hd
     have eq:q=p:=Pos.nat_inj (by have:=q.nat_pos;have:=p.nat_pos;have:q.nat - 1=p.nat - 1:=h3.symm.trans (hd.trans e);omega)
     subst eq
     exact Z.wr s a t J.e q h1 b (nX _ hb) Pd.dst
   have hsb:=Z.sel b (hbo b hb) _ Pd.get
   refine ⟨ob,p,Pd.get,Pd.dst,?_⟩
   rw [hp,<- wBJ hA]
   rcases Pd.fact with f | ⟨f,⟨f1,f2⟩ | ⟨f1,f2,w1,w2,f3⟩ | ⟨f1,f2,w1,o1,s1,t1,σ1,h1,f3,f4,f5,f6,f7,f8,f9⟩⟩
   ·exact .inl f
   ·exact .inr ⟨f,.inl ⟨f1,f2.mono E'.mono⟩⟩
   ·exact .inr ⟨f,.inr (.inl ⟨f1,f2.mono hST,w1,w2,(Runs.agr hsb hA).1 f3⟩)⟩
   ·obtain ⟨n1,n2⟩:=hnm b hb s1 t1 σ1 h1 f6 f7
    have nimg:¬ img μ h.fl.nat w1.heap.size:=by
     rintro ⟨q,d,g1,g2,_⟩
     have:=f9 q d (J.le _ _ g1) g2
     rw [this,n2] at g1
     cases g1
    refine .inr ⟨f,.inr (.inr ⟨f1,f2.mono hST,w1,o1,s1,t1,σ1,h1,(Runs.agr hsb hA).1 f3,(E'.keep.block _ (wAG f4) nimg).trans f4,f5,f6,f7,hST _ _ f8,fun q c hq hc=>?_⟩)⟩
    have hq:(match μB q with | some c=>some c | none=>μS q)=some c:=hq
    cases hB':μB q with
    | none=>rw [hB'] at hq;exact f9 q c hq hc
    | some c' =>
     rw [hB'] at hq
     cases hq
     rcases E'.new q c hB' with g | g | g
     ·exact f9 q c (J.le _ _ g) hc
     ·rw [hc] at g;exact absurd g nimg
     ·have:=wAG f4;omega
 obtain ⟨σx,hx,q1,q2⟩:=wIo (s:=[]) (a:=a) (t:=t) (σ0:=σA) (h0:=h) (by rw [nR];exact J.hr)
 rw [wAa] at q1
 cases q1
 refine Step1.agr hsel (fun d hd=>(hagr d hd).symm) ?_
 rcases q2 with ⟨g1,v,h2,g2,g3⟩ | ⟨g1,g3⟩
 ·refine (wPU HC HY' A (hw.trans g1) g2 J.env J.sim).mono ?_
  rintro cv w' ⟨_,μB,e1,e2,e3,e4⟩
  refine main v cv h2 w' μB ?_ g3 e1 e2 e3 e4
  rw [wCO s [a] _ _ _ _ J.hs,wAb,g1]
  simp only
  rw [g2]
  exact wAa _ _ _ _ _
 ·refine .inr ⟨hw.trans g1,?_⟩
  refine main u undef h w μ ?_ g3 (Ext.refl μ _ w) J.sim (wCn A J.env (wKh μ)) rfl
  rw [wCO s [a] _ _ _ _ J.hs,wAb,g1]
  exact wAa _ _ _ _ _
theorem JS.opnd (Z:ZOK P N l os) {μ0:Mu} {w0:World} {S:Nat->Bool} (J:JS tb ex exY P l os σ0 h0 σf hf μ0 w0 S σ w s t σA h σ' μ μS) (ha:a ∈ os) (hl:a.ix < l.length) (hp:∀ j ∈ prI l a.ix,S j=true)
  (hdc:∀ k,k < l.length->S k=true->∀ j ∈ prI l k,S j=true) {p:Pos} (hr:p ∈ wBK a):Rv μS (evA σf (.t p)) (σ (p.nat - 1))/\(a.kd=1 \/ a.kd=3 \/ 8 <= a.kd->Rv μ (evA σf (.t p)) (σ (p.nat - 1))):=by
 have base:(∀ b ∈ t,b.dst ≠ some p)->Rv μ (evA σf (.t p)) (σ (p.nat - 1)):=fun hn=>by
  rw [wBj t _ _ _ _ J.hr p hn,J.ag p fun b hb _=>hn b hb]
  exact J.env p
 by_cases hw:∃ b ∈ t,b.dst=some p
 ·obtain ⟨b,hb,hd⟩:=hw
  have hbo:b ∈ os:=by rw [J.e];simp [hb]
  have hanc:=Z.rdS a ha p hr b hbo hd
  have hS:=wCj hdc hp hanc
  obtain ⟨ob,p',Pd⟩:=J.pd b hb hS
  have ep:p'=p:=by have:=Pd.dst;rw [hd] at this;exact (nJ this).symm
  subst ep
  rcases Pd.fact with ⟨_,f1,f2⟩ | ⟨_,⟨_,f1⟩ | ⟨f0,f1,_⟩ | ⟨f0,f1,_⟩⟩
  ·rw [f1,f2]
   exact ⟨wKh _,fun _=>wKh _⟩
  ·exact ⟨f1.mono J.le,fun _=>f1⟩
  ·exact ⟨f1,fun hk=>absurd f0 (Z.cl a ha hk p' hr b hbo hd).2⟩
  ·exact ⟨f1,fun hk=>absurd f0 (Z.cl a ha hk p' hr b hbo hd).1⟩
 ·have:=base fun b hb hd=>hw ⟨b,hb,hd⟩
  exact ⟨this.mono J.le,fun _=>this⟩
end
end Go.KX
namespace Go.KX
open Go.RowKit Go.KL
section
variable {tb:Tr AF} {ex exY:Run} {P:Program} {N:Nat} {l:List Oper} {os s t:List AO} {a:AO} {σ0 σA σf:Tr AV} {h0 h h1 h' hf:AH} {μ μS:Mu} {σ σ':Env} {w:World} {o:Oper} {v:AV}
theorem wMb {a:AOp} {op:Op} (hk:kdA a=1) (hc:wFP P a op=true) (hE:EnvR μ σA σ) (hm:∀ b c,μ b=some c->h.m.get b=h1.m.get b) (hr:opY a tb ex exY σA h1=some (v,h')):opY a tb ex exY σA h=some (v,h):=by
 have cel:∀ b c,μ b=some c->wCD h b=wCD h1 b:=fun b c hb=>by unfold wCD;rw [hm b c hb]
 cases a <;> first | (simp [kdA] at hk;done) | skip
 case ld x =>
  have hr:wMG x σA h1=some (v,h'):=hr
  show wMG x σA h=some (v,h)
  have hc:wPJ P x op=true:=hc
  unfold wPJ at hc
  split at hc
  ·simp only [nB] at hc
   have g:=wAC hc.2 hE
   unfold wMG at hr ⊢
   split at hr
   ·rename_i b off hb
    rw [hb] at g
    obtain ⟨c,g1,_⟩:=g
    simp only [hb,cel b c g1]
    split at hr
    ·exact wLP hr h
    ·cases hr
   ·cases hr
  ·cases hc
 case ldA n x =>
  have hr:wFm n x σA h1=some (v,h'):=hr
  show wFm n x σA h=some (v,h)
  have hc:wKw P n x op=true:=hc
  unfold wKw at hc
  split at hc
  ·simp only [nB] at hc
   have g:=wAC hc.2 hE
   unfold wFm at hr ⊢
   split at hr
   ·rename_i b off hb
    rw [hb] at g
    obtain ⟨c,g1,_⟩:=g
    simp only [hb,cel b c g1]
    split at hr
    ·exact wLP hr h
    ·cases hr
   ·cases hr
  ·cases hc
 case lk two k ok z x y =>
  have hr:wMH two k ok z x y σA h1=some (v,h'):=hr
  show wMH two k ok z x y σA h=some (v,h)
  have hc:wPN P two k ok z x y op=true:=hc
  unfold wPN at hc
  split at hc
  ·simp only [nB] at hc
   have g:=wAC hc.2.2.1 hE
   unfold wMH at hr ⊢
   split at hr
   ·rename_i b hb
    rw [hb] at g
    obtain ⟨c,g1,_⟩:=g
    simp only [hb,hm b c g1]
    repeat' (split at hr)
    all_goals first | (cases hr;done) | (cases hr;rfl)
   ·cases hr
  ·cases hc
 case lenM x =>
  have hr:wDL x σA h1=some (v,h'):=hr
  show wDL x σA h=some (v,h)
  have hc:wHP P x op=true:=hc
  unfold wHP at hc
  split at hc
  ·split at hc
   ·simp only [nB] at hc
    obtain ⟨_,hc⟩:=hc
    split at hc
    ·simp only [nB] at hc
     have g:=wAC hc.2 hE
     unfold wDL at hr ⊢
     split at hr
     ·rename_i hb
      cases hr
      simp_all
     ·rename_i b hb
      rw [hb] at g
      obtain ⟨c,g1,_⟩:=g
      simp only [hb,hm b c g1]
      repeat' (split at hr)
      all_goals first | (cases hr;done) | (cases hr;rfl)
     ·cases hr
    ·cases hc
   ·cases hc
  ·cases hc
theorem wGh (HE:FrX ex) (HY:FrX exY):∀ (r:List AO) (σ1:Tr AV) (h1:AH) (σ2:Tr AV) (h2:AH),wAN tb ex exY r σ1 h1=some (σ2,h2)->(∀ b ∈ r,wFQ P N l b=true) ->
  (∀ b ∈ r,b.kd=2 \/ (b.kd=1 \/ b.kd=3 \/ (b.kd=6/\kdA b.op=3) \/ (b.kd=4/\wJl b.op=true) \/ (8 <= b.kd/\kdA b.op=1)))->h1.nx.nat <= h2.nx.nat/\∀ p:Pos,p.nat < h1.nx.nat->h2.m.get p=h1.m.get p
 | [],σ1,h1,σ2,h2,hr,_,_=>by
  rw [wAa] at hr
  cases hr
  exact ⟨nP _,fun _ _=>rfl⟩
 | b :: r,σ1,h1,σ2,h2,hr,hc,hk=>by
  rw [wAb] at hr
  cases hw:wBd σ1 b.grd with
  | false =>
   rw [hw] at hr
   exact wGh HE HY r _ _ _ _ hr (fun c hcc=>hc c (by simp [hcc])) (fun c hcc=>hk c (by simp [hcc]))
  | true =>
   rw [hw] at hr
   simp only at hr
   cases hq:opK b.kd b.op tb ex exY σ1 h1 with
   | none=>rw [hq] at hr;cases hr
   | some q =>
    rw [hq] at hr
    obtain ⟨v,h3⟩:=q
    obtain ⟨g1,g2⟩:=wGh HE HY r _ _ _ _ hr (fun c hcc=>hc c (by simp [hcc])) (fun c hcc=>hk c (by simp [hcc]))
    obtain ⟨o,A⟩:=wBs (hc b (by simp))
    have one:h1.nx.nat <= h3.nx.nat/\∀ p:Pos,p.nat < h1.nx.nat->h3.m.get p=h1.m.get p:=by
     have same:h3=h1->h1.nx.nat <= h3.nx.nat/\∀ p:Pos,p.nat < h1.nx.nat->h3.m.get p=h1.m.get p:=fun e=>by subst e;exact ⟨nP _,fun _ _=>rfl⟩
     rcases hk b (by simp) with k | k | k | ⟨k,k'⟩ | ⟨k,k'⟩ | ⟨k,k'⟩
     ·exact ⟨(wNM HE HY _ _ hq).nx,wPY HE HY b.op (by rw [k] at hq;exact hq)⟩
     ·rw [k] at hq
      exact same (wGF (C:=CC P) (A.k1 k) A.op _ _ _ _ hq).1
     ·rw [k] at hq
      exact same (wGE (A.k3 k) A.op _ _ _ _ hq).1
     ·rw [k] at hq
      exact same (wGE k' A.op _ _ _ _ hq).1
     ·rw [k] at hq
      obtain ⟨B,vf,e1,_⟩:=wIn (C:=CC P) k' A.op _ _ _ _ hq
      subst e1
      refine ⟨(Fr.push h1 B).nx,fun p hp=>?_⟩
      show (h1.m.set h1.nx B).get p=_
      rw [Tr.get_set,if_neg (fun e=>by subst e;omega)]
     ·exact same (wGF (C:=CC P) (.inl k') A.op _ _ _ _ (wLS (by omega) hq)).1
    exact ⟨kH one.1 g1,fun p hp=>(g2 p (kQ hp one.1)).trans (one.2 p hp)⟩
theorem JS.full {μ0:Mu} {w0:World} {S:Nat->Bool} (J:JS tb ex exY P l os σ0 h0 σf hf μ0 w0 S σ w s t σA h σ' μ μS):wAN tb ex exY os σ0 h0=some (σf,hf):=by
 rw [J.e,wCO s t _ _ _ _ J.hs]
 exact J.hr
theorem JS.frm (Z:ZOK P N l os) {μ0:Mu} {w0:World} {S:Nat->Bool} (J:JS tb ex exY P l os σ0 h0 σf hf μ0 w0 S σ w s t σA h σ' μ μS) (ha:a ∈ os) (hl:a.ix < l.length) (hp:∀ j ∈ prI l a.ix,S j=true)
  (hdc:∀ k,k < l.length->S k=true->∀ j ∈ prI l k,S j=true) (A:AOK P N l a o) {s1 t1:List AO} {σ1:Tr AV} (e1:os=s1 ++ a :: t1) (hr1:wAN tb ex exY s1 σ0 h0=some (σ1,h1)) :
  wanted l σ o=wBd σ1 a.grd/\∀ p ∈ wBK a,evA σf (.t p)=evA σ1 (.t p):=by
 have hf:=J.full
 have hrd:∀ p ∈ wBK a,evA σf (.t p)=evA σ1 (.t p):=fun p hp=>by
  rw [e1,wCO s1 _ _ _ _ _ hr1] at hf
  exact wPa Z e1 hf hp
 refine ⟨?_,hrd⟩
 have hE:EnvR μS (rst σf (wBK a)) (rsl σ (wBK a)):=wFV fun p hpr=>(J.opnd Z ha hl hp hdc hpr).1
 have hw:=wGd A hE
 have hag:Agr l o (rsl σ (wBK a)) σ:=fun d hd=>by
  obtain ⟨p,h1,h2⟩:=wDJ A (Z.sub a ha _ A.get) d hd
  unfold rsl
  rw [if_pos ⟨p,h1,h2⟩]
 rw [<- wBJ hag,hw]
 cases hg:a.grd with
 | none=>rfl
 | some q =>
  obtain ⟨p,b⟩:=q
  show isB b (evA _ (.t p))=isB b (evA _ (.t p))
  have hpr:p ∈ wBK a:=nX _ (by rw [hg];simp)
  rw [wFU,if_pos hpr,hrd p hpr]
theorem wPc (HE:FrX ex) (HY:FrX exY) (Z:ZOK P N l os) {a b:AO} {s1 t1 s2 t2:List AO} {σ1 σ2:Tr AV} {h1 h2:AH} (e1:os=s1 ++ a :: t1) (e2:os=s2 ++ b :: t2) (r1:wAN tb ex exY s1 σ0 h0=some (σ1,h1)) (r2:wAN tb ex exY s2 σ0 h0=some (σ2,h2))
  (w1:wBd σ1 a.grd=true) (ka:a.kd=4) (la:wJl a.op=true) (hin:a ∈ s2):h1.nx.nat < h2.nx.nat:=by
 obtain ⟨o,A⟩:=wBs (Z.ao a (by rw [e1];simp))
 obtain ⟨r,r',rfl⟩:=nQ hin
 have es:s1=r:=(wBk (e1 ▸ Z.one) (e1.symm.trans (e2.trans (by rw [nN,nI])))).1
 subst es
 rw [wCO s1 _ _ _ _ _ r1,wAb,w1] at r2
 simp only at r2
 cases hq:opK a.kd a.op tb ex exY σ1 h1 with
 | none=>rw [hq] at r2;cases r2
 | some q =>
  rw [hq] at r2
  obtain ⟨v,h3⟩:=q
  rw [ka] at hq
  obtain ⟨B,vf,q1,_⟩:=wIn (C:=CC P) la A.op _ _ _ _ hq
  subst q1
  have:=(wGI HE HY _ _ _ _ _ r2).nx
  have h3:(h1.push B).nx.nat=h1.nx.nat + 1:=Pos.nat_succ _
  simp only at this
  omega
theorem nm_ne (HE:FrX ex) (HY:FrX exY) (Z:ZOK P N l os) {a b:AO} {s1 t1 s2 t2:List AO} {σ1 σ2:Tr AV} {h1 h2:AH} (e1:os=s1 ++ a :: t1) (e2:os=s2 ++ b :: t2) (r1:wAN tb ex exY s1 σ0 h0=some (σ1,h1)) (r2:wAN tb ex exY s2 σ0 h0=some (σ2,h2))
  (w1:wBd σ1 a.grd=true) (w2:wBd σ2 b.grd=true) (ka:a.kd=4) (la:wJl a.op=true) (kb:b.kd=4) (lb:wJl b.op=true) (hne:a ≠ b):h1.nx ≠ h2.nx:=by
 have ha:a ∈ s2 ++ b :: t2:=by rw [<- e2,e1];simp
 rcases nL.1 ha with h | h
 ·intro e
  have:=wPc HE HY Z e1 e2 r1 r2 w1 ka la h
  rw [e] at this
  exact absurd this (kj _)
 ·rcases nK.1 h with h | h
  ·exact absurd h hne
  ·obtain ⟨r,r',rfl⟩:=nQ h
   have es:s1=s2 ++ b :: r:=(wBk (e1 ▸ Z.one) (e1.symm.trans (e2.trans (by rw [nN,nI])))).1
   intro e
   have:=wPc HE HY Z e2 e1 r2 r1 w2 kb lb (by rw [es];simp)
   rw [e] at this
   exact absurd this (kj _)
end
end Go.KX
namespace Go.KX
open Go.RowKit Go.KL
section
variable {tb:Tr AF} {ex exY:Run} {P:Program} {N:Nat} {l:List Oper} {os s t:List AO} {a:AO} {σ0 σA σf:Tr AV} {h0 h h1 h' hf:AH} {μ μS:Mu} {σ σ':Env} {w:World} {o:Oper} {v:AV}
theorem wLU (Z:ZOK P N l os) {a b:AO} (ha:a ∈ os) (hb:b ∈ os) (e:b.ix=a.ix):b=a:=by
 obtain ⟨s,t,hs⟩:=nQ ha
 have one:=Z.one
 rw [hs] at hb one
 rcases nL.1 hb with h | h
 ·exact absurd e ((nt.1 one).2.2 b h a (by simp))
 ·rcases nK.1 h with h | h
  ·exact h
  ·exact absurd e.symm ((nW.1 (nt.1 one).2.1).1 b h)
theorem wEl (A:AOK P N l a o) {q:Pos} (hn:a.dst ≠ some q) (cv:Value):put' σ o cv (q.nat - 1)=σ (q.nat - 1):=by
 refine wEq fun d hd e=>?_
 rcases A.dst with ⟨_,h2⟩ | ⟨p,d',h1,h2,h3,_⟩
 ·rw [h2] at hd;cases hd
 ·rw [h2] at hd
  have hd:=nJ hd
  have:p=q:=Pos.nat_inj (by have:=q.nat_pos;have:=p.nat_pos;have:p.nat - 1=q.nat - 1:=h3.symm.trans (hd.trans e);omega)
  subst this
  exact hn h1
theorem JS.add (Z:ZOK P N l os) {μ0:Mu} {w0:World} {S:Nat->Bool} (J:JS tb ex exY P l os σ0 h0 σf hf μ0 w0 S σ w s t σA h σ' μ μS) (ha:a ∈ t) (hS:S a.ix=false) (hfree:wBG a.kd=false)
  (hdc:∀ k,k < l.length->S k=true->∀ j ∈ prI l k,S j=true) (A:AOK P N l a o) {cv:Value} {w':World} {μT:Mu} (K:Keep w w' Non) (hle:μS.Le μT)
  (hnew:∀ q c,μT q=some c->μS q=some c \/ (c.1=w.heap.size/\wanted l σ o=true/\a.kd=4/\∃ s1 t1 σ1 h1,os=s1 ++ a :: t1/\wAN tb ex exY s1 σ0 h0=some (σ1,h1)/\q=h1.nx))
  (hpa:∃ p,Pend tb ex exY P l os σ0 h0 σf w0 μ μT (put' σ o cv) w' a o p) :
  JS tb ex exY P l os σ0 h0 σf hf μ0 w0 (fun k=>k == a.ix || S k) (put' σ o cv) w' s t σA h σ' μ μT:=by
 have hao:a ∈ os:=by rw [J.e];simp [ha]
 have hbo:∀ b ∈ t,b ∈ os:=fun b hb=>by rw [J.e];simp [hb]
 obtain ⟨sa,ta,ea⟩:=nQ hao
 have hself:Agr l o σ (put' σ o cv):=by
  intro d hd
  obtain ⟨p,hp,rfl⟩:=wDJ A (Z.sub a hao _ A.get) d hd
  exact (wEl A (Z.rd sa a ta ea p hp a (by simp)) cv).symm
 refine ⟨J.e,J.hs,J.hr,fun b hb=>by simp [J.inS b hb],fun b hb hh=>?_,⟨J.E.mono,J.E.new,J.E.keep.step K fun _ _ hn=>hn.elim⟩,J.sim.keep K,J.fl,J.env,fun q hq=>?_,J.le.trans hle,fun q c hq=>?_,fun b hb hh=>?_⟩
 ·by_cases e:b.ix=a.ix
  ·rw [wLU Z hao (hbo b hb) e];exact hfree
  ·exact J.free b hb (by simpa [e] using hh)
 ·rw [wEl A (hq a ha (by simp))]
  exact J.ag q fun b hb hs=>hq b hb (by simp [hs])
 ·rcases hnew q c hq with h1 | ⟨_,h2,h3,s1,t1,σ1,h1,e1,e2,e3⟩
  ·rcases J.nm q c h1 with g | ⟨b,ob,s1,t1,σ1,h1,k1,k2,k3,k4,k5,k6,k7,k8⟩
   ·exact .inl g
   ·exact .inr ⟨b,ob,s1,t1,σ1,h1,k1,by simp [k2],k3,(wBJ (wEk Z hdc hao hS (hbo b k1) k2 A k3 cv)).symm.trans k4,k5,k6,k7,k8⟩
  ·exact .inr ⟨a,o,s1,t1,σ1,h1,ha,by simp,A.get,(wBJ hself).symm.trans h2,h3,e1,e2,e3⟩
 ·by_cases e:b.ix=a.ix
  ·have:=wLU Z hao (hbo b hb) e
   subst this
   exact ⟨o,hpa⟩
  ·have hbS:S b.ix=true:=by simpa [e] using hh
   obtain ⟨ob,p,Pd⟩:=J.pd b hb hbS
   have hA:=wEk (σ:=σ) Z hdc hao hS (hbo b hb) hbS A Pd.get cv
   have hp:put' σ o cv (p.nat - 1)=σ (p.nat - 1):=by
    refine wEl A (fun hd=>?_) cv
    have hb':=hbo b hb
    rw [ea] at hb'
    have hb'':b ∈ sa ++ ta:=by
     rcases nL.1 hb' with h | h
     ·exact nr _ h
     ·rcases nK.1 h with h | h
      ·exact absurd (by rw [h]) e
      ·exact nX _ h
    exact Z.wr sa a ta ea p hd b hb'' Pd.dst
   have hsb:=Z.sel b (hbo b hb) _ Pd.get
   refine ⟨ob,p,Pd.get,Pd.dst,?_⟩
   rw [hp,<- wBJ hA]
   rcases Pd.fact with f | ⟨f,⟨f1,f2⟩ | ⟨f1,f2,w1,w2,f3⟩ | ⟨f1,f2,w1,o1,s1,t1,σ1,h1,f3,f4,f5,f6,f7,f8,f9⟩⟩
   ·exact .inl f
   ·exact .inr ⟨f,.inl ⟨f1,f2⟩⟩
   ·exact .inr ⟨f,.inr (.inl ⟨f1,f2.mono hle,w1,w2,(Runs.agr hsb hA).1 f3⟩)⟩
   ·refine .inr ⟨f,.inr (.inr ⟨f1,f2.mono hle,w1,o1,s1,t1,σ1,h1,(Runs.agr hsb hA).1 f3,(K.block _ (wAG f4) id).trans f4,f5,f6,f7,hle _ _ f8,fun q c hq hc=>?_⟩)⟩
    rcases hnew q c hq with h1 | ⟨h1,_⟩
    ·exact f9 q c h1 hc
    ·have:=wAG f4
     omega
theorem wGJ:∀ (r:List AO),(∀ b ∈ r,b.kd ≠ 0) \/ ∃ x b y,r=x ++ b :: y/\b.kd=0/\∀ c ∈ x,c.kd ≠ 0
 | []=>.inl fun b hb=>by simp at hb
 | a :: r=>by
  by_cases h0:a.kd=0
  ·exact .inr ⟨[],a,r,rfl,h0,fun c hc=>by simp at hc⟩
  ·rcases wGJ r with h | ⟨x,b,y,h1,h2,h3⟩
   ·refine .inl fun b hb=>?_
    rcases nK.1 hb with rfl | hb
    ·exact h0
    ·exact h b hb
   ·refine .inr ⟨a :: x,b,y,by rw [h1];rfl,h2,fun c hc=>?_⟩
    rcases nK.1 hc with rfl | hc
    ·exact h0
    ·exact h3 c hc
theorem JS.freeOp {σg:Tr AV} (HE:FrX ex) (HY:FrX exY) (Z:ZOK P N l os) (HL:LCK tb ex exY os σ0 h0 σg) (Hg:∀ a ∈ os,8 <= a.kd->∀ p,p ∈ wBK a \/ a.dst=some p->evA σf (.t p)=evA σg (.t p)) {μ0:Mu} {w0:World} {S:Nat->Bool} (J:JS tb ex exY P l os σ0 h0 σf hf μ0 w0 S σ w s t σA h σ' μ μS) (ha:a ∈ t) (hS:S a.ix=false) (hfree:wBG a.kd=false)
  (hp:∀ j ∈ prI l a.ix,S j=true) (hdc:∀ k,k < l.length->S k=true->∀ j ∈ prI l k,S j=true) (A:AOK P N l a o) :
  Step1 P l o σ w fun cv w'=>∃ μT,JS tb ex exY P l os σ0 h0 σf hf μ0 w0 (fun k=>k == a.ix || S k) (put' σ o cv) w' s t σA h σ' μ μT:=by
 have hao:a ∈ os:=by rw [J.e];simp [ha]
 have hl:a.ix < l.length:=(nY.1 A.get).1
 obtain ⟨r,r',et⟩:=nQ ha
 have e1:os=(s ++ r) ++ a :: r':=by rw [J.e,et,nN]
 have hsel:=Z.sel a hao _ A.get
 have hsub:=Z.sub a hao _ A.get
 have hfull:=J.full
 rw [e1] at hfull
 obtain ⟨σ1,h1,r1,r2⟩:=wIo hfull
 obtain ⟨hw,hrd⟩:=J.frm Z hao hl hp hdc A e1 r1
 have hrr:wAN tb ex exY r σA h=some (σ1,h1):=by rw [<- wCO s r _ _ _ _ J.hs];exact r1
 have hself:∀ cv,Agr l o σ (put' σ o cv):=by
  intro cv d hd
  obtain ⟨p,hp,rfl⟩:=wDJ A hsub d hd
  exact (wEl A (Z.rd _ a _ e1 p hp a (by simp)) cv).symm
 obtain ⟨hdn,hkd⟩:a.dst ≠ none/\(a.kd=1 \/ a.kd=3 \/ (a.kd=6/\kdA a.op=3) \/ (a.kd=4/\wJl a.op=true) \/ (8 <= a.kd/\kdA a.op=1)):=by
  rcases Z.kd a hao with h | h
  ·rw [hfree] at h;cases h
  ·exact h
 obtain ⟨p,d,d1,d2,d3,_⟩:∃ p d,a.dst=some p/\o.dst=some d/\d=p.nat - 1/\d < N:=by
  rcases A.dst with ⟨h1,_⟩ | h
  ·exact absurd h1 hdn
  ·exact h
 have eput:∀ cv,put' σ o cv (p.nat - 1)=cv:=fun cv=>by unfold put';rw [d2,d3];exact wBp _ _ _
 have hslot:∀ q ∈ wBa (wAo a.op),q ∈ wBK a:=fun q hq=>nr _ hq
 rcases r2 with ⟨g1,v,h2,g2,g3⟩ | ⟨g1,g3⟩
 ·have hv:evA σf (.t p)=v:=wIG Z e1 g3 d1
  have hw':wanted l σ o=true:=hw.trans g1
  have hwn:∀ cv,wanted l (put' σ o cv) o=true:=fun cv=>(wBJ (hself cv)).symm.trans hw'
  have hvS:∀ q ∈ wBa (wAo a.op),Rv μS (evA σ1 (.t q)) (σ (q.nat - 1)):=fun q hq=>by
   rw [<- hrd q (hslot q hq)]
   exact (J.opnd Z hao hl hp hdc (hslot q hq)).1
  have clean:(a.kd=1 \/ a.kd=3 \/ 8 <= a.kd)->(∃ cv,Rv μ v cv/\Runs P σ w o cv w)->Step1 P l o σ w fun cv w'=>∃ μT,JS tb ex exY P l os σ0 h0 σf hf μ0 w0 (fun k=>k == a.ix || S k) (put' σ o cv) w' s t σA h σ' μ μT:=by
   rintro hk ⟨cv,c1,c2⟩
   refine .inl ⟨hw',.inr (.inl ⟨cv,w,c2,μS,J.add Z ha hS hfree hdc A (Keep.refl w _) (Mu.Le.refl _) (fun q c hq=>.inl hq) ⟨p,A.get,d1,.inr ⟨hwn cv,.inl ⟨hk,?_⟩⟩⟩⟩)⟩
   rw [hv,eput]
   exact c1
  have hvC:(a.kd=1 \/ a.kd=3 \/ 8 <= a.kd)->∀ q ∈ wBa (wAo a.op),Rv μ (evA σ1 (.t q)) (σ (q.nat - 1)):=fun hk q hq=>by
   rw [<- hrd q (hslot q hq)]
   exact (J.opnd Z hao hl hp hdc (hslot q hq)).2 hk
  have loadC:(a.kd=1 \/ a.kd=3 \/ 8 <= a.kd)->kdA a.op=1->∀ (x:List AO),(∀ b ∈ x,b ∈ t)->∀ {σ2:Tr AV} {h3 h4:AH} {σ3:Tr AV},wAN tb ex exY x σA h=some (σ2,h3)->opY a.op tb ex exY σ3 h3=some (v,h4)->(∀ b ∈ x,b.kd=0->False)->(∀ q ∈ wBK a,evA σf (.t q)=evA σ3 (.t q))->∃ cv,Rv μ v cv/\Runs P σ w o cv w:=by
   intro hk k x hx σ2 h3 h4 σ3 hrx gY hx0 hrd3
   have hv3:∀ q ∈ wBa (wAo a.op),Rv μ (evA σ3 (.t q)) (σ (q.nat - 1)):=fun q hq=>by
    rw [<- hrd3 q (hslot q hq)]
    exact (J.opnd Z hao hl hp hdc (hslot q hq)).2 hk
   have hrs:=wIm gY
   have henv:=wFV hv3
   obtain ⟨_,hold⟩:=wGh HE HY x _ _ _ _ hrx (fun b hb=>Z.ao b (by rw [J.e];simp [hx b hb])) (fun b hb=>by
    rcases Z.kd b (by rw [J.e];simp [hx b hb]) with h | h
    ·unfold wBG at h
     simp only [na] at h
     rcases h with h | h
     ·exact absurd (nD h) (hx0 b hb)
     ·exact .inl (nD h)
    ·exact .inr h.2)
   have hm:∀ b c,μ b=some c->h.m.get b=h3.m.get b:=fun b c hb=>by
    refine (hold b ?_).symm
    rcases Nat.lt_or_ge b.nat h.nx.nat with hlt | hge
    ·exact hlt
    ·rw [J.sim.nx b hge] at hb;cases hb
   have hld:=wMb k A.op henv hm hrs
   obtain ⟨cv,c1,c2⟩:=wLR (C:=CC P) hsel hsub (.inl k) A.op hld J.sim (fun q hq=>by rw [wFU,if_pos hq];exact hv3 q hq)
   exact ⟨cv,c1,c2⟩
  rcases hkd with hk | hk | ⟨hk,hk2⟩ | ⟨hk,hk2⟩ | ⟨hk,hk2⟩
  ·have gY:opY a.op tb ex exY σ1 h1=some (v,h2):=by rw [hk] at g2;exact g2
   refine clean (.inl hk) ?_
   rcases A.k1 hk with k | k
   ·exact loadC (.inl hk) k r (fun b hb=>by rw [et];simp [hb]) hrr gY (fun b hb h0=>by
     have:=wCj hdc hp (Z.ld _ a _ e1 hk b (by simp [hb]) h0)
     have:=J.free b (by rw [et];simp [hb]) this
     rw [h0] at this
     cases this) hrd
   ·obtain ⟨cv,c1,c2⟩:=wFW hsel hsub k A.op gY (hvC (.inl hk))
    exact ⟨cv,c1,c2 w⟩
  ·have gY:opY a.op tb ex exY σ1 h1=some (v,h2):=by rw [hk] at g2;exact g2
   obtain ⟨cv,c1,c2⟩:=wFW hsel hsub (A.k3 hk) A.op gY (hvC (.inr (.inl hk)))
   exact clean (.inr (.inl hk)) ⟨cv,c1,c2 w⟩
  ·have gY:opY a.op tb ex exY σ1 h1=some (v,h2):=by rw [hk] at g2;exact g2
   obtain ⟨cv,c1,c2⟩:=wFW hsel hsub hk2 A.op gY hvS
   refine .inl ⟨hw',.inr (.inl ⟨cv,w,c2 w,μS,J.add Z ha hS hfree hdc A (Keep.refl w _) (Mu.Le.refl _) (fun q c hq=>.inl hq) ⟨p,A.get,d1,.inr ⟨hwn cv,.inr (.inl ⟨hk,?_,w,w,?_⟩)⟩⟩⟩)⟩
   ·rw [hv,eput]
    exact c1
   ·rw [eput]
    exact (Runs.agr hsel (hself cv)).1 (c2 w)
  ·have gY:opY a.op tb ex exY σ1 h1=some (v,h2):=by rw [hk] at g2;exact g2
   obtain ⟨B,vf,ob,val,_,ev',_,c1,c2,c3⟩:=wJV (C:=CC P) hsel hsub hk2 A.op gY hvS
   have hno:μS h1.nx=none:=by
    cases hq:μS h1.nx with
    | none=>rfl
    | some c =>
     rcases J.nm _ c hq with g | ⟨b,ob',s2,t2,σ2,h3,k1,k2,k3,k4,k5,k6,k7,k8⟩
     ·have:=wOR HE HY Z J.e J.hs ha e1 r1
      rw [J.sim.nx _ this] at g
      cases g
     ·have hbo:b ∈ os:=by rw [J.e];simp [k1]
      have hne:a ≠ b:=fun e=>by subst e;rw [hS] at k2;cases k2
      obtain ⟨ob2,B2⟩:=wBs (Z.ao b hbo)
      have hb2:wJl b.op=true:=by
       rcases Z.kd b hbo with hh | ⟨_,hh | hh | hh | hh | hh⟩
       ·rw [k5] at hh;exact absurd hh (by decide)
       ·omega
       ·omega
       ·omega
       ·exact hh.2
       ·omega
      have hwb:wBd σ2 b.grd=true:=by
       have hlb:b.ix < l.length:=(nY.1 k3).1
       have eo:ob2=ob':=by have:=B2.get;rw [k3] at this;exact (nJ this).symm
       subst eo
       have:=(J.frm Z hbo hlb (hdc _ hlb k2) hdc B2 k6 k7).1
       rw [<- this]
       exact k4
      exact absurd k8 (nm_ne HE HY Z e1 k6 r1 k7 g1 hwb hk hk2 k5 hb2 hne)
   have hadd:=Mu.add_le (c:=(⟨w.heap.size,0,g0⟩:Cl)) hno
   have hsz:∀ q c,μS q=some c->c.1 < w.heap.size:=fun q c hq=>by
    rcases J.nm q c hq with g | ⟨b,ob',s2,t2,σ2,h3,k1,k2,k3,k4,k5,k6,k7,k8⟩
    ·exact J.sim.lt q c g
    ·obtain ⟨ob2,p2,Pd⟩:=J.pd b k1 k2
     have eo:ob2=ob':=by have:=Pd.get;rw [k3] at this;exact (nJ this).symm
     subst eo
     rcases Pd.fact with ⟨f,_⟩ | ⟨_,⟨f,_⟩ | ⟨f,_⟩ | ⟨_,_,w1,o1,s3,t3,σ3,h4,_,f4,_,f6,f7,f8,_⟩⟩
     ·rw [k4] at f;cases f
     ·omega
     ·omega
     ·have es:s3=s2:=(wBk (f6 ▸ Z.one) (f6.symm.trans k6)).1
      subst es
      rw [k7] at f7
      cases f7
      subst k8
      rw [hq] at f8
      cases f8
      exact wAG f4
   refine .inl ⟨hw',.inr (.inl ⟨val w.heap.size,w.alloc ob,c1 w,μS.add h1.nx ⟨w.heap.size,0,g0⟩,J.add Z ha hS hfree hdc A (wAX w ob) hadd (fun q c hq=>?_) ⟨p,A.get,d1,.inr ⟨hwn _,.inr (.inr ⟨hk,?_,w,ob,s ++ r,r',σ1,h1,?_,heap_alloc_new w ob,J.E.keep.size,e1,r1,Mu.add_same _ _ _,fun q c hq hc=>?_⟩)⟩⟩⟩)⟩
   ·unfold Mu.add at hq
    split at hq
    ·rename_i eq
     cases hq
     exact .inr ⟨rfl,hw',hk,s ++ r,r',σ1,h1,e1,r1,eq⟩
    ·exact .inl hq
   ·rw [hv,eput,ev']
    exact c3 _ _ _ (Mu.add_same _ _ _)
   ·rw [eput]
    exact (Runs.agr hsel (hself _)).1 (c1 w)
   ·unfold Mu.add at hq
    split at hq
    ·rename_i eq
     exact eq
    ·have:=hsz q c hq
     omega
  ·have gY:opY a.op tb ex exY σ1 h1=some (v,h2):=wLS (by omega) g2
   refine clean (.inr (.inr hk)) ?_
   rcases wGJ r with hz | ⟨x,b,y,er,hb0,hx0⟩
   ·exact loadC (.inr (.inr hk)) hk2 r (fun b hb=>by rw [et];simp [hb]) hrr gY (fun b hb h0=>hz b hb h0) hrd
   ·have e2:os=(s ++ x) ++ b :: (y ++ a :: r'):=by rw [J.e,et,er];simp
    have hfull2:=J.full
    rw [e2] at hfull2
    obtain ⟨σ2,h3,r3,_⟩:=wIo hfull2
    have hbt:b ∈ t:=by rw [et,er];simp
    have hanc:wMJ y + 8 < a.kd:=by
     rcases Z.ld8 _ a _ e1 hk (s ++ x) b y (by rw [er];simp) hb0 with g | g
     ·have:=J.free b hbt (wCj hdc hp g)
      rw [hb0] at this
      cases this
     ·exact g
    have hlk:=HL _ b _ e2 hb0 _ _ r3
    have hsame:=wIC y a r' 0 hlk hfree (by omega)
    have hgf:wBd σg a.grd=true:=by
     rw [<- g1]
     cases hg:a.grd with
     | none=>rfl
     | some q =>
      obtain ⟨q,c⟩:=q
      show isB c (evA _ (.t q))=isB c (evA _ (.t q))
      have hqr:q ∈ wBK a:=nX _ (by rw [hg];simp)
      rw [<- Hg a hao hk q (.inl hqr),hrd q hqr]
    unfold wGB at hsame
    rw [d1] at hsame
    simp only [hgf] at hsame
    split at hsame
    ·rename_i v' h5 hq
     have hvv:=wLO hsame
     rw [<- Hg a hao hk p (.inr d1),hv] at hvv
     subst hvv
     have hrx:wAN tb ex exY x σA h=some (σ2,h3):=by rw [<- wCO s x _ _ _ _ J.hs];exact r3
     exact loadC (.inr (.inr hk)) hk2 x (fun b hb=>by rw [et,er];simp [hb]) hrx hq (fun b hb h0=>hx0 b hb h0) (fun q hq=>Hg a hao hk q (.inl hq))
    ·cases hsame
 ·refine .inr ⟨hw.trans g1,μS,J.add Z ha hS hfree hdc A (Keep.refl w _) (Mu.Le.refl _) (fun q c hq=>.inl hq) ⟨p,A.get,d1,.inl ⟨(wBJ (hself _)).symm.trans (hw.trans g1),eput _,?_⟩⟩⟩
  exact wIG Z e1 (v:=u) g3 d1
theorem JS.catch (Z:ZOK P N l os) {μ0:Mu} {w0:World} {S:Nat->Bool}:∀ (r:List AO) {s t:List AO} {σA:Tr AV} {h:AH} {σ':Env} {μ:Mu},JS tb ex exY P l os σ0 h0 σf hf μ0 w0 S σ w s (r ++ t) σA h σ' μ μS->(∀ a ∈ r,S a.ix=true) ->
  ∃ σB hB σ'' μB,JS tb ex exY P l os σ0 h0 σf hf μ0 w0 S σ w (s ++ r) t σB hB σ'' μB μS
 | [],s,t,σA,h,σ',μ,J,_=>⟨σA,h,σ',μ,by rw [ny];exact J⟩
 | a :: r,s,t,σA,h,σ',μ,J,hS=>by
  obtain ⟨σB,hB,σ'',μB,J1⟩:=JS.catch1 (t:=r ++ t) Z J (hS a (by simp))
  obtain ⟨σC,hC,σ3,μC,J2⟩:=JS.catch Z r J1 fun b hb=>hS b (by simp [hb])
  exact ⟨σC,hC,σ3,μC,by rw [show s ++ a :: r=s ++ [a] ++ r by simp];exact J2⟩
theorem JS.anew {A B:List AO} {σm:Tr AV} {h2:AH} {μ0:Mu} {w0:World} {S:Nat->Bool} (J:JS tb ex exY P l A σ0 h0 σm h2 μ0 w0 S σ w s [] σA h σ' μ μS) (hr:wAN tb ex exY B σm h2=some (σf,hf)) (hB:∀ b ∈ B,S b.ix=false) :
  Ext μ0 h0.fl.nat w0 μ w/\h2.fl=h0.fl/\JS tb ex exY P l B σm h2 σf hf μ w S σ w [] B σm h2 σ' μ μ:=by
 have hr1:=J.hr
 rw [wAa] at hr1
 cases hr1
 exact ⟨J.E,J.fl,rfl,wAa _ _ _ _ _,hr,fun b hb=>(by simp at hb),fun b hb hS=>(by rw [hB b hb] at hS;cases hS),Ext.refl μ _ w,J.sim,rfl,J.env,fun q _=>J.ag q fun b hb=>(by simp at hb),Mu.Le.refl _,fun q c hq=>.inl hq,fun b hb hS=>(by rw [hB b hb] at hS;cases hS)⟩
theorem CK.lazy {rr:Option Nat} {Q:wBw} {D:List Deferred} {id:Nat} (hm:P.follows .mixedOrders=true) (HC:wEX (CC P) P tb ex) (HY':wDa (CC P) P exY) (HE:FrX ex) (HY:FrX exY) (ZZ:∃ A B,ZAll P N l os A B) (HL0:LCK tb ex exY os σ0 h0 σf)
  (hr:wAN tb ex exY os σ0 h0=some (σf,hf)) (S:Sim (CC P) P μ h0 w) (hE:EnvR μ σ0 σ)
  (hQ:∀ μ' w' σ',Ext μ h0.fl.nat w μ' w'->Sim (CC P) P μ' hf w'->EnvR μ' σf σ'->hf.fl=h0.fl->Q D .normal σ' w'):CK rr N P (.region id l.toArray true) Q D σ w:=by
 obtain ⟨A,B,ZZ⟩:=ZZ
 obtain ⟨σm,h2,hrA,hrB⟩:=wCL A B σ0 h0 _ (ZZ.eq ▸ hr)
 have HL:LCK tb ex exY A σ0 h0 σf/\LCK tb ex exY B σm h2 σf:=by
  refine ⟨fun s b t e k0 σ1 h1 hs=>?_,wIj ZZ.low⟩
  have:=HL0 s b (t ++ B) (by rw [ZZ.eq,e];simp) k0 σ1 h1 hs
  exact wGe t B 0 this
 have Hg:∀ a ∈ A,8 <= a.kd->∀ p,p ∈ wBK a \/ a.dst=some p->evA σm (.t p)=evA σf (.t p):=fun a ha h8 p hp=>(wBj B _ _ _ _ hrB p fun b hb=>ZZ.far a ha h8 p hp b hb).symm
 have lt:∀ b ∈ os,b.ix < l.length:=fun b hb=>by
  rw [ZZ.eq] at hb
  rcases nL.1 hb with hb | hb
  ·obtain ⟨o,A⟩:=wBs (ZZ.za.ao b hb)
   exact (nY.1 A.get).1
  ·obtain ⟨o,A⟩:=wBs (ZZ.zb.ao b hb)
   exact (nY.1 A.get).1
 have stepB:∀ (S1:Nat->Bool) (a:AO) (σ1:Env) (w1:World) (μm:Mu) (wm:World) (s t:List AO) (σA:Tr AV) (h:AH) (σ':Env) (μ1 μS:Mu) (o:Oper),a ∈ B->S1 a.ix=false->(∀ j ∈ prI l a.ix,S1 j=true)->(∀ k,k < l.length->S1 k=true->∀ j ∈ prI l k,S1 j=true)->AOK P N l a o ->
   JS tb ex exY P l B σm h2 σf hf μm wm S1 σ1 w1 s t σA h σ' μ1 μS->Step1 P l o σ1 w1 fun v w'=>∃ s t σA h σ' μ1 μS,JS tb ex exY P l B σm h2 σf hf μm wm (fun k=>k == a.ix || S1 k) (put' σ1 o v) w' s t σA h σ' μ1 μS:=by
  intro S1 a σ1 w1 μm wm s t σA h σ' μ1 μS o ha hSi hpi hdc A J
  have hat:a ∈ t:=by
   have:=ha
   rw [J.e] at this
   rcases nL.1 this with h | h
   ·rw [J.inS a h] at hSi;cases hSi
   ·exact h
  cases hf:wBG a.kd with
  | true =>
   obtain ⟨r,r',et⟩:=nQ hat
   rw [et] at J
   obtain ⟨σB,hB,σ'',μB,J1⟩:=JS.catch ZZ.zb r J fun b hb=>wCj hdc hpi (ZZ.zb.anc (s ++ r) a r' (by rw [J.e,nN]) hf b (by simp [hb]))
   refine (J1.fixed HC HY' HE HY ZZ.zb hf hSi hdc A).mono ?_
   rintro v w' ⟨σC,hC,σ3,μC,μT,J2⟩
   exact ⟨_,_,_,_,_,_,_,J2⟩
  | false =>
   refine (J.freeOp HE HY ZZ.zb HL.2 (fun _ _ _ _ _=>rfl) hat hSi hf hpi hdc A).mono ?_
   rintro v w' ⟨μT,J2⟩
   exact ⟨_,_,_,_,_,_,_,J2⟩
 have toB:∀ (S1:Nat->Bool) (σ1:Env) (w1:World) (s t:List AO) (σA:Tr AV) (h:AH) (σ':Env) (μ1 μS:Mu),(∀ a ∈ A,S1 a.ix=true)->(∀ b ∈ B,S1 b.ix=false)->JS tb ex exY P l A σ0 h0 σm h2 μ w S1 σ1 w1 s t σA h σ' μ1 μS ->
   ∃ μm σ',Ext μ h0.fl.nat w μm w1/\h2.fl=h0.fl/\JS tb ex exY P l B σm h2 σf hf μm w1 S1 σ1 w1 [] B σm h2 σ' μm μm:=by
  intro S1 σ1 w1 s t σA h σ' μ1 μS hA hB J
  have J0:JS tb ex exY P l A σ0 h0 σm h2 μ w S1 σ1 w1 s (t ++ []) σA h σ' μ1 μS:=by rw [ny];exact J
  obtain ⟨σB,hB',σ'',μB,J1⟩:=JS.catch ZZ.za t J0 fun b hb=>hA b (by rw [J.e];simp [hb])
  obtain ⟨g1,g2,g3⟩:=J1.anew hrB hB
  exact ⟨μB,σ'',g1,g2,g3⟩
 refine CK.anyRel hm ZZ.za.pr (fun S σ w1=>((∀ b ∈ B,S b.ix=false)/\∃ s t σA h σ' μ1 μS,JS tb ex exY P l A σ0 h0 σm h2 μ w S σ w1 s t σA h σ' μ1 μS) \/
  ((∀ a ∈ A,S a.ix=true)/\∃ μm wm,Ext μ h0.fl.nat w μm wm/\h2.fl=h0.fl/\∃ s t σA h σ' μ1 μS,JS tb ex exY P l B σm h2 σf hf μm wm S σ w1 s t σA h σ' μ1 μS)) ?_ ?_ ?_
 ·exact .inl ⟨fun b _=>rfl,[],A,σ0,h0,σ,μ,μ,rfl,wAa _ _ _ _ _,hrA,fun b hb=>(by simp at hb),fun b _ hb=>(by cases hb),Ext.drew μ _ w,S.keep (Keep.drew w),rfl,hE,fun _ _=>rfl,Mu.Le.refl _,fun q c hq=>.inl hq,fun b _ hb=>(by cases hb)⟩
 ·rintro S1 i σ1 w1 hi hSi hpi hdc hlt hI
  obtain ⟨a,ha,rfl⟩:=ZZ.all i hi
  rw [ZZ.eq] at ha
  rcases nL.1 ha with ha | ha
  ·obtain ⟨o,AK⟩:=wBs (ZZ.za.ao a ha)
   refine ⟨o,AK.get,wGG AK,?_⟩
   rcases hI with ⟨hB,s,t,σA,h,σ',μ1,μS,J⟩ | ⟨hA,_⟩
   ·have hB':∀ b ∈ B,(fun k=>k == a.ix || S1 k) b.ix=false:=fun b hb=>by
     have:=(ZZ.cross b hb a ha).1
     simp [hB b hb,Ne.symm this]
    have hat:a ∈ t:=by
     have:=ha
     rw [J.e] at this
     rcases nL.1 this with h | h
     ·rw [J.inS a h] at hSi;cases hSi
     ·exact h
    cases hf:wBG a.kd with
    | true =>
     obtain ⟨r,r',et⟩:=nQ hat
     rw [et] at J
     obtain ⟨σB,hB2,σ'',μB,J1⟩:=JS.catch ZZ.za r J fun b hb=>wCj hdc hpi (ZZ.za.anc (s ++ r) a r' (by rw [J.e,nN]) hf b (by simp [hb]))
     refine (J1.fixed HC HY' HE HY ZZ.za hf hSi hdc AK).mono ?_
     rintro v w' ⟨σC,hC,σ3,μC,μT,J2⟩
     exact .inl ⟨hB',_,_,_,_,_,_,_,J2⟩
    | false =>
     refine (J.freeOp HE HY ZZ.za HL.1 Hg hat hSi hf hpi hdc AK).mono ?_
     rintro v w' ⟨μT,J2⟩
     exact .inl ⟨hB',_,_,_,_,_,_,_,J2⟩
   ·rw [hA a ha] at hSi
    cases hSi
  ·obtain ⟨o,AK⟩:=wBs (ZZ.zb.ao a ha)
   refine ⟨o,AK.get,wGG AK,?_⟩
   have hA:∀ c ∈ A,S1 c.ix=true:=fun c hc=>wCj hdc hpi (ZZ.cross a ha c hc).2
   rcases hI with ⟨hB,s,t,σA,h,σ',μ1,μS,J⟩ | ⟨_,μm,wm,g1,g2,s,t,σA,h,σ',μ1,μS,J⟩
   ·obtain ⟨μm,σ2,g1,g2,J1⟩:=toB S1 σ1 w1 s t σA h σ' μ1 μS hA hB J
    refine (stepB S1 a σ1 w1 _ _ _ _ _ _ _ _ _ o ha hSi hpi hdc AK J1).mono ?_
    rintro v w' ⟨s,t,σA,h,σ',μ1,μS,J2⟩
    exact .inr ⟨fun c hc=>by simp [hA c hc],_,_,g1,g2,_,_,_,_,_,_,_,J2⟩
   ·refine (stepB S1 a σ1 w1 _ _ _ _ _ _ _ _ _ o ha hSi hpi hdc AK J).mono ?_
    rintro v w' ⟨s,t,σA,h,σ',μ1,μS,J2⟩
    exact .inr ⟨fun c hc=>by simp [hA c hc],_,_,g1,g2,_,_,_,_,_,_,_,J2⟩
 ·rintro S1 σ1 w1 hall hI
  have hI2:∃ μm wm,Ext μ h0.fl.nat w μm wm/\h2.fl=h0.fl/\∃ s t σA h σ' μ1 μS,JS tb ex exY P l B σm h2 σf hf μm wm S1 σ1 w1 s t σA h σ' μ1 μS:=by
   rcases hI with ⟨hB,s,t,σA,h,σ',μ1,μS,J⟩ | ⟨_,hI⟩
   ·obtain ⟨μm,σ2,g1,g2,J1⟩:=toB S1 σ1 w1 s t σA h σ' μ1 μS (fun a ha=>hall _ (lt a (by rw [ZZ.eq];simp [ha]))) hB J
    exact ⟨_,_,g1,g2,_,_,_,_,_,_,_,J1⟩
   ·exact hI
  obtain ⟨μm,wm,g1,g2,s,t,σA,h,σ',μ1,μS,J⟩:=hI2
  have J0:JS tb ex exY P l B σm h2 σf hf μm wm S1 σ1 w1 s (t ++ []) σA h σ' μ1 μS:=by rw [ny];exact J
  obtain ⟨σB,hB,σ'',μB,J1⟩:=JS.catch ZZ.zb t J0 fun b hb=>hall _ (lt b (by rw [ZZ.eq,J.e];simp [hb]))
  have hr1:=J1.hr
  rw [wAa] at hr1
  cases hr1
  refine hQ μB w1 σ1 (g1.trans (g2 ▸ J1.E)) J1.sim (fun q=>?_) (J1.fl.trans g2)
  rw [J1.ag q fun b hb=>by simp at hb]
  exact J1.env q
end
end Go.KX
namespace Go.KX
open Go.RowKit Go.KL
section
variable {P:Program} {tb:Tr AF}
theorem wLV (hm:P.follows .mixedOrders=true) {ex exY:Run} (HC:wEX (CC P) P tb ex) (HY:wDa (CC P) P exY) (FE:FrX ex) (FY:FrX exY) {os:List AO} {σA σA':Tr AV} {h h':AH} (hr:wAN tb ex exY os σA h=some (σA',h')) {id N:Nat} {ops:Array Oper} {draw:Bool} (hc:chkR P N os ops.toList draw=true)
  {rr:Option Nat} {μ:Mu} {σ:Env} {w:World} {D:List Deferred} {n0:Nat} (S:Sim (CC P) P μ h w) (hE:EnvR μ σA σ) (M:Mk μ w n0 D):CK rr N P (.region id ops draw) (PostX P μ h.fl w n0 rr D .nrm σA' h') D σ w:=by
 unfold chkR at hc
 simp only [nB,nG] at hc
 obtain ⟨c1,c2⟩:=hc
 have hop:ops=ops.toList.toArray:=by simp
 have hcs:∀ a ∈ os,wFQ P N ops.toList a=true/\kOf ((nj ops.toList.length).map fun i=>kdAt i os) a.ix=a.kd:=fun a ha=>⟨(c1 a ha).1,nD (c1 a ha).2⟩
 have post:∀ {w0:World},Ext μ h.fl.nat w μ w0->Sim (CC P) P μ h w0->OKS N P ops.toList (PostX P μ h.fl w n0 rr D .nrm σA' h') D ((nj ops.toList.length).map fun i=>kdAt i os) (wHQ os) σ w0:=by
  intro w0 E0 S0
  refine wHR HC HY os σA h σA' h' hr hcs μ σ w0 S0 hE fun μ' w' σ' q1 q2 q3 q4=>?_
  have E:=E0.trans q1
  exact ⟨rfl,μ',E,q2,q3,M.ext E,q4,fun _=>rfl⟩
 rw [hop]
 cases draw with
 | true =>
  simp only at c2
  split at c2
  ·simp only [nB,nG,nq] at c2
   exact CK.lazy hm HC HY FE FY (wLI (fun a ha=>(c1 a ha).1) c2.2) (wIj c2.1) hr S hE fun μ' w' σ' q1 q2 q3 q4=>⟨rfl,μ',q1,q2,q3,M.ext q1,q4,fun _=>rfl⟩
  ·exact CK.anyOrd hm _ _ c2 (post (Ext.drew μ _ w) (S.keep (Keep.drew w)))
 | false=>exact CK.reg _ c2 (post (Ext.refl μ _ w) S)
theorem wMc {ex:Run} (HC:wEX (CC P) P tb ex) {g:AOd} {t:List Pos} {asg body:AC} {g':Operand} {ps:Array Tmp} {asg' body':Code} {N:Nat} (hc:wDw P N (.rf g t asg body) (.rangeFunc g' ps asg' body')=true)
  {σA σA':Tr AV} {h h':AH} {e:Ex} (hr:sRf true g t asg body tb ex σA h=some (e,σA',h')) {μ:Mu} {σ:Env} {w:World} {D:List Deferred} {n0:Nat} (S:Sim (CC P) P μ h w) (hE:EnvR μ σA σ) (M:Mk μ w n0 D) (hn:n0 <= w.heap.size) :
  CK none N P (.rangeFunc g' ps asg' body') (PostX P μ h.fl w n0 none D e σA' h') D σ w:=by
 simp only [wDw,nB] at hc
 obtain ⟨c1,c2,c3,c4⟩:=hc
 obtain ⟨p,rfl⟩:∃ p:List Nat,ps=p.toArray:=⟨ps.toList,by simp⟩
 ·obtain ⟨ht,c6⟩:=wIk (by simpa using c2)
  unfold sRf at hr
  split at hr
  ·rename_i f fi ca hg
   have hx:=wAC c1 hE
   rw [hg] at hx
   obtain ⟨fv,cv,g1,g2,g3⟩:=hx
   split at hr <;> first | (cases hr;done) | skip
   rename_i rv h2 hcall
   obtain ⟨hcf,hgv⟩:=HC _ _ _ _ _ hcall
   refine CK.rangeFunc (t:=p) g3 hcf fun fn l rb w1 e1 e2 hl hd K hs=>?_
   subst e1 e2
   have hle:=Mu.add_le (c:=(⟨w.heap.size + 1,0,⟨N,σ,p,asg',body',w.heap.size,fn⟩⟩:Cl)) (S.nx h.nx (nP _))
   obtain ⟨s1,s2,s3,s4⟩:=S.push (w':=w1) (c:=⟨w.heap.size + 1,0,⟨N,σ,p,asg',body',w.heap.size,fn⟩⟩) (B:=.loop σA t asg body .ready) K (Nat.le_succ _) (by show w.heap.size + 1 < _;omega) ⟨hl,hE.mono hle,ht,c6,c3,c4⟩
   generalize hμ1:μ.add h.nx (⟨w.heap.size + 1,0,⟨N,σ,p,asg',body',w.heap.size,fn⟩⟩:Cl)=μ1 at *
   have M1:Mk μ1 w1 n0 (wIY w.heap.size :: D):=by
    have M':=M.ext s2
    obtain ⟨rbs,m1,m2,m3⟩:=M'
    have hold:∀ rb ∈ rbs,rb < w.heap.size:=by
     obtain ⟨rbs0,k1,k2,k3⟩:=M
     intro rb hrb
     have hmm:rbs.map wIY=rbs0.map wIY:=by rw [<- m1,<- k1]
     have hinj:rbs=rbs0:=by
      have:∀ (a b:List Nat),a.map wIY=b.map wIY->a=b:=by
       intro a
       induction a with
       | nil=>intro b hb;cases b with
        | nil=>rfl
        | cons _ _=>simp at hb
       | cons x a ih=>intro b hb;cases b with
        | nil=>simp at hb
        | cons y b =>
         simp only [nw,nS] at hb
         have hxy:x=y:=by have:=hb.1;simp [wIY] at this;exact this
         rw [hxy,ih b hb.2]
      exact this _ _ hmm
     exact (k3 rb (hinj ▸ hrb)).1.lt
    refine ⟨w.heap.size :: rbs,by rw [nw,<- m1],List.nodup_cons.2 ⟨fun hm=>absurd (hold _ hm) (kj _),m2⟩,fun rb hrb=>?_⟩
    rcases nK.1 hrb with rfl | hrb
    ·refine ⟨hd,hn,fun q c hq=>?_⟩
     rw [<- hμ1] at hq
     unfold Mu.add at hq
     split at hq
     ·cases hq;show w.heap.size + 1 ≠ _;omega
     ·have:=S.lt q c hq;omega
    ·exact m3 rb hrb
   have G:=hgv μ1 w1 (fv ++ (.func (.yield (w.heap.size + 1)) #[] #[] :: cv)) s1 (wCg (g1.mono s2.mono) (wAm ⟨_,s4,rfl⟩ (g2.mono s2.mono)))
   rw [nN]
   refine G.mono ?_
   rintro v3 w3 ⟨μ3,q1,q2,q3,q4⟩
   rw [s3] at q1 q4
   have E13:=s2.trans q1
   have hc3:=q1.mono _ _ s4
   have fin:∀ {B:AB} {h3:AH} (w4:World),h2.m.get h.nx=some B->wJN B->h2.put h.nx .dead=some h3->Keep w3 w4 (·=w.heap.size + 1)->w4.heap.size=w3.heap.size->∃ μ',Ext μ h.fl.nat w μ' w4/\Sim (CC P) P μ' h3 w4/\EnvR μ' σA σ/\Mk μ' w4 n0 (wIY w.heap.size :: D)/\h3.fl=h.fl:=by
    intro B h3 w4 hB hlv hput K4 _
    obtain ⟨v1,v2,v3⟩:=q2.put hput hB hlv hc3 K4 (B':=.dead) trivial
    rw [q4] at v2 v3
    exact ⟨μ3,E13.trans v2,v1,hE.mono E13.mono,(M1.ext q1).ext v2,v3⟩
   split at hr
   ·rename_i sx tx ax bx hB
    split at hr <;> first | (cases hr;done) | skip
    rename_i h3 hput
    cases hr
    obtain ⟨c',u1,u2⟩:=q2.at_ _ _ hB
    rw [hc3] at u1;cases u1
    have L3:wJM (CC P) μ3 w3 ⟨w.heap.size + 1,0,⟨N,σ,p,asg',body',w.heap.size,fn⟩⟩ sx tx ax bx .ready:=u2
    refine .inl ⟨L3.at_,fun w4 K4 hs4=>?_⟩
    obtain ⟨μ',a1,a2,a3,a4,a5⟩:=fin w4 hB trivial hput K4 hs4
    exact ⟨rfl,μ',a1,a2,a3,a4,a5,fun hq=>by cases hq⟩
   ·rename_i sx tx ax bx ee hB
    split at hr <;> first | (cases hr;done) | skip
    rename_i h3 hput
    cases hr
    obtain ⟨c',u1,u2⟩:=q2.at_ _ _ hB
    rw [hc3] at u1;cases u1
    have L3:wJM (CC P) μ3 w3 ⟨w.heap.size + 1,0,⟨N,σ,p,asg',body',w.heap.size,fn⟩⟩ sx tx ax bx (.done e):=u2
    cases e with
    | nrm =>
     refine .inl ⟨L3.at_,fun w4 K4 hs4=>?_⟩
     obtain ⟨μ',a1,a2,a3,a4,a5⟩:=fin w4 hB trivial hput K4 hs4
     exact ⟨rfl,μ',a1,a2,a3,a4,a5,fun hq=>by cases hq⟩
    | ret =>
     refine .inr ⟨.ret,.inl rfl,L3.at_,fun w4 K4 hs4=>?_⟩
     obtain ⟨μ',a1,a2,a3,a4,a5⟩:=fin w4 hB trivial hput K4 hs4
     exact ⟨rfl,μ',a1,a2,a3,a4,a5,fun hq=>by cases hq⟩
    | exit i =>
     refine .inr ⟨.exit i,.inr ⟨i,rfl⟩,L3.at_,fun w4 K4 hs4=>?_⟩
     obtain ⟨μ',a1,a2,a3,a4,a5⟩:=fin w4 hB trivial hput K4 hs4
     exact ⟨rfl,μ',a1,a2,a3,a4,a5,fun hq=>by cases hq⟩
   ·cases hr
  ·cases hr
theorem CK.ofRounds {rr:Option Nat} {N:Nat} {c:Code} {Q:wBw} {D:List Deferred} {σ:Env} {w:World} (m:Nat) (hh:∀ a,Rep N D a σ->Code.roundsIn (WF rr) 0 P c (wFi N Q) m a w):CK rr N P (.loop c) Q D σ w :=
 fun a ha=>wpIn_loop_rounds m (hh a ha)
theorem wPd {exR:Run} {r:Bool} (HE:wHS P exR r) {a b:AC} {σA σA':Tr AV} {h h':AH} {e:Ex} (hr:wOz a b exR σA h=some (e,σA',h')) {c d:Code} {N:Nat} (hc1:wDw P N a c=true) (hc2:wDw P N b d=true)
  {rr:Option Nat} {μ:Mu} {σ:Env} {w:World} {D:List Deferred} {n0:Nat} (hrr:rr.isSome=r) (S:Sim (CC P) P μ h w) (hE:EnvR μ σA σ) (M:Mk μ w n0 D) (hn:n0 <= w.heap.size):CK rr N P (.seq c d) (PostX P μ h.fl w n0 rr D e σA' h') D σ w:=by
 obtain ⟨⟨e1,σ1,h1⟩,ha,hb⟩:=wOj hr
 rw [wIF] at hb
 refine CK.seq ((HE _ _ _ _ _ _ ha c N hc1 rr μ σ w D n0 hrr S hE M hn).mono ?_)
 intro D' e' σ' w' hp
 obtain ⟨rfl,μ1,q1,q2,q3,q4,q5,q6⟩:=hp
 cases e1 with
 | nrm =>
  refine (HE _ _ _ _ _ _ hb d N hc2 rr μ1 σ' w' D' n0 hrr q2 q3 q4 (kH hn q1.keep.size)).mono ?_
  intro D'' e'' σ'' w'' hp
  rw [q5] at hp
  exact PostX.trans q1 q6 hp
 | ret=>cases hb;exact ⟨rfl,μ1,q1,q2,q3,q4,q5,q6⟩
 | exit i=>cases hb;exact ⟨rfl,μ1,q1,q2,q3,q4,q5,q6⟩
theorem wOS {exR:Run} {r:Bool} {m:Nat} (HE:wHS P exR r) (HL:wLJ P exR r m) {a:AC} {σA σA':Tr AV} {h h':AH} {e:Ex} (hr:wKe a exR σA h=some (e,σA',h')) {c:Code} {N:Nat} (hc:wDw P N a c=true)
  {rr:Option Nat} {μ:Mu} {σ:Env} {w:World} {D:List Deferred} {n0:Nat} (hrr:rr.isSome=r) (S:Sim (CC P) P μ h w) (hE:EnvR μ σA σ) (M:Mk μ w n0 D) (hn:n0 <= w.heap.size):∀ act,Rep N D act σ->Code.roundsIn (WF rr) 0 P c (wFi N (PostX P μ h.fl w n0 rr D e σA' h')) (m + 1) act w:=by
 obtain ⟨⟨e1,σ1,h1⟩,ha,hb⟩:=wOj hr
 rw [wIF] at hb
 intro act hact
 rw [roundsIn_succ]
 refine wpIn_mono (HE _ _ _ _ _ _ ha c N hc rr μ σ w D n0 hrr S hE M hn act hact) ?_
 rintro e' act' w' ⟨σ',D',hrep,hp⟩
 obtain ⟨rfl,μ1,q1,q2,q3,q4,q5,q6⟩:=hp
 cases e1 with
 | nrm =>
  refine wFT ?_ m act' w' (HL _ _ _ _ _ _ hb c N hc rr μ1 σ' w' D' n0 hrr q2 q3 q4 (kH hn q1.keep.size) act' hrep)
  rintro e'' act'' w'' ⟨σ'',D'',hrep',hp⟩
  rw [q5] at hp
  exact ⟨σ'',D'',hrep',PostX.trans q1 q6 hp⟩
 | ret=>cases hb;exact ⟨σ',D',hrep,rfl,μ1,q1,q2,q3,q4,q5,q6⟩
 | exit i=>cases hb;exact ⟨σ',D',hrep,rfl,μ1,q1,q2,q3,q4,q5,q6⟩
theorem wOT (hm:P.follows .mixedOrders=true) (T:wJU P tb):∀ (n:Nat) (r:Bool),wHS P (exec tb n r) r/\wLJ P (exec tb n r) r n:=by
 intro n
 induction n with
 | zero=>intro r;exact ⟨fun c σA h e σA' h' hr=>(by cases hr),fun c σA h e σA' h' hr=>(by cases hr)⟩
 | succ n ih =>
  intro r
  have HC:=wLK T (ih false).1
  have HY:=wMZ (P:=P) (ih true).1
  obtain ⟨HE,HL⟩:=ih r
  have loop:wLJ P (exec tb (n + 1) r) r (n + 1):=by
   intro c σA h e σA' h' hr code N hc rr μ σ w D n0 hrr S hE M hn
   have hr:wKe c (exec tb n r) σA h=some (e,σA',h'):=hr
   exact wOS HE HL hr hc hrr S hE M hn
  refine ⟨?_,loop⟩
  intro c σA h e σA' h' hr code N hc rr μ σ w D n0 hrr S hE M hn
  rw [wHJ] at hr
  cases c with
  | skip =>
   have hr:sNrm σA h=some (e,σA',h'):=hr
   cases hr
   have fin:PostX P μ h.fl w n0 rr D .nrm σA h D .normal σ w:=⟨rfl,μ,Ext.refl μ _ w,S,hE,M,rfl,fun _=>rfl⟩
   cases code <;> simp only [wDw,nH] at hc
   ·exact CK.skip fin
   ·exact CK.label fin
  | rg os =>
   have hr:sRg os tb (exec tb n false) (exec tb n true) (exec tb n r) σA h=some (e,σA',h'):=hr
   unfold sRg at hr
   have:∃ y,wAN tb (exec tb n false) (exec tb n true) os σA h=some y/\some (Ex.nrm,y.1,y.2)=some (e,σA',h'):=by
    cases hq:wAN tb (exec tb n false) (exec tb n true) os σA h with
    | none=>rw [hq] at hr;cases hr
    | some y=>rw [hq] at hr;exact ⟨y,rfl,hr⟩
   obtain ⟨y,h1,h2⟩:=this
   cases h2
   cases code <;> simp only [wDw,nH] at hc
   exact wLV hm HC HY (wDc tb n false) (wDc tb n true) h1 hc S hE M
  | seq a b =>
   have hr:wOz a b (exec tb n r) σA h=some (e,σA',h'):=hr
   cases code <;> simp only [wDw,nH,nB] at hc
   exact wPd HE hr hc.1 hc.2 hrr S hE M hn
  | cond x a b =>
   have hr:wKd x a b (exec tb n r) σA h=some (e,σA',h'):=hr
   cases code <;> simp only [wDw,nH,nB] at hc
   have hx:=wAC hc.1 hE
   unfold wKd at hr
   split at hr
   ·rename_i hb;rw [hb] at hx
    exact CK.condT hx (HE _ _ _ _ _ _ hr _ N hc.2.1 rr μ σ w D n0 hrr S hE M hn)
   ·rename_i hb;rw [hb] at hx
    exact CK.condF hx (HE _ _ _ _ _ _ hr _ N hc.2.2 rr μ σ w D n0 hrr S hE M hn)
   ·cases hr
  | block i a =>
   have hr:wIX i a (exec tb n r) σA h=some (e,σA',h'):=hr
   cases code <;> simp only [wDw,nH,nB] at hc
   rename_i j code
   have hij:=nD hc.1
   subst hij
   obtain ⟨⟨e1,σ1,h1⟩,ha,hb⟩:=wOj hr
   refine CK.block ((HE _ _ _ _ _ _ ha code N hc.2 rr μ σ w D n0 hrr S hE M hn).mono ?_)
   rintro D' e' σ' w' ⟨rfl,μ1,q1,q2,q3,q4,q5,q6⟩
   cases e1 with
   | nrm=>cases hb;exact ⟨rfl,μ1,q1,q2,q3,q4,q5,q6⟩
   | ret=>cases hb;exact ⟨rfl,μ1,q1,q2,q3,q4,q5,q6⟩
   | exit k =>
    have hb:Bool.rec (motive:=fun _=>R) (some (.exit k,σ1,h1)) (some (.nrm,σ1,h1)) (nM k i)=some (e,σA',h'):=hb
    cases hk:nM k i with
    | true =>
     rw [hk] at hb;cases hb
     have:=nD hk
     subst this
     exact wGO ⟨rfl,μ1,q1,q2,q3,q4,q5,q6⟩
    | false =>
     rw [hk] at hb;cases hb
     exact wMK ⟨rfl,μ1,q1,q2,q3,q4,q5,q6⟩ hk
  | loop a =>
   have hr':exec tb (n + 1) r (.loop a) σA h=some (e,σA',h'):=hr
   cases code <;> simp only [wDw,nH] at hc
   exact CK.ofRounds (n + 1) (loop _ _ _ _ _ _ hr' _ N hc rr μ σ w D n0 hrr S hE M hn)
  | rf g t asg body =>
   have hr:sRf (!r) g t asg body tb (exec tb n false) σA h=some (e,σA',h'):=hr
   cases r with
   | true=>unfold sRf at hr;simp at hr
   | false =>
    have hnone:rr=none:=by cases rr <;> first | rfl | cases hrr
    subst hnone
    cases code <;> first | (simp only [wDw,nH] at hc;done) | skip
    exact wMc HC hc hr S hE M hn
  | exit i =>
   have hr:some (Ex.exit i,σA,h)=some (e,σA',h'):=hr
   cases hr
   cases code <;> simp only [wDw,nH] at hc
   have:=nD hc
   subst this
   exact CK.exit ⟨rfl,μ,Ext.refl μ _ w,S,hE,M,rfl,fun _=>rfl⟩
  | scope a =>
   have hr:exec tb n r a σA h=some (e,σA',h'):=hr
   cases code <;> simp only [wDw,nH] at hc
   refine CK.scope ((HE _ _ _ _ _ _ hr _ N hc rr μ σ w D n0 hrr S hE M hn).mono ?_)
   rintro D' e' σ' w' ⟨rfl,q⟩
   cases e with
   | nrm=>exact ⟨rfl,q⟩
   | ret=>exact ⟨rfl,q⟩
   | exit k=>exact ⟨rfl,q⟩
  | ret =>
   have hr:some (Ex.ret,σA,h)=some (e,σA',h'):=hr
   cases hr
   cases code <;> simp only [wDw,nH] at hc
   exact CK.ret ⟨rfl,μ,Ext.refl μ _ w,S,hE,M,rfl,fun _=>rfl⟩
  | rl os =>
   have hr:sRl os tb (exec tb n false) (exec tb n true) σA h=some (e,σA',h'):=hr
   rw [wNC] at hr
   split at hr
   ·rename_i y hq
    cases hr
    obtain ⟨g1,g2⟩:=wID _ _ _ _ hq
    cases code <;> simp only [wDw,nH,nB,nG] at hc
    rename_i id ops draw
    obtain ⟨rfl,c1,c2⟩:=hc
    have hop:ops=ops.toList.toArray:=by simp
    rw [hop]
    exact CK.lazy hm HC HY (wDc tb n false) (wDc tb n true) (wLI c1 c2) g2 g1 S hE fun μ' w' σ' q1 q2 q3 q4=>⟨rfl,μ',q1,q2,q3,M.ext q1,q4,fun _=>rfl⟩
   ·cases hr
theorem Sim.empty (C:Chk) (P:Program) (w:World):Sim C P (fun _=>none) ⟨.e,.H,.H⟩ w :=
 ⟨fun _ _=>rfl,fun _ _ h=>(by cases h),fun _ _ _ _ _ _ h=>(by rw [Tr.get_e] at h;cases h),fun _ _ h=>(by rw [Tr.get_e] at h;cases h)⟩
theorem wJX (hm:P.follows .mixedOrders=true) (T:wJU P tb) (n:Nat) (f:Pos) (args:List AV) (vs:List Value) (v:AV) (h:AH) (hv:∀ μ,RvL μ args vs) (hr:wHG tb (exec tb n false) f args ⟨.e,.H,.H⟩=some (v,h)) (w:World) :
  Gv P (f.nat - 1) vs w fun cv w'=>∃ μ,Rv μ v cv/\Keep w w' Non:=by
 obtain ⟨_,hg⟩:=wLK T (wOT hm T n false).1 f args _ v h hr
 refine (hg _ w vs (Sim.empty _ _ w) (hv _)).mono ?_
 rintro cv w' ⟨μ',h1,h2,h3,_⟩
 exact ⟨μ',h3,h1.keep.weak fun i _ ⟨p,d,hp,_⟩=>by cases hp⟩
noncomputable def okB (tb:Tr AF) (n:Nat) (f:Pos) (b:Bool):Bool:=match wHG tb (exec tb n false) f [] ⟨.e,.H,.H⟩ with
 | some (.bool b',_)=>b' == b
 | _=>false
theorem wMd (hm:P.follows .mixedOrders=true) (T:wJU P tb) (n:Nat) (f:Pos) (k:Nat) (hk:f.nat=k + 1) (b:Bool) (hr:okB tb n f b=true) (w:World):Gv P k [] w fun cv w'=>cv=.bool b/\Keep w w' Non:=by
 unfold okB at hr
 split at hr
 ·rename_i b' h hq
  have hb:=eq_of_beq hr
  subst hb
  have:=wJX hm T n f [] [] _ h (fun _=>rfl) hq w
  rw [hk] at this
  refine this.mono ?_
  rintro cv w' ⟨μ,h1,h2⟩
  exact ⟨h1,h2⟩
 ·cases hr
def wLW (f:Nat->AF->Prop):Tr AF->(Nat->Nat)->Prop
 | .e,_=>True
 | .n l v r,g=>(match v with | none=>True | some a=>f (g 1) a)/\wLW f l (fun n=>g (2 * n))/\wLW f r (fun n=>g (2 * n + 1))
theorem wFX {f:Nat->AF->Prop}:∀ {t:Tr AF} {g:Nat->Nat},wLW f t g->∀ p a,t.get p=some a->f (g p.nat) a
 | .e,g,_,p,a,hq=>by rw [Tr.get_e] at hq;cases hq
 | .n l v r,g,⟨h1,h2,h3⟩,.H,a,hq=>by
  rw [Tr.get_H] at hq;subst hq;exact h1
 | .n l v r,g,⟨h1,h2,h3⟩,.O p,a,hq=>wFX h2 p a hq
 | .n l v r,g,⟨h1,h2,h3⟩,.I p,a,hq=>wFX h3 p a hq
theorem wPe (h:wLW (fun n a=>chkF P (n - 1) a=true) tb fun n=>n):wJU P tb:=fun p af hq=>wFX h p af hq
end
end Go.KX
namespace Go.KL
variable {S S' B B' α:Type}
theorem wIp {body:Nat->S->Option (S ⊕ B)} (I:Nat->S->Prop) (Z:B->Prop):∀ (m k:Nat) (s:S),I k s ->
  (∀ i s,k <= i->i < k + m->I i s->(∃ s',body i s=some (.inl s')/\I (i + 1) s') \/ ∃ b,body i s=some (.inr b)/\Z b) ->
  (∃ s',forN body m k s=some (.inl s')/\I (k + m) s') \/ ∃ b,forN body m k s=some (.inr b)/\Z b
 | 0,k,s,h,_=>.inl ⟨s,rfl,h⟩
 | m + 1,k,s,h,hb=>by
  simp only [forN]
  rcases hb k s (nP _) (by omega) h with ⟨s',h1,h2⟩ | ⟨b,h1,h2⟩
  ·rw [h1]
   have:=wIp I Z m (k + 1) s' h2 fun i s h2 h3 h4=>hb i s (by omega) (by omega) h4
   rwa [show k + 1 + m=k + (m + 1) from by omega] at this
  ·rw [h1];exact .inr ⟨b,rfl,h2⟩
theorem wDz {body:Nat->S->Option S} (I:Nat->S->Prop):∀ (m k:Nat) (s:S),I k s ->
  (∀ i s,k <= i->i < k + m->I i s->∃ s',body i s=some s'/\I (i + 1) s')->∃ s',forN' body m k s=some s'/\I (k + m) s'
 | 0,k,s,h,_=>⟨s,rfl,h⟩
 | m + 1,k,s,h,hb=>by
  simp only [forN']
  obtain ⟨s',h1,h2⟩:=hb k s (nP _) (by omega) h
  rw [h1]
  have:=wDz I m (k + 1) s' h2 fun i s h2 h3 h4=>hb i s (by omega) (by omega) h4
  rwa [show k + 1 + m=k + (m + 1) from by omega] at this
theorem wCX {body:Nat->S->Option (S ⊕ B)} {n:Nat} {s:S} (hn:n <= 9223372036854775807):wEf 0 (n:Int) body s=forN body n 0 s:=by
 unfold wEf
 rw [if_pos (by omega),show ((n:Int) - 0).toNat=n from by omega]
theorem wCY {body:Nat->S->Option S} {n:Nat} {s:S} (hn:n <= 9223372036854775807):wCc 0 (n:Int) body s=forN' body n 0 s:=by
 unfold wCc
 rw [if_pos (by omega),show ((n:Int) - 0).toNat=n from by omega]
theorem wJa [DecidableEq α] {l m:List α} (hn:l.length <= 9223372036854775807) :
  (if (↑l.length:Int)=(↑m.length:Int) then jn (wEf 0 (↑l.length:Int) (fun k4 (_:Unit)=>(idx l (↑k4:Int)).bind fun x26=>(idx m (↑k4:Int)).bind fun x34=>if x26=x34 then some (.inl ()) else esc (some false)) ()) fun _=>some true else some false)=some (decide (l=m)):=by
 by_cases hl:l.length=m.length
 ·rw [if_pos (by omega),wCX hn]
  have key:∀ (n k:Nat),k + n=l.length->(jn (forN (fun k4 (_:Unit)=>(idx l (↑k4:Int)).bind fun x26=>(idx m (↑k4:Int)).bind fun x34=>if x26=x34 then some (.inl ()) else esc (some false)) n k ()) fun _=>some true)=some (decide (l.drop k=m.drop k)):=by
   intro n
   induction n with
   | zero=>intro k hk;rw [np (by omega),np (by omega)];simp [forN]
   | succ n ih =>
    intro k hk
    have h1:k < l.length:=by omega
    have h2:k < m.length:=by omega
    rw [nZ h1,nZ h2,forN,wEt,wEt,nO h1,nO h2]
    simp only [nA]
    by_cases h:l[k]=m[k]
    ·rw [if_pos h]
     simp only
     rw [ih (k + 1) (by omega)]
     congr 1
     exact decide_eq_decide.2 ⟨fun e=>by rw [e,h],fun e=>(aC e).2⟩
    ·rw [if_neg h]
     have:¬ l[k] :: l.drop (k + 1)=m[k] :: m.drop (k + 1):=fun e=>h (aC e).1
     simp only [wMM,wEu,this,decide_false]
  have:=key l.length 0 (by omega)
  simpa using this
 ·rw [if_neg (by omega)]
  have:l ≠ m:=fun e=>hl (by rw [e])
  simp [this]
theorem wIq {R:Type} {l:List α} {g:α->Option (Unit ⊕ R)} {p:α->Bool} {z:R} {K:Unit->Option R} (hg:∀ a ∈ l,g a=if p a=true then some (.inl ()) else some (.inr z)) (hn:l.length <= 9223372036854775807) :
  jn (wEf 0 (↑l.length:Int) (fun k (_:Unit)=>(idx l (↑k:Int)).bind g) ()) K=if l.all p=true then K () else some z:=by
 rw [wCX hn]
 have key:∀ (m k:Nat),k + m=l.length->jn (forN (fun k (_:Unit)=>(idx l (↑k:Int)).bind g) m k ()) K=if (l.drop k).all p=true then K () else some z:=by
  intro m
  induction m with
  | zero=>intro k hk;rw [np (by omega)];rfl
  | succ m ih =>
   intro k hk
   have hlt:k < l.length:=by omega
   have e:l.drop k=l[k] :: l.drop (k + 1):=nZ hlt
   rw [e,List.all_cons,forN,wEt,nO hlt]
   simp only [nA,hg _ (List.getElem_mem hlt)]
   by_cases h:p l[k]=true
   ·rw [h]
    simp only [if_true,kD]
    exact ih (k + 1) (by omega)
   ·rw [if_neg h]
    have:p l[k]=false:=by simpa using h
    simp only [this,Bool.false_and,wEu,nH,if_false]
 exact key l.length 0 (by omega)
theorem wMg {β:Type} {l:List α} {f:α->β} {bytes:Nat} {g:α->List β->Option (List β)} (hg:∀ a ∈ l,∀ r,g a r=app bytes r [f a]) (hn:l.length <= 9223372036854775807) (hb:l.length * bytes <= 140737488355328) :
  wCc 0 (↑l.length:Int) (fun k r=>(idx l (↑k:Int)).bind fun x=>g x r) []=some (l.map f):=by
 rw [wCY hn]
 have key:∀ (m k:Nat) (r:List β),k + m=l.length->r.length=k->forN' (fun k r=>(idx l (↑k:Int)).bind fun x=>g x r) m k r=some (r ++ (l.drop k).map f):=by
  intro m
  induction m with
  | zero=>intro k r hk _;rw [np (by omega)];simp [forN']
  | succ m ih =>
   intro k r hk hr
   have hlt:k < l.length:=by omega
   have e:l.drop k=l[k] :: l.drop (k + 1):=nZ hlt
   rw [e,forN',wEt,nO hlt]
   have ha:app bytes r [f l[k]]=some (r ++ [f l[k]]):=by
    refine if_pos ?_
    simp only [kW,List.length_nil]
    exact kH (Nat.mul_le_mul_right _ (by omega)) hb
   simp only [nA,hg _ (List.getElem_mem hlt),ha]
   rw [ih (k + 1) _ (by omega) (by simp [hr]),nN]
   rfl
 exact key l.length 0 [] (by omega) rfl
theorem wEA {bytes:Nat} {l m:List α} (h:(l.length + m.length) * bytes <= 140737488355328):app bytes l m=some (l ++ m):=if_pos h
end Go.KL
namespace Go.KL
variable {S B R α β:Type}
theorem wGi {body:Nat->S->Option (S ⊕ B)} (s:Nat->S):∀ (m k:Nat),(∀ i,k <= i->i < k + m->body i (s i)=some (.inl (s (i + 1))))->forN body m k (s k)=some (.inl (s (k + m)))
 | 0,_,_=>rfl
 | m + 1,k,h=>by
  rw [forN,h k (nP _) (by omega)]
  have:=wGi s m (k + 1) fun i h1 h2=>h i (by omega) (by omega)
  rw [show k + 1 + m=k + (m + 1) by omega] at this
  exact this
theorem wHT {body:Nat->S->Option S} (s:Nat->S):∀ (m k:Nat),(∀ i,k <= i->i < k + m->body i (s i)=some (s (i + 1)))->forN' body m k (s k)=some (s (k + m))
 | 0,_,_=>rfl
 | m + 1,k,h=>by
  rw [forN',h k (nP _) (by omega)]
  have:=wHT s m (k + 1) fun i h1 h2=>h i (by omega) (by omega)
  rw [show k + 1 + m=k + (m + 1) by omega] at this
  exact this
theorem wCZ {body:Nat->S->Option S} {n:Nat} {s0:S} (s:Nat->S) (h0:s 0=s0) (hn:n <= 9223372036854775807) (h:∀ i,i < n->body i (s i)=some (s (i + 1))):wCc 0 (n:Int) body s0=some (s n):=by
 rw [wCY hn,<- h0]
 have:=wHT s n 0 fun i _ hi=>h i (by omega)
 rwa [kJ] at this
theorem wIr {body:Nat->S->Option (S ⊕ B)} {n:Nat} {s0:S} (s:Nat->S) (h0:s 0=s0) (hn:n <= 9223372036854775807) (h:∀ i,i < n->body i (s i)=some (.inl (s (i + 1)))):wEf 0 (n:Int) body s0=some (.inl (s n)):=by
 rw [wCX hn,<- h0]
 have:=wGi s n 0 fun i _ hi=>h i (by omega)
 rwa [kJ] at this
theorem wBn [Inhabited α] {l:List α} {k:Nat} (h:k < l.length):idx l (k:Int)=some (gd l k):=by
 rw [wEt]
 exact wBU h
theorem wBP [Inhabited α] {l:List α} {k:Nat} (h:k < l.length):gd l k ∈ l:=List.mem_of_getElem? (wBU h)
theorem wDF [Inhabited α] {l:List α} {k:Nat} (h:k < l.length):l.take (k + 1)=l.take k ++ [gd l k]:=by
 rw [List.take_add_one,wBU h]
 rfl
theorem wFb [Inhabited α] {l:List α} {k:Nat} (h:k < l.length):l.drop k=gd l k :: l.drop (k + 1):=by
 have:=wBU h
 rw [nO h] at this
 rw [nZ h,nJ this]
theorem wGj [Inhabited α] {l m:List α} {k:Nat} (h:k < l.length):gd (l ++ m) k=gd l k:=by
 have h1:=wBU (xs:=l ++ m) (k:=k) (by rw [nU];omega)
 rw [kV h,wBU h] at h1
 exact (nJ h1).symm
theorem wGk [Inhabited α] (l m:List α) (x:α):gd (l ++ x :: m) l.length=x:=by
 have h1:=wBU (xs:=l ++ x :: m) (k:=l.length) (by simp)
 rw [nv (nP _),nz] at h1
 exact (nJ h1).symm
theorem wIJ (o:Option α):(o.bind fun x=>some x)=o:=by cases o <;> rfl
end Go.KL
namespace Go.KL
variable {S B α:Type}
theorem wIs {body:S->Option (S ⊕ B)} (I:Nat->S->Prop) (Z:B->Prop) (m:Nat) (step:∀ i s,i <= m->I i s->(i < m/\∃ s',body s=some (.inl s')/\I (i + 1) s') \/ ∃ b,body s=some (.inr b)/\Z b) {s0:S} (h0:I 0 s0) (hm:m < 1000000):∃ b,iter body big s0=some b/\Z b:=by
 have key:∀ (d i:Nat) (s:S),i + d=m->I i s->∀ F,d < F->∃ b,iter body F s=some b/\Z b:=by
  intro d
  induction d with
  | zero =>
   intro i s hi hI F hF
   obtain ⟨F,rfl⟩:∃ G,F=G + 1:=⟨F - 1,by omega⟩
   rcases step i s (by omega) hI with ⟨h,_⟩ | ⟨b,h1,h2⟩
   ·omega
   ·exact ⟨b,by rw [iter,h1],h2⟩
  | succ d ih =>
   intro i s hi hI F hF
   obtain ⟨F,rfl⟩:∃ G,F=G + 1:=⟨F - 1,by omega⟩
   rcases step i s (by omega) hI with ⟨_,s',h1,h2⟩ | ⟨b,h1,h2⟩
   ·obtain ⟨b,h3,h4⟩:=ih (i + 1) s' (by omega) h2 F (by omega)
    exact ⟨b,by rw [iter,h1];exact h3,h4⟩
   ·exact ⟨b,by rw [iter,h1],h2⟩
 exact key m 0 s0 (by omega) h0 big (by unfold big;omega)
theorem wIK {body:S->Option (S ⊕ B)} (I:Nat->S->Prop) {b:B} (m:Nat) {s0:S} (h0:I 0 s0) (hm:m < 1000000) (step:∀ i s,i <= m->I i s->(i < m/\∃ s',body s=some (.inl s')/\I (i + 1) s') \/ body s=some (.inr b)):iter body big s0=some b:=by
 obtain ⟨c,h1,h2⟩:=wIs (body:=body) I (fun c=>c=b) m (fun i s hi hI=>by
  rcases step i s hi hI with h | h
  ·exact .inl h
  ·exact .inr ⟨b,h,rfl⟩) h0 hm
 rw [h1,h2]
theorem wNN [Inhabited α] {l:List α} {i k:Nat} {x:α} (hi:i < l.length) (hk:k < l.length):gd (l.set i x) k=if k=i then x else gd l k:=by
 have h1:=wBU (xs:=l.set i x) (k:=k) (by rw [List.length_set];exact hk)
 rw [List.getElem?_set] at h1
 by_cases e:i=k
 ·subst e
  rw [if_pos rfl,if_pos hi] at h1
  rw [if_pos rfl]
  exact (nJ h1).symm
 ·rw [if_neg e,wBU hk] at h1
  rw [if_neg (fun h=>e h.symm)]
  exact (nJ h1).symm
theorem wCa [Inhabited α] {l:List α} {k:Nat} (h:k < l.length):gd l k=l[k]:=by
 have:=wBU h
 rw [nO h] at this
 exact (nJ this).symm
theorem wJb [DecidableEq α] {l:List α} (hn:l.length <= 9223372036854775807) :
  (if (↑l.length:Int)=(↑l.length:Int) then jn (wEf 0 (↑l.length:Int) (fun k4 (_:Unit)=>(idx l (↑k4:Int)).bind fun x26=>(idx l (↑k4:Int)).bind fun x34=>if x26=x34 then some (.inl ()) else esc (some false)) ()) fun _=>some true else some false)=some true:=by
 rw [wJa hn]
 simp
end Go.KL
namespace Go.KL
def allN (q:Nat->Bool):Nat->Nat->Bool
 | 0,_=>true
 | m + 1,k=>q k && allN q m (k + 1)
def fnd {B:Type} (f:Nat->Option B):Nat->Nat->Option B
 | 0,_=>none
 | m + 1,k=>match f k with
  | some c=>some c
  | none=>fnd f m (k + 1)
def out {S B:Type} (s:S):Option B->S ⊕ B
 | none=>.inl s
 | some c=>.inr c
theorem wIt {B:Type} {body:Nat->Unit->Option (Unit ⊕ B)} {f:Nat->Option B}:∀ (m k:Nat),(∀ i,k <= i->i < k + m->body i ()=some (out () (f i)))->forN body m k ()=some (out () (fnd f m k))
 | 0,_,_=>rfl
 | m + 1,k,h=>by
  rw [forN,h k (by omega) (by omega),fnd]
  cases f k with
  | none=>exact wIt m (k + 1) fun i h1 h2=>h i (by omega) (by omega)
  | some c=>rfl
theorem wMh {B:Type} {body:Nat->Unit->Option (Unit ⊕ B)} {n:Nat} (f:Nat->Option B) (hn:n <= 1000) (h:∀ i,i < n->body i ()=some (out () (f i))):wEf 0 (n:Int) body ()=some (out () (fnd f n 0)):=by
 rw [wCX (by omega)]
 exact wIt n 0 fun i _ hi=>h i (by omega)
end Go.KL
namespace Go.Proofs.YtghaibkggdecnaaGreat
open Go.KL
theorem wLa (x a b:Int):wBQ x a b=some (decide (a <= x) && decide (x <= b)):=by
 unfold wBQ
 by_cases h:a <= x <;> simp [h]
theorem wMi {K V:Type} [DecidableEq K] {m:List (K × V)} {x y:K} {v:V}:wFk (mput m x v) y=if y=x then some v else wFk m y:=by
 induction m with
 | nil=>simp only [mput,wFk]
 | cons p m ih =>
  obtain ⟨a,u⟩:=p
  rw [mput]
  by_cases h:x=a
  ·subst h
   rw [if_pos rfl,wFk,wFk]
   split <;> rfl
  ·rw [if_neg h,wFk,wFk,ih]
   by_cases h2:y=a
   ·rw [if_pos h2,if_neg (fun e:y=x=>h (e.symm.trans h2)),if_pos h2]
   ·rw [if_neg h2,if_neg h2]
theorem wGl {l:List Int} (hl:l.length <= 1000):wBF l=some (!decide l.Nodup):=by
 unfold wBF
 rw [wCX (by omega)]
 have key:∀ (m k:Nat) (t:List (Int × Bool)),k + m=l.length->(∀ n,wDQ t n false=decide (n ∈ l.take k))->(l.take k).Nodup ->
   jn (forN (fun k20 l17 =>
  (idx l (↑k20:Int)).bind fun x41 =>
  if (wDQ l17 x41 false)=true then
   esc (some true)
  else
   some (.inl (mput l17 x41 true))) m k t) (fun _=>some false)=some (!decide l.Nodup):=by
  intro m
  induction m with
  | zero =>
   intro k t hk _ hn
   rw [kC (by omega)] at hn
   simp [forN,hn]
  | succ m ih =>
   intro k t hk ht hn
   have hlt:k < l.length:=by omega
   rw [forN,wBn hlt,nA,ht]
   by_cases c:gd l k ∈ l.take k
   ·have:¬ l.Nodup:=fun h=>by
     rw [<- nf k l,wFb hlt] at h
     exact (kU.1 h).2.2 _ c _ (by simp) rfl
    simp [c,this]
   ·rw [if_neg (by simpa using c)]
    simp only
    refine ih (k + 1) _ (by omega) (fun n=>?_) ?_
    ·unfold wDQ at ht ⊢
     rw [wMi,wDF hlt]
     by_cases e:n=gd l k
     ·rw [if_pos e];simp [e]
     ·rw [if_neg e,ht];simp [e]
    ·rw [wDF hlt,kU]
     exact ⟨hn,by simp,fun a ha b hb e=>by simp at hb;subst hb;subst e;exact c ha⟩
 exact key l.length 0 [] (by omega) (fun n=>by simp [wDQ,wFk]) (by simp)
theorem wIu {α:Type} [Inhabited α] {l:List α} {a:α} (h:a ∈ l):∃ i,i < l.length/\gd l i=a:=by
 obtain ⟨i,hi,e⟩:=List.getElem_of_mem h
 exact ⟨i,hi,by rw [wCa hi,e]⟩
end Go.Proofs.YtghaibkggdecnaaGreat
namespace Go.KL
open List MergeSort.Internal in
theorem wDe {α:Type} {le le':α->α->Bool}:∀ (l r:List α),(∀ x ∈ l,∀ y ∈ r,le x y=le' x y)->merge l r le=merge l r le'
 | [],r,_=>by simp
 | l,[],_=>by simp
 | a :: l,b :: r,h=>by
  rw [cons_merge_cons,cons_merge_cons,h a (by simp) b (by simp),wDe l (b :: r) (fun x hx y hy=>h x (by simp [hx]) y hy),wDe (a :: l) r (fun x hx y hy=>h x hx y (by simp [hy]))]
open List MergeSort.Internal in
theorem wCm {α:Type} {le le':α->α->Bool}:∀ (l:List α),(∀ x ∈ l,∀ y ∈ l,le x y=le' x y)->mergeSort l le=mergeSort l le'
 | [],_=>by simp
 | [a],_=>by simp
 | a :: b :: xs,h=>by
  have m1:∀ x ∈ (splitInTwo ⟨a :: b :: xs,rfl⟩).1.1,x ∈ a :: b :: xs:=fun x hx=>by
   rw [splitInTwo_fst] at hx
   exact nu hx
  have m2:∀ x ∈ (splitInTwo ⟨a :: b :: xs,rfl⟩).2.1,x ∈ a :: b :: xs:=fun x hx=>by
   rw [splitInTwo_snd] at hx
   exact List.mem_of_mem_drop hx
  have:(splitInTwo ⟨a :: b :: xs,rfl⟩).1.1.length < xs.length + 1 + 1:=by simp [splitInTwo_fst];omega
  have:(splitInTwo ⟨a :: b :: xs,rfl⟩).2.1.length < xs.length + 1 + 1:=by simp [splitInTwo_snd];omega
  simp only [mergeSort]
  rw [wCm _ (fun x hx y hy=>h x (m1 x hx) y (m1 y hy)),wCm _ (fun x hx y hy=>h x (m2 x hx) y (m2 y hy))]
  exact wDe _ _ fun x hx y hy=>h x (m1 x ((mem_mergeSort).1 hx)) y (m2 y ((mem_mergeSort).1 hy))
termination_by l=>l.length
end Go.KL
namespace Go.Proofs.YtghaibkggdecnaaGreat
open Go.KL
theorem wGm {f:wAB->Option Int} {p:wAB->Int} (hf:∀ s,f s=some (p s)) (a b:Int) {l:List wAB} (hl:l.length <= 1000):wAT (⟨f,a,b⟩:wAE) l=some (l.map p):=by
 unfold wAT
 rw [wMg (bytes:=8) (f:=p) (fun s _ r=>by simp only [hf,nA,wIJ]) (by omega) (by omega)]
 rfl
theorem wIL {f:wAB->Option Int} {a b:Int} {l:List Int} (hl:l.length <= 1000):wAY l (fun x=>wAS x (⟨f,a,b⟩:wAE))=some (l.all fun x=>decide (a <= x) && decide (x <= b)):=by
 unfold wAY
 rw [wIq (p:=fun x=>decide (a <= x) && decide (x <= b)) (z:=false) (fun x _=>by
  unfold wAS
  simp only [wLa,nA]
  split <;> rfl) (by omega)]
 cases l.all fun x=>decide (a <= x) && decide (x <= b) <;> rfl
structure wIM (f:List wAB):Prop where
 l1:1 <= f.length
 l2:f.length <= 60
 bib:∀ s ∈ f,1 <= s.Bib/\s.Bib <= 999
 rank:∀ s ∈ f,1 <= s.Rank/\s.Rank <= 9999
 nat:∀ s ∈ f,0 <= s.Nation/\s.Nation <= 30
 bibs:(f.map (·.Bib)).Nodup
 ranks:(f.map (·.Rank)).Nodup
def okB (s:wAB):Bool:=decide (1 <= s.Bib) && decide (s.Bib <= 999)
def okR (s:wAB):Bool:=decide (1 <= s.Rank) && decide (s.Rank <= 9999)
def okN (s:wAB):Bool:=decide (0 <= s.Nation) && decide (s.Nation <= 30)
def okF (s:wAB):Bool:=okB s && (okN s && okR s)
def wNO (f:List wAB):Int:=if 1 <= f.length/\f.length <= 60 then (if f.all okF=true then (if (f.map (·.Bib)).Nodup/\(f.map (·.Rank)).Nodup then 0 else 5) else 3) else 2
theorem wEB {f:List wAB}:wNO f=0 ↔ wIM f:=by
 unfold wNO
 constructor
 ·intro h
  by_cases h1:1 <= f.length/\f.length <= 60
  ·rw [if_pos h1] at h
   by_cases h2:f.all okF=true
   ·rw [if_pos h2] at h
    by_cases h3:(f.map (·.Bib)).Nodup/\(f.map (·.Rank)).Nodup
    ·have:=fun s hs=>nG.1 h2 s hs
     simp only [okF,okB,okN,okR,nB,decide_eq_true_iff] at this
     exact ⟨h1.1,h1.2,fun s hs=>(this s hs).1,fun s hs=>(this s hs).2.2,fun s hs=>(this s hs).2.1,h3.1,h3.2⟩
    ·rw [if_neg h3] at h;omega
   ·rw [if_neg h2] at h;omega
  ·rw [if_neg h1] at h;omega
 ·intro G
  rw [if_pos ⟨G.l1,G.l2⟩,if_pos (nG.2 fun s hs=>by
   have h1:=G.bib s hs
   have h2:=G.nat s hs
   have h3:=G.rank s hs
   simp only [okF,okB,okN,okR,nB,decide_eq_true_iff]
   exact ⟨h1,h2,h3⟩),if_pos ⟨G.bibs,G.ranks⟩]
theorem wIv {f:List wAB} (hl:f.length <= 1000):wBR f=some (wNO f):=by
 unfold wBR wNO
 rw [wLa,nA]
 by_cases h1:1 <= f.length/\f.length <= 60
 case neg=>rw [if_neg h1,if_neg (by simp;omega)]
 rw [if_pos h1,if_pos (by simp;omega)]
 unfold wBc
 rw [nA]
 have hall:f.all okF=(f.all okB && (f.all okN && f.all okR)):=by
  rw [kc]
  simp only [nB,nG,okF]
  constructor
  ·exact fun h=>⟨fun s hs=>(h s hs).1,fun s hs=>(h s hs).2.1,fun s hs=>(h s hs).2.2⟩
  ·exact fun h s hs=>⟨h.1 s hs,h.2.1 s hs,h.2.2 s hs⟩
 have mB:(f.map (·.Bib)).all (fun x=>decide (1 <= x) && decide (x <= 999))=f.all okB:=by rw [ko];rfl
 have mR:(f.map (·.Rank)).all (fun x=>decide (1 <= x) && decide (x <= 9999))=f.all okR:=by rw [ko];rfl
 have mN:(f.map (·.Nation)).all (fun x=>decide (0 <= x) && decide (x <= 30))=f.all okN:=by rw [ko];rfl
 rw [wGm (f:=wAI) (p:=(·.Bib)) (fun _=>rfl) _ _ hl,nA,wIL (by simpa using hl),nA,mB]
 rw [wGm (f:=wAJ) (p:=(·.Rank)) (fun _=>rfl) _ _ hl,nA,wIL (by simpa using hl),nA,mR]
 rw [wGm (f:=wAR) (p:=(·.Nation)) (fun _=>rfl) _ _ hl,nA,wIL (by simpa using hl),nA,mN]
 rw [nA,wGl (by simpa using hl),nA,nA,wGl (by simpa using hl),nA,hall]
 cases f.all okB with
 | false=>rfl
 | true =>
  cases f.all okR with
  | false=>cases f.all okN <;> rfl
  | true =>
   cases f.all okN with
   | false=>rfl
   | true =>
    simp only [if_true,kD]
    by_cases hb:(f.map (·.Bib)).Nodup
    ·by_cases hr:(f.map (·.Rank)).Nodup
     ·simp [hb,hr]
     ·simp [hb,hr]
    ·simp [hb]
theorem wGK (a b:Int):wAs a b=some (if a < b then -1 else if b < a then 1 else 0):=by
 unfold wAs wBN
 simp only [not_true_eq_false,decide_false,nA,nH,if_false]
 split
 ·rfl
 ·split <;> rfl
def rk (f:List wAB) (i:Int):Int:=(gd f i.toNat).Rank
theorem wGn {f:List wAB} {a b:Int} (ha:0 <= a/\a < f.length) (hb:0 <= b/\b < f.length):wAV a b f=some (if rk f a < rk f b then -1 else if rk f b < rk f a then 1 else 0):=by
 unfold wAV
 have e:∀ {i:Int},0 <= i->i < f.length->idx f i=some (gd f i.toNat):=fun h1 h2=>by
  unfold idx
  rw [if_pos h1,wBU (by omega)]
 rw [e ha.1 ha.2,nA,e hb.1 hb.2,nA,wGK,wIJ]
 rfl
theorem wNP {f:List wAB} (G:wIM f) {a b:Int} (ha:0 <= a/\a < f.length) (hb:0 <= b/\b < f.length) (e:rk f a=rk f b):a=b:=by
 unfold rk at e
 have pw:=nT.1 G.ranks
 have hi:a.toNat < (f.map (·.Rank)).length:=by simp;omega
 have hj:b.toNat < (f.map (·.Rank)).length:=by simp;omega
 have e':(f.map (·.Rank))[a.toNat]=(f.map (·.Rank))[b.toNat]:=by
  rw [kE,kE,<- wCa (by omega),<- wCa (by omega)]
  exact e
 rcases Int.lt_trichotomy a b with c | c | c
 ·exact absurd e' (pw _ _ hi hj (by omega))
 ·exact c
 ·exact absurd e'.symm (pw _ _ hj hi (by omega))
def wEC (n:Nat):List Int:=(nj n).map fun (k:Nat)=>(k:Int)
theorem wFc (n:Nat):(wEC n).Pairwise (· < ·):=by
 unfold wEC
 rw [List.pairwise_map]
 exact kg.imp fun h=>by omega
theorem wBo {n:Nat}:∀ i ∈ wEC n,0 <= i/\i < n:=by
 intro i hi
 obtain ⟨k,hk,e⟩:=kq.1 hi
 have:=kh.1 hk
 omega
structure Rk (f:List wAB) (r:List Int):Prop where
 perm:r.Perm (wEC f.length)
 ord:r.Pairwise fun a b=>rk f a < rk f b
theorem wLb {f:List wAB} (G:wIM f):∃ r,wAr f=some r/\Rk f r:=by
 unfold wAr
 have h1:=G.l1
 have h2:=G.l2
 rw [mkz,if_pos (by omega),nA]
 have e:=wCZ (body:=fun (k24:Nat) (l23:List Int) =>
  (chk (↑k24:Int) l23.length).bind fun _ =>
  some (kX l23 k24 (↑k24:Int))) (n:=f.length) (s0:=kO (f.length:Int).toNat 0) (fun k=>wEC k ++ kO (f.length - k) 0) (by simp [wEC]) (by omega) (fun i hi=>by
   have hl:(wEC i ++ kO (f.length - i) (0:Int)).length=f.length:=by simp [wEC];omega
   rw [wDp (by omega) (by omega),nA]
   congr 1
   have hn:(wEC i).length=i:=by simp [wEC]
   rw [ki _ _ (by omega),hn,nz,show f.length - i=(f.length - (i + 1)) + 1 by omega,List.replicate_succ,kr]
   have:wEC (i + 1)=wEC i ++ [(i:Int)]:=by unfold wEC;rw [ke,nh];rfl
   rw [this,nN]
   rfl)
 rw [e,nA]
 simp only [nz,List.replicate_zero,ny]
 have C:Cmp (fun x:Int × Int=>wAV x.1 x.2 f) (wEC f.length):=by
  have lt:∀ x ∈ wEC f.length,∀ y ∈ wEC f.length,ltB (fun x:Int × Int=>wAV x.1 x.2 f) x y=decide (rk f x < rk f y):=fun x hx y hy=>by
   unfold ltB
   simp only
   rw [wGn (wBo x hx) (wBo y hy)]
   by_cases c:rk f x < rk f y
   ·simp [c]
   ·by_cases c2:rk f y < rk f x <;> simp [c,c2]
  refine ⟨by simp [wEC];omega,fun x hx y hy=>by simp only;rw [wGn (wBo x hx) (wBo y hy)];rfl,fun x hx=>by rw [lt x hx x hx];simp,fun x hx y hy z hz a b=>?_,fun x hx y hy z hz a b=>?_,fun x hx y hy a b=>?_⟩
  ·rw [lt x hx y hy] at a;rw [lt y hy z hz] at b;rw [lt x hx z hz]
   simp at a b ⊢;omega
  ·rw [lt x hx y hy] at a;rw [lt y hy z hz] at b;rw [lt x hx z hz]
   simp at a b ⊢;omega
  ·rw [lt x hx y hy] at a;rw [lt y hy x hx] at b
   simp at a b
   exact wNP G (wBo x hx) (wBo y hy) (by omega)
 unfold wAO
 rw [wIV C,nA]
 refine ⟨_,rfl,kL _ _,?_⟩
 have hp:=kL (wEC f.length) fun x y=>!ltB (fun x:Int × Int=>wAV x.1 x.2 f) y x
 have lt:∀ x ∈ wEC f.length,∀ y ∈ wEC f.length,ltB (fun x:Int × Int=>wAV x.1 x.2 f) x y=decide (rk f x < rk f y):=fun x hx y hy=>by
  unfold ltB
  simp only
  rw [wGn (wBo x hx) (wBo y hy)]
  by_cases c:rk f x < rk f y
  ·simp [c]
  ·by_cases c2:rk f y < rk f x <;> simp [c,c2]
 rw [wCm (le':=fun x y=>decide (rk f x <= rk f y)) (wEC f.length) (fun x hx y hy=>by
  rw [lt y hy x hx,<- decide_not]
  exact decide_eq_decide.2 (by omega))] at hp ⊢
 have so:=kZ (le:=fun x y:Int=>decide (rk f x <= rk f y)) (fun a b c h1 h2=>by simp at h1 h2 ⊢;omega) (fun a b=>by simp;omega) (wEC f.length)
 have nd:((wEC f.length).mergeSort fun x y=>decide (rk f x <= rk f y)).Pairwise (· ≠ ·):=nE.1 (hp.nodup_iff.2 (nE.2 ((wFc _).imp fun h=>by omega)))
 refine (so.and nd).imp_of_mem fun {a b} ha hb h=>?_
 have h1:rk f a <= rk f b:=by simpa using h.1
 have h2:rk f a ≠ rk f b:=fun e=>h.2 (wNP G (wBo a (hp.mem_iff.1 ha)) (wBo b (hp.mem_iff.1 hb)) e)
 omega
end Go.Proofs.YtghaibkggdecnaaGreat
namespace Go.Proofs.YtghaibkggdecnaaGreat
open Go.KL
theorem wLc {l:List Int} {f:Int->Option Bool} {p:Int->Bool} (hf:∀ a,f a=some (p a)) (hn:l.length <= 1000):wAY l f=some (l.all p):=by
 unfold wAY
 rw [wIq (p:=p) (z:=false) (fun x _=>by simp only [hf,nA];split <;> rfl) (by omega)]
 cases l.all p <;> rfl
theorem wMj {l:List Int} {h:Int × Int->Option Int} {ky:Int->Int} (hl:l.length <= 1000) (hh:∀ x ∈ l,∀ y ∈ l,h (x,y)=some (if ky x < ky y then -1 else if ky y < ky x then 1 else 0))
  (inj:∀ x ∈ l,∀ y ∈ l,ky x=ky y->x=y) (nd:l.Nodup):∃ s,wJE h l=some s/\s.Perm l/\s.Pairwise (fun a b=>ky a < ky b):=by
 have lt:∀ x ∈ l,∀ y ∈ l,ltB h x y=decide (ky x < ky y):=fun x hx y hy=>by
  unfold ltB
  rw [hh x hx y hy]
  by_cases c:ky x < ky y
  ·simp [c]
  ·by_cases c2:ky y < ky x <;> simp [c,c2]
 have C:Cmp h l:=by
  refine ⟨by omega,fun x hx y hy=>by rw [hh x hx y hy];rfl,fun x hx=>by rw [lt x hx x hx];simp,fun x hx y hy z hz a b=>?_,fun x hx y hy z hz a b=>?_,fun x hx y hy a b=>?_⟩
  ·rw [lt x hx y hy] at a;rw [lt y hy z hz] at b;rw [lt x hx z hz]
   simp at a b ⊢;omega
  ·rw [lt x hx y hy] at a;rw [lt y hy z hz] at b;rw [lt x hx z hz]
   simp at a b ⊢;omega
  ·rw [lt x hx y hy] at a;rw [lt y hy x hx] at b
   simp at a b
   exact inj x hx y hy (by omega)
 have hp:=kL l fun x y=>!ltB h y x
 refine ⟨_,wIV C,hp,?_⟩
 rw [wCm (le':=fun x y=>decide (ky x <= ky y)) l (fun x hx y hy=>by
  rw [lt y hy x hx,<- decide_not]
  exact decide_eq_decide.2 (by omega))] at hp ⊢
 have so:=kZ (le:=fun x y:Int=>decide (ky x <= ky y)) (fun a b c h1 h2=>by simp at h1 h2 ⊢;omega) (fun a b=>by simp;omega) l
 have nd2:(l.mergeSort fun x y=>decide (ky x <= ky y)).Pairwise (· ≠ ·):=nE.1 (hp.nodup_iff.2 nd)
 refine (so.and nd2).imp_of_mem fun {a b} ha hb h=>?_
 have h1:ky a <= ky b:=by simpa using h.1
 have h2:ky a ≠ ky b:=fun e=>h.2 (inj a (hp.mem_iff.1 ha) b (hp.mem_iff.1 hb) e)
 omega
def spl:List Int->List Int->List (List Int)
 | _,[]=>[]
 | l,n :: ns=>l.take n.toNat :: spl (l.drop n.toNat) ns
def bef (z:List Int) (k:Nat):Nat:=((z.take k).map Int.toNat).sum
def okG (n:Int):Bool:=decide (1 <= n) && decide (n <= 60)
def wPi (f:List wAB) (z:List Int):Int:=if wNO f=0 then (if 1 <= z.length/\z.length <= 6 then (if z.all okG=true then (if z.sum=f.length then 0 else 7) else 3) else 2) else wNO f
theorem wFd (z:List Int):∀ l,(spl l z).length=z.length:=by
 induction z with
 | nil=>intro l;rfl
 | cons n z ih=>intro l;simp [spl,ih]
theorem wED {z:List Int} {k:Nat} (hk:k < z.length):bef z (k + 1)=bef z k + (gd z k).toNat:=by
 unfold bef
 rw [wDF hk,nh,List.sum_append]
 simp
theorem wMk (n:Int) (z:List Int) (k:Nat):bef (n :: z) (k + 1)=n.toNat + bef z k:=by
 unfold bef
 simp
theorem wNQ {z:List Int}:∀ {k:Nat} {l:List Int},k < z.length->gd (spl l z) k=(l.drop (bef z k)).take (gd z k).toNat:=by
 induction z with
 | nil=>intro k l h;simp at h
 | cons n z ih =>
  intro k l h
  cases k with
  | zero=>simp [spl,gd,bef]
  | succ k =>
   have h':k < z.length:=by simpa using h
   have e1:gd (spl l (n :: z)) (k + 1)=gd (spl (l.drop n.toNat) z) k:=by simp [spl,gd]
   have e2:gd (n :: z) (k + 1)=gd z k:=by simp [gd]
   rw [e1,ih h',e2,wMk,List.drop_drop]
theorem wDf {z:List Int} (h:z.all okG=true):∀ n ∈ z,1 <= n/\n <= 60:=by
 intro n hn
 have:=nG.1 h n hn
 simpa [okG] using this
theorem wGo {z:List Int} (h:∀ n ∈ z,1 <= n/\n <= 60):((z.map Int.toNat).sum:Int)=z.sum/\(z.map Int.toNat).sum <= 60 * z.length:=by
 induction z with
 | nil=>simp
 | cons n z ih =>
  obtain ⟨h1,h2⟩:=ih fun x hx=>h x (nb _ hx)
  have:=h n (nl ..)
  simp only [nw,kk,kW]
  omega
theorem wLd {z:List Int} {k:Nat} (hk:k <= z.length):bef z k <= bef z z.length:=by
 unfold bef
 rw [nc]
 conv=>rhs;rw [<- nf k z]
 rw [nh,List.sum_append]
 omega
theorem wLe {z:List Int} (h:z.all okG=true):(bef z z.length:Int)=z.sum:=by
 unfold bef
 rw [nc]
 exact (wGo (wDf h)).1
theorem wPj {z:List Int} (h:z.all okG=true) (hz:z.length <= 6):wCC z=some z.sum:=by
 unfold wCC
 rw [wCZ (s0:=0) (fun k=>(bef z k:Int)) (by simp [bef]) (by omega) (fun i hi=>by
  have h1:=wDf h _ (wBP hi)
  have h2:=wGo (z:=z.take i) (fun n hn=>wDf h n (nu hn))
  have h3:bef z i <= 360:=by have:=h2.2;rw [nV] at this;unfold bef;omega
  rw [wBn hi,nA,wED hi,wAc (by omega) (by omega)]
  congr 1
  omega),nA,wLe h]
theorem wOU {l:List Int} {n:Int} (h0:0 <= n) (h1:n <= l.length):cut l 0 n=some (l.take n.toNat):=by
 unfold cut
 rw [if_pos ⟨by omega,h0,h1⟩]
 simp
theorem wOV {l:List Int} {n:Int} (h0:0 <= n) (h1:n <= l.length):cut l n l.length=some (l.drop n.toNat):=by
 unfold cut
 rw [if_pos ⟨h0,h1,Int.le_refl _⟩,kC (by rw [nk];omega)]
theorem wLf {l:List Int} (hl:l.length <= 1000):wAh l=some l:=by
 unfold wAh
 rw [wEA (by simp;omega)];rfl
theorem wLg {f:List wAB} {z:List Int} (hf:f.length <= 1000) (hz:z.length <= 1000):∃ r,(wNO f=0->wAr f=some r/\Rk f r)/\wAj f z=some (if wPi f z=0 then spl r z else [],wPi f z):=by
 unfold wAj
 rw [wIv hf,nA]
 unfold wPi
 by_cases h:wNO f=0
 case neg=>exact ⟨[],fun e=>absurd e h,by rw [if_neg h,if_neg h,if_neg h]⟩
 obtain ⟨r,hr,R⟩:=wLb (wEB.1 h)
 refine ⟨r,fun _=>⟨hr,R⟩,?_⟩
 rw [if_pos h,if_pos h,wLa,nA]
 by_cases h1:1 <= z.length/\z.length <= 6
 case neg=>rw [if_neg (by simp;omega),if_neg h1];rfl
 rw [if_pos (by simp;omega),if_pos h1,wLc (p:=okG) (fun a=>by unfold wAy;rw [wLa];rfl) hz,nA]
 by_cases h2:z.all okG=true
 case neg=>rw [if_neg h2,if_neg h2];rfl
 rw [if_pos h2,if_pos h2,wPj h2 h1.2,nA]
 by_cases h3:z.sum=f.length
 case neg=>rw [if_neg h3,if_neg h3];rfl
 rw [if_pos h3,if_pos h3,hr,nA,if_pos rfl]
 have hb:=wLe h2
 have hl:r.length=f.length:=by rw [R.perm.length_eq];simp [wEC]
 have h60:=(wEB.1 h).l2
 rw [wCZ (fun k=>(r.drop (bef z k),(spl r z).take k)) (by simp [bef]) (by omega) (fun i hi=>by
  have g:=wDf h2 _ (wBP hi)
  have b1:=wED hi
  have b2:=wLd (z:=z) (k:=i + 1) (by omega)
  have hn:(gd z i) <= ((r.drop (bef z i)).length:Int):=by rw [nk];omega
  simp only
  rw [wBn hi,nA,wOU (by omega) hn,nA,wOV (by omega) hn,nA,wLf (by rw [nV,nk];omega),nA,wEA (by simp;omega),nA,List.drop_drop,<- b1,wDF (l:=spl r z) (by rw [wFd];exact hi),wNQ hi]),nA]
 simp only
 rw [kC (by rw [wFd];omega)]
end Go.Proofs.YtghaibkggdecnaaGreat
namespace Go.Proofs.YtghaibkggdecnaaGreat
open Go.KL
def pick (ky:Int->Int) (g:List Int) (n:Nat):List Int:=(nj n).flatMap fun (k:Nat)=>g.filter fun x=>decide (ky x=(k:Int))
theorem wLh (ky:Int->Int) (g:List Int) (n:Nat):pick ky g (n + 1)=pick ky g n ++ g.filter fun x=>decide (ky x=(n:Int)):=by
 unfold pick
 rw [ke,List.flatMap_append]
 simp
theorem wFe (ky:Int->Int) (g:List Int) (h0:∀ x ∈ g,0 <= ky x) (n:Nat):(pick ky g n).Perm (g.filter fun x=>decide (ky x < n)):=by
 induction n with
 | zero =>
  rw [List.filter_eq_nil_iff.2 (fun x hx=>by have:=h0 x hx;simp;omega)]
  exact kP _
 | succ n ih =>
  rw [wLh]
  have h1:=List.filter_append_perm (fun x=>decide (ky x < (n:Int))) (g.filter fun x=>decide (ky x < ((n + 1:Nat):Int)))
  rw [ku,ku] at h1
  refine aA (ih.append (kP _)) (aA ?_ h1)
  refine List.Perm.append (aB (kx fun x hx=>?_)) (aB (kx fun x hx=>?_))
  ·rw [kc];simp;omega
  ·rw [kc];simp;omega
theorem wIw (ky:Int->Int) (g:List Int) (h0:∀ x ∈ g,0 <= ky x) (n:Nat):(pick ky g n).length <= g.length:=by
 rw [(wFe ky g h0 n).length_eq]
 exact List.length_filter_le _ _
theorem wEm (ky:Int->Int) (g:List Int) (inj:∀ x ∈ g,∀ y ∈ g,ky x=ky y->x=y) (nd:g.Nodup) (n:Nat):(pick ky g n).Pairwise fun a b=>ky a < ky b:=by
 unfold pick
 rw [List.pairwise_flatMap]
 constructor
 ·intro k _
  have nd2:=nE.1 (nd.filter fun x=>decide (ky x=(k:Int)))
  refine nd2.imp_of_mem fun {a b} ha hb h=>?_
  have h1:=kK.1 ha
  have h2:=kK.1 hb
  exact absurd (inj a h1.1 b h2.1 (by simp at h1 h2;omega)) h
 ·refine kg.imp fun {a b} h x hx y hy=>?_
  have h1:=kK.1 hx
  have h2:=kK.1 hy
  simp at h1 h2
  omega
theorem wMl {lots:List Int} {a b:Int} (ha:0 <= a/\a < lots.length) (hb:0 <= b/\b < lots.length):wAf a b lots=some (if gd lots a.toNat < gd lots b.toNat then -1 else if gd lots b.toNat < gd lots a.toNat then 1 else 0):=by
 unfold wAf
 have e:∀ {i:Int},0 <= i->i < lots.length->idx lots i=some (gd lots i.toNat):=fun h1 h2=>by
  unfold idx
  rw [if_pos h1,wBU (by omega)]
 rw [e ha.1 ha.2,nA,e hb.1 hb.2,nA,wGK,wIJ]
theorem wGp {lots:List Int} (nd:lots.Nodup) {x y:Int} (hx:0 <= x/\x < lots.length) (hy:0 <= y/\y < lots.length) (e:gd lots x.toNat=gd lots y.toNat):x=y:=by
 rw [wCa (by omega),wCa (by omega)] at e
 have:=(List.getElem_inj nd).1 e
 omega
theorem wLi {g lots:List Int} (hg:g.length <= 60) (hin:∀ x ∈ g,0 <= x/\x < lots.length) (h0:∀ x ∈ g,0 <= gd lots x.toNat/\gd lots x.toNat <= 9999) (nd:lots.Nodup) (ng:g.Nodup) :
  wAO g (fun x=>wAf x.1 x.2 lots)=some (pick (fun (x:Int)=>gd lots x.toNat) g 10000):=by
 unfold wAO
 have inj:∀ x ∈ g,∀ y ∈ g,gd lots x.toNat=gd lots y.toNat->x=y:=fun x hx y hy e=>wGp nd (hin x hx) (hin y hy) e
 obtain ⟨s,h1,h2,h3⟩:=wMj (h:=fun x=>wAf x.1 x.2 lots) (ky:=fun (x:Int)=>gd lots x.toNat) (by omega) (fun x hx y hy=>wMl (hin x hx) (hin y hy)) inj ng
 rw [h1]
 have hq:=wEm (fun (x:Int)=>gd lots x.toNat) g inj ng 10000
 have hp:=wFe (fun (x:Int)=>gd lots x.toNat) g (fun x hx=>(h0 x hx).1) 10000
 rw [kl.2 (fun x hx=>by have:=(h0 x hx).2;simp;omega)] at hp
 generalize pick (fun (x:Int)=>gd lots x.toNat) g 10000=p at hp hq ⊢
 refine congrArg some ?_
 exact kY (le:=fun (a b:Int)=>gd lots a.toNat < gd lots b.toNat) (fun a b _ _ h1 h2=>by omega) h3 hq (h2.trans hp.symm)
theorem wIx {G:List (List Int)} (h:∀ g ∈ G,g.length <= 60):G.flatten.length <= 60 * G.length:=by
 induction G with
 | nil=>simp
 | cons g G ih =>
  have:=ih fun x hx=>h x (nb _ hx)
  have:=h g (nl ..)
  rw [kB,nU,kW]
  omega
def drawn (lots:List Int) (G:List (List Int)):List Int:=(G.map fun g=>pick (fun (x:Int)=>gd lots x.toNat) g 10000).flatten
structure wJc (lots:List Int) (G:List (List Int)):Prop where
 n:G.length <= 6
 len:∀ g ∈ G,g.length <= 60
 inn:∀ g ∈ G,∀ x ∈ g,0 <= x/\x < lots.length
 nd:∀ g ∈ G,g.Nodup
theorem wLj {lots:List Int} {G:List (List Int)} (h:wJc lots G) (h0:∀ x:Int,0 <= x->x < lots.length->0 <= gd lots x.toNat/\gd lots x.toNat <= 9999) (k:Nat):(drawn lots (G.take k)).length <= 360:=by
 unfold drawn
 have:=wIx (G:=(G.take k).map fun g=>pick (fun (x:Int)=>gd lots x.toNat) g 10000) (fun g hg=>by
  obtain ⟨g',hg',rfl⟩:=kq.1 hg
  have hm:=nu hg'
  have:=wIw (fun (x:Int)=>gd lots x.toNat) g' (fun x hx=>(h0 x (h.inn _ hm x hx).1 (h.inn _ hm x hx).2).1) 10000
  have:=h.len _ hm
  omega)
 rw [no,nV] at this
 have:=h.n
 omega
theorem wGL {lots:List Int} {G:List (List Int)} {k:Nat} (hk:k < G.length):drawn lots (G.take (k + 1))=drawn lots (G.take k) ++ pick (fun (x:Int)=>gd lots x.toNat) (gd G k) 10000:=by
 unfold drawn
 rw [wDF hk,nh,kM]
 simp
theorem wLk {lots:List Int} {G:List (List Int)} (h:wJc lots G) (h0:∀ x:Int,0 <= x->x < lots.length->0 <= gd lots x.toNat/\gd lots x.toNat <= 9999) (nd:lots.Nodup):∃ Y,wCc 0 (↑G.length:Int) (fun k91 (l86,l90) =>
            (chk (↑k91:Int) l90.length).bind fun _ =>
            (wAO (gd l90 k91) (fun x=>wAf x.1 x.2 lots)).bind fun x132 =>
            (app 8 l86 x132).bind fun x143 =>
            some (x143,(kX l90 k91 x132))) ([],G)=some (drawn lots G,Y):=by
  have hn:=h.n
  refine ⟨(G.take G.length).map (fun g=>pick (fun (x:Int)=>gd lots x.toNat) g 10000) ++ G.drop G.length,?_⟩
  rw [wCZ (fun k=>(drawn lots (G.take k),(G.take k).map (fun g=>pick (fun (x:Int)=>gd lots x.toNat) g 10000) ++ G.drop k)) (by simp [drawn]) (by omega) (fun i hi=>?_)]
  · rw [nc]
  have hm:=wBP hi
  have hd:=wLj h h0 i
  have hp:=wIw (fun (x:Int)=>gd lots x.toNat) (gd G i) (fun x hx=>(h0 x (h.inn _ hm x hx).1 (h.inn _ hm x hx).2).1) 10000
  have hl:=h.len _ hm
  have e1:gd ((G.take i).map (fun g=>pick (fun (x:Int)=>gd lots x.toNat) g 10000) ++ G.drop i) i=gd G i:=by
    rw [wFb hi]
    have:=wGk ((G.take i).map (fun g=>pick (fun (x:Int)=>gd lots x.toNat) g 10000)) (G.drop (i + 1)) (gd G i)
    rwa [no,nV,kf (by omega)] at this
  simp only
  rw [wDp (by omega) (by rw [nU,no,nV,nk];have:=kf (show i <= G.length by omega);omega),nA,e1,wLi hl (h.inn _ hm) (fun x hx=>h0 x (h.inn _ hm x hx).1 (h.inn _ hm x hx).2) nd (h.nd _ hm),nA,wEA (by omega),nA,wGL hi]
  congr 2
  rw [ki _ _ (by rw [no,nV];omega),wFb hi,no,nV,kf (by omega),nz,kr,wDF hi,nh,nN]
  rfl
theorem wIy {f:List wAB} {z r lots:List Int} (hl:lots.length=f.length) (h60:f.length <= 60) (R:Rk f r) (hz:z.length <= 6):wJc lots (spl r z):=by
 have hrl:r.length=f.length:=by rw [R.perm.length_eq];simp [wEC]
 have nd:r.Nodup:=R.perm.nodup_iff.2 (nE.2 ((wFc _).imp fun h=>by omega))
 have sub:∀ (z l:List Int) g,g ∈ spl l z->List.Sublist g l:=by
  intro z
  induction z with
  | nil=>intro l g hg;simp [spl] at hg
  | cons n z ih =>
   intro l g hg
   rcases nK.1 hg with rfl | hg
   ·exact List.take_sublist _ _
   ·exact (ih _ _ hg).trans (List.drop_sublist _ _)
 refine ⟨by rw [wFd];exact hz,fun g hg=>?_,fun g hg x hx=>?_,fun g hg=>(sub _ _ g hg).nodup nd⟩
 ·have:=(sub _ _ g hg).length_le;omega
 ·rw [hl]
  exact wBo x (R.perm.mem_iff.1 ((sub _ _ g hg).subset hx))
def okL (n:Int):Bool:=decide (0 <= n) && decide (n <= 9999)
theorem wFf {lots:List Int} (h:lots.all okL=true):∀ x:Int,0 <= x->x < lots.length->0 <= gd lots x.toNat/\gd lots x.toNat <= 9999:=by
 intro x h0 h1
 have:=nG.1 h _ (wBP (l:=lots) (k:=x.toNat) (by omega))
 simpa [okL] using this
theorem wNR (l:List Int) (hl:l.length <= 1000):wAQ l l=some true:=by
 unfold wAQ
 exact wJb (by omega)
end Go.Proofs.YtghaibkggdecnaaGreat
namespace Go.Proofs.YtghaibkggdecnaaGreat
open Go.KL
theorem wLl {a b:Int} (h0:0 <= a) (hb:0 < b):∃ x,rem a b=some x/\0 <= x/\x < b:=by
 refine ⟨a.tmod b,if_neg (by omega),?_,?_⟩
 ·rw [kR h0];exact Int.emod_nonneg _ (by omega)
 ·rw [kR h0];exact Int.emod_lt_of_pos _ hb
theorem wIN (x:Int):0 <= wCs x:=by unfold wCs;omega
theorem wOW (x:Int):wCs x < 4294967296:=by unfold wCs;omega
theorem w64u (x:Int):w64 (wCs x)=wCs x:=by
 have:=wIN x
 have:=wOW x
 exact wAc (by omega) (by omega)
theorem wMm (a:Int) {b:Int} (hb:b ≠ 0):∃ x,quo a b=some x:=⟨_,if_neg hb⟩
theorem wGq (d:wAA) (n:Int) (h0:0 <= d.next) (h1:d.next <= 1000000):∃ x d',wAK d n=some (x,d')/\0 <= d'.next/\d'.next <= d.next + 1/\0 <= x/\(x < n \/ (n <= 1/\x=0)):=by
 unfold wAK
 by_cases hn:n <= 1
 ·exact ⟨0,d,by rw [if_pos hn],h0,by omega,by omega,.inr ⟨hn,rfl⟩⟩
 rw [if_neg hn]
 by_cases hl:(d.bytes.length:Int)=0
 ·exact ⟨0,d,by rw [if_pos hl],h0,by omega,by omega,.inl (by omega)⟩
 rw [if_neg hl]
 obtain ⟨r,e1,r0,r1⟩:=wLl h0 (show (0:Int) < d.bytes.length by omega)
 obtain ⟨b,e2⟩:∃ b,idx d.bytes r=some b:=by
  unfold idx
  rw [if_pos r0,nO (by omega)]
  exact ⟨_,rfl⟩
 obtain ⟨q,e3⟩:=wMm d.next (b:=d.bytes.length) hl
 obtain ⟨st,e4,_,_⟩:=wLl (wIN ((wCs ((wCs ((wCs (d.state * 45)) + (wCs b))) + (wCs (77 * (wCs q))))) + 1)) (b:=65519) (by decide)
 rw [e1,nA,e2,nA,e3,nA,e4,nA,wAc (x:=d.next + 1) (by omega) (by omega)]
 have fin:∀ z:Int,∃ x d',((rem (w64 (wCs z)) n).bind fun x=>some (x,(⟨d.bytes,d.next + 1,st⟩:wAA)))=some (x,d')/\0 <= d'.next/\d'.next <= d.next + 1/\0 <= x/\(x < n \/ (n <= 1/\x=0)):=by
  intro z
  obtain ⟨x,e5,x0,x1⟩:=wLl (a:=w64 (wCs z)) (b:=n) (by rw [w64u];exact wIN z) (by omega)
  exact ⟨x,_,by rw [e5];rfl,by show 0 <= d.next + 1;omega,by show d.next + 1 <= _;omega,x0,.inl x1⟩
 by_cases c1:wCs q=0
 ·rw [if_pos c1]
  by_cases c2:n <= 256
  ·rw [if_pos c2];exact fin _
  ·rw [if_neg c2];exact fin _
 ·rw [if_neg c1];exact fin _
theorem wFg (d:wAA) (a b:Int) (h0:0 <= d.next) (h1:d.next <= 1000000) (ha:-1000000 <= a) (hab:a <= b) (hb:b <= 1000000):∃ x d',wAD d a b=some (x,d')/\0 <= d'.next/\d'.next <= d.next + 1/\a <= x/\x <= b:=by
 unfold wAD
 rw [wAc (x:=b - a) (by omega) (by omega),wAc (x:=b - a + 1) (by omega) (by omega)]
 obtain ⟨x,d',e,n0,n1,x0,x1⟩:=wGq d (b - a + 1) h0 h1
 refine ⟨a + x,d',?_,n0,n1,by omega,by omega⟩
 rw [e,nA]
 simp only
 rw [wAc (by omega) (by omega)]
end Go.Proofs.YtghaibkggdecnaaGreat
namespace Go.Proofs.YtghaibkggdecnaaGreat
open Go.KL
theorem wMn {l:List Int} {i k:Int} (i0:0 <= i) (i1:i < l.length) (k0:0 <= k) (k1:k < l.length):(kX (kX l i.toNat (gd l k.toNat)) k.toNat (gd l i.toNat)).Perm l:=by
 rw [wCa (show k.toNat < l.length by omega),wCa (show i.toNat < l.length by omega)]
 exact List.set_set_perm (by omega) (by omega)
theorem wGM (d:wAA) (n:Nat) (h0:0 <= d.next) (h1:d.next <= 100000) (hn:n <= 1000):∃ l d',wAL d (n:Int)=some (l,d')/\0 <= d'.next/\d'.next <= d.next + n/\l.Perm ((nj n).map fun (k:Nat)=>(k:Int)):=by
 unfold wAL
 have e1:max (0:Int) n=n:=by omega
 rw [e1,wCY (by omega)]
 obtain ⟨s,hs,hI⟩:=wDz (body:=fun (k19:Nat) (l15:List Int)=>(app 8 l15 [(k19:Int)]).bind fun x47=>some x47) (fun k l=>l=(nj k).map fun (k:Nat)=>(k:Int)) n 0 [] rfl (fun i s _ hi e=>by
  subst e
  refine ⟨_,by rw [app,if_pos (by simp;omega)];rfl,?_⟩
  rw [ke,nh];rfl)
 rw [hs,nA]
 rw [kJ] at hI
 have hlen:s.length=n:=by rw [hI];simp
 rw [wAc (by omega) (by omega)]
 refine (wIs (I:=fun j (st:List Int × Int × Int × List Int × Int)=>st.2.2.2.1.Perm s/\0 <= st.2.1/\st.2.1 <= d.next + j/\st.2.2.2.2=(s.length:Int) - 1 - j) (Z:=fun (b:List Int × wAA)=>0 <= b.2.next/\b.2.next <= d.next + n/\b.1.Perm s) n ?_ ⟨kP _,by simpa using h0,by simp,by simp⟩ (by omega)).elim fun b hb=>⟨b.1,b.2,hb.1,hb.2.1,hb.2.2.1,hI ▸ hb.2.2.2⟩
 rintro j ⟨b,nx,st,l,i⟩ hj ⟨hp,n0,n1,hi⟩
 simp only at hp n0 n1 hi ⊢
 have hl:l.length=s.length:=hp.length_eq
 by_cases c:0 < i
 ·left
  refine ⟨by omega,?_⟩
  rw [if_pos c,wAc (x:=i + 1) (by omega) (by omega)]
  obtain ⟨x,d',e,m0,m1,x0,x1⟩:=wGq ⟨b,nx,st⟩ (i + 1) n0 (by simp only;omega)
  have x1':x < l.length:=by omega
  rw [e,nA]
  simp only
  rw [wDp x0 (by omega),nA,wDp (by omega) (by omega),nA,wDp x0 (by rw [List.length_set];omega),nA,wAc (by omega) (by omega)]
  exact ⟨_,rfl,(wMn (by omega) (by omega) x0 x1').trans hp,m0,by simp only at m1 ⊢;omega,by simp only;omega⟩
 ·right
  rw [if_neg c]
  exact ⟨_,rfl,n0,by simp only;omega,hp⟩
theorem wLm {p:List Int} {n:Nat} (h:p.Perm ((nj n).map fun (k:Nat)=>(k:Int))):∀ i ∈ p,0 <= i/\i < n:=by
 intro i hi
 obtain ⟨k,hk,e⟩:=kq.1 (h.mem_iff.1 hi)
 have:=kh.1 hk
 omega
end Go.Proofs.YtghaibkggdecnaaGreat
namespace Go.Proofs.YtghaibkggdecnaaGreat
open Go.KL
def sRd (x2:Int) (x16:List Int) (k85:Nat):List Int × Int × Int × List wAB->Option (List Int × Int × Int × List wAB)
 | (l76,x79,x80,l81) =>
  (chk (↑k85:Int) x16.length).bind fun _ =>
  (wAD (⟨l76,x79,x80⟩:wAA) 1 9).bind fun (x184,x185) =>
  (wAK x185 x2).bind fun (x198,x199) =>
  (wAD x199 1 3).bind fun (x212,x213) =>
  (app 24 l81 [(⟨w64 ((w64 (10 * (↑k85:Int))) + x184),x198,w64 ((w64 (3 * (gd x16 k85))) + x212)⟩:wAB)]).bind fun x231 =>
  some (x213.bytes,x213.next,x213.state,x231)
theorem wIO (p0:wAA) (p1:Int):wAi p0 p1=(wAD p0 1 6).bind fun (x2,x3) =>
 (wAL x3 60).bind fun (x16,x17) =>
 (wAD x17 1 p1).bind fun (x33,x34) =>
 (wCc 0 x33 (sRd x2 x16) (x34.bytes,x34.next,x34.state,[])).bind fun (y90,y91,y92,y93) =>
 some (y93,(⟨y90,y91,y92⟩:wAA)):=rfl
structure MInv (p:List Int) (n:Int) (k:Nat) (s:List Int × Int × Int × List wAB):Prop where
 n0:0 <= s.2.1
 n1:s.2.1 <= n + 3 * (k:Int)
 len:s.2.2.2.length=k
 el:∀ i,i < k->(10 * (i:Int) + 1 <= (gd s.2.2.2 i).Bib/\(gd s.2.2.2 i).Bib <= 10 * (i:Int) + 9)/\(0 <= (gd s.2.2.2 i).Nation/\(gd s.2.2.2 i).Nation <= 5)/\3 * gd p i + 1 <= (gd s.2.2.2 i).Rank/\(gd s.2.2.2 i).Rank <= 3 * gd p i + 3
theorem wLn {p:List Int} (hp:p.length=60) (hr:∀ i ∈ p,0 <= i/\i < 60) {x n:Int} (x0:1 <= x) (x1:x <= 6) (n1:0 <= n) (n2:n <= 1000) {k:Nat} {s:List Int × Int × Int × List wAB} (hk:k < 30) (I:MInv p n k s):∃ s',sRd x p k s=some s'/\MInv p n (k + 1) s':=by
 obtain ⟨b,nx,st,l⟩:=s
 obtain ⟨i0,i1,hl,el⟩:=I
 simp only at i0 i1 hl el
 unfold sRd
 simp only
 have hg:=hr _ (wBP (l:=p) (k:=k) (by omega))
 obtain ⟨a,d2,e2,p0,p1,a0,a1⟩:=wFg ⟨b,nx,st⟩ 1 9 i0 (by simp only;omega) (by omega) (by omega) (by omega)
 simp only at p1
 obtain ⟨y,d3,e3,q0,q1,y0,y1⟩:=wGq d2 x p0 (by omega)
 obtain ⟨v,d4,e4,r0,r1,v0,v1⟩:=wFg d3 1 3 q0 (by omega) (by omega) (by omega) (by omega)
 rw [wDp (by omega) (by omega),nA,e2,nA]
 simp only
 rw [e3,nA]
 simp only
 rw [e4,nA]
 simp only
 rw [wAc (x:=10 * (k:Int)) (by omega) (by omega),wAc (x:=10 * (k:Int) + a) (by omega) (by omega),wAc (x:=3 * gd p k) (by omega) (by omega),wAc (x:=3 * gd p k + v) (by omega) (by omega),wEA (by simp;omega),nA]
 refine ⟨_,rfl,r0,by simp only;omega,by simp [hl],fun i hi=>?_⟩
 simp only
 by_cases e:i=k
 ·rw [e,show gd (l ++ [(⟨10 * (k:Int) + a,y,3 * gd p k + v⟩:wAB)]) k=⟨10 * (k:Int) + a,y,3 * gd p k + v⟩ by rw [<- hl,wGk]]
  simp only
  omega
 ·rw [wGj (by omega)]
  exact el i (by omega)
theorem wEn {α:Type} {l:List α} [Inhabited α] {g:α->Int} (h:∀ i j,i < j->j < l.length->g (gd l i) ≠ g (gd l j)):(l.map g).Nodup:=by
 rw [nE,nT]
 intro i j hi hj hij e
 rw [no] at hi hj
 rw [kE,kE,<- wCa hi,<- wCa hj] at e
 exact h i j hij hj e
theorem wOX (d:wAA) (h0:d.next=0) {u:Int} (u1:1 <= u) (u2:u <= 30):∃ f d',wAi d u=some (f,d')/\wIM f/\(f.length:Int) <= u/\∀ s ∈ f,s.Bib <= 299/\s.Rank <= 200/\s.Nation <= 5:=by
 rw [wIO]
 obtain ⟨x,d1,e1,m0,m1,x0,x1⟩:=wFg d 1 6 (by omega) (by omega) (by omega) (by omega) (by omega)
 rw [e1,nA]
 simp only
 obtain ⟨p,d2,e2,p0,p1,pp⟩:=wGM d1 60 m0 (by omega) (by omega)
 rw [show ((60:Nat):Int)=60 from rfl] at e2
 rw [e2,nA]
 simp only
 obtain ⟨n,d3,e3,q0,q1,n0,n1⟩:=wFg d2 1 u p0 (by omega) (by omega) (by omega) (by omega)
 rw [e3,nA]
 simp only
 obtain ⟨m,rfl⟩:∃ m:Nat,n=m:=⟨n.toNat,by omega⟩
 have hpl:p.length=60:=by rw [pp.length_eq];simp
 have hpr:=wLm pp
 have hpn:p.Nodup:=pp.nodup_iff.2 (nE.2 ((wFc 60).imp fun h=>by omega))
 have hpd:∀ i j,i < j->j < 60->gd p i ≠ gd p j:=fun i j hij hj e=>by
  have:=nT.1 (nE.1 hpn) i j (by omega) (by omega) hij
  rw [<- wCa (by omega),<- wCa (by omega)] at this
  exact this e
 rw [wCY (by omega)]
 obtain ⟨⟨b,nx,st,l⟩,hs,I⟩:=wDz (body:=sRd x p) (MInv p d3.next) m 0 (d3.bytes,d3.next,d3.state,[]) ⟨q0,by simp only;omega,rfl,fun i hi=>by omega⟩ (fun i s _ hi I=>wLn hpl hpr x0 x1 q0 (by omega) (by omega) I)
 rw [hs,nA]
 obtain ⟨i0,i1,hl,el⟩:=I
 simp only at i0 i1 hl el ⊢
 rw [kJ] at hl el
 have hg:∀ i,i < m->0 <= gd p i/\gd p i < 60:=fun i hi=>hpr _ (wBP (by omega))
 have hf:∀ s ∈ l,(1 <= s.Bib/\s.Bib <= 299)/\(0 <= s.Nation/\s.Nation <= 5)/\1 <= s.Rank/\s.Rank <= 200:=fun s hs=>by
  obtain ⟨i,hi,e⟩:=wIu hs
  have h1:=el i (by omega)
  have h2:=hg i (by omega)
  rw [e] at h1
  omega
 refine ⟨l,_,rfl,⟨by omega,by omega,fun s hs=>by have:=hf s hs;omega,fun s hs=>by have:=hf s hs;omega,fun s hs=>by have:=hf s hs;omega,wEn fun i j hij hj=>?_,wEn fun i j hij hj=>?_⟩,by omega,fun s hs=>by have:=hf s hs;omega⟩
 ·have h1:=el i (by omega)
  have h2:=el j (by omega)
  omega
 ·have h1:=el i (by omega)
  have h2:=el j (by omega)
  have h3:=hpd i j hij (by omega)
  omega
theorem wFh {r:List Int} {n:Nat} (hp:r.Perm (wEC n)) (hn:n <= 1000):wAM r n=some true:=by
 unfold wAM
 have hl:r.length=n:=by rw [hp.length_eq];simp [wEC]
 have hd:r.Nodup:=hp.nodup_iff.2 (nE.2 ((wFc n).imp fun h=>by omega))
 rw [mkz,if_pos (by omega),nA,wCX (by omega)]
 rcases wIp (body:=fun (k15:Nat) (l14:List Bool) =>
  (idx r (↑k15:Int)).bind fun x38 =>
  if x38 < 0 then
   esc (some false)
  else
   if (n:Int) <= x38 then
    esc (some false)
   else
    (chk x38 l14.length).bind fun _ =>
    if (gd l14 x38.toNat)=true then
     esc (some false)
    else
     some (.inl (kX l14 x38.toNat true))) (fun k l=>l.length=n/\∀ j:Nat,j < n->(gd l j=true ↔ (j:Int) ∈ r.take k)) (fun _=>False) r.length 0 (kO (n:Int).toNat false) ⟨by simp,fun j hj=>by
    rw [wCa (by simp;omega)];simp⟩ (fun k l _ hk ⟨h1,h2⟩=>.inl (by
    have hk':k < r.length:=by omega
    have hr:=wBo _ (hp.mem_iff.1 (wBP hk'))
    have hno:gd r k ∉ r.take k:=fun c=>by
     have hd2:=hd
     rw [<- nf k r,wFb hk'] at hd2
     exact (kU.1 hd2).2.2 _ c _ (by simp) rfl
    rw [wBn hk',nA,if_neg (by omega),if_neg (by omega),wDp (by omega) (by omega),nA]
    have e:(((gd r k).toNat:Nat):Int)=gd r k:=by omega
    rw [if_neg (fun c=>hno (by have:=(h2 _ (by omega)).1 c;rwa [e] at this))]
    refine ⟨_,rfl,by simpa using h1,fun j hj=>?_⟩
    rw [wNN (by omega) (by omega),wDF hk',nL,kA]
    by_cases c:j=(gd r k).toNat
    ·rw [if_pos c]
     exact ⟨fun _=>.inr (by omega),fun _=>rfl⟩
    ·rw [if_neg c,h2 j hj]
     exact ⟨.inl,fun h=>h.elim id fun h=>absurd h (by omega)⟩)) with ⟨s,e,_⟩ | ⟨_,_,h⟩
 ·rw [e,wCd]
  simp [hl]
 ·exact h.elim
end Go.Proofs.YtghaibkggdecnaaGreat
namespace Go.Proofs.YtghaibkggdecnaaGreat
open Go.KL
def dRd (p2:Int) (x174:List Int) (k243:Nat):List Int × Int × Int × List Int × List Int->Option (List Int × Int × Int × List Int × List Int)
  | (l230,x233,x234,l235,l239) =>
        (chk (↑k243:Int) x174.length).bind fun _ =>
        (wAK (⟨l230,x233,x234⟩:wAA) 11).bind fun (x283,x284) =>
        (app 8 l235 [w64 ((w64 (11 * (gd x174 k243))) + x283)]).bind fun x302 =>
        (app 8 l239 [0]).bind fun x315 =>
        (chk (w64 ((↑x302.length:Int) - 1)) x302.length).bind fun _ =>
        (chk (w64 ((↑x315.length:Int) - 1)) x315.length).bind fun _ =>
        some (x284.bytes,x284.next,x284.state,x302,(kX x315 (w64 ((↑x315.length:Int) - 1)).toNat (w64 ((gd x302 (w64 ((↑x302.length:Int) - 1)).toNat) + (w64 p2)))))
structure LotI (p:List Int) (m:Int) (n:Int) (k:Nat) (s:List Int × Int × Int × List Int × List Int):Prop where
 n0:0 <= s.2.1
 n1:s.2.1 <= n + (k:Int)
 len:s.2.2.2.1.length=k
 len2:s.2.2.2.2.length=k
 el:∀ i,i < k->11 * gd p i <= gd s.2.2.2.1 i/\gd s.2.2.2.1 i <= 11 * gd p i + 10/\gd s.2.2.2.2 i=gd s.2.2.2.1 i + m
theorem wMo {p:List Int} (hp:p.length <= 30) (hr:∀ i ∈ p,0 <= i/\i < 30) {m n:Int} (m0:0 <= m) (m1:m <= 255) (n1:n <= 1000) {k:Nat} {s:List Int × Int × Int × List Int × List Int} (hk:k < p.length) (I:LotI p m n k s):∃ s',dRd m p k s=some s'/\LotI p m n (k + 1) s':=by
 obtain ⟨b,nx,st,l,l'⟩:=s
 obtain ⟨i0,i1,hl,hl',el⟩:=I
 simp only at i0 i1 hl hl' el
 unfold dRd
 simp only
 have hg:=hr _ (wBP hk)
 obtain ⟨y,d3,e3,q0,q1,y0,y1⟩:=wGq ⟨b,nx,st⟩ 11 i0 (by simp only;omega)
 simp only at q1
 rw [wDp (by omega) (by omega),nA,e3,nA]
 simp only
 rw [wAc (x:=11 * gd p k) (by omega) (by omega),wAc (x:=11 * gd p k + y) (by omega) (by omega),wEA (by simp;omega),nA,wEA (by simp;omega),nA]
 simp only [nU,List.length_singleton,hl,hl']
 rw [wAc (x:=(((k + 1:Nat):Int) - 1)) (by omega) (by omega),wDp (by omega) (by omega),nA,nA,wAc (x:=m) (by omega) (by omega)]
 have ek:(((k + 1:Nat):Int) - 1).toNat=k:=by omega
 rw [ek]
 have e1:gd (l ++ [11 * gd p k + y]) k=11 * gd p k + y:=by rw [<- hl];exact wGk l [] _
 rw [e1,wAc (by omega) (by omega)]
 refine ⟨_,rfl,q0,by simp only;omega,by simp [hl],by simp [hl'],fun i hi=>?_⟩
 simp only
 rw [wNN (by simp [hl']) (by simp [hl'];omega)]
 by_cases e:i=k
 ·rw [if_pos e,e,e1]
  omega
 ·rw [if_neg e,wGj (by omega),wGj (by omega)]
  exact el i (by omega)
theorem wMp {z:List Int} (h0:∀ n ∈ z,0 <= n):∀ {r:List Int},(r.length:Int)=z.sum->(spl r z).flatten=r:=by
 induction z with
 | nil=>intro r h;simp at h;subst h;rfl
 | cons n z ih =>
  intro r h
  have hn:=h0 n (nl ..)
  have hz:0 <= z.sum:=by
   have:∀ (l:List Int),(∀ n ∈ l,0 <= n)->0 <= l.sum:=fun l=>by
    induction l with
    | nil=>intro _;simp
    | cons a l ih=>intro h;have:=h a (nl ..);have:=ih fun x hx=>h x (nb _ hx);rw [kk];omega
   exact this z fun x hx=>h0 x (nb _ hx)
  rw [kk] at h
  show r.take n.toNat ++ (spl (r.drop n.toNat) z).flatten=r
  rw [ih (fun x hx=>h0 x (nb _ hx)) (by rw [nk];omega),nf]
theorem wEo {lots g:List Int} (hin:∀ x ∈ g,0 <= x/\x < lots.length) (h0:∀ x:Int,0 <= x->x < lots.length->0 <= gd lots x.toNat/\gd lots x.toNat <= 9999):(pick (fun (x:Int)=>gd lots x.toNat) g 10000).Perm g:=by
 have hp:=wFe (fun (x:Int)=>gd lots x.toNat) g (fun x hx=>(h0 x (hin x hx).1 (hin x hx).2).1) 10000
 rwa [kl.2 (fun x hx=>by have:=(h0 x (hin x hx).1 (hin x hx).2).2;simp;omega)] at hp
theorem wJd {lots:List Int} {G:List (List Int)} (h:∀ g ∈ G,∀ x ∈ g,0 <= x/\x < (lots.length:Int)) (h0:∀ x:Int,0 <= x->x < lots.length->0 <= gd lots x.toNat/\gd lots x.toNat <= 9999):(drawn lots G).Perm G.flatten:=by
 induction G with
 | nil=>exact kP _
 | cons g G ih =>
  have e:drawn lots (g :: G)=pick (fun (x:Int)=>gd lots x.toNat) g 10000 ++ drawn lots G:=by unfold drawn;rw [nw,kB]
  rw [e,kB]
  exact (wEo (h g (nl ..)) h0).append (ih fun x hx=>h x (nb _ hx))
theorem wJe {lots more:List Int} {m:Int} {G:List (List Int)} (hl:more.length=lots.length) (h:wJc lots G) (h0:∀ x:Int,0 <= x->x < lots.length->0 <= gd lots x.toNat/\gd lots x.toNat <= 9999) (h1:∀ x:Int,0 <= x->x < more.length->0 <= gd more x.toNat/\gd more x.toNat <= 9999) (nd:lots.Nodup) (nd2:more.Nodup) (hm:∀ i,i < lots.length->gd more i=gd lots i + m):drawn more G=drawn lots G:=by
 unfold drawn
 refine congrArg List.flatten (List.map_congr_left fun g hg=>?_)
 have hin:=h.inn g hg
 have hin2:∀ x ∈ g,0 <= x/\x < (more.length:Int):=fun x hx=>by rw [hl];exact hin x hx
 have p1:=wEo hin h0
 have p2:=wEo hin2 h1
 have o1:=wEm (fun (x:Int)=>gd lots x.toNat) g (fun x hx y hy e=>wGp nd (hin x hx) (hin y hy) e) (h.nd g hg) 10000
 have o2:=wEm (fun (x:Int)=>gd more x.toNat) g (fun x hx y hy e=>wGp nd2 (hin2 x hx) (hin2 y hy) e) (h.nd g hg) 10000
 generalize pick (fun (x:Int)=>gd lots x.toNat) g 10000=a at p1 o1 ⊢
 generalize pick (fun (x:Int)=>gd more x.toNat) g 10000=b at p2 o2 ⊢
 refine kY (le:=fun (x y:Int)=>gd lots x.toNat < gd lots y.toNat) (fun a b _ _ h1 h2=>by omega) (o2.imp_of_mem fun {x y} hx hy h=>?_) o1 (p2.trans p1.symm)
 have hx':=hin x (p2.mem_iff.1 hx)
 have hy':=hin y (p2.mem_iff.1 hy)
 rw [hm _ (by omega),hm _ (by omega)] at h
 omega
theorem wLo {G:List (List Int)} (hn:G.length <= 10) (hG:∀ g ∈ G,g.length <= 60):wAZ G=some G.flatten:=by
 unfold wAZ
 have hb:∀ k,(G.take k).flatten.length <= 600:=fun k=>by
  have:=wIx (G:=G.take k) fun g hg=>hG g (nu hg)
  rw [nV] at this
  omega
 have hs:∀ i,i < G.length->(G.take (i + 1)).flatten=(G.take i).flatten ++ gd G i:=fun i hi=>by
  rw [wDF hi,kM];simp
 rw [wCZ (s0:=(0:Int)) (fun k=>((G.take k).flatten.length:Int)) (by simp) (by omega) (fun i hi=>by
  have h1:=hb (i + 1)
  rw [hs i hi,nU] at h1
  rw [wBn hi,nA,hs i hi,nU,wAc (by omega) (by omega),if_neg (by omega)]
  rfl),nA,nc]
 have h2:=hb G.length
 rw [nc] at h2
 have e:wAl [] (G.flatten.length:Int)=some []:=by
  unfold wAl
  rw [if_neg (by omega),Int.sub_zero,wAc (by omega) (by omega)]
  split
  ·rw [appZ,if_pos (by omega)];rfl
  ·rfl
 rw [e,nA,wCZ (fun k=>(G.take k).flatten) (by simp) (by omega) (fun i hi=>by
  have h1:=hb (i + 1)
  rw [hs i hi,nU] at h1
  rw [wBn hi,nA,wEA (by omega),nA,hs i hi]),nA,nc]
theorem wNS {B:Type} {f:Nat->Option B} {P:B->Prop} (hP:∀ i b,f i=some b->P b):∀ {m k i:Nat},k <= i->i < k + m->f i ≠ none->∃ b,fnd f m k=some b/\P b
 | 0,k,i,h1,h2,_=>by omega
 | m + 1,k,i,h1,h2,h3=>by
  rw [fnd]
  cases hk:f k with
  | some c=>exact ⟨c,rfl,hP k c hk⟩
  | none=>exact wNS hP (i:=i) (by
    rcases Nat.lt_or_ge k i with h | h
    ·omega
    ·have:k=i:=by omega
     subst this;exact absurd hk h3) (by omega) h3
theorem wHU {l:List Int} (hl:l.length <= 1000) {x:Int} (hx:x ∈ l):wAP l x=some true:=by
 unfold wAP wAw
 obtain ⟨i,hi,e⟩:=wIu hx
 obtain ⟨b,hb,h0⟩:=wNS (f:=fun i=>if x=gd l i then some (i:Int) else none) (P:=fun b=>0 <= b) (fun i b h=>by
  split at h
  ·cases h;omega
  ·cases h) (m:=l.length) (k:=0) (i:=i) (by omega) (by omega) (by simp [e])
 rw [wMh (fun i=>if x=gd l i then some (i:Int) else none) (by omega) (fun i hi=>by
  rw [wBn hi,nA]
  by_cases c:x=gd l i
  ·rw [if_pos c,if_pos c];rfl
  ·rw [if_neg c,if_neg c];rfl),hb]
 show (some b).bind _=_
 rw [nA,decide_eq_true h0]
theorem wMq {lots:List Int} {G:List (List Int)} {k j:Nat} (hk:k < G.length) (hj:j < (pick (fun (x:Int)=>gd lots x.toNat) (gd G k) 10000).length):gd (drawn lots G) ((drawn lots (G.take k)).length + j)=gd (pick (fun (x:Int)=>gd lots x.toNat) (gd G k) 10000) j/\(drawn lots (G.take k)).length + j < (drawn lots G).length:=by
 have e:drawn lots G=drawn lots (G.take k) ++ (pick (fun (x:Int)=>gd lots x.toNat) (gd G k) 10000 ++ drawn lots (G.drop (k + 1))):=by
  unfold drawn
  conv=>lhs;rw [<- nf k G,wFb hk]
  rw [nh,kM,nw,kB]
 rw [e]
 generalize pick (fun (x:Int)=>gd lots x.toNat) (gd G k) 10000=p at hj ⊢
 generalize drawn lots (G.take k)=a
 generalize drawn lots (G.drop (k + 1))=c
 constructor
 ·rw [wCa (by simp;omega),wCa hj]
  rw [List.getElem_append_right (by omega)]
  simp only [Nat.add_sub_cancel_left]
  exact List.getElem_append_left hj
 ·simp;omega
theorem wIP {lots z r:List Int} {n:Nat} (hn:n <= 30) (hr:r.length=n) (hz:z.length <= 6) (h1:∀ x ∈ z,1 <= x/\x <= 60) (hs:z.sum=n) (gg:wJc lots (spl r z)) (h0:∀ x:Int,0 <= x->x < lots.length->0 <= gd lots x.toNat/\gd lots x.toNat <= 9999) (nd:lots.Nodup) :
    ∃ y,wEf 0 (↑(spl r z).length:Int) (fun k689 x688 =>
                          (idx (spl r z) (↑k689:Int)).bind fun x712 =>
                          (idx z (↑k689:Int)).bind fun x729 =>
                          if (↑x712.length:Int)=x729 then
                            jn (wEf 0 (↑x712.length:Int) (fun k757 x756 =>
                              (idx (drawn lots (spl r z)) x756).bind fun x785 =>
                              (wAP x712 x785).bind fun x800 =>
                              if x800=true then
                                if 0 < (↑k757:Int) then
                                  (idx lots x785).bind fun x819 =>
                                  (idx (drawn lots (spl r z)) (w64 (x756 - 1))).bind fun x843 =>
                                  (idx lots x843).bind fun x850 =>
                                  if x819 <= x850 then
                                    esc (esc (some false))
                                  else
                                    some (.inl (w64 (x756 + 1)))
                                else
                                  some (.inl (w64 (x756 + 1)))
                              else
                                esc (esc (some false))) x688) fun y880 =>
                            some (.inl y880)
                          else
                            esc (some false)) 0=some (Sum.inl (β:=Bool) y):=by
  have hb:((bef z z.length:Nat):Int)=z.sum:=by
    unfold bef
    rw [nc]
    exact (wGo h1).1
  have hbn:∀ k,k <= z.length->bef z k <= 30:=fun k hk=>by have:=wLd hk;omega
  have hsl:=wFd z r
  have hgl:∀ k,k < z.length->(gd (spl r z) k).length=(gd z k).toNat:=fun k hk=>by
    rw [wNQ hk,nV,nk]
    have:=wED hk
    have:=wLd (z:=z) (k:=k + 1) (by omega)
    omega
  have hpl:∀ k,k < z.length->(pick (fun (x:Int)=>gd lots x.toNat) (gd (spl r z) k) 10000).Perm (gd (spl r z) k):=fun k hk=>wEo (gg.inn _ (wBP (by omega))) h0
  have hdl:∀ k,k <= z.length->(drawn lots ((spl r z).take k)).length=bef z k:=by
    intro k
    induction k with
    | zero=>intro _;simp [drawn,bef]
    | succ k ih =>
      intro hk
      rw [wGL (by omega),nU,ih (by omega),(hpl k (by omega)).length_eq,hgl k (by omega),wED (by omega)]
  refine ⟨((bef z z.length:Nat):Int),?_⟩
  rw [hsl]
  refine wIr (fun k=>((bef z k:Nat):Int)) (by simp [bef]) (by omega) fun k hk=>?_
  have hzk:=h1 _ (wBP hk)
  have g1:=hgl k hk
  have b1:=wED hk
  have b2:=hbn (k + 1) (by omega)
  have pp:=hpl k hk
  have po:=wEm (fun (x:Int)=>gd lots x.toNat) (gd (spl r z) k) (fun x hx y hy e=>wGp nd (gg.inn _ (wBP (by omega)) x hx) (gg.inn _ (wBP (by omega)) y hy) e) (gg.nd _ (wBP (by omega))) 10000
  have at_:∀ j,j < (gd (spl r z) k).length->gd (drawn lots (spl r z)) (bef z k + j)=gd (pick (fun (x:Int)=>gd lots x.toNat) (gd (spl r z) k) 10000) j/\bef z k + j < (drawn lots (spl r z)).length:=fun j hj=>by
    have:=wMq (lots:=lots) (G:=spl r z) (k:=k) (j:=j) (by omega) (by rw [pp.length_eq];exact hj)
    rw [hdl k (by omega)] at this
    exact this
  rw [wBn (l:=spl r z) (by omega),nA,wBn hk,nA,if_pos (by omega)]
  generalize hg:gd (spl r z) k=g at *
  generalize hp:pick (fun (x:Int)=>gd lots x.toNat) g 10000=p at *
  have hin:=gg.inn g (by rw [<- hg];exact wBP (by omega))
  have hpi:∀ j,j < g.length->gd p j ∈ g:=fun j hj=>pp.mem_iff.1 (wBP (by rw [pp.length_eq];exact hj))
  rw [wIr (fun j=>((bef z k + j:Nat):Int)) (by simp) (by omega) (fun j hj=>by
    obtain ⟨a1,a2⟩:=at_ j hj
    have m1:=hpi j hj
    have i1:=hin _ m1
    rw [wBn a2,nA,a1,wHU (by omega) m1,nA,if_pos rfl,wAc (x:=((bef z k + j:Nat):Int) + 1) (by omega) (by omega)]
    by_cases c:0 < (j:Int)
    · obtain ⟨a3,a4⟩:=at_ (j - 1) (by omega)
      have m2:=hpi (j - 1) (by omega)
      have i2:=hin _ m2
      have lt:=nT.1 po (j - 1) j (by rw [pp.length_eq];omega) (by rw [pp.length_eq];omega) (by omega)
      rw [<- wCa (by rw [pp.length_eq];omega),<- wCa (by rw [pp.length_eq];omega)] at lt
      have e1:w64 (((bef z k + j:Nat):Int) - 1)=((bef z k + (j - 1):Nat):Int):=by rw [wAc (by omega) (by omega)];omega
      have e2:idx lots (gd p j)=some (gd lots (gd p j).toNat):=by unfold idx;rw [if_pos i1.1,wBU (by omega)]
      have e3:idx lots (gd p (j - 1))=some (gd lots (gd p (j - 1)).toNat):=by unfold idx;rw [if_pos i2.1,wBU (by omega)]
      rw [if_pos c,e2,nA,e1,wBn a4,nA,a3,e3,nA,if_neg (by omega)]
      rfl
    · rw [if_neg c]
      rfl),wCd,b1,show bef z k + g.length=bef z k + (gd z k).toNat by omega]
theorem wLp {f:List wAB} {z:List Int} (G:wIM f) (hz:1 <= z.length/\z.length <= 6) (ho:z.all okG=true) (hs:z.sum=f.length):∃ r,wAr f=some r/\Rk f r/\wAj f z=some (spl r z,0):=by
 have h60:=G.l2
 obtain ⟨r,h1,h2⟩:=wLg (f:=f) (z:=z) (by omega) (by omega)
 have e:=wEB.2 G
 have e2:wPi f z=0:=by unfold wPi;rw [if_pos e,if_pos hz,if_pos ho,if_pos hs]
 rw [e2,if_pos rfl] at h2
 exact ⟨r,(h1 e).1,(h1 e).2,h2⟩
theorem wIz {f:List wAB} {z lots r:List Int} (hl:lots.length=f.length) (h60:f.length <= 60) (hg:wAj f z=some (spl r z,0)) (gg:wJc lots (spl r z)) (ho:lots.all okL=true) (nd:lots.Nodup):wBD f z lots=some (drawn lots (spl r z),0):=by
 obtain ⟨Y,hY⟩:=wLk gg (wFf ho) nd
 unfold wBD
 rw [hg,nA]
 simp only [if_true]
 rw [if_pos (show (lots.length:Int)=f.length by omega),wLc (p:=okL) (fun a=>by unfold wBH;rw [wLa];rfl) (by omega),nA,if_pos ho,wGl (by omega),nA,if_neg (by simp [nd]),hY,nA]
theorem wLq {f:List wAB} {r:List Int} (G:wIM f) (R:Rk f r):wEf 1 (↑r.length:Int) (fun k596 _ =>
                          (idx r (1 + ↑k596:Int)).bind fun x621 =>
                          (idx f x621).bind fun x630 =>
                          (idx r (w64 ((1 + ↑k596:Int) - 1))).bind fun x648 =>
                          (idx f x648).bind fun x655 =>
                          if x630.Rank <= x655.Rank then
                            esc (some false)
                          else
                            some (.inl ())) ()=some (Sum.inl (β:=Bool) ()):=by
  have h60:=G.l2
  have hl:r.length=f.length:=by rw [R.perm.length_eq];simp [wEC]
  have hin:∀ k,k < r.length->0 <= gd r k/\gd r k < f.length:=fun k hk=>wBo _ (R.perm.mem_iff.1 (wBP hk))
  have ix:∀ k,k < r.length->idx f (gd r k)=some (gd f (gd r k).toNat):=fun k hk=>by
    have:=hin k hk
    unfold idx
    rw [if_pos this.1,wBU (by omega)]
  have pw:=nT.1 R.ord
  unfold wEf
  rw [if_pos (by omega)]
  have:=wGi (body:=fun (k596:Nat) (_:Unit) =>
                          (idx r (1 + ↑k596:Int)).bind fun x621 =>
                          (idx f x621).bind fun x630 =>
                          (idx r (w64 ((1 + ↑k596:Int) - 1))).bind fun x648 =>
                          (idx f x648).bind fun x655 =>
                          if x630.Rank <= x655.Rank then
                            esc (some false)
                          else
                            some (Sum.inl (β:=Bool) ())) (fun _=>()) ((r.length:Int) - 1).toNat 0 (fun i _ hi=>by
    have hi':i + 1 < r.length:=by omega
    have e1:(1 + (i:Int))=((i + 1:Nat):Int):=by omega
    have e2:w64 (1 + (i:Int) - 1)=(i:Int):=by rw [wAc (by omega) (by omega)];omega
    have lt:=pw i (i + 1) (by omega) hi' (by omega)
    rw [<- wCa (by omega),<- wCa hi'] at lt
    rw [e2,e1,wBn hi',nA,ix _ hi',nA,wBn (by omega),nA,ix _ (by omega),nA]
    unfold rk at lt
    rw [if_neg (by omega)])
  exact this
noncomputable def wOY (x16:List wAB) (p2:Int) (l79:List Int) (x82 x83:Int) (l84:List Int):Option Bool :=
      ((wAL (⟨l79,x82,x83⟩:wAA) (↑x16.length:Int)).bind fun (x174,x175) =>
      (wCc 0 (↑x174.length:Int) (dRd p2 x174) (x175.bytes,x175.next,x175.state,[],[])).bind fun (y248,y249,y250,y251,y252) =>
      (wAj x16 l84).bind fun (x392,x393) =>
      (wBD x16 l84 y251).bind fun (x424,x425) =>
      (wBD x16 l84 y252).bind fun (x447,x448) =>
      (wBI x16).bind fun (x462,x463) =>
      if x393=0 then
        if x425=0 then
          if x448=0 then
            if x463=0 then
              if (↑x392.length:Int)=(↑l84.length:Int) then
                (wAM x424 (↑x16.length:Int)).bind fun x491 =>
                if x491=true then
                  (wAM x462 (↑x16.length:Int)).bind fun x508 =>
                  if x508=true then
                    (wAQ x424 x447).bind fun x529 =>
                    if x529=true then
                      (wAZ x392).bind fun x552 =>
                      (wAQ x552 x462).bind fun x575 =>
                      if x575=true then
                        jn (wEf 1 (↑x462.length:Int) (fun k596 _ =>
                          (idx x462 (1 + ↑k596:Int)).bind fun x621 =>
                          (idx x16 x621).bind fun x630 =>
                          (idx x462 (w64 ((1 + ↑k596:Int) - 1))).bind fun x648 =>
                          (idx x16 x648).bind fun x655 =>
                          if x630.Rank <= x655.Rank then
                            esc (some false)
                          else
                            some (.inl ())) ()) fun _ =>
                        jn (wEf 0 (↑x392.length:Int) (fun k689 x688 =>
                          (idx x392 (↑k689:Int)).bind fun x712 =>
                          (idx l84 (↑k689:Int)).bind fun x729 =>
                          if (↑x712.length:Int)=x729 then
                            jn (wEf 0 (↑x712.length:Int) (fun k757 x756 =>
                              (idx x424 x756).bind fun x785 =>
                              (wAP x712 x785).bind fun x800 =>
                              if x800=true then
                                if 0 < (↑k757:Int) then
                                  (idx y251 x785).bind fun x819 =>
                                  (idx x424 (w64 (x756 - 1))).bind fun x843 =>
                                  (idx y251 x843).bind fun x850 =>
                                  if x819 <= x850 then
                                    esc (esc (some false))
                                  else
                                    some (.inl (w64 (x756 + 1)))
                                else
                                  some (.inl (w64 (x756 + 1)))
                              else
                                esc (esc (some false))) x688) fun y880 =>
                            some (.inl y880)
                          else
                            esc (some false)) 0) fun y904 =>
                        (wBT).bind fun x916 =>
                        some x916
                      else
                        some false
                    else
                      some false
                  else
                    some false
                else
                  some false
              else
                some false
            else
              some false
          else
            some false
        else
          some false
      else
        some false)
theorem wHV (p0 p1:List Int) (p2:Int):wAk p0 p1 p2 =
 (wAu p0).bind fun x1 =>
 (wAi x1 24).bind fun (x16,x17) =>
 (wAu p1).bind fun x35 =>
 iter (fun (l79,x82,x83,l84,x88) =>
  if 0 < x88 then
   (wAD (⟨l79,x82,x83⟩:wAA) 1 x88).bind fun (x109,x110) =>
   if (↑l84.length:Int)=5 then
    (app 8 l84 [x88]).bind fun x130 =>
    some (.inl (x110.bytes,x110.next,x110.state,x130,w64 (x88 - x88)))
   else
    (app 8 l84 [x109]).bind fun x153 =>
    some (.inl (x110.bytes,x110.next,x110.state,x153,w64 (x88 - x109)))
  else
   esc (wOY x16 p2 l79 x82 x83 l84)) big (x35.bytes,x35.next,x35.state,[],(↑x16.length:Int)):=rfl
theorem wOZ {f:List wAB} {z b:List Int} {m nx st:Int} (G:wIM f) (hf:f.length <= 24) (m0:0 <= m) (m1:m <= 255) (hz:1 <= z.length/\z.length <= 6) (ho:z.all okG=true) (hs:z.sum=f.length) (n0:0 <= nx) (n1:nx <= 100):wOY f m b nx st z=some true:=by
 obtain ⟨r,hr,R,hg⟩:=wLp G hz ho hs
 have hl:r.length=f.length:=by rw [R.perm.length_eq];simp [wEC]
 unfold wOY
 obtain ⟨p,d2,e2,p0,p1,pp⟩:=wGM ⟨b,nx,st⟩ f.length n0 (by simp only;omega) (by omega)
 simp only at p1
 rw [e2,nA]
 simp only
 have hpl:p.length=f.length:=by rw [pp.length_eq];simp
 have hpr:=wLm pp
 have hpn:p.Nodup:=pp.nodup_iff.2 (nE.2 ((wFc f.length).imp fun h=>by omega))
 rw [wCY (by omega)]
 obtain ⟨⟨b2,nx2,st2,lots,more⟩,hs2,I⟩:=wDz (body:=dRd m p) (LotI p m d2.next) p.length 0 (d2.bytes,d2.next,d2.state,[],[]) ⟨p0,by simp only;omega,rfl,rfl,fun i hi=>by omega⟩ (fun i s _ hi I=>wMo (by omega) (fun x hx=>by have:=hpr x hx;omega) m0 m1 (by omega) (by omega) I)
 rw [hs2,nA]
 obtain ⟨i0,i1,hll,hml,el⟩:=I
 simp only at i0 i1 hll hml el ⊢
 rw [kJ] at hll hml el
 have hpi:∀ i,i < p.length->0 <= gd p i/\gd p i < 24:=fun i hi=>by have:=hpr _ (wBP hi);omega
 have hpd:∀ i j,i < j->j < p.length->gd p i ≠ gd p j:=fun i j hij hj e=>by
  have:=nT.1 (nE.1 hpn) i j (by omega) (by omega) hij
  rw [<- wCa (by omega),<- wCa (by omega)] at this
  exact this e
 have nd1:lots.Nodup:=by
  have:=wEn (l:=lots) (g:=id) (fun i j hij hj=>by
   have h1:=el i (by omega)
   have h2:=el j (by omega)
   have h3:=hpd i j hij (by omega)
   show gd lots i ≠ gd lots j
   omega)
  rwa [List.map_id] at this
 have nd2:more.Nodup:=by
  have:=wEn (l:=more) (g:=id) (fun i j hij hj=>by
   have h1:=el i (by omega)
   have h2:=el j (by omega)
   have h3:=hpd i j hij (by omega)
   show gd more i ≠ gd more j
   omega)
  rwa [List.map_id] at this
 have o1:lots.all okL=true:=nG.2 fun x hx=>by
  obtain ⟨i,hi,e⟩:=wIu hx
  have h1:=el i (by omega)
  have h2:=hpi i (by omega)
  unfold okL
  simp
  omega
 have o2:more.all okL=true:=nG.2 fun x hx=>by
  obtain ⟨i,hi,e⟩:=wIu hx
  have h1:=el i (by omega)
  have h2:=hpi i (by omega)
  unfold okL
  simp
  omega
 have g1:=wIy (lots:=lots) (z:=z) (r:=r) (f:=f) (by omega) (by omega) R hz.2
 have g2:=wIy (lots:=more) (z:=z) (r:=r) (f:=f) (by omega) (by omega) R hz.2
 have same:=wJe (lots:=lots) (more:=more) (m:=m) (by omega) g1 (wFf o1) (wFf o2) nd1 nd2 (fun i hi=>(el i (by omega)).2.2)
 have hfl:=wMp (r:=r) (fun n hn=>by have:=wDf ho n hn;omega) (by omega)
 have hdp:=wJd g1.inn (wFf o1)
 rw [hfl] at hdp
 have hdl:(drawn lots (spl r z)).length=f.length:=by rw [hdp.length_eq,hl]
 have hR:wBI f=some (r,0):=by
  unfold wBI
  rw [wIv (by omega),nA,if_pos (wEB.2 G),hr,nA]
 rw [hg,nA]
 simp only
 rw [wIz (by omega) (by omega) hg g1 o1 nd1,nA]
 simp only
 rw [wIz (by omega) (by omega) hg g2 o2 nd2,same,nA]
 simp only
 rw [hR,nA]
 simp only [if_true]
 rw [if_pos (by rw [wFd]),wFh (hdp.trans R.perm) (by omega),nA,if_pos rfl,wFh R.perm (by omega),nA,if_pos rfl,wNR _ (by omega),nA,if_pos rfl,wLo (by have:=g1.n;omega) g1.len,hfl,nA,wNR _ (by omega),nA,if_pos rfl,wLq G R,wCd]
 obtain ⟨y,hy⟩:=wIP (lots:=lots) (n:=f.length) (by omega) hl hz.2 (wDf ho) hs g1 (wFf o1) nd1
 rw [hy,wCd]
 rfl
structure SzI (n:Nat) (k:Nat) (s:List Int × Int × Int × List Int × Int):Prop where
 n0:0 <= s.2.1
 n1:s.2.1 <= k
 len:s.2.2.2.1.length=k
 five:0 < s.2.2.2.2->k <= 5
 left:0 <= s.2.2.2.2
 ok:s.2.2.2.1.all okG=true
 sum:s.2.2.2.1.sum + s.2.2.2.2=n
theorem wLr (p0 p1:List Int) (p2:Int) (h0:0 <= p2) (h1:p2 <= 255):wAk p0 p1 p2=some true:=by
 rw [wHV]
 unfold wAu
 rw [nA]
 obtain ⟨f,d,e,G,hf,_⟩:=wOX ⟨p0,0,17⟩ rfl (u:=24) (by omega) (by omega)
 rw [e,nA]
 simp only
 rw [nA]
 have h1':=G.l1
 refine wIK (SzI f.length) 6 ⟨by simp,by simp,rfl,fun _=>by omega,by simp,rfl,by simp⟩ (by omega) ?_
 rintro k ⟨b,nx,st,z,left⟩ hk ⟨n0,n1,hl,h5,l0,ok,hs⟩
 simp only at n0 n1 hl h5 l0 ok hs ⊢
 have hsum:=wGo (wDf ok)
 by_cases c:0 < left
 ·left
  have h5:=h5 c
  obtain ⟨x,d2,e2,q0,q1,x0,x1⟩:=wFg ⟨b,nx,st⟩ 1 left n0 (by simp only;omega) (by omega) (by omega) (by omega)
  simp only at q1
  refine ⟨by omega,?_⟩
  rw [if_pos c,e2,nA]
  simp only
  by_cases c5:(z.length:Int)=5
  ·rw [if_pos c5,wEA (by simp;omega),nA,wAc (by omega) (by omega)]
   refine ⟨_,rfl,q0,by simp only;omega,by simp [hl],fun h=>absurd h (by simp),by simp,?_,by simp;omega⟩
   simp only [List.all_append,ok,kD]
   simp [okG]
   omega
  ·rw [if_neg c5,wEA (by simp;omega),nA,wAc (by omega) (by omega)]
   refine ⟨_,rfl,q0,by simp only;omega,by simp [hl],fun _=>by omega,by simp only;omega,?_,by simp;omega⟩
   simp only [List.all_append,ok,kD]
   simp [okG]
   omega
 ·right
  have hz1:1 <= z.length:=by
   rcases Nat.eq_zero_or_pos z.length with h | h
   ·have:z=[]:=List.eq_nil_of_length_eq_zero h
    subst this
    simp at hs
    omega
   ·exact h
  rw [if_neg c,wOZ G (by omega) h0 h1 ⟨hz1,by omega⟩ ok (by omega) n0 (by omega)]
  rfl
end Go.Proofs.YtghaibkggdecnaaGreat
