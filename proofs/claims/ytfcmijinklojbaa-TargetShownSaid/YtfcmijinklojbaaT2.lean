import Derived.Test.YtfcmijinklojbaaT1
import Derived.Test.YtfcmijinklojbaaT0
set_option linter.all false
open Option renaming bind_some->hH
open Bool renaming and_eq_true->nA,false_eq_true->nD,or_eq_true->nc,not_eq_true'->nk,eq_iff_iff->kH,true_and->kh
open Nat renaming eq_of_beq_eq_true->nB,le_refl->nE,beq->nM,zero_add->nr,blt_eq->kB,le_trans->kJ,blt->kL,lt_of_lt_of_le->kP,lt_irrefl->ki,sub_self->km,zero_le->kv,ble_eq->kx
open List renaming mem_cons->nG,mem_append->nH,cons_append->nI,all_eq_true->nJ,getD_eq_getElem?_getD->nL,mem_singleton->nO,map_cons->nQ,append_of_mem->nR,nil_append->nS,pairwise_iff_getElem->nU,append_assoc->nV,length_nil->nX,pairwise_cons->nY,mem_append_right->nZ,getElem?_eq_some_iff->na,pairwise_append->nf,length_append->nh,append_nil->ni,length_singleton->nj,mem_append_left->nl,getElem?_eq_getElem->nq,length_cons->nt,length_take->nu,filter_append->nv,mem_filter->nw,mem_range->ny,length_filter_le->nz,range->kA,getElem?_append_right->kC,nodup_cons->kG,any_eq_true->kK,filter_eq_self->kO,getElem?_append_left->kR,drop_eq_getElem_cons->kS,mem_map->kV,take_length->kW,getElem?_replicate->kX,filter_cons_of_neg->kY,pairwise_singleton->kZ,filter_nil->kc,drop_eq_nil_of_le->ke,replicate->kf,mem_cons_of_mem->kg,any_cons->kk,mem_filterMap->ko
open Option.some renaming inj->nK,injEq->ku
open List.cons renaming injEq->nT
open Int renaming toNat_natCast->nW,tmod_eq_emod_of_nonneg->kD,le_refl->kE,toNat_of_nonneg->kM,add_zero->kU,le_trans->kq,emod_lt_of_pos->kr
open Classical renaming propDecidable->ng
open List.Pairwise renaming nil->kQ
namespace Go.KX
noncomputable section
open Go.RowKit Go.KL
def wCW:List AOd->List Pos
 | []=>[]
 | .t p :: l=>p :: wCW l
 | .c _ :: l=>wCW l
def wKo:AOp->Bool
 | .new _ _ | .box _ _ | .mkm | .mks _ _ _ _ _ _ | .blds _ _ _ _=>true
 | _=>false
def wCB (a:AO):List Pos:=wCW (wBS a.op) ++ (match a.grd with | some (p,_)=>[p] | none=>[])
def Sub (a:AOp) (o:Oper):Prop:=∀ t,Operand.tmp t ∈ o.op.operands->∃ p ∈ wCW (wBS a),p.nat - 1=t
def wJq (l:List Oper) (x i:Nat):Prop:=∀ S:Nat->Bool,(∀ k,k < l.length->S k=true->∀ j ∈ prI l k,S j=true)->(∀ j ∈ prI l i,S j=true)->S x=true
def wGf (acc:List Nat):List Nat->Nat
 | []=>0
 | p :: ps=>wGf acc ps ||| (2 ^ p ||| acc.getD p 0)
def wOP (acc:List Nat):List Oper->List Nat
 | []=>acc
 | o :: r=>wOP (acc ++ [wGf acc (wKJ o)]) r
theorem wHR {acc:List Nat} {x:Nat}:∀ {ps:List Nat},(wGf acc ps).testBit x=true->∃ p ∈ ps,x=p \/ (acc.getD p 0).testBit x=true
 | [],h=>by simp [wGf] at h
 | p :: ps,h=>by
  simp only [wGf,Nat.testBit_or,nc,Nat.testBit_two_pow,decide_eq_true_eq] at h
  rcases h with h | h | h
  ·obtain ⟨q,h1,h2⟩:=wHR h
   exact ⟨q,by simp [h1],h2⟩
  ·exact ⟨p,by simp,.inl h.symm⟩
  ·exact ⟨p,by simp,.inr h⟩
theorem wJM {l:List Oper} (hpr:∀ i,i < l.length->∀ j ∈ prI l i,j < i):∀ (rest done:List Oper) (acc:List Nat),l=done ++ rest->acc.length=done.length->(∀ i x,(acc.getD i 0).testBit x=true->wJq l x i) ->
  ∀ i x,((wOP acc rest).getD i 0).testBit x=true->wJq l x i
 | [],done,acc,_,_,h,i,x,hx=>h i x hx
 | o :: r,done,acc,hl,hlen,h,i,x,hx=>by
  refine wJM hpr r (done ++ [o]) (acc ++ [wGf acc (wKJ o)]) (by rw [hl];simp) (by simp [hlen]) ?_ i x hx
  intro i x hx
  rcases Nat.lt_trichotomy i acc.length with hi | hi | hi
  ·rw [nL,kR hi,<- nL] at hx
   exact h i x hx
  ·rw [nL,hi,kC (nE _),km] at hx
   have hx:(wGf acc (wKJ o)).testBit x=true:=hx
   have hlt:done.length < l.length:=by rw [hl];simp
   have hp:prI l done.length=wKJ o:=by
    unfold prI
    rw [hl,kC (nE _),km]
    rfl
   obtain ⟨p,h1,h2⟩:=wHR hx
   intro S hdc hS
   rw [hi,hlen] at hS
   have hSp:S p=true:=hS p (by rw [hp];exact h1)
   rcases h2 with rfl | h2
   ·exact hSp
   ·have:=hpr _ hlt p (by rw [hp];exact h1)
    exact h p x h2 S hdc (hdc p (by omega) hSp)
  ·rw [nL,List.getElem?_eq_none (by simp;omega)] at hx
   simp at hx
def dne (b:AO) (p:Pos):Bool:=match b.dst with
 | none=>true
 | some q=>!Pos.beq q p
def subB (a:AOp) (o:Oper):Bool:=o.op.operands.toList.all fun
 | .tmp t=>(wCW (wBS a)).any fun p=>nM p.nat (t + 1)
 | _=>true
def kdOK (a:AO):Bool:=wBr a.kd || (a.dst.isSome && (nM a.kd 1 || (nM a.kd 3 || ((nM a.kd 6 && nM (kdA a.op) 3) || ((nM a.kd 4 && wKo a.op) || (Nat.ble 8 a.kd && nM (kdA a.op) 1))))))
def zld (m kd:Nat):Nat->List AO->Bool
 | _,[]=>true
 | n,b :: d=>(!Nat.beq b.kd 0 || (m.testBit b.ix || kL (n + 8) kd)) && zld m kd (match wBr b.kd with | true=>n + 1 | false=>n) d
def zop (m:Nat) (l:List Oper) (d:List AO) (a:AO) (t:List AO):Bool :=
 (!wBr a.kd || d.all fun b=>m.testBit b.ix) &&
 ((match a.dst with | none=>true | some p=>d.all (fun b=>dne b p) && t.all (fun b=>dne b p)) &&
 ((wCB a).all (fun p=>dne a p && (t.all (fun b=>dne b p) && d.all (fun b=>dne b p || (m.testBit b.ix && (!(nM a.kd 1 || (nM a.kd 3 || Nat.ble 8 a.kd)) || !(nM b.kd 4 || nM b.kd 6)))))) &&
 ((!Nat.beq a.kd 1 || d.all fun b=>!Nat.beq b.kd 0 || m.testBit b.ix) && (!Nat.ble 8 a.kd || zld m a.kd 0 d) &&
 (t.all (fun b=>!Nat.beq b.ix a.ix) &&
 (kdOK a && (match l[a.ix]? with | none=>false | some o=>!wBX o && subB a.op o))))))
def zgo (an:List Nat) (l:List Oper) (d:List AO):List AO->Bool
 | []=>true
 | a :: t=>zop (an.getD a.ix 0) l d a t && zgo an l (a :: d) t
def wPW (a:AO):Bool:=nM a.kd 0 && (match a.op with | .mv _=>true | _=>false)
def wPX:List AO->List AO
 | []=>[]
 | a :: t=>match wPW a with
  | true=>[]
  | false=>a :: wPX t
def wNe:List AO->List AO
 | []=>[]
 | a :: t=>match wPW a with
  | true=>a :: t
  | false=>wNe t
theorem wOQ:∀ os:List AO,os=wPX os ++ wNe os
 | []=>rfl
 | a :: t=>by
  unfold wPX wNe
  cases wPW a with
  | true=>rfl
  | false=>exact congrArg (a :: ·) (wOQ t)
def ztl (an:List Nat) (l:List Oper) (os:List AO):Bool :=
 ((wNe os).all (fun a=>kL a.kd 8) && (wPX os).all fun a=>kL a.kd 8 || ((wCB a).all (fun p=>(wNe os).all fun b=>dne b p) && (match a.dst with | some p=>(wNe os).all fun b=>dne b p | none=>true))) && (zgo an l [] (wPX os) && (zgo an l [] (wNe os) && (wNe os).all fun b=>(wPX os).all fun a=>!Nat.beq a.ix b.ix && (an.getD b.ix 0).testBit a.ix))
def chkZ (l:List Oper) (os:List AO):Bool :=
 (kA l.length).all (fun i=>(prI l i).all (kL · i)) && ((kA l.length).all (fun i=>os.any fun a=>nM a.ix i) && (zgo (wOP [] l) l [] os || ztl (wOP [] l) l os))
def wNO (l:List AO):Nat:=l.countP fun b=>wBr b.kd
structure ZOK (P:Program) (N:Nat) (l:List Oper) (os:List AO):Prop where
 ao:∀ a ∈ os,wGe P N l a=true
 one:os.Pairwise fun a b=>a.ix ≠ b.ix
 pr:∀ i,i < l.length->∀ j ∈ prI l i,j < i
 anc:∀ s a t,os=s ++ a :: t->wBr a.kd=true->∀ b ∈ s,wJq l b.ix a.ix
 wr:∀ s a t,os=s ++ a :: t->∀ p,a.dst=some p->∀ b ∈ s ++ t,b.dst ≠ some p
 rd:∀ s a t,os=s ++ a :: t->∀ p ∈ wCB a,∀ b ∈ a :: t,b.dst ≠ some p
 rdS:∀ a ∈ os,∀ p ∈ wCB a,∀ b ∈ os,b.dst=some p->wJq l b.ix a.ix
 kd:∀ a ∈ os,wBr a.kd=true \/ (a.dst ≠ none/\(a.kd=1 \/ a.kd=3 \/ (a.kd=6/\kdA a.op=3) \/ (a.kd=4/\wKo a.op=true) \/ (8 <= a.kd/\kdA a.op=1)))
 cl:∀ a ∈ os,a.kd=1 \/ a.kd=3 \/ 8 <= a.kd->∀ p ∈ wCB a,∀ b ∈ os,b.dst=some p->b.kd ≠ 4/\b.kd ≠ 6
 sel:∀ a ∈ os,∀ o,l[a.ix]?=some o->wBX o=false
 sub:∀ a ∈ os,∀ o,l[a.ix]?=some o->Sub a.op o
 ld:∀ s a t,os=s ++ a :: t->a.kd=1->∀ b ∈ s,b.kd=0->wJq l b.ix a.ix
 ld8:∀ s a t,os=s ++ a :: t->8 <= a.kd->∀ s1 b s2,s=s1 ++ b :: s2->b.kd=0->wJq l b.ix a.ix \/ wNO s2 + 8 < a.kd
theorem wOR {m kd:Nat}:∀ (x:List AO) (b:AO) (y:List AO) (n:Nat),zld m kd n (x ++ b :: y)=true->b.kd=0->m.testBit b.ix=true \/ n + wNO x + 8 < kd
 | [],b,y,n,h,h0=>by
  rw [nS,zld,h0] at h
  simp only [nA,nc,kB] at h
  rcases h.1 with g | g | g
  ·exact absurd g (by decide)
  ·exact .inl g
  ·exact .inr g
 | c :: x,b,y,n,h,h0=>by
  rw [nI,zld] at h
  simp only [nA] at h
  have:=wOR x b y _ h.2 h0
  refine this.imp id fun h=>?_
  unfold wNO at h ⊢
  rw [List.countP_cons]
  cases hf:wBr c.kd <;> rw [hf] at h <;> simp only [if_true,if_false,nD] at h ⊢ <;> omega
theorem Pos.beq_self:∀ p:Pos,p.beq p=true
 | .H=>rfl
 | .O p=>Pos.beq_self p
 | .I p=>Pos.beq_self p
theorem wGg {b:AO} {p:Pos} (h:dne b p=true):b.dst ≠ some p:=by
 intro e
 unfold dne at h
 rw [e] at h
 simp [Pos.beq_self] at h
theorem wOS {an:List Nat} {l:List Oper}:∀ (os d:List AO),zgo an l d os=true->∀ s a t,os=s ++ a :: t->zop (an.getD a.ix 0) l (s.reverse ++ d) a t=true
 | [],d,_,s,a,t,e=>by simp at e
 | b :: os,d,h,[],a,t,e=>by
  simp only [nS,nT] at e
  obtain ⟨rfl,rfl⟩:=e
  simp only [zgo,nA] at h
  exact h.1
 | b :: os,d,h,c :: s,a,t,e=>by
  simp only [nI,nT] at e
  obtain ⟨rfl,rfl⟩:=e
  simp only [zgo,nA] at h
  have:=wOS (s ++ a :: t) (b :: d) h.2 s a t rfl
  simpa using this
theorem pw_of {α:Type} {R:α->α->Prop}:∀ (l:List α),(∀ s a t,l=s ++ a :: t->∀ b ∈ t,R a b)->l.Pairwise R
 | [],_=>kQ
 | a :: l,h=>nY.2 ⟨fun b hb=>h [] a l rfl b hb,pw_of l fun s b t e=>h (a :: s) b t (by rw [e];rfl)⟩
theorem wJr {P:Program} {N:Nat} {l:List Oper} {os:List AO} (hao:∀ a ∈ os,wGe P N l a=true) (hpr:∀ i,i < l.length->∀ j ∈ prI l i,j < i) (hz:zgo (wOP [] l) l [] os=true):ZOK P N l os:=by
 have han:∀ i x,((wOP [] l).getD i 0).testBit x=true->wJq l x i:=wJM hpr l [] [] rfl rfl fun i x h=>by simp at h
 have key:∀ s a t,os=s ++ a :: t->zop ((wOP [] l).getD a.ix 0) l s.reverse a t=true:=fun s a t e=>by
  have:=wOS os [] hz s a t e
  rwa [ni] at this
 have wKa:∀ s a t,os=s ++ a :: t ->
   (wBr a.kd=true->∀ b ∈ s,wJq l b.ix a.ix)/\(∀ p,a.dst=some p->∀ b ∈ s ++ t,b.dst ≠ some p) /\
   (∀ p ∈ wCB a,(∀ b ∈ a :: t,b.dst ≠ some p)/\∀ b ∈ s,b.dst=some p->wJq l b.ix a.ix/\(a.kd=1 \/ a.kd=3 \/ 8 <= a.kd->b.kd ≠ 4/\b.kd ≠ 6)) /\
   ((a.kd=1->∀ b ∈ s,b.kd=0->wJq l b.ix a.ix)/\(8 <= a.kd->∀ s1 b s2,s=s1 ++ b :: s2->b.kd=0->wJq l b.ix a.ix \/ wNO s2 + 8 < a.kd))/\(∀ b ∈ t,a.ix ≠ b.ix)/\kdOK a=true/\(∀ o,l[a.ix]?=some o->wBX o=false/\subB a.op o=true):=by
  intro s a t e
  have hk:=key s a t e
  unfold zop at hk
  simp only [nA,nJ,List.mem_reverse,nc,nk] at hk
  obtain ⟨k1,k2,k3,⟨k4,k8⟩,k5,k6,k7⟩:=hk
  refine ⟨fun hf b hb=>?_,fun p hp b hb=>?_,fun p hp=>⟨fun b hb=>?_,fun b hb hd=>?_⟩,⟨fun h1 b hb h0=>?_,fun h8 s1 b s2 es h0=>?_⟩,fun b hb he=>?_,k6,fun o ho=>?_⟩
  ·rcases k1 with k1 | k1
   ·rw [hf] at k1;cases k1
   ·exact han _ _ (k1 b hb)
  ·rw [hp] at k2
   simp only [nA,nJ,List.mem_reverse] at k2
   rcases nH.1 hb with hb | hb
   ·exact wGg (k2.1 b hb)
   ·exact wGg (k2.2 b hb)
  ·obtain ⟨g1,g2,g3⟩:=k3 p hp
   rcases nG.1 hb with rfl | hb
   ·exact wGg g1
   ·exact wGg (g2 b hb)
  ·obtain ⟨g1,g2,g3⟩:=k3 p hp
   rcases g3 b hb with g | ⟨g,g'⟩
   ·exact absurd hd (wGg g)
   ·refine ⟨han _ _ g,fun hk=>?_⟩
    rcases g' with g' | g'
    ·rcases hk with hk | hk | hk
     ·rw [hk] at g';exact absurd g' (by decide)
     ·rw [hk] at g';exact absurd g' (by decide)
     ·simp only [Bool.or_eq_false_iff] at g'
      have h8:Nat.ble 8 a.kd=true:=by rw [kx];exact hk
      rw [g'.2.2] at h8
      cases h8
    ·constructor <;> intro h4 <;> rw [h4] at g' <;> exact absurd g' (by decide)
  ·rcases k4 with k4 | k4
   ·rw [h1] at k4;exact absurd k4 (by decide)
   ·rcases k4 b hb with g | g
    ·rw [h0] at g;exact absurd g (by decide)
    ·exact han _ _ g
  ·rcases k8 with k8 | k8
   ·rw [<- Bool.not_eq_true,kx] at k8
    exact absurd h8 k8
   ·rw [es,List.reverse_append,List.reverse_cons,nV] at k8
    rcases wOR s2.reverse b (s1.reverse) 0 (by simpa using k8) h0 with g | g
    ·exact .inl (han _ _ g)
    ·refine .inr ?_
     unfold wNO at g ⊢
     rw [List.countP_reverse] at g
     omega
  ·have:=k5 b hb
   rw [he] at this
   simp at this
  ·rw [ho] at k7
   simpa using k7
 have mem:∀ a ∈ os,∃ s t,os=s ++ a :: t:=fun a ha=>nR ha
 refine ⟨hao,pw_of os fun s a t e=>(wKa s a t e).2.2.2.2.1,hpr,fun s a t e=>(wKa s a t e).1,fun s a t e=>(wKa s a t e).2.1,fun s a t e p hp=>((wKa s a t e).2.2.1 p hp).1,fun a ha p hp b hb hd=>?_,fun a ha=>?_,fun a ha hk p hp b hb hd=>?_,fun a ha o ho=>?_,fun a ha o ho=>?_,fun s a t e=>(wKa s a t e).2.2.2.1.1,fun s a t e=>(wKa s a t e).2.2.2.1.2⟩
 ·obtain ⟨s,t,e⟩:=mem a ha
  obtain ⟨g1,g2⟩:=(wKa s a t e).2.2.1 p hp
  rw [e] at hb
  rcases nH.1 hb with hb | hb
  ·exact (g2 b hb hd).1
  ·exact absurd hd (g1 b hb)
 ·obtain ⟨s,t,e⟩:=mem a ha
  have hk:=(wKa s a t e).2.2.2.2.2.1
  unfold kdOK at hk
  simp only [nc,nA] at hk
  rcases hk with hk | ⟨h1,hk⟩
  ·exact .inl hk
  ·refine .inr ⟨fun e=>(by rw [e] at h1;cases h1),?_⟩
   rcases hk with hk | hk | ⟨hk,h2⟩ | ⟨hk,h2⟩ | ⟨hk,h2⟩
   ·exact .inl (nB hk)
   ·exact .inr (.inl (nB hk))
   ·exact .inr (.inr (.inl ⟨nB hk,nB h2⟩))
   ·exact .inr (.inr (.inr (.inl ⟨nB hk,h2⟩)))
   ·exact .inr (.inr (.inr (.inr ⟨by rwa [kx] at hk,nB h2⟩)))
 ·obtain ⟨s,t,e⟩:=mem a ha
  obtain ⟨g1,g2⟩:=(wKa s a t e).2.2.1 p hp
  rw [e] at hb
  rcases nH.1 hb with hb | hb
  ·exact (g2 b hb hd).2 hk
  ·exact absurd hd (g1 b hb)
 ·obtain ⟨s,t,e⟩:=mem a ha
  exact ((wKa s a t e).2.2.2.2.2.2 o ho).1
 ·obtain ⟨s,t,e⟩:=mem a ha
  have h1:=((wKa s a t e).2.2.2.2.2.2 o ho).2
  unfold subB at h1
  rw [nJ] at h1
  intro x hx
  have:=h1 (.tmp x) (by simpa using hx)
  simp only [kK] at this
  obtain ⟨p,g1,g2⟩:=this
  exact ⟨p,g1,by rw [nB g2];rfl⟩
structure ZAll (P:Program) (N:Nat) (l:List Oper) (os A B:List AO):Prop where
 eq:os=A ++ B
 za:ZOK P N l A
 zb:ZOK P N l B
 cross:∀ b ∈ B,∀ a ∈ A,a.ix ≠ b.ix/\wJq l a.ix b.ix
 low:∀ b ∈ B,b.kd < 8
 far:∀ a ∈ A,8 <= a.kd->∀ p,p ∈ wCB a \/ a.dst=some p->∀ b ∈ B,b.dst ≠ some p
 all:∀ i,i < l.length->∃ a ∈ os,a.ix=i
theorem wMI {P:Program} {N:Nat} {l:List Oper} {os:List AO} (hao:∀ a ∈ os,wGe P N l a=true) (h:chkZ l os=true):∃ A B,ZAll P N l os A B:=by
 unfold chkZ at h
 rw [nA,nA,nc] at h
 obtain ⟨hpr0,hall0,hz⟩:=h
 simp only [nJ,ny,kB,kK] at hpr0 hall0
 have hpr:∀ i,i < l.length->∀ j ∈ prI l i,j < i:=hpr0
 have hall:∀ i,i < l.length->∃ a ∈ os,a.ix=i:=fun i hi=>by
  obtain ⟨a,h1,h2⟩:=hall0 i hi
  exact ⟨a,h1,nB h2⟩
 have han:∀ i x,((wOP [] l).getD i 0).testBit x=true->wJq l x i:=wJM hpr l [] [] rfl rfl fun i x h=>by simp at h
 rcases hz with hz | hz
 ·exact ⟨os,[],by simp,wJr hao hpr hz,wJr (fun a ha=>by simp at ha) hpr rfl,fun b hb=>by simp at hb,fun b hb=>by simp at hb,fun a _ _ p _ b hb=>by simp at hb,hall⟩
 ·unfold ztl at hz
  simp only [nA,nJ,kB,nk] at hz
  obtain ⟨⟨h1,h5⟩,h2,h3,h4⟩:=hz
  have e:=wOQ os
  refine ⟨wPX os,wNe os,e,wJr (fun a ha=>hao a (by rw [e];simp [ha])) hpr h2,wJr (fun a ha=>hao a (by rw [e];simp [ha])) hpr h3,fun b hb a ha=>⟨fun e=>?_,han _ _ (h4 b hb a ha).2⟩,h1,fun a ha h8 p hp b hb=>?_,hall⟩
  ·have:=(h4 b hb a ha).1
   rw [e] at this
   simp at this
  ·have h6:=h5 a ha
   simp only [nc,nA,nJ,kB] at h6
   rcases h6 with h6 | ⟨h6,h7⟩
   ·omega
   ·rcases hp with hp | hp
    ·exact wGg (h6 p hp b hb)
    ·rw [hp] at h7
     simp only [nJ] at h7
     exact wGg (h7 b hb)
theorem wHo {tb:Tr AF} {ex exY:Run} {σf:Tr AV} {h:AH}:∀ (x y:List AO) (n:Nat),wIj tb ex exY σf h n (x ++ y)=true->wIj tb ex exY σf h n x=true
 | [],_,_,_=>rfl
 | a :: x,y,n,hl=>by
  rw [nI,wED] at hl
  rw [wED]
  cases hf:wBr a.kd with
  | true =>
   rw [hf] at hl
   exact wHo x y _ hl
  | false =>
   rw [hf] at hl
   simp only [nA] at hl ⊢
   exact ⟨hl.1,wHo x y _ hl.2⟩
theorem wJN {tb:Tr AF} {ex exY:Run} {σf:Tr AV} {h:AH}:∀ (x:List AO) (a:AO) (y:List AO) (n:Nat),wIj tb ex exY σf h n (x ++ a :: y)=true->wBr a.kd=false->n + wNO x + 8 < a.kd->wHL tb ex exY σf h a=true
 | [],a,y,n,hl,hf,hn=>by
  rw [nS,wED,hf] at hl
  simp only [nA] at hl
  have hb:kL (n + 8) a.kd=true:=by rw [kB];exact hn
  rw [hb] at hl
  exact hl.1
 | c :: x,a,y,n,hl,hf,hn=>by
  rw [nI,wED] at hl
  unfold wNO at hn
  rw [List.countP_cons] at hn
  cases hc:wBr c.kd with
  | true =>
   rw [hc] at hl hn
   exact wJN x a y _ hl hf (by unfold wNO;simp only [if_true] at hn;omega)
  | false =>
   rw [hc] at hl hn
   simp only [nA] at hl
   exact wJN x a y _ hl.2 hf (by unfold wNO;simp only [if_false,nD] at hn;omega)
def LCK (tb:Tr AF) (ex exY:Run) (os:List AO) (σ0:Tr AV) (h0:AH) (σf:Tr AV):Prop :=
 ∀ s b t,os=s ++ b :: t->b.kd=0->∀ σ1 h1,wAZ tb ex exY s σ0 h0=some (σ1,h1)->wIj tb ex exY σf h1 0 t=true
theorem wJO {tb:Tr AF} {ex exY:Run}:∀ (os:List AO) (σ:Tr AV) (h:AH) (r:Tr AV × AH),wLY tb ex exY os σ h=some r->wAZ tb ex exY os σ h=some r/\LCK tb ex exY os σ h r.1
 | [],σ,h,r,hr=>by
  rw [wNW] at hr
  exact ⟨by rw [wAo];exact hr,fun s b t e=>by simp at e⟩
 | o :: os,σ,h,r,hr=>by
  rw [wLZ] at hr
  split at hr
  ·cases hr
  ·rename_i q hq
   split at hr
   ·cases hr
   ·rename_i r' hr'
    have e:r'=r:=by
     split at hr
     ·split at hr
      ·cases hr;rfl
      ·cases hr
     ·cases hr;rfl
    subst e
    obtain ⟨g1,g2⟩:=wJO os _ _ _ hr'
    have g0:∀ s,wAZ tb ex exY (o :: s) σ h=wAZ tb ex exY s q.1 q.2:=by
     intro s
     rw [wAq]
     unfold wOt at hq
     cases hw:wCa σ o.grd with
     | true =>
      rw [hw] at hq
      simp only at hq ⊢
      split at hq
      ·rename_i y hy
       cases hq
       rfl
      ·cases hq
     | false =>
      rw [hw] at hq
      cases hq
      rfl
    refine ⟨by rw [g0];exact g1,fun s b t e h0 σ1 h1 hs=>?_⟩
    cases s with
    | nil =>
     simp only [nS,nT] at e
     obtain ⟨rfl,rfl⟩:=e
     rw [wAo] at hs
     cases hs
     have hb:nM o.kd 0=true:=by rw [h0];rfl
     rw [hb] at hr
     simp only at hr
     split at hr
     ·assumption
     ·cases hr
    | cons c s =>
     simp only [nI,nT] at e
     obtain ⟨rfl,rfl⟩:=e
     rw [g0] at hs
     exact g2 s b t rfl h0 σ1 h1 hs
theorem wJs {tb:Tr AF} {ex exY:Run} {os:List AO} {σ:Tr AV} {h:AH} {σf:Tr AV} (hk:∀ a ∈ os,a.kd < 8):LCK tb ex exY os σ h σf:=by
 intro s b t e _ σ1 h1 _
 have:∀ (l:List AO) (n:Nat),(∀ a ∈ l,a.kd < 8)->wIj tb ex exY σf h1 n l=true:=by
  intro l
  induction l with
  | nil=>intro n _;rfl
  | cons a l ih =>
   intro n hl
   rw [wED]
   have ha:=hl a (by simp)
   have hb:kL (n + 8) a.kd=false:=by rw [<- Bool.not_eq_true,kB];omega
   cases wBr a.kd with
   | true=>exact ih _ fun b hb=>hl b (by simp [hb])
   | false =>
    simp only [hb,kh]
    exact ih _ fun b hb=>hl b (by simp [hb])
 exact this t 0 fun a ha=>hk a (by rw [e];simp [ha])
end
end Go.KX
namespace Go.KX
noncomputable section
open Go.RowKit Go.KL
def kdAt (i:Nat):List AO->Nat
 | []=>0
 | a :: os=>match nM a.ix i with
  | true=>a.kd
  | false=>kdAt i os
def lazyA (os:List AO):Bool:=os.any fun a=>kL 3 a.kd
def chkR (P:Program) (N:Nat) (os:List AO) (l:List Oper) (draw:Bool):Bool :=
 let ks:=(kA l.length).map fun i=>kdAt i os
 os.all (fun a=>wGe P N l a && nM (kOf ks a.ix) a.kd) && (match draw with
  | true=>(match lazyA os with
   | true=>os.all (fun a=>kL a.kd 8) && chkZ l os
   | false=>wKt l ks (wIY os))
  | false=>inOrder 0 (wIY os) l.length)
def wKc (N:Nat):List Pos->List Nat->Bool
 | [],[]=>true
 | t :: ts,p :: ps=>(nM t.nat (p + 1) && kL p N) && wKc N ts ps
 | _,_=>false
theorem wJt {N:Nat}:∀ {ts:List Pos} {ps:List Nat},wKc N ts ps=true->ts.map Pos.nat=ps.map (· + 1)/\∀ x ∈ ps,x < N
 | [],[],_=>by simp
 | t :: ts,p :: ps,h=>by
  simp only [wKc,nA,kB] at h
  obtain ⟨⟨h1,h2⟩,h3⟩:=h
  obtain ⟨h4,h5⟩:=wJt h3
  refine ⟨by simp [h4,nB h1],?_⟩
  intro x hx
  rcases nG.1 hx with rfl | hx
  ·exact h2
  ·exact h5 x hx
 | [],_ :: _,h=>by simp [wKc] at h
 | _ :: _,[],h=>by simp [wKc] at h
theorem wJu {μ:Mu}:∀ {ts:List Pos} {ns:List Nat} {σA σB:Tr AV} {σ:Env} {as:List AV} {vs:List Value},wOs σA ts as=some σB->ts.map Pos.nat=ns.map (· + 1)->RvL μ as vs->EnvR μ σA σ->EnvR μ σB (wLc σ ns vs)/\ns.length=vs.length
 | [],ns,σA,σB,σ,as,vs,hs,hn,hv,hE=>by
  cases ns with
  | cons _ _=>simp at hn
  | nil =>
   cases as with
   | cons _ _=>simp [wOs] at hs
   | nil=>cases hv;simp only [wOs,ku] at hs;subst hs;exact ⟨hE,rfl⟩
 | t :: ts,ns,σA,σB,σ,as,vs,hs,hn,hv,hE=>by
  cases ns with
  | nil=>simp at hn
  | cons n ns =>
   cases as with
   | nil=>simp [wOs] at hs
   | cons a as =>
    obtain ⟨v,ws,h1,h2,rfl⟩:=hv
    simp only [nQ,nT] at hn
    have hp:=hE.put (p:=t) h1
    have e:t.nat - 1=n:=by omega
    rw [e] at hp
    obtain ⟨g1,g2⟩:=wJu (ts:=ts) (ns:=ns) (σA:=σA.set t a) (σ:=upd σ n v) (by simpa [wOs] using hs) hn.2 h2 hp
    exact ⟨g1,by simp [g2]⟩
def wFJ (P:Program) (N:Nat):AC->Code->Bool
 | .skip,.skip=>true
 | .skip,.label _=>true
 | .rg os,.region _ ops draw=>chkR P N os ops.toList draw
 | .rl os,.region _ ops draw=>draw && (os.all (fun a=>wGe P N ops.toList a) && chkZ ops.toList os)
 | .seq a b,.seq c d=>wFJ P N a c && wFJ P N b d
 | .cond x a b,.cond y c d=>wBn x y && (wFJ P N a c && wFJ P N b d)
 | .block i a,.block j c=>nM i j && wFJ P N a c
 | .loop a,.loop c=>wFJ P N a c
 | .scope a,.scope c=>wFJ P N a c
 | .rf g t asg body,.rangeFunc g' ps asg' body'=>wBn g g' && (wKc N t ps.toList && (wFJ P N asg asg' && wFJ P N body body'))
 | .exit i,.exit j=>nM i j
 | .ret,.ret=>true
 | _,_=>false
def CC (P:Program):Chk:=fun a c N=>wFJ P N a c=true
section
variable {P:Program} {tb:Tr AF} {μ μ' μ'':Mu} {w w' w'':World} {h h' h'':AH} {σ:Env} {σA:Tr AV}
def Mk (μ:Mu) (w:World) (n0:Nat) (D:List Deferred):Prop:=∃ rbs:List Nat,D=rbs.map mark/\rbs.Nodup/\∀ rb ∈ rbs,Dfr w rb/\n0 <= rb/\∀ p c,μ p=some c->c.1 ≠ rb
theorem Mk.nil (μ:Mu) (w:World) (n0:Nat):Mk μ w n0 []:=⟨[],rfl,by simp,by simp⟩
theorem Mk.ext {n0 fl:Nat} {D:List Deferred} (M:Mk μ w n0 D) (E:Ext μ fl w μ' w'):Mk μ' w' n0 D:=by
 obtain ⟨rbs,h1,h2,h3⟩:=M
 refine ⟨rbs,h1,h2,fun rb hrb=>?_⟩
 obtain ⟨g1,g2,g3⟩:=h3 rb hrb
 refine ⟨g1.keep E.keep fun ⟨p,d,q1,q2,_⟩=>g3 p d q1 q2,g2,fun p c hp=>?_⟩
 rcases E.new p c hp with q | ⟨p',d,q1,q2,_⟩ | q
 ·exact g3 p c q
 ·rw [<- q2];exact g3 p' d q1
 ·have:=g1.lt;omega
def PostX (P:Program) (μ:Mu) (fl:Pos) (w:World) (n0:Nat) (rr:Option Nat) (D:List Deferred) (e:Ex) (σA':Tr AV) (h':AH):wCp:=fun D' e' σ' w' =>
 e'=exC e/\∃ μ',Ext μ fl.nat w μ' w'/\Sim (CC P) P μ' h' w'/\EnvR μ' σA' σ'/\Mk μ' w' n0 D'/\h'.fl=fl/\(rr.isSome=true->D'=D)
def wIa (P:Program) (ex:Run) (r:Bool):Prop:=∀ c σA h e σA' h',ex c σA h=some (e,σA',h')->∀ code N,wFJ P N c code=true->∀ (rr:Option Nat) (μ:Mu) (σ:Env) (w:World) (D:List Deferred) (n0:Nat),
 rr.isSome=r->Sim (CC P) P μ h w->EnvR μ σA σ->Mk μ w n0 D->n0 <= w.heap.size->CK rr N P code (PostX P μ h.fl w n0 rr D e σA' h') D σ w
def wMJ (P:Program) (ex:Run) (r:Bool) (m:Nat):Prop:=∀ c σA h e σA' h',ex (.loop c) σA h=some (e,σA',h')->∀ code N,wFJ P N c code=true->∀ (rr:Option Nat) (μ:Mu) (σ:Env) (w:World) (D:List Deferred) (n0:Nat),
 rr.isSome=r->Sim (CC P) P μ h w->EnvR μ σA σ->Mk μ w n0 D->n0 <= w.heap.size->∀ a,Rep N D a σ->Code.roundsIn (WF rr) 0 P code (wGx N (PostX P μ h.fl w n0 rr D e σA' h')) m a w
theorem PostX.trans {fl:Pos} {n0:Nat} {rr:Option Nat} {D D1 D':List Deferred} {e:Ex} {e':Exit} {σA':Tr AV} {σ':Env} (E:Ext μ fl.nat w μ' w') (hD:rr.isSome=true->D1=D) (hP:PostX P μ' fl w' n0 rr D1 e σA' h' D' e' σ' w''):PostX P μ fl w n0 rr D e σA' h' D' e' σ' w'':=by
 obtain ⟨h1,μ2,h2,h3,h4,h5,h6,h7⟩:=hP
 exact ⟨h1,μ2,E.trans h2,h3,h4,h5,h6,fun hr=>(h7 hr).trans (hD hr)⟩
theorem wGh {F:Fence} {n:Nat} {c:Code} {Q Q':Exit->Act->World->Prop} (hQ:∀ e a w,Q e a w->Q' e a w):∀ (m:Nat) (a:Act) (w:World),Code.roundsIn F n P c Q m a w->Code.roundsIn F n P c Q' m a w
 | 0,_,_,h=>h.elim
 | m + 1,a,w,h=>by
  rw [roundsIn_succ] at h ⊢
  refine wpIn_mono h fun e a w q=>?_
  cases e with
  | normal=>exact wGh hQ m a w q
  | _=>exact hQ _ _ _ q
theorem Ext.drew (μ:Mu) (fl:Nat) (w:World):Ext μ fl w μ { w with drawn:=w.drawn + 1 }:=⟨Mu.Le.refl μ,fun _ _ h=>.inl h,(Keep.drew w).weak fun _ _ h=>h.elim⟩
theorem Sim.keepX {C:Chk} {X:Nat->Prop} (S:Sim C P μ h w) (K:Keep w w' X) (hX:∀ p c,μ p=some c->¬ X c.1):Sim C P μ h w' :=
 ⟨S.nx,fun p c hp=>kP (S.lt p c hp) K.size,S.inj,fun p b hb=>let ⟨c,h1,h2⟩:=S.at_ p b hb;⟨c,h1,h2.keep K (hX p c h1)⟩⟩
def wDs (P:Program):List AR->List ResultVar->Bool
 | [],[]=>true
 | .t p :: l,.tmp t :: k=>nM p.nat (t + 1) && wDs P l k
 | .c p n :: l,.cell a t :: k=>nM p.nat (a + 1) && ((match n with | none=>wNZ P t false | some n=>wNZ P t true && szT P t n) && wDs P l k)
 | _,_=>false
def chkF (P:Program) (k:Nat) (af:AF):Bool:=match P.funcs[k]? with
 | none=>false
 | some fn=>match fn.body with
  | none=>false
  | some c => nM fn.ntmps af.n && (wDs P af.res fn.results.toList && (!(fn.name == "runtime.NumGoroutine") && wFJ P fn.ntmps af.body c))
theorem wJP {C:Chk} (hE:EnvR μ σA σ) (S:Sim C P μ h w):∀ {l:List AR} {k:List ResultVar} {vs:List AV},wDs P l k=true->wQF σA h l=some vs->∃ VS,RvL μ vs VS/\wQD P w σ k VS
 | [],[],vs,_,hr=>by simp only [wQF] at hr;cases hr;exact ⟨[],rfl,trivial⟩
 | .t p :: l,.tmp t :: k,vs,hc,hr=>by
  simp only [wDs,nA] at hc
  simp only [wQF,res1] at hr
  split at hr
  ·rename_i vs' hvs
   cases hr
   obtain ⟨VS,g1,g2⟩:=wJP hE S hc.2 hvs
   have e:=nB hc.1
   have g:=hE p
   rw [e] at g
   exact ⟨_,wBM g g1,rfl,g2⟩
  ·cases hr
 | .c p n :: l,.cell a t :: k,vs,hc,hr=>by
  simp only [wDs,nA] at hc
  obtain ⟨c1,c2,c3⟩:=hc
  have e:=nB c1
  have g:=hE p
  rw [e] at g
  rw [wQF] at hr
  split at hr
  ·rename_i v hv
   split at hr
   ·rename_i vs' hvs
    cases hr
    obtain ⟨VS,g1,g2⟩:=wJP hE S c3 hvs
    simp only [res1] at hv
    split at hv
    ·rename_i b off hb
     split at hv
     ·rename_i cl hcl
      obtain ⟨c,ws,q1,q2,q3⟩:=wEO hcl S
      rw [hb] at g
      obtain ⟨c',k1,k2⟩:=g
      rw [q1] at k1;cases k1
      have k2:σ a=.pointer (some ⟨c.1,off,none⟩):=k2
      split at hv
      ·rw [wFm] at hv
       obtain ⟨cv,r1,r2⟩:=wEi q2 hv
       refine ⟨_,wBM r2 g1,⟨_,k2,?_⟩,g2⟩
       simp [loadVar,wEF c2,load,Sem.run,q3 w (Keep.refl w _) _ _ r1]
      ·rename_i n
       simp only [nA] at c2
       obtain ⟨r,hr3,rfl⟩:=wDF hv
       obtain ⟨r1,r2⟩:=wEj hr3 q2
       refine ⟨_,wBM ⟨_,r1,rfl⟩ g1,⟨_,k2,?_⟩,g2⟩
       have:=KL.run_loadCells (P:=P) (w:=w) (b:=c.1) (off:=off) (n:=n) ((ws.drop off).take n) (by simp;omega) fun j u hu=>q3 w (Keep.refl w _) _ _ (wFC rfl j u hu)
       simp [loadVar,wEF c2.1,wDO c2.2,this]
     ·cases hv
    ·cases hv
   ·cases hr
  ·cases hr
 | [],_ :: _,_,hc,_=>by simp [wDs] at hc
 | .t _ :: _,[],_,hc,_=>by simp [wDs] at hc
 | .c _ _ :: _,[],_,hc,_=>by simp [wDs] at hc
 | .t _ :: _,.cell _ _ :: _,_,hc,_=>by simp [wDs] at hc
 | .c _ _ :: _,.tmp _ :: _,_,hc,_=>by simp [wDs] at hc
theorem wPY {C:Chk} {l:List AR} {rs:Array ResultVar} {v:AV} (hE:EnvR μ σA σ) (S:Sim C P μ h w) (hc:wDs P l rs.toList=true) (hr:wOr σA h l=some (v,h')):h'=h/\∃ cv,Rv μ v cv/\(wCI rs σ).run P w=.ok cv w:=by
 unfold wOr at hr
 split at hr
 ·rename_i vs hvs
  cases hr
  refine ⟨rfl,?_⟩
  obtain ⟨VS,g1,g2⟩:=wJP hE S hc hvs
  have hrs:rs=rs.toList.toArray:=by simp
  unfold tupA
  split
  ·rename_i v
   obtain ⟨cv,ws,q1,q2,q3⟩:=g1
   cases q2
   subst q3
   refine ⟨cv,q1,?_⟩
   have hl:∃ r,rs=#[r]:=by
    cases hq:rs.toList with
    | nil=>rw [hq] at g2;exact g2.elim
    | cons r k =>
     cases k with
     | nil=>exact ⟨r,Array.ext' (by simpa using hq)⟩
     | cons r' k=>rw [hq] at g2;cases r <;> cases r' <;> exact g2.2.elim
   obtain ⟨r,rfl⟩:=hl
   exact wKL g2
  ·rename_i hne
   refine ⟨_,⟨VS,g1,rfl⟩,?_⟩
   rw [hrs]
   refine wEg g2 ?_
   have hl:=wCh g1
   cases hb:VS.length == 1 with
   | false=>rfl
   | true =>
    have:vs.length=1:=by rw [<- hl];exact eq_of_beq hb
    obtain ⟨v,hv⟩:=List.length_eq_one_iff.1 this
    exact absurd hv (hne v)
 ·cases hr
def wKd (P:Program) (tb:Tr AF):Prop:=∀ p af,tb.get p=some af->chkF P (p.nat - 1) af=true
theorem wMK (T:wKd P tb) {ex:Run} (HE:wIa P ex false):wFn (CC P) P tb ex:=by
 intro f args h v h' hr
 unfold wIO at hr
 split at hr
 ·rename_i af haf
  have hcf:=T f af haf
  unfold chkF at hcf
  split at hcf
  ·cases hcf
  ·rename_i fn hfn
   split at hcf
   ·cases hcf
   ·rename_i c hbody
    simp only [nA,nk] at hcf
    obtain ⟨c1,c2,c3,c4⟩:=hcf
    refine ⟨fun a w=>?_,fun μ w vs S hv=>?_⟩
    ·have c3' : ¬ fn.name = "runtime.NumGoroutine" := by simpa using c3
     simp [callFunc,program,Sem.run,hfn,hbody,c3']
    ·split at hr
     ·rename_i hle
      have hle:=Nat.le_of_ble_eq_true hle
      have e1:=nB c1
      have key:∀ e σA' h1,ex af.body (wLV args .H .e) h=some (e,σA',h1)->(e=.nrm \/ e=.ret)->wOr σA' h1 af.res=some (v,h')->Gv P (f.nat - 1) vs w fun cv w'=>∃ μ',Ext μ h.fl.nat w μ' w'/\Sim (CC P) P μ' h' w'/\Rv μ' v cv/\h'.fl=h.fl:=by
       intro e σA' h1 hx he hres
       refine Gv.ofM hfn hbody rfl rfl (by rw [wCh hv,<- wEE,e1];exact hle) ?_
       refine (HE _ _ _ _ _ _ hx c fn.ntmps c4 none μ (wOC vs) w [] w.heap.size rfl S (wOv hv) (Mk.nil μ w _) (nE _)).mono ?_
       rintro D' e' σ' w' ⟨rfl,μ',q1,q2,q3,q4,q5,_⟩
       obtain ⟨rbs,m1,m2,m3⟩:=q4
       have fin:∃ rbs:List Nat,D'=rbs.map mark/\rbs.Nodup/\(∀ rb ∈ rbs,Dfr w' rb)/\∀ w2,Keep w' w2 (· ∈ rbs)->w2.heap.size=w'.heap.size->∃ cv,(wCI fn.results σ').run P w2=.ok cv w2/\∃ μ',Ext μ h.fl.nat w μ' w2/\Sim (CC P) P μ' h' w2/\Rv μ' v cv/\h'.fl=h.fl:=by
        refine ⟨rbs,m1,m2,fun rb hrb=>(m3 rb hrb).1,fun w2 K hs=>?_⟩
        have S2:=q2.keepX K fun p c hp hm=>(m3 _ hm).2.2 p c hp rfl
        obtain ⟨rfl,cv,r1,r2⟩:=wPY q3 S2 c2 hres
        refine ⟨cv,r2,μ',⟨q1.mono,q1.new,?_⟩,S2,r1,q5⟩
        exact q1.keep.step K fun i hi hm=>absurd (m3 i hm).2.1 (Nat.not_le.2 hi)
       rcases he with rfl | rfl
       ·exact fin
       ·exact fin
      split at hr
      ·exact key _ _ _ (by assumption) (.inl rfl) hr
      ·exact key _ _ _ (by assumption) (.inr rfl) hr
      ·cases hr
     ·cases hr
 ·cases hr
theorem wNf {ex:Run} (HE:wIa P ex true):wEn (CC P) P ex:=by
 intro b args h v h' hr
 unfold wIP at hr
 split at hr
 ·rename_i σA t asg body hB
  intro μ w xv c S hx hc
  split at hr <;> first | (cases hr;done) | skip
  rename_i σS hset
  split at hr <;> first | (cases hr;done) | skip
  rename_i σ1 h1 hasg
  split at hr <;> first | (cases hr;done) | skip
  rename_i σx tx ax bx hB1
  split at hr <;> first | (cases hr;done) | skip
  rename_i h2 hput2
  split at hr <;> first | (cases hr;done) | skip
  rename_i e σ3 h3 hbody
  split at hr <;> first | (cases hr;done) | skip
  rename_i σy ty ay by_ hB3
  split at hr <;> first | (cases hr;done) | skip
  rename_i h4 hput4
  cases hr
  obtain ⟨c',g1,g2⟩:=S.at_ b _ hB
  rw [hc] at g1;cases g1
  have L:wKV (CC P) μ w c σA t asg body .ready:=g2
  obtain ⟨hSE,hSl⟩:=wJu hset L.ht hx L.env
  refine Yd.of L.at_ L.tN hSl fun σ0 hσ0=>?_
  have hE0:EnvR μ σS σ0:=by
   intro p
   rw [hσ0];exact hSE p
  refine (HE _ _ _ _ _ _ hasg c.g.ac c.g.N L.asg (some c.1) μ σ0 w [] 0 rfl S hE0 (Mk.nil μ w _) (kv _)).mono ?_
  rintro D' e' σ' w1 ⟨rfl,μ1,q1,q2,q3,q4,q5,q6⟩
  have hc1:=q1.mono b c hc
  obtain ⟨c',r1,r2⟩:=q2.at_ b _ hB1
  rw [hc1] at r1;cases r1
  have L1:wKV (CC P) μ1 w1 c σx tx ax bx .ready:=r2
  refine ⟨rfl,q6 rfl,L1.at_,fun w2 hl2 K hs=>?_⟩
  obtain ⟨s1,s2,s3⟩:=q2.put hput2 hB1 trivial hc1 K (B':=.loop σA t asg body .busy) ⟨hl2,L.env.mono q1.mono,L.ht,L.tN,L.asg,L.body⟩
  rw [q5] at s2 s3
  refine (HE _ _ _ _ _ _ hbody c.g.bc c.g.N L.body (some c.1) μ1 σ' w2 [] 0 rfl s1 q3 (Mk.nil μ1 w2 _) (kv _)).mono ?_
  rintro D'' e'' σ'' w3 ⟨rfl,μ3,t1,t2,t3,t4,t5,t6⟩
  rw [s3] at t1 t5
  have hc3:=t1.mono b c hc1
  obtain ⟨c',u1,u2⟩:=t2.at_ b _ hB3
  rw [hc3] at u1;cases u1
  have L3:wKV (CC P) μ3 w3 c σy ty ay by_ .busy:=u2
  have fin:∀ w4,LoopAt w4 c.1 c.g.N c.g.σ c.g.t c.g.ac c.g.bc c.g.rb c.g.fn (lsC e.done).1 (lsC e.done).2->Keep w3 w4 (·=c.1)->∃ μ',Ext μ h.fl.nat w μ' w4/\Sim (CC P) P μ' h' w4/\AV.bool e.go=.bool e.go/\h'.fl=h.fl:=by
   intro w4 hl4 K4
   obtain ⟨v1,v2,v3⟩:=t2.put hput4 hB3 trivial hc3 K4 (B':=.loop σA t asg body e.done) ⟨hl4,(L.env.mono q1.mono).mono t1.mono,L.ht,L.tN,L.asg,L.body⟩
   rw [t5] at v2 v3
   exact ⟨μ3,(q1.trans s2).trans (t1.trans v2),v1,rfl,v3⟩
  cases e with
  | nrm=>exact ⟨L3.at_,fun w4 hl K4 _=>fin w4 hl K4⟩
  | ret=>exact ⟨L3.at_,fun w4 hl K4 _=>fin w4 hl K4⟩
  | exit i=>exact ⟨L3.at_,fun w4 hl K4 _=>fin w4 hl K4⟩
 ·cases hr
end
end
end Go.KX
namespace Go.KX
open Go.RowKit Go.KL
theorem wJQ (b:AC) (exR:Run) (e:Ex) (σ:Tr AV) (h:AH):seqK b exR (e,σ,h)=(match e with | .nrm=>exR b σ h | e=>some (e,σ,h)):=by cases e <;> rfl
theorem wQI {x:R} {k:Ex × Tr AV × AH->R} {r:Ex × Tr AV × AH} (hr:Option.rec (motive:=fun _=>R) none k x=some r):∃ y,x=some y/\k y=some r:=by
 cases x with
 | none=>cases hr
 | some y=>exact ⟨y,rfl,hr⟩
structure Fr (h h':AH):Prop where
 nx:h.nx.nat <= h'.nx.nat
 fl:h'.fl=h.fl
 get:∀ p,p.nat < h.fl.nat->p.nat < h.nx.nat->h'.m.get p=h.m.get p
theorem Fr.refl (h:AH):Fr h h:=⟨nE _,rfl,fun _ _ _=>rfl⟩
theorem Fr.trans {a b c:AH} (h:Fr a b) (k:Fr b c):Fr a c :=
 ⟨kJ h.nx k.nx,k.fl.trans h.fl,fun p h1 h2=>(k.get p (by rw [h.fl];exact h1) (kP h2 h.nx)).trans (h.get p h1 h2)⟩
theorem Fr.push (h:AH) (B:AB):Fr h (h.push B):=by
 refine ⟨?_,rfl,fun p _ h2=>?_⟩
 ·show h.nx.nat <= h.nx.succ.nat
  rw [Pos.nat_succ];omega
 ·show (h.m.set h.nx B).get p=_
  rw [Tr.get_set,if_neg (fun e=>by subst e;omega)]
theorem Fr.put {h h':AH} {p:Pos} {B:AB} (hp:h.put p B=some h'):Fr h h':=by
 obtain ⟨h1,rfl⟩:=wHk hp
 refine ⟨nE _,rfl,fun q h2 _=>?_⟩
 show (h.m.set p B).get q=_
 rw [Tr.get_set,if_neg (fun e=>by subst e;omega)]
theorem Fr.setAt {h h':AH} {b:Pos} {off:Nat} {vs:List AV} (hs:KX.setAt h b off vs=some h'):Fr h h':=by
 unfold KX.setAt at hs
 split at hs
 ·split at hs
  ·exact Fr.put hs
  ·cases hs
 ·split at hs
  ·exact Fr.put hs
  ·cases hs
 ·cases hs
theorem wPZ {h h':AH} {o:Option AV} {v:AV} (hr:okV h o=some (v,h')):h'=h:=by
 cases o with
 | none=>cases hr
 | some x=>cases hr;rfl
theorem wHB {α:Type} {b:Bool} {x:Option α} {y:α} (hr:ifO b x=some y):x=some y:=by
 cases b with
 | true=>exact hr
 | false=>cases hr
section
variable {tb:Tr AF} {ex exY:Run} {σ:Tr AV} {h h':AH} {v:AV}
theorem wQz {T sz by_ m:Nat} {news:List AV} {x:AV} (hr:app h T sz by_ m news x=some (v,h')):Fr h h':=by
 unfold app at hr
 split at hr
 ·split at hr <;> first | (cases hr;exact Fr.refl _) | (cases hr;done)
 ·split at hr
  ·have hr:=wHB hr;cases hr;exact Fr.push _ _
  ·split at hr
   ·split at hr
    ·rename_i hs;cases hr;exact Fr.setAt hs
    ·cases hr
   ·have hr:=wHB hr
    split at hr
    ·cases hr;exact Fr.push _ _
    ·cases hr
  ·split at hr
   ·split at hr
    ·split at hr
     ·rename_i hs;cases hr;exact Fr.setAt hs
     ·cases hr
    ·have hr:=wHB hr
     split at hr
     ·rename_i hs;cases hr;exact (Fr.put hs).trans (Fr.push _ _)
     ·cases hr
   ·cases hr
  ·cases hr
theorem wOT {z:List AV} {b:Pos} {off n:Nat} (hr:clr h z b off n=some (v,h')):Fr h h':=by
 unfold clr at hr
 split at hr
 ·cases hr;exact Fr.refl _
 ·have hr:=wHB hr
  split at hr
  ·rename_i hs;cases hr;exact Fr.setAt hs
  ·cases hr
def FrX (ex:Run):Prop:=∀ c σ h e σ' h',ex c σ h=some (e,σ',h')->Fr h h'
theorem wOU {l:List AR} (hr:wOr σ h l=some (v,h')):Fr h h':=by
 unfold wOr at hr
 split at hr
 ·cases hr;exact Fr.refl _
 ·cases hr
theorem wML (HE:FrX ex) {f:Pos} {args:List AV} (hr:wIO tb ex f args h=some (v,h')):Fr h h':=by
 unfold wIO at hr
 split at hr
 ·split at hr
  ·split at hr
   ·rename_i h1;exact (HE _ _ _ _ _ _ h1).trans (wOU hr)
   ·rename_i h1;exact (HE _ _ _ _ _ _ h1).trans (wOU hr)
   ·cases hr
  ·cases hr
 ·cases hr
theorem wNg (HY:FrX ex) {b:Pos} {args:List AV} (hr:wIP ex b args h=some (v,h')):Fr h h':=by
 unfold wIP at hr
 split at hr
 ·split at hr
  ·cases hr
  ·split at hr
   ·rename_i h1
    split at hr
    ·split at hr
     ·rename_i h2
      split at hr
      ·rename_i h3
       split at hr
       ·split at hr
        ·rename_i h4
         cases hr
         exact (HY _ _ _ _ _ _ h1).trans ((Fr.put h2).trans ((HY _ _ _ _ _ _ h3).trans (Fr.put h4)))
        ·cases hr
       ·cases hr
      ·cases hr
     ·cases hr
    ·cases hr
   ·cases hr
 ·cases hr
theorem wMM (HE:FrX ex) (HY:FrX exY) (op:AOp) (hr:opY op tb ex exY σ h=some (v,h')):Fr h h':=by
  cases op with
  | call x l =>
    have hr:wFl x l tb ex exY σ h=some (v,h'):=hr
    unfold wFl at hr
    split at hr
    · exact wML HE hr
    · exact wNg HY hr
    · cases hr
  | new T z=>cases hr;exact Fr.push _ _
  | box T x=>cases hr;exact Fr.push _ _
  | mkm=>cases hr;exact Fr.push _ _
  | mks T sz b z x y =>
    have hr:wGQ T sz b z x y σ h=some (v,h'):=hr
    unfold wGQ at hr
    split at hr
    · have hr:=wHB hr;cases hr;exact Fr.push _ _
    · cases hr
  | blds T n z ps =>
    have hr:wEC T n z ps σ h=some (v,h'):=hr
    unfold wEC at hr
    split at hr
    · cases hr;exact Fr.push _ _
    · cases hr
  | st n x y =>
    have hr:wOI n x y σ h=some (v,h'):=hr
    unfold wOI at hr
    split at hr
    · split at hr
      · split at hr
        · rename_i hs;cases hr;exact Fr.setAt hs
        · cases hr
      · cases hr
    · cases hr
  | mput two k x y z =>
    have hr:wFj two k x y z σ h=some (v,h'):=hr
    unfold wFj at hr
    split at hr
    · split at hr
      · split at hr
        · split at hr
          · rename_i hs;cases hr;exact Fr.put hs
          · cases hr
        · cases hr
      · cases hr
    · cases hr
  | mdel two k x y =>
    have hr:wFk two k x y σ h=some (v,h'):=hr
    unfold wFk at hr
    split at hr
    · split at hr
      · split at hr
        · split at hr
          · rename_i hs;cases hr;exact Fr.put hs
          · cases hr
        · cases hr
      · cases hr
    · cases hr
  | app T sz b x y =>
    have hr:wIL T sz b x y σ h=some (v,h'):=hr
    unfold wIL at hr
    split at hr
    · exact wQz (wHB hr)
    · cases hr
  | cpy sz x y =>
    have hr:wIM sz x y σ h=some (v,h'):=hr
    unfold wIM at hr
    split at hr
    · split at hr
      · have hr:=wHB hr
        split at hr
        · rename_i hs;cases hr;exact Fr.setAt hs
        · cases hr
      · cases hr
    · cases hr
  | clr z x =>
    have hr:wIN z x σ h=some (v,h'):=hr
    unfold wIN at hr
    split at hr
    · exact wOT hr
    · exact wOT hr
    · cases hr;exact Fr.refl _
    · cases hr;exact Fr.refl _
    · cases hr
  | bad=>cases hr
  | apz T sz b z x y =>
    have hr:wIQ T sz b z x y σ h=some (v,h'):=hr
    unfold wIQ at hr
    split at hr
    · split at hr
      · cases hr;exact Fr.refl _
      · have hr:=wHB hr;cases hr;exact Fr.push _ _
    · cases hr
  | _ =>
    have e:h'=h:=by
      dsimp only [opY] at hr
      first
        | exact wPZ hr
        | (simp only [wQE,wGO,wNL,wHA,wGP,wIs,wIt,wIu,wIv,wIw,wKS,wIx,wGR,wIy,wIz,wGS,wJA,wGT,wOq,wJB,wNM,wJC,wJD,wEa,wJE,wJF] at hr
           repeat' (split at hr)
           all_goals first
             | exact wPZ hr
             | (cases hr;rfl)
             | (cases hr;done)
             | exact wPZ (wHB hr)
             | (have hr2:=wHB hr;cases hr2;rfl))
    subst e
    exact Fr.refl _
theorem wOV (HE:FrX ex) (HY:FrX exY) (k:Nat) (op:AOp) (hr:opK k op tb ex exY σ h=some (v,h')):Fr h h':=by
 by_cases k2:nM k 2=true
 ·have hr:wOJ op tb ex exY σ h=some (v,h'):=by
   have e:opK k op=wOJ op:=by unfold opK;rw [k2]
   rw [e] at hr;exact hr
  unfold wOJ at hr
  split at hr
  ·rename_i v0 h0 hq
   cases hr
   have F:=wMM HE HY op hq
   exact ⟨F.nx,rfl,fun p _ h2=>F.get p h2 h2⟩
  ·cases hr
 ·have e:opK k op=opY op:=by
   unfold opK
   cases hb:nM k 2 with
   | true=>exact absurd hb k2
   | false=>rfl
  rw [e] at hr
  exact wMM HE HY op hr
theorem wRA (HE:FrX ex) (HY:FrX exY) (op:AOp) (hr:wOJ op tb ex exY σ h=some (v,h')):∀ p,p.nat < h.nx.nat->h'.m.get p=h.m.get p:=by
 unfold wOJ at hr
 split at hr
 ·rename_i v0 h0 hq
  cases hr
  have F:=wMM HE HY op hq
  exact fun p h2=>F.get p h2 h2
 ·cases hr
theorem wHS (HE:FrX ex) (HY:FrX exY):∀ (l:List AO) (σ:Tr AV) (h:AH) (σ':Tr AV) (h':AH),wAZ tb ex exY l σ h=some (σ',h')->Fr h h'
 | [],σ,h,σ',h',hr=>by
  rw [wAo] at hr;cases hr;exact Fr.refl _
 | o :: os,σ,h,σ',h',hr=>by
  rw [wAq] at hr
  split at hr
  ·split at hr
   ·rename_i r hq
    exact (wOV HE HY _ _ hq).trans (wHS HE HY os _ _ _ _ hr)
   ·cases hr
  ·exact wHS HE HY os _ _ _ _ hr
theorem wMN {exR:Run} (HR:FrX exR) {b:AC} {r:Ex × Tr AV × AH} {e:Ex} {σ':Tr AV} (hr:seqK b exR r=some (e,σ',h')):Fr r.2.2 h':=by
 obtain ⟨e0,σ0,h0⟩:=r
 rw [wJQ] at hr
 cases e0 with
 | nrm=>exact HR _ _ _ _ _ _ hr
 | exit i=>cases hr;exact Fr.refl _
 | ret=>cases hr;exact Fr.refl _
theorem wPa {exR:Run} (HE:FrX ex) (HY:FrX exY) (HR:FrX exR) (c:AC) (f:Bool) {e:Ex} {σ':Tr AV} (hr:step c f tb ex exY exR σ h=some (e,σ',h')):Fr h h':=by
 cases c with
 | skip=>cases hr;exact Fr.refl _
 | rg l =>
  have hr:sRg l tb ex exY exR σ h=some (e,σ',h'):=hr
  unfold sRg at hr
  cases hq:wAZ tb ex exY l σ h with
  | none=>rw [hq] at hr;cases hr
  | some y =>
   rw [hq] at hr
   cases hr
   exact wHS HE HY l _ _ _ _ hq
 | seq a b =>
  have hr:wQb a b exR σ h=some (e,σ',h'):=hr
  unfold wQb at hr
  obtain ⟨y,h1,h2⟩:=wQI hr
  exact (HR _ _ _ _ _ _ h1).trans (wMN HR h2)
 | cond c a b =>
  have hr:wLa c a b exR σ h=some (e,σ',h'):=hr
  unfold wLa at hr
  split at hr
  ·exact HR _ _ _ _ _ _ hr
  ·exact HR _ _ _ _ _ _ hr
  ·cases hr
 | block i a =>
  have hr:wJh i a exR σ h=some (e,σ',h'):=hr
  unfold wJh at hr
  obtain ⟨y,h1,h2⟩:=wQI hr
  obtain ⟨e0,σ0,h0⟩:=y
  refine (HR _ _ _ _ _ _ h1).trans ?_
  unfold wOL at h2
  cases e0 with
  | nrm=>cases h2;exact Fr.refl _
  | ret=>cases h2;exact Fr.refl _
  | exit j =>
   simp only at h2
   cases hb:nM j i with
   | true=>rw [hb] at h2;cases h2;exact Fr.refl _
   | false=>rw [hb] at h2;cases h2;exact Fr.refl _
 | loop a =>
  have hr:wLb a exR σ h=some (e,σ',h'):=hr
  unfold wLb at hr
  obtain ⟨y,h1,h2⟩:=wQI hr
  exact (HR _ _ _ _ _ _ h1).trans (wMN HR h2)
 | rf g t asg body =>
  have hr:sRf f g t asg body tb ex σ h=some (e,σ',h'):=hr
  unfold sRf at hr
  split at hr
  ·split at hr
   ·rename_i h1
    have F:=(Fr.push h (.loop σ t asg body .ready)).trans (wML HE h1)
    split at hr
    ·split at hr
     ·rename_i h2;cases hr;exact F.trans (Fr.put h2)
     ·cases hr
    ·split at hr
     ·rename_i h2;cases hr;exact F.trans (Fr.put h2)
     ·cases hr
    ·cases hr
   ·cases hr
  ·cases hr
 | exit i=>cases hr;exact Fr.refl _
 | scope a=>exact HR _ _ _ _ _ _ hr
 | ret=>cases hr;exact Fr.refl _
 | rl l =>
  have hr:sRl l tb ex exY σ h=some (e,σ',h'):=hr
  rw [wOK] at hr
  split at hr
  ·rename_i y hq
   cases hr
   exact wHS HE HY l _ _ _ _ (wJO _ _ _ _ hq).1
  ·cases hr
theorem wEp (tb:Tr AF):∀ (n:Nat) (r:Bool),FrX (exec tb n r)
 | 0,r=>fun c σ h e σ' h' hr=>by cases hr
 | n + 1,r=>fun c σ h e σ' h' hr=>by
  rw [wIR] at hr
  exact wPa (wEp tb n false) (wEp tb n true) (wEp tb n r) c _ hr
end
end Go.KX
namespace Go.KX
open Go.RowKit Go.KL
theorem wPb {a b:IntKind} (h:keq a b=true):a=b:=by
 cases a <;> cases b <;> first | rfl | (simp [keq] at h)
theorem wPc {a b:Int} (h:zeq a b=true):a=b:=by
 cases a with
 | ofNat a=>cases b with
  | ofNat b=>simp only [zeq] at h;rw [nB h]
  | negSucc b=>simp [zeq] at h
 | negSucc a=>cases b with
  | ofNat b=>simp [zeq] at h
  | negSucc b=>simp only [zeq] at h;rw [nB h]
mutual
theorem wMO:∀ {a b:AV},same a b=true->a=b
 | .int k n,.int k' n',h=>by simp only [same,nA] at h;rw [wPb h.1,wPc h.2]
 | .bool a,.bool b,h=>by simp only [same,beq_iff_eq] at h;rw [h]
 | .ptr b o,.ptr b' o',h=>by simp only [same,nA] at h;rw [Pos.beq_eq h.1,nB h.2]
 | .pnil,.pnil,_=>rfl
 | .sl b o n c,.sl b' o' n' c',h=>by simp only [same,nA] at h;rw [Pos.beq_eq h.1,nB h.2.1,nB h.2.2.1,nB h.2.2.2]
 | .rw b o n c,.rw b' o' n' c',h=>by simp only [same,nA] at h;rw [Pos.beq_eq h.1,nB h.2.1,nB h.2.2.1,nB h.2.2.2]
 | .snil,.snil,_=>rfl
 | .map b,.map b',h=>by simp only [same] at h;rw [Pos.beq_eq h]
 | .mnil,.mnil,_=>rfl
 | .fn f fi ca,.fn f' fi' ca',h=>by simp only [same,nA] at h;rw [Pos.beq_eq h.1,wFK h.2.1,wFK h.2.2]
 | .fnil,.fnil,_=>rfl
 | .agg l,.agg l',h=>by simp only [same] at h;rw [wFK h]
 | .tup l,.tup l',h=>by simp only [same] at h;rw [wFK h]
theorem wFK:∀ {a b:List AV},wHf a b=true->a=b
 | [],[],_=>rfl
 | a :: l,b :: k,h=>by simp only [wHf,nA] at h;rw [wMO h.1,wFK h.2]
 | [],_ :: _,h=>by simp [wHf] at h
 | _ :: _,[],h=>by simp [wHf] at h
end
section
variable {tb:Tr AF} {ex exY:Run} {σ:Tr AV} {h h':AH} {v:AV}
theorem wMP {o:Option AV} (hr:okV h o=some (v,h')) (h2:AH):okV h2 o=some (v,h2):=by
 cases o with
 | none=>cases hr
 | some x=>cases hr;rfl
end
section
variable {P:Program} {l:List Oper} {σ σ':Env} {o:Oper} {w:World}
def Agr (l:List Oper) (o:Oper) (σ σ':Env):Prop:=∀ d ∈ wEA l o,σ d=σ' d
theorem wRB (h:Agr l o σ σ'):∀ y ∈ o.op.operands,ev σ y=ev σ' y:=by
 intro y hy
 cases y with
 | tmp t=>exact h t (nl _ (ko.2 ⟨.tmp t,by simpa using hy,rfl⟩))
 | _=>rfl
theorem wBw (h:Agr l o σ σ'):wanted l σ o=wanted l σ' o:=by
 unfold wanted
 cases hg:o.guard with
 | none=>rfl
 | some g =>
  obtain ⟨j,b⟩:=g
  simp only
  cases hd:(l[j]?).bind (·.dst) with
  | none=>rfl
  | some t =>
   simp only
   rw [h t (by unfold wEA;rw [hg];simp only [hd];simp)]
theorem wMQ (hs:wBX o=false) (h:Agr l o σ σ'):execOp (ev σ) o=execOp (ev σ') o:=execOp_congr o (wKs hs) (wRB h)
theorem Runs.agr (hs:wBX o=false) (h:Agr l o σ σ') {v:Value} {w':World}:Runs P σ w o v w' ↔ Runs P σ' w o v w':=by
 unfold Runs;rw [wMQ hs h]
theorem Runs.det {v v':Value} {w1 w2:World} (h:Runs P σ w o v w1) (h':Runs P σ w o v' w2):v=v'/\w1=w2:=by
 have:=h.2.symm.trans h'.2
 simp only [Result.ok.injEq] at this
 obtain ⟨e,e2⟩:=this
 exact ⟨by simpa using e,e2⟩
theorem Step1.agr (hs:wBX o=false) (h:Agr l o σ σ') {R:Value->World->Prop} (hh:Step1 P l o σ w R):Step1 P l o σ' w R:=by
 have e:=wMQ hs h
 have ew:=wBw h
 rcases hh with ⟨h1,⟨h2,w',h3,h4⟩ | ⟨v,w',h3,h4⟩ | ⟨f,args,R',h3,h4,h5⟩ | hy⟩ | ⟨h1,h2⟩
 ·exact .inl ⟨ew ▸ h1,.inl ⟨h2,w',by unfold Does at h3 ⊢;rw [<- e];exact h3,h4⟩⟩
 ·exact .inl ⟨ew ▸ h1,.inr (.inl ⟨v,w',by unfold Runs at h3 ⊢;rw [<- e];exact h3,h4⟩)⟩
 ·exact .inl ⟨ew ▸ h1,.inr (.inr (.inl ⟨f,args,R',by unfold Enters at h3 ⊢;rw [<- e];exact h3,h4,h5⟩))⟩
 ·exact .inl ⟨ew ▸ h1,.inr (.inr (.inr (by unfold Rounds at hy ⊢;rw [<- e];exact hy)))⟩
 ·exact .inr ⟨ew ▸ h1,h2⟩
end
end Go.KX
namespace Go.KX
open Go.RowKit Go.KL
section
variable {tb:Tr AF} {ex exY:Run} {C:Chk} {P:Program}
theorem wDQ:∀ (l1 l2:List AO) (σ:Tr AV) (h:AH) (r:Tr AV × AH),wAZ tb ex exY (l1 ++ l2) σ h=some r->∃ σ1 h1,wAZ tb ex exY l1 σ h=some (σ1,h1)/\wAZ tb ex exY l2 σ1 h1=some r
 | [],l2,σ,h,r,hr=>⟨σ,h,wAo _ _ _ _ _,hr⟩
 | a :: l1,l2,σ,h,r,hr=>by
  rw [nI,wAq] at hr
  rw [wAq]
  cases hw:wCa σ a.grd with
  | true =>
   rw [hw] at hr
   simp only at hr ⊢
   cases hq:opK a.kd a.op tb ex exY σ h with
   | none=>rw [hq] at hr;cases hr
   | some q =>
    rw [hq] at hr
    exact wDQ l1 l2 _ _ r hr
  | false =>
   rw [hw] at hr
   exact wDQ l1 l2 _ _ r hr
theorem wHp {d:Option Pos} {σ:Tr AV} {v:AV} {p:Pos}:evA (wFo d σ v) (.t p)=if d=some p then v else evA σ (.t p):=by
 cases d with
 | none =>
  rw [if_neg (by simp)]
  rfl
 | some q =>
  show evA (σ.set q v) (.t p)=_
  rw [wJI,Tr.get_set]
  by_cases e:p=q
  ·subst e
   rw [if_pos rfl,if_pos rfl]
   rfl
  ·rw [if_neg e,if_neg (fun h=>e (by cases h;rfl)),wJI]
theorem wCi:∀ (l:List AO) (σ:Tr AV) (h:AH) (σ':Tr AV) (h':AH),wAZ tb ex exY l σ h=some (σ',h')->∀ p,(∀ a ∈ l,a.dst ≠ some p)->evA σ' (.t p)=evA σ (.t p)
 | [],σ,h,σ',h',hr,p,_=>by
  rw [wAo] at hr
  cases hr
  rfl
 | a :: l,σ,h,σ',h',hr,p,hp=>by
  have hn:a.dst ≠ some p:=hp a (by simp)
  rw [wAq] at hr
  cases hw:wCa σ a.grd with
  | true =>
   rw [hw] at hr
   simp only at hr
   cases hq:opK a.kd a.op tb ex exY σ h with
   | none=>rw [hq] at hr;cases hr
   | some q =>
    rw [hq] at hr
    rw [wCi l _ _ _ _ hr p fun b hb=>hp b (by simp [hb]),wHp,if_neg hn]
  | false =>
   rw [hw] at hr
   rw [wCi l _ _ _ _ hr p fun b hb=>hp b (by simp [hb]),wHp,if_neg hn]
variable {μ μ':Mu} {h:AH} {w:World}
theorem Sim.adopt {c:Cl} {B:AB} (S:Sim C P μ h w) (hlt:c.1 < w.heap.size) (hn:∀ p d,μ p=some d->d.1 ≠ c.1) (hB:AbR C P (μ.add h.nx c) w c B):Sim C P (μ.add h.nx c) (h.push B) w:=by
 have hn0:=S.nx h.nx (nE _)
 have hle:=Mu.add_le (c:=c) hn0
 refine ⟨?_,?_,?_,?_⟩
 ·intro p hp
  have hp:h.nx.succ.nat <= p.nat:=hp
  rw [Pos.nat_succ] at hp
  unfold Mu.add
  rw [if_neg (fun e=>by subst e;omega)]
  exact S.nx p (by omega)
 ·intro p d hd
  unfold Mu.add at hd
  split at hd
  ·cases hd;exact hlt
  ·exact S.lt p d hd
 ·intro p q a b d e hp hq la lb hd he hde
  simp only [AH.push,Tr.get_set] at hp hq
  unfold Mu.add at hd he
  split at hd <;> split at he
  ·rename_i h1 h2;rw [h1,h2]
  ·cases hd;exact absurd hde.symm (hn _ _ he)
  ·cases he;exact absurd hde (hn _ _ hd)
  ·rename_i h1 h2
   rw [if_neg h1] at hp
   rw [if_neg h2] at hq
   exact S.inj p q a b d e hp hq la lb hd he hde
 ·intro p b hb
  simp only [AH.push,Tr.get_set] at hb
  split at hb
  ·rename_i e
   subst e
   cases hb
   exact ⟨c,Mu.add_same _ _ _,hB⟩
  ·rename_i e
   obtain ⟨d,h1,h2⟩:=S.at_ p b hb
   exact ⟨d,hle _ _ h1,h2.mono hle⟩
end
end Go.KX
namespace Go.KX
open Go.RowKit Go.KL
theorem wFb:∀ {l:List AOd} {p:Pos},AOd.t p ∈ l->p ∈ wCW l
 | .t q :: l,p,h=>by
  rcases nG.1 h with h | h
  ·cases h;simp [wCW]
  ·simp only [wCW,nG];exact .inr (wFb h)
 | .c v :: l,p,h=>by
  rcases nG.1 h with h | h
  ·cases h
  ·show p ∈ wCW l
   exact wFb h
noncomputable def rst (σ:Tr AV):List Pos->Tr AV
 | []=>.e
 | p :: ps=>(rst σ ps).set p (evA σ (.t p))
theorem wGi (σ:Tr AV):∀ (ps:List Pos) (p:Pos),evA (rst σ ps) (.t p)=if p ∈ ps then evA σ (.t p) else u
 | [],p=>by rw [if_neg (by simp)];rfl
 | q :: ps,p=>by
  show evA ((rst σ ps).set q (evA σ (.t q))) (.t p)=_
  rw [wJI,Tr.get_set]
  by_cases e:p=q
  ·subst e
   rw [if_pos rfl,if_pos (by simp)]
   rfl
  ·rw [if_neg e,<- wJI,wGi σ ps p]
   simp [e]
open Classical in
noncomputable def rsl (σ:Env) (ps:List Pos):Env:=fun d=>if ∃ p ∈ ps,p.nat - 1=d then σ d else undef
theorem wGj {μ:Mu} {σA:Tr AV} {σ:Env} {ps:List Pos} (h:∀ p ∈ ps,Rv μ (evA σA (.t p)) (σ (p.nat - 1))):EnvR μ (rst σA ps) (rsl σ ps):=by
 intro p
 rw [wGi]
 unfold rsl
 by_cases hp:p ∈ ps
 ·rw [if_pos hp,if_pos ⟨p,hp,rfl⟩]
  exact h p hp
 ·rw [if_neg hp,if_neg]
  ·exact wLh μ
  ·rintro ⟨q,hq,e⟩
   have h1:=q.nat_pos
   have h2:=p.nat_pos
   have:q=p:=Pos.nat_inj (by omega)
   exact hp (this ▸ hq)
section
variable {tb:Tr AF} {ex exY:Run} {C:Chk} {P:Program} {μ:Mu} {σA:Tr AV} {σ:Env} {h h':AH} {v:AV} {o:Oper} {a:AOp} {w:World}
theorem wJv (hr:opY a tb ex exY σA h=some (v,h')):opY a tb ex exY (rst σA (wCW (wBS a))) h=some (v,h'):=by
 rw [<- hr]
 refine wMH a (fun x hx=>?_) h
 cases x with
 | t p=>rw [wGi,if_pos (wFb hx)]
 | c v=>rfl
theorem wPd (hs:wBX o=false) (hb:Sub a o):execOp (ev (rsl σ (wCW (wBS a)))) o=execOp (ev σ) o:=by
 refine execOp_congr o (wKs hs) fun y hy=>?_
 cases y with
 | tmp t =>
  show rsl σ (wCW (wBS a)) t=σ t
  unfold rsl
  rw [if_pos (hb t hy)]
 | _=>rfl
theorem wHq (hs:wBX o=false) (hb:Sub a o) {v:Value} {w':World}:Runs P (rsl σ (wCW (wBS a))) w o v w' ↔ Runs P σ w o v w':=by
 unfold Runs;rw [wPd hs hb]
theorem wGk (hs:wBX o=false) (hb:Sub a o) (hk:kdA a=3) (hc:wGd P a o.op=true) (hr:opY a tb ex exY σA h=some (v,h')) (hv:∀ p ∈ wCW (wBS a),Rv μ (evA σA (.t p)) (σ (p.nat - 1))) :
  ∃ cv,Rv μ v cv/\∀ w,Runs P σ w o cv w:=by
 obtain ⟨_,h2⟩:=wHO (tb:=tb) (ex:=ex) (exY:=exY) hk hc _ _ _ _ (wJv hr)
 obtain ⟨cv,g1,g2⟩:=h2 μ _ (wGj hv)
 exact ⟨cv,g1,fun w=>(wHq hs hb).1 (g2 o w rfl)⟩
theorem wMR (hs:wBX o=false) (hb:Sub a o) (hk:kdA a=1 \/ kdA a=3) (hc:wGd P a o.op=true) (hr:opY a tb ex exY σA h=some (v,h')) (S:Sim C P μ h w) (hv:∀ p ∈ wCW (wBS a),Rv μ (evA σA (.t p)) (σ (p.nat - 1))) :
  ∃ cv,Rv μ v cv/\Runs P σ w o cv w:=by
 obtain ⟨_,h2⟩:=wHP (C:=C) (tb:=tb) (ex:=ex) (exY:=exY) hk hc _ _ _ _ (wJv hr)
 obtain ⟨cv,g1,g2⟩:=h2 μ _ w (wGj hv) S
 exact ⟨cv,g1,(wHq hs hb).1 (g2 o rfl w (Keep.refl w _))⟩
theorem wJw {op:Op} (hk:wKo a=true) (hc:wGd P a op=true):OkA C P op (opY a tb ex exY):=by
 cases a <;> first
  | (simp [wKo] at hk;done)
  | exact a_new hc | exact a_box hc | exact a_mkm hc | exact a_mks hc | exact wQy hc
theorem wKe (hs:wBX o=false) (hb:Sub a o) (hk:wKo a=true) (hc:wGd P a o.op=true) (hr:opY a tb ex exY σA h=some (v,h')) (hv:∀ p ∈ wCW (wBS a),Rv μ (evA σA (.t p)) (σ (p.nat - 1))) :
  ∃ (B:AB) (vf:Pos->AV) (ob:Obj) (val:Nat->Value),h'=h.push B/\v=vf h.nx/\wKW B/\(∀ w:World,Runs P σ w o (val w.heap.size) (w.alloc ob)) /\
   (∀ μ' (w:World) b,μ.Le μ'->w.heap[b]?=some ob->AbR C P μ' w ⟨b,0,g0⟩ B)/\∀ μ' p b,μ' p=some ⟨b,0,g0⟩->Rv μ' (vf p) (val b):=by
 obtain ⟨B,vf,e1,e2,_,e4,e5⟩:=wJw (C:=C) (tb:=tb) (ex:=ex) (exY:=exY) hk hc _ _ _ _ (wJv hr)
 obtain ⟨ob,val,g1,g2,g3⟩:=e5 μ _ (wGj hv) o rfl
 exact ⟨B,vf,ob,val,e1,e2,e4,fun w=>(wHq hs hb).1 (g1 w),g2,g3⟩
end
end Go.KX
namespace Go.KX
open Go.RowKit Go.KL
section
variable {tb:Tr AF} {ex exY:Run} {P:Program}
theorem wJx {s t:List AO} {a:AO} {σ0:Tr AV} {h0:AH} {r:Tr AV × AH} (hr:wAZ tb ex exY (s ++ a :: t) σ0 h0=some r) :
  ∃ σ1 h1,wAZ tb ex exY s σ0 h0=some (σ1,h1) /\
   ((wCa σ1 a.grd=true/\∃ v h2,opK a.kd a.op tb ex exY σ1 h1=some (v,h2)/\wAZ tb ex exY t (wFo a.dst σ1 v) h2=some r) \/
    (wCa σ1 a.grd=false/\wAZ tb ex exY t (wFo a.dst σ1 u) h1=some r)):=by
 obtain ⟨σ1,h1,e1,e2⟩:=wDQ s (a :: t) σ0 h0 r hr
 refine ⟨σ1,h1,e1,?_⟩
 rw [wAq] at e2
 cases hw:wCa σ1 a.grd with
 | true =>
  rw [hw] at e2
  simp only at e2
  cases hq:opK a.kd a.op tb ex exY σ1 h1 with
  | none=>rw [hq] at e2;cases e2
  | some q =>
   rw [hq] at e2
   exact .inl ⟨rfl,q.1,q.2,rfl,e2⟩
 | false =>
  rw [hw] at e2
  exact .inr ⟨rfl,e2⟩
theorem wDl {l:List Oper} {S:Nat->Bool} (hdc:∀ k,k < l.length->S k=true->∀ j ∈ prI l k,S j=true) {x i:Nat} (hp:∀ j ∈ prI l i,S j=true) (h:wJq l x i):S x=true:=h S hdc hp
variable {N:Nat} {l:List Oper} {os s t:List AO} {a:AO} {σ0 σ1 σf:Tr AV} {h0 h1 hf:AH}
theorem wJR (Z:ZOK P N l os) (e:os=s ++ a :: t) {v:AV} {σ2:Tr AV} {h2:AH} (hr:wAZ tb ex exY t (wFo a.dst σ2 v) h2=some (σf,hf)) {p:Pos} (hp:a.dst=some p):evA σf (.t p)=v:=by
 rw [wCi t _ _ _ _ hr p fun b hb=>Z.wr s a t e p hp b (nZ _ hb),wHp,if_pos hp]
theorem wRC (Z:ZOK P N l os) (e:os=s ++ a :: t) (hr:wAZ tb ex exY (a :: t) σ1 h1=some (σf,hf)) {p:Pos} (hp:p ∈ wCB a):evA σf (.t p)=evA σ1 (.t p) :=
 wCi (a :: t) _ _ _ _ hr p fun b hb=>Z.rd s a t e p hp b hb
end
end Go.KX
namespace Go.KX
open Go.RowKit Go.KL
section
variable {tb:Tr AF} {ex exY:Run} {P:Program} {N:Nat} {l:List Oper} {os s t:List AO} {a:AO} {σ0 σ1 σA σf:Tr AV} {h0 h h1 hf:AH} {μ μS:Mu} {σ σ':Env} {w:World} {o:Oper}
theorem wCj:∀ {s s' t t':List AO} {a:AO},(s ++ a :: t).Pairwise (fun a b=>a.ix ≠ b.ix)->s ++ a :: t=s' ++ a :: t'->s=s'/\t=t'
 | [],[],t,t',a,_,e=>by
  simp only [nS,nT,true_and] at e
  exact ⟨rfl,e⟩
 | [],b :: s',t,t',a,hp,e=>by
  simp only [nS,nI,nT] at e
  obtain ⟨rfl,rfl⟩:=e
  rw [nS] at hp
  exact absurd rfl ((nY.1 hp).1 a (by simp))
 | b :: s,[],t,t',a,hp,e=>by
  simp only [nS,nI,nT] at e
  obtain ⟨rfl,rfl⟩:=e
  rw [nI] at hp
  exact absurd rfl ((nY.1 hp).1 b (by simp))
 | b :: s,b' :: s',t,t',a,hp,e=>by
  simp only [nI,nT] at e
  rw [nI] at hp
  obtain ⟨h1,h2⟩:=wCj (nY.1 hp).2 e.2
  exact ⟨by rw [e.1,h1],h2⟩
theorem wEP (A:AOK P N l a o) (hs:Sub a.op o):∀ d ∈ wEA l o,∃ p ∈ wCB a,p.nat - 1=d:=by
 intro d hd
 unfold wEA at hd
 rcases nH.1 hd with hd | hd
 ·obtain ⟨y,h1,h2⟩:=ko.1 hd
  cases y with
  | tmp t =>
   simp only [ku] at h2
   subst h2
   obtain ⟨p,h3,h4⟩:=hs t (by simpa using h1)
   exact ⟨p,nl _ h3,h4⟩
  | _=>simp at h2
 ·rcases A.grd with ⟨_,h2⟩ | ⟨p,b,j,d',h1,h2,h3,h4⟩
  ·rw [h2] at hd;simp at hd
  ·rw [h2] at hd
   simp only [h3,Option.toList_some,nO] at hd
   subst hd
   exact ⟨p,nZ _ (by rw [h1];simp),h4.symm⟩
structure Pend (tb:Tr AF) (ex exY:Run) (P:Program) (l:List Oper) (os:List AO) (σ0:Tr AV) (h0:AH) (σf:Tr AV) (w0:World) (μ μS:Mu) (σ:Env) (w:World) (a:AO) (o:Oper) (p:Pos):Prop where
 get:l[a.ix]?=some o
 dst:a.dst=some p
 fact:(wanted l σ o=false/\σ (p.nat - 1)=undef/\evA σf (.t p)=u) \/ (wanted l σ o=true /\
  (((a.kd=1 \/ a.kd=3 \/ 8 <= a.kd)/\Rv μ (evA σf (.t p)) (σ (p.nat - 1))) \/
   (a.kd=6/\Rv μS (evA σf (.t p)) (σ (p.nat - 1))/\∃ w1 w2,Runs P σ w1 o (σ (p.nat - 1)) w2) \/
   (a.kd=4/\Rv μS (evA σf (.t p)) (σ (p.nat - 1))/\∃ w1 ob s1 t1 σ1 h1,Runs P σ w1 o (σ (p.nat - 1)) (w1.alloc ob)/\w.heap[w1.heap.size]?=some ob/\w0.heap.size <= w1.heap.size /\
    os=s1 ++ a :: t1/\wAZ tb ex exY s1 σ0 h0=some (σ1,h1)/\μS h1.nx=some ⟨w1.heap.size,0,g0⟩/\∀ q c,μS q=some c->c.1=w1.heap.size->q=h1.nx)))
theorem wMS {tb:Tr AF} {ex exY:Run} {k:Nat} {op:AOp} {σ:Tr AV} {h h':AH} {v:AV} (hk:k ≠ 2) (hr:opK k op tb ex exY σ h=some (v,h')):opY op tb ex exY σ h=some (v,h'):=by
 have hb:nM k 2=false:=by
  cases hb:nM k 2 with
  | false=>rfl
  | true=>exact absurd (nB hb) hk
 have:opK k op=opY op:=by unfold opK;rw [hb]
 rwa [this] at hr
theorem wKf {k:Nat} (h:8 <= k):¬ wBr k=true:=by
 unfold wBr
 simp only [nc,not_or]
 exact ⟨fun e=>by have:=nB e;omega,fun e=>by have:=nB e;omega⟩
theorem wMT {w:World} {a b:Obj} (h:w.alloc a=w.alloc b):a=b:=by
 have h1:=heap_alloc_new w a
 rw [h,heap_alloc_new] at h1
 exact (nK h1).symm
theorem wRD (Z:ZOK P N l os) (e:os=s ++ a :: t) {μ0:Mu} {w0:World} {fl:Nat} (hs:wAZ tb ex exY s σ0 h0=some (σA,h)) (hr:wAZ tb ex exY (a :: t) σA h=some (σf,hf))
  (E:Ext μ0 fl w0 μ w) (S:Sim (CC P) P μ h w) (hE:EnvR μ σA σ') (hle:μ.Le μS) {p:Pos} (Pd:Pend tb ex exY P l os σ0 h0 σf w0 μ μS σ w a o p) (hag:∀ q ∈ wCB a,σ (q.nat - 1)=σ' (q.nat - 1)) :
  ∃ σB hB μB,wAZ tb ex exY (s ++ [a]) σ0 h0=some (σB,hB)/\wAZ tb ex exY t σB hB=some (σf,hf)/\μ.Le μB/\μB.Le μS/\Ext μ0 fl w0 μB w/\Sim (CC P) P μB hB w/\hB.fl=h.fl/\EnvR μB σB (upd σ' (p.nat - 1) (σ (p.nat - 1)))/\(a.kd=4->wanted l σ o=true->μB h.nx ≠ none):=by
 have ha:a ∈ os:=by rw [e];simp
 obtain ⟨o',A⟩:=wCn (Z.ao a ha)
 have eo:o'=o:=by have:=A.get;rw [Pd.get] at this;exact (nK this).symm
 subst eo
 have hsel:=Z.sel a ha _ A.get
 have hsub:=Z.sub a ha _ A.get
 have hagr:Agr l o' σ σ':=fun d hd=>by
  obtain ⟨q,h1,rfl⟩:=wEP A hsub d hd
  exact hag q h1
 have hw:=wHn A hE
 have hwσ:wanted l σ o'=wCa σA a.grd:=(wBw hagr).trans hw
 obtain ⟨pd,dd,d1,d2,d3,_⟩:∃ p d,a.dst=some p/\o'.dst=some d/\d=p.nat - 1/\d < N:=by
  rcases A.dst with ⟨h1,_⟩ | h
  ·rw [Pd.dst] at h1;cases h1
  ·exact h
 have ep:pd=p:=by rw [Pd.dst] at d1;exact (nK d1).symm
 subst ep
 have eput:∀ cv,put' σ' o' cv=upd σ' (pd.nat - 1) cv:=fun cv=>by unfold put';rw [d2,d3]
 obtain ⟨σx,hx,q1,q2⟩:=wJx (s:=[]) (a:=a) (t:=t) (σ0:=σA) (h0:=h) (by rw [nS];exact hr)
 rw [wAo] at q1
 cases q1
 have split1:∀ {σB hB},(match wCa σA a.grd with | true=>(match opK a.kd a.op tb ex exY σA h with | some r=>some (wFo a.dst σA r.1,r.2) | none=>none) | false=>some (wFo a.dst σA u,h))=some (σB,hB)->wAZ tb ex exY (s ++ [a]) σ0 h0=some (σB,hB):=by
  intro σB hB hq
  have app:∀ (l1 l2:List AO) (x:Tr AV) (y:AH) (x1:Tr AV) (y1:AH),wAZ tb ex exY l1 x y=some (x1,y1)->wAZ tb ex exY (l1 ++ l2) x y=wAZ tb ex exY l2 x1 y1:=by
   intro l1
   induction l1 with
   | nil=>intro l2 x y x1 y1 h;rw [wAo] at h;cases h;rfl
   | cons b l1 ih =>
    intro l2 x y x1 y1 h
    rw [nI,wAq]
    rw [wAq] at h
    cases hb:wCa x b.grd with
    | true =>
     rw [hb] at h
     simp only at h ⊢
     cases hq:opK b.kd b.op tb ex exY x y with
     | none=>rw [hq] at h;cases h
     | some r=>rw [hq] at h;exact ih l2 _ _ _ _ h
    | false =>
     rw [hb] at h
     exact ih l2 _ _ _ _ h
  rw [app s [a] _ _ _ _ hs,wAq]
  cases hb:wCa σA a.grd with
  | true =>
   rw [hb] at hq
   simp only at hq ⊢
   cases hk:opK a.kd a.op tb ex exY σA h with
   | none=>rw [hk] at hq;cases hq
   | some r =>
    rw [hk] at hq
    cases hq
    exact wAo _ _ _ _ _
  | false =>
   rw [hb] at hq
   cases hq
   rw [wAo]
 rcases q2 with ⟨g1,v,h2,g2,g3⟩ | ⟨g1,g3⟩
 ·have hv:evA σf (.t pd)=v:=wJR Z e g3 Pd.dst
  have hrun:=split1 (σB:=wFo a.dst σA v) (hB:=h2) (by rw [g1];simp only;rw [g2])
  rcases Pd.fact with ⟨f1,_⟩ | ⟨_,⟨fk,f1⟩ | ⟨fk,f1,w1,w2,f2⟩ | ⟨fk,f1,w1,ob,s1,t1,σ1,h1,f2,f3,f4,f5,f6,f7,f8⟩⟩
  ·rw [hwσ,g1] at f1;cases f1
  ·have gY:opY a.op tb ex exY σA h=some (v,h2):=wMS (by omega) g2
   have hk:kdA a.op=1 \/ kdA a.op=3:=by
    rcases fk with fk | fk | fk
    ·exact A.k1 fk
    ·exact .inr (A.k3 fk)
    ·rcases Z.kd a ha with hh | ⟨_,hh | hh | hh | hh | hh⟩
     ·exact absurd hh (wKf fk)
     ·omega
     ·omega
     ·omega
     ·omega
     ·exact .inl hh.2
   obtain ⟨e1,_⟩:=wHP (C:=CC P) hk A.op _ _ _ _ gY
   subst e1
   rw [hv] at f1
   exact ⟨_,_,μ,hrun,g3,Mu.Le.refl μ,hle,E,S,rfl,by rw [<- eput];exact wDr A hE f1,fun h4 _=>by omega⟩
  ·have gY:opY a.op tb ex exY σA h=some (v,h2):=by rw [fk] at g2;exact g2
   have hk:kdA a.op=3:=by
    rcases Z.kd a ha with hh | ⟨_,hh | hh | hh | hh | hh⟩
    ·rw [fk] at hh;exact absurd hh (by decide)
    ·omega
    ·omega
    ·exact hh.2
    ·omega
    ·omega
   obtain ⟨e1,e2⟩:=wHO hk A.op _ _ _ _ gY
   subst e1
   obtain ⟨cv,c1,c2⟩:=e2 μ σ' hE
   have:=Runs.det ((Runs.agr hsel hagr).2 (c2 o' w1 rfl)) f2
   rw [<- eput,<- this.1]
   exact ⟨_,_,μ,hrun,g3,Mu.Le.refl μ,hle,E,S,rfl,wDr A hE c1,fun h4 _=>by omega⟩
  ·have gY:opY a.op tb ex exY σA h=some (v,h2):=by rw [fk] at g2;exact g2
   have hk:wKo a.op=true:=by
    rcases Z.kd a ha with hh | ⟨_,hh | hh | hh | hh | hh⟩
    ·rw [fk] at hh;exact absurd hh (by decide)
    ·omega
    ·omega
    ·omega
    ·exact hh.2
    ·omega
   obtain ⟨B,vf,e1,e2,_,_,e5⟩:=wJw (C:=CC P) hk A.op _ _ _ _ gY
   obtain ⟨ob',val,c1,c2,c3⟩:=e5 μ σ' hE o' rfl
   obtain ⟨k1,k2⟩:=Runs.det ((Runs.agr hsel hagr).2 (c1 w1)) f2
   have k2:=wMT k2
   subst k2
   have es:s1=s:=(wCj (f5 ▸ Z.one) (f5.symm.trans e)).1
   subst es
   rw [hs] at f6
   cases f6
   have hn0:=S.nx h.nx (nE _)
   have hadd:=Mu.add_le (c:=(⟨w1.heap.size,0,g0⟩:Cl)) hn0
   have hlt:w1.heap.size < w.heap.size:=wAM f3
   subst e1 e2
   have hv':Rv (μ.add h.nx ⟨w1.heap.size,0,g0⟩) (vf h.nx) (σ (pd.nat - 1)):=by
    rw [<- k1]
    exact c3 _ _ _ (Mu.add_same _ _ _)
   refine ⟨_,_,μ.add h.nx ⟨w1.heap.size,0,g0⟩,hrun,g3,hadd,?_,⟨E.mono.trans hadd,?_,E.keep⟩,S.adopt hlt ?_ (c2 _ w _ hadd f3),rfl,?_,fun _ _=>by rw [Mu.add_same];simp⟩
   ·intro q d hq
    unfold Mu.add at hq
    split at hq
    ·rename_i eq
     subst eq
     cases hq
     exact f7
    ·exact hle q d hq
   ·intro q c hq
    unfold Mu.add at hq
    split at hq
    ·cases hq
     exact .inr (.inr f4)
    ·exact E.new q c hq
   ·intro q d hq hd
    have:=f8 q d (hle q d hq) hd
    subst this
    rw [hn0] at hq
    cases hq
   ·rw [<- eput]
    exact wDr A (hE.mono hadd) hv'
 ·have hrun:=split1 (σB:=wFo a.dst σA u) (hB:=h) (by rw [g1])
  rcases Pd.fact with ⟨_,f2,_⟩ | ⟨f1,_⟩
  ·refine ⟨_,_,μ,hrun,g3,Mu.Le.refl μ,hle,E,S,rfl,?_,fun _ hw'=>by rw [hwσ,g1] at hw';cases hw'⟩
   rw [f2,<- eput]
   exact wDr A hE (wLh μ)
  ·rw [hwσ,g1] at f1;cases f1
structure JS (tb:Tr AF) (ex exY:Run) (P:Program) (l:List Oper) (os:List AO) (σ0:Tr AV) (h0:AH) (σf:Tr AV) (hf:AH) (μ0:Mu) (w0:World) (S:Nat->Bool) (σ:Env) (w:World) (s t:List AO) (σA:Tr AV) (h:AH) (σ':Env) (μ μS:Mu):Prop where
 e:os=s ++ t
 hs:wAZ tb ex exY s σ0 h0=some (σA,h)
 hr:wAZ tb ex exY t σA h=some (σf,hf)
 inS:∀ a ∈ s,S a.ix=true
 free:∀ a ∈ t,S a.ix=true->wBr a.kd=false
 E:Ext μ0 h0.fl.nat w0 μ w
 sim:Sim (CC P) P μ h w
 fl:h.fl=h0.fl
 env:EnvR μ σA σ'
 ag:∀ q:Pos,(∀ a ∈ t,S a.ix=true->a.dst ≠ some q)->σ (q.nat - 1)=σ' (q.nat - 1)
 le:μ.Le μS
 nm:∀ q c,μS q=some c->μ q=some c \/ ∃ a o s1 t1 σ1 h1,a ∈ t/\S a.ix=true/\l[a.ix]?=some o/\wanted l σ o=true/\a.kd=4/\os=s1 ++ a :: t1/\wAZ tb ex exY s1 σ0 h0=some (σ1,h1)/\q=h1.nx
 pd:∀ a ∈ t,S a.ix=true->∃ o p,Pend tb ex exY P l os σ0 h0 σf w0 μ μS σ w a o p
theorem Pend.mono {μB:Mu} {w0:World} {p:Pos} (h:Pend tb ex exY P l os σ0 h0 σf w0 μ μS σ w a o p) (hm:μ.Le μB):Pend tb ex exY P l os σ0 h0 σf w0 μB μS σ w a o p:=by
 refine ⟨h.get,h.dst,?_⟩
 rcases h.fact with f | ⟨f,⟨f1,f2⟩ | f1 | f1⟩
 ·exact .inl f
 ·exact .inr ⟨f,.inl ⟨f1,f2.mono hm⟩⟩
 ·exact .inr ⟨f,.inr (.inl f1)⟩
 ·exact .inr ⟨f,.inr (.inr f1)⟩
theorem JS.catch1 (Z:ZOK P N l os) {μ0:Mu} {w0:World} {S:Nat->Bool} (J:JS tb ex exY P l os σ0 h0 σf hf μ0 w0 S σ w s (a :: t) σA h σ' μ μS) (ha:S a.ix=true) :
  ∃ σB hB σ'' μB,JS tb ex exY P l os σ0 h0 σf hf μ0 w0 S σ w (s ++ [a]) t σB hB σ'' μB μS:=by
 obtain ⟨o,p,Pd⟩:=J.pd a (by simp) ha
 have hag:∀ q ∈ wCB a,σ (q.nat - 1)=σ' (q.nat - 1):=fun q hq=>J.ag q fun b hb _=>Z.rd s a t J.e q hq b hb
 obtain ⟨σB,hB,μB,c1,c2,c3,c4,c5,c6,c7,c8,c9⟩:=wRD Z J.e J.hs J.hr J.E J.sim J.env J.le Pd hag
 have hne:∀ b ∈ t,b.ix ≠ a.ix:=fun b hb e=>by
  have:=Z.one
  rw [J.e] at this
  exact (nY.1 (nf.1 this).2.1).1 b hb e.symm
 refine ⟨σB,hB,_,μB,by rw [J.e];simp,c1,c2,fun b hb=>?_,fun b hb=>J.free b (by simp [hb]),c5,c6,c7.trans J.fl,c8,fun q hq=>?_,c4,fun q c hq=>?_,fun b hb hS=>?_⟩
 ·rcases nH.1 hb with hb | hb
  ·exact J.inS b hb
  ·rw [nO.1 hb];exact ha
 ·by_cases e:q=p
  ·subst e
   rw [wCX]
  ·rw [wCU _ _ (fun h=>e (Pos.nat_inj (by have:=q.nat_pos;have:=p.nat_pos;omega)))]
   refine J.ag q fun b hb hS=>?_
   rcases nG.1 hb with rfl | hb
   ·rw [Pd.dst]
    intro h
    cases h
    exact e rfl
   ·exact hq b hb hS
 ·rcases J.nm q c hq with h1 | ⟨b,ob,s1,t1,σ1,h1,k1,k2,k3,k4,k5,k6,k7,k8⟩
  ·exact .inl (c3 _ _ h1)
  ·rcases nG.1 k1 with rfl | k1
   ·left
    have hs1:s1=s:=(wCj (k6 ▸ Z.one) (k6.symm.trans J.e)).1
    subst hs1
    rw [J.hs] at k7
    cases k7
    subst k8
    rw [Pd.get] at k3
    cases k3
    have:=c9 k5 k4
    cases hm:μB h.nx with
    | none=>exact absurd hm this
    | some c' =>
     have:=c4 _ _ hm
     rw [hq] at this
     exact this.symm
   ·exact .inr ⟨b,ob,s1,t1,σ1,h1,k1,k2,k3,k4,k5,k6,k7,k8⟩
 ·obtain ⟨o',p',h'⟩:=J.pd b (by simp [hb]) hS
  exact ⟨o',p',h'.mono c3⟩
end
end Go.KX
namespace Go.KX
open Go.RowKit Go.KL
section
variable {tb:Tr AF} {ex exY:Run} {P:Program} {N:Nat} {l:List Oper} {os s t:List AO} {a:AO} {σ0 σA σf:Tr AV} {h0 h hf:AH} {μ μS:Mu} {σ σ':Env} {w:World} {o:Oper}
theorem wDU:∀ (l1 l2:List AO) (x:Tr AV) (y:AH) (x1:Tr AV) (y1:AH),wAZ tb ex exY l1 x y=some (x1,y1)->wAZ tb ex exY (l1 ++ l2) x y=wAZ tb ex exY l2 x1 y1
 | [],l2,x,y,x1,y1,h=>by rw [wAo] at h;cases h;rfl
 | b :: l1,l2,x,y,x1,y1,h=>by
  rw [nI,wAq]
  rw [wAq] at h
  cases hb:wCa x b.grd with
  | true =>
   rw [hb] at h
   simp only at h ⊢
   cases hq:opK b.kd b.op tb ex exY x y with
   | none=>rw [hq] at h;cases h
   | some r=>rw [hq] at h;exact wDU l1 l2 _ _ _ _ h
  | false =>
   rw [hb] at h
   exact wDU l1 l2 _ _ _ _ h
theorem wPe (HE:FrX ex) (HY:FrX exY) (Z:ZOK P N l os) (e:os=s ++ t) (hs:wAZ tb ex exY s σ0 h0=some (σA,h)) {b:AO} (hb:b ∈ t) {s1 t1:List AO} {σ1:Tr AV} {h1:AH} (e1:os=s1 ++ b :: t1) (hr:wAZ tb ex exY s1 σ0 h0=some (σ1,h1)):h.nx.nat <= h1.nx.nat:=by
 obtain ⟨r,r',rfl⟩:=nR hb
 have es:s1=s ++ r:=(wCj (e1 ▸ Z.one) (e1.symm.trans (e.trans (nV _ _ _).symm))).1
 subst es
 rw [wDU s r _ _ _ _ hs] at hr
 exact (wHS HE HY _ _ _ _ _ hr).nx
theorem wGA (Z:ZOK P N l os) {S:Nat->Bool} (hdc:∀ k,k < l.length->S k=true->∀ j ∈ prI l k,S j=true) (ha:a ∈ os) (hS:S a.ix=false) {b:AO} (hb:b ∈ os) (hbS:S b.ix=true) (A:AOK P N l a o) {ob:Oper} (hob:l[b.ix]?=some ob) (v:Value):Agr l ob σ (put' σ o v):=by
 obtain ⟨ob',B⟩:=wCn (Z.ao b hb)
 have eo:ob'=ob:=by have:=B.get;rw [hob] at this;exact (nK this).symm
 subst eo
 intro d hd
 obtain ⟨p,hp,rfl⟩:=wEP B (Z.sub b hb _ B.get) d hd
 symm
 refine wGF fun dd hdd e=>?_
 rcases A.dst with ⟨_,h2⟩ | ⟨q,d',h1,h2,h3,_⟩
 ·rw [h2] at hdd;cases hdd
 ·rw [h2] at hdd
  have hdd:=nK hdd
  have eq:q=p:=Pos.nat_inj (by have:=q.nat_pos;have:=p.nat_pos;have:q.nat - 1=p.nat - 1:=h3.symm.trans (hdd.trans e);omega)
  subst eq
  have:=Z.rdS b hb q hp a ha h1
  have hlt:b.ix < l.length:=(na.1 hob).1
  have:=wDl hdc (hdc _ hlt hbS) this
  rw [hS] at this
  cases this
theorem JS.fixed (HC:wFn (CC P) P tb ex) (HY':wEn (CC P) P exY) (HE:FrX ex) (HY:FrX exY) (Z:ZOK P N l os) {μ0:Mu} {w0:World} {S:Nat->Bool} (J:JS tb ex exY P l os σ0 h0 σf hf μ0 w0 S σ w s (a :: t) σA h σ' μ μS) (hfix:wBr a.kd=true) (hS:S a.ix=false)
  (hdc:∀ k,k < l.length->S k=true->∀ j ∈ prI l k,S j=true) (A:AOK P N l a o) :
  Step1 P l o σ w fun v w'=>∃ σB hB σ'' μB μT,JS tb ex exY P l os σ0 h0 σf hf μ0 w0 (fun k=>k == a.ix || S k) (put' σ o v) w' (s ++ [a]) t σB hB σ'' μB μT:=by
 have ha:a ∈ os:=by rw [J.e];simp
 have hsel:=Z.sel a ha _ A.get
 have hag:∀ q ∈ wCB a,σ (q.nat - 1)=σ' (q.nat - 1):=fun q hq=>J.ag q fun b hb _=>Z.rd s a t J.e q hq b hb
 have hagr:Agr l o σ σ':=fun d hd=>by
  obtain ⟨q,h1,rfl⟩:=wEP A (Z.sub a ha _ A.get) d hd
  exact hag q h1
 have hw:=wHn A J.env
 have main:∀ (v:AV) (cv:Value) (hB:AH) (w':World) (μB:Mu),wAZ tb ex exY (s ++ [a]) σ0 h0=some (wFo a.dst σA v,hB)->wAZ tb ex exY t (wFo a.dst σA v) hB=some (σf,hf) ->
   Ext μ h.fl.nat w μB w'->Sim (CC P) P μB hB w'->EnvR μB (wFo a.dst σA v) (put' σ' o cv)->hB.fl=h.fl ->
   ∃ σB hB σ'' μB μT,JS tb ex exY P l os σ0 h0 σf hf μ0 w0 (fun k=>k == a.ix || S k) (put' σ o cv) w' (s ++ [a]) t σB hB σ'' μB μT:=by
  intro v cv hB w' μB r1 r2 E' S' hE' hfl
  have hne:∀ b ∈ t,b.ix ≠ a.ix:=fun b hb e=>by
   have:=Z.one
   rw [J.e] at this
   exact (nY.1 (nf.1 this).2.1).1 b hb e.symm
  have hSb:∀ b ∈ t,(b.ix == a.ix || S b.ix)=true->S b.ix=true:=fun b hb h=>by
   have:=hne b hb
   simpa [this] using h
  have hbo:∀ b ∈ t,b ∈ os:=fun b hb=>by rw [J.e];simp [hb]
  have eB:os=(s ++ [a]) ++ t:=by rw [J.e];simp
  have hnm:∀ b ∈ t,∀ s1 t1 σ1 h1,os=s1 ++ b :: t1->wAZ tb ex exY s1 σ0 h0=some (σ1,h1)->μB h1.nx=none/\μ h1.nx=none:=fun b hb s1 t1 σ1 h1 e1 hr=>by
   have g1:=wPe HE HY Z eB r1 hb e1 hr
   have g2:=wPe HE HY Z J.e J.hs (b:=b) (by simp [hb]) e1 hr
   exact ⟨S'.nx _ g1,J.sim.nx _ g2⟩
  let μT:Mu:=fun q=>match μB q with | some c=>some c | none=>μS q
  have hT:μB.Le μT:=fun q c hq=>by show (match μB q with | some c=>some c | none=>μS q)=_;rw [hq]
  have hST:μS.Le μT:=fun q c hq=>by
   show (match μB q with | some c=>some c | none=>μS q)=_
   cases hB:μB q with
   | none=>exact hq
   | some c' =>
    rcases J.nm q c hq with h1 | ⟨b,ob,s1,t1,σ1,h1,k1,k2,k3,k4,k5,k6,k7,k8⟩
    ·rw [E'.mono _ _ h1] at hB
     exact hB.symm ▸ rfl
    ·rcases nG.1 k1 with rfl | k1
     ·rw [hS] at k2;cases k2
     ·have:=(hnm b k1 s1 t1 σ1 h1 k6 k7).1
      rw [<- k8,hB] at this
      cases this
  refine ⟨_,hB,_,μB,μT,eB,r1,r2,fun b hb=>?_,fun b hb hh=>J.free b (by simp [hb]) (hSb b hb hh),?_,S',hfl.trans J.fl,hE',fun q hq=>?_,hT,fun q c hq=>?_,fun b hb hh=>?_⟩
  ·rcases nH.1 hb with hb | hb
   ·simp [J.inS b hb]
   ·rw [nO.1 hb];simp
  ·have:=J.E
   refine this.trans ?_
   rw [<- J.fl]
   exact E'
  ·have old:σ (q.nat - 1)=σ' (q.nat - 1) \/ a.dst=some q:=by
    by_cases hq':a.dst=some q
    ·exact .inr hq'
    ·exact .inl (J.ag q fun b hb h=>by
      rcases nG.1 hb with rfl | hb
      ·exact hq'
      ·exact hq b hb (by simp [h]))
   rcases A.dst with ⟨h1,h2⟩ | ⟨p,d,h1,h2,h3,_⟩
   ·unfold put'
    rw [h2]
    rcases old with old | old
    ·exact old
    ·rw [h1] at old;cases old
   ·unfold put'
    rw [h2]
    by_cases e:q.nat - 1=d
    ·simp only [e,wCX]
    ·simp only
     rw [wCU _ _ e,wCU _ _ e]
     rcases old with old | old
     ·exact old
     ·rw [h1] at old
      cases old
      exact absurd h3.symm e
  ·have hq:(match μB q with | some c=>some c | none=>μS q)=some c:=hq
   cases hB':μB q with
   | some c' =>
    rw [hB'] at hq
    exact .inl hq
   | none =>
    rw [hB'] at hq
    rcases J.nm q c hq with h1 | ⟨b,ob,s1,t1,σ1,h1,k1,k2,k3,k4,k5,k6,k7,k8⟩
    ·rw [E'.mono _ _ h1] at hB'
     cases hB'
    ·rcases nG.1 k1 with rfl | k1
     ·rw [hS] at k2;cases k2
     ·exact .inr ⟨b,ob,s1,t1,σ1,h1,k1,by simp [k2],k3,(wBw (wGA Z hdc ha hS (hbo b k1) k2 A k3 cv)).symm.trans k4,k5,k6,k7,k8⟩
  ·have hbS:=hSb b hb hh
   obtain ⟨ob,p,Pd⟩:=J.pd b (by simp [hb]) hbS
   have hA:=wGA (σ:=σ) Z hdc ha hS (hbo b hb) hbS A Pd.get cv
   have hp:put' σ o cv (p.nat - 1)=σ (p.nat - 1):=wGF fun d hd e=>by
    rcases A.dst with ⟨_,h2⟩ | ⟨q,d',h1,h2,h3,_⟩
    ·rw [h2] at hd;cases hd
    ·rw [h2] at hd
     have hd:=nK hd
     have eq:q=p:=Pos.nat_inj (by have:=q.nat_pos;have:=p.nat_pos;have:q.nat - 1=p.nat - 1:=h3.symm.trans (hd.trans e);omega)
     subst eq
     exact Z.wr s a t J.e q h1 b (nZ _ hb) Pd.dst
   have hsb:=Z.sel b (hbo b hb) _ Pd.get
   refine ⟨ob,p,Pd.get,Pd.dst,?_⟩
   rw [hp,<- wBw hA]
   rcases Pd.fact with f | ⟨f,⟨f1,f2⟩ | ⟨f1,f2,w1,w2,f3⟩ | ⟨f1,f2,w1,o1,s1,t1,σ1,h1,f3,f4,f5,f6,f7,f8,f9⟩⟩
   ·exact .inl f
   ·exact .inr ⟨f,.inl ⟨f1,f2.mono E'.mono⟩⟩
   ·exact .inr ⟨f,.inr (.inl ⟨f1,f2.mono hST,w1,w2,(Runs.agr hsb hA).1 f3⟩)⟩
   ·obtain ⟨n1,n2⟩:=hnm b hb s1 t1 σ1 h1 f6 f7
    have nimg:¬ img μ h.fl.nat w1.heap.size:=by
     rintro ⟨q,d,g1,g2,_⟩
     have:=f9 q d (J.le _ _ g1) g2
     rw [this,n2] at g1
     cases g1
    refine .inr ⟨f,.inr (.inr ⟨f1,f2.mono hST,w1,o1,s1,t1,σ1,h1,(Runs.agr hsb hA).1 f3,(E'.keep.block _ (wAM f4) nimg).trans f4,f5,f6,f7,hST _ _ f8,fun q c hq hc=>?_⟩)⟩
    have hq:(match μB q with | some c=>some c | none=>μS q)=some c:=hq
    cases hB':μB q with
    | none=>rw [hB'] at hq;exact f9 q c hq hc
    | some c' =>
     rw [hB'] at hq
     cases hq
     rcases E'.new q c hB' with g | g | g
     ·exact f9 q c (J.le _ _ g) hc
     ·rw [hc] at g;exact absurd g nimg
     ·have:=wAM f4;omega
 obtain ⟨σx,hx,q1,q2⟩:=wJx (s:=[]) (a:=a) (t:=t) (σ0:=σA) (h0:=h) (by rw [nS];exact J.hr)
 rw [wAo] at q1
 cases q1
 refine Step1.agr hsel (fun d hd=>(hagr d hd).symm) ?_
 rcases q2 with ⟨g1,v,h2,g2,g3⟩ | ⟨g1,g3⟩
 ·refine (wQx HC HY' A (hw.trans g1) g2 J.env J.sim).mono ?_
  rintro cv w' ⟨_,μB,e1,e2,e3,e4⟩
  refine main v cv h2 w' μB ?_ g3 e1 e2 e3 e4
  rw [wDU s [a] _ _ _ _ J.hs,wAq,g1]
  simp only
  rw [g2]
  exact wAo _ _ _ _ _
 ·refine .inr ⟨hw.trans g1,?_⟩
  refine main u undef h w μ ?_ g3 (Ext.refl μ _ w) J.sim (wDr A J.env (wLh μ)) rfl
  rw [wDU s [a] _ _ _ _ J.hs,wAq,g1]
  exact wAo _ _ _ _ _
theorem JS.opnd (Z:ZOK P N l os) {μ0:Mu} {w0:World} {S:Nat->Bool} (J:JS tb ex exY P l os σ0 h0 σf hf μ0 w0 S σ w s t σA h σ' μ μS) (ha:a ∈ os) (hl:a.ix < l.length) (hp:∀ j ∈ prI l a.ix,S j=true)
  (hdc:∀ k,k < l.length->S k=true->∀ j ∈ prI l k,S j=true) {p:Pos} (hr:p ∈ wCB a):Rv μS (evA σf (.t p)) (σ (p.nat - 1))/\(a.kd=1 \/ a.kd=3 \/ 8 <= a.kd->Rv μ (evA σf (.t p)) (σ (p.nat - 1))):=by
 have base:(∀ b ∈ t,b.dst ≠ some p)->Rv μ (evA σf (.t p)) (σ (p.nat - 1)):=fun hn=>by
  rw [wCi t _ _ _ _ J.hr p hn,J.ag p fun b hb _=>hn b hb]
  exact J.env p
 by_cases hw:∃ b ∈ t,b.dst=some p
 ·obtain ⟨b,hb,hd⟩:=hw
  have hbo:b ∈ os:=by rw [J.e];simp [hb]
  have hanc:=Z.rdS a ha p hr b hbo hd
  have hS:=wDl hdc hp hanc
  obtain ⟨ob,p',Pd⟩:=J.pd b hb hS
  have ep:p'=p:=by have:=Pd.dst;rw [hd] at this;exact (nK this).symm
  subst ep
  rcases Pd.fact with ⟨_,f1,f2⟩ | ⟨_,⟨_,f1⟩ | ⟨f0,f1,_⟩ | ⟨f0,f1,_⟩⟩
  ·rw [f1,f2]
   exact ⟨wLh _,fun _=>wLh _⟩
  ·exact ⟨f1.mono J.le,fun _=>f1⟩
  ·exact ⟨f1,fun hk=>absurd f0 (Z.cl a ha hk p' hr b hbo hd).2⟩
  ·exact ⟨f1,fun hk=>absurd f0 (Z.cl a ha hk p' hr b hbo hd).1⟩
 ·have:=base fun b hb hd=>hw ⟨b,hb,hd⟩
  exact ⟨this.mono J.le,fun _=>this⟩
end
end Go.KX
namespace Go.KX
open Go.RowKit Go.KL
section
variable {tb:Tr AF} {ex exY:Run} {P:Program} {N:Nat} {l:List Oper} {os s t:List AO} {a:AO} {σ0 σA σf:Tr AV} {h0 h h1 h' hf:AH} {μ μS:Mu} {σ σ':Env} {w:World} {o:Oper} {v:AV}
theorem wNh {a:AOp} {op:Op} (hk:kdA a=1) (hc:wGd P a op=true) (hE:EnvR μ σA σ) (hm:∀ b c,μ b=some c->h.m.get b=h1.m.get b) (hr:opY a tb ex exY σA h1=some (v,h')):opY a tb ex exY σA h=some (v,h):=by
 have cel:∀ b c,μ b=some c->wDE h b=wDE h1 b:=fun b c hb=>by unfold wDE;rw [hm b c hb]
 cases a <;> first | (simp [kdA] at hk;done) | skip
 case ld x =>
  have hr:wNL x σA h1=some (v,h'):=hr
  show wNL x σA h=some (v,h)
  have hc:wQm P x op=true:=hc
  unfold wQm at hc
  split at hc
  ·simp only [nA] at hc
   have g:=wAH hc.2 hE
   unfold wNL at hr ⊢
   split at hr
   ·rename_i b off hb
    rw [hb] at g
    obtain ⟨c,g1,_⟩:=g
    simp only [hb,cel b c g1]
    split at hr
    ·exact wMP hr h
    ·cases hr
   ·cases hr
  ·cases hc
 case ldA n x =>
  have hr:wHA n x σA h1=some (v,h'):=hr
  show wHA n x σA h=some (v,h)
  have hc:wLw P n x op=true:=hc
  unfold wLw at hc
  split at hc
  ·simp only [nA] at hc
   have g:=wAH hc.2 hE
   unfold wHA at hr ⊢
   split at hr
   ·rename_i b off hb
    rw [hb] at g
    obtain ⟨c,g1,_⟩:=g
    simp only [hb,cel b c g1]
    split at hr
    ·exact wMP hr h
    ·cases hr
   ·cases hr
  ·cases hc
 case lk two k ok z x y =>
  have hr:wNM two k ok z x y σA h1=some (v,h'):=hr
  show wNM two k ok z x y σA h=some (v,h)
  have hc:wQq P two k ok z x y op=true:=hc
  unfold wQq at hc
  split at hc
  ·simp only [nA] at hc
   have g:=wAH hc.2.2.1 hE
   unfold wNM at hr ⊢
   split at hr
   ·rename_i b hb
    rw [hb] at g
    obtain ⟨c,g1,_⟩:=g
    simp only [hb,hm b c g1]
    repeat' (split at hr)
    all_goals first | (cases hr;done) | (cases hr;rfl)
   ·cases hr
  ·cases hc
 case lenM x =>
  have hr:wEa x σA h1=some (v,h'):=hr
  show wEa x σA h=some (v,h)
  have hc:wIX P x op=true:=hc
  unfold wIX at hc
  split at hc
  ·split at hc
   ·simp only [nA] at hc
    obtain ⟨_,hc⟩:=hc
    split at hc
    ·simp only [nA] at hc
     have g:=wAH hc.2 hE
     unfold wEa at hr ⊢
     split at hr
     ·rename_i hb
      cases hr
      simp_all
     ·rename_i b hb
      rw [hb] at g
      obtain ⟨c,g1,_⟩:=g
      simp only [hb,hm b c g1]
      repeat' (split at hr)
      all_goals first | (cases hr;done) | (cases hr;rfl)
     ·cases hr
    ·cases hc
   ·cases hc
  ·cases hc
theorem wHr (HE:FrX ex) (HY:FrX exY):∀ (r:List AO) (σ1:Tr AV) (h1:AH) (σ2:Tr AV) (h2:AH),wAZ tb ex exY r σ1 h1=some (σ2,h2)->(∀ b ∈ r,wGe P N l b=true) ->
  (∀ b ∈ r,b.kd=2 \/ (b.kd=1 \/ b.kd=3 \/ (b.kd=6/\kdA b.op=3) \/ (b.kd=4/\wKo b.op=true) \/ (8 <= b.kd/\kdA b.op=1)))->h1.nx.nat <= h2.nx.nat/\∀ p:Pos,p.nat < h1.nx.nat->h2.m.get p=h1.m.get p
 | [],σ1,h1,σ2,h2,hr,_,_=>by
  rw [wAo] at hr
  cases hr
  exact ⟨nE _,fun _ _=>rfl⟩
 | b :: r,σ1,h1,σ2,h2,hr,hc,hk=>by
  rw [wAq] at hr
  cases hw:wCa σ1 b.grd with
  | false =>
   rw [hw] at hr
   exact wHr HE HY r _ _ _ _ hr (fun c hcc=>hc c (by simp [hcc])) (fun c hcc=>hk c (by simp [hcc]))
  | true =>
   rw [hw] at hr
   simp only at hr
   cases hq:opK b.kd b.op tb ex exY σ1 h1 with
   | none=>rw [hq] at hr;cases hr
   | some q =>
    rw [hq] at hr
    obtain ⟨v,h3⟩:=q
    obtain ⟨g1,g2⟩:=wHr HE HY r _ _ _ _ hr (fun c hcc=>hc c (by simp [hcc])) (fun c hcc=>hk c (by simp [hcc]))
    obtain ⟨o,A⟩:=wCn (hc b (by simp))
    have one:h1.nx.nat <= h3.nx.nat/\∀ p:Pos,p.nat < h1.nx.nat->h3.m.get p=h1.m.get p:=by
     have same:h3=h1->h1.nx.nat <= h3.nx.nat/\∀ p:Pos,p.nat < h1.nx.nat->h3.m.get p=h1.m.get p:=fun e=>by subst e;exact ⟨nE _,fun _ _=>rfl⟩
     rcases hk b (by simp) with k | k | k | ⟨k,k'⟩ | ⟨k,k'⟩ | ⟨k,k'⟩
     ·exact ⟨(wOV HE HY _ _ hq).nx,wRA HE HY b.op (by rw [k] at hq;exact hq)⟩
     ·rw [k] at hq
      exact same (wHP (C:=CC P) (A.k1 k) A.op _ _ _ _ hq).1
     ·rw [k] at hq
      exact same (wHO (A.k3 k) A.op _ _ _ _ hq).1
     ·rw [k] at hq
      exact same (wHO k' A.op _ _ _ _ hq).1
     ·rw [k] at hq
      obtain ⟨B,vf,e1,_⟩:=wJw (C:=CC P) k' A.op _ _ _ _ hq
      subst e1
      refine ⟨(Fr.push h1 B).nx,fun p hp=>?_⟩
      show (h1.m.set h1.nx B).get p=_
      rw [Tr.get_set,if_neg (fun e=>by subst e;omega)]
     ·exact same (wHP (C:=CC P) (.inl k') A.op _ _ _ _ (wMS (by omega) hq)).1
    exact ⟨kJ one.1 g1,fun p hp=>(g2 p (kP hp one.1)).trans (one.2 p hp)⟩
theorem JS.full {μ0:Mu} {w0:World} {S:Nat->Bool} (J:JS tb ex exY P l os σ0 h0 σf hf μ0 w0 S σ w s t σA h σ' μ μS):wAZ tb ex exY os σ0 h0=some (σf,hf):=by
 rw [J.e,wDU s t _ _ _ _ J.hs]
 exact J.hr
theorem JS.frm (Z:ZOK P N l os) {μ0:Mu} {w0:World} {S:Nat->Bool} (J:JS tb ex exY P l os σ0 h0 σf hf μ0 w0 S σ w s t σA h σ' μ μS) (ha:a ∈ os) (hl:a.ix < l.length) (hp:∀ j ∈ prI l a.ix,S j=true)
  (hdc:∀ k,k < l.length->S k=true->∀ j ∈ prI l k,S j=true) (A:AOK P N l a o) {s1 t1:List AO} {σ1:Tr AV} (e1:os=s1 ++ a :: t1) (hr1:wAZ tb ex exY s1 σ0 h0=some (σ1,h1)) :
  wanted l σ o=wCa σ1 a.grd/\∀ p ∈ wCB a,evA σf (.t p)=evA σ1 (.t p):=by
 have hf:=J.full
 have hrd:∀ p ∈ wCB a,evA σf (.t p)=evA σ1 (.t p):=fun p hp=>by
  rw [e1,wDU s1 _ _ _ _ _ hr1] at hf
  exact wRC Z e1 hf hp
 refine ⟨?_,hrd⟩
 have hE:EnvR μS (rst σf (wCB a)) (rsl σ (wCB a)):=wGj fun p hpr=>(J.opnd Z ha hl hp hdc hpr).1
 have hw:=wHn A hE
 have hag:Agr l o (rsl σ (wCB a)) σ:=fun d hd=>by
  obtain ⟨p,h1,h2⟩:=wEP A (Z.sub a ha _ A.get) d hd
  unfold rsl
  rw [if_pos ⟨p,h1,h2⟩]
 rw [<- wBw hag,hw]
 cases hg:a.grd with
 | none=>rfl
 | some q =>
  obtain ⟨p,b⟩:=q
  show isB b (evA _ (.t p))=isB b (evA _ (.t p))
  have hpr:p ∈ wCB a:=nZ _ (by rw [hg];simp)
  rw [wGi,if_pos hpr,hrd p hpr]
theorem wRE (HE:FrX ex) (HY:FrX exY) (Z:ZOK P N l os) {a b:AO} {s1 t1 s2 t2:List AO} {σ1 σ2:Tr AV} {h1 h2:AH} (e1:os=s1 ++ a :: t1) (e2:os=s2 ++ b :: t2) (r1:wAZ tb ex exY s1 σ0 h0=some (σ1,h1)) (r2:wAZ tb ex exY s2 σ0 h0=some (σ2,h2))
  (w1:wCa σ1 a.grd=true) (ka:a.kd=4) (la:wKo a.op=true) (hin:a ∈ s2):h1.nx.nat < h2.nx.nat:=by
 obtain ⟨o,A⟩:=wCn (Z.ao a (by rw [e1];simp))
 obtain ⟨r,r',rfl⟩:=nR hin
 have es:s1=r:=(wCj (e1 ▸ Z.one) (e1.symm.trans (e2.trans (by rw [nV,nI])))).1
 subst es
 rw [wDU s1 _ _ _ _ _ r1,wAq,w1] at r2
 simp only at r2
 cases hq:opK a.kd a.op tb ex exY σ1 h1 with
 | none=>rw [hq] at r2;cases r2
 | some q =>
  rw [hq] at r2
  obtain ⟨v,h3⟩:=q
  rw [ka] at hq
  obtain ⟨B,vf,q1,_⟩:=wJw (C:=CC P) la A.op _ _ _ _ hq
  subst q1
  have:=(wHS HE HY _ _ _ _ _ r2).nx
  have h3:(h1.push B).nx.nat=h1.nx.nat + 1:=Pos.nat_succ _
  simp only at this
  omega
theorem nm_ne (HE:FrX ex) (HY:FrX exY) (Z:ZOK P N l os) {a b:AO} {s1 t1 s2 t2:List AO} {σ1 σ2:Tr AV} {h1 h2:AH} (e1:os=s1 ++ a :: t1) (e2:os=s2 ++ b :: t2) (r1:wAZ tb ex exY s1 σ0 h0=some (σ1,h1)) (r2:wAZ tb ex exY s2 σ0 h0=some (σ2,h2))
  (w1:wCa σ1 a.grd=true) (w2:wCa σ2 b.grd=true) (ka:a.kd=4) (la:wKo a.op=true) (kb:b.kd=4) (lb:wKo b.op=true) (hne:a ≠ b):h1.nx ≠ h2.nx:=by
 have ha:a ∈ s2 ++ b :: t2:=by rw [<- e2,e1];simp
 rcases nH.1 ha with h | h
 ·intro e
  have:=wRE HE HY Z e1 e2 r1 r2 w1 ka la h
  rw [e] at this
  exact absurd this (ki _)
 ·rcases nG.1 h with h | h
  ·exact absurd h hne
  ·obtain ⟨r,r',rfl⟩:=nR h
   have es:s1=s2 ++ b :: r:=(wCj (e1 ▸ Z.one) (e1.symm.trans (e2.trans (by rw [nV,nI])))).1
   intro e
   have:=wRE HE HY Z e2 e1 r2 r1 w2 kb lb (by rw [es];simp)
   rw [e] at this
   exact absurd this (ki _)
end
end Go.KX
namespace Go.KX
open Go.RowKit Go.KL
section
variable {tb:Tr AF} {ex exY:Run} {P:Program} {N:Nat} {l:List Oper} {os s t:List AO} {a:AO} {σ0 σA σf:Tr AV} {h0 h h1 h' hf:AH} {μ μS:Mu} {σ σ':Env} {w:World} {o:Oper} {v:AV}
theorem wMU (Z:ZOK P N l os) {a b:AO} (ha:a ∈ os) (hb:b ∈ os) (e:b.ix=a.ix):b=a:=by
 obtain ⟨s,t,hs⟩:=nR ha
 have one:=Z.one
 rw [hs] at hb one
 rcases nH.1 hb with h | h
 ·exact absurd e ((nf.1 one).2.2 b h a (by simp))
 ·rcases nG.1 h with h | h
  ·exact h
  ·exact absurd e.symm ((nY.1 (nf.1 one).2.1).1 b h)
theorem wGB (A:AOK P N l a o) {q:Pos} (hn:a.dst ≠ some q) (cv:Value):put' σ o cv (q.nat - 1)=σ (q.nat - 1):=by
 refine wGF fun d hd e=>?_
 rcases A.dst with ⟨_,h2⟩ | ⟨p,d',h1,h2,h3,_⟩
 ·rw [h2] at hd;cases hd
 ·rw [h2] at hd
  have hd:=nK hd
  have:p=q:=Pos.nat_inj (by have:=q.nat_pos;have:=p.nat_pos;have:p.nat - 1=q.nat - 1:=h3.symm.trans (hd.trans e);omega)
  subst this
  exact hn h1
theorem JS.add (Z:ZOK P N l os) {μ0:Mu} {w0:World} {S:Nat->Bool} (J:JS tb ex exY P l os σ0 h0 σf hf μ0 w0 S σ w s t σA h σ' μ μS) (ha:a ∈ t) (hS:S a.ix=false) (hfree:wBr a.kd=false)
  (hdc:∀ k,k < l.length->S k=true->∀ j ∈ prI l k,S j=true) (A:AOK P N l a o) {cv:Value} {w':World} {μT:Mu} (K:Keep w w' Non) (hle:μS.Le μT)
  (hnew:∀ q c,μT q=some c->μS q=some c \/ (c.1=w.heap.size/\wanted l σ o=true/\a.kd=4/\∃ s1 t1 σ1 h1,os=s1 ++ a :: t1/\wAZ tb ex exY s1 σ0 h0=some (σ1,h1)/\q=h1.nx))
  (hpa:∃ p,Pend tb ex exY P l os σ0 h0 σf w0 μ μT (put' σ o cv) w' a o p) :
  JS tb ex exY P l os σ0 h0 σf hf μ0 w0 (fun k=>k == a.ix || S k) (put' σ o cv) w' s t σA h σ' μ μT:=by
 have hao:a ∈ os:=by rw [J.e];simp [ha]
 have hbo:∀ b ∈ t,b ∈ os:=fun b hb=>by rw [J.e];simp [hb]
 obtain ⟨sa,ta,ea⟩:=nR hao
 have hself:Agr l o σ (put' σ o cv):=by
  intro d hd
  obtain ⟨p,hp,rfl⟩:=wEP A (Z.sub a hao _ A.get) d hd
  exact (wGB A (Z.rd sa a ta ea p hp a (by simp)) cv).symm
 refine ⟨J.e,J.hs,J.hr,fun b hb=>by simp [J.inS b hb],fun b hb hh=>?_,⟨J.E.mono,J.E.new,J.E.keep.step K fun _ _ hn=>hn.elim⟩,J.sim.keep K,J.fl,J.env,fun q hq=>?_,J.le.trans hle,fun q c hq=>?_,fun b hb hh=>?_⟩
 ·by_cases e:b.ix=a.ix
  ·rw [wMU Z hao (hbo b hb) e];exact hfree
  ·exact J.free b hb (by simpa [e] using hh)
 ·rw [wGB A (hq a ha (by simp))]
  exact J.ag q fun b hb hs=>hq b hb (by simp [hs])
 ·rcases hnew q c hq with h1 | ⟨_,h2,h3,s1,t1,σ1,h1,e1,e2,e3⟩
  ·rcases J.nm q c h1 with g | ⟨b,ob,s1,t1,σ1,h1,k1,k2,k3,k4,k5,k6,k7,k8⟩
   ·exact .inl g
   ·exact .inr ⟨b,ob,s1,t1,σ1,h1,k1,by simp [k2],k3,(wBw (wGA Z hdc hao hS (hbo b k1) k2 A k3 cv)).symm.trans k4,k5,k6,k7,k8⟩
  ·exact .inr ⟨a,o,s1,t1,σ1,h1,ha,by simp,A.get,(wBw hself).symm.trans h2,h3,e1,e2,e3⟩
 ·by_cases e:b.ix=a.ix
  ·have:=wMU Z hao (hbo b hb) e
   subst this
   exact ⟨o,hpa⟩
  ·have hbS:S b.ix=true:=by simpa [e] using hh
   obtain ⟨ob,p,Pd⟩:=J.pd b hb hbS
   have hA:=wGA (σ:=σ) Z hdc hao hS (hbo b hb) hbS A Pd.get cv
   have hp:put' σ o cv (p.nat - 1)=σ (p.nat - 1):=by
    refine wGB A (fun hd=>?_) cv
    have hb':=hbo b hb
    rw [ea] at hb'
    have hb'':b ∈ sa ++ ta:=by
     rcases nH.1 hb' with h | h
     ·exact nl _ h
     ·rcases nG.1 h with h | h
      ·exact absurd (by rw [h]) e
      ·exact nZ _ h
    exact Z.wr sa a ta ea p hd b hb'' Pd.dst
   have hsb:=Z.sel b (hbo b hb) _ Pd.get
   refine ⟨ob,p,Pd.get,Pd.dst,?_⟩
   rw [hp,<- wBw hA]
   rcases Pd.fact with f | ⟨f,⟨f1,f2⟩ | ⟨f1,f2,w1,w2,f3⟩ | ⟨f1,f2,w1,o1,s1,t1,σ1,h1,f3,f4,f5,f6,f7,f8,f9⟩⟩
   ·exact .inl f
   ·exact .inr ⟨f,.inl ⟨f1,f2⟩⟩
   ·exact .inr ⟨f,.inr (.inl ⟨f1,f2.mono hle,w1,w2,(Runs.agr hsb hA).1 f3⟩)⟩
   ·refine .inr ⟨f,.inr (.inr ⟨f1,f2.mono hle,w1,o1,s1,t1,σ1,h1,(Runs.agr hsb hA).1 f3,(K.block _ (wAM f4) id).trans f4,f5,f6,f7,hle _ _ f8,fun q c hq hc=>?_⟩)⟩
    rcases hnew q c hq with h1 | ⟨h1,_⟩
    ·exact f9 q c h1 hc
    ·have:=wAM f4
     omega
theorem wHT:∀ (r:List AO),(∀ b ∈ r,b.kd ≠ 0) \/ ∃ x b y,r=x ++ b :: y/\b.kd=0/\∀ c ∈ x,c.kd ≠ 0
 | []=>.inl fun b hb=>by simp at hb
 | a :: r=>by
  by_cases h0:a.kd=0
  ·exact .inr ⟨[],a,r,rfl,h0,fun c hc=>by simp at hc⟩
  ·rcases wHT r with h | ⟨x,b,y,h1,h2,h3⟩
   ·refine .inl fun b hb=>?_
    rcases nG.1 hb with rfl | hb
    ·exact h0
    ·exact h b hb
   ·refine .inr ⟨a :: x,b,y,by rw [h1];rfl,h2,fun c hc=>?_⟩
    rcases nG.1 hc with rfl | hc
    ·exact h0
    ·exact h3 c hc
theorem JS.freeOp {σg:Tr AV} (HE:FrX ex) (HY:FrX exY) (Z:ZOK P N l os) (HL:LCK tb ex exY os σ0 h0 σg) (Hg:∀ a ∈ os,8 <= a.kd->∀ p,p ∈ wCB a \/ a.dst=some p->evA σf (.t p)=evA σg (.t p)) {μ0:Mu} {w0:World} {S:Nat->Bool} (J:JS tb ex exY P l os σ0 h0 σf hf μ0 w0 S σ w s t σA h σ' μ μS) (ha:a ∈ t) (hS:S a.ix=false) (hfree:wBr a.kd=false)
  (hp:∀ j ∈ prI l a.ix,S j=true) (hdc:∀ k,k < l.length->S k=true->∀ j ∈ prI l k,S j=true) (A:AOK P N l a o) :
  Step1 P l o σ w fun cv w'=>∃ μT,JS tb ex exY P l os σ0 h0 σf hf μ0 w0 (fun k=>k == a.ix || S k) (put' σ o cv) w' s t σA h σ' μ μT:=by
 have hao:a ∈ os:=by rw [J.e];simp [ha]
 have hl:a.ix < l.length:=(na.1 A.get).1
 obtain ⟨r,r',et⟩:=nR ha
 have e1:os=(s ++ r) ++ a :: r':=by rw [J.e,et,nV]
 have hsel:=Z.sel a hao _ A.get
 have hsub:=Z.sub a hao _ A.get
 have hfull:=J.full
 rw [e1] at hfull
 obtain ⟨σ1,h1,r1,r2⟩:=wJx hfull
 obtain ⟨hw,hrd⟩:=J.frm Z hao hl hp hdc A e1 r1
 have hrr:wAZ tb ex exY r σA h=some (σ1,h1):=by rw [<- wDU s r _ _ _ _ J.hs];exact r1
 have hself:∀ cv,Agr l o σ (put' σ o cv):=by
  intro cv d hd
  obtain ⟨p,hp,rfl⟩:=wEP A hsub d hd
  exact (wGB A (Z.rd _ a _ e1 p hp a (by simp)) cv).symm
 obtain ⟨hdn,hkd⟩:a.dst ≠ none/\(a.kd=1 \/ a.kd=3 \/ (a.kd=6/\kdA a.op=3) \/ (a.kd=4/\wKo a.op=true) \/ (8 <= a.kd/\kdA a.op=1)):=by
  rcases Z.kd a hao with h | h
  ·rw [hfree] at h;cases h
  ·exact h
 obtain ⟨p,d,d1,d2,d3,_⟩:∃ p d,a.dst=some p/\o.dst=some d/\d=p.nat - 1/\d < N:=by
  rcases A.dst with ⟨h1,_⟩ | h
  ·exact absurd h1 hdn
  ·exact h
 have eput:∀ cv,put' σ o cv (p.nat - 1)=cv:=fun cv=>by unfold put';rw [d2,d3];exact wCX _ _ _
 have hslot:∀ q ∈ wCW (wBS a.op),q ∈ wCB a:=fun q hq=>nl _ hq
 rcases r2 with ⟨g1,v,h2,g2,g3⟩ | ⟨g1,g3⟩
 ·have hv:evA σf (.t p)=v:=wJR Z e1 g3 d1
  have hw':wanted l σ o=true:=hw.trans g1
  have hwn:∀ cv,wanted l (put' σ o cv) o=true:=fun cv=>(wBw (hself cv)).symm.trans hw'
  have hvS:∀ q ∈ wCW (wBS a.op),Rv μS (evA σ1 (.t q)) (σ (q.nat - 1)):=fun q hq=>by
   rw [<- hrd q (hslot q hq)]
   exact (J.opnd Z hao hl hp hdc (hslot q hq)).1
  have clean:(a.kd=1 \/ a.kd=3 \/ 8 <= a.kd)->(∃ cv,Rv μ v cv/\Runs P σ w o cv w)->Step1 P l o σ w fun cv w'=>∃ μT,JS tb ex exY P l os σ0 h0 σf hf μ0 w0 (fun k=>k == a.ix || S k) (put' σ o cv) w' s t σA h σ' μ μT:=by
   rintro hk ⟨cv,c1,c2⟩
   refine .inl ⟨hw',.inr (.inl ⟨cv,w,c2,μS,J.add Z ha hS hfree hdc A (Keep.refl w _) (Mu.Le.refl _) (fun q c hq=>.inl hq) ⟨p,A.get,d1,.inr ⟨hwn cv,.inl ⟨hk,?_⟩⟩⟩⟩)⟩
   rw [hv,eput]
   exact c1
  have hvC:(a.kd=1 \/ a.kd=3 \/ 8 <= a.kd)->∀ q ∈ wCW (wBS a.op),Rv μ (evA σ1 (.t q)) (σ (q.nat - 1)):=fun hk q hq=>by
   rw [<- hrd q (hslot q hq)]
   exact (J.opnd Z hao hl hp hdc (hslot q hq)).2 hk
  have loadC:(a.kd=1 \/ a.kd=3 \/ 8 <= a.kd)->kdA a.op=1->∀ (x:List AO),(∀ b ∈ x,b ∈ t)->∀ {σ2:Tr AV} {h3 h4:AH} {σ3:Tr AV},wAZ tb ex exY x σA h=some (σ2,h3)->opY a.op tb ex exY σ3 h3=some (v,h4)->(∀ b ∈ x,b.kd=0->False)->(∀ q ∈ wCB a,evA σf (.t q)=evA σ3 (.t q))->∃ cv,Rv μ v cv/\Runs P σ w o cv w:=by
   intro hk k x hx σ2 h3 h4 σ3 hrx gY hx0 hrd3
   have hv3:∀ q ∈ wCW (wBS a.op),Rv μ (evA σ3 (.t q)) (σ (q.nat - 1)):=fun q hq=>by
    rw [<- hrd3 q (hslot q hq)]
    exact (J.opnd Z hao hl hp hdc (hslot q hq)).2 hk
   have hrs:=wJv gY
   have henv:=wGj hv3
   obtain ⟨_,hold⟩:=wHr HE HY x _ _ _ _ hrx (fun b hb=>Z.ao b (by rw [J.e];simp [hx b hb])) (fun b hb=>by
    rcases Z.kd b (by rw [J.e];simp [hx b hb]) with h | h
    ·unfold wBr at h
     simp only [nc] at h
     rcases h with h | h
     ·exact absurd (nB h) (hx0 b hb)
     ·exact .inl (nB h)
    ·exact .inr h.2)
   have hm:∀ b c,μ b=some c->h.m.get b=h3.m.get b:=fun b c hb=>by
    refine (hold b ?_).symm
    rcases Nat.lt_or_ge b.nat h.nx.nat with hlt | hge
    ·exact hlt
    ·rw [J.sim.nx b hge] at hb;cases hb
   have hld:=wNh k A.op henv hm hrs
   obtain ⟨cv,c1,c2⟩:=wMR (C:=CC P) hsel hsub (.inl k) A.op hld J.sim (fun q hq=>by rw [wGi,if_pos hq];exact hv3 q hq)
   exact ⟨cv,c1,c2⟩
  rcases hkd with hk | hk | ⟨hk,hk2⟩ | ⟨hk,hk2⟩ | ⟨hk,hk2⟩
  ·have gY:opY a.op tb ex exY σ1 h1=some (v,h2):=by rw [hk] at g2;exact g2
   refine clean (.inl hk) ?_
   rcases A.k1 hk with k | k
   ·exact loadC (.inl hk) k r (fun b hb=>by rw [et];simp [hb]) hrr gY (fun b hb h0=>by
     have:=wDl hdc hp (Z.ld _ a _ e1 hk b (by simp [hb]) h0)
     have:=J.free b (by rw [et];simp [hb]) this
     rw [h0] at this
     cases this) hrd
   ·obtain ⟨cv,c1,c2⟩:=wGk hsel hsub k A.op gY (hvC (.inl hk))
    exact ⟨cv,c1,c2 w⟩
  ·have gY:opY a.op tb ex exY σ1 h1=some (v,h2):=by rw [hk] at g2;exact g2
   obtain ⟨cv,c1,c2⟩:=wGk hsel hsub (A.k3 hk) A.op gY (hvC (.inr (.inl hk)))
   exact clean (.inr (.inl hk)) ⟨cv,c1,c2 w⟩
  ·have gY:opY a.op tb ex exY σ1 h1=some (v,h2):=by rw [hk] at g2;exact g2
   obtain ⟨cv,c1,c2⟩:=wGk hsel hsub hk2 A.op gY hvS
   refine .inl ⟨hw',.inr (.inl ⟨cv,w,c2 w,μS,J.add Z ha hS hfree hdc A (Keep.refl w _) (Mu.Le.refl _) (fun q c hq=>.inl hq) ⟨p,A.get,d1,.inr ⟨hwn cv,.inr (.inl ⟨hk,?_,w,w,?_⟩)⟩⟩⟩)⟩
   ·rw [hv,eput]
    exact c1
   ·rw [eput]
    exact (Runs.agr hsel (hself cv)).1 (c2 w)
  ·have gY:opY a.op tb ex exY σ1 h1=some (v,h2):=by rw [hk] at g2;exact g2
   obtain ⟨B,vf,ob,val,_,ev',_,c1,c2,c3⟩:=wKe (C:=CC P) hsel hsub hk2 A.op gY hvS
   have hno:μS h1.nx=none:=by
    cases hq:μS h1.nx with
    | none=>rfl
    | some c =>
     rcases J.nm _ c hq with g | ⟨b,ob',s2,t2,σ2,h3,k1,k2,k3,k4,k5,k6,k7,k8⟩
     ·have:=wPe HE HY Z J.e J.hs ha e1 r1
      rw [J.sim.nx _ this] at g
      cases g
     ·have hbo:b ∈ os:=by rw [J.e];simp [k1]
      have hne:a ≠ b:=fun e=>by subst e;rw [hS] at k2;cases k2
      obtain ⟨ob2,B2⟩:=wCn (Z.ao b hbo)
      have hb2:wKo b.op=true:=by
       rcases Z.kd b hbo with hh | ⟨_,hh | hh | hh | hh | hh⟩
       ·rw [k5] at hh;exact absurd hh (by decide)
       ·omega
       ·omega
       ·omega
       ·exact hh.2
       ·omega
      have hwb:wCa σ2 b.grd=true:=by
       have hlb:b.ix < l.length:=(na.1 k3).1
       have eo:ob2=ob':=by have:=B2.get;rw [k3] at this;exact (nK this).symm
       subst eo
       have:=(J.frm Z hbo hlb (hdc _ hlb k2) hdc B2 k6 k7).1
       rw [<- this]
       exact k4
      exact absurd k8 (nm_ne HE HY Z e1 k6 r1 k7 g1 hwb hk hk2 k5 hb2 hne)
   have hadd:=Mu.add_le (c:=(⟨w.heap.size,0,g0⟩:Cl)) hno
   have hsz:∀ q c,μS q=some c->c.1 < w.heap.size:=fun q c hq=>by
    rcases J.nm q c hq with g | ⟨b,ob',s2,t2,σ2,h3,k1,k2,k3,k4,k5,k6,k7,k8⟩
    ·exact J.sim.lt q c g
    ·obtain ⟨ob2,p2,Pd⟩:=J.pd b k1 k2
     have eo:ob2=ob':=by have:=Pd.get;rw [k3] at this;exact (nK this).symm
     subst eo
     rcases Pd.fact with ⟨f,_⟩ | ⟨_,⟨f,_⟩ | ⟨f,_⟩ | ⟨_,_,w1,o1,s3,t3,σ3,h4,_,f4,_,f6,f7,f8,_⟩⟩
     ·rw [k4] at f;cases f
     ·omega
     ·omega
     ·have es:s3=s2:=(wCj (f6 ▸ Z.one) (f6.symm.trans k6)).1
      subst es
      rw [k7] at f7
      cases f7
      subst k8
      rw [hq] at f8
      cases f8
      exact wAM f4
   refine .inl ⟨hw',.inr (.inl ⟨val w.heap.size,w.alloc ob,c1 w,μS.add h1.nx ⟨w.heap.size,0,g0⟩,J.add Z ha hS hfree hdc A (wAn w ob) hadd (fun q c hq=>?_) ⟨p,A.get,d1,.inr ⟨hwn _,.inr (.inr ⟨hk,?_,w,ob,s ++ r,r',σ1,h1,?_,heap_alloc_new w ob,J.E.keep.size,e1,r1,Mu.add_same _ _ _,fun q c hq hc=>?_⟩)⟩⟩⟩)⟩
   ·unfold Mu.add at hq
    split at hq
    ·rename_i eq
     cases hq
     exact .inr ⟨rfl,hw',hk,s ++ r,r',σ1,h1,e1,r1,eq⟩
    ·exact .inl hq
   ·rw [hv,eput,ev']
    exact c3 _ _ _ (Mu.add_same _ _ _)
   ·rw [eput]
    exact (Runs.agr hsel (hself _)).1 (c1 w)
   ·unfold Mu.add at hq
    split at hq
    ·rename_i eq
     exact eq
    ·have:=hsz q c hq
     omega
  ·have gY:opY a.op tb ex exY σ1 h1=some (v,h2):=wMS (by omega) g2
   refine clean (.inr (.inr hk)) ?_
   rcases wHT r with hz | ⟨x,b,y,er,hb0,hx0⟩
   ·exact loadC (.inr (.inr hk)) hk2 r (fun b hb=>by rw [et];simp [hb]) hrr gY (fun b hb h0=>hz b hb h0) hrd
   ·have e2:os=(s ++ x) ++ b :: (y ++ a :: r'):=by rw [J.e,et,er];simp
    have hfull2:=J.full
    rw [e2] at hfull2
    obtain ⟨σ2,h3,r3,_⟩:=wJx hfull2
    have hbt:b ∈ t:=by rw [et,er];simp
    have hanc:wNO y + 8 < a.kd:=by
     rcases Z.ld8 _ a _ e1 hk (s ++ x) b y (by rw [er];simp) hb0 with g | g
     ·have:=J.free b hbt (wDl hdc hp g)
      rw [hb0] at this
      cases this
     ·exact g
    have hlk:=HL _ b _ e2 hb0 _ _ r3
    have hsame:=wJN y a r' 0 hlk hfree (by omega)
    have hgf:wCa σg a.grd=true:=by
     rw [<- g1]
     cases hg:a.grd with
     | none=>rfl
     | some q =>
      obtain ⟨q,c⟩:=q
      show isB c (evA _ (.t q))=isB c (evA _ (.t q))
      have hqr:q ∈ wCB a:=nZ _ (by rw [hg];simp)
      rw [<- Hg a hao hk q (.inl hqr),hrd q hqr]
    unfold wHL at hsame
    rw [d1] at hsame
    simp only [hgf] at hsame
    split at hsame
    ·rename_i v' h5 hq
     have hvv:=wMO hsame
     rw [<- Hg a hao hk p (.inr d1),hv] at hvv
     subst hvv
     have hrx:wAZ tb ex exY x σA h=some (σ2,h3):=by rw [<- wDU s x _ _ _ _ J.hs];exact r3
     exact loadC (.inr (.inr hk)) hk2 x (fun b hb=>by rw [et,er];simp [hb]) hrx hq (fun b hb h0=>hx0 b hb h0) (fun q hq=>Hg a hao hk q (.inl hq))
    ·cases hsame
 ·refine .inr ⟨hw.trans g1,μS,J.add Z ha hS hfree hdc A (Keep.refl w _) (Mu.Le.refl _) (fun q c hq=>.inl hq) ⟨p,A.get,d1,.inl ⟨(wBw (hself _)).symm.trans (hw.trans g1),eput _,?_⟩⟩⟩
  exact wJR Z e1 (v:=u) g3 d1
theorem JS.catch (Z:ZOK P N l os) {μ0:Mu} {w0:World} {S:Nat->Bool}:∀ (r:List AO) {s t:List AO} {σA:Tr AV} {h:AH} {σ':Env} {μ:Mu},JS tb ex exY P l os σ0 h0 σf hf μ0 w0 S σ w s (r ++ t) σA h σ' μ μS->(∀ a ∈ r,S a.ix=true) ->
  ∃ σB hB σ'' μB,JS tb ex exY P l os σ0 h0 σf hf μ0 w0 S σ w (s ++ r) t σB hB σ'' μB μS
 | [],s,t,σA,h,σ',μ,J,_=>⟨σA,h,σ',μ,by rw [ni];exact J⟩
 | a :: r,s,t,σA,h,σ',μ,J,hS=>by
  obtain ⟨σB,hB,σ'',μB,J1⟩:=JS.catch1 (t:=r ++ t) Z J (hS a (by simp))
  obtain ⟨σC,hC,σ3,μC,J2⟩:=JS.catch Z r J1 fun b hb=>hS b (by simp [hb])
  exact ⟨σC,hC,σ3,μC,by rw [show s ++ a :: r=s ++ [a] ++ r by simp];exact J2⟩
theorem JS.anew {A B:List AO} {σm:Tr AV} {h2:AH} {μ0:Mu} {w0:World} {S:Nat->Bool} (J:JS tb ex exY P l A σ0 h0 σm h2 μ0 w0 S σ w s [] σA h σ' μ μS) (hr:wAZ tb ex exY B σm h2=some (σf,hf)) (hB:∀ b ∈ B,S b.ix=false) :
  Ext μ0 h0.fl.nat w0 μ w/\h2.fl=h0.fl/\JS tb ex exY P l B σm h2 σf hf μ w S σ w [] B σm h2 σ' μ μ:=by
 have hr1:=J.hr
 rw [wAo] at hr1
 cases hr1
 exact ⟨J.E,J.fl,rfl,wAo _ _ _ _ _,hr,fun b hb=>(by simp at hb),fun b hb hS=>(by rw [hB b hb] at hS;cases hS),Ext.refl μ _ w,J.sim,rfl,J.env,fun q _=>J.ag q fun b hb=>(by simp at hb),Mu.Le.refl _,fun q c hq=>.inl hq,fun b hb hS=>(by rw [hB b hb] at hS;cases hS)⟩
theorem CK.lazy {rr:Option Nat} {Q:wCp} {D:List Deferred} {id:Nat} (hm:P.follows .mixedOrders=true) (HC:wFn (CC P) P tb ex) (HY':wEn (CC P) P exY) (HE:FrX ex) (HY:FrX exY) (ZZ:∃ A B,ZAll P N l os A B) (HL0:LCK tb ex exY os σ0 h0 σf)
  (hr:wAZ tb ex exY os σ0 h0=some (σf,hf)) (S:Sim (CC P) P μ h0 w) (hE:EnvR μ σ0 σ)
  (hQ:∀ μ' w' σ',Ext μ h0.fl.nat w μ' w'->Sim (CC P) P μ' hf w'->EnvR μ' σf σ'->hf.fl=h0.fl->Q D .normal σ' w'):CK rr N P (.region id l.toArray true) Q D σ w:=by
 obtain ⟨A,B,ZZ⟩:=ZZ
 obtain ⟨σm,h2,hrA,hrB⟩:=wDQ A B σ0 h0 _ (ZZ.eq ▸ hr)
 have HL:LCK tb ex exY A σ0 h0 σf/\LCK tb ex exY B σm h2 σf:=by
  refine ⟨fun s b t e k0 σ1 h1 hs=>?_,wJs ZZ.low⟩
  have:=HL0 s b (t ++ B) (by rw [ZZ.eq,e];simp) k0 σ1 h1 hs
  exact wHo t B 0 this
 have Hg:∀ a ∈ A,8 <= a.kd->∀ p,p ∈ wCB a \/ a.dst=some p->evA σm (.t p)=evA σf (.t p):=fun a ha h8 p hp=>(wCi B _ _ _ _ hrB p fun b hb=>ZZ.far a ha h8 p hp b hb).symm
 have lt:∀ b ∈ os,b.ix < l.length:=fun b hb=>by
  rw [ZZ.eq] at hb
  rcases nH.1 hb with hb | hb
  ·obtain ⟨o,A⟩:=wCn (ZZ.za.ao b hb)
   exact (na.1 A.get).1
  ·obtain ⟨o,A⟩:=wCn (ZZ.zb.ao b hb)
   exact (na.1 A.get).1
 have stepB:∀ (S1:Nat->Bool) (a:AO) (σ1:Env) (w1:World) (μm:Mu) (wm:World) (s t:List AO) (σA:Tr AV) (h:AH) (σ':Env) (μ1 μS:Mu) (o:Oper),a ∈ B->S1 a.ix=false->(∀ j ∈ prI l a.ix,S1 j=true)->(∀ k,k < l.length->S1 k=true->∀ j ∈ prI l k,S1 j=true)->AOK P N l a o ->
   JS tb ex exY P l B σm h2 σf hf μm wm S1 σ1 w1 s t σA h σ' μ1 μS->Step1 P l o σ1 w1 fun v w'=>∃ s t σA h σ' μ1 μS,JS tb ex exY P l B σm h2 σf hf μm wm (fun k=>k == a.ix || S1 k) (put' σ1 o v) w' s t σA h σ' μ1 μS:=by
  intro S1 a σ1 w1 μm wm s t σA h σ' μ1 μS o ha hSi hpi hdc A J
  have hat:a ∈ t:=by
   have:=ha
   rw [J.e] at this
   rcases nH.1 this with h | h
   ·rw [J.inS a h] at hSi;cases hSi
   ·exact h
  cases hf:wBr a.kd with
  | true =>
   obtain ⟨r,r',et⟩:=nR hat
   rw [et] at J
   obtain ⟨σB,hB,σ'',μB,J1⟩:=JS.catch ZZ.zb r J fun b hb=>wDl hdc hpi (ZZ.zb.anc (s ++ r) a r' (by rw [J.e,nV]) hf b (by simp [hb]))
   refine (J1.fixed HC HY' HE HY ZZ.zb hf hSi hdc A).mono ?_
   rintro v w' ⟨σC,hC,σ3,μC,μT,J2⟩
   exact ⟨_,_,_,_,_,_,_,J2⟩
  | false =>
   refine (J.freeOp HE HY ZZ.zb HL.2 (fun _ _ _ _ _=>rfl) hat hSi hf hpi hdc A).mono ?_
   rintro v w' ⟨μT,J2⟩
   exact ⟨_,_,_,_,_,_,_,J2⟩
 have toB:∀ (S1:Nat->Bool) (σ1:Env) (w1:World) (s t:List AO) (σA:Tr AV) (h:AH) (σ':Env) (μ1 μS:Mu),(∀ a ∈ A,S1 a.ix=true)->(∀ b ∈ B,S1 b.ix=false)->JS tb ex exY P l A σ0 h0 σm h2 μ w S1 σ1 w1 s t σA h σ' μ1 μS ->
   ∃ μm σ',Ext μ h0.fl.nat w μm w1/\h2.fl=h0.fl/\JS tb ex exY P l B σm h2 σf hf μm w1 S1 σ1 w1 [] B σm h2 σ' μm μm:=by
  intro S1 σ1 w1 s t σA h σ' μ1 μS hA hB J
  have J0:JS tb ex exY P l A σ0 h0 σm h2 μ w S1 σ1 w1 s (t ++ []) σA h σ' μ1 μS:=by rw [ni];exact J
  obtain ⟨σB,hB',σ'',μB,J1⟩:=JS.catch ZZ.za t J0 fun b hb=>hA b (by rw [J.e];simp [hb])
  obtain ⟨g1,g2,g3⟩:=J1.anew hrB hB
  exact ⟨μB,σ'',g1,g2,g3⟩
 refine CK.anyRel hm ZZ.za.pr (fun S σ w1=>((∀ b ∈ B,S b.ix=false)/\∃ s t σA h σ' μ1 μS,JS tb ex exY P l A σ0 h0 σm h2 μ w S σ w1 s t σA h σ' μ1 μS) \/
  ((∀ a ∈ A,S a.ix=true)/\∃ μm wm,Ext μ h0.fl.nat w μm wm/\h2.fl=h0.fl/\∃ s t σA h σ' μ1 μS,JS tb ex exY P l B σm h2 σf hf μm wm S σ w1 s t σA h σ' μ1 μS)) ?_ ?_ ?_
 ·exact .inl ⟨fun b _=>rfl,[],A,σ0,h0,σ,μ,μ,rfl,wAo _ _ _ _ _,hrA,fun b hb=>(by simp at hb),fun b _ hb=>(by cases hb),Ext.drew μ _ w,S.keep (Keep.drew w),rfl,hE,fun _ _=>rfl,Mu.Le.refl _,fun q c hq=>.inl hq,fun b _ hb=>(by cases hb)⟩
 ·rintro S1 i σ1 w1 hi hSi hpi hdc hlt hI
  obtain ⟨a,ha,rfl⟩:=ZZ.all i hi
  rw [ZZ.eq] at ha
  rcases nH.1 ha with ha | ha
  ·obtain ⟨o,AK⟩:=wCn (ZZ.za.ao a ha)
   refine ⟨o,AK.get,wHQ AK,?_⟩
   rcases hI with ⟨hB,s,t,σA,h,σ',μ1,μS,J⟩ | ⟨hA,_⟩
   ·have hB':∀ b ∈ B,(fun k=>k == a.ix || S1 k) b.ix=false:=fun b hb=>by
     have:=(ZZ.cross b hb a ha).1
     simp [hB b hb,Ne.symm this]
    have hat:a ∈ t:=by
     have:=ha
     rw [J.e] at this
     rcases nH.1 this with h | h
     ·rw [J.inS a h] at hSi;cases hSi
     ·exact h
    cases hf:wBr a.kd with
    | true =>
     obtain ⟨r,r',et⟩:=nR hat
     rw [et] at J
     obtain ⟨σB,hB2,σ'',μB,J1⟩:=JS.catch ZZ.za r J fun b hb=>wDl hdc hpi (ZZ.za.anc (s ++ r) a r' (by rw [J.e,nV]) hf b (by simp [hb]))
     refine (J1.fixed HC HY' HE HY ZZ.za hf hSi hdc AK).mono ?_
     rintro v w' ⟨σC,hC,σ3,μC,μT,J2⟩
     exact .inl ⟨hB',_,_,_,_,_,_,_,J2⟩
    | false =>
     refine (J.freeOp HE HY ZZ.za HL.1 Hg hat hSi hf hpi hdc AK).mono ?_
     rintro v w' ⟨μT,J2⟩
     exact .inl ⟨hB',_,_,_,_,_,_,_,J2⟩
   ·rw [hA a ha] at hSi
    cases hSi
  ·obtain ⟨o,AK⟩:=wCn (ZZ.zb.ao a ha)
   refine ⟨o,AK.get,wHQ AK,?_⟩
   have hA:∀ c ∈ A,S1 c.ix=true:=fun c hc=>wDl hdc hpi (ZZ.cross a ha c hc).2
   rcases hI with ⟨hB,s,t,σA,h,σ',μ1,μS,J⟩ | ⟨_,μm,wm,g1,g2,s,t,σA,h,σ',μ1,μS,J⟩
   ·obtain ⟨μm,σ2,g1,g2,J1⟩:=toB S1 σ1 w1 s t σA h σ' μ1 μS hA hB J
    refine (stepB S1 a σ1 w1 _ _ _ _ _ _ _ _ _ o ha hSi hpi hdc AK J1).mono ?_
    rintro v w' ⟨s,t,σA,h,σ',μ1,μS,J2⟩
    exact .inr ⟨fun c hc=>by simp [hA c hc],_,_,g1,g2,_,_,_,_,_,_,_,J2⟩
   ·refine (stepB S1 a σ1 w1 _ _ _ _ _ _ _ _ _ o ha hSi hpi hdc AK J).mono ?_
    rintro v w' ⟨s,t,σA,h,σ',μ1,μS,J2⟩
    exact .inr ⟨fun c hc=>by simp [hA c hc],_,_,g1,g2,_,_,_,_,_,_,_,J2⟩
 ·rintro S1 σ1 w1 hall hI
  have hI2:∃ μm wm,Ext μ h0.fl.nat w μm wm/\h2.fl=h0.fl/\∃ s t σA h σ' μ1 μS,JS tb ex exY P l B σm h2 σf hf μm wm S1 σ1 w1 s t σA h σ' μ1 μS:=by
   rcases hI with ⟨hB,s,t,σA,h,σ',μ1,μS,J⟩ | ⟨_,hI⟩
   ·obtain ⟨μm,σ2,g1,g2,J1⟩:=toB S1 σ1 w1 s t σA h σ' μ1 μS (fun a ha=>hall _ (lt a (by rw [ZZ.eq];simp [ha]))) hB J
    exact ⟨_,_,g1,g2,_,_,_,_,_,_,_,J1⟩
   ·exact hI
  obtain ⟨μm,wm,g1,g2,s,t,σA,h,σ',μ1,μS,J⟩:=hI2
  have J0:JS tb ex exY P l B σm h2 σf hf μm wm S1 σ1 w1 s (t ++ []) σA h σ' μ1 μS:=by rw [ni];exact J
  obtain ⟨σB,hB,σ'',μB,J1⟩:=JS.catch ZZ.zb t J0 fun b hb=>hall _ (lt b (by rw [ZZ.eq,J.e];simp [hb]))
  have hr1:=J1.hr
  rw [wAo] at hr1
  cases hr1
  refine hQ μB w1 σ1 (g1.trans (g2 ▸ J1.E)) J1.sim (fun q=>?_) (J1.fl.trans g2)
  rw [J1.ag q fun b hb=>by simp at hb]
  exact J1.env q
end
end Go.KX
namespace Go.KX
open Go.RowKit Go.KL
section
variable {P:Program} {tb:Tr AF}
theorem wMV (hm:P.follows .mixedOrders=true) {ex exY:Run} (HC:wFn (CC P) P tb ex) (HY:wEn (CC P) P exY) (FE:FrX ex) (FY:FrX exY) {os:List AO} {σA σA':Tr AV} {h h':AH} (hr:wAZ tb ex exY os σA h=some (σA',h')) {id N:Nat} {ops:Array Oper} {draw:Bool} (hc:chkR P N os ops.toList draw=true)
  {rr:Option Nat} {μ:Mu} {σ:Env} {w:World} {D:List Deferred} {n0:Nat} (S:Sim (CC P) P μ h w) (hE:EnvR μ σA σ) (M:Mk μ w n0 D):CK rr N P (.region id ops draw) (PostX P μ h.fl w n0 rr D .nrm σA' h') D σ w:=by
 unfold chkR at hc
 simp only [nA,nJ] at hc
 obtain ⟨c1,c2⟩:=hc
 have hop:ops=ops.toList.toArray:=by simp
 have hcs:∀ a ∈ os,wGe P N ops.toList a=true/\kOf ((kA ops.toList.length).map fun i=>kdAt i os) a.ix=a.kd:=fun a ha=>⟨(c1 a ha).1,nB (c1 a ha).2⟩
 have post:∀ {w0:World},Ext μ h.fl.nat w μ w0->Sim (CC P) P μ h w0->OKS N P ops.toList (PostX P μ h.fl w n0 rr D .nrm σA' h') D ((kA ops.toList.length).map fun i=>kdAt i os) (wIY os) σ w0:=by
  intro w0 E0 S0
  refine wIZ HC HY os σA h σA' h' hr hcs μ σ w0 S0 hE fun μ' w' σ' q1 q2 q3 q4=>?_
  have E:=E0.trans q1
  exact ⟨rfl,μ',E,q2,q3,M.ext E,q4,fun _=>rfl⟩
 rw [hop]
 cases draw with
 | true =>
  simp only at c2
  split at c2
  ·simp only [nA,nJ,kB] at c2
   exact CK.lazy hm HC HY FE FY (wMI (fun a ha=>(c1 a ha).1) c2.2) (wJs c2.1) hr S hE fun μ' w' σ' q1 q2 q3 q4=>⟨rfl,μ',q1,q2,q3,M.ext q1,q4,fun _=>rfl⟩
  ·exact CK.anyOrd hm _ _ c2 (post (Ext.drew μ _ w) (S.keep (Keep.drew w)))
 | false=>exact CK.reg _ c2 (post (Ext.refl μ _ w) S)
theorem wNi {ex:Run} (HC:wFn (CC P) P tb ex) {g:AOd} {t:List Pos} {asg body:AC} {g':Operand} {ps:Array Tmp} {asg' body':Code} {N:Nat} (hc:wFJ P N (.rf g t asg body) (.rangeFunc g' ps asg' body')=true)
  {σA σA':Tr AV} {h h':AH} {e:Ex} (hr:sRf true g t asg body tb ex σA h=some (e,σA',h')) {μ:Mu} {σ:Env} {w:World} {D:List Deferred} {n0:Nat} (S:Sim (CC P) P μ h w) (hE:EnvR μ σA σ) (M:Mk μ w n0 D) (hn:n0 <= w.heap.size) :
  CK none N P (.rangeFunc g' ps asg' body') (PostX P μ h.fl w n0 none D e σA' h') D σ w:=by
 simp only [wFJ,nA] at hc
 obtain ⟨c1,c2,c3,c4⟩:=hc
 obtain ⟨p,rfl⟩:∃ p:List Nat,ps=p.toArray:=⟨ps.toList,by simp⟩
 ·obtain ⟨ht,c6⟩:=wJt (by simpa using c2)
  unfold sRf at hr
  split at hr
  ·rename_i f fi ca hg
   have hx:=wAH c1 hE
   rw [hg] at hx
   obtain ⟨fv,cv,g1,g2,g3⟩:=hx
   split at hr <;> first | (cases hr;done) | skip
   rename_i rv h2 hcall
   obtain ⟨hcf,hgv⟩:=HC _ _ _ _ _ hcall
   refine CK.rangeFunc (t:=p) g3 hcf fun fn l rb w1 e1 e2 hl hd K hs=>?_
   subst e1 e2
   have hle:=Mu.add_le (c:=(⟨w.heap.size + 1,0,⟨N,σ,p,asg',body',w.heap.size,fn⟩⟩:Cl)) (S.nx h.nx (nE _))
   obtain ⟨s1,s2,s3,s4⟩:=S.push (w':=w1) (c:=⟨w.heap.size + 1,0,⟨N,σ,p,asg',body',w.heap.size,fn⟩⟩) (B:=.loop σA t asg body .ready) K (Nat.le_succ _) (by show w.heap.size + 1 < _;omega) ⟨hl,hE.mono hle,ht,c6,c3,c4⟩
   generalize hμ1:μ.add h.nx (⟨w.heap.size + 1,0,⟨N,σ,p,asg',body',w.heap.size,fn⟩⟩:Cl)=μ1 at *
   have M1:Mk μ1 w1 n0 (mark w.heap.size :: D):=by
    have M':=M.ext s2
    obtain ⟨rbs,m1,m2,m3⟩:=M'
    have hold:∀ rb ∈ rbs,rb < w.heap.size:=by
     obtain ⟨rbs0,k1,k2,k3⟩:=M
     intro rb hrb
     have hmm:rbs.map mark=rbs0.map mark:=by rw [<- m1,<- k1]
     have hinj:rbs=rbs0:=by
      have:∀ (a b:List Nat),a.map mark=b.map mark->a=b:=by
       intro a
       induction a with
       | nil=>intro b hb;cases b with
        | nil=>rfl
        | cons _ _=>simp at hb
       | cons x a ih=>intro b hb;cases b with
        | nil=>simp at hb
        | cons y b =>
         simp only [nQ,nT] at hb
         have hxy:x=y:=by have:=hb.1;simp [mark] at this;exact this
         rw [hxy,ih b hb.2]
      exact this _ _ hmm
     exact (k3 rb (hinj ▸ hrb)).1.lt
    refine ⟨w.heap.size :: rbs,by rw [nQ,<- m1],kG.2 ⟨fun hm=>absurd (hold _ hm) (ki _),m2⟩,fun rb hrb=>?_⟩
    rcases nG.1 hrb with rfl | hrb
    ·refine ⟨hd,hn,fun q c hq=>?_⟩
     rw [<- hμ1] at hq
     unfold Mu.add at hq
     split at hq
     ·cases hq;show w.heap.size + 1 ≠ _;omega
     ·have:=S.lt q c hq;omega
    ·exact m3 rb hrb
   have G:=hgv μ1 w1 (fv ++ (.func (.yield (w.heap.size + 1)) #[] #[] :: cv)) s1 (wDi (g1.mono s2.mono) (wBM ⟨_,s4,rfl⟩ (g2.mono s2.mono)))
   rw [nV]
   refine G.mono ?_
   rintro v3 w3 ⟨μ3,q1,q2,q3,q4⟩
   rw [s3] at q1 q4
   have E13:=s2.trans q1
   have hc3:=q1.mono _ _ s4
   have fin:∀ {B:AB} {h3:AH} (w4:World),h2.m.get h.nx=some B->wKW B->h2.put h.nx .dead=some h3->Keep w3 w4 (·=w.heap.size + 1)->w4.heap.size=w3.heap.size->∃ μ',Ext μ h.fl.nat w μ' w4/\Sim (CC P) P μ' h3 w4/\EnvR μ' σA σ/\Mk μ' w4 n0 (mark w.heap.size :: D)/\h3.fl=h.fl:=by
    intro B h3 w4 hB hlv hput K4 _
    obtain ⟨v1,v2,v3⟩:=q2.put hput hB hlv hc3 K4 (B':=.dead) trivial
    rw [q4] at v2 v3
    exact ⟨μ3,E13.trans v2,v1,hE.mono E13.mono,(M1.ext q1).ext v2,v3⟩
   split at hr
   ·rename_i sx tx ax bx hB
    split at hr <;> first | (cases hr;done) | skip
    rename_i h3 hput
    cases hr
    obtain ⟨c',u1,u2⟩:=q2.at_ _ _ hB
    rw [hc3] at u1;cases u1
    have L3:wKV (CC P) μ3 w3 ⟨w.heap.size + 1,0,⟨N,σ,p,asg',body',w.heap.size,fn⟩⟩ sx tx ax bx .ready:=u2
    refine .inl ⟨L3.at_,fun w4 K4 hs4=>?_⟩
    obtain ⟨μ',a1,a2,a3,a4,a5⟩:=fin w4 hB trivial hput K4 hs4
    exact ⟨rfl,μ',a1,a2,a3,a4,a5,fun hq=>by cases hq⟩
   ·rename_i sx tx ax bx ee hB
    split at hr <;> first | (cases hr;done) | skip
    rename_i h3 hput
    cases hr
    obtain ⟨c',u1,u2⟩:=q2.at_ _ _ hB
    rw [hc3] at u1;cases u1
    have L3:wKV (CC P) μ3 w3 ⟨w.heap.size + 1,0,⟨N,σ,p,asg',body',w.heap.size,fn⟩⟩ sx tx ax bx (.done e):=u2
    cases e with
    | nrm =>
     refine .inl ⟨L3.at_,fun w4 K4 hs4=>?_⟩
     obtain ⟨μ',a1,a2,a3,a4,a5⟩:=fin w4 hB trivial hput K4 hs4
     exact ⟨rfl,μ',a1,a2,a3,a4,a5,fun hq=>by cases hq⟩
    | ret =>
     refine .inr ⟨.ret,.inl rfl,L3.at_,fun w4 K4 hs4=>?_⟩
     obtain ⟨μ',a1,a2,a3,a4,a5⟩:=fin w4 hB trivial hput K4 hs4
     exact ⟨rfl,μ',a1,a2,a3,a4,a5,fun hq=>by cases hq⟩
    | exit i =>
     refine .inr ⟨.exit i,.inr ⟨i,rfl⟩,L3.at_,fun w4 K4 hs4=>?_⟩
     obtain ⟨μ',a1,a2,a3,a4,a5⟩:=fin w4 hB trivial hput K4 hs4
     exact ⟨rfl,μ',a1,a2,a3,a4,a5,fun hq=>by cases hq⟩
   ·cases hr
  ·cases hr
theorem CK.ofRounds {rr:Option Nat} {N:Nat} {c:Code} {Q:wCp} {D:List Deferred} {σ:Env} {w:World} (m:Nat) (hh:∀ a,Rep N D a σ->Code.roundsIn (WF rr) 0 P c (wGx N Q) m a w):CK rr N P (.loop c) Q D σ w :=
 fun a ha=>wpIn_loop_rounds m (hh a ha)
theorem wRF {exR:Run} {r:Bool} (HE:wIa P exR r) {a b:AC} {σA σA':Tr AV} {h h':AH} {e:Ex} (hr:wQb a b exR σA h=some (e,σA',h')) {c d:Code} {N:Nat} (hc1:wFJ P N a c=true) (hc2:wFJ P N b d=true)
  {rr:Option Nat} {μ:Mu} {σ:Env} {w:World} {D:List Deferred} {n0:Nat} (hrr:rr.isSome=r) (S:Sim (CC P) P μ h w) (hE:EnvR μ σA σ) (M:Mk μ w n0 D) (hn:n0 <= w.heap.size):CK rr N P (.seq c d) (PostX P μ h.fl w n0 rr D e σA' h') D σ w:=by
 obtain ⟨⟨e1,σ1,h1⟩,ha,hb⟩:=wQI hr
 rw [wJQ] at hb
 refine CK.seq ((HE _ _ _ _ _ _ ha c N hc1 rr μ σ w D n0 hrr S hE M hn).mono ?_)
 intro D' e' σ' w' hp
 obtain ⟨rfl,μ1,q1,q2,q3,q4,q5,q6⟩:=hp
 cases e1 with
 | nrm =>
  refine (HE _ _ _ _ _ _ hb d N hc2 rr μ1 σ' w' D' n0 hrr q2 q3 q4 (kJ hn q1.keep.size)).mono ?_
  intro D'' e'' σ'' w'' hp
  rw [q5] at hp
  exact PostX.trans q1 q6 hp
 | ret=>cases hb;exact ⟨rfl,μ1,q1,q2,q3,q4,q5,q6⟩
 | exit i=>cases hb;exact ⟨rfl,μ1,q1,q2,q3,q4,q5,q6⟩
theorem wPf {exR:Run} {r:Bool} {m:Nat} (HE:wIa P exR r) (HL:wMJ P exR r m) {a:AC} {σA σA':Tr AV} {h h':AH} {e:Ex} (hr:wLb a exR σA h=some (e,σA',h')) {c:Code} {N:Nat} (hc:wFJ P N a c=true)
  {rr:Option Nat} {μ:Mu} {σ:Env} {w:World} {D:List Deferred} {n0:Nat} (hrr:rr.isSome=r) (S:Sim (CC P) P μ h w) (hE:EnvR μ σA σ) (M:Mk μ w n0 D) (hn:n0 <= w.heap.size):∀ act,Rep N D act σ->Code.roundsIn (WF rr) 0 P c (wGx N (PostX P μ h.fl w n0 rr D e σA' h')) (m + 1) act w:=by
 obtain ⟨⟨e1,σ1,h1⟩,ha,hb⟩:=wQI hr
 rw [wJQ] at hb
 intro act hact
 rw [roundsIn_succ]
 refine wpIn_mono (HE _ _ _ _ _ _ ha c N hc rr μ σ w D n0 hrr S hE M hn act hact) ?_
 rintro e' act' w' ⟨σ',D',hrep,hp⟩
 obtain ⟨rfl,μ1,q1,q2,q3,q4,q5,q6⟩:=hp
 cases e1 with
 | nrm =>
  refine wGh ?_ m act' w' (HL _ _ _ _ _ _ hb c N hc rr μ1 σ' w' D' n0 hrr q2 q3 q4 (kJ hn q1.keep.size) act' hrep)
  rintro e'' act'' w'' ⟨σ'',D'',hrep',hp⟩
  rw [q5] at hp
  exact ⟨σ'',D'',hrep',PostX.trans q1 q6 hp⟩
 | ret=>cases hb;exact ⟨σ',D',hrep,rfl,μ1,q1,q2,q3,q4,q5,q6⟩
 | exit i=>cases hb;exact ⟨σ',D',hrep,rfl,μ1,q1,q2,q3,q4,q5,q6⟩
theorem wPg (hm:P.follows .mixedOrders=true) (T:wKd P tb):∀ (n:Nat) (r:Bool),wIa P (exec tb n r) r/\wMJ P (exec tb n r) r n:=by
 intro n
 induction n with
 | zero=>intro r;exact ⟨fun c σA h e σA' h' hr=>(by cases hr),fun c σA h e σA' h' hr=>(by cases hr)⟩
 | succ n ih =>
  intro r
  have HC:=wMK T (ih false).1
  have HY:=wNf (P:=P) (ih true).1
  obtain ⟨HE,HL⟩:=ih r
  have loop:wMJ P (exec tb (n + 1) r) r (n + 1):=by
   intro c σA h e σA' h' hr code N hc rr μ σ w D n0 hrr S hE M hn
   have hr:wLb c (exec tb n r) σA h=some (e,σA',h'):=hr
   exact wPf HE HL hr hc hrr S hE M hn
  refine ⟨?_,loop⟩
  intro c σA h e σA' h' hr code N hc rr μ σ w D n0 hrr S hE M hn
  rw [wIR] at hr
  cases c with
  | skip =>
   have hr:sNrm σA h=some (e,σA',h'):=hr
   cases hr
   have fin:PostX P μ h.fl w n0 rr D .nrm σA h D .normal σ w:=⟨rfl,μ,Ext.refl μ _ w,S,hE,M,rfl,fun _=>rfl⟩
   cases code <;> simp only [wFJ,nD] at hc
   ·exact CK.skip fin
   ·exact CK.label fin
  | rg os =>
   have hr:sRg os tb (exec tb n false) (exec tb n true) (exec tb n r) σA h=some (e,σA',h'):=hr
   unfold sRg at hr
   have:∃ y,wAZ tb (exec tb n false) (exec tb n true) os σA h=some y/\some (Ex.nrm,y.1,y.2)=some (e,σA',h'):=by
    cases hq:wAZ tb (exec tb n false) (exec tb n true) os σA h with
    | none=>rw [hq] at hr;cases hr
    | some y=>rw [hq] at hr;exact ⟨y,rfl,hr⟩
   obtain ⟨y,h1,h2⟩:=this
   cases h2
   cases code <;> simp only [wFJ,nD] at hc
   exact wMV hm HC HY (wEp tb n false) (wEp tb n true) h1 hc S hE M
  | seq a b =>
   have hr:wQb a b (exec tb n r) σA h=some (e,σA',h'):=hr
   cases code <;> simp only [wFJ,nD,nA] at hc
   exact wRF HE hr hc.1 hc.2 hrr S hE M hn
  | cond x a b =>
   have hr:wLa x a b (exec tb n r) σA h=some (e,σA',h'):=hr
   cases code <;> simp only [wFJ,nD,nA] at hc
   have hx:=wAH hc.1 hE
   unfold wLa at hr
   split at hr
   ·rename_i hb;rw [hb] at hx
    exact CK.condT hx (HE _ _ _ _ _ _ hr _ N hc.2.1 rr μ σ w D n0 hrr S hE M hn)
   ·rename_i hb;rw [hb] at hx
    exact CK.condF hx (HE _ _ _ _ _ _ hr _ N hc.2.2 rr μ σ w D n0 hrr S hE M hn)
   ·cases hr
  | block i a =>
   have hr:wJh i a (exec tb n r) σA h=some (e,σA',h'):=hr
   cases code <;> simp only [wFJ,nD,nA] at hc
   rename_i j code
   have hij:=nB hc.1
   subst hij
   obtain ⟨⟨e1,σ1,h1⟩,ha,hb⟩:=wQI hr
   refine CK.block ((HE _ _ _ _ _ _ ha code N hc.2 rr μ σ w D n0 hrr S hE M hn).mono ?_)
   rintro D' e' σ' w' ⟨rfl,μ1,q1,q2,q3,q4,q5,q6⟩
   cases e1 with
   | nrm=>cases hb;exact ⟨rfl,μ1,q1,q2,q3,q4,q5,q6⟩
   | ret=>cases hb;exact ⟨rfl,μ1,q1,q2,q3,q4,q5,q6⟩
   | exit k =>
    have hb:Bool.rec (motive:=fun _=>R) (some (.exit k,σ1,h1)) (some (.nrm,σ1,h1)) (nM k i)=some (e,σA',h'):=hb
    cases hk:nM k i with
    | true =>
     rw [hk] at hb;cases hb
     have:=nB hk
     subst this
     exact wHX ⟨rfl,μ1,q1,q2,q3,q4,q5,q6⟩
    | false =>
     rw [hk] at hb;cases hb
     exact wNQ ⟨rfl,μ1,q1,q2,q3,q4,q5,q6⟩ hk
  | loop a =>
   have hr':exec tb (n + 1) r (.loop a) σA h=some (e,σA',h'):=hr
   cases code <;> simp only [wFJ,nD] at hc
   exact CK.ofRounds (n + 1) (loop _ _ _ _ _ _ hr' _ N hc rr μ σ w D n0 hrr S hE M hn)
  | rf g t asg body =>
   have hr:sRf (!r) g t asg body tb (exec tb n false) σA h=some (e,σA',h'):=hr
   cases r with
   | true=>unfold sRf at hr;simp at hr
   | false =>
    have hnone:rr=none:=by cases rr <;> first | rfl | cases hrr
    subst hnone
    cases code <;> first | (simp only [wFJ,nD] at hc;done) | skip
    exact wNi HC hc hr S hE M hn
  | exit i =>
   have hr:some (Ex.exit i,σA,h)=some (e,σA',h'):=hr
   cases hr
   cases code <;> simp only [wFJ,nD] at hc
   have:=nB hc
   subst this
   exact CK.exit ⟨rfl,μ,Ext.refl μ _ w,S,hE,M,rfl,fun _=>rfl⟩
  | scope a =>
   have hr:exec tb n r a σA h=some (e,σA',h'):=hr
   cases code <;> simp only [wFJ,nD] at hc
   refine CK.scope ((HE _ _ _ _ _ _ hr _ N hc rr μ σ w D n0 hrr S hE M hn).mono ?_)
   rintro D' e' σ' w' ⟨rfl,q⟩
   cases e with
   | nrm=>exact ⟨rfl,q⟩
   | ret=>exact ⟨rfl,q⟩
   | exit k=>exact ⟨rfl,q⟩
  | ret =>
   have hr:some (Ex.ret,σA,h)=some (e,σA',h'):=hr
   cases hr
   cases code <;> simp only [wFJ,nD] at hc
   exact CK.ret ⟨rfl,μ,Ext.refl μ _ w,S,hE,M,rfl,fun _=>rfl⟩
  | rl os =>
   have hr:sRl os tb (exec tb n false) (exec tb n true) σA h=some (e,σA',h'):=hr
   rw [wOK] at hr
   split at hr
   ·rename_i y hq
    cases hr
    obtain ⟨g1,g2⟩:=wJO _ _ _ _ hq
    cases code <;> simp only [wFJ,nD,nA,nJ] at hc
    rename_i id ops draw
    obtain ⟨rfl,c1,c2⟩:=hc
    have hop:ops=ops.toList.toArray:=by simp
    rw [hop]
    exact CK.lazy hm HC HY (wEp tb n false) (wEp tb n true) (wMI c1 c2) g2 g1 S hE fun μ' w' σ' q1 q2 q3 q4=>⟨rfl,μ',q1,q2,q3,M.ext q1,q4,fun _=>rfl⟩
   ·cases hr
theorem Sim.empty (C:Chk) (P:Program) (w:World):Sim C P (fun _=>none) ⟨.e,.H,.H⟩ w :=
 ⟨fun _ _=>rfl,fun _ _ h=>(by cases h),fun _ _ _ _ _ _ h=>(by rw [Tr.get_e] at h;cases h),fun _ _ h=>(by rw [Tr.get_e] at h;cases h)⟩
theorem wKg (hm:P.follows .mixedOrders=true) (T:wKd P tb) (n:Nat) (f:Pos) (args:List AV) (vs:List Value) (v:AV) (h:AH) (hv:∀ μ,RvL μ args vs) (hr:wIO tb (exec tb n false) f args ⟨.e,.H,.H⟩=some (v,h)) (w:World) :
  Gv P (f.nat - 1) vs w fun cv w'=>∃ μ,Rv μ v cv/\Keep w w' Non:=by
 obtain ⟨_,hg⟩:=wMK T (wPg hm T n false).1 f args _ v h hr
 refine (hg _ w vs (Sim.empty _ _ w) (hv _)).mono ?_
 rintro cv w' ⟨μ',h1,h2,h3,_⟩
 exact ⟨μ',h3,h1.keep.weak fun i _ ⟨p,d,hp,_⟩=>by cases hp⟩
noncomputable def okB (tb:Tr AF) (n:Nat) (f:Pos) (b:Bool):Bool:=match wIO tb (exec tb n false) f [] ⟨.e,.H,.H⟩ with
 | some (.bool b',_)=>b' == b
 | _=>false
theorem wNj (hm:P.follows .mixedOrders=true) (T:wKd P tb) (n:Nat) (f:Pos) (k:Nat) (hk:f.nat=k + 1) (b:Bool) (hr:okB tb n f b=true) (w:World):Gv P k [] w fun cv w'=>cv=.bool b/\Keep w w' Non:=by
 unfold okB at hr
 split at hr
 ·rename_i b' h hq
  have hb:=eq_of_beq hr
  subst hb
  have:=wKg hm T n f [] [] _ h (fun _=>rfl) hq w
  rw [hk] at this
  refine this.mono ?_
  rintro cv w' ⟨μ,h1,h2⟩
  exact ⟨h1,h2⟩
 ·cases hr
def wMW (f:Nat->AF->Prop):Tr AF->(Nat->Nat)->Prop
 | .e,_=>True
 | .n l v r,g=>(match v with | none=>True | some a=>f (g 1) a)/\wMW f l (fun n=>g (2 * n))/\wMW f r (fun n=>g (2 * n + 1))
theorem wGl {f:Nat->AF->Prop}:∀ {t:Tr AF} {g:Nat->Nat},wMW f t g->∀ p a,t.get p=some a->f (g p.nat) a
 | .e,g,_,p,a,hq=>by rw [Tr.get_e] at hq;cases hq
 | .n l v r,g,⟨h1,h2,h3⟩,.H,a,hq=>by
  rw [Tr.get_H] at hq;subst hq;exact h1
 | .n l v r,g,⟨h1,h2,h3⟩,.O p,a,hq=>wGl h2 p a hq
 | .n l v r,g,⟨h1,h2,h3⟩,.I p,a,hq=>wGl h3 p a hq
theorem wRG (h:wMW (fun n a=>chkF P (n - 1) a=true) tb fun n=>n):wKd P tb:=fun p af hq=>wGl h p af hq
end
end Go.KX
namespace Go.KL
variable {S S' B B' α:Type}
theorem wJz {body:Nat->S->Option (S ⊕ B)} (I:Nat->S->Prop) (Z:B->Prop):∀ (m k:Nat) (s:S),I k s ->
  (∀ i s,k <= i->i < k + m->I i s->(∃ s',body i s=some (.inl s')/\I (i + 1) s') \/ ∃ b,body i s=some (.inr b)/\Z b) ->
  (∃ s',forN body m k s=some (.inl s')/\I (k + m) s') \/ ∃ b,forN body m k s=some (.inr b)/\Z b
 | 0,k,s,h,_=>.inl ⟨s,rfl,h⟩
 | m + 1,k,s,h,hb=>by
  simp only [forN]
  rcases hb k s (nE _) (by omega) h with ⟨s',h1,h2⟩ | ⟨b,h1,h2⟩
  ·rw [h1]
   have:=wJz I Z m (k + 1) s' h2 fun i s h2 h3 h4=>hb i s (by omega) (by omega) h4
   rwa [show k + 1 + m=k + (m + 1) from by omega] at this
  ·rw [h1];exact .inr ⟨b,rfl,h2⟩
theorem wEL {body:Nat->S->Option S} (I:Nat->S->Prop):∀ (m k:Nat) (s:S),I k s ->
  (∀ i s,k <= i->i < k + m->I i s->∃ s',body i s=some s'/\I (i + 1) s')->∃ s',forN' body m k s=some s'/\I (k + m) s'
 | 0,k,s,h,_=>⟨s,rfl,h⟩
 | m + 1,k,s,h,hb=>by
  simp only [forN']
  obtain ⟨s',h1,h2⟩:=hb k s (nE _) (by omega) h
  rw [h1]
  have:=wEL I m (k + 1) s' h2 fun i s h2 h3 h4=>hb i s (by omega) (by omega) h4
  rwa [show k + 1 + m=k + (m + 1) from by omega] at this
theorem wGo {body:Nat->S->Option (S ⊕ B)} {n:Nat} {s:S} (hn:n <= 9223372036854775807):wHa 0 (n:Int) body s=forN body n 0 s:=by
 unfold wHa
 rw [if_pos (by omega),show ((n:Int) - 0).toNat=n from by omega]
theorem wDb {body:Nat->S->Option S} {n:Nat} {s:S} (hn:n <= 9223372036854775807):wCu 0 (n:Int) body s=forN' body n 0 s:=by
 unfold wCu
 rw [if_pos (by omega),show ((n:Int) - 0).toNat=n from by omega]
def first (p:α->Bool):List α->Nat->Int
 | [],_=>-1
 | a :: l,k=>if p a then (k:Int) else first p l (k + 1)
theorem wFN (p:α->Bool):∀ (l:List α) (k:Nat),decide (0 <= first p l k)=l.any p
 | [],k=>by simp [first]
 | a :: l,k=>by
  rw [first,kk]
  by_cases h:p a
  ·simp [h]
  ·simp [h,wFN p l (k + 1)]
theorem wEQ {R:Type} {l:List α} {f:α->Option Bool} {p:α->Bool} (hf:∀ a ∈ l,f a=some (p a)) (hn:l.length <= 9223372036854775807) (z:Int->R) :
  (jn (wHa 0 (↑l.length:Int) (fun k2 (_:Unit)=>(idx l (↑k2:Int)).bind fun x=>(f x).bind fun y=>if y=true then esc (some (z (↑k2:Int))) else some (.inl ())) ()) fun _=>some (z (-1)))=some (z (first p l 0)):=by
 rw [wGo hn]
 have key:∀ (m k:Nat),k + m=l.length->(jn (forN (fun k2 (_:Unit)=>(idx l (↑k2:Int)).bind fun x=>(f x).bind fun y=>if y=true then esc (some (z (↑k2:Int))) else some (.inl ())) m k ()) fun _=>some (z (-1)))=some (z (first p (l.drop k) k)):=by
  intro m
  induction m with
  | zero=>intro k hk;rw [ke (by omega)];rfl
  | succ m ih =>
   intro k hk
   have hlt:k < l.length:=by omega
   rw [kS hlt,first,forN,wKv,nq hlt]
   simp only [hH,hf _ (List.getElem_mem hlt)]
   by_cases h:p l[k]=true
   ·simp [h]
   ·simp only [h,if_false,nD]
    exact ih (k + 1) (by omega)
 exact key l.length 0 (by omega)
theorem wEc {bytes:Nat} {l m:List α} (h:(l.length + m.length) * bytes <= 140737488355328):app bytes l m=some (l ++ m):=if_pos h
end Go.KL
namespace Go.KL
variable {S B R α β:Type}
theorem wIc {body:Nat->S->Option S} (s:Nat->S):∀ (m k:Nat),(∀ i,k <= i->i < k + m->body i (s i)=some (s (i + 1)))->forN' body m k (s k)=some (s (k + m))
 | 0,_,_=>rfl
 | m + 1,k,h=>by
  rw [forN',h k (nE _) (by omega)]
  have:=wIc s m (k + 1) fun i h1 h2=>h i (by omega) (by omega)
  rw [show k + 1 + m=k + (m + 1) by omega] at this
  exact this
theorem wFO {body:Nat->S->Option S} {n:Nat} {s0:S} (s:Nat->S) (h0:s 0=s0) (hn:n <= 9223372036854775807) (h:∀ i,i < n->body i (s i)=some (s (i + 1))):wCu 0 (n:Int) body s0=some (s n):=by
 rw [wDb hn,<- h0]
 have:=wIc s n 0 fun i _ hi=>h i (by omega)
 rwa [nr] at this
theorem wCe [Inhabited α] {l:List α} {k:Nat} (h:k < l.length):idx l (k:Int)=some (gd l k):=by
 rw [wKv]
 exact wBx h
theorem wJU [Inhabited α] {l:List α} {k:Nat} (h:k < l.length):gd l k ∈ l:=List.mem_of_getElem? (wBx h)
theorem wFd [Inhabited α] {l:List α} {k:Nat} (h:k < l.length):l.take (k + 1)=l.take k ++ [gd l k]:=by
 rw [List.take_add_one,wBx h]
 rfl
theorem wPh [Inhabited α] {l:List α} {k:Nat} (h:k < l.length):l.drop k=gd l k :: l.drop (k + 1):=by
 have:=wBx h
 rw [nq h] at this
 rw [kS h,nK this]
theorem wKA [Inhabited α] {l m:List α} {k:Nat} (h:k < l.length):gd (l ++ m) k=gd l k:=by
 have h1:=wBx (xs:=l ++ m) (k:=k) (by rw [nh];omega)
 rw [kR h,wBx h] at h1
 exact (nK h1).symm
theorem wKB [Inhabited α] (l m:List α) (x:α):gd (l ++ x :: m) l.length=x:=by
 have h1:=wBx (xs:=l ++ x :: m) (k:=l.length) (by simp)
 rw [kC (nE _),km] at h1
 exact (nK h1).symm
end Go.KL
namespace Go.KL
def wBy (f:Nat->Int):Nat->Int
 | 0=>0
 | k + 1=>wBy f k + f k
theorem wBD {f g:Nat->Int}:∀ n,(∀ i,i < n->f i=g i)->wBy f n=wBy g n
 | 0,_=>rfl
 | n + 1,h=>by rw [wBy,wBy,wBD n fun i hi=>h i (by omega),h n (by omega)]
theorem wGp {f g:Nat->Int}:∀ n,(∀ i,i < n->f i <= g i)->wBy f n <= wBy g n
 | 0,_=>kE _
 | n + 1,h=>by
  have a:=wGp n fun i hi=>h i (by omega)
  have b:=h n (by omega)
  rw [wBy,wBy];omega
theorem wCR {f:Nat->Int}:∀ n,(∀ i,i < n->f i=0)->wBy f n=0
 | 0,_=>rfl
 | n + 1,h=>by rw [wBy,wCR n fun i hi=>h i (by omega),h n (by omega)];rfl
theorem wMY {f:Nat->Int} (n:Nat) (h:∀ i,i < n->0 <= f i):0 <= wBy f n:=by
 have:=wGp (f:=fun _=>0) n h
 rwa [wCR n fun _ _=>rfl] at this
theorem wFe {f:Nat->Int}:∀ {n:Nat},(∀ i,i < n->0 <= f i)->∀ {k:Nat},k < n->f k <= wBy f n
 | 0,_,k,hk=>by omega
 | n + 1,h,k,hk=>by
  have a:=wMY n fun i hi=>h i (by omega)
  have b:=h n (by omega)
  rw [wBy]
  by_cases e:k=n
  ·rw [e];omega
  ·have:=wFe (fun i hi=>h i (by omega)) (show k < n by omega);omega
theorem wDn {f g:Nat->Int}:∀ n,wBy (fun i=>f i + g i) n=wBy f n + wBy g n
 | 0=>rfl
 | n + 1=>by rw [wBy,wBy,wBy,wDn n];omega
theorem wGq {f:Nat->Nat->Int} {m:Nat}:∀ n,wBy (fun i=>wBy (f i) m) n=wBy (fun j=>wBy (fun i=>f i j) n) m
 | 0=>by
  show (0:Int)=_
  exact (wCR m fun _ _=>rfl).symm
 | n + 1=>by
  rw [wBy,wGq n,<- wDn]
  rfl
theorem wFP {k:Nat} {v:Int}:∀ {n:Nat},k < n->wBy (fun i=>if i=k then v else 0) n=v
 | 0,h=>by omega
 | n + 1,h=>by
  rw [wBy]
  by_cases e:k=n
  ·subst e
   rw [if_pos rfl,wCR k fun i hi=>if_neg (by omega)]
   omega
  ·rw [if_neg (by omega),wFP (by omega)]
   omega
theorem wDA {f g:Nat->Int} {k n:Nat} (hk:k < n) (h:∀ i,i < n->i ≠ k->g i=f i):wBy g n=wBy f n + (g k - f k):=by
 have:wBy g n=wBy (fun i=>f i + if i=k then g k - f k else 0) n:=wBD n fun i hi=>by
  by_cases e:i=k
  ·subst e;rw [if_pos rfl];omega
  ·rw [if_neg e,h i hi e];omega
 rw [this,wDn,wFP hk]
theorem wMZ {p:Bool} {f:Nat->Int} {n:Nat}:wBy (fun i=>if p=true then f i else 0) n=if p=true then wBy f n else 0:=by
 cases p
 ·simp only [nD,if_false];exact wCR n fun _ _=>rfl
 ·simp only [if_true]
structure Asg (n:Nat) (can:Nat->Nat->Bool) (sh dn:Nat->Int) (x:Nat->Nat->Int):Prop where
 nn:∀ s l,s < n->l < n->0 <= x s l
 pos:∀ s l,s < n->l < n->0 < x s l->can s l=true
 row:∀ s,s < n->wBy (x s) n <= sh s
 col:∀ l,l < n->wBy (fun s=>x s l) n=dn l
def adj (n:Nat) (can:Nat->Nat->Bool) (L:Nat->Bool) (s:Nat):Bool:=(kA n).any fun l=>L l && can s l
theorem wGr {n:Nat} {can:Nat->Nat->Bool} {L:Nat->Bool} {s:Nat}:adj n can L s=true ↔ ∃ l,l < n/\L l=true/\can s l=true:=by
 unfold adj
 rw [kK]
 constructor
 ·rintro ⟨l,h1,h2⟩
  rw [nA] at h2
  exact ⟨l,ny.1 h1,h2⟩
 ·rintro ⟨l,h1,h2,h3⟩
  exact ⟨l,ny.2 h1,by rw [h2,h3];rfl⟩
def dnL (n:Nat) (dn:Nat->Int) (L:Nat->Bool):Int:=wBy (fun l=>if L l=true then dn l else 0) n
def shL (n:Nat) (can:Nat->Nat->Bool) (sh:Nat->Int) (L:Nat->Bool):Int:=wBy (fun s=>if adj n can L s=true then sh s else 0) n
theorem Asg.hall {n:Nat} {can:Nat->Nat->Bool} {sh dn:Nat->Int} {x:Nat->Nat->Int} (h:Asg n can sh dn x) (L:Nat->Bool):dnL n dn L <= shL n can sh L:=by
 have e:dnL n dn L=wBy (fun s=>wBy (fun l=>if L l=true then x s l else 0) n) n:=by
  unfold dnL
  rw [wGq]
  refine wBD n fun l hl=>?_
  rw [wMZ,h.col l hl]
 rw [e]
 refine wGp n fun s hs=>?_
 by_cases a:adj n can L s=true
 ·rw [if_pos a]
  refine kq (wGp n fun l hl=>?_) (h.row s hs)
  by_cases b:L l=true
  ·rw [if_pos b];exact kE _
  ·rw [if_neg b];exact h.nn s l hs hl
 ·rw [if_neg a,wCR n fun l hl=>?_]
  ·exact kE _
  ·by_cases b:L l=true
   ·rw [if_pos b]
    have h0:=h.nn s l hs hl
    have h1:¬ 0 < x s l:=fun q=>a (wGr.2 ⟨l,hl,b,h.pos s l hs hl q⟩)
    omega
   ·rw [if_neg b]
theorem wBq {α:Type} [Inhabited α] {n:Nat} (a:Arr α n) {i j:Nat} (hi:i < n) (v:α):(a.set i v).get j=if j=i then v else a.get j:=by
 unfold Arr.set Arr.get
 simp only [nL]
 by_cases e:j=i
 ·rw [if_pos e,e,List.getElem?_set_self (by rw [a.h];exact hi)]
  rfl
 ·rw [if_neg e,List.getElem?_set_ne (Ne.symm e)]
theorem wFQ {S B:Type} {body:Nat->S->Option (S ⊕ B)} {n:Nat} {s0:S} (I:Nat->S->Prop) (Z:B->Prop) (hn:n <= 1000) (h0:I 0 s0) (h:∀ i s,i < n->I i s->(∃ s',body i s=some (.inl s')/\I (i + 1) s') \/ ∃ b,body i s=some (.inr b)/\Z b):(∃ s,wHa 0 (n:Int) body s0=some (.inl s)/\I n s) \/ ∃ b,wHa 0 (n:Int) body s0=some (.inr b)/\Z b:=by
 rw [wGo (by omega)]
 have:=wJz (body:=body) I Z n 0 s0 h0 fun i s _ h2 h3=>h i s (by omega) h3
 rwa [nr] at this
end Go.KL
namespace Go.Proofs.Ytfcmijinklojbaa
open Go.KL
structure Fl (n:Nat) (can:Nat->Nat->Bool) (sh c:Nat->Int) (h:Arr Int 64) (u:Arr Int 8):Prop where
 nn:∀ s l,s < n->l < n->0 <= h.get (s * 8 + l)
 pos:∀ s l,s < n->l < n->0 < h.get (s * 8 + l)->can s l=true
 row:∀ s,s < n->wBy (fun l=>h.get (s * 8 + l)) n=u.get s
 cap:∀ s,s < n->u.get s <= sh s
 col:∀ l,l < n->wBy (fun s=>h.get (s * 8 + l)) n=c l
def one (l:Nat) (i:Nat):Int:=if i=l then 1 else 0
structure Ext (n:Nat) (m m':Arr Bool 16):Prop where
 s:∀ s,s < n->m.get s=true->m'.get s=true
 l:∀ l,l < n->m.get (8 + l)=true->m'.get (8 + l)=true
theorem Ext.rfl {n:Nat} {m:Arr Bool 16}:Ext n m m:=⟨fun _ _ h=>h,fun _ _ h=>h⟩
theorem Ext.trans {n:Nat} {a b c:Arr Bool 16} (h:Ext n a b) (k:Ext n b c):Ext n a c:=⟨fun s hs q=>k.s s hs (h.s s hs q),fun l hl q=>k.l l hl (h.l l hl q)⟩
structure Clo (n:Nat) (can:Nat->Nat->Bool) (sh:Nat->Int) (h:Arr Int 64) (u:Arr Int 8) (p:Nat->Prop) (m m':Arr Bool 16) (lane:Nat):Prop where
 ext:Ext n m m'
 lanes:∀ l,l < n->m'.get (8 + l)=true->m.get (8 + l)=false->l ≠ lane->∀ s,s < n->can s l=true->m'.get s=true
 skiers:∀ s,p s->s < n->m'.get s=true->m.get s=false->sh s <= u.get s/\(∀ l,l < n->0 < h.get (s * 8 + l)->m'.get (8 + l)=true)/\∃ l,l < n/\can s l=true/\m'.get (8 + l)=true
 me:m'.get (8 + lane)=true
def unm (m:Arr Bool 16):Nat->Nat
 | 0=>0
 | k + 1=>unm m k + if m.get k=true then 0 else 1
theorem wMa {n:Nat} {m m':Arr Bool 16} (h:∀ s,s < n->m.get s=true->m'.get s=true):∀ k,k <= n->unm m' k <= unm m k
 | 0,_=>nE _
 | k + 1,hk=>by
  have a:=wMa h k (by omega)
  rw [unm,unm]
  by_cases e:m.get k=true
  ·rw [if_pos e,if_pos (h k (by omega) e)];omega
  ·rw [if_neg e];split <;> omega
theorem wMb {m:Arr Bool 16} {s:Nat} (h16:s < 16) (hs:m.get s=false):∀ k,s < k->unm (m.set s true) k + 1=unm m k
 | 0,h=>by omega
 | k + 1,h=>by
  rw [unm,unm]
  by_cases e:s=k
  ·subst e
   have:unm (m.set s true) s=unm m s:=by
    have key:∀ j,j <= s->unm (m.set s true) j=unm m j:=by
     intro j
     induction j with
     | zero=>intro _;rfl
     | succ j ih=>intro hj;rw [unm,unm,ih (by omega),wBq _ h16,if_neg (show ¬ j=s by omega)]
    exact key s (nE _)
   rw [this,wBq _ h16,if_pos rfl,hs]
   rfl
  ·have:=wMb h16 hs k (by omega)
   rw [wBq _ h16,if_neg (show ¬ k=s by omega)]
   omega
structure Desk (n:Nat) (can:Nat->Nat->Bool) (sh:Nat->Int) (b:wAC) (may:List (wAA × Bool)):Prop where
 n8:n <= 8
 ns:b.Shots.length=n
 nd:b.Down.length=n
 sh:∀ s,s < n->gd b.Shots s=sh s/\sh s <= 1000
 can:∀ s l,s < n->l < n->wDu may ⟨(s:Int),(l:Int)⟩ false=can s l
section
variable {n:Nat} {can:Nat->Nat->Bool} {sh:Nat->Int} {b:wAC} {may:List (wAA × Bool)}
theorem Desk.can_is (K:Desk n can sh b may) {s l:Nat} (hs:s < n) (hl:l < n) (h:Arr Int 64) (u:Arr Int 8) (m:Arr Bool 16):wAp ⟨b,may,h,u,m⟩ (s:Int) (l:Int)=some (can s l):=by
 unfold wAp
 exact congrArg some (K.can s l hs hl)
theorem Fl.bd {c:Nat->Int} {h:Arr Int 64} {u:Arr Int 8} (K:Desk n can sh b may) (F:Fl n can sh c h u) {s l:Nat} (hs:s < n) (hl:l < n):0 <= h.get (s * 8 + l)/\h.get (s * 8 + l) <= u.get s/\u.get s <= 1000:=by
 have h0:=F.nn s l hs hl
 have h1:=wFe (f:=fun l=>h.get (s * 8 + l)) (fun i hi=>F.nn s i hs hi) hl
 have h2:=F.cap s hs
 have h3:=(K.sh s hs).2
 rw [F.row s hs] at h1
 omega
theorem Fl.more {c:Nat->Int} {h:Arr Int 64} {u:Arr Int 8} (n8:n <= 8) (F:Fl n can sh c h u) {k lane:Nat} (hk:k < n) (hl:lane < n) (hc:can k lane=true) (hu:u.get k < sh k) :
  Fl n can sh (fun l=>c l + one lane l) (h.set (k * 8 + lane) (h.get (k * 8 + lane) + 1)) (u.set k (u.get k + 1)):=by
 have g:∀ s l,s < n->l < n->(h.set (k * 8 + lane) (h.get (k * 8 + lane) + 1)).get (s * 8 + l)=if s=k/\l=lane then h.get (k * 8 + lane) + 1 else h.get (s * 8 + l):=fun s l hs hl'=>by
  rw [wBq _ (by omega)]
  by_cases e:s=k/\l=lane
  ·rw [if_pos e,if_pos (by rw [e.1,e.2])]
  ·rw [if_neg e,if_neg (by omega)]
 have n0:=F.nn k lane hk hl
 refine ⟨fun s l hs hl'=>?_,fun s l hs hl'=>?_,fun s hs=>?_,fun s hs=>?_,fun l hl'=>?_⟩
 ·rw [g s l hs hl']
  split
  ·omega
  ·exact F.nn s l hs hl'
 ·rw [g s l hs hl']
  split
  ·rename_i e;intro _;rw [e.1,e.2];exact hc
  ·exact F.pos s l hs hl'
 ·rw [wBq _ (by omega)]
  by_cases e:s=k
  ·subst e
   rw [if_pos rfl,<- F.row s hs,wDA (f:=fun l=>h.get (s * 8 + l)) hl fun i hi hne=>by rw [g s i hs hi,if_neg fun q=>hne q.2],g s lane hs hl,if_pos ⟨rfl,rfl⟩]
   omega
  ·rw [if_neg e,<- F.row s hs]
   exact wBD n fun i hi=>by rw [g s i hs hi,if_neg fun q=>e q.1]
 ·rw [wBq _ (by omega)]
  by_cases e:s=k
  ·rw [if_pos e,e];omega
  ·rw [if_neg e];exact F.cap s hs
 ·unfold one
  by_cases e:l=lane
  ·subst e
   rw [if_pos rfl,<- F.col l hl',wDA (f:=fun s=>h.get (s * 8 + l)) hk fun i hi hne=>by rw [g i l hi hl',if_neg fun q=>hne q.1],g k l hk hl',if_pos ⟨rfl,rfl⟩]
   omega
  ·rw [if_neg e,<- F.col l hl',kU]
   exact wBD n fun i hi=>by rw [g i l hi hl',if_neg fun q=>e q.2]
theorem Fl.turn {c:Nat->Int} {h:Arr Int 64} {u:Arr Int 8} (n8:n <= 8) {k j lane:Nat} (F:Fl n can sh (fun l=>c l + one j l) h u) (hk:k < n) (hj:j < n) (hl:lane < n) (hc:can k lane=true) (hne:j ≠ lane) (hp:0 < h.get (k * 8 + j)) :
  Fl n can sh (fun l=>c l + one lane l) ((h.set (k * 8 + j) (h.get (k * 8 + j) - 1)).set (k * 8 + lane) ((h.set (k * 8 + j) (h.get (k * 8 + j) - 1)).get (k * 8 + lane) + 1)) u:=by
 have g:∀ s l,s < n->l < n->((h.set (k * 8 + j) (h.get (k * 8 + j) - 1)).set (k * 8 + lane) ((h.set (k * 8 + j) (h.get (k * 8 + j) - 1)).get (k * 8 + lane) + 1)).get (s * 8 + l)=h.get (s * 8 + l) + if s=k then one lane l - one j l else 0:=fun s l hs hl'=>by
  unfold one
  rw [wBq _ (by omega),wBq _ (by omega),wBq _ (by omega),if_neg (show ¬ k * 8 + lane=k * 8 + j by omega)]
  by_cases e:s=k
  ·subst e
   rw [if_pos rfl]
   by_cases e1:l=lane
   ·subst e1;rw [if_pos rfl,if_pos rfl,if_neg (by omega)];omega
   ·rw [if_neg (by omega),if_neg e1]
    by_cases e2:l=j
    ·subst e2;rw [if_pos rfl,if_pos rfl];omega
    ·rw [if_neg (by omega),if_neg e2];omega
  ·rw [if_neg (by omega),if_neg (by omega),if_neg e];omega
 have n0:=F.nn k lane hk hl
 have o1:∀ a:Nat,a < n->wBy (fun l=>one a l) n=1:=fun a ha=>wFP ha
 refine ⟨fun s l hs hl'=>?_,fun s l hs hl'=>?_,fun s hs=>?_,F.cap,fun l hl'=>?_⟩
 ·rw [g s l hs hl']
  have:=F.nn s l hs hl'
  unfold one
  split
  ·rename_i e;subst e
   split <;> split <;> first | omega | (rename_i e1 e2;subst e2;omega)
  ·omega
 ·rw [g s l hs hl']
  intro q
  by_cases e:s=k/\l=lane
  ·rw [e.1,e.2];exact hc
  ·refine F.pos s l hs hl' ?_
   unfold one at q
   split at q
   ·rename_i e2
    rw [if_neg fun e3=>e ⟨e2,e3⟩] at q
    split at q <;> omega
   ·omega
 ·rw [<- F.row s hs,wBD n fun i hi=>g s i hs hi]
  by_cases e:s=k
  ·simp only [if_pos e]
   rw [wDn,show (fun l=>one lane l - one j l)=fun l=>one lane l + (-1) * one j l from funext fun l=>by omega,wDn,o1 lane hl]
   have:wBy (fun l=>(-1) * one j l) n=-1:=by
    unfold one
    rw [show (fun l=>(-1:Int) * if l=j then 1 else 0)=fun l=>if l=j then (-1:Int) else 0 from funext fun l=>by split <;> rfl]
    exact wFP hj
   omega
  ·simp only [if_neg e,kU]
 ·have:=F.col l hl'
  rw [wBD n fun i hi=>g i l hi hl',wDn,this]
  have:wBy (fun s=>if s=k then one lane l - one j l else 0) n=one lane l - one j l:=wFP hk
  omega
end
end Go.Proofs.Ytfcmijinklojbaa
namespace Go.Proofs.Ytfcmijinklojbaa
open Go.KL
section
variable {n:Nat} {can:Nat->Nat->Bool} {sh:Nat->Int} {b:wAC} {may:List (wAA × Bool)}
abbrev HUM:=Arr Int 64 × Arr Int 8 × Arr Bool 16
def Out (n:Nat) (can:Nat->Nat->Bool) (sh c:Nat->Int) (h:Arr Int 64) (u:Arr Int 8) (m:Arr Bool 16) (lane:Nat) (ok:Bool) (h':Arr Int 64) (u':Arr Int 8) (m':Arr Bool 16):Prop :=
 (ok=true/\Fl n can sh (fun l=>c l + one lane l) h' u'/\∀ s,s < n->m.get s=true->∀ l,l < n->h'.get (s * 8 + l)=h.get (s * 8 + l)) \/
 (ok=false/\h'=h/\u'=u/\Clo n can sh h u (fun _=>True) m m' lane/\∀ s,s < n->can s lane=true->m'.get s=true)
theorem wNm {S E:Type} (K:Desk n can sh b may) (f:S->Int->Option (S ⊕ E)) (s0:S) (h:Arr Int 64) (u:Arr Int 8) (m:Arr Bool 16) {k:Nat} (hk:k < n) (I:Nat->S->Prop) (Z:E->Prop) (h0:I 0 s0)
  (hs:∀ j s,j < n->I j s->(can k j=false->I (j + 1) s)/\(can k j=true->(∃ s',f s (j:Int)=some (.inl s')/\I (j + 1) s') \/ ∃ e,f s (j:Int)=some (.inr e)/\Z e)) :
  (∃ s',wAk f s0 ⟨b,may,h,u,m⟩ () (k:Int)=some (.inl s')/\I n s') \/ ∃ e,wAk f s0 ⟨b,may,h,u,m⟩ () (k:Int)=some (.inr e)/\Z e:=by
 unfold wAk
 have n8:=K.n8
 simp only [K.nd]
 rcases wFQ (S:=S) (B:=S ⊕ E) (n:=n) (s0:=s0) (body:=fun (k19:Nat) (s17:S) =>
  (wAp ⟨b,may,h,u,m⟩ (k:Int) (↑k19:Int)).bind fun x55 =>
  if x55=true then
   (f s17 (↑k19:Int)).bind fun yr64 =>
   match yr64 with
   | .inl s74 =>
    some (.inl s74)
   | .inr s74 =>
    esc (some (.inr s74))
  else
   some (.inl s17)) I (fun x=>∃ e,x=.inr e/\Z e) (by omega) h0 (fun j s hj hI=>by
  rw [K.can_is hk hj,hH]
  have q:=hs j s hj hI
  by_cases e:can k j=true
  ·rw [if_pos e]
   rcases q.2 e with ⟨s',e1,e2⟩ | ⟨x,e1,e2⟩
   ·exact .inl ⟨s',by rw [e1];rfl,e2⟩
   ·exact .inr ⟨.inr x,by rw [e1];rfl,x,rfl,e2⟩
  ·rw [if_neg e]
   exact .inl ⟨s,rfl,q.1 (by simpa using e)⟩) with ⟨s',e1,e2⟩ | ⟨x,e1,e,rfl,hz⟩
 ·exact .inl ⟨s',by erw [e1];rfl,e2⟩
 ·exact .inr ⟨e,by erw [e1];rfl,hz⟩
theorem orT {p:Prop} [Decidable p] {x:Bool} (h:x=true):(if p then true else x)=true:=by
 split
 ·rfl
 ·exact h
theorem wPi (K:Desk n can sh b may):∀ (f:Nat) (lane:Nat) (h:Arr Int 64) (u:Arr Int 8) (m:Arr Bool 16) (c:Nat->Int),unm m n < f->lane < n->Fl n can sh c h u ->
    ∃ ok h' u' m',wAU f (lane:Int) ⟨b,may,h,u,m⟩ ()=some (ok,h',u',m')/\Out n can sh c h u m lane ok h' u' m':=by
  have n8:=K.n8
  intro f
  induction f with
  | zero=>intro lane h u m c hu;omega
  | succ f ih =>
    intro lane h u m c hu hl F
    show ∃ ok h' u' m',wBA (wAU f) (lane:Int) ⟨b,may,h,u,m⟩ ()=_/\_
    unfold wBA
    rw [wDC (by omega) (by omega),hH]
    simp only [K.ns,nW]
    have m1s:∀ s,s < n->(m.set (8 + lane) true).get s=m.get s:=fun s hs=>by rw [wBq _ (by omega),if_neg (by omega)]
    have m1n:∀ l,l < n->l ≠ lane->(m.set (8 + lane) true).get (8 + l)=m.get (8 + l):=fun l hl' hne=>by rw [wBq _ (by omega),if_neg (by omega)]
    have m1m:(m.set (8 + lane) true).get (8 + lane)=true:=by rw [wBq _ (by omega),if_pos rfl]
    have m1l:∀ l,l < n->m.get (8 + l)=true->(m.set (8 + lane) true).get (8 + l)=true:=fun l _ q=>by rw [wBq _ (by omega)];exact orT q
    rcases wFQ (S:=HUM) (B:=Bool × HUM) (n:=n) (s0:=(h,u,m.set (8 + lane) true)) (body:=fun (k39:Nat) ((a36,a37,a38):HUM) =>
    (chk (↑k39:Int) 8).bind fun _ =>
    if (a38.get k39)=true then
      some (.inl (a36,a37,a38))
    else
      (wAp (⟨b,may,a36,a37,a38⟩:wAD) (↑k39:Int) (lane:Int)).bind fun x84 =>
      if x84=true then
        (idx b.Shots (↑k39:Int)).bind fun x107 =>
        if (a37.get k39) < x107 then
          esc (some (true,((a36.set (k39 * 8 + lane) (w64 ((a36.get (k39 * 8 + lane)) + 1))),(a37.set k39 (w64 ((a37.get k39) + 1))),(a38.set k39 true))))
        else
          (wBb () (↑k39:Int)).bind fun _ =>
          (wAk (S:=(Arr Int 64) × (Arr Int 8) × (Arr Bool 16)) (E:=(Arr Int 64) × (Arr Int 8) × (Arr Bool 16) × Bool) (fun (a303,a304,a305) x332 =>
            if x332=(lane:Int) then
              some (.inl (a303,a304,a305))
            else
              (chk x332 8).bind fun _ =>
              if 0 < (a303.get (k39 * 8 + x332.toNat)) then
                (wAU f x332 (⟨b,may,a303,a304,a305⟩:wAD) ()).bind fun (x383,x384) =>
                if x383=true then
                  some (.inr (((x384.1.set (k39 * 8 + x332.toNat) (w64 ((x384.1.get (k39 * 8 + x332.toNat)) - 1))).set (k39 * 8 + lane) (w64 (((x384.1.set (k39 * 8 + x332.toNat) (w64 ((x384.1.get (k39 * 8 + x332.toNat)) - 1))).get (k39 * 8 + lane)) + 1))),x384.2.1,x384.2.2,true))
                else
                  some (.inl (x384.1,x384.2.1,x384.2.2))
              else
                some (.inl (a303,a304,a305))) (a36,a37,(a38.set k39 true)) (⟨b,may,a36,a37,(a38.set k39 true)⟩:wAD) () (↑k39:Int)).bind fun rr321 =>
          match rr321 with
          | .inl (y439,y440,y441) =>
            some (.inl (y439,y440,y441))
          | .inr (y442,y443,y444,y445) =>
            esc (some (y445,(y442,y443,y444)))
      else
        some (.inl (a36,a37,a38)))
      (fun k st=>st.1=h/\st.2.1=u/\Clo n can sh h u (fun _=>True) m st.2.2 lane/\∀ s,s < k->can s lane=true->st.2.2.get s=true)
      (fun r=>Out n can sh c h u m lane r.1 r.2.1 r.2.2.1 r.2.2.2) (by omega) ⟨rfl,rfl,⟨⟨fun s hs q=>(m1s s hs).trans q,fun l hl' q=>m1l l hl' q⟩,fun l hl' q1 q2 hne=>(by have q3:=(m1n l hl' hne).symm.trans q1;rw [q2] at q3;cases q3),fun s _ hs q1 q2=>(by have q3:=(m1s s hs).symm.trans q1;rw [q2] at q3;cases q3),m1m⟩,fun s hs=>absurd hs (Nat.not_lt_zero s)⟩
      (by
      rintro k ⟨h',u',mk⟩ hk ⟨rfl,rfl,J1,J2⟩
      simp only at J1 J2 ⊢
      rw [wDC (by omega) (by omega),hH]
      by_cases c1:mk.get k=true
      · rw [if_pos c1]
        refine .inl ⟨_,rfl,rfl,rfl,J1,fun s hs q=>?_⟩
        by_cases e:s=k
        · rw [e];exact c1
        · exact J2 s (by omega) q
      rw [if_neg c1,K.can_is hk hl,hH]
      by_cases c2:can k lane=true
      case neg =>
        rw [if_neg c2]
        refine .inl ⟨_,rfl,rfl,rfl,J1,fun s hs q=>?_⟩
        by_cases e:s=k
        · rw [e] at q;exact absurd q c2
        · exact J2 s (by omega) q
      rw [if_pos c2,wCe (by rw [K.ns];exact hk),hH,(K.sh k hk).1]
      have bd:=F.bd K hk hl
      simp only at bd
      have hmk:mk.get k=false:=by simpa using c1
      have hm0:m.get k=false:=by
        cases e:m.get k with
        | false=>rfl
        | true=>rw [J1.ext.s k hk e] at hmk;cases hmk
      by_cases c3:u'.get k < sh k
      · rw [if_pos c3,wAX (by omega) (by omega),wAX (by omega) (by omega)]
        refine .inr ⟨_,rfl,.inl ⟨rfl,F.more n8 hk hl c2 c3,fun s hs q l hl'=>?_⟩⟩
        simp only
        rw [wBq _ (by omega),if_neg]
        intro e
        have:s=k:=by omega
        rw [this,hm0] at q
        cases q
      rw [if_neg c3]
      unfold wBb
      rw [hH]
      have hset:∀ s,s < n->(mk.set k true).get s=if s=k then true else mk.get s:=fun s hs=>wBq _ (by omega) _
      have hsetl:∀ l,l < n->(mk.set k true).get (8 + l)=mk.get (8 + l):=fun l hl'=>by rw [wBq _ (by omega),if_neg (by omega)]
      have hX1:Ext n mk (mk.set k true):=⟨fun s hs q=>by rw [hset s hs];exact orT q,fun l hl' q=>by rw [hsetl l hl'];exact q⟩
      rcases wNm (S:=HUM) (E:=(Arr Int 64) × (Arr Int 8) × (Arr Bool 16) × Bool) K (fun ((a303,a304,a305):HUM) x332 =>
            if x332=(lane:Int) then
              some (.inl (a303,a304,a305))
            else
              (chk x332 8).bind fun _ =>
              if 0 < (a303.get (k * 8 + x332.toNat)) then
                (wAU f x332 (⟨b,may,a303,a304,a305⟩:wAD) ()).bind fun (x383,x384) =>
                if x383=true then
                  some (.inr (((x384.1.set (k * 8 + x332.toNat) (w64 ((x384.1.get (k * 8 + x332.toNat)) - 1))).set (k * 8 + lane) (w64 (((x384.1.set (k * 8 + x332.toNat) (w64 ((x384.1.get (k * 8 + x332.toNat)) - 1))).get (k * 8 + lane)) + 1))),x384.2.1,x384.2.2,true))
                else
                  some (.inl (x384.1,x384.2.1,x384.2.2))
              else
                some (.inl (a303,a304,a305))) (h',u',mk.set k true) h' u' (mk.set k true) hk
        (fun j st=>st.1=h'/\st.2.1=u'/\Ext n (mk.set k true) st.2.2/\Clo n can sh h' u' (fun s=>s ≠ k) m st.2.2 lane/\∀ l,l < j->0 < h'.get (k * 8 + l)->st.2.2.get (8 + l)=true)
        (fun e=>Out n can sh c h' u' m lane e.2.2.2 e.1 e.2.1 e.2.2.1) ⟨rfl,rfl,Ext.rfl,⟨J1.ext.trans hX1,fun l hl' q1 q2 hne s hs q=>hX1.s s hs (J1.lanes l hl' (by rw [<- hsetl l hl'];exact q1) q2 hne s hs q),fun s hne hs q1 q2=>by
            rw [hset s hs,if_neg hne] at q1
            obtain ⟨g1,g2,l,g3,g4,g5⟩:=J1.skiers s trivial hs q1 q2
            exact ⟨g1,fun l hl' q=>by rw [hsetl l hl'];exact g2 l hl' q,l,g3,g4,by rw [hsetl l g3];exact g5⟩,hX1.l lane hl J1.me⟩,fun l hl'=>by omega⟩
        (by
        rintro j ⟨h2,u2,mj⟩ hj ⟨rfl,rfl,X1,Cj,Lj⟩
        simp only at X1 Cj Lj
        constructor
        · intro q
          refine ⟨rfl,rfl,X1,Cj,fun l hl' p=>?_⟩
          by_cases e:l=j
          · subst e;rw [F.pos k l hk hj p] at q;cases q
          · exact Lj l (by omega) p
        intro q
        simp only
        by_cases c4:(j:Int)=lane
        · rw [if_pos c4]
          refine .inl ⟨_,rfl,rfl,rfl,X1,Cj,fun l hl' p=>?_⟩
          by_cases e:l=j
          · rw [e,show j=lane by omega];exact Cj.me
          · exact Lj l (by omega) p
        rw [if_neg c4,wDC (by omega) (by omega),hH,nW]
        by_cases c5:0 < h2.get (k * 8 + j)
        case neg =>
          rw [if_neg c5]
          refine .inl ⟨_,rfl,rfl,rfl,X1,Cj,fun l hl' p=>?_⟩
          by_cases e:l=j
          · rw [e] at p;exact absurd p c5
          · exact Lj l (by omega) p
        rw [if_pos c5]
        have hun:unm mj n < f:=by
          have a1:=wMa X1.s n (nE _)
          have a2:=wMb (show k < 16 by omega) hmk n hk
          have a3:=wMa J1.ext.s n (nE _)
          omega
        obtain ⟨ok,h3,u3,m3,e3,o3⟩:=ih j h2 u2 mj c hun hj F
        rw [e3,hH]
        simp only
        rcases o3 with ⟨rfl,F3,R3⟩ | ⟨rfl,rfl,rfl,C3,A3⟩
        · rw [if_pos rfl]
          have kj:mj.get k=true:=X1.s k hk (by rw [hset k hk,if_pos rfl])
          have r1:h3.get (k * 8 + j)=h2.get (k * 8 + j):=R3 k hk kj j hj
          have b3:=F3.bd K hk hj
          have b4:=F3.bd K hk hl
          have T:=F3.turn n8 hk hj hl c2 (show j ≠ lane by omega) (by rw [r1];exact c5)
          have w1:w64 (h3.get (k * 8 + j) - 1)=h3.get (k * 8 + j) - 1:=wAX (by omega) (by omega)
          rw [w1]
          have g2:(h3.set (k * 8 + j) (h3.get (k * 8 + j) - 1)).get (k * 8 + lane)=h3.get (k * 8 + lane):=by rw [wBq _ (by omega),if_neg (by omega)]
          have w2:w64 ((h3.set (k * 8 + j) (h3.get (k * 8 + j) - 1)).get (k * 8 + lane) + 1)=(h3.set (k * 8 + j) (h3.get (k * 8 + j) - 1)).get (k * 8 + lane) + 1:=by rw [g2];exact wAX (by omega) (by omega)
          rw [w2]
          refine .inr ⟨_,rfl,.inl ⟨rfl,T,fun s hs p l hl'=>?_⟩⟩
          have hne:s ≠ k:=fun e=>by rw [e,hm0] at p;cases p
          simp only
          rw [wBq _ (by omega),if_neg (by omega),wBq _ (by omega),if_neg (by omega)]
          exact R3 s hs (Cj.ext.s s hs p) l hl'
        · rw [if_neg (by decide)]
          refine .inl ⟨_,rfl,rfl,rfl,X1.trans C3.ext,⟨Cj.ext.trans C3.ext,fun l hl' q1 q2 hne s hs p=>?_,fun s hne hs q1 q2=>?_,C3.ext.l lane hl Cj.me⟩,fun l hl' p=>?_⟩
          · cases e:mj.get (8 + l) with
            | true=>exact C3.ext.s s hs (Cj.lanes l hl' e q2 hne s hs p)
            | false =>
              by_cases e2:l=j
              · subst e2;exact A3 s hs p
              · exact C3.lanes l hl' q1 e e2 s hs p
          · cases e:mj.get s with
            | true =>
              obtain ⟨g1,g2,l,g3,g4,g5⟩:=Cj.skiers s hne hs e q2
              exact ⟨g1,fun l hl' p=>C3.ext.l l hl' (g2 l hl' p),l,g3,g4,C3.ext.l l g3 g5⟩
            | false=>exact C3.skiers s trivial hs q1 e
          · by_cases e:l=j
            · rw [e];exact C3.me
            · exact C3.ext.l l (by omega) (Lj l (by omega) p)) with ⟨⟨h2,u2,m2⟩,e2,I1,I2,I3,I4,I5⟩ | ⟨⟨h2,u2,m2,ok⟩,e2,hz⟩
      · simp only at I1 I2
        subst I1 I2
        erw [e2]
        rw [hH]
        refine .inl ⟨_,rfl,rfl,rfl,⟨I4.ext,I4.lanes,fun s _ hs q1 q2=>?_,I4.me⟩,fun s hs p=>?_⟩
        · by_cases e:s=k
          · subst e
            exact ⟨by omega,I5,lane,hl,c2,I4.me⟩
          · exact I4.skiers s e hs q1 q2
        · by_cases e:s=k
          · rw [e];exact I3.s k hk (by rw [hset k hk,if_pos rfl])
          · exact I3.s s (by omega) (hX1.s s (by omega) (J2 s (by omega) p))
      · erw [e2]
        rw [hH]
        exact .inr ⟨_,rfl,hz⟩) with ⟨⟨h',u',m'⟩,e,rfl,rfl,J1,J2⟩ | ⟨⟨ok,h',u',m'⟩,e,hz⟩
    · erw [e]
      exact ⟨false,_,_,_,rfl,.inr ⟨rfl,rfl,rfl,J1,J2⟩⟩
    · erw [e]
      exact ⟨ok,_,_,_,rfl,hz⟩
end
end Go.Proofs.Ytfcmijinklojbaa
namespace Go.Proofs.Ytfcmijinklojbaa
open Go.KL
section
variable {n:Nat} {can:Nat->Nat->Bool} {sh:Nat->Int} {b:wAC} {may:List (wAA × Bool)}
theorem wFR {α:Type} [Inhabited α] {n:Nat} {x:α} {i:Nat} (h:i < n):(Arr.fill n x).get i=x:=by
 unfold Arr.fill Arr.get
 simp [nL,kX,h]
theorem wNn {c dn:Nat->Int} {h:Arr Int 64} {u:Arr Int 8} {m:Arr Bool 16} {lane:Nat} (F:Fl n can sh c h u) (n8:n <= 8) (hl:lane < n) (C:Clo n can sh h u (fun _=>True) (Arr.fill 16 false) m lane) (A:∀ s,s < n->can s lane=true->m.get s=true)
  (hc:∀ l,l < n->c l <= dn l) (hlt:c lane < dn lane):shL n can sh (fun l=>m.get (8 + l)) < dnL n dn (fun l=>m.get (8 + l)):=by
 have ad:∀ s,s < n->(adj n can (fun l=>m.get (8 + l)) s=true ↔ m.get s=true):=fun s hs=>by
  rw [wGr]
  constructor
  ·rintro ⟨l,h1,h2,h3⟩
   by_cases e:l=lane
   ·rw [e] at h3;exact A s hs h3
   ·exact C.lanes l h1 h2 (wFR (by omega)) e s hs h3
  ·intro q
   obtain ⟨_,_,l,h1,h2,h3⟩:=C.skiers s trivial hs q (wFR (by omega))
   exact ⟨l,h1,h3,h2⟩
 have e1:wBy (fun l=>if m.get (8 + l)=true then c l else 0) n=wBy (fun s=>wBy (fun l=>if m.get (8 + l)=true then h.get (s * 8 + l) else 0) n) n:=by
  rw [wGq]
  refine wBD n fun l hl=>?_
  rw [wMZ,F.col l hl]
 have e2:shL n can sh (fun l=>m.get (8 + l)) <= wBy (fun l=>if m.get (8 + l)=true then c l else 0) n:=by
  rw [e1]
  refine wGp n fun s hs=>?_
  by_cases q:m.get s=true
  ·rw [if_pos ((ad s hs).2 q)]
   obtain ⟨g1,g2,_⟩:=C.skiers s trivial hs q (wFR (by omega))
   refine kq g1 (Int.le_of_eq ?_)
   rw [<- F.row s hs]
   refine wBD n fun l hl'=>?_
   by_cases p:m.get (8 + l)=true
   ·rw [if_pos p]
   ·rw [if_neg p]
    have:=F.nn s l hs hl'
    have:¬ 0 < h.get (s * 8 + l):=fun r=>p (g2 l hl' r)
    omega
  ·rw [if_neg fun r=>q ((ad s hs).1 r)]
   refine wMY n fun l hl'=>?_
   split
   ·exact F.nn s l hs hl'
   ·exact kE _
 have e3:dnL n dn (fun l=>m.get (8 + l))=wBy (fun l=>if m.get (8 + l)=true then c l else 0) n + wBy (fun l=>if m.get (8 + l)=true then dn l - c l else 0) n:=by
  unfold dnL
  rw [<- wDn]
  refine wBD n fun l _=>?_
  split <;> omega
 have e4:=wFe (f:=fun l=>if m.get (8 + l)=true then dn l - c l else 0) (fun l hl'=>by
  split
  ·have:=hc l hl';omega
  ·exact kE _) hl
 simp only [if_pos C.me] at e4
 omega
def wEt (m:Arr Bool 16) (n:Nat):List Int:=((kA n).filter fun l=>m.get (8 + l)).map fun l:Nat=>(l:Int)
theorem wMc (K:Desk n can sh b may) (h:Arr Int 64) (u:Arr Int 8) (m:Arr Bool 16):wAr ⟨b,may,h,u,m⟩=some (wEt m n):=by
 have n8:=K.n8
 unfold wAr
 simp only [K.nd]
 rw [wFO (S:=List Int) (n:=n) (fun k=>wEt m k) (s0:=[]) rfl (by omega) fun k hk=>?_]
 ·rfl
 ·rw [wDC (by omega) (by omega),hH]
  have ml:(wEt m k).length <= k:=by
   unfold wEt
   rw [List.length_map]
   exact kJ (nz _ _) (by simp)
  have st:wEt m (k + 1)=wEt m k ++ if m.get (8 + k)=true then [(k:Int)] else []:=by
   unfold wEt
   rw [List.range_succ,nv,List.map_append]
   by_cases e:m.get (8 + k)=true
   ·rw [if_pos e,show [k].filter (fun l=>m.get (8 + l))=[k] by simp [e]];rfl
   ·rw [if_neg e,show [k].filter (fun l=>m.get (8 + l))=[] by simp [e]];rfl
  rw [st]
  by_cases e:m.get (8 + k)=true
  ·rw [if_pos e,if_pos e,wEc (by simp only [nt,nX];omega),hH]
  ·rw [if_neg e,if_neg e,ni]
def Sol (n:Nat) (can:Nat->Nat->Bool) (sh dn:Nat->Int) (r:List Int × HUM):Prop :=
 (r.1=[]/\Fl n can sh dn r.2.1 r.2.2.1) \/ (r.1 ≠ []/\r.1=wEt r.2.2.2 n/\shL n can sh (fun l=>r.2.2.2.get (8 + l)) < dnL n dn (fun l=>r.2.2.2.get (8 + l)))
theorem wGC {dn:Nat->Int} (K:Desk n can sh b may) (hd:∀ l,l < n->gd b.Down l=dn l/\0 <= dn l/\dn l <= 1000) {h:Arr Int 64} {u:Arr Int 8} (m:Arr Bool 16) (F:Fl n can sh (fun _=>0) h u) :
  ∃ r,wAI ⟨b,may,h,u,m⟩=some r/\Sol n can sh dn r:=by
 have n8:=K.n8
 unfold wAI
 simp only [K.nd]
 rcases wFQ (S:=HUM) (B:=List Int × HUM) (n:=n) (s0:=(h,u,m)) (body:=fun (k39:Nat) ((a36,a37,a38):HUM) =>
  (idx b.Down (↑k39:Int)).bind fun x60 =>
  jn (wHa 0 x60 (fun (k84:Nat) ((a81,a82,a83):HUM) =>
   (wAU 1000 (↑k39:Int) (⟨b,may,a81,a82,(Arr.fill 16 false)⟩:wAD) ()).bind fun (x125,x126) =>
   if x125=true then
    some (.inl (x126.1,x126.2.1,x126.2.2))
   else
    (wAr (⟨b,may,x126.1,x126.2.1,x126.2.2⟩:wAD)).bind fun x146 =>
    esc (esc ((wLf x146).bind fun x165 =>
    some (x146,(x126.1,x126.2.1,x126.2.2))))) (a36,a37,a38)) fun (y175,y176,y177) =>
  some (.inl (y175,y176,y177)))
  (fun k st=>Fl n can sh (fun l=>if l < k then dn l else 0) st.1 st.2.1) (Sol n can sh dn) (by omega)
  (by
   have:(fun l=>if l < 0 then dn l else 0)=fun _=>(0:Int):=funext fun l=>if_neg (by omega)
   rw [this];exact F)
  (by
   rintro k ⟨h1,u1,m1⟩ hk J
   simp only at J ⊢
   obtain ⟨d1,d2,d3⟩:=hd k hk
   rw [wCe (by rw [K.nd];exact hk),hH,d1]
   obtain ⟨q,hq⟩:∃ q:Nat,dn k=q:=⟨(dn k).toNat,by omega⟩
   rw [hq]
   rcases wFQ (S:=HUM) (B:=HUM ⊕ (List Int × HUM)) (n:=q) (s0:=(h1,u1,m1)) (body:=fun (k84:Nat) ((a81,a82,a83):HUM) =>
   (wAU 1000 (↑k:Int) (⟨b,may,a81,a82,(Arr.fill 16 false)⟩:wAD) ()).bind fun (x125,x126) =>
   if x125=true then
    some (.inl (x126.1,x126.2.1,x126.2.2))
   else
    (wAr (⟨b,may,x126.1,x126.2.1,x126.2.2⟩:wAD)).bind fun x146 =>
    esc (esc ((wLf x146).bind fun x165 =>
    some (x146,(x126.1,x126.2.1,x126.2.2)))))
    (fun r st=>Fl n can sh (fun l=>if l < k then dn l else if l=k then (r:Int) else 0) st.1 st.2.1) (fun x=>∃ r,x=.inr r/\Sol n can sh dn r) (by omega)
    (by
     have:(fun l=>if l < k then dn l else if l=k then ((0:Nat):Int) else 0)=fun l=>if l < k then dn l else 0:=funext fun l=>by
      by_cases e:l < k
      ·rw [if_pos e,if_pos e]
      ·rw [if_neg e,if_neg e];split <;> rfl
     rw [this];exact J)
    (by
     rintro r ⟨h2,u2,m2⟩ hr J2
     simp only at J2 ⊢
     have hun:unm (Arr.fill 16 false) n < 1000:=by
      have:∀ j,unm (Arr.fill 16 false) j <= j:=by
       intro j
       induction j with
       | zero=>exact nE _
       | succ j ih=>rw [unm];split <;> omega
      have:=this n
      omega
     obtain ⟨ok,h3,u3,m3,e3,o3⟩:=wPi K 1000 k h2 u2 (Arr.fill 16 false) _ hun hk J2
     rw [e3,hH]
     simp only
     rcases o3 with ⟨rfl,F3,_⟩ | ⟨rfl,rfl,rfl,C3,A3⟩
     ·rw [if_pos rfl]
      refine .inl ⟨_,rfl,?_⟩
      have:(fun l=>(if l < k then dn l else if l=k then (r:Int) else 0) + one k l)=fun l=>if l < k then dn l else if l=k then ((r + 1:Nat):Int) else 0:=funext fun l=>by
       unfold one
       split
       ·rw [if_neg (by omega)];omega
       ·split <;> omega
      rw [<- this]
      exact F3
     ·rw [if_neg (by decide),wMc K,hH]
      have sh1:=wNn (dn:=dn) J2 n8 hk C3 A3 (fun l hl=>by
       split
       ·omega
       ·split
        ·rename_i e;rw [e];omega
        ·exact (hd l hl).2.1) (by rw [if_neg (by omega),if_pos rfl];omega)
      have ne:wEt m3 n ≠ []:=fun e=>by
       have:(k:Int) ∈ wEt m3 n:=by
        unfold wEt
        exact kV.2 ⟨k,nw.2 ⟨ny.2 hk,C3.me⟩,rfl⟩
       rw [e] at this
       cases this
      rw [wKT ne,hH]
      exact .inr ⟨_,rfl,_,rfl,.inr ⟨ne,rfl,sh1⟩⟩) with ⟨⟨h2,u2,m2⟩,e,J2⟩ | ⟨x,e,r,rfl,hz⟩
   ·erw [e]
    refine .inl ⟨_,rfl,?_⟩
    have:(fun l=>if l < k then dn l else if l=k then (q:Int) else 0)=fun l=>if l < k + 1 then dn l else 0:=funext fun l=>by
     by_cases e1:l < k
     ·rw [if_pos e1,if_pos (by omega)]
     ·rw [if_neg e1]
      by_cases e2:l=k
      ·rw [if_pos e2,if_pos (by omega),e2,hq]
      ·rw [if_neg e2,if_neg (by omega)]
    rw [<- this]
    exact J2
   ·erw [e]
    exact .inr ⟨_,rfl,hz⟩) with ⟨⟨h',u',m'⟩,e,J⟩ | ⟨r,e,hz⟩
 ·erw [e]
  refine ⟨_,rfl,.inl ⟨rfl,?_⟩⟩
  simp only at J
  exact ⟨J.nn,J.pos,J.row,J.cap,fun l hl=>by have:=J.col l hl;rw [if_pos hl] at this;exact this⟩
 ·erw [e]
  exact ⟨r,rfl,hz⟩
theorem Fl.asg {dn:Nat->Int} {h:Arr Int 64} {u:Arr Int 8} (F:Fl n can sh dn h u):Asg n can sh dn (fun s l=>h.get (s * 8 + l)) :=
 ⟨F.nn,F.pos,fun s hs=>by have:=F.row s hs;have:=F.cap s hs;omega,F.col⟩
def Can (n:Nat) (can:Nat->Nat->Bool) (sh dn:Nat->Int):Prop:=∃ x,Asg n can sh dn x
theorem Sol.none_iff {dn:Nat->Int} {r:List Int × HUM} (S:Sol n can sh dn r):r.1=[] ↔ Can n can sh dn:=by
 rcases S with ⟨e,F⟩ | ⟨e,_,lt⟩
 ·exact ⟨fun _=>⟨_,F.asg⟩,fun _=>e⟩
 ·refine ⟨fun q=>absurd q e,fun ⟨x,hx⟩=>?_⟩
  have:=hx.hall (fun l=>r.2.2.2.get (8 + l))
  omega
theorem Sol.short {dn:Nat->Int} {r:List Int × HUM} (S:Sol n can sh dn r) (h:¬ Can n can sh dn):∃ L:Nat->Bool,shL n can sh L < dnL n dn L:=by
 rcases S with ⟨e,F⟩ | ⟨e,_,lt⟩
 ·exact absurd ⟨_,F.asg⟩ h
 ·exact ⟨_,lt⟩
end
end Go.Proofs.Ytfcmijinklojbaa
namespace Go.KL
variable {S B α:Type}
theorem wMd {body:S->Option (S ⊕ B)} (F:Nat):∀ (m:Nat) (s:Nat->S),(∀ i,i < m->body (s i)=some (.inl (s (i + 1))))->iter body (m + F) (s 0)=iter body F (s m)
 | 0,s,_=>by rw [nr]
 | m + 1,s,h=>by
  rw [show m + 1 + F=(m + F) + 1 by omega,iter,h 0 (by omega)]
  exact wMd F m (fun i=>s (i + 1)) fun i hi=>h (i + 1) (by omega)
theorem wMe {body:S->Option (S ⊕ B)} {m:Nat} (s:Nat->S) (h:∀ i,i < m->body (s i)=some (.inl (s (i + 1)))) {b:B} (hb:body (s m)=some (.inr b)) {s0:S} (h0:s 0=s0) (hm:m < 1000000):iter body big s0=some b:=by
 subst h0
 have:=wMd (big - m - 1 + 1) m s h
 rw [show m + (big - m - 1 + 1)=big by unfold big;omega] at this
 rw [this,iter,hb]
theorem wNo {body:S->Option (S ⊕ B)} (I:Nat->S->Prop) (Z:B->Prop) (m:Nat) (step:∀ i s,i <= m->I i s->(i < m/\∃ s',body s=some (.inl s')/\I (i + 1) s') \/ ∃ b,body s=some (.inr b)/\Z b) {s0:S} (h0:I 0 s0) (hm:m < 1000000):∃ b,iter body big s0=some b/\Z b:=by
 have key:∀ (d i:Nat) (s:S),i + d=m->I i s->∀ F,d < F->∃ b,iter body F s=some b/\Z b:=by
  intro d
  induction d with
  | zero =>
   intro i s hi hI F hF
   obtain ⟨F,rfl⟩:∃ G,F=G + 1:=⟨F - 1,by omega⟩
   rcases step i s (by omega) hI with ⟨h,_⟩ | ⟨b,h1,h2⟩
   ·omega
   ·exact ⟨b,by rw [iter,h1],h2⟩
  | succ d ih =>
   intro i s hi hI F hF
   obtain ⟨F,rfl⟩:∃ G,F=G + 1:=⟨F - 1,by omega⟩
   rcases step i s (by omega) hI with ⟨_,s',h1,h2⟩ | ⟨b,h1,h2⟩
   ·obtain ⟨b,h3,h4⟩:=ih (i + 1) s' (by omega) h2 F (by omega)
    exact ⟨b,by rw [iter,h1];exact h3,h4⟩
   ·exact ⟨b,by rw [iter,h1],h2⟩
 exact key m 0 s0 (by omega) h0 big (by unfold big;omega)
theorem wJV {body:S->Option (S ⊕ B)} (I:Nat->S->Prop) {b:B} (m:Nat) {s0:S} (h0:I 0 s0) (hm:m < 1000000) (step:∀ i s,i <= m->I i s->(i < m/\∃ s',body s=some (.inl s')/\I (i + 1) s') \/ body s=some (.inr b)):iter body big s0=some b:=by
 obtain ⟨c,h1,h2⟩:=wNo (body:=body) I (fun c=>c=b) m (fun i s hi hI=>by
  rcases step i s hi hI with h | h
  ·exact .inl h
  ·exact .inr ⟨b,h,rfl⟩) h0 hm
 rw [h1,h2]
theorem wGs [Inhabited α] {l:List α} {i k:Nat} {x:α} (hi:i < l.length) (hk:k < l.length):gd (l.set i x) k=if k=i then x else gd l k:=by
 have h1:=wBx (xs:=l.set i x) (k:=k) (by rw [List.length_set];exact hk)
 rw [List.getElem?_set] at h1
 by_cases e:i=k
 ·subst e
  rw [if_pos rfl,if_pos hi] at h1
  rw [if_pos rfl]
  exact (nK h1).symm
 ·rw [if_neg e,wBx hk] at h1
  rw [if_neg (fun h=>e h.symm)]
  exact (nK h1).symm
theorem wGt [Inhabited α] {l:List α} {k:Nat} (h:k < l.length):gd l k=l[k]:=by
 have:=wBx h
 rw [nq h] at this
 exact (nK this).symm
end Go.KL
namespace Go.Proofs.Ytfcmijinklojbaa
open Go.KL
section
variable {K V:Type} [DecidableEq K]
theorem wId {m:List (K × V)} {x y:K} {v:V}:wEM (mput m x v) y=if y=x then some v else wEM m y:=by
 induction m with
 | nil=>simp only [mput,wEM]
 | cons p m ih =>
  obtain ⟨a,u⟩:=p
  rw [mput]
  by_cases h:x=a
  ·subst h
   rw [if_pos rfl,wEM,wEM]
   split <;> rfl
  ·rw [if_neg h,wEM,wEM,ih]
   by_cases e:y=a
   ·rw [if_pos e,if_pos e,if_neg (by rw [e];exact Ne.symm h)]
   ·rw [if_neg e,if_neg e]
theorem wPj {m:List (K × V)} {x a:K} {v:V} (h:a ∈ (mput m x v).map (·.1)):a=x \/ a ∈ m.map (·.1):=by
 induction m with
 | nil=>exact .inl (by simpa [mput] using h)
 | cons p m ih =>
  obtain ⟨b,u⟩:=p
  rw [mput] at h
  split at h
  ·rename_i e
   rw [nQ,nG] at h
   rcases h with h | h
   ·exact .inl h
   ·exact .inr (by rw [nQ];exact kg _ h)
  ·rw [nQ,nG] at h
   rcases h with h | h
   ·exact .inr (by rw [nQ,h];exact List.mem_cons_self)
   ·rcases ih h with h | h
    ·exact .inl h
    ·exact .inr (by rw [nQ];exact kg _ h)
theorem wIe {m:List (K × V)} {x:K} {v:V} (h:(m.map (·.1)).Nodup):((mput m x v).map (·.1)).Nodup:=by
 induction m with
 | nil=>simp [mput]
 | cons p m ih =>
  obtain ⟨b,u⟩:=p
  rw [nQ,kG] at h
  rw [mput]
  split
  ·rename_i e
   rw [nQ,kG,e]
   exact h
  ·rename_i e
   rw [nQ,kG]
   refine ⟨fun q=>?_,ih h.2⟩
   rcases wPj q with q | q
   ·exact e q.symm
   ·exact h.1 q
theorem wNp {m:List (K × V)} {x:K} (h:x ∉ m.map (·.1)):wEM m x=none:=by
 induction m with
 | nil=>rfl
 | cons p m ih =>
  obtain ⟨a,u⟩:=p
  rw [nQ,nG] at h
  rw [wEM,if_neg fun e=>h (.inl e),ih fun q=>h (.inr q)]
theorem wNq {m:List (K × V)} (hn:(m.map (·.1)).Nodup) {x y:K}:wEM (mdel m x) y=if y=x then none else wEM m y:=by
 induction m with
 | nil=>simp only [mdel,wEM];split <;> rfl
 | cons p m ih =>
  obtain ⟨a,u⟩:=p
  rw [nQ,kG] at hn
  rw [mdel]
  by_cases h:x=a
  ·subst h
   rw [if_pos rfl,wEM]
   by_cases e:y=x
   ·rw [if_pos e,e];exact wNp hn.1
   ·rw [if_neg e,if_neg e]
  ·rw [if_neg h,wEM,wEM,ih hn.2]
   by_cases e:y=a
   ·rw [if_pos e,if_pos e,if_neg (by rw [e];exact Ne.symm h)]
   ·rw [if_neg e,if_neg e]
end
theorem wCx (x a b:Int):wAO x a b=some (decide (a <= x/\x <= b)):=by
 unfold wAO
 by_cases h:a <= x
 ·rw [if_pos h];simp [h]
 ·rw [if_neg h];simp [h]
theorem allB {l:List Int} {f:Int->Option Bool} {p:Int->Bool} (hf:∀ a,f a=some (p a)) (hn:l.length <= 9223372036854775807):wBO l f=some (l.all p):=by
 unfold wBO wAS wAT wBK
 have:=wEQ (R:=Int) (l:=l) (f:=fun x=>(f x).bind fun x5=>some (!x5)) (p:=fun a=>!p a) (fun a _=>by rw [hf];rfl) hn id
 simp only [id] at this
 rw [this]
 simp only [hH,wFN]
 congr 1
 clear this hn
 induction l with
 | nil=>rfl
 | cons a l ih=>rw [kk,List.all_cons,<- ih];cases p a <;> simp
theorem allP {l:List wAA} {f:wAA->Option Bool} {p:wAA->Bool} (hf:∀ a,f a=some (p a)) (hn:l.length <= 9223372036854775807):wAv l f=some (l.all p):=by
 unfold wAv wAP wAV wAf
 have:=wEQ (R:=Int) (l:=l) (f:=fun x=>(f x).bind fun x5=>some (!x5)) (p:=fun a=>!p a) (fun a _=>by rw [hf];rfl) hn id
 simp only [id] at this
 rw [this]
 simp only [hH,wFN]
 congr 1
 clear this hn
 induction l with
 | nil=>rfl
 | cons a l ih=>rw [kk,List.all_cons,<- ih];cases p a <;> simp
def Lt (p q:wAA):Prop:=p.Skier < q.Skier \/ (p.Skier=q.Skier/\p.Lane < q.Lane)
theorem wPk {p q:wAA} (h:Lt p q):wCb p q=some true:=by
 unfold wCb
 rcases h with h | ⟨h1,h2⟩
 ·rw [if_pos h]
 ·rw [if_neg (by omega),if_pos h1,decide_eq_true h2]
structure wOY (n:Nat) (p:wAA):Prop where
 s:0 <= p.Skier/\p.Skier < n
 l:0 <= p.Lane/\p.Lane < n
 ne:p.Skier ≠ p.Lane
structure GoodB (n:Nat) (b:wAC):Prop where
 nb:1 <= n/\n <= 8
 ns:b.Shots.length=n
 nd:b.Down.length=n
 sh:∀ s,s < n->0 <= gd b.Shots s/\gd b.Shots s <= 8
 dn:∀ l,l < n->0 <= gd b.Down l/\gd b.Down l <= 5
 ac:∀ p ∈ b.Across,wOY n p
 so:b.Across.Pairwise Lt
 al:b.Across.length <= 1000
theorem memB {α:Type} [Inhabited α] {l:List α} {a:α} (h:a ∈ l):∃ i,i < l.length/\gd l i=a:=by
 obtain ⟨i,hi,e⟩:=List.getElem_of_mem h
 exact ⟨i,hi,by rw [wGt hi];exact e⟩
theorem wNr {n:Nat} {b:wAC} (G:GoodB n b):wCO b=some 0:=by
 have hn:=G.nb
 unfold wCO
 rw [wCx,hH,if_pos (decide_eq_true (by rw [G.ns];omega)),if_pos (by rw [G.ns,G.nd]),allB (f:=wBP) (p:=fun x=>decide (0 <= x/\x <= 8)) (fun a=>by unfold wBP;rw [wCx];rfl) (by rw [G.ns];omega),hH,if_pos (by
  rw [nJ]
  intro x hx
  obtain ⟨i,hi,rfl⟩:=memB hx
  exact decide_eq_true (G.sh i (by rw [<- G.ns];exact hi))),allB (f:=wBQ) (p:=fun x=>decide (0 <= x/\x <= 5)) (fun a=>by unfold wBQ;rw [wCx];rfl) (by rw [G.nd];omega),hH,if_pos (by
  rw [nJ]
  intro x hx
  obtain ⟨i,hi,rfl⟩:=memB hx
  exact decide_eq_true (G.dn i (by rw [<- G.nd];exact hi))),
  allP (f:=fun x=>wBR x (↑b.Shots.length:Int)) (p:=fun p=>decide (0 <= p.Skier/\p.Skier <= (n:Int) - 1) && (decide (0 <= p.Lane/\p.Lane <= (n:Int) - 1) && decide (¬ p.Skier=p.Lane))) (fun p=>by
   unfold wBR
   rw [G.ns,wAX (by omega) (by omega),wCx,hH]
   by_cases h1:0 <= p.Skier/\p.Skier <= (n:Int) - 1
   ·rw [if_pos (decide_eq_true h1),wCx,hH,decide_eq_true h1,kh]
    by_cases h2:0 <= p.Lane/\p.Lane <= (n:Int) - 1
    ·rw [if_pos (decide_eq_true h2),decide_eq_true h2,kh]
    ·rw [if_neg (by simpa using h2),decide_eq_false h2,Bool.false_and]
   ·rw [if_neg (by simpa using h1),decide_eq_false h1,Bool.false_and]) (by have:=G.al;omega),hH,if_pos (by
  rw [nJ]
  intro p hp
  have h:=G.ac p hp
  have h1:=h.s;have h2:=h.l
  rw [nA,nA]
  exact ⟨decide_eq_true (by omega),decide_eq_true (by omega),decide_eq_true h.ne⟩)]
 by_cases e:b.Across.length=0
 ·refine wMe (S:=Int) (m:=0) (fun i=>(i:Int) + 1) (fun i hi=>by omega) ?_ rfl (by omega)
  rw [if_neg (by omega)]
  rfl
 refine wMe (S:=Int) (m:=b.Across.length - 1) (fun i=>(i:Int) + 1) (fun i hi=>?_) ?_ rfl (by have:=G.al;omega)
 ·have al:=G.al
  have h1:i < b.Across.length:=by omega
  have h2:i + 1 < b.Across.length:=by omega
  rw [if_pos (by omega),show w64 ((i:Int) + 1 - 1)=(i:Int) by rw [Int.add_sub_cancel];exact wAX (by omega) (by omega),wCe h1,hH,show ((i:Int) + 1)=((i + 1:Nat):Int) by omega,wCe h2,hH,wPk (by
   have:=nU.1 G.so i (i + 1) h1 h2 (by omega)
   rw [wGt h1,wGt h2]
   exact this),hH,if_pos rfl,wAX (by omega) (by omega)]
 ·rw [if_neg (by omega)]
  rfl
def wCM (b:wAC) (s l:Nat):Bool:=decide (s=l) || decide ((⟨(s:Int),(l:Int)⟩:wAA) ∈ b.Across)
theorem wNs {b:wAC} {s l:Nat}:wCM b s l=true ↔ s=l \/ (⟨(s:Int),(l:Int)⟩:wAA) ∈ b.Across:=by
 unfold wCM;simp
def shB (b:wAC) (s:Nat):Int:=gd b.Shots s
def dnB (b:wAC) (l:Nat):Int:=gd b.Down l
theorem wGu {n:Nat} {b:wAC} (n8:n <= 8) (ns:b.Shots.length=n) (al:b.Across.length <= 1000):∃ may m,wBa b=some ⟨b,may,Arr.fill 64 0,Arr.fill 8 0,m⟩/\(may.map (·.1)).Nodup/\∀ s l:Nat,s < n->wDu may ⟨(s:Int),(l:Int)⟩ false=wCM b s l:=by
 unfold wBa
 obtain ⟨m1,e1,u1,g1⟩:∃ m1,(wCu 0 (↑b.Shots.length:Int) (fun (k28:Nat) l25 =>
  some (mput l25 (⟨(↑k28:Int),(↑k28:Int)⟩:wAA) true)) ([]:List (wAA × Bool)))=some m1/\(m1.map (·.1)).Nodup/\∀ q,wEM m1 q=if 0 <= q.Skier/\q.Skier < n/\q.Lane=q.Skier then some true else none:=by
  rw [ns,wDb (by omega)]
  obtain ⟨m1,e,h1,h2⟩:=wEL (S:=List (wAA × Bool)) (body:=fun (k28:Nat) l25=>some (mput l25 (⟨(↑k28:Int),(↑k28:Int)⟩:wAA) true)) (fun k m=>(m.map (·.1)).Nodup/\∀ q,wEM m q=if 0 <= q.Skier/\q.Skier < k/\q.Lane=q.Skier then some true else none) n 0 [] ⟨List.nodup_nil,fun q=>by rw [if_neg (by omega)];rfl⟩ (fun i m _ hi ⟨h1,h2⟩=>⟨_,rfl,wIe h1,fun q=>by
   rw [wId,h2]
   by_cases e:q=⟨(i:Int),(i:Int)⟩
   ·rw [if_pos e,if_pos (show 0 <= q.Skier/\q.Skier < ((i + 1:Nat):Int)/\q.Lane=q.Skier by
     subst e
     refine ⟨Int.natCast_nonneg i,?_,rfl⟩
     show (i:Int) < ((i + 1:Nat):Int)
     omega)]
   ·rw [if_neg e]
    have ne:¬ (q.Skier=i/\q.Lane=i):=fun h=>e (by obtain ⟨a,c⟩:=q;simp only at h;rw [h.1,h.2])
    by_cases c:0 <= q.Skier/\q.Skier < i/\q.Lane=q.Skier
    ·rw [if_pos c,if_pos (by omega)]
    ·rw [if_neg c,if_neg (by omega)]⟩)
  rw [nr] at h2
  exact ⟨m1,e,h1,h2⟩
 rw [e1,hH]
 obtain ⟨m2,e2,u2,g2⟩:∃ m2,(wCu 0 (↑b.Across.length:Int) (fun (k90:Nat) l87 =>
  (idx b.Across (↑k90:Int)).bind fun x112 =>
  some (mput l87 x112 true)) m1)=some m2/\(m2.map (·.1)).Nodup/\∀ q,wEM m2 q=if q ∈ b.Across.take b.Across.length then some true else wEM m1 q:=by
  rw [wDb (by omega)]
  obtain ⟨m2,e,h1,h2⟩:=wEL (S:=List (wAA × Bool)) (body:=fun (k90:Nat) l87 =>
  (idx b.Across (↑k90:Int)).bind fun x112 =>
  some (mput l87 x112 true)) (fun k m=>(m.map (·.1)).Nodup/\∀ q,wEM m q=if q ∈ b.Across.take k then some true else wEM m1 q) b.Across.length 0 m1 ⟨u1,fun q=>by rw [List.take_zero,if_neg (by simp)]⟩ (by
   rintro i m _ hi ⟨h1,h2⟩
   have hi:i < b.Across.length:=by omega
   refine ⟨_,by rw [wCe hi,hH],wIe h1,fun q=>?_⟩
   rw [wId,h2,wFd hi]
   by_cases e:q=gd b.Across i
   ·rw [if_pos e,if_pos (by rw [e];simp)]
   ·rw [if_neg e]
    by_cases c:q ∈ b.Across.take i
    ·rw [if_pos c,if_pos (nl _ c)]
    ·rw [if_neg c,if_neg fun h=>(nH.1 h).elim c fun h=>e (nO.1 h)])
  rw [nr] at h2
  exact ⟨m2,e,h1,h2⟩
 rw [e2,hH]
 refine ⟨m2,_,rfl,u2,fun s l hs=>?_⟩
 unfold wDu
 rw [g2,kW,g1]
 unfold wCM
 by_cases c:(⟨(s:Int),(l:Int)⟩:wAA) ∈ b.Across
 ·rw [if_pos c,decide_eq_true c,Bool.or_true];rfl
 ·rw [if_neg c,decide_eq_false c,Bool.or_false]
  by_cases e:s=l
  ·rw [if_pos (by simp only;omega),decide_eq_true e];rfl
  ·rw [if_neg (by simp only;omega),decide_eq_false e];rfl
theorem wHu {n:Nat} {can:Nat->Nat->Bool} {sh:Nat->Int} (n8:n <= 8) (h:∀ s,s < n->0 <= sh s):Fl n can sh (fun _=>0) (Arr.fill 64 0) (Arr.fill 8 0):=by
 have g:∀ s l,s < n->l < n->(Arr.fill 64 (0:Int)).get (s * 8 + l)=0:=fun s l hs hl=>wFR (by omega)
 have g2:∀ s,s < n->(Arr.fill 8 (0:Int)).get s=0:=fun s hs=>wFR (by omega)
 exact ⟨fun s l hs hl=>by rw [g s l hs hl];exact kE _,fun s l hs hl q=>by rw [g s l hs hl] at q;omega,fun s hs=>by rw [g2 s hs];exact wCR n fun l hl=>g s l hs hl,fun s hs=>by rw [g2 s hs];exact h s hs,fun l hl=>wCR n fun s hs=>g s l hs hl⟩
theorem wER {n:Nat} {b:wAC} (G:GoodB n b):∃ may m,wBI b=some (some ⟨b,may,Arr.fill 64 0,Arr.fill 8 0,m⟩,0)/\(may.map (·.1)).Nodup/\Desk n (wCM b) (shB b) b may:=by
 obtain ⟨may,m,e,h1,h2⟩:=wGu (by have:=G.nb;omega) G.ns G.al
 refine ⟨may,m,?_,h1,⟨by have:=G.nb;omega,G.ns,G.nd,fun s hs=>⟨rfl,by have:=G.sh s hs;unfold shB;omega⟩,fun s l hs _=>h2 s l hs⟩⟩
 unfold wBI
 rw [wNr G,hH,if_pos rfl,e,hH]
theorem GoodB.solve {n:Nat} {b:wAC} (G:GoodB n b) {may:List (wAA × Bool)} (K:Desk n (wCM b) (shB b) b may) (m:Arr Bool 16):∃ r,wAI ⟨b,may,Arr.fill 64 0,Arr.fill 8 0,m⟩=some r/\Sol n (wCM b) (shB b) (dnB b) r :=
 wGC K (fun l hl=>⟨rfl,by have:=G.dn l hl;omega⟩) m (wHu K.n8 fun s hs=>(G.sh s hs).1)
end Go.Proofs.Ytfcmijinklojbaa
namespace Go.Proofs.Ytfcmijinklojbaa
open Go.KL
theorem wMf {x:List Int} (hx:x.length <= 1000):wAR x=some x:=by
 unfold wAR
 rw [wEc (by simp only [nX];omega)]
 rfl
theorem cut_B {x:List Int} {k:Nat} (h:k <= x.length):cut x 0 (k:Int)=some (x.take k):=by
 unfold cut
 rw [if_pos ⟨by omega,by omega,by omega⟩]
 simp
end Go.Proofs.Ytfcmijinklojbaa
namespace Go.KL
def wQL (q:Nat->Bool):Nat->Nat->Bool
 | 0,_=>true
 | m + 1,k=>q k && wQL q m (k + 1)
def fnd {B:Type} (f:Nat->Option B):Nat->Nat->Option B
 | 0,_=>none
 | m + 1,k=>match f k with
  | some c=>some c
  | none=>fnd f m (k + 1)
theorem wHv (q:Nat->Bool):∀ m k,wQL q m k=true ↔ ∀ i,k <= i->i < k + m->q i=true
 | 0,k=>⟨fun _ i h1 h2=>by omega,fun _=>rfl⟩
 | m + 1,k=>by
  rw [wQL,nA,wHv q m (k + 1)]
  constructor
  ·rintro ⟨h1,h2⟩ i h3 h4
   by_cases e:i=k
   ·exact e ▸ h1
   ·exact h2 i (by omega) (by omega)
  ·exact fun h=>⟨h k (by omega) (by omega),fun i h1 h2=>h i (by omega) (by omega)⟩
theorem wOZ {B:Type} (q:Nat->Bool) (c:B):∀ m k,fnd (fun i=>if q i=true then none else some c) m k=if wQL q m k=true then none else some c
 | 0,_=>rfl
 | m + 1,k=>by
  rw [fnd,wOZ q c m (k + 1),wQL]
  cases q k <;> simp
def out {S B:Type} (s:S):Option B->S ⊕ B
 | none=>.inl s
 | some c=>.inr c
theorem wKC {B:Type} {body:Nat->Unit->Option (Unit ⊕ B)} {f:Nat->Option B}:∀ (m k:Nat),(∀ i,k <= i->i < k + m->body i ()=some (out () (f i)))->forN body m k ()=some (out () (fnd f m k))
 | 0,_,_=>rfl
 | m + 1,k,h=>by
  rw [forN,h k (by omega) (by omega),fnd]
  cases f k with
  | none=>exact wKC m (k + 1) fun i h1 h2=>h i (by omega) (by omega)
  | some c=>rfl
end Go.KL
namespace Go.Proofs.Ytfcmijinklojbaa
open Go.KL
structure LanesOK (n:Nat) (L:List Int):Prop where
 rg:∀ l ∈ L,0 <= l/\l < n
 so:L.Pairwise (· < ·)
def inL (L:List Int) (l:Nat):Bool:=decide ((l:Int) ∈ L)
theorem wDW {L:List Int} {l:Nat}:inL L l=true ↔ (l:Int) ∈ L:=by unfold inL;simp
def wFu (n:Nat) (L:List Int):Int:=if L.all (fun l=>decide (0 <= l/\l <= (n:Int) - 1))=true then (if wQL (fun k=>decide (gd L k < gd L (k + 1))) (L.length - 1) 0=true then 0 else 4) else 1
theorem wMg {L:List Int} (h:∀ k,k + 1 < L.length->gd L k < gd L (k + 1)):L.Pairwise (· < ·):=by
 refine nU.2 fun i j hi hj hij=>?_
 rw [<- wGt hi,<- wGt hj]
 clear hi
 induction j with
 | zero=>omega
 | succ j ih =>
  have a:=h j hj
  by_cases e:i=j
  ·rw [e];exact a
  ·have:=ih (by omega) (by omega);omega
theorem LanesOK.of_code {n:Nat} {L:List Int} (h:wFu n L=0):LanesOK n L:=by
 unfold wFu at h
 split at h
 ·rename_i h1
  split at h
  ·rename_i h2
   rw [nJ] at h1
   rw [wHv] at h2
   exact ⟨fun l hl=>by have:=of_decide_eq_true (h1 l hl);omega,wMg fun k hk=>of_decide_eq_true (h2 k (kv _) (by omega))⟩
  ·cases h
 ·cases h
theorem LanesOK.code {n:Nat} {L:List Int} (K:LanesOK n L):wFu n L=0:=by
 unfold wFu
 rw [if_pos (nJ.2 fun l hl=>decide_eq_true (by have:=K.rg l hl;omega)),if_pos ((wHv _ _ _).2 fun k _ hk=>decide_eq_true (by
  have h1:k < L.length:=by omega
  have h2:k + 1 < L.length:=by omega
  rw [wGt h1,wGt h2]
  exact nU.1 K.so k (k + 1) h1 h2 (by omega)))]
theorem LanesOK.inj {n:Nat} {L:List Int} (K:LanesOK n L) {i j:Nat} (hi:i < L.length) (hj:j < L.length) (h:gd L i=gd L j):i=j:=by
 rw [wGt hi,wGt hj] at h
 rcases Nat.lt_trichotomy i j with c | c | c
 ·have:=nU.1 K.so i j hi hj c;omega
 ·exact c
 ·have:=nU.1 K.so j i hj hi c;omega
theorem LanesOK.filter {n:Nat} {L:List Int} (K:LanesOK n L) (p:Int->Bool):LanesOK n (L.filter p):=⟨fun l hl=>K.rg l (nw.1 hl).1,K.so.filter p⟩
theorem LanesOK.len {n:Nat} {L:List Int} (K:LanesOK n L):L.length <= n:=by
 have key:∀ k,k < L.length->(k:Int) <= gd L k:=by
  intro k
  induction k with
  | zero=>intro h;exact (K.rg _ (wJU h)).1
  | succ k ih =>
   intro h
   have a:=ih (by omega)
   have h1:k < L.length:=by omega
   have:=nU.1 K.so k (k + 1) h1 h (by omega)
   rw [<- wGt h1,<- wGt h] at this
   omega
 by_cases e:L.length=0
 ·omega
 ·have h:L.length - 1 < L.length:=by omega
  have a:=key _ h
  have b:=(K.rg _ (wJU h)).2
  omega
section
variable {n:Nat} {can:Nat->Nat->Bool} {sh:Nat->Int} {b:wAC} {may:List (wAA × Bool)}
theorem wIf (K:Desk n can sh b may) (n1:1 <= n) (h:Arr Int 64) (u:Arr Int 8) (m:Arr Bool 16) {L:List Int} (hl:L.length <= 1000):wBC ⟨b,may,h,u,m⟩ L=some (wFu n L):=by
 have n8:=K.n8
 unfold wBC
 rw [allB (f:=fun x=>wAh x ⟨b,may,h,u,m⟩) (p:=fun l=>decide (0 <= l/\l <= (n:Int) - 1)) (fun a=>by
  unfold wAh
  simp only [K.nd]
  rw [wAX (by omega) (by omega),wCx]
  rfl) (by omega),hH]
 unfold wFu
 by_cases c:L.all (fun l=>decide (0 <= l/\l <= (n:Int) - 1))=true
 ·rw [if_pos c,if_pos c]
  unfold wHa
  rw [if_pos (by omega),show ((L.length:Int) - 1).toNat=L.length - 1 by omega]
  rw [wKC (f:=fun k=>if decide (gd L k < gd L (k + 1))=true then none else some (4:Int)) (L.length - 1) 0 fun k _ hk=>?_]
  ·rw [wOZ]
   split <;> rfl
  ·rw [show (1:Int) + (k:Int)=((k + 1:Nat):Int) by omega,wCe (by omega),hH,wAX (by omega) (by omega),show (((k + 1:Nat):Int) - 1)=(k:Int) by omega,wCe (by omega),hH]
   by_cases c2:gd L k < gd L (k + 1)
   ·rw [if_neg (by omega),if_pos (decide_eq_true c2)];rfl
   ·rw [if_pos (by omega),if_neg (by simpa using c2)];rfl
 ·rw [if_neg c,if_neg c]
theorem anyB {l:List Int} {f:Int->Option Bool} {p:Int->Bool} (hf:∀ a ∈ l,f a=some (p a)) (hn:l.length <= 9223372036854775807):wAS l f=some (l.any p):=by
 unfold wAS wAT
 have:=wEQ (R:=Int) (l:=l) (f:=f) (p:=p) hf hn id
 simp only [id] at this
 rw [this]
 simp only [hH,wFN]
theorem wJW (K:Desk n can sh b may) (h:Arr Int 64) (u:Arr Int 8) (m:Arr Bool 16) {L:List Int} (hL:LanesOK n L) {s:Nat} (hs:s < n):wBB ⟨b,may,h,u,m⟩ (s:Int) L=some (adj n can (inL L) s):=by
 have n8:=K.n8;have ll:=hL.len
 unfold wBB
 rw [anyB (f:=fun x=>wAs x ⟨b,may,h,u,m⟩ (s:Int)) (p:=fun l=>can s l.toNat) (fun l hl=>by
  have:=hL.rg l hl
  unfold wAs wBk
  rw [hH]
  have e:=K.can s l.toNat hs (by omega)
  rw [kM this.1] at e
  rw [<- e]) (by omega),hH]
 congr 1
 rw [kH,wGr,kK]
 constructor
 ·rintro ⟨l,h1,h2⟩
  have:=hL.rg l h1
  exact ⟨l.toNat,by omega,wDW.2 (by rw [kM this.1];exact h1),h2⟩
 ·rintro ⟨l,h1,h2,h3⟩
  exact ⟨(l:Int),wDW.1 h2,by simpa using h3⟩
def wGv (n:Nat) (can:Nat->Nat->Bool) (sh dn:Nat->Int) (S:Nat->Bool) (but:Int):Int:=dnL n dn S - wBy (fun s=>if (s:Int) ≠ but/\adj n can S s=true then sh s else 0) n
theorem wHU (K:Desk n can sh b may) {dn:Nat->Int} (hd:∀ l,l < n->gd b.Down l=dn l/\0 <= dn l/\dn l <= 1000) (hs:∀ s,s < n->0 <= sh s) (h:Arr Int 64) (u:Arr Int 8) (m:Arr Bool 16) {L:List Int} (hL:LanesOK n L) (but:Int):wAw ⟨b,may,h,u,m⟩ L but=some (wGv n can sh dn (inL L) but):=by
 have n8:=K.n8;have ll:=hL.len
 unfold wAw
 simp only [K.ns]
 have dbd:∀ (S:Nat->Bool) (k:Nat),k <= n->0 <= wBy (fun l=>if S l=true then dn l else 0) k/\wBy (fun l=>if S l=true then dn l else 0) k <= 1000 * (k:Int):=by
  intro S k
  induction k with
  | zero=>intro _;simp only [wBy];omega
  | succ k ih =>
   intro hk
   have a:=ih (by omega);have c:=hd k (by omega)
   rw [wBy]
   split <;> omega
 rw [wFO (S:=Int) (n:=L.length) (fun k=>dnL n dn (inL (L.take k))) (s0:=0) (by
  unfold dnL
  exact wCR n fun l _=>if_neg (by simp [inL])) (by omega) fun k hk=>?_,kW,hH]
 ·rw [wFO (S:=Int) (n:=n) (fun k=>dnL n dn (inL L) - wBy (fun s=>if (s:Int) ≠ but/\adj n can (inL L) s=true then sh s else 0) k) (s0:=dnL n dn (inL L)) (by simp only [wBy];omega) (by omega) fun s hs'=>?_]
  ·rfl
  ·have sb:∀ k,k <= n->0 <= wBy (fun s=>if (s:Int) ≠ but/\adj n can (inL L) s=true then sh s else 0) k/\wBy (fun s=>if (s:Int) ≠ but/\adj n can (inL L) s=true then sh s else 0) k <= 1000 * (k:Int):=by
    intro k
    induction k with
    | zero=>intro _;simp only [wBy];omega
    | succ k ih =>
     intro hk
     have a:=ih (by omega);have c:=(K.sh k (by omega)).2;have d:=hs k (by omega)
     rw [wBy]
     split <;> omega
   have k1:=K.sh s hs';have k2:=hs s hs'
   have s1:=sb s (by omega)
   have d1:=dbd (inL L) n (nE _)
   unfold dnL
   rw [wCe (by rw [K.ns];exact hs'),hH,wBy]
   by_cases c:(s:Int)=but
   ·rw [if_pos c,if_neg (fun q=>q.1 c),kU]
   ·rw [if_neg c,wJW K h u m hL hs',hH]
    by_cases c2:adj n can (inL L) s=true
    ·rw [if_pos c2,if_pos ⟨c,c2⟩,wAX (by omega) (by omega),k1.1]
     congr 1
     omega
    ·rw [if_neg c2,if_neg (fun q=>c2 q.2),kU]
 ·have r:=hL.rg _ (wJU hk)
  obtain ⟨l,hl⟩:∃ l:Nat,gd L k=l:=⟨(gd L k).toNat,by omega⟩
  have ln:l < n:=by omega
  rw [wCe hk,hH,hl,wCe (by rw [K.nd];exact ln),hH,(hd l ln).1]
  have e:dnL n dn (inL (L.take (k + 1)))=dnL n dn (inL (L.take k)) + dn l:=by
   unfold dnL
   rw [wDA (f:=fun i=>if inL (L.take k) i=true then dn i else 0) (g:=fun i=>if inL (L.take (k + 1)) i=true then dn i else 0) ln fun i hi hne=>?_]
   ·have h1:inL (L.take (k + 1)) l=true:=wDW.2 (by rw [wFd hk,nH,nO];exact .inr hl.symm)
    have h2:¬ inL (L.take k) l=true:=fun q=>by
     obtain ⟨j,hj,e⟩:=memB (wDW.1 q)
     rw [nu] at hj
     have e2:gd (L.take k) j=gd L j:=by
      unfold gd
      rw [nL,nL,List.getElem?_take_of_lt (by omega)]
     have:=hL.inj (i:=j) (j:=k) (by omega) hk (by rw [<- e2,e,hl])
     omega
    rw [if_pos h1,if_neg h2,Int.sub_zero]
   ·have:inL (L.take (k + 1)) i=inL (L.take k) i:=by
     rw [kH,wDW,wDW,wFd hk,nH,nO,hl]
     constructor
     ·rintro (q | q)
      ·exact q
      ·omega
     ·exact .inl
    simp only [this]
  rw [e]
  have d1:=dbd (inL (L.take k)) n (nE _)
  have d2:=hd l ln
  unfold dnL
  rw [wAX (by omega) (by omega)]
theorem wNt (m:Arr Bool 16) (n:Nat):LanesOK n (wEt m n):=by
 unfold wEt
 refine ⟨fun l hl=>?_,?_⟩
 ·obtain ⟨k,hk,rfl⟩:=kV.1 hl
  have:=ny.1 (nw.1 hk).1
  omega
 ·rw [List.pairwise_map]
  exact (List.pairwise_lt_range.filter _).imp fun h=>by omega
theorem wKD {m:Arr Bool 16} {n l:Nat} (hl:l < n):inL (wEt m n) l=m.get (8 + l):=by
 rw [kH,wDW]
 unfold wEt
 constructor
 ·intro h
  obtain ⟨k,hk,e⟩:=kV.1 h
  have:k=l:=by omega
  subst this
  exact (nw.1 hk).2
 ·intro h
  exact kV.2 ⟨l,nw.2 ⟨ny.2 hl,h⟩,rfl⟩
theorem wMh {dn:Nat->Int} {S T:Nat->Bool} (h:∀ l,l < n->S l=T l):dnL n dn S=dnL n dn T:=wBD n fun l hl=>by rw [h l hl]
theorem wMi {S T:Nat->Bool} (h:∀ l,l < n->S l=T l) (s:Nat):adj n can S s=adj n can T s:=by
 rw [kH,wGr,wGr]
 constructor
 ·rintro ⟨l,h1,h2,h3⟩;exact ⟨l,h1,by rw [<- h l h1];exact h2,h3⟩
 ·rintro ⟨l,h1,h2,h3⟩;exact ⟨l,h1,by rw [h l h1];exact h2,h3⟩
theorem wMj {S T:Nat->Bool} (h:∀ l,l < n->S l=T l):shL n can sh S=shL n can sh T:=wBD n fun s _=>by rw [wMi h]
theorem Sol.lanes {dn:Nat->Int} {r:List Int × HUM} (S:Sol n can sh dn r) (h:¬ Can n can sh dn):LanesOK n r.1/\shL n can sh (inL r.1) < dnL n dn (inL r.1):=by
 rcases S with ⟨e,F⟩ | ⟨e,e2,lt⟩
 ·exact absurd ⟨_,F.asg⟩ h
 ·rw [e2]
  refine ⟨wNt _ _,?_⟩
  rw [wMj (T:=fun l=>r.2.2.2.get (8 + l)) fun l hl=>wKD hl,wMh (T:=fun l=>r.2.2.2.get (8 + l)) fun l hl=>wKD hl]
  exact lt
theorem wNu {dn:Nat->Int} (S:Nat->Bool):wGv n can sh dn S (-1)=dnL n dn S - shL n can sh S:=by
 unfold wGv shL
 congr 1
 exact wBD n fun s _=>by
  by_cases c:adj n can S s=true
  ·rw [if_pos c,if_pos ⟨by omega,c⟩]
  ·rw [if_neg c,if_neg fun q=>c q.2]
theorem wMk (G:GoodB n b) {L:List Int} (hl:L.length <= 1000):wBJ b L=some (if wFu n L=0 then (if dnL n (dnB b) (inL L) - shL n (wCM b) (shB b) (inL L) <= 0 then (0,8) else (dnL n (dnB b) (inL L) - shL n (wCM b) (shB b) (inL L),0)) else (0,wFu n L)):=by
 obtain ⟨may,m,e1,_,K⟩:=wER G
 have hn:=G.nb
 unfold wBJ
 rw [e1,hH]
 simp only [if_true]
 rw [wIf K hn.1 _ _ _ hl,hH]
 by_cases c:wFu n L=0
 ·rw [if_pos c,if_pos c,wHU (dn:=dnB b) K (fun l hl=>⟨rfl,by have:=G.dn l hl;unfold dnB;omega⟩) (fun s hs=>(G.sh s hs).1) _ _ _ (.of_code c),hH,wNu]
  by_cases c2:dnL n (dnB b) (inL L) - shL n (wCM b) (shB b) (inL L) <= 0
  ·rw [if_pos c2,if_pos c2]
  ·rw [if_neg c2,if_neg c2]
 ·rw [if_neg c,if_neg c]
theorem wNv (G:GoodB n b):(Can n (wCM b) (shB b) (dnB b)/\wBj b=some ([],6)) \/ (¬ Can n (wCM b) (shB b) (dnB b)/\∃ L,wBj b=some (L,0)/\LanesOK n L/\shL n (wCM b) (shB b) (inL L) < dnL n (dnB b) (inL L)):=by
 obtain ⟨may,m,e1,_,K⟩:=wER G
 obtain ⟨r,e2,S⟩:=G.solve K m
 unfold wBj
 rw [e1,hH]
 simp only [if_true]
 rw [e2,hH]
 by_cases c:Can n (wCM b) (shB b) (dnB b)
 ·rw [if_pos (S.none_iff.2 c)]
  exact .inl ⟨c,rfl⟩
 ·rw [if_neg fun q=>c (S.none_iff.1 q)]
  exact .inr ⟨c,_,rfl,(S.lanes c).1,(S.lanes c).2⟩
end
end Go.Proofs.Ytfcmijinklojbaa
namespace Go.Proofs.Ytfcmijinklojbaa
open Go.KL
def wIB (b:wAC) (s l s' l':Nat):Bool:=if s'=s/\l'=l then false else wCM b s' l'
def shW (b:wAC) (s k s':Nat):Int:=if s'=s then shB b s - k else shB b s'
def dnW (b:wAC) (l k l':Nat):Int:=if l'=l then dnB b l - k else dnB b l'
def PW (n:Nat) (b:wAC) (s l k:Nat):Prop:=Can n (wIB b s l) (shW b s k) (dnW b l k)
section
variable {n:Nat} {b:wAC} {may:List (wAA × Bool)}
theorem wMl {s l k:Nat} (hl:l < n) (L:Nat->Bool):dnL n (dnW b l k) L=dnL n (dnB b) L - (if L l=true then (k:Int) else 0):=by
 unfold dnL
 rw [wDA (f:=fun i=>if L i=true then dnB b i else 0) (g:=fun i=>if L i=true then dnW b l k i else 0) hl fun i hi hne=>by unfold dnW;rw [if_neg hne]]
 unfold dnW
 simp only [if_true]
 split <;> omega
theorem wPl {s k:Nat} (hs:s < n) (can:Nat->Nat->Bool) (L:Nat->Bool):shL n can (shW b s k) L=shL n can (shB b) L - (if adj n can L s=true then (k:Int) else 0):=by
 unfold shL
 rw [wDA (f:=fun i=>if adj n can L i=true then shB b i else 0) (g:=fun i=>if adj n can L i=true then shW b s k i else 0) hs fun i hi hne=>by unfold shW;rw [if_neg hne]]
 unfold shW
 simp only [if_true]
 split <;> omega
theorem wPm {s l i j k:Nat} (hs:s < n) (hl:l < n) (h1:PW n b s l i) (h2:PW n b s l k) (hij:i <= j) (hjk:j <= k) (L:Nat->Bool):¬ shL n (wIB b s l) (shW b s j) L < dnL n (dnW b l j) L:=by
 obtain ⟨x,hx⟩:=h1
 obtain ⟨y,hy⟩:=h2
 have a:=hx.hall L
 have c:=hy.hall L
 rw [wMl (s:=s) hl,wPl hs] at a c ⊢
 split at a <;> split at a <;> simp_all <;> omega
theorem wFf (G:GoodB n b) {s l k:Nat} (hs:s < n) (hl:l < n) (h1:(k:Int) <= shB b s) (h2:(k:Int) <= dnB b l) (h:Arr Int 64) (u:Arr Int 8) (m:Arr Bool 16):∃ b' may' m',wAL ⟨b,may,h,u,m⟩ (s:Int) (l:Int) (k:Int)=some ⟨b',may',Arr.fill 64 0,Arr.fill 8 0,m'⟩ /\
  Desk n (wIB b s l) (shW b s k) b' may'/\∀ j,j < n->gd b'.Down j=dnW b l k j/\0 <= dnW b l k j/\dnW b l k j <= 1000:=by
 have hn:=G.nb
 have hS:s < b.Shots.length:=by rw [G.ns];exact hs
 have hD:l < b.Down.length:=by rw [G.nd];exact hl
 have cl:∀ x:List Int,x.length <= 8->wAR x=some x:=fun x hx=>by
  unfold wAR
  rw [wEc (by simp only [nX];omega)]
  rfl
 have b1:=G.sh s hs;have b2:=G.dn l hl
 unfold shB at h1;unfold dnB at h2
 unfold wAL
 simp only
 rw [cl _ (by rw [G.ns];omega),hH,cl _ (by rw [G.nd];omega),hH,wDC (by omega) (by omega),hH,wDC (by omega) (by omega),hH,nW,nW,wAX (by omega) (by omega),wAX (by omega) (by omega)]
 obtain ⟨may',m',e,u1,g⟩:=wGu (b:=⟨b.Shots.set s (gd b.Shots s - k),b.Down.set l (gd b.Down l - k),b.Across⟩) (n:=n) (by omega) (by simp [G.ns]) G.al
 rw [e,hH]
 refine ⟨_,_,_,rfl,⟨by omega,by simp [G.ns],by simp [G.nd],fun i hi=>?_,fun i j hi hj=>?_⟩,fun j hj=>?_⟩
 ·simp only
  rw [wGs hS (by rw [G.ns];exact hi)]
  have:=G.sh i hi
  unfold shW shB
  split <;> simp <;> omega
 ·unfold wDu
  simp only
  rw [wNq u1]
  unfold wIB
  by_cases c:i=s/\j=l
  ·rw [if_pos (by rw [c.1,c.2]),if_pos c];rfl
  ·rw [if_neg (by
    intro q
    injection q with q1 q2
    exact c ⟨by omega,by omega⟩),if_neg c]
   exact g i j hi
 ·simp only
  rw [wGs hD (by rw [G.nd];exact hj)]
  have:=G.dn j hj
  unfold dnW dnB
  split <;> omega
def wCH (b:wAC) (s l:Nat):Int:=if wCM b s l=true then min (shB b s) (dnB b l) else 0
theorem wHw (G:GoodB n b) (K:Desk n (wCM b) (shB b) b may) {s l:Nat} (hs:s < n) (hl:l < n) (h:Arr Int 64) (u:Arr Int 8) (m:Arr Bool 16):wAt ⟨b,may,h,u,m⟩ (s:Int) (l:Int)=some (wCH b s l):=by
 unfold wAt
 rw [K.can_is hs hl,hH]
 unfold wCH
 by_cases c:wCM b s l=true
 ·rw [if_pos c,if_pos c]
  simp only
  rw [wCe (by rw [G.ns];exact hs),hH,wCe (by rw [G.nd];exact hl),hH]
  rfl
 ·rw [if_neg c,if_neg c]
theorem wMm (G:GoodB n b) (K:Desk n (wCM b) (shB b) b may) {s l:Nat} (hs:s < n) (hl:l < n) (h:Arr Int 64) (u:Arr Int 8) (m:Arr Bool 16):∃ lo hi,wBL ⟨b,may,h,u,m⟩ (s:Int) (l:Int)=some ⟨lo,hi⟩ /\
  (((∀ k:Nat,(k:Int) <= wCH b s l->¬ PW n b s l k)/\lo=-1/\hi=0) \/ ∃ a c:Nat,lo=a/\hi=c/\a <= c/\(c:Int) <= wCH b s l/\∀ k:Nat,(k:Int) <= wCH b s l->(PW n b s l k ↔ a <= k/\k <= c)):=by
 have hn:=G.nb
 have b1:=G.sh s hs;have b2:=G.dn l hl
 have hm:0 <= wCH b s l/\wCH b s l <= 5/\wCH b s l <= shB b s/\wCH b s l <= dnB b l:=by
  unfold wCH shB dnB
  split <;> omega
 unfold wBL
 rw [wHw G K hs hl,hH]
 obtain ⟨M,hM⟩:∃ M:Nat,wCH b s l=M:=⟨(wCH b s l).toNat,by omega⟩
 rw [hM] at hm ⊢
 rw [wAX (by omega) (by omega),show ((M:Int) + 1)=((M + 1:Nat):Int) by omega,wDb (by omega)]
 obtain ⟨⟨lo,hi⟩,e,I⟩:=wEL (S:=Int × Int) (body:=fun (k35:Nat) ((x33,x34):Int × Int) =>
  (wAL ⟨b,may,h,u,m⟩ (s:Int) (l:Int) (↑k35:Int)).bind fun x66 =>
  (wAI x66).bind fun (x92,x93) =>
  if x92=[] then
   if x33 < 0 then
    some ((↑k35:Int),(↑k35:Int))
   else
    some (x33,(↑k35:Int))
  else
   some (x33,x34)) (fun k st=>((∀ j,j < k->¬ PW n b s l j)/\st=(-1,0)) \/ ∃ a c:Nat,st=((a:Int),(c:Int))/\a <= c/\c < k/\PW n b s l a/\PW n b s l c/\∀ j,j < k->PW n b s l j->a <= j/\j <= c) (M + 1) 0 (-1,0) (.inl ⟨fun j hj=>by omega,rfl⟩)
  (by
   rintro k ⟨lo,hi⟩ _ hk I
   obtain ⟨b',may',m',e1,K',d'⟩:=wFf (may:=may) G hs hl (show (k:Int) <= shB b s by omega) (show (k:Int) <= dnB b l by omega) h u m
   obtain ⟨r,e2,S⟩:=wGC K' d' m' (wHu K'.n8 fun i hi=>by
    have:=G.sh i hi
    unfold shW
    split
    ·omega
    ·exact this.1)
   simp only
   rw [e1,hH,e2,hH]
   by_cases c:r.1=[]
   ·rw [if_pos c]
    have P:PW n b s l k:=S.none_iff.1 c
    rcases I with ⟨g,e⟩ | ⟨a,c',e,h1,h2,h3,h4,h5⟩
    ·injection e with e3 e4
     subst e3 e4
     rw [if_pos (by omega)]
     exact ⟨_,rfl,.inr ⟨k,k,rfl,nE _,by omega,P,P,fun j hj q=>by
      by_cases e:j=k
      ·omega
      ·exact absurd q (g j (by omega))⟩⟩
    ·injection e with e3 e4
     subst e3 e4
     rw [if_neg (by omega)]
     exact ⟨_,rfl,.inr ⟨a,k,rfl,by omega,by omega,h3,P,fun j hj q=>by
      by_cases e:j=k
      ·omega
      ·have:=h5 j (by omega) q;omega⟩⟩
   ·rw [if_neg c]
    have nP:¬ PW n b s l k:=fun q=>c (S.none_iff.2 q)
    refine ⟨_,rfl,?_⟩
    rcases I with ⟨g,e⟩ | ⟨a,c',e,h1,h2,h3,h4,h5⟩
    ·exact .inl ⟨fun j hj=>by
      by_cases e:j=k
      ·rw [e];exact nP
      ·exact g j (by omega),e⟩
    ·exact .inr ⟨a,c',e,h1,by omega,h3,h4,fun j hj q=>by
      by_cases e:j=k
      ·rw [e] at q;exact absurd q nP
      ·exact h5 j (by omega) q⟩)
 rw [e,hH]
 refine ⟨lo,hi,rfl,?_⟩
 rw [nr] at I
 rcases I with ⟨g,e⟩ | ⟨a,c,e,h1,h2,h3,h4,h5⟩
 ·injection e with e3 e4
  exact .inl ⟨fun k hk=>g k (by omega),e3,e4⟩
 ·injection e with e3 e4
  refine .inr ⟨a,c,e3,e4,h1,by omega,fun k hk=>⟨fun q=>h5 k (by omega) q,fun ⟨q1,q2⟩=>?_⟩⟩
  apply Classical.byContradiction
  intro np
  obtain ⟨b',may',m',e1,K',d'⟩:=wFf (may:=may) G hs hl (show (k:Int) <= shB b s by omega) (show (k:Int) <= dnB b l by omega) h u m
  obtain ⟨r,e2,S⟩:=wGC K' d' m' (wHu K'.n8 fun i hi=>by
    have:=G.sh i hi
    unfold shW
    split
    ·omega
    ·exact this.1)
  obtain ⟨L,lt⟩:=S.short np
  exact wPm hs hl h3 h4 q1 q2 L lt
end
end Go.Proofs.Ytfcmijinklojbaa
namespace Go.Proofs.Ytfcmijinklojbaa
open Go.KL
section
variable {n:Nat} {b:wAC}
theorem wPn (G:GoodB n b) {s l:Nat} (hs:s < n) (hl:l < n):∃ r,wBp b (s:Int) (l:Int)=some r/\((¬ Can n (wCM b) (shB b) (dnB b)/\r=(⟨0,0⟩,7)) \/ (Can n (wCM b) (shB b) (dnB b)/\∃ lo hi,r=(⟨lo,hi⟩,0) /\
  (((∀ k:Nat,(k:Int) <= wCH b s l->¬ PW n b s l k)/\lo=-1/\hi=0) \/ ∃ a c:Nat,lo=a/\hi=c/\a <= c/\(c:Int) <= wCH b s l/\∀ k:Nat,(k:Int) <= wCH b s l->(PW n b s l k ↔ a <= k/\k <= c)))):=by
 have hn:=G.nb
 obtain ⟨may,m,e1,_,K⟩:=wER G
 obtain ⟨⟨L,h,u,m2⟩,e2,S⟩:=G.solve K m
 unfold wBp wBf
 rw [e1,hH]
 simp only [if_true]
 rw [G.ns,wAX (by omega) (by omega),wCx,hH,if_pos (decide_eq_true (by omega)),G.nd,wAX (by omega) (by omega),wCx,hH,if_pos (decide_eq_true (by omega)),e2,hH]
 simp only
 by_cases c:L=[]
 ·have C:Can n (wCM b) (shB b) (dnB b):=S.none_iff.1 c
  obtain ⟨lo,hi,e3,q⟩:=wMm G K hs hl h u m2
  rw [if_pos c,hH]
  simp only [if_true]
  rw [e3,hH]
  exact ⟨_,rfl,.inr ⟨C,lo,hi,rfl,q⟩⟩
 ·have nC:¬ Can n (wCM b) (shB b) (dnB b):=fun q=>c (S.none_iff.2 q)
  rw [if_neg c,hH]
  simp only
  rw [if_neg (by decide)]
  exact ⟨_,rfl,.inl ⟨nC,rfl⟩⟩
end
end Go.Proofs.Ytfcmijinklojbaa
namespace Go.Proofs.Ytfcmijinklojbaa
open Go.KL
section
variable {n:Nat} {b:wAC}
theorem pw_of {x:Nat->Nat->Int} (A:Asg n (wCM b) (shB b) (dnB b) x) {s l k:Nat} (hs:s < n) (hl:l < n) (hk:x s l=k):PW n b s l k:=by
 refine ⟨fun s' l'=>if s'=s/\l'=l then 0 else x s' l',fun i j hi hj=>?_,fun i j hi hj q=>?_,fun i hi=>?_,fun j hj=>?_⟩
 ·split
  ·exact kE _
  ·exact A.nn i j hi hj
 ·unfold wIB
  split at q
  ·omega
  ·rename_i c;rw [if_neg c];exact A.pos i j hi hj q
 ·unfold shW
  by_cases e:i=s
  ·subst e
   rw [if_pos rfl,wDA (f:=x i) (g:=fun l'=>if i=i/\l'=l then 0 else x i l') hl fun j hj hne=>by rw [if_neg fun c=>hne c.2]]
   have:=A.row i hi
   rw [if_pos ⟨rfl,rfl⟩,hk]
   omega
  ·rw [if_neg e]
   refine kq (Int.le_of_eq (wBD n fun j hj=>?_)) (A.row i hi)
   rw [if_neg fun c=>e c.1]
 ·unfold dnW
  by_cases e:j=l
  ·subst e
   rw [if_pos rfl,wDA (f:=fun i=>x i j) (g:=fun i=>if i=s/\j=j then 0 else x i j) hs fun i hi hne=>by rw [if_neg fun c=>hne c.1],A.col j hj,if_pos ⟨rfl,rfl⟩,hk]
   omega
  ·rw [if_neg e,<- A.col j hj]
   exact wBD n fun i hi=>by rw [if_neg fun c=>e c.2]
end
end Go.Proofs.Ytfcmijinklojbaa
namespace Go.Proofs.Ytfcmijinklojbaa
open Go.KL
section
variable {n:Nat} {b:wAC}
theorem wNw {x:Nat->Nat->Int} (A:Asg n (wCM b) (shB b) (dnB b) x) {s l:Nat} (hs:s < n) (hl:l < n):0 <= x s l/\x s l <= wCH b s l:=by
 have x0:=A.nn s l hs hl
 have a1:=wFe (f:=x s) (fun j hj=>A.nn s j hs hj) hl
 have a2:=wFe (f:=fun i=>x i l) (fun i hi=>A.nn i l hi hl) hs
 have a3:=A.row s hs
 have a4:=A.col l hl
 refine ⟨x0,?_⟩
 unfold wCH
 by_cases c:wCM b s l=true
 ·rw [if_pos c];omega
 ·rw [if_neg c]
  have:¬ 0 < x s l:=fun h=>c (A.pos s l hs hl h)
  omega
theorem wPo (G:GoodB n b) (C:Can n (wCM b) (shB b) (dnB b)) {s l:Nat} (hs:s < n) (hl:l < n):∃ a c:Nat,wBp b (s:Int) (l:Int)=some (⟨(a:Int),(c:Int)⟩,0)/\a <= c/\(c:Int) <= wCH b s l/\∀ k:Nat,(k:Int) <= wCH b s l->(PW n b s l k ↔ a <= k/\k <= c):=by
 obtain ⟨r,e,q⟩:=wPn G hs hl
 rcases q with ⟨nC,_⟩ | ⟨_,lo,hi,rfl,q⟩
 ·exact absurd C nC
 rcases q with ⟨nP,_⟩ | ⟨a,c,rfl,rfl,h1,h2,h3⟩
 ·obtain ⟨x,A⟩:=C
  have m:=wNw A hs hl
  exact absurd (pw_of A hs hl (show x s l=((x s l).toNat:Int) by omega)) (nP _ (by omega))
 ·exact ⟨a,c,e,h1,h2,h3⟩
end
end Go.Proofs.Ytfcmijinklojbaa
namespace Go.Proofs.Ytfcmijinklojbaa
open Go.KL
theorem wRI {L:List Int} (hl:L.length <= 1000) {f:Int->Option Bool} {p:Int->Bool} (hf:∀ a,f a=some (p a)):wAl L f=some (L.filter fun a=>!p a):=by
 have fi:wAT L f=some (first p L 0):=by
  unfold wAT
  have:=wEQ (R:=Int) (l:=L) (f:=f) (p:=p) (fun a _=>hf a) (by omega) id
  simp only [id] at this
  exact this
 have fs:∀ (l:List Int) (k:Nat),(first p l k=-1/\∀ a ∈ l,p a=false) \/ ∃ j:Nat,first p l k=((k + j:Nat):Int)/\j < l.length/\p (gd l j)=true/\∀ a ∈ l.take j,p a=false:=by
  intro l
  induction l with
  | nil=>intro k;exact .inl ⟨rfl,fun a h=>by cases h⟩
  | cons a l ih =>
   intro k
   rw [first]
   by_cases c:p a=true
   ·rw [if_pos c]
    exact .inr ⟨0,rfl,by simp,c,fun a h=>by cases h⟩
   ·rw [if_neg c]
    have c':p a=false:=by simpa using c
    rcases ih (k + 1) with ⟨e,h⟩ | ⟨j,e,h1,h2,h3⟩
    ·exact .inl ⟨e,fun x hx=>by
      rcases nG.1 hx with q | q
      ·rw [q];exact c'
      ·exact h x q⟩
    ·refine .inr ⟨j + 1,by rw [e];omega,by simp only [nt];omega,h2,fun x hx=>?_⟩
     rw [List.take_succ_cons] at hx
     rcases nG.1 hx with q | q
     ·rw [q];exact c'
     ·exact h3 x q
 unfold wAl
 rw [fi,hH]
 rcases fs L 0 with ⟨e,h⟩ | ⟨q,e,h1,h2,h3⟩
 ·rw [if_pos e]
  congr 1
  exact (kO.2 fun a ha=>by rw [h a ha];rfl).symm
 ·rw [e,if_neg (by omega),nr]
  rw [wAX (by omega) (by omega)]
  have fq:(L.take (q + 1)).filter (fun a=>!p a)=L.take q:=by
   rw [wFd h1,nv,kY (by simp [h2]),kc,ni]
   exact kO.2 fun a ha=>by rw [h3 a ha];rfl
  refine wJV (S:=List Int × Int × Int) (fun k st=>q + 1 + k <= L.length/\st.1.length=L.length/\st.2.2=((q + 1 + k:Nat):Int)/\st.2.1=(((L.take (q + 1 + k)).filter fun a=>!p a).length:Int)/\st.1.take ((L.take (q + 1 + k)).filter fun a=>!p a).length=(L.take (q + 1 + k)).filter (fun a=>!p a)/\∀ j,q + 1 + k <= j->j < L.length->gd st.1 j=gd L j) 1000 ⟨by omega,rfl,rfl,?_,?_,fun j _ _=>rfl⟩ (by omega) ?_
  ·simp only [Nat.add_zero]
   rw [fq,nu];omega
  ·simp only [Nat.add_zero]
   rw [fq,nu,show min q L.length=q by omega]
  rintro k ⟨l,i,j⟩ _ ⟨k0,ll,hj,hi,ht,hd⟩
  simp only at k0 ll hj hi ht hd ⊢
  subst hj
  have fl:((L.take (q + 1 + k)).filter fun a=>!p a).length <= q + k:=by
   have a:L.take (q + 1 + k)=L.take (q + 1) ++ (L.drop (q + 1)).take k:=by
    rw [List.take_add]
   rw [a,nv,nh,fq,nu]
   have:=nz (fun a=>!p a) ((L.drop (q + 1)).take k)
   have:=List.length_take_le k (L.drop (q + 1))
   omega
  by_cases c:q + 1 + k < L.length
  ·rw [if_pos (by omega),wDC (by omega) (by omega),hH,nW,hd _ (nE _) c,hf,hH]
   have tk:L.take (q + 1 + (k + 1))=L.take (q + 1 + k) ++ [gd L (q + 1 + k)]:=wFd c
   by_cases c2:p (gd L (q + 1 + k))=true
   ·rw [if_pos c2,wAX (by omega) (by omega)]
    have fe:(L.take (q + 1 + (k + 1))).filter (fun a=>!p a)=(L.take (q + 1 + k)).filter fun a=>!p a:=by
     rw [tk,nv,kY (by simp [c2]),kc,ni]
    refine .inl ⟨by omega,_,rfl,by omega,ll,by simp only;omega,?_,?_,fun j h4 h5=>hd j (by omega) h5⟩
    ·simp only;rw [fe];exact hi
    ·simp only;rw [fe];exact ht
   ·have fe:(L.take (q + 1 + (k + 1))).filter (fun a=>!p a)=(L.take (q + 1 + k)).filter (fun a=>!p a) ++ [gd L (q + 1 + k)]:=by
     rw [tk,nv,List.filter_cons_of_pos (by simpa using c2),kc]
    rw [if_neg c2,hi,wDC (by omega) (by omega),hH,nW,wAX (by omega) (by omega),wAX (by omega) (by omega)]
    refine .inl ⟨by omega,_,rfl,by omega,by simp [ll],by simp only;omega,?_,?_,fun j h4 h5=>?_⟩
    ·simp only;rw [fe,nh,nj];omega
    ·simp only
     rw [fe,nh,nj,wFd (by rw [List.length_set];omega),List.take_set_of_le (nE _),ht,wGs (by omega) (by omega),if_pos rfl]
    ·simp only
     rw [wGs (by omega) (by omega),if_neg (by omega)]
     exact hd j (by omega) h5
  ·rw [if_neg (by omega),hi]
   refine .inr ?_
   rw [show q + 1 + k=L.length by omega,kW] at ht hi ⊢
   unfold cut
   rw [if_pos ⟨by omega,by omega,by have:=nz (fun a=>!p a) L;omega⟩]
   simp only [nW,Int.toNat_zero,List.drop_zero,Nat.sub_zero,hH]
   rw [ht]
   rfl
end Go.Proofs.Ytfcmijinklojbaa
namespace Go.Proofs.Ytfcmijinklojbaa
open Go.KL
section
variable {n:Nat} {b:wAC}
def wIk (L:List Int) (l:Nat):List Int:=L.filter fun a=>!decide (a=(l:Int))
def wDx (n:Nat) (b:wAC) (s l:Nat) (L:List Int):wAc :=
 if inL L l=true/\adj n (wCM b) (inL (wIk L l)) s=false then ⟨max 0 (wGv n (wCM b) (shB b) (dnB b) (inL L) s),wCH b s l⟩
 else if inL L l=false/\adj n (wCM b) (inL L) s=true then ⟨0,min (wCH b s l) (shB b s - wGv n (wCM b) (shB b) (dnB b) (inL L) s)⟩
 else ⟨0,wCH b s l⟩
theorem wMn {L:List Int} {l:Nat}:(wIk L l).length=L.length ↔ inL L l=false:=by
 unfold wIk
 rw [List.length_filter_eq_length_iff]
 unfold inL
 rw [decide_eq_false_iff_not]
 constructor
 ·intro h q
  have:=h _ q
  simp at this
 ·intro h a ha
  simp only [nk,decide_eq_false_iff_not]
  intro e
  rw [e] at ha
  exact h ha
theorem wPp (G:GoodB n b) (S:Nat->Bool) (but:Int):-64 <= wGv n (wCM b) (shB b) (dnB b) S but/\wGv n (wCM b) (shB b) (dnB b) S but <= 40:=by
 have hn:=G.nb
 have a:∀ k,k <= n->0 <= wBy (fun l=>if S l=true then dnB b l else 0) k/\wBy (fun l=>if S l=true then dnB b l else 0) k <= 5 * (k:Int):=by
  intro k
  induction k with
  | zero=>intro _;simp only [wBy];omega
  | succ k ih =>
   intro hk
   have:=ih (by omega);have:=G.dn k (by omega)
   rw [wBy]
   unfold dnB at *
   split <;> omega
 have c:∀ k,k <= n->0 <= wBy (fun s=>if (s:Int) ≠ but/\adj n (wCM b) S s=true then shB b s else 0) k/\wBy (fun s=>if (s:Int) ≠ but/\adj n (wCM b) S s=true then shB b s else 0) k <= 8 * (k:Int):=by
  intro k
  induction k with
  | zero=>intro _;simp only [wBy];omega
  | succ k ih =>
   intro hk
   have:=ih (by omega);have:=G.sh k (by omega)
   rw [wBy]
   unfold shB at *
   split <;> omega
 have:=a n (nE _);have:=c n (nE _)
 unfold wGv dnL
 omega
theorem wNx (G:GoodB n b) {s l:Nat} (hs:s < n) (hl:l < n) {L:List Int} (hL:L.length <= 1000):wBW b (s:Int) (l:Int) L=some (if wFu n L=0 then (if @decide (Can n (wCM b) (shB b) (dnB b)) (ng _)=true then (wDx n b s l L,0) else (⟨0,0⟩,7)) else (⟨0,0⟩,wFu n L)):=by
 obtain ⟨may,m,e1,_,K⟩:=wER G
 have hn:=G.nb;have n8:=K.n8
 unfold wBW
 rw [e1,hH]
 simp only [if_true]
 rw [G.ns,wAX (by omega) (by omega),wCx,hH,if_pos (decide_eq_true (by omega)),G.nd,wAX (by omega) (by omega),wCx,hH,decide_eq_true (show 0 <= (l:Int)/\(l:Int) <= (n:Int) - 1 by omega),hH,if_neg (by decide),wIf K hn.1 _ _ _ hL,hH]
 by_cases c:wFu n L=0
 case neg=>rw [if_neg c,if_neg c]
 rw [if_pos c,if_pos c]
 have KL:=LanesOK.of_code c
 have ll:=KL.len
 obtain ⟨may',m',e2,_,g⟩:=wGu (b:=b) (n:=n) (by omega) G.ns G.al
 have K':Desk n (wCM b) (shB b) b may':=⟨n8,G.ns,G.nd,fun i hi=>by have:=G.sh i hi;exact ⟨rfl,by unfold shB;omega⟩,fun i j hi _=>g i j hi⟩
 obtain ⟨r,e3,S⟩:=G.solve K' m'
 rw [e2,hH,e3,hH]
 by_cases c2:r.1=[]
 case neg =>
  rw [if_neg c2,if_neg fun q=>c2 (S.none_iff.2 (@of_decide_eq_true _ (ng _) q))]
 rw [if_pos c2,if_pos (@decide_eq_true _ (ng _) (S.none_iff.1 c2)),wHw G K hs hl,hH,wMf hL,hH,wRI (f:=fun x=>wBg x (l:Int)) (p:=fun a=>decide (a=(l:Int))) hL (fun a=>rfl),hH]
 have ol:(L.filter fun a=>!decide (a=(l:Int)))=wIk L l:=rfl
 have fl:=nz (fun a:Int=>!decide (a=(l:Int))) L
 rw [ol] at fl ⊢
 rw [wHU (dn:=dnB b) K (fun l hl=>⟨rfl,by have:=G.dn l hl;unfold dnB;omega⟩) (fun s hs=>(G.sh s hs).1) _ _ _ KL,hH]
 have bd:=wPp G (inL L) s
 have b1:=G.sh s hs
 unfold wDx
 by_cases c3:(wIk L l).length=L.length
 ·have i1:=wMn.1 c3
  rw [if_neg (by omega),hH]
  simp only [nD,if_false]
  rw [if_pos (by omega),wJW K _ _ _ KL hs,hH,if_neg (show ¬ (inL L l=true/\adj n (wCM b) (inL (wIk L l)) s=false) from fun q=>by rw [i1] at q;cases q.1)]
  by_cases c4:adj n (wCM b) (inL L) s=true
  ·rw [if_pos c4,if_pos ⟨i1,c4⟩,wCe (by rw [G.ns];exact hs),hH,wAX (by omega) (by omega)]
   rfl
  ·rw [if_neg c4,if_neg fun q=>c4 q.2]
 ·have i1:inL L l=true:=by
   have:¬ inL L l=false:=fun q=>c3 (wMn.2 q)
   simpa using this
  rw [if_pos (by omega),wJW K _ _ _ (show LanesOK n (wIk L l) from KL.filter _) hs]
  simp only [hH]
  by_cases c4:adj n (wCM b) (inL (wIk L l)) s=true
  ·rw [c4,if_neg (by decide),if_neg (by omega),if_neg (fun q=>by cases q.2),if_neg (fun q=>by rw [i1] at q;cases q.1)]
  ·have c6:adj n (wCM b) (inL (wIk L l)) s=false:=by simpa using c4
   rw [c6,if_pos (by decide),if_pos ⟨i1,rfl⟩]
theorem wPq (S:Nat->Bool) {s l k:Nat} (hs:s < n):shL n (wIB b s l) (shW b s k) S=wBy (fun i=>if (i:Int) ≠ (s:Int)/\adj n (wCM b) S i=true then shB b i else 0) n + if adj n (wIB b s l) S s=true then shB b s - k else 0:=by
 unfold shL
 rw [wDA (f:=fun i=>if (i:Int) ≠ (s:Int)/\adj n (wCM b) S i=true then shB b i else 0) (g:=fun i=>if adj n (wIB b s l) S i=true then shW b s k i else 0) hs fun i hi hne=>?_]
 ·rw [if_neg (show ¬ ((s:Int) ≠ (s:Int)/\adj n (wCM b) S s=true) from fun q=>q.1 rfl)]
  unfold shW
  rw [if_pos rfl]
  omega
 ·have e:adj n (wIB b s l) S i=adj n (wCM b) S i:=by
   unfold adj wIB
   congr 1
   funext j
   rw [if_neg fun q=>hne q.1]
  rw [e]
  unfold shW
  rw [if_neg hne]
  by_cases c:adj n (wCM b) S i=true
  ·rw [if_pos c,if_pos ⟨by omega,c⟩]
  ·rw [if_neg c,if_neg fun q=>c q.2]
theorem wHx {L:List Int} {s l:Nat}:adj n (wIB b s l) (inL L) s=adj n (wCM b) (inL (wIk L l)) s:=by
 unfold adj
 congr 1
 funext j
 rw [kH,nA,nA,wDW,wDW]
 unfold wIk wIB
 rw [nw]
 by_cases e:j=l
 ·rw [if_pos ⟨rfl,e⟩,e]
  simp
 ·rw [if_neg fun q=>e q.2]
  constructor
  ·rintro ⟨h1,h2⟩;exact ⟨⟨h1,by simp only [nk,decide_eq_false_iff_not];omega⟩,h2⟩
  ·rintro ⟨h1,h2⟩;exact ⟨h1.1,h2⟩
theorem wKE {L:List Int} {l:Nat} (h:inL L l=false):wIk L l=L:=by
 refine kO.2 fun a ha=>?_
 simp only [nk,decide_eq_false_iff_not]
 intro e
 rw [e] at ha
 rw [wDW.2 ha] at h
 cases h
theorem wMo {s l k:Nat} (hs:s < n) (hl:l < n) (S:Nat->Bool):dnL n (dnW b l k) S - shL n (wIB b s l) (shW b s k) S=wGv n (wCM b) (shB b) (dnB b) S s - (if S l=true then (k:Int) else 0) - if adj n (wIB b s l) S s=true then shB b s - k else 0:=by
 rw [wMl (s:=s) hl,wPq S hs]
 unfold wGv
 omega
theorem wJX {s l k:Nat} (hs:s < n) (hl:l < n) (P:PW n b s l k) (S:Nat->Bool):wGv n (wCM b) (shB b) (dnB b) S s - (if S l=true then (k:Int) else 0) - (if adj n (wIB b s l) S s=true then shB b s - k else 0) <= 0:=by
 obtain ⟨x,A⟩:=P
 have:=A.hall S
 rw [<- wMo hs hl]
 omega
theorem wIg {s l k:Nat} (hs:s < n) (hl:l < n) (P:PW n b s l k) (hk:(k:Int) <= wCH b s l) (L:List Int):(wDx n b s l L).Lo <= k/\(k:Int) <= (wDx n b s l L).Hi:=by
 have h:=wJX hs hl P (inL L)
 unfold wDx
 split
 ·rename_i c
  rw [if_pos c.1,wHx,if_neg (by rw [c.2];decide)] at h
  simp only
  omega
 ·split
  ·rename_i c
   rw [if_neg (by rw [c.1];decide),wHx,wKE c.1,if_pos c.2] at h
   simp only
   omega
  ·simp only
   omega
theorem wNy {s l a:Nat} (hs:s < n) (hl:l < n) (P:PW n b s l (a + 1)) {L:List Int} (h:shL n (wIB b s l) (shW b s a) (inL L) < dnL n (dnW b l a) (inL L)):(wDx n b s l L).Lo=((a + 1:Nat):Int):=by
 have h1:=wJX hs hl P (inL L)
 have h2:=wMo (b:=b) (k:=a) hs hl (inL L)
 rw [wHx] at h1 h2
 have key:inL L l=true/\adj n (wCM b) (inL (wIk L l)) s=false:=by
  cases c1:inL L l <;> cases c2:adj n (wCM b) (inL (wIk L l)) s <;> rw [c1,c2] at h1 h2 <;> simp only [if_true,nD,if_false] at h1 h2 <;> first | exact ⟨rfl,rfl⟩ | omega
 obtain ⟨c1,c2⟩:=key
 rw [c1,c2] at h1 h2
 simp only [if_true,nD,if_false] at h1 h2
 unfold wDx
 rw [if_pos ⟨c1,c2⟩]
 simp only
 omega
theorem wMp {s l c:Nat} (hs:s < n) (hl:l < n) (P:PW n b s l c) (hc:(c:Int) <= wCH b s l) {L:List Int} (h:shL n (wIB b s l) (shW b s (c + 1)) (inL L) < dnL n (dnW b l (c + 1)) (inL L)):(wDx n b s l L).Hi=(c:Int):=by
 have h1:=wJX hs hl P (inL L)
 have h2:=wMo (b:=b) (k:=c + 1) hs hl (inL L)
 rw [wHx] at h1 h2
 have key:inL L l=false/\adj n (wCM b) (inL (wIk L l)) s=true:=by
  cases c1:inL L l <;> cases c2:adj n (wCM b) (inL (wIk L l)) s <;> rw [c1,c2] at h1 h2 <;> simp only [if_true,nD,if_false] at h1 h2 <;> first | exact ⟨rfl,rfl⟩ | omega
 obtain ⟨c1,c2⟩:=key
 rw [c1,c2] at h1 h2
 simp only [if_true,nD,if_false] at h1 h2
 rw [wKE c1] at c2
 unfold wDx
 rw [if_neg (fun q=>by rw [c1] at q;cases q.1),if_pos ⟨c1,c2⟩]
 simp only
 omega
theorem wKF (s l:Nat):wDx n b s l []=⟨0,wCH b s l⟩:=by
 have e:adj n (wCM b) (inL []) s=false:=by
  unfold adj
  rw [List.any_eq_false]
  intro j _
  simp [inL]
 unfold wDx
 rw [if_neg (fun q=>by simp [inL] at q),if_neg (fun q=>by rw [e] at q;cases q.2)]
theorem wFS (n:Nat):LanesOK n []:=⟨fun l h=>(by cases h),kQ⟩
theorem wKi (G:GoodB n b) (C:Can n (wCM b) (shB b) (dnB b)) {s l:Nat} (hs:s < n) (hl:l < n):∃ a c:Nat,∃ low high:List Int,wBp b (s:Int) (l:Int)=some (⟨(a:Int),(c:Int)⟩,0)/\wBs b (s:Int) (l:Int)=some (low,high,0)/\LanesOK n low/\LanesOK n high/\(wDx n b s l low).Lo=a/\(wDx n b s l high).Hi=c/\(c:Int) <= wCH b s l/\a <= c/\PW n b s l a/\PW n b s l c:=by
 obtain ⟨a,c,e0,hac,hcm,hP⟩:=wPo G C hs hl
 have Pa:=(hP a (by omega)).2 ⟨nE _,hac⟩
 have Pc:=(hP c hcm).2 ⟨hac,nE _⟩
 have hn:=G.nb
 have b1:=G.sh s hs;have b2:=G.dn l hl
 have b3:shB b s <= 8:=b1.2
 have hm:wCH b s l <= shB b s/\wCH b s l <= dnB b l:=by
  unfold wCH shB dnB
  split <;> omega
 obtain ⟨may,m,e1,_,K⟩:=wER G
 obtain ⟨⟨L,h,u,m2⟩,e2,S⟩:=G.solve K m
 have cL:L=[]:=S.none_iff.2 C
 obtain ⟨lo,hi,e3,q⟩:=wMm G K hs hl h u m2
 have lohi:lo=a/\hi=c:=by
  rcases q with ⟨nP,_⟩ | ⟨a',c',rfl,rfl,g1,g2,g3⟩
  ·exact absurd Pa (nP a (by omega))
  ·have p1:=(g3 a (by omega)).1 Pa
   have p2:=(g3 c hcm).1 Pc
   have p3:=(hP a' (by omega)).1 ((g3 a' (by omega)).2 ⟨nE _,g1⟩)
   have p4:=(hP c' g2).1 ((g3 c' g2).2 ⟨g1,nE _⟩)
   omega
 obtain ⟨rfl,rfl⟩:=lohi
 have sol:∀ k:Nat,(k:Int) <= wCH b s l->¬ PW n b s l k->∃ x L r,wAL ⟨b,may,h,u,m2⟩ (s:Int) (l:Int) (k:Int)=some x/\wAI x=some (L,r)/\LanesOK n L/\shL n (wIB b s l) (shW b s k) (inL L) < dnL n (dnW b l k) (inL L):=fun k hk nP=>by
  obtain ⟨b',may',m',e4,K',d'⟩:=wFf (may:=may) G hs hl (show (k:Int) <= shB b s by omega) (show (k:Int) <= dnB b l by omega) h u m2
  obtain ⟨r,e5,S'⟩:=wGC K' d' m' (wHu K'.n8 fun i hi=>by
   have:=G.sh i hi
   unfold shW
   split
   ·omega
   ·exact this.1)
  exact ⟨_,r.1,r.2,e4,e5,(S'.lanes nP).1,(S'.lanes nP).2⟩
 refine ⟨a,c,?_⟩
 unfold wBs wBf
 rw [e1,hH]
 simp only [if_true]
 rw [G.ns,wAX (by omega) (by omega),wCx,hH,if_pos (decide_eq_true (by omega)),G.nd,wAX (by omega) (by omega),wCx,hH,if_pos (decide_eq_true (by omega)),e2,hH]
 simp only
 rw [if_pos cL,hH]
 simp only [if_true]
 rw [e3,hH]
 simp only
 have hiS:∃ high,(if (c:Int) < wCH b s l then (wAL ⟨b,may,h,u,m2⟩ (s:Int) (l:Int) (w64 ((c:Int) + 1))).bind fun x=>(wAI x).bind fun (y,_)=>some y else some [])=some high/\LanesOK n high/\(wDx n b s l high).Hi=c:=by
  by_cases cc:(c:Int) < wCH b s l
  ·rw [if_pos cc,wAX (by omega) (by omega)]
   obtain ⟨x,L2,r,e4,e5,L3,lt⟩:=sol (c + 1) (by omega) (fun q=>by have:=(hP _ (by omega)).1 q;omega)
   rw [show ((c:Int) + 1)=((c + 1:Nat):Int) by omega,e4,hH,e5]
   exact ⟨L2,rfl,L3,wMp hs hl Pc hcm lt⟩
  ·rw [if_neg cc]
   refine ⟨[],rfl,wFS n,?_⟩
   rw [wKF]
   simp only
   omega
 obtain ⟨high,eh,Hh,hh⟩:=hiS
 have fin:∀ low:List Int,(if (c:Int) < wCH b s l then (wAL ⟨b,may,h,u,m2⟩ (s:Int) (l:Int) (w64 ((c:Int) + 1))).bind fun x=>(wAI x).bind fun (y,_)=>some (low,y,(0:Int)) else some (low,[],0))=some (low,high,0):=fun low=>by
  by_cases cc:(c:Int) < wCH b s l
  ·rw [if_pos cc] at eh ⊢
   cases ew:wAL ⟨b,may,h,u,m2⟩ (s:Int) (l:Int) (w64 ((c:Int) + 1)) with
   | none=>rw [ew] at eh;cases eh
   | some x =>
    rw [ew,hH] at eh
    rw [hH]
    cases es:wAI x with
    | none=>rw [es] at eh;cases eh
    | some y =>
     rw [es,hH] at eh
     rw [hH]
     injection eh with eh
     rw [<- eh]
  ·rw [if_neg cc] at eh ⊢
   injection eh with eh
   rw [<- eh]
 by_cases ca:0 < (a:Int)
 ·rw [if_pos ca,wAX (by omega) (by omega)]
  obtain ⟨x,L2,r,e4,e5,L3,lt⟩:=sol (a - 1) (by omega) (fun q=>by have:=(hP _ (by omega)).1 q;omega)
  rw [show ((a:Int) - 1)=((a - 1:Nat):Int) by omega,e4,hH,e5,hH]
  simp only
  rw [wHw G K hs hl,hH]
  refine ⟨L2,high,e0,fin L2,L3,Hh,?_,hh,hcm,hac,Pa,Pc⟩
  have:=wNy (a:=a - 1) hs hl (by rw [show a - 1 + 1=a by omega];exact Pa) lt
  rw [this]
  omega
 ·rw [if_neg ca,wHw G K hs hl,hH]
  refine ⟨[],high,e0,fin [],wFS n,Hh,?_,hh,hcm,hac,Pa,Pc⟩
  rw [wKF]
  simp only
  omega
end
end Go.Proofs.Ytfcmijinklojbaa
namespace Go.Proofs.Ytfcmijinklojbaa
open Go.KL
theorem wMq {a b:Int} (h0:0 <= a) (hb:0 < b):∃ x,rem a b=some x/\0 <= x/\x < b:=by
 refine ⟨a.tmod b,if_neg (by omega),?_,?_⟩
 ·rw [kD h0];exact Int.emod_nonneg _ (by omega)
 ·rw [kD h0];exact kr _ hb
theorem wJY (x:Int):0 <= wDy x:=by unfold wDy;omega
theorem wPr (x:Int):wDy x < 4294967296:=by unfold wDy;omega
theorem w64u (x:Int):w64 (wDy x)=wDy x:=by
 have:=wJY x
 have:=wPr x
 exact wAX (by omega) (by omega)
theorem wNz (a:Int) {b:Int} (hb:b ≠ 0):∃ x,quo a b=some x:=⟨_,if_neg hb⟩
theorem wMr (d:wAE) (n:Int) (h0:0 <= d.next) (h1:d.next <= 1000000):∃ x d',wAQ d n=some (x,d')/\0 <= d'.next/\d'.next <= d.next + 1/\0 <= x/\(x < n \/ (n <= 1/\x=0)):=by
 unfold wAQ
 by_cases hn:n <= 1
 ·exact ⟨0,d,by rw [if_pos hn],h0,by omega,by omega,.inr ⟨hn,rfl⟩⟩
 rw [if_neg hn]
 by_cases hl:(d.bytes.length:Int)=0
 ·exact ⟨0,d,by rw [if_pos hl],h0,by omega,by omega,.inl (by omega)⟩
 rw [if_neg hl]
 obtain ⟨r,e1,r0,r1⟩:=wMq h0 (show (0:Int) < d.bytes.length by omega)
 obtain ⟨b,e2⟩:∃ b,idx d.bytes r=some b:=by
  unfold idx
  rw [if_pos r0,nq (by omega)]
  exact ⟨_,rfl⟩
 obtain ⟨q,e3⟩:=wNz d.next (b:=d.bytes.length) hl
 obtain ⟨st,e4,_,_⟩:=wMq (wJY ((wDy ((wDy ((wDy (d.state * 45)) + (wDy b))) + (wDy (77 * (wDy q))))) + 1)) (b:=65519) (by decide)
 rw [e1,hH,e2,hH,e3,hH,e4,hH,wAX (x:=d.next + 1) (by omega) (by omega)]
 have fin:∀ z:Int,∃ x d',((rem (w64 (wDy z)) n).bind fun x=>some (x,(⟨d.bytes,d.next + 1,st⟩:wAE)))=some (x,d')/\0 <= d'.next/\d'.next <= d.next + 1/\0 <= x/\(x < n \/ (n <= 1/\x=0)):=by
  intro z
  obtain ⟨x,e5,x0,x1⟩:=wMq (a:=w64 (wDy z)) (b:=n) (by rw [w64u];exact wJY z) (by omega)
  exact ⟨x,_,by rw [e5];rfl,by show 0 <= d.next + 1;omega,by show d.next + 1 <= _;omega,x0,.inl x1⟩
 by_cases c1:wDy q=0
 ·rw [if_pos c1]
  by_cases c2:n <= 256
  ·rw [if_pos c2];exact fin _
  ·rw [if_neg c2];exact fin _
 ·rw [if_neg c1];exact fin _
theorem wPs (d:wAE) (a b:Int) (h0:0 <= d.next) (h1:d.next <= 1000000) (ha:-1000000 <= a) (hab:a <= b) (hb:b <= 1000000):∃ x d',wAa d a b=some (x,d')/\0 <= d'.next/\d'.next <= d.next + 1/\a <= x/\x <= b:=by
 unfold wAa
 rw [wAX (x:=b - a) (by omega) (by omega),wAX (x:=b - a + 1) (by omega) (by omega)]
 obtain ⟨x,d',e,n0,n1,x0,x1⟩:=wMr d (b - a + 1) h0 h1
 refine ⟨a + x,d',?_,n0,n1,by omega,by omega⟩
 rw [e,hH]
 simp only
 rw [wAX (by omega) (by omega)]
end Go.Proofs.Ytfcmijinklojbaa
namespace Go.Proofs.Ytfcmijinklojbaa
open Go.KL
def wCt (d:wAE) (n:Int):Prop:=0 <= d.next/\d.next <= n
theorem wKG {d:wAE} {N:Int} (h:wCt d N) (hN:N <= 1000000) (n:Int):∃ x d',wAQ d n=some (x,d')/\wCt d' (N + 1)/\0 <= x/\(x < n \/ (n <= 1/\x=0)):=by
 obtain ⟨x,d',e,a,b,c⟩:=wMr d n h.1 (by have:=h.2;omega)
 exact ⟨x,d',e,⟨a,by have:=h.2;omega⟩,c⟩
theorem wOa {d:wAE} {N:Int} (h:wCt d N) (hN:N <= 1000000) {a b:Int} (ha:-1000000 <= a) (hab:a <= b) (hb:b <= 1000000):∃ x d',wAa d a b=some (x,d')/\wCt d' (N + 1)/\a <= x/\x <= b:=by
 obtain ⟨x,d',e,c,c2,c3⟩:=wPs d a b h.1 (by have:=h.2;omega) ha hab hb
 exact ⟨x,d',e,⟨c,by have:=h.2;omega⟩,c3⟩
theorem wFg {S:Type} {body:Nat->S->Option S} {n:Nat} {s0:S} (I:Nat->S->Prop) (hn:n <= 1000) (h0:I 0 s0) (h:∀ i s,i < n->I i s->∃ s',body i s=some s'/\I (i + 1) s'):∃ s,wCu 0 (n:Int) body s0=some s/\I n s:=by
 rw [wDb (by omega)]
 have:=wEL (body:=body) I n 0 s0 h0 fun i s _ h2 h3=>h i s (by omega) h3
 rwa [nr] at this
end Go.Proofs.Ytfcmijinklojbaa
namespace Go.Proofs.Ytfcmijinklojbaa
open Go.KL
theorem wMs {l:List wAA} (b:wAA) (hn:l.length <= 1000):wAJ l b=some (decide (b ∈ l)):=by
 have key:∀ (m k:Nat),k + m=l.length->∃ q,jn (forN (B:=Int) (fun k2 _ =>
   (idx l (↑k2:Int)).bind fun x22 =>
   if b=x22 then
    esc (some (↑k2:Int))
   else
    some (.inl ())) m k ()) (fun _=>some (-1))=some q/\(0 <= q ↔ b ∈ l.drop k):=by
  intro m
  induction m with
  | zero=>intro k hk;exact ⟨-1,rfl,by rw [ke (by omega)];simp⟩
  | succ m ih =>
   intro k hk
   have hlt:k < l.length:=by omega
   rw [forN,wPh hlt,wCe hlt,hH]
   by_cases e:b=gd l k
   ·rw [if_pos e]
    exact ⟨(k:Int),rfl,by simp [e]⟩
   ·rw [if_neg e]
    obtain ⟨q,h1,h2⟩:=ih (k + 1) (by omega)
    exact ⟨q,h1,by rw [h2];simp [e]⟩
 unfold wAJ wAd
 obtain ⟨q,h1,h2⟩:=key l.length 0 (by omega)
 rw [wGo (by omega),h1,hH]
 rw [List.drop_zero] at h2
 simp [h2]
theorem wIh {d:wAE} {N:Int} (h:wCt d N) (hN:N <= 1000000) (n:Int):∃ x d',wAW d n=some (x,d')/\wCt d' (N + 1):=by
 obtain ⟨x,d',e,g,_⟩:=wKG h hN n
 exact ⟨decide (x=0),d',by unfold wAW;rw [e];rfl,g⟩
structure AcOK (n i j:Nat) (l:List wAA):Prop where
 ok:∀ p ∈ l,wOY n p/\(p.Skier < i \/ (p.Skier=i/\p.Lane < j))
 so:l.Pairwise Lt
 len:l.length <= i * n + j
theorem AcOK.add {n i j:Nat} {l:List wAA} (h:AcOK n i j l) (hi:i < n) (hj:j < n) (hne:i ≠ j):AcOK n i (j + 1) (l ++ [⟨(i:Int),(j:Int)⟩]):=by
 refine ⟨fun p hp=>?_,?_,by rw [nh,nj];have:=h.len;omega⟩
 ·rcases nH.1 hp with hp | hp
  ·obtain ⟨a,c⟩:=h.ok p hp
   exact ⟨a,by omega⟩
  ·rw [nO.1 hp]
   exact ⟨⟨by simp only;omega,by simp only;omega,by simp only;omega⟩,.inr ⟨rfl,by simp only;omega⟩⟩
 ·rw [nf]
  refine ⟨h.so,kZ _ _,fun p hp q hq=>?_⟩
  rw [nO.1 hq]
  have:=(h.ok p hp).2
  unfold Lt
  simp only
  omega
theorem AcOK.next {n i j:Nat} {l:List wAA} (h:AcOK n i j l):AcOK n i (j + 1) l :=
 ⟨fun p hp=>⟨(h.ok p hp).1,by have:=(h.ok p hp).2;omega⟩,h.so,by have:=h.len;omega⟩
structure RowOK (n k:Nat) (ac:List wAA) (t:Int) (dn0 dn row:List Int):Prop where
 rl:row.length=n
 dl:dn.length=n
 nn:∀ l,l < n->0 <= gd row l
 ps:∀ l,l < n->0 < gd row l->k=l \/ (⟨(k:Int),(l:Int)⟩:wAA) ∈ ac
 sm:wBy (fun l=>gd row l) n <= t
 dd:∀ l,l < n->gd dn l=gd dn0 l + gd row l
 d5:∀ l,l < n->0 <= gd dn l/\gd dn l <= 5
theorem RowOK.skip {n k:Nat} {ac:List wAA} {t:Int} {dn0 dn row:List Int} (h:RowOK n k ac t dn0 dn row):RowOK n k ac (t + 1) dn0 dn row :=
 ⟨h.rl,h.dl,h.nn,h.ps,by have:=h.sm;omega,h.dd,h.d5⟩
theorem RowOK.hit {n k:Nat} {ac:List wAA} {t:Int} {dn0 dn row:List Int} (h:RowOK n k ac t dn0 dn row) {l:Nat} (hl:l < n) (hc:k=l \/ (⟨(k:Int),(l:Int)⟩:wAA) ∈ ac) (h5:gd dn l < 5) :
  RowOK n k ac (t + 1) dn0 (dn.set l (gd dn l + 1)) (row.set l (gd row l + 1)):=by
 have g1:∀ i,i < n->gd (dn.set l (gd dn l + 1)) i=if i=l then gd dn l + 1 else gd dn i:=fun i hi=>wGs (by rw [h.dl];exact hl) (by rw [h.dl];exact hi)
 have g2:∀ i,i < n->gd (row.set l (gd row l + 1)) i=if i=l then gd row l + 1 else gd row i:=fun i hi=>wGs (by rw [h.rl];exact hl) (by rw [h.rl];exact hi)
 refine ⟨by simp [h.rl],by simp [h.dl],fun i hi=>?_,fun i hi q=>?_,?_,fun i hi=>?_,fun i hi=>?_⟩
 ·rw [g2 i hi];have:=h.nn i hi;have:=h.nn l hl;split <;> omega
 ·rw [g2 i hi] at q
  by_cases e:i=l
  ·rw [e];exact hc
  ·rw [if_neg e] at q;exact h.ps i hi q
 ·rw [wDA (f:=fun i=>gd row i) hl fun i hi hne=>by rw [g2 i hi,if_neg hne],g2 l hl,if_pos rfl]
  have:=h.sm
  omega
 ·rw [g1 i hi,g2 i hi]
  by_cases e:i=l
  ·subst e;rw [if_pos rfl,if_pos rfl];have:=h.dd i hi;omega
  ·rw [if_neg e,if_neg e];exact h.dd i hi
 ·rw [g1 i hi]
  have:=h.d5 i hi;have:=h.d5 l hl
  split <;> omega
theorem RowOK.bd {n k:Nat} {ac:List wAA} {t:Int} {dn0 dn row:List Int} (h:RowOK n k ac t dn0 dn row) (ht:t <= 100) {l:Nat} (hl:l < n):0 <= gd row l/\gd row l <= 100:=by
 have a:=wFe (f:=fun l=>gd row l) (fun i hi=>h.nn i hi) hl
 have:=h.sm
 have:=h.nn l hl
 omega
theorem wGD {S T:Type} {body:Nat->S->Option S} {n:Nat} {s0:S} {k:S->Option T} {R:T->Prop} (I:Nat->S->Prop) (hn:n <= 1000) (h0:I 0 s0) (step:∀ i s,i < n->I i s->∃ s',body i s=some s'/\I (i + 1) s') (cont:∀ s,I n s->∃ r,k s=some r/\R r):∃ r,(wCu 0 (n:Int) body s0).bind k=some r/\R r:=by
 obtain ⟨s,e,h⟩:=wFg I hn h0 step
 rw [e,hH]
 exact cont s h
theorem wRJ {n:Nat} (h:n <= 1000):mkz 8 (n:Int) (0:Int)=some (kf n 0):=by
 unfold mkz
 rw [if_pos ⟨by omega,by omega,by omega⟩]
 simp
theorem wHV {n i:Nat} (h:i < n):gd (kf n (0:Int)) i=0:=by
 unfold gd
 simp [nL,kX,h]
structure Mdd (n:Nat) (b:wAC) (t:List (List Int)):Prop where
 good:GoodB n b
 al:b.Across.length <= 64
 tl:t.length=n
 rl:∀ s,s < n->(gd t s).length=n
 s6:∀ s,s < n->gd b.Shots s <= 6
 asg:Asg n (wCM b) (shB b) (dnB b) (fun s l=>gd (gd t s) l)
structure MadeI (n k:Nat) (ac:List wAA) (sh dn:List Int) (t:List (List Int)):Prop where
 sl:sh.length=k
 dl:dn.length=n
 tl:t.length=k
 s6:∀ s,s < k->3 <= gd sh s/\gd sh s <= 6
 d5:∀ l,l < n->0 <= gd dn l/\gd dn l <= 5
 rl:∀ s,s < k->(gd t s).length=n
 nn:∀ s l,s < k->l < n->0 <= gd (gd t s) l
 ps:∀ s l,s < k->l < n->0 < gd (gd t s) l->s=l \/ (⟨(s:Int),(l:Int)⟩:wAA) ∈ ac
 sm:∀ s,s < k->wBy (fun l=>gd (gd t s) l) n <= gd sh s
 cm:∀ l,l < n->gd dn l=wBy (fun s=>gd (gd t s) l) k
theorem wPt (p0:List Int) {N:Nat} (hN:1 <= N/\N <= 8):∃ r,wBZ ⟨p0,0,17⟩ (N:Int)=some r/\(∃ n,n <= N/\Mdd n r.1 r.2.1)/\wCt r.2.2 100000:=by
 unfold wBZ
 obtain ⟨a,d1,e1,g1,a1,a2⟩:=wOa (d:=⟨p0,0,17⟩) (N:=0) ⟨by simp,by simp⟩ (by omega) (a:=1) (b:=(N:Int)) (by omega) (by omega) (by omega)
 rw [e1,hH]
 simp only
 obtain ⟨n,rfl⟩:∃ n:Nat,a=n:=⟨a.toNat,by omega⟩
 have nN:n <= N:=by omega
 refine wGD (fun i st=>wCt ⟨st.1,st.2.1,st.2.2.1⟩ (10 + 100 * (i:Int))/\AcOK n i 0 st.2.2.2) (by omega) ⟨⟨g1.1,by have:=g1.2;simp only at this ⊢;omega⟩,fun p hp=>by simp at hp,kQ,by simp⟩ ?_ ?_
 ·rintro i ⟨B,x,y,l⟩ hi ⟨G,H⟩
  simp only at G H ⊢
  refine wGD (fun j st=>wCt ⟨st.1,st.2.1,st.2.2.1⟩ (10 + 100 * (i:Int) + 2 * (j:Int))/\AcOK n i j st.2.2.2) (by omega) ⟨⟨G.1,by have:=G.2;simp only at this ⊢;omega⟩,H⟩ ?_ ?_
  ·rintro j ⟨B2,x2,y2,l2⟩ hj ⟨G2,H2⟩
   simp only at G2 H2 ⊢
   by_cases c:(i:Int)=(j:Int)
   ·rw [if_pos c]
    exact ⟨_,rfl,⟨G2.1,by have:=G2.2;simp only at this ⊢;omega⟩,H2.next⟩
   ·rw [if_neg c]
    obtain ⟨q,d2,e2,g2⟩:=wIh G2 (by omega) 4
    rw [e2,hH]
    simp only
    have hl:=H2.len
    have:i * n <= 64:=kJ (Nat.mul_le_mul (show i <= 8 by omega) (show n <= 8 by omega)) (by omega)
    by_cases c2:q=true
    ·rw [if_pos c2,wEc (by simp only [nt,nX];omega),hH]
     exact ⟨_,rfl,⟨g2.1,by have:=g2.2;simp only at this ⊢;omega⟩,H2.add hi hj (by omega)⟩
    ·rw [if_neg c2]
     exact ⟨_,rfl,⟨g2.1,by have:=g2.2;simp only at this ⊢;omega⟩,H2.next⟩
  ·rintro ⟨B2,x2,y2,l2⟩ ⟨G2,H2⟩
   refine ⟨_,rfl,⟨G2.1,by have:=G2.2;simp only at this ⊢;omega⟩,fun p hp=>?_,H2.so,by have:=H2.len;simp only at this ⊢;rw [Nat.add_mul,Nat.one_mul];omega⟩
   obtain ⟨u,v⟩:=H2.ok p hp
   exact ⟨u,.inl (by have:=u.s;omega)⟩
 rintro ⟨B,x,y,ac⟩ ⟨G,H⟩
 simp only at G H ⊢
 have acl:ac.length <= 64:=by
  have:=H.len
  have:n * n <= 8 * 8:=Nat.mul_le_mul (by omega) (by omega)
  omega
 rw [wRJ (by omega),hH]
 refine wGD (fun k st=>wCt ⟨st.1,st.2.1,st.2.2.1⟩ (1000 + 100 * (k:Int))/\MadeI n k ac st.2.2.2.1 st.2.2.2.2.1 st.2.2.2.2.2) (by omega) ⟨⟨G.1,by have:=G.2;simp only at this ⊢;omega⟩,rfl,by simp,rfl,fun s hs=>by omega,fun l hl=>by simp only;rw [wHV hl];omega,fun s hs=>by omega,fun s l hs=>by omega,fun s l hs=>by omega,fun s hs=>by omega,fun l hl=>wHV hl⟩ ?_ ?_
 ·rintro k ⟨B2,x2,y2,sh,dn,t⟩ hk ⟨G2,M⟩
  simp only at G2 M ⊢
  obtain ⟨q,d2,e2,g2,q1,q2⟩:=wOa G2 (by omega) (a:=3) (b:=6) (by omega) (by omega) (by omega)
  have sl:=M.sl;have tl:=M.tl
  rw [e2,hH]
  simp only
  rw [wEc (by simp only [nt,nX];omega),hH,hH,wDC (by omega) (by rw [nh,nj];omega),hH]
  have gq:gd (sh ++ [q]) k=q:=by rw [<- sl];exact wKB _ _ _
  rw [gq]
  obtain ⟨Q,rfl⟩:∃ Q:Nat,q=Q:=⟨q.toNat,by omega⟩
  refine wGD (fun r st=>wCt ⟨st.1,st.2.1,st.2.2.1⟩ (1001 + 100 * (k:Int) + 4 * (r:Int))/\RowOK n k ac r dn st.2.2.2.1 st.2.2.2.2) (by omega) ⟨⟨g2.1,by have:=g2.2;simp only at this ⊢;omega⟩,by simp,M.dl,fun l hl=>by rw [wHV hl];omega,fun l hl p=>by rw [wHV hl] at p;omega,by rw [wCR n fun l hl=>wHV hl];omega,fun l hl=>by show gd dn l=gd dn l + gd (kf n (0:Int)) l;rw [wHV hl];omega,M.d5⟩ ?_ ?_
  ·rintro r ⟨B3,x3,y3,dn3,row⟩ hr ⟨G3,W⟩
   simp only at G3 W ⊢
   have dl3:=W.dl;have rl3:=W.rl
   obtain ⟨c1,d4,e4,g4⟩:=wIh G3 (by omega) 4
   rw [e4,hH]
   simp only
   by_cases h1:c1=true
   ·rw [if_pos h1]
    obtain ⟨z,d5,e5,g5,z0,z1⟩:=wKG g4 (by omega) (n:Int)
    rw [e5,hH]
    simp only
    obtain ⟨l,rfl⟩:∃ l:Nat,z=l:=⟨z.toNat,by omega⟩
    have hl:l < n:=by omega
    have bd:=W.bd (by omega) hl
    rw [wDC (by omega) (by omega),hH,nW]
    by_cases h2:gd dn3 l < 5
    case neg =>
     rw [if_neg h2]
     exact ⟨_,rfl,⟨g5.1,by have:=g5.2;simp only at this ⊢;omega⟩,W.skip⟩
    rw [if_pos h2]
    obtain ⟨c2,d6,e6,g6⟩:=wIh g5 (by omega) 4
    rw [e6,hH]
    simp only
    by_cases h3:c2=true
    ·rw [if_pos h3]
     exact ⟨_,rfl,⟨g6.1,by have:=g6.2;simp only at this ⊢;omega⟩,W.skip⟩
    rw [if_neg h3]
    have d0:=W.d5 l hl
    have hit:∀ hc:k=l \/ (⟨(k:Int),(l:Int)⟩:wAA) ∈ ac,∃ s',(((chk (l:Int) row.length).bind fun _=>some (d6.bytes,d6.next,d6.state,dn3.set l (w64 (gd dn3 l + 1)),row.set l (w64 (gd row l + 1)))).bind fun x:List Int × Int × Int × List Int × List Int=>some (x.1,x.2.1,x.2.2.1,x.2.2.2.1,x.2.2.2.2))=some s'/\wCt ⟨s'.1,s'.2.1,s'.2.2.1⟩ (1001 + 100 * (k:Int) + 4 * ((r + 1:Nat):Int))/\RowOK n k ac ((r + 1:Nat):Int) dn s'.2.2.2.1 s'.2.2.2.2:=fun hc=>by
     rw [wDC (by omega) (by omega),hH,wAX (by omega) (by omega),wAX (by omega) (by omega)]
     exact ⟨_,rfl,⟨g6.1,by have:=g6.2;simp only at this ⊢;omega⟩,W.hit hl hc h2⟩
    by_cases h4:(l:Int)=(k:Int)
    ·rw [if_pos h4]
     exact hit (.inl (by omega))
    ·rw [if_neg h4,wMs _ (by omega),hH]
     by_cases h5:(⟨(k:Int),(l:Int)⟩:wAA) ∈ ac
     ·rw [if_pos (decide_eq_true h5)]
      exact hit (.inr h5)
     ·rw [if_neg (by simpa using h5)]
      exact ⟨_,rfl,⟨g6.1,by have:=g6.2;simp only at this ⊢;omega⟩,W.skip⟩
   ·rw [if_neg h1]
    have hl:k < n:=hk
    have bd:=W.bd (by omega) hl
    have d0:=W.d5 k hl
    rw [wDC (by omega) (by omega),hH]
    by_cases h2:gd dn3 k < 5
    case neg =>
     rw [if_neg h2]
     exact ⟨_,rfl,⟨g4.1,by have:=g4.2;simp only at this ⊢;omega⟩,W.skip⟩
    rw [if_pos h2]
    obtain ⟨c2,d6,e6,g6⟩:=wIh g4 (by omega) 4
    rw [e6,hH]
    simp only
    by_cases h3:c2=true
    ·rw [if_pos h3]
     exact ⟨_,rfl,⟨g6.1,by have:=g6.2;simp only at this ⊢;omega⟩,W.skip⟩
    rw [if_neg h3]
    simp only [if_true]
    rw [wDC (by omega) (by omega),hH,wAX (by omega) (by omega),wAX (by omega) (by omega)]
    exact ⟨_,rfl,⟨g6.1,by have:=g6.2;simp only at this ⊢;omega⟩,W.hit hl (.inl rfl) h2⟩
  ·rintro ⟨B3,x3,y3,dn3,row⟩ ⟨G3,W⟩
   simp only at G3 W ⊢
   rw [wEc (by simp only [nt,nX];omega),hH]
   have gt:∀ s,s < k->gd (t ++ [row]) s=gd t s:=fun s hs=>wKA (by omega)
   have gk:gd (t ++ [row]) k=row:=by rw [<- tl];exact wKB _ _ _
   have gs:∀ s,s < k->gd (sh ++ [(Q:Int)]) s=gd sh s:=fun s hs=>wKA (by omega)
   refine ⟨_,rfl,⟨G3.1,by have:=G3.2;simp only at this ⊢;omega⟩,by simp [sl],W.dl,by simp [tl],fun s hs=>?_,W.d5,fun s hs=>?_,fun s l hs hl=>?_,fun s l hs hl=>?_,fun s hs=>?_,fun l hl=>?_⟩
   ·by_cases e:s=k
    ·subst e;simp only;rw [gq];omega
    ·simp only;rw [gs s (by omega)];exact M.s6 s (by omega)
   ·by_cases e:s=k
    ·subst e;simp only;rw [gk];exact W.rl
    ·simp only;rw [gt s (by omega)];exact M.rl s (by omega)
   ·by_cases e:s=k
    ·subst e;simp only;rw [gk];exact W.nn l hl
    ·simp only;rw [gt s (by omega)];exact M.nn s l (by omega) hl
   ·by_cases e:s=k
    ·subst e;simp only;rw [gk];exact W.ps l hl
    ·simp only;rw [gt s (by omega)];exact M.ps s l (by omega) hl
   ·by_cases e:s=k
    ·subst e;simp only;rw [gk,gq];exact W.sm
    ·simp only;rw [gt s (by omega),gs s (by omega)];exact M.sm s (by omega)
   ·simp only
    rw [wBy,gk,wBD k fun s hs=>by rw [gt s hs],<- M.cm l hl]
    exact W.dd l hl
 ·rintro ⟨B2,x2,y2,sh,dn,t⟩ ⟨G2,M⟩
  simp only at G2 M ⊢
  refine ⟨_,rfl,⟨n,nN,⟨⟨by omega,M.sl,M.dl,fun s hs=>by have:=M.s6 s hs;simp only;omega,M.d5,fun p hp=>(H.ok p hp).1,H.so,by simp only;omega⟩,acl,M.tl,M.rl,fun s hs=>(M.s6 s hs).2,M.nn,fun s l hs hl q=>wNs.2 (M.ps s l hs hl q),M.sm,fun l hl=>(M.cm l hl).symm⟩⟩,⟨G2.1,by have:=G2.2;simp only at this ⊢;omega⟩⟩
end Go.Proofs.Ytfcmijinklojbaa
namespace Go.Proofs.Ytfcmijinklojbaa
open Go.KL
theorem wMt {x:List Int} (hx:x.length <= 1000):wAu x=some x:=by
 unfold wAu
 rw [wEc (by simp only [nX];omega)]
 rfl
theorem wPu {x:List wAA} (hx:x.length <= 1000):wAe x=some x:=by
 unfold wAe
 rw [wEc (by simp only [nX];omega)]
 rfl
theorem wPv {n:Nat} {b:wAC} (G:GoodB n b):wBT b=some b:=by
 have:=G.nb;have:=G.al
 unfold wBT
 rw [wMt (by rw [G.ns];omega),hH,wMt (by rw [G.nd];omega),hH,wPu G.al,hH]
end Go.Proofs.Ytfcmijinklojbaa
namespace Go.Proofs.Ytfcmijinklojbaa
open Go.KL
section
variable {n:Nat} {b:wAC}
def tabN (h:Arr Int 64) (n k:Nat):List (List Int):=(kA k).map fun s=>((h.l.drop (s * 8)).take 8).take n
def tab (h:Arr Int 64) (n:Nat):List (List Int):=tabN h n n
theorem wMu (G:GoodB n b):∃ t c,wCF b=some (t,c)/\((Can n (wCM b) (shB b) (dnB b)/\c=0/\∃ h u,Fl n (wCM b) (shB b) (dnB b) h u/\t=tab h n) \/ (¬ Can n (wCM b) (shB b) (dnB b)/\t=[]/\c=7)):=by
 have hn:=G.nb
 obtain ⟨may,m,e1,_,K⟩:=wER G
 obtain ⟨⟨L,h,u,m2⟩,e2,S⟩:=G.solve K m
 unfold wCF wCc
 rw [e1,hH]
 simp only [if_true]
 rw [e2,hH]
 simp only
 by_cases c:L=[]
 ·have C:Can n (wCM b) (shB b) (dnB b):=S.none_iff.1 c
  rw [if_pos c,hH]
  simp only [if_true]
  rw [G.ns,G.nd]
  rw [wFO (S:=List (List Int)) (n:=n) (fun k=>tabN h n k) (s0:=[]) rfl (by omega) fun k hk=>?_]
  ·have F:Fl n (wCM b) (shB b) (dnB b) h u:=by
    rcases S with ⟨_,F⟩ | ⟨q,_⟩
    ·exact F
    ·exact absurd c q
   exact ⟨_,_,rfl,.inl ⟨C,rfl,h,u,F,rfl⟩⟩
  ·have hh:=h.h
   have hlen:((h.l.drop (k * 8)).take 8).length=8:=by rw [nu,List.length_drop];omega
   rw [wDC (by omega) (by omega),hH,cut_B (by rw [hlen];omega),hH,wMf (by rw [nu];omega),hH,wEc (by unfold tabN;simp only [List.length_map,List.length_range,nt,nX];omega),hH]
   unfold tabN
   rw [List.range_succ,List.map_append]
   rfl
 ·have nC:¬ Can n (wCM b) (shB b) (dnB b):=fun q=>c (S.none_iff.2 q)
  rw [if_neg c,hH]
  simp only
  rw [if_neg (by decide)]
  exact ⟨_,_,rfl,.inr ⟨nC,rfl,rfl⟩⟩
end
end Go.Proofs.Ytfcmijinklojbaa
namespace Go.Proofs.Ytfcmijinklojbaa
open Go.KL
theorem wOb {a:Int} {n:Nat} (ha:0 <= a) (hn:1 <= n):∃ x:Nat,rem a (n:Int)=some (x:Int)/\x < n:=by
 unfold rem
 rw [if_neg (by omega),kD ha]
 have h0:=Int.emod_nonneg a (show (n:Int) ≠ 0 by omega)
 have h1:=kr a (show (0:Int) < n by omega)
 exact ⟨(a % (n:Int)).toNat,by rw [kM h0],by omega⟩
theorem wRK {S B:Type} {body:Nat->S->Option (S ⊕ B)} {n:Nat} {s0:S} {k:S->Option B} {r:B} (I:Nat->S->Prop) (hn:n <= 1000) (h0:I 0 s0) (step:∀ i s,i < n->I i s->∃ s',body i s=some (.inl s')/\I (i + 1) s') (cont:∀ s,I n s->k s=some r):jn (wHa 0 (n:Int) body s0) k=some r:=by
 rcases wFQ I (fun _=>False) hn h0 (fun i s hi h=>.inl (step i s hi h)) with ⟨s,e,h⟩ | ⟨_,_,h⟩
 ·rw [e];exact cont s h
 ·exact h.elim
theorem wPw {S T:Type} {body:Nat->S->Option S} {n:Nat} {s0:S} {k:S->Option T} {r:T} (I:Nat->S->Prop) (hn:n <= 1000) (h0:I 0 s0) (step:∀ i s,i < n->I i s->∃ s',body i s=some s'/\I (i + 1) s') (cont:∀ s,I n s->k s=some r):(wCu 0 (n:Int) body s0).bind k=some r:=by
 obtain ⟨s,e,h⟩:=wFg I hn h0 step
 rw [e,hH]
 exact cont s h
theorem wOA {S S2 B:Type} {body:Nat->S->Option S} {n:Nat} {s0:S} {k:S->Option (S2 ⊕ B)} {J:S2->Prop} (I:Nat->S->Prop) (hn:n <= 1000) (h0:I 0 s0) (step:∀ i s,i < n->I i s->∃ s',body i s=some s'/\I (i + 1) s') (cont:∀ s,I n s->∃ s',k s=some (.inl s')/\J s'):∃ s',(wCu 0 (n:Int) body s0).bind k=some (.inl s')/\J s':=by
 obtain ⟨s,e,h⟩:=wFg I hn h0 step
 rw [e,hH]
 exact cont s h
theorem wPx {lo hi a c:Int} (h1:lo <= a) (h2:c <= hi):wBc ⟨lo,hi⟩ ⟨a,c⟩=some true:=by
 unfold wBc
 simp only
 rw [if_pos h1,decide_eq_true h2]
theorem wPy {P:Prop} {α:Type} (h:P) (x y:α):(if @decide P (ng _)=true then x else y)=x:=if_pos (@decide_eq_true _ (ng _) h)
theorem wMv (p0 p1:List Int) (p2 p3:Int) (h20:0 <= p2) (h21:p2 <= 255) (h30:0 <= p3) (h31:p3 <= 255):wBE p0 p1 p2 p3=some true:=by
  have aw:wCL=some true:=rfl
  unfold wBE wCE
  rw [hH]
  obtain ⟨⟨b,t,d⟩,e1,⟨n,n6,M⟩,_⟩:=wPt p0 (N:=6) (by omega)
  simp only at n6 M
  have G:=M.good
  have hn:=G.nb
  erw [e1]
  rw [hH]
  simp only
  rw [hH,G.ns,wAX (by omega) (by omega),wAX (by omega) (by omega)]
  obtain ⟨s,e2,hs⟩:=wOb h20 hn.1
  obtain ⟨l,e3,hl⟩:=wOb h30 hn.1
  rw [e2,hH,e3,hH]
  have C:Can n (wCM b) (shB b) (dnB b):=⟨_,M.asg⟩
  obtain ⟨a,c,low,high,e4,e5,L1,L2,v1,v2,hcm,hac,Pa,Pc⟩:=wKi G C hs hl
  have sh:∀ L,LanesOK n L->wBW b (s:Int) (l:Int) L=some (wDx n b s l L,0):=fun L K=>by
    have:=K.len
    rw [wNx G hs hl (by omega),if_pos K.code,wPy C]
  rw [e4,hH,e5,hH,sh low L1,hH,sh high L2,hH]
  simp only [if_true]
  rw [if_pos v1,if_pos v2,wPv G,hH]
  obtain ⟨x,d1,e6,g1,x0,x1⟩:=wKG (d:=⟨p1,0,17⟩) (N:=0) ⟨by simp,by simp⟩ (by omega) 6
  rw [e6,hH]
  obtain ⟨q,rfl⟩:∃ q:Nat,x=q:=⟨x.toNat,by omega⟩
  refine wPw (fun i st=>wCt ⟨st.1,st.2.1,st.2.2.1⟩ (10 + (i:Int))/\st.2.2.2.length=n/\∀ l,l < n->0 <= gd st.2.2.2 l/\gd st.2.2.2 l <= 5) (by omega) ⟨⟨g1.1,by have:=g1.2;simp only;omega⟩,G.nd,G.dn⟩ ?_ ?_
  · rintro i ⟨y1,y2,y3,D⟩ hi ⟨g,dl,d5⟩
    simp only at g dl d5 ⊢
    obtain ⟨z,d2,e7,g2,z0,z1⟩:=wKG g (by omega) (n:Int)
    have zn:z < n:=by omega
    rw [e7,hH]
    simp only
    rw [wDC z0 (by omega),hH]
    have dz:=d5 z.toNat (by omega)
    refine ⟨_,rfl,⟨g2.1,by have:=g2.2;simp only at this ⊢;omega⟩,by simp [dl],fun j hj=>?_⟩
    simp only
    rw [wGs (by omega) (by omega),wAX (by omega) (by omega)]
    have:=d5 j hj
    split <;> omega
  rintro ⟨y1,y2,y3,D⟩ ⟨g,dl,d5⟩
  simp only at g dl d5 ⊢
  have G2:GoodB n ⟨b.Shots,D,b.Across⟩:=⟨hn,G.ns,dl,G.sh,d5,G.ac,G.so,G.al⟩
  generalize hB:(⟨b.Shots,D,b.Across⟩:wAC)=B at G2 ⊢
  obtain ⟨tt,cc,e8,o8⟩:=wMu G2
  have pr:∀ L,LanesOK n L->wBJ B L=some (if dnL n (dnB B) (inL L) - shL n (wCM B) (shB B) (inL L) <= 0 then (0,8) else (dnL n (dnB B) (inL L) - shL n (wCM B) (shB B) (inL L),0)):=fun L K=>by
    have:=K.len
    rw [wMk G2 (by omega),if_pos K.code]
  rw [e8,hH]
  simp only
  obtain ⟨S,f,e9,v,w,e10,hb⟩:∃ S f,wBj B=some (S,f)/\∃ v w,wBJ B S=some (v,w)/\(if cc=0 then
                if ((decide (cc=0)) == (decide (f=6)))=true then
                  some false
                else
                  some true
              else
                if cc=7 then
                  if ((decide (cc=0)) == (decide (f=6)))=true then
                    if f=0 then
                      if w=0 then
                        some (decide (v < 1))
                      else
                        some true
                    else
                      some true
                  else
                    some true
                else
                  some true)=some false:=by
    rcases wNv G2 with ⟨C2,e9⟩ | ⟨nC,S,e9,LS,lt⟩
    · rcases o8 with ⟨_,rfl,_⟩ | ⟨nC,_⟩
      · exact ⟨_,_,e9,_,_,pr [] (wFS n),rfl⟩
      · exact absurd C2 nC
    · rcases o8 with ⟨C2,_⟩ | ⟨_,_,rfl⟩
      · exact absurd C2 nC
      · have e10:=pr S LS
        rw [if_neg (by omega)] at e10
        refine ⟨_,_,e9,_,_,e10,?_⟩
        rw [if_neg (by decide),if_pos rfl,if_pos (by decide),if_pos rfl,if_pos rfl,decide_eq_false (by omega)]
  rw [e9,hH]
  simp only
  rw [e10,hH]
  simp only
  rw [hb,hH,if_neg (by decide)]
  refine wRK (n:=6) (fun i st=>wCt ⟨st.1,st.2.1,st.2.2⟩ (100 + 20 * (i:Int))) (by omega) ⟨g.1,by have:=g.2;simp only at this ⊢;omega⟩ ?_ (fun _ _=>by rw [aw];rfl)
  rintro i ⟨z1,z2,z3⟩ hi g
  simp only at g ⊢
  refine wOA (fun j st=>wCt ⟨st.1,st.2.1,st.2.2.1⟩ (100 + 20 * (i:Int) + (j:Int))/\LanesOK j st.2.2.2) (by omega) ⟨⟨g.1,by have:=g.2;simp only at this ⊢;omega⟩,wFS 0⟩ ?_ ?_
  · rintro j ⟨w1,w2,w3,L⟩ hj ⟨g,K⟩
    simp only at g K ⊢
    obtain ⟨co,d3,e11,g3⟩:=wIh g (by omega) 2
    rw [e11,hH]
    simp only
    have up:wCt ⟨d3.bytes,d3.next,d3.state⟩ (100 + 20 * (i:Int) + ((j + 1:Nat):Int)):=⟨g3.1,by have:=g3.2;simp only at this ⊢;omega⟩
    have kl:=K.len
    by_cases cd:co=true
    · rw [if_pos cd,wEc (by rw [nj];omega),hH]
      refine ⟨_,rfl,up,fun x hx=>?_,?_⟩
      · simp only at hx
        rcases nH.1 hx with q | q
        · have:=K.rg x q;omega
        · rw [nO.1 q];omega
      · simp only
        rw [nf]
        refine ⟨K.so,kZ _ _,fun x hx y hy=>?_⟩
        rw [nO.1 hy]
        exact (K.rg x hx).2
    · rw [if_neg cd]
      exact ⟨_,rfl,up,fun x hx=>by have:=K.rg x hx;omega,K.so⟩
  · rintro ⟨w1,w2,w3,L⟩ ⟨g,K⟩
    simp only at g K ⊢
    have up:wCt ⟨w1,w2,w3⟩ (100 + 20 * ((i + 1:Nat):Int)):=⟨g.1,by have:=g.2;simp only at this ⊢;omega⟩
    have s1:=wIg hs hl Pa (by omega) L
    have s2:=wIg hs hl Pc hcm L
    have sw:wDx n b s l L=⟨(wDx n b s l L).Lo,(wDx n b s l L).Hi⟩:=rfl
    rw [sh L K,hH,pr L K,hH]
    simp only [if_true]
    rw [sw,wPx s1.1 s2.2,hH,if_pos rfl]
    by_cases c3:dnL n (dnB B) (inL L) - shL n (wCM B) (shB B) (inL L) <= 0
    · rw [if_pos c3,if_neg (by decide),if_pos rfl]
      exact ⟨_,rfl,up⟩
    · rw [if_neg c3,if_pos rfl,if_neg (by simp only;omega)]
      rcases o8 with ⟨⟨y,A⟩,_⟩ | ⟨_,_,rfl⟩
      · have:=A.hall (inL L)
        omega
      · rw [if_neg (by decide)]
        exact ⟨_,rfl,up⟩
end Go.Proofs.Ytfcmijinklojbaa
