import Derived.Test.YtkedcbligiebkaaGreatY1
import Derived.Test.YtkedcbligiebkaaGreatY0
set_option linter.all false
open Option renaming bind_some->hH
open Bool renaming and_eq_true->nA,false_eq_true->nE,or_eq_true->nf,not_eq_true'->kM,true_and->kW
open Nat renaming eq_of_beq_eq_true->nB,le_refl->nO,beq->nP,zero_add->nt,blt_eq->ny,blt->kE,sub_self->kG,le_trans->kH,lt_of_lt_of_le->kK,lt_irrefl->kY,lt_or_ge->ke,zero_le->kj,ble_eq->kl
open List renaming length_append->nD,append_assoc->nG,cons_append->nH,mem_append->nI,mem_cons->nJ,getD_eq_getElem?_getD->nK,length_take->nM,range->nN,mem_singleton->nQ,all_eq_true->nR,length_cons->nS,length_singleton->nU,nil_append->nV,pairwise_cons->nW,append_of_mem->nX,set->nY,getElem?_append_right->nZ,pairwise_append->nb,replicate->nc,mem_append_right->ng,getElem?_append_left->nh,getElem?_eq_some_iff->ni,append_nil->nj,getElem?_eq_getElem->nk,length_drop->no,take_append_drop->np,mem_append_left->nq,drop_eq_getElem_cons->nr,mem_map->nv,set_append_right->nw,length_nil->nz,length_set->kA,drop_eq_nil_of_le->kB,countP_cons->kC,getElem?_eq_none->kD,mem_range->kJ,getElem?_take->kL,getElem_mem->kO,take_length->kP,sum_replicate_nat->kR,mem_of_mem_take->kS,range_eq_range'->kU,mem_cons_of_mem->kV,map_cons->kX,length_flatMap->kZ,mem_filterMap->kc,flatMap_cons->ki
open Option.some renaming inj->nL,injEq->kh
open Int renaming toNat_of_nonneg->nT,toNat_natCast->nl,sub_add_cancel->nu,add_comm->kQ,lt_or_le->kf
open List.cons renaming injEq->na
open List.Pairwise renaming nil->kg
open Classical renaming em->km
namespace Go.KX
noncomputable section
open Go.RowKit Go.KL
def wCs:List AOd->List Pos
 | []=>[]
 | .t p :: l=>p :: wCs l
 | .c _ :: l=>wCs l
def wMx:AOp->Bool
 | .new _ _ | .box _ _ | .mkm | .mks _ _ _ _ _ _ | .blds _ _ _ _=>true
 | _=>false
def wCN (a:AO):List Pos:=wCs (wBb a.op) ++ (match a.grd with | some (p,_)=>[p] | none=>[])
def Sub (a:AOp) (o:Oper):Prop:=∀ t,Operand.tmp t ∈ o.op.operands->∃ p ∈ wCs (wBb a),p.nat - 1=t
def wLY (l:List Oper) (x i:Nat):Prop:=∀ S:Nat->Bool,(∀ k,k < l.length->S k=true->∀ j ∈ prI l k,S j=true)->(∀ j ∈ prI l i,S j=true)->S x=true
def wHS (acc:List Nat):List Nat->Nat
 | []=>0
 | p :: ps=>wHS acc ps ||| (2 ^ p ||| acc.getD p 0)
def wQa (acc:List Nat):List Oper->List Nat
 | []=>acc
 | o :: r=>wQa (acc ++ [wHS acc (wMD o)]) r
theorem wIT {acc:List Nat} {x:Nat}:∀ {ps:List Nat},(wHS acc ps).testBit x=true->∃ p ∈ ps,x=p \/ (acc.getD p 0).testBit x=true
 | [],h=>by simp [wHS] at h
 | p :: ps,h=>by
  simp only [wHS,Nat.testBit_or,nf,Nat.testBit_two_pow,decide_eq_true_eq] at h
  rcases h with h | h | h
  ·obtain ⟨q,h1,h2⟩:=wIT h
   exact ⟨q,by simp [h1],h2⟩
  ·exact ⟨p,by simp,.inl h.symm⟩
  ·exact ⟨p,by simp,.inr h⟩
theorem wKl {l:List Oper} (hpr:∀ i,i < l.length->∀ j ∈ prI l i,j < i):∀ (rest done:List Oper) (acc:List Nat),l=done ++ rest->acc.length=done.length->(∀ i x,(acc.getD i 0).testBit x=true->wLY l x i) ->
  ∀ i x,((wQa acc rest).getD i 0).testBit x=true->wLY l x i
 | [],done,acc,_,_,h,i,x,hx=>h i x hx
 | o :: r,done,acc,hl,hlen,h,i,x,hx=>by
  refine wKl hpr r (done ++ [o]) (acc ++ [wHS acc (wMD o)]) (by rw [hl];simp) (by simp [hlen]) ?_ i x hx
  intro i x hx
  rcases Nat.lt_trichotomy i acc.length with hi | hi | hi
  ·rw [nK,nh hi,<- nK] at hx
   exact h i x hx
  ·rw [nK,hi,nZ (nO _),kG] at hx
   have hx:(wHS acc (wMD o)).testBit x=true:=hx
   have hlt:done.length < l.length:=by rw [hl];simp
   have hp:prI l done.length=wMD o:=by
    unfold prI
    rw [hl,nZ (nO _),kG]
    rfl
   obtain ⟨p,h1,h2⟩:=wIT hx
   intro S hdc hS
   rw [hi,hlen] at hS
   have hSp:S p=true:=hS p (by rw [hp];exact h1)
   rcases h2 with rfl | h2
   ·exact hSp
   ·have:=hpr _ hlt p (by rw [hp];exact h1)
    exact h p x h2 S hdc (hdc p (by omega) hSp)
  ·rw [nK,kD (by simp;omega)] at hx
   simp at hx
def dne (b:AO) (p:Pos):Bool:=match b.dst with
 | none=>true
 | some q=>!Pos.beq q p
def subB (a:AOp) (o:Oper):Bool:=o.op.operands.toList.all fun
 | .tmp t=>(wCs (wBb a)).any fun p=>nP p.nat (t + 1)
 | _=>true
def kdOK (a:AO):Bool:=wCC a.kd || (a.dst.isSome && (nP a.kd 1 || (nP a.kd 3 || ((nP a.kd 6 && nP (kdA a.op) 3) || ((nP a.kd 4 && wMx a.op) || (Nat.ble 8 a.kd && nP (kdA a.op) 1))))))
def zld (m kd:Nat):Nat->List AO->Bool
 | _,[]=>true
 | n,b :: d=>(!Nat.beq b.kd 0 || (m.testBit b.ix || kE (n + 8) kd)) && zld m kd (match wCC b.kd with | true=>n + 1 | false=>n) d
def zop (m:Nat) (l:List Oper) (d:List AO) (a:AO) (t:List AO):Bool :=
 (!wCC a.kd || d.all fun b=>m.testBit b.ix) &&
 ((match a.dst with | none=>true | some p=>d.all (fun b=>dne b p) && t.all (fun b=>dne b p)) &&
 ((wCN a).all (fun p=>dne a p && (t.all (fun b=>dne b p) && d.all (fun b=>dne b p || (m.testBit b.ix && (!(nP a.kd 1 || (nP a.kd 3 || Nat.ble 8 a.kd)) || !(nP b.kd 4 || nP b.kd 6)))))) &&
 ((!Nat.beq a.kd 1 || d.all fun b=>!Nat.beq b.kd 0 || m.testBit b.ix) && (!Nat.ble 8 a.kd || zld m a.kd 0 d) &&
 (t.all (fun b=>!Nat.beq b.ix a.ix) &&
 (kdOK a && (match l[a.ix]? with | none=>false | some o=>!wBj o && subB a.op o))))))
def zgo (an:List Nat) (l:List Oper) (d:List AO):List AO->Bool
 | []=>true
 | a :: t=>zop (an.getD a.ix 0) l d a t && zgo an l (a :: d) t
def wRi (a:AO):Bool:=nP a.kd 0 && (match a.op with | .mv _=>true | _=>false)
def wRj:List AO->List AO
 | []=>[]
 | a :: t=>match wRi a with
  | true=>[]
  | false=>a :: wRj t
def wPb:List AO->List AO
 | []=>[]
 | a :: t=>match wRi a with
  | true=>a :: t
  | false=>wPb t
theorem wQb:∀ os:List AO,os=wRj os ++ wPb os
 | []=>rfl
 | a :: t=>by
  unfold wRj wPb
  cases wRi a with
  | true=>rfl
  | false=>exact congrArg (a :: ·) (wQb t)
def ztl (an:List Nat) (l:List Oper) (os:List AO):Bool :=
 ((wPb os).all (fun a=>kE a.kd 8) && (wRj os).all fun a=>kE a.kd 8 || ((wCN a).all (fun p=>(wPb os).all fun b=>dne b p) && (match a.dst with | some p=>(wPb os).all fun b=>dne b p | none=>true))) && (zgo an l [] (wRj os) && (zgo an l [] (wPb os) && (wPb os).all fun b=>(wRj os).all fun a=>!Nat.beq a.ix b.ix && (an.getD b.ix 0).testBit a.ix))
def chkZ (l:List Oper) (os:List AO):Bool :=
 (nN l.length).all (fun i=>(prI l i).all (kE · i)) && ((nN l.length).all (fun i=>os.any fun a=>nP a.ix i) && (zgo (wQa [] l) l [] os || ztl (wQa [] l) l os))
def wPL (l:List AO):Nat:=l.countP fun b=>wCC b.kd
structure ZOK (P:Program) (N:Nat) (l:List Oper) (os:List AO):Prop where
 ao:∀ a ∈ os,wHR P N l a=true
 one:os.Pairwise fun a b=>a.ix ≠ b.ix
 pr:∀ i,i < l.length->∀ j ∈ prI l i,j < i
 anc:∀ s a t,os=s ++ a :: t->wCC a.kd=true->∀ b ∈ s,wLY l b.ix a.ix
 wr:∀ s a t,os=s ++ a :: t->∀ p,a.dst=some p->∀ b ∈ s ++ t,b.dst ≠ some p
 rd:∀ s a t,os=s ++ a :: t->∀ p ∈ wCN a,∀ b ∈ a :: t,b.dst ≠ some p
 rdS:∀ a ∈ os,∀ p ∈ wCN a,∀ b ∈ os,b.dst=some p->wLY l b.ix a.ix
 kd:∀ a ∈ os,wCC a.kd=true \/ (a.dst ≠ none/\(a.kd=1 \/ a.kd=3 \/ (a.kd=6/\kdA a.op=3) \/ (a.kd=4/\wMx a.op=true) \/ (8 <= a.kd/\kdA a.op=1)))
 cl:∀ a ∈ os,a.kd=1 \/ a.kd=3 \/ 8 <= a.kd->∀ p ∈ wCN a,∀ b ∈ os,b.dst=some p->b.kd ≠ 4/\b.kd ≠ 6
 sel:∀ a ∈ os,∀ o,l[a.ix]?=some o->wBj o=false
 sub:∀ a ∈ os,∀ o,l[a.ix]?=some o->Sub a.op o
 ld:∀ s a t,os=s ++ a :: t->a.kd=1->∀ b ∈ s,b.kd=0->wLY l b.ix a.ix
 ld8:∀ s a t,os=s ++ a :: t->8 <= a.kd->∀ s1 b s2,s=s1 ++ b :: s2->b.kd=0->wLY l b.ix a.ix \/ wPL s2 + 8 < a.kd
theorem wQc {m kd:Nat}:∀ (x:List AO) (b:AO) (y:List AO) (n:Nat),zld m kd n (x ++ b :: y)=true->b.kd=0->m.testBit b.ix=true \/ n + wPL x + 8 < kd
 | [],b,y,n,h,h0=>by
  rw [nV,zld,h0] at h
  simp only [nA,nf,ny] at h
  rcases h.1 with g | g | g
  ·exact absurd g (by decide)
  ·exact .inl g
  ·exact .inr g
 | c :: x,b,y,n,h,h0=>by
  rw [nH,zld] at h
  simp only [nA] at h
  have:=wQc x b y _ h.2 h0
  refine this.imp id fun h=>?_
  unfold wPL at h ⊢
  rw [kC]
  cases hf:wCC c.kd <;> rw [hf] at h <;> simp only [if_true,if_false,nE] at h ⊢ <;> omega
theorem Pos.beq_self:∀ p:Pos,p.beq p=true
 | .H=>rfl
 | .O p=>Pos.beq_self p
 | .I p=>Pos.beq_self p
theorem wHT {b:AO} {p:Pos} (h:dne b p=true):b.dst ≠ some p:=by
 intro e
 unfold dne at h
 rw [e] at h
 simp [Pos.beq_self] at h
theorem wQd {an:List Nat} {l:List Oper}:∀ (os d:List AO),zgo an l d os=true->∀ s a t,os=s ++ a :: t->zop (an.getD a.ix 0) l (s.reverse ++ d) a t=true
 | [],d,_,s,a,t,e=>by simp at e
 | b :: os,d,h,[],a,t,e=>by
  simp only [nV,na] at e
  obtain ⟨rfl,rfl⟩:=e
  simp only [zgo,nA] at h
  exact h.1
 | b :: os,d,h,c :: s,a,t,e=>by
  simp only [nH,na] at e
  obtain ⟨rfl,rfl⟩:=e
  simp only [zgo,nA] at h
  have:=wQd (s ++ a :: t) (b :: d) h.2 s a t rfl
  simpa using this
theorem wTU {α:Type} {R:α->α->Prop}:∀ (l:List α),(∀ s a t,l=s ++ a :: t->∀ b ∈ t,R a b)->l.Pairwise R
 | [],_=>kg
 | a :: l,h=>nW.2 ⟨fun b hb=>h [] a l rfl b hb,wTU l fun s b t e=>h (a :: s) b t (by rw [e];rfl)⟩
theorem wLZ {P:Program} {N:Nat} {l:List Oper} {os:List AO} (hao:∀ a ∈ os,wHR P N l a=true) (hpr:∀ i,i < l.length->∀ j ∈ prI l i,j < i) (hz:zgo (wQa [] l) l [] os=true):ZOK P N l os:=by
 have han:∀ i x,((wQa [] l).getD i 0).testBit x=true->wLY l x i:=wKl hpr l [] [] rfl rfl fun i x h=>by simp at h
 have key:∀ s a t,os=s ++ a :: t->zop ((wQa [] l).getD a.ix 0) l s.reverse a t=true:=fun s a t e=>by
  have:=wQd os [] hz s a t e
  rwa [nj] at this
 have wMR:∀ s a t,os=s ++ a :: t ->
   (wCC a.kd=true->∀ b ∈ s,wLY l b.ix a.ix)/\(∀ p,a.dst=some p->∀ b ∈ s ++ t,b.dst ≠ some p) /\
   (∀ p ∈ wCN a,(∀ b ∈ a :: t,b.dst ≠ some p)/\∀ b ∈ s,b.dst=some p->wLY l b.ix a.ix/\(a.kd=1 \/ a.kd=3 \/ 8 <= a.kd->b.kd ≠ 4/\b.kd ≠ 6)) /\
   ((a.kd=1->∀ b ∈ s,b.kd=0->wLY l b.ix a.ix)/\(8 <= a.kd->∀ s1 b s2,s=s1 ++ b :: s2->b.kd=0->wLY l b.ix a.ix \/ wPL s2 + 8 < a.kd))/\(∀ b ∈ t,a.ix ≠ b.ix)/\kdOK a=true/\(∀ o,l[a.ix]?=some o->wBj o=false/\subB a.op o=true):=by
  intro s a t e
  have hk:=key s a t e
  unfold zop at hk
  simp only [nA,nR,List.mem_reverse,nf,kM] at hk
  obtain ⟨k1,k2,k3,⟨k4,k8⟩,k5,k6,k7⟩:=hk
  refine ⟨fun hf b hb=>?_,fun p hp b hb=>?_,fun p hp=>⟨fun b hb=>?_,fun b hb hd=>?_⟩,⟨fun h1 b hb h0=>?_,fun h8 s1 b s2 es h0=>?_⟩,fun b hb he=>?_,k6,fun o ho=>?_⟩
  ·rcases k1 with k1 | k1
   ·rw [hf] at k1;cases k1
   ·exact han _ _ (k1 b hb)
  ·rw [hp] at k2
   simp only [nA,nR,List.mem_reverse] at k2
   rcases nI.1 hb with hb | hb
   ·exact wHT (k2.1 b hb)
   ·exact wHT (k2.2 b hb)
  ·obtain ⟨g1,g2,g3⟩:=k3 p hp
   rcases nJ.1 hb with rfl | hb
   ·exact wHT g1
   ·exact wHT (g2 b hb)
  ·obtain ⟨g1,g2,g3⟩:=k3 p hp
   rcases g3 b hb with g | ⟨g,g'⟩
   ·exact absurd hd (wHT g)
   ·refine ⟨han _ _ g,fun hk=>?_⟩
    rcases g' with g' | g'
    ·rcases hk with hk | hk | hk
     ·rw [hk] at g';exact absurd g' (by decide)
     ·rw [hk] at g';exact absurd g' (by decide)
     ·simp only [Bool.or_eq_false_iff] at g'
      have h8:Nat.ble 8 a.kd=true:=by rw [kl];exact hk
      rw [g'.2.2] at h8
      cases h8
    ·constructor <;> intro h4 <;> rw [h4] at g' <;> exact absurd g' (by decide)
  ·rcases k4 with k4 | k4
   ·rw [h1] at k4;exact absurd k4 (by decide)
   ·rcases k4 b hb with g | g
    ·rw [h0] at g;exact absurd g (by decide)
    ·exact han _ _ g
  ·rcases k8 with k8 | k8
   ·rw [<- Bool.not_eq_true,kl] at k8
    exact absurd h8 k8
   ·rw [es,List.reverse_append,List.reverse_cons,nG] at k8
    rcases wQc s2.reverse b (s1.reverse) 0 (by simpa using k8) h0 with g | g
    ·exact .inl (han _ _ g)
    ·refine .inr ?_
     unfold wPL at g ⊢
     rw [List.countP_reverse] at g
     omega
  ·have:=k5 b hb
   rw [he] at this
   simp at this
  ·rw [ho] at k7
   simpa using k7
 have mem:∀ a ∈ os,∃ s t,os=s ++ a :: t:=fun a ha=>nX ha
 refine ⟨hao,wTU os fun s a t e=>(wMR s a t e).2.2.2.2.1,hpr,fun s a t e=>(wMR s a t e).1,fun s a t e=>(wMR s a t e).2.1,fun s a t e p hp=>((wMR s a t e).2.2.1 p hp).1,fun a ha p hp b hb hd=>?_,fun a ha=>?_,fun a ha hk p hp b hb hd=>?_,fun a ha o ho=>?_,fun a ha o ho=>?_,fun s a t e=>(wMR s a t e).2.2.2.1.1,fun s a t e=>(wMR s a t e).2.2.2.1.2⟩
 ·obtain ⟨s,t,e⟩:=mem a ha
  obtain ⟨g1,g2⟩:=(wMR s a t e).2.2.1 p hp
  rw [e] at hb
  rcases nI.1 hb with hb | hb
  ·exact (g2 b hb hd).1
  ·exact absurd hd (g1 b hb)
 ·obtain ⟨s,t,e⟩:=mem a ha
  have hk:=(wMR s a t e).2.2.2.2.2.1
  unfold kdOK at hk
  simp only [nf,nA] at hk
  rcases hk with hk | ⟨h1,hk⟩
  ·exact .inl hk
  ·refine .inr ⟨fun e=>(by rw [e] at h1;cases h1),?_⟩
   rcases hk with hk | hk | ⟨hk,h2⟩ | ⟨hk,h2⟩ | ⟨hk,h2⟩
   ·exact .inl (nB hk)
   ·exact .inr (.inl (nB hk))
   ·exact .inr (.inr (.inl ⟨nB hk,nB h2⟩))
   ·exact .inr (.inr (.inr (.inl ⟨nB hk,h2⟩)))
   ·exact .inr (.inr (.inr (.inr ⟨by rwa [kl] at hk,nB h2⟩)))
 ·obtain ⟨s,t,e⟩:=mem a ha
  obtain ⟨g1,g2⟩:=(wMR s a t e).2.2.1 p hp
  rw [e] at hb
  rcases nI.1 hb with hb | hb
  ·exact (g2 b hb hd).2 hk
  ·exact absurd hd (g1 b hb)
 ·obtain ⟨s,t,e⟩:=mem a ha
  exact ((wMR s a t e).2.2.2.2.2.2 o ho).1
 ·obtain ⟨s,t,e⟩:=mem a ha
  have h1:=((wMR s a t e).2.2.2.2.2.2 o ho).2
  unfold subB at h1
  rw [nR] at h1
  intro x hx
  have:=h1 (.tmp x) (by simpa using hx)
  simp only [List.any_eq_true] at this
  obtain ⟨p,g1,g2⟩:=this
  exact ⟨p,g1,by rw [nB g2];rfl⟩
structure ZAll (P:Program) (N:Nat) (l:List Oper) (os A B:List AO):Prop where
 eq:os=A ++ B
 za:ZOK P N l A
 zb:ZOK P N l B
 cross:∀ b ∈ B,∀ a ∈ A,a.ix ≠ b.ix/\wLY l a.ix b.ix
 low:∀ b ∈ B,b.kd < 8
 far:∀ a ∈ A,8 <= a.kd->∀ p,p ∈ wCN a \/ a.dst=some p->∀ b ∈ B,b.dst ≠ some p
 all:∀ i,i < l.length->∃ a ∈ os,a.ix=i
theorem wOQ {P:Program} {N:Nat} {l:List Oper} {os:List AO} (hao:∀ a ∈ os,wHR P N l a=true) (h:chkZ l os=true):∃ A B,ZAll P N l os A B:=by
 unfold chkZ at h
 rw [nA,nA,nf] at h
 obtain ⟨hpr0,hall0,hz⟩:=h
 simp only [nR,kJ,ny,List.any_eq_true] at hpr0 hall0
 have hpr:∀ i,i < l.length->∀ j ∈ prI l i,j < i:=hpr0
 have hall:∀ i,i < l.length->∃ a ∈ os,a.ix=i:=fun i hi=>by
  obtain ⟨a,h1,h2⟩:=hall0 i hi
  exact ⟨a,h1,nB h2⟩
 have han:∀ i x,((wQa [] l).getD i 0).testBit x=true->wLY l x i:=wKl hpr l [] [] rfl rfl fun i x h=>by simp at h
 rcases hz with hz | hz
 ·exact ⟨os,[],by simp,wLZ hao hpr hz,wLZ (fun a ha=>by simp at ha) hpr rfl,fun b hb=>by simp at hb,fun b hb=>by simp at hb,fun a _ _ p _ b hb=>by simp at hb,hall⟩
 ·unfold ztl at hz
  simp only [nA,nR,ny,kM] at hz
  obtain ⟨⟨h1,h5⟩,h2,h3,h4⟩:=hz
  have e:=wQb os
  refine ⟨wRj os,wPb os,e,wLZ (fun a ha=>hao a (by rw [e];simp [ha])) hpr h2,wLZ (fun a ha=>hao a (by rw [e];simp [ha])) hpr h3,fun b hb a ha=>⟨fun e=>?_,han _ _ (h4 b hb a ha).2⟩,h1,fun a ha h8 p hp b hb=>?_,hall⟩
  ·have:=(h4 b hb a ha).1
   rw [e] at this
   simp at this
  ·have h6:=h5 a ha
   simp only [nf,nA,nR,ny] at h6
   rcases h6 with h6 | ⟨h6,h7⟩
   ·omega
   ·rcases hp with hp | hp
    ·exact wHT (h6 p hp b hb)
    ·rw [hp] at h7
     simp only [nR] at h7
     exact wHT (h7 b hb)
theorem wIu {tb:Tr AF} {ex exY:Run} {σf:Tr AV} {h:AH}:∀ (x y:List AO) (n:Nat),wKG tb ex exY σf h n (x ++ y)=true->wKG tb ex exY σf h n x=true
 | [],_,_,_=>rfl
 | a :: x,y,n,hl=>by
  rw [nH,wEp] at hl
  rw [wEp]
  cases hf:wCC a.kd with
  | true =>
   rw [hf] at hl
   exact wIu x y _ hl
  | false =>
   rw [hf] at hl
   simp only [nA] at hl ⊢
   exact ⟨hl.1,wIu x y _ hl.2⟩
theorem wKm {tb:Tr AF} {ex exY:Run} {σf:Tr AV} {h:AH}:∀ (x:List AO) (a:AO) (y:List AO) (n:Nat),wKG tb ex exY σf h n (x ++ a :: y)=true->wCC a.kd=false->n + wPL x + 8 < a.kd->wIN tb ex exY σf h a=true
 | [],a,y,n,hl,hf,hn=>by
  rw [nV,wEp,hf] at hl
  simp only [nA] at hl
  have hb:kE (n + 8) a.kd=true:=by rw [ny];exact hn
  rw [hb] at hl
  exact hl.1
 | c :: x,a,y,n,hl,hf,hn=>by
  rw [nH,wEp] at hl
  unfold wPL at hn
  rw [kC] at hn
  cases hc:wCC c.kd with
  | true =>
   rw [hc] at hl hn
   exact wKm x a y _ hl hf (by unfold wPL;simp only [if_true] at hn;omega)
  | false =>
   rw [hc] at hl hn
   simp only [nA] at hl
   exact wKm x a y _ hl.2 hf (by unfold wPL;simp only [if_false,nE] at hn;omega)
def LCK (tb:Tr AF) (ex exY:Run) (os:List AO) (σ0:Tr AV) (h0:AH) (σf:Tr AV):Prop :=
 ∀ s b t,os=s ++ b :: t->b.kd=0->∀ σ1 h1,wAr tb ex exY s σ0 h0=some (σ1,h1)->wKG tb ex exY σf h1 0 t=true
theorem wKn {tb:Tr AF} {ex exY:Run}:∀ (os:List AO) (σ:Tr AV) (h:AH) (r:Tr AV × AH),wNj tb ex exY os σ h=some r->wAr tb ex exY os σ h=some r/\LCK tb ex exY os σ h r.1
 | [],σ,h,r,hr=>by
  rw [wPU] at hr
  exact ⟨by rw [wBD];exact hr,fun s b t e=>by simp at e⟩
 | o :: os,σ,h,r,hr=>by
  rw [wNk] at hr
  split at hr
  ·cases hr
  ·rename_i q hq
   split at hr
   ·cases hr
   ·rename_i r' hr'
    have e:r'=r:=by
     split at hr
     ·split at hr
      ·cases hr;rfl
      ·cases hr
     ·cases hr;rfl
    subst e
    obtain ⟨g1,g2⟩:=wKn os _ _ _ hr'
    have g0:∀ s,wAr tb ex exY (o :: s) σ h=wAr tb ex exY s q.1 q.2:=by
     intro s
     rw [wBG]
     unfold wRD at hq
     cases hw:wCz σ o.grd with
     | true =>
      rw [hw] at hq
      simp only at hq ⊢
      split at hq
      ·rename_i y hy
       cases hq
       rfl
      ·cases hq
     | false =>
      rw [hw] at hq
      cases hq
      rfl
    refine ⟨by rw [g0];exact g1,fun s b t e h0 σ1 h1 hs=>?_⟩
    cases s with
    | nil =>
     simp only [nV,na] at e
     obtain ⟨rfl,rfl⟩:=e
     rw [wBD] at hs
     cases hs
     have hb:nP o.kd 0=true:=by rw [h0];rfl
     rw [hb] at hr
     simp only at hr
     split at hr
     ·assumption
     ·cases hr
    | cons c s =>
     simp only [nH,na] at e
     obtain ⟨rfl,rfl⟩:=e
     rw [g0] at hs
     exact g2 s b t rfl h0 σ1 h1 hs
theorem wLa {tb:Tr AF} {ex exY:Run} {os:List AO} {σ:Tr AV} {h:AH} {σf:Tr AV} (hk:∀ a ∈ os,a.kd < 8):LCK tb ex exY os σ h σf:=by
 intro s b t e _ σ1 h1 _
 have:∀ (l:List AO) (n:Nat),(∀ a ∈ l,a.kd < 8)->wKG tb ex exY σf h1 n l=true:=by
  intro l
  induction l with
  | nil=>intro n _;rfl
  | cons a l ih =>
   intro n hl
   rw [wEp]
   have ha:=hl a (by simp)
   have hb:kE (n + 8) a.kd=false:=by rw [<- Bool.not_eq_true,ny];omega
   cases wCC a.kd with
   | true=>exact ih _ fun b hb=>hl b (by simp [hb])
   | false =>
    simp only [hb,kW]
    exact ih _ fun b hb=>hl b (by simp [hb])
 exact this t 0 fun a ha=>hk a (by rw [e];simp [ha])
end
end Go.KX
namespace Go.KX
noncomputable section
open Go.RowKit Go.KL
def kdAt (i:Nat):List AO->Nat
 | []=>0
 | a :: os=>match nP a.ix i with
  | true=>a.kd
  | false=>kdAt i os
def lazyA (os:List AO):Bool:=os.any fun a=>kE 3 a.kd
def chkR (P:Program) (N:Nat) (os:List AO) (l:List Oper) (draw:Bool):Bool :=
 let ks:=(nN l.length).map fun i=>kdAt i os
 os.all (fun a=>wHR P N l a && nP (kOf ks a.ix) a.kd) && (match draw with
  | true=>(match lazyA os with
   | true=>os.all (fun a=>kE a.kd 8) && chkZ l os
   | false=>wNC l ks (wJg os))
  | false=>inOrder 0 (wJg os) l.length)
def wMT (N:Nat):List Pos->List Nat->Bool
 | [],[]=>true
 | t :: ts,p :: ps=>(nP t.nat (p + 1) && kE p N) && wMT N ts ps
 | _,_=>false
theorem wLb {N:Nat}:∀ {ts:List Pos} {ps:List Nat},wMT N ts ps=true->ts.map Pos.nat=ps.map (· + 1)/\∀ x ∈ ps,x < N
 | [],[],_=>by simp
 | t :: ts,p :: ps,h=>by
  simp only [wMT,nA,ny] at h
  obtain ⟨⟨h1,h2⟩,h3⟩:=h
  obtain ⟨h4,h5⟩:=wLb h3
  refine ⟨by simp [h4,nB h1],?_⟩
  intro x hx
  rcases nJ.1 hx with rfl | hx
  ·exact h2
  ·exact h5 x hx
 | [],_ :: _,h=>by simp [wMT] at h
 | _ :: _,[],h=>by simp [wMT] at h
theorem wLc {μ:Mu}:∀ {ts:List Pos} {ns:List Nat} {σA σB:Tr AV} {σ:Env} {as:List AV} {vs:List Value},wRC σA ts as=some σB->ts.map Pos.nat=ns.map (· + 1)->RvL μ as vs->EnvR μ σA σ->EnvR μ σB (wPJ σ ns vs)/\ns.length=vs.length
 | [],ns,σA,σB,σ,as,vs,hs,hn,hv,hE=>by
  cases ns with
  | cons _ _=>simp at hn
  | nil =>
   cases as with
   | cons _ _=>simp [wRC] at hs
   | nil=>cases hv;simp only [wRC,kh] at hs;subst hs;exact ⟨hE,rfl⟩
 | t :: ts,ns,σA,σB,σ,as,vs,hs,hn,hv,hE=>by
  cases ns with
  | nil=>simp at hn
  | cons n ns =>
   cases as with
   | nil=>simp [wRC] at hs
   | cons a as =>
    obtain ⟨v,ws,h1,h2,rfl⟩:=hv
    simp only [kX,na] at hn
    have hp:=hE.put (p:=t) h1
    have e:t.nat - 1=n:=by omega
    rw [e] at hp
    obtain ⟨g1,g2⟩:=wLc (ts:=ts) (ns:=ns) (σA:=σA.set t a) (σ:=upd σ n v) (by simpa [wRC] using hs) hn.2 h2 hp
    exact ⟨g1,by simp [g2]⟩
def wFt (P:Program) (N:Nat):AC->Code->Bool
 | .skip,.skip=>true
 | .skip,.label _=>true
 | .rg os,.region _ ops draw=>chkR P N os ops.toList draw
 | .rl os,.region _ ops draw=>draw && (os.all (fun a=>wHR P N ops.toList a) && chkZ ops.toList os)
 | .seq a b,.seq c d=>wFt P N a c && wFt P N b d
 | .cond x a b,.cond y c d=>wCA x y && (wFt P N a c && wFt P N b d)
 | .block i a,.block j c=>nP i j && wFt P N a c
 | .loop a,.loop c=>wFt P N a c
 | .scope a,.scope c=>wFt P N a c
 | .rf g t asg body,.rangeFunc g' ps asg' body'=>wCA g g' && (wMT N t ps.toList && (wFt P N asg asg' && wFt P N body body'))
 | .exit i,.exit j=>nP i j
 | .ret,.ret=>true
 | _,_=>false
def CC (P:Program):Chk:=fun a c N=>wFt P N a c=true
section
variable {P:Program} {tb:Tr AF} {μ μ' μ'':Mu} {w w' w'':World} {h h' h'':AH} {σ:Env} {σA:Tr AV}
def Mk (μ:Mu) (w:World) (n0:Nat) (D:List Deferred):Prop:=∃ rbs:List Nat,D=rbs.map mark/\rbs.Nodup/\∀ rb ∈ rbs,Dfr w rb/\n0 <= rb/\∀ p c,μ p=some c->c.1 ≠ rb
theorem Mk.nil (μ:Mu) (w:World) (n0:Nat):Mk μ w n0 []:=⟨[],rfl,by simp,by simp⟩
theorem Mk.ext {n0 fl:Nat} {D:List Deferred} (M:Mk μ w n0 D) (E:Ext μ fl w μ' w'):Mk μ' w' n0 D:=by
 obtain ⟨rbs,h1,h2,h3⟩:=M
 refine ⟨rbs,h1,h2,fun rb hrb=>?_⟩
 obtain ⟨g1,g2,g3⟩:=h3 rb hrb
 refine ⟨g1.keep E.keep fun ⟨p,d,q1,q2,_⟩=>g3 p d q1 q2,g2,fun p c hp=>?_⟩
 rcases E.new p c hp with q | ⟨p',d,q1,q2,_⟩ | q
 ·exact g3 p c q
 ·rw [<- q2];exact g3 p' d q1
 ·have:=g1.lt;omega
def PostX (P:Program) (μ:Mu) (fl:Pos) (w:World) (n0:Nat) (rr:Option Nat) (D:List Deferred) (e:Ex) (σA':Tr AV) (h':AH):wDi:=fun D' e' σ' w' =>
 e'=exC e/\∃ μ',Ext μ fl.nat w μ' w'/\Sim (CC P) P μ' h' w'/\EnvR μ' σA' σ'/\Mk μ' w' n0 D'/\h'.fl=fl/\(rr.isSome=true->D'=D)
def wJi (P:Program) (ex:Run) (r:Bool):Prop:=∀ c σA h e σA' h',ex c σA h=some (e,σA',h')->∀ code N,wFt P N c code=true->∀ (rr:Option Nat) (μ:Mu) (σ:Env) (w:World) (D:List Deferred) (n0:Nat),
 rr.isSome=r->Sim (CC P) P μ h w->EnvR μ σA σ->Mk μ w n0 D->n0 <= w.heap.size->CK rr N P code (PostX P μ h.fl w n0 rr D e σA' h') D σ w
def wOR (P:Program) (ex:Run) (r:Bool) (m:Nat):Prop:=∀ c σA h e σA' h',ex (.loop c) σA h=some (e,σA',h')->∀ code N,wFt P N c code=true->∀ (rr:Option Nat) (μ:Mu) (σ:Env) (w:World) (D:List Deferred) (n0:Nat),
 rr.isSome=r->Sim (CC P) P μ h w->EnvR μ σA σ->Mk μ w n0 D->n0 <= w.heap.size->∀ a,Rep N D a σ->Code.roundsIn (WF rr) 0 P code (wIb N (PostX P μ h.fl w n0 rr D e σA' h')) m a w
theorem PostX.trans {fl:Pos} {n0:Nat} {rr:Option Nat} {D D1 D':List Deferred} {e:Ex} {e':Exit} {σA':Tr AV} {σ':Env} (E:Ext μ fl.nat w μ' w') (hD:rr.isSome=true->D1=D) (hP:PostX P μ' fl w' n0 rr D1 e σA' h' D' e' σ' w''):PostX P μ fl w n0 rr D e σA' h' D' e' σ' w'':=by
 obtain ⟨h1,μ2,h2,h3,h4,h5,h6,h7⟩:=hP
 exact ⟨h1,μ2,E.trans h2,h3,h4,h5,h6,fun hr=>(h7 hr).trans (hD hr)⟩
theorem wHU {F:Fence} {n:Nat} {c:Code} {Q Q':Exit->Act->World->Prop} (hQ:∀ e a w,Q e a w->Q' e a w):∀ (m:Nat) (a:Act) (w:World),Code.roundsIn F n P c Q m a w->Code.roundsIn F n P c Q' m a w
 | 0,_,_,h=>h.elim
 | m + 1,a,w,h=>by
  rw [roundsIn_succ] at h ⊢
  refine wpIn_mono h fun e a w q=>?_
  cases e with
  | normal=>exact wHU hQ m a w q
  | _=>exact hQ _ _ _ q
theorem Ext.drew (μ:Mu) (fl:Nat) (w:World):Ext μ fl w μ { w with drawn:=w.drawn + 1 }:=⟨Mu.Le.refl μ,fun _ _ h=>.inl h,(Keep.drew w).weak fun _ _ h=>h.elim⟩
theorem Sim.keepX {C:Chk} {X:Nat->Prop} (S:Sim C P μ h w) (K:Keep w w' X) (hX:∀ p c,μ p=some c->¬ X c.1):Sim C P μ h w' :=
 ⟨S.nx,fun p c hp=>kK (S.lt p c hp) K.size,S.inj,fun p b hb=>let ⟨c,h1,h2⟩:=S.at_ p b hb;⟨c,h1,h2.keep K (hX p c h1)⟩⟩
def wEe (P:Program):List AR->List ResultVar->Bool
 | [],[]=>true
 | .t p :: l,.tmp t :: k=>nP p.nat (t + 1) && wEe P l k
 | .c p n :: l,.cell a t :: k=>nP p.nat (a + 1) && ((match n with | none=>wPW P t false | some n=>wPW P t true && szT P t n) && wEe P l k)
 | _,_=>false
def chkF (P:Program) (k:Nat) (af:AF):Bool:=match P.funcs[k]? with
 | none=>false
 | some fn=>match fn.body with
  | none=>false
  | some c => nP fn.ntmps af.n && (wEe P af.res fn.results.toList && (!(fn.name == "runtime.NumGoroutine") && wFt P fn.ntmps af.body c))
theorem wKo {C:Chk} (hE:EnvR μ σA σ) (S:Sim C P μ h w):∀ {l:List AR} {k:List ResultVar} {vs:List AV},wEe P l k=true->wSf σA h l=some vs->∃ VS,RvL μ vs VS/\wSd P w σ k VS
 | [],[],vs,_,hr=>by simp only [wSf] at hr;cases hr;exact ⟨[],rfl,trivial⟩
 | .t p :: l,.tmp t :: k,vs,hc,hr=>by
  simp only [wEe,nA] at hc
  simp only [wSf,res1] at hr
  split at hr
  ·rename_i vs' hvs
   cases hr
   obtain ⟨VS,g1,g2⟩:=wKo hE S hc.2 hvs
   have e:=nB hc.1
   have g:=hE p
   rw [e] at g
   exact ⟨_,wBY g g1,rfl,g2⟩
  ·cases hr
 | .c p n :: l,.cell a t :: k,vs,hc,hr=>by
  simp only [wEe,nA] at hc
  obtain ⟨c1,c2,c3⟩:=hc
  have e:=nB c1
  have g:=hE p
  rw [e] at g
  rw [wSf] at hr
  split at hr
  ·rename_i v hv
   split at hr
   ·rename_i vs' hvs
    cases hr
    obtain ⟨VS,g1,g2⟩:=wKo hE S c3 hvs
    simp only [res1] at hv
    split at hv
    ·rename_i b off hb
     split at hv
     ·rename_i cl hcl
      obtain ⟨c,ws,q1,q2,q3⟩:=wEx hcl S
      rw [hb] at g
      obtain ⟨c',k1,k2⟩:=g
      rw [q1] at k1;cases k1
      have k2:σ a=.pointer (some ⟨c.1,off,none⟩):=k2
      split at hv
      ·rw [wGa] at hv
       obtain ⟨cv,r1,r2⟩:=wFQ q2 hv
       refine ⟨_,wBY r2 g1,⟨_,k2,?_⟩,g2⟩
       simp [loadVar,wEr c2,load,Sem.run,q3 w (Keep.refl w _) _ _ r1]
      ·rename_i n
       simp only [nA] at c2
       obtain ⟨r,hr3,rfl⟩:=wDu hv
       obtain ⟨r1,r2⟩:=wFR hr3 q2
       refine ⟨_,wBY ⟨_,r1,rfl⟩ g1,⟨_,k2,?_⟩,g2⟩
       have:=KL.run_loadCells (P:=P) (w:=w) (b:=c.1) (off:=off) (n:=n) ((ws.drop off).take n) (by simp;omega) fun j u hu=>q3 w (Keep.refl w _) _ _ (wEm rfl j u hu)
       simp [loadVar,wEr c2.1,wEE c2.2,this]
     ·cases hv
    ·cases hv
   ·cases hr
  ·cases hr
 | [],_ :: _,_,hc,_=>by simp [wEe] at hc
 | .t _ :: _,[],_,hc,_=>by simp [wEe] at hc
 | .c _ _ :: _,[],_,hc,_=>by simp [wEe] at hc
 | .t _ :: _,.cell _ _ :: _,_,hc,_=>by simp [wEe] at hc
 | .c _ _ :: _,.tmp _ :: _,_,hc,_=>by simp [wEe] at hc
theorem wRk {C:Chk} {l:List AR} {rs:Array ResultVar} {v:AV} (hE:EnvR μ σA σ) (S:Sim C P μ h w) (hc:wEe P l rs.toList=true) (hr:wRB σA h l=some (v,h')):h'=h/\∃ cv,Rv μ v cv/\(wCm rs σ).run P w=.ok cv w:=by
 unfold wRB at hr
 split at hr
 ·rename_i vs hvs
  cases hr
  refine ⟨rfl,?_⟩
  obtain ⟨VS,g1,g2⟩:=wKo hE S hc hvs
  have hrs:rs=rs.toList.toArray:=by simp
  unfold tupA
  split
  ·rename_i v
   obtain ⟨cv,ws,q1,q2,q3⟩:=g1
   cases q2
   subst q3
   refine ⟨cv,q1,?_⟩
   have hl:∃ r,rs=#[r]:=by
    cases hq:rs.toList with
    | nil=>rw [hq] at g2;exact g2.elim
    | cons r k =>
     cases k with
     | nil=>exact ⟨r,Array.ext' (by simpa using hq)⟩
     | cons r' k=>rw [hq] at g2;cases r <;> cases r' <;> exact g2.2.elim
   obtain ⟨r,rfl⟩:=hl
   exact wKL g2
  ·rename_i hne
   refine ⟨_,⟨VS,g1,rfl⟩,?_⟩
   rw [hrs]
   refine wEV g2 ?_
   have hl:=wDL g1
   cases hb:VS.length == 1 with
   | false=>rfl
   | true =>
    have:vs.length=1:=by rw [<- hl];exact eq_of_beq hb
    obtain ⟨v,hv⟩:=List.length_eq_one_iff.1 this
    exact absurd hv (hne v)
 ·cases hr
def wMU (P:Program) (tb:Tr AF):Prop:=∀ p af,tb.get p=some af->chkF P (p.nat - 1) af=true
theorem wOS (T:wMU P tb) {ex:Run} (HE:wJi P ex false):wGb (CC P) P tb ex:=by
 intro f args h v h' hr
 unfold wJW at hr
 split at hr
 ·rename_i af haf
  have hcf:=T f af haf
  unfold chkF at hcf
  split at hcf
  ·cases hcf
  ·rename_i fn hfn
   split at hcf
   ·cases hcf
   ·rename_i c hbody
    simp only [nA,kM] at hcf
    obtain ⟨c1,c2,c3,c4⟩:=hcf
    refine ⟨fun a w=>?_,fun μ w vs S hv=>?_⟩
    ·have c3' : ¬ fn.name = "runtime.NumGoroutine" := by simpa using c3
     simp [callFunc,program,Sem.run,hfn,hbody,c3']
    ·split at hr
     ·rename_i hle
      have hle:=Nat.le_of_ble_eq_true hle
      have e1:=nB c1
      have key:∀ e σA' h1,ex af.body (wNg args .H .e) h=some (e,σA',h1)->(e=.nrm \/ e=.ret)->wRB σA' h1 af.res=some (v,h')->Gv P (f.nat - 1) vs w fun cv w'=>∃ μ',Ext μ h.fl.nat w μ' w'/\Sim (CC P) P μ' h' w'/\Rv μ' v cv/\h'.fl=h.fl:=by
       intro e σA' h1 hx he hres
       refine Gv.ofM hfn hbody rfl rfl (by rw [wDL hv,<- wEq,e1];exact hle) ?_
       refine (HE _ _ _ _ _ _ hx c fn.ntmps c4 none μ (wQK vs) w [] w.heap.size rfl S (wRH hv) (Mk.nil μ w _) (nO _)).mono ?_
       rintro D' e' σ' w' ⟨rfl,μ',q1,q2,q3,q4,q5,_⟩
       obtain ⟨rbs,m1,m2,m3⟩:=q4
       have fin:∃ rbs:List Nat,D'=rbs.map mark/\rbs.Nodup/\(∀ rb ∈ rbs,Dfr w' rb)/\∀ w2,Keep w' w2 (· ∈ rbs)->w2.heap.size=w'.heap.size->∃ cv,(wCm fn.results σ').run P w2=.ok cv w2/\∃ μ',Ext μ h.fl.nat w μ' w2/\Sim (CC P) P μ' h' w2/\Rv μ' v cv/\h'.fl=h.fl:=by
        refine ⟨rbs,m1,m2,fun rb hrb=>(m3 rb hrb).1,fun w2 K hs=>?_⟩
        have S2:=q2.keepX K fun p c hp hm=>(m3 _ hm).2.2 p c hp rfl
        obtain ⟨rfl,cv,r1,r2⟩:=wRk q3 S2 c2 hres
        refine ⟨cv,r2,μ',⟨q1.mono,q1.new,?_⟩,S2,r1,q5⟩
        exact q1.keep.step K fun i hi hm=>absurd (m3 i hm).2.1 (Nat.not_le.2 hi)
       rcases he with rfl | rfl
       ·exact fin
       ·exact fin
      split at hr
      ·exact key _ _ _ (by assumption) (.inl rfl) hr
      ·exact key _ _ _ (by assumption) (.inr rfl) hr
      ·cases hr
     ·cases hr
 ·cases hr
theorem wPc {ex:Run} (HE:wJi P ex true):wFV (CC P) P ex:=by
 intro b args h v h' hr
 unfold wJX at hr
 split at hr
 ·rename_i σA t asg body hB
  intro μ w xv c S hx hc
  split at hr <;> first | (cases hr;done) | skip
  rename_i σS hset
  split at hr <;> first | (cases hr;done) | skip
  rename_i σ1 h1 hasg
  split at hr <;> first | (cases hr;done) | skip
  rename_i σx tx ax bx hB1
  split at hr <;> first | (cases hr;done) | skip
  rename_i h2 hput2
  split at hr <;> first | (cases hr;done) | skip
  rename_i e σ3 h3 hbody
  split at hr <;> first | (cases hr;done) | skip
  rename_i σy ty ay by_ hB3
  split at hr <;> first | (cases hr;done) | skip
  rename_i h4 hput4
  cases hr
  obtain ⟨c',g1,g2⟩:=S.at_ b _ hB
  rw [hc] at g1;cases g1
  have L:wMM (CC P) μ w c σA t asg body .ready:=g2
  obtain ⟨hSE,hSl⟩:=wLc hset L.ht hx L.env
  refine Yd.of L.at_ L.tN hSl fun σ0 hσ0=>?_
  have hE0:EnvR μ σS σ0:=by
   intro p
   rw [hσ0];exact hSE p
  refine (HE _ _ _ _ _ _ hasg c.g.ac c.g.N L.asg (some c.1) μ σ0 w [] 0 rfl S hE0 (Mk.nil μ w _) (kj _)).mono ?_
  rintro D' e' σ' w1 ⟨rfl,μ1,q1,q2,q3,q4,q5,q6⟩
  have hc1:=q1.mono b c hc
  obtain ⟨c',r1,r2⟩:=q2.at_ b _ hB1
  rw [hc1] at r1;cases r1
  have L1:wMM (CC P) μ1 w1 c σx tx ax bx .ready:=r2
  refine ⟨rfl,q6 rfl,L1.at_,fun w2 hl2 K hs=>?_⟩
  obtain ⟨s1,s2,s3⟩:=q2.put hput2 hB1 trivial hc1 K (B':=.loop σA t asg body .busy) ⟨hl2,L.env.mono q1.mono,L.ht,L.tN,L.asg,L.body⟩
  rw [q5] at s2 s3
  refine (HE _ _ _ _ _ _ hbody c.g.bc c.g.N L.body (some c.1) μ1 σ' w2 [] 0 rfl s1 q3 (Mk.nil μ1 w2 _) (kj _)).mono ?_
  rintro D'' e'' σ'' w3 ⟨rfl,μ3,t1,t2,t3,t4,t5,t6⟩
  rw [s3] at t1 t5
  have hc3:=t1.mono b c hc1
  obtain ⟨c',u1,u2⟩:=t2.at_ b _ hB3
  rw [hc3] at u1;cases u1
  have L3:wMM (CC P) μ3 w3 c σy ty ay by_ .busy:=u2
  have fin:∀ w4,LoopAt w4 c.1 c.g.N c.g.σ c.g.t c.g.ac c.g.bc c.g.rb c.g.fn (lsC e.done).1 (lsC e.done).2->Keep w3 w4 (·=c.1)->∃ μ',Ext μ h.fl.nat w μ' w4/\Sim (CC P) P μ' h' w4/\AV.bool e.go=.bool e.go/\h'.fl=h.fl:=by
   intro w4 hl4 K4
   obtain ⟨v1,v2,v3⟩:=t2.put hput4 hB3 trivial hc3 K4 (B':=.loop σA t asg body e.done) ⟨hl4,(L.env.mono q1.mono).mono t1.mono,L.ht,L.tN,L.asg,L.body⟩
   rw [t5] at v2 v3
   exact ⟨μ3,(q1.trans s2).trans (t1.trans v2),v1,rfl,v3⟩
  cases e with
  | nrm=>exact ⟨L3.at_,fun w4 hl K4 _=>fin w4 hl K4⟩
  | ret=>exact ⟨L3.at_,fun w4 hl K4 _=>fin w4 hl K4⟩
  | exit i=>exact ⟨L3.at_,fun w4 hl K4 _=>fin w4 hl K4⟩
 ·cases hr
end
end
end Go.KX
namespace Go.KX
open Go.RowKit Go.KL
theorem wKp (b:AC) (exR:Run) (e:Ex) (σ:Tr AV) (h:AH):seqK b exR (e,σ,h)=(match e with | .nrm=>exR b σ h | e=>some (e,σ,h)):=by cases e <;> rfl
theorem wSi {x:R} {k:Ex × Tr AV × AH->R} {r:Ex × Tr AV × AH} (hr:Option.rec (motive:=fun _=>R) none k x=some r):∃ y,x=some y/\k y=some r:=by
 cases x with
 | none=>cases hr
 | some y=>exact ⟨y,rfl,hr⟩
structure Fr (h h':AH):Prop where
 nx:h.nx.nat <= h'.nx.nat
 fl:h'.fl=h.fl
 get:∀ p,p.nat < h.fl.nat->p.nat < h.nx.nat->h'.m.get p=h.m.get p
theorem Fr.refl (h:AH):Fr h h:=⟨nO _,rfl,fun _ _ _=>rfl⟩
theorem Fr.trans {a b c:AH} (h:Fr a b) (k:Fr b c):Fr a c :=
 ⟨kH h.nx k.nx,k.fl.trans h.fl,fun p h1 h2=>(k.get p (by rw [h.fl];exact h1) (kK h2 h.nx)).trans (h.get p h1 h2)⟩
theorem Fr.push (h:AH) (B:AB):Fr h (h.push B):=by
 refine ⟨?_,rfl,fun p _ h2=>?_⟩
 ·show h.nx.nat <= h.nx.succ.nat
  rw [Pos.nat_succ];omega
 ·show (h.m.set h.nx B).get p=_
  rw [Tr.get_set,if_neg (fun e=>by subst e;omega)]
theorem Fr.put {h h':AH} {p:Pos} {B:AB} (hp:h.put p B=some h'):Fr h h':=by
 obtain ⟨h1,rfl⟩:=wIq hp
 refine ⟨nO _,rfl,fun q h2 _=>?_⟩
 show (h.m.set p B).get q=_
 rw [Tr.get_set,if_neg (fun e=>by subst e;omega)]
theorem Fr.setAt {h h':AH} {b:Pos} {off:Nat} {vs:List AV} (hs:KX.setAt h b off vs=some h'):Fr h h':=by
 unfold KX.setAt at hs
 split at hs
 ·split at hs
  ·exact Fr.put hs
  ·cases hs
 ·split at hs
  ·exact Fr.put hs
  ·cases hs
 ·cases hs
theorem wRl {h h':AH} {o:Option AV} {v:AV} (hr:okV h o=some (v,h')):h'=h:=by
 cases o with
 | none=>cases hr
 | some x=>cases hr;rfl
theorem wHs {α:Type} {b:Bool} {x:Option α} {y:α} (hr:ifO b x=some y):x=some y:=by
 cases b with
 | true=>exact hr
 | false=>cases hr
section
variable {tb:Tr AF} {ex exY:Run} {σ:Tr AV} {h h':AH} {v:AV}
theorem wTV {T sz by_ m:Nat} {news:List AV} {x:AV} (hr:app h T sz by_ m news x=some (v,h')):Fr h h':=by
 unfold app at hr
 split at hr
 ·split at hr <;> first | (cases hr;exact Fr.refl _) | (cases hr;done)
 ·split at hr
  ·have hr:=wHs hr;cases hr;exact Fr.push _ _
  ·split at hr
   ·split at hr
    ·rename_i hs;cases hr;exact Fr.setAt hs
    ·cases hr
   ·have hr:=wHs hr
    split at hr
    ·cases hr;exact Fr.push _ _
    ·cases hr
  ·split at hr
   ·split at hr
    ·split at hr
     ·rename_i hs;cases hr;exact Fr.setAt hs
     ·cases hr
    ·have hr:=wHs hr
     split at hr
     ·rename_i hs;cases hr;exact (Fr.put hs).trans (Fr.push _ _)
     ·cases hr
   ·cases hr
  ·cases hr
theorem wQe {z:List AV} {b:Pos} {off n:Nat} (hr:clr h z b off n=some (v,h')):Fr h h':=by
 unfold clr at hr
 split at hr
 ·cases hr;exact Fr.refl _
 ·have hr:=wHs hr
  split at hr
  ·rename_i hs;cases hr;exact Fr.setAt hs
  ·cases hr
def FrX (ex:Run):Prop:=∀ c σ h e σ' h',ex c σ h=some (e,σ',h')->Fr h h'
theorem wQf {l:List AR} (hr:wRB σ h l=some (v,h')):Fr h h':=by
 unfold wRB at hr
 split at hr
 ·cases hr;exact Fr.refl _
 ·cases hr
theorem wOT (HE:FrX ex) {f:Pos} {args:List AV} (hr:wJW tb ex f args h=some (v,h')):Fr h h':=by
 unfold wJW at hr
 split at hr
 ·split at hr
  ·split at hr
   ·rename_i h1;exact (HE _ _ _ _ _ _ h1).trans (wQf hr)
   ·rename_i h1;exact (HE _ _ _ _ _ _ h1).trans (wQf hr)
   ·cases hr
  ·cases hr
 ·cases hr
theorem wPd (HY:FrX ex) {b:Pos} {args:List AV} (hr:wJX ex b args h=some (v,h')):Fr h h':=by
 unfold wJX at hr
 split at hr
 ·split at hr
  ·cases hr
  ·split at hr
   ·rename_i h1
    split at hr
    ·split at hr
     ·rename_i h2
      split at hr
      ·rename_i h3
       split at hr
       ·split at hr
        ·rename_i h4
         cases hr
         exact (HY _ _ _ _ _ _ h1).trans ((Fr.put h2).trans ((HY _ _ _ _ _ _ h3).trans (Fr.put h4)))
        ·cases hr
       ·cases hr
      ·cases hr
     ·cases hr
    ·cases hr
   ·cases hr
 ·cases hr
theorem wOU (HE:FrX ex) (HY:FrX exY) (op:AOp) (hr:opY op tb ex exY σ h=some (v,h')):Fr h h':=by
  cases op with
  | call x l =>
    have hr:wGZ x l tb ex exY σ h=some (v,h'):=hr
    unfold wGZ at hr
    split at hr
    · exact wOT HE hr
    · exact wPd HY hr
    · cases hr
  | new T z=>cases hr;exact Fr.push _ _
  | box T x=>cases hr;exact Fr.push _ _
  | mkm=>cases hr;exact Fr.push _ _
  | mks T sz b z x y =>
    have hr:wHE T sz b z x y σ h=some (v,h'):=hr
    unfold wHE at hr
    split at hr
    · have hr:=wHs hr;cases hr;exact Fr.push _ _
    · cases hr
  | blds T n z ps =>
    have hr:wEo T n z ps σ h=some (v,h'):=hr
    unfold wEo at hr
    split at hr
    · cases hr;exact Fr.push _ _
    · cases hr
  | st n x y =>
    have hr:wQR n x y σ h=some (v,h'):=hr
    unfold wQR at hr
    split at hr
    · split at hr
      · split at hr
        · rename_i hs;cases hr;exact Fr.setAt hs
        · cases hr
      · cases hr
    · cases hr
  | mput two k x y z =>
    have hr:wGX two k x y z σ h=some (v,h'):=hr
    unfold wGX at hr
    split at hr
    · split at hr
      · split at hr
        · split at hr
          · rename_i hs;cases hr;exact Fr.put hs
          · cases hr
        · cases hr
      · cases hr
    · cases hr
  | mdel two k x y =>
    have hr:wGY two k x y σ h=some (v,h'):=hr
    unfold wGY at hr
    split at hr
    · split at hr
      · split at hr
        · split at hr
          · rename_i hs;cases hr;exact Fr.put hs
          · cases hr
        · cases hr
      · cases hr
    · cases hr
  | app T sz b x y =>
    have hr:wJT T sz b x y σ h=some (v,h'):=hr
    unfold wJT at hr
    split at hr
    · exact wTV (wHs hr)
    · cases hr
  | cpy sz x y =>
    have hr:wJU sz x y σ h=some (v,h'):=hr
    unfold wJU at hr
    split at hr
    · split at hr
      · have hr:=wHs hr
        split at hr
        · rename_i hs;cases hr;exact Fr.setAt hs
        · cases hr
      · cases hr
    · cases hr
  | clr z x =>
    have hr:wJV z x σ h=some (v,h'):=hr
    unfold wJV at hr
    split at hr
    · exact wQe hr
    · exact wQe hr
    · cases hr;exact Fr.refl _
    · cases hr;exact Fr.refl _
    · cases hr
  | bad=>cases hr
  | apz T sz b z x y =>
    have hr:wJY T sz b z x y σ h=some (v,h'):=hr
    unfold wJY at hr
    split at hr
    · split at hr
      · cases hr;exact Fr.refl _
      · have hr:=wHs hr;cases hr;exact Fr.push _ _
    · cases hr
  | _ =>
    have e:h'=h:=by
      dsimp only [opY] at hr
      first
        | exact wRl hr
        | (simp only [wSe,wHC,wPH,wHr,wHD,wKR,wKS,wKT,wKU,wKV,wML,wKW,wHF,wKX,wKY,wHG,wKZ,wHH,wRA,wKa,wPI,wKb,wKc,wFF,wKd,wKe] at hr
           repeat' (split at hr)
           all_goals first
             | exact wRl hr
             | (cases hr;rfl)
             | (cases hr;done)
             | exact wRl (wHs hr)
             | (have hr2:=wHs hr;cases hr2;rfl))
    subst e
    exact Fr.refl _
theorem wQg (HE:FrX ex) (HY:FrX exY) (k:Nat) (op:AOp) (hr:opK k op tb ex exY σ h=some (v,h')):Fr h h':=by
 by_cases k2:nP k 2=true
 ·have hr:wQS op tb ex exY σ h=some (v,h'):=by
   have e:opK k op=wQS op:=by unfold opK;rw [k2]
   rw [e] at hr;exact hr
  unfold wQS at hr
  split at hr
  ·rename_i v0 h0 hq
   cases hr
   have F:=wOU HE HY op hq
   exact ⟨F.nx,rfl,fun p _ h2=>F.get p h2 h2⟩
  ·cases hr
 ·have e:opK k op=opY op:=by
   unfold opK
   cases hb:nP k 2 with
   | true=>exact absurd hb k2
   | false=>rfl
  rw [e] at hr
  exact wOU HE HY op hr
theorem wTW (HE:FrX ex) (HY:FrX exY) (op:AOp) (hr:wQS op tb ex exY σ h=some (v,h')):∀ p,p.nat < h.nx.nat->h'.m.get p=h.m.get p:=by
 unfold wQS at hr
 split at hr
 ·rename_i v0 h0 hq
  cases hr
  have F:=wOU HE HY op hq
  exact fun p h2=>F.get p h2 h2
 ·cases hr
theorem wIU (HE:FrX ex) (HY:FrX exY):∀ (l:List AO) (σ:Tr AV) (h:AH) (σ':Tr AV) (h':AH),wAr tb ex exY l σ h=some (σ',h')->Fr h h'
 | [],σ,h,σ',h',hr=>by
  rw [wBD] at hr;cases hr;exact Fr.refl _
 | o :: os,σ,h,σ',h',hr=>by
  rw [wBG] at hr
  split at hr
  ·split at hr
   ·rename_i r hq
    exact (wQg HE HY _ _ hq).trans (wIU HE HY os _ _ _ _ hr)
   ·cases hr
  ·exact wIU HE HY os _ _ _ _ hr
theorem wOV {exR:Run} (HR:FrX exR) {b:AC} {r:Ex × Tr AV × AH} {e:Ex} {σ':Tr AV} (hr:seqK b exR r=some (e,σ',h')):Fr r.2.2 h':=by
 obtain ⟨e0,σ0,h0⟩:=r
 rw [wKp] at hr
 cases e0 with
 | nrm=>exact HR _ _ _ _ _ _ hr
 | exit i=>cases hr;exact Fr.refl _
 | ret=>cases hr;exact Fr.refl _
theorem wRm {exR:Run} (HE:FrX ex) (HY:FrX exY) (HR:FrX exR) (c:AC) (f:Bool) {e:Ex} {σ':Tr AV} (hr:step c f tb ex exY exR σ h=some (e,σ',h')):Fr h h':=by
 cases c with
 | skip=>cases hr;exact Fr.refl _
 | rg l =>
  have hr:sRg l tb ex exY exR σ h=some (e,σ',h'):=hr
  unfold sRg at hr
  cases hq:wAr tb ex exY l σ h with
  | none=>rw [hq] at hr;cases hr
  | some y =>
   rw [hq] at hr
   cases hr
   exact wIU HE HY l _ _ _ _ hq
 | seq a b =>
  have hr:wSw a b exR σ h=some (e,σ',h'):=hr
  unfold wSw at hr
  obtain ⟨y,h1,h2⟩:=wSi hr
  exact (HR _ _ _ _ _ _ h1).trans (wOV HR h2)
 | cond c a b =>
  have hr:wNl c a b exR σ h=some (e,σ',h'):=hr
  unfold wNl at hr
  split at hr
  ·exact HR _ _ _ _ _ _ hr
  ·exact HR _ _ _ _ _ _ hr
  ·cases hr
 | block i a =>
  have hr:wLP i a exR σ h=some (e,σ',h'):=hr
  unfold wLP at hr
  obtain ⟨y,h1,h2⟩:=wSi hr
  obtain ⟨e0,σ0,h0⟩:=y
  refine (HR _ _ _ _ _ _ h1).trans ?_
  unfold wQU at h2
  cases e0 with
  | nrm=>cases h2;exact Fr.refl _
  | ret=>cases h2;exact Fr.refl _
  | exit j =>
   simp only at h2
   cases hb:nP j i with
   | true=>rw [hb] at h2;cases h2;exact Fr.refl _
   | false=>rw [hb] at h2;cases h2;exact Fr.refl _
 | loop a =>
  have hr:wNm a exR σ h=some (e,σ',h'):=hr
  unfold wNm at hr
  obtain ⟨y,h1,h2⟩:=wSi hr
  exact (HR _ _ _ _ _ _ h1).trans (wOV HR h2)
 | rf g t asg body =>
  have hr:sRf f g t asg body tb ex σ h=some (e,σ',h'):=hr
  unfold sRf at hr
  split at hr
  ·split at hr
   ·rename_i h1
    have F:=(Fr.push h (.loop σ t asg body .ready)).trans (wOT HE h1)
    split at hr
    ·split at hr
     ·rename_i h2;cases hr;exact F.trans (Fr.put h2)
     ·cases hr
    ·split at hr
     ·rename_i h2;cases hr;exact F.trans (Fr.put h2)
     ·cases hr
    ·cases hr
   ·cases hr
  ·cases hr
 | exit i=>cases hr;exact Fr.refl _
 | scope a=>exact HR _ _ _ _ _ _ hr
 | ret=>cases hr;exact Fr.refl _
 | rl l =>
  have hr:sRl l tb ex exY σ h=some (e,σ',h'):=hr
  rw [wQT] at hr
  split at hr
  ·rename_i y hq
   cases hr
   exact wIU HE HY l _ _ _ _ (wKn _ _ _ _ hq).1
  ·cases hr
theorem wFX (tb:Tr AF):∀ (n:Nat) (r:Bool),FrX (exec tb n r)
 | 0,r=>fun c σ h e σ' h' hr=>by cases hr
 | n + 1,r=>fun c σ h e σ' h' hr=>by
  rw [wJZ] at hr
  exact wRm (wFX tb n false) (wFX tb n true) (wFX tb n r) c _ hr
end
end Go.KX
namespace Go.KX
open Go.RowKit Go.KL
theorem wRn {a b:IntKind} (h:keq a b=true):a=b:=by
 cases a <;> cases b <;> first | rfl | (simp [keq] at h)
theorem wRo {a b:Int} (h:zeq a b=true):a=b:=by
 cases a with
 | ofNat a=>cases b with
  | ofNat b=>simp only [zeq] at h;rw [nB h]
  | negSucc b=>simp [zeq] at h
 | negSucc a=>cases b with
  | ofNat b=>simp [zeq] at h
  | negSucc b=>simp only [zeq] at h;rw [nB h]
mutual
theorem wOW:∀ {a b:AV},same a b=true->a=b
 | .int k n,.int k' n',h=>by simp only [same,nA] at h;rw [wRn h.1,wRo h.2]
 | .bool a,.bool b,h=>by simp only [same,beq_iff_eq] at h;rw [h]
 | .ptr b o,.ptr b' o',h=>by simp only [same,nA] at h;rw [Pos.beq_eq h.1,nB h.2]
 | .pnil,.pnil,_=>rfl
 | .sl b o n c,.sl b' o' n' c',h=>by simp only [same,nA] at h;rw [Pos.beq_eq h.1,nB h.2.1,nB h.2.2.1,nB h.2.2.2]
 | .rw b o n c,.rw b' o' n' c',h=>by simp only [same,nA] at h;rw [Pos.beq_eq h.1,nB h.2.1,nB h.2.2.1,nB h.2.2.2]
 | .snil,.snil,_=>rfl
 | .map b,.map b',h=>by simp only [same] at h;rw [Pos.beq_eq h]
 | .mnil,.mnil,_=>rfl
 | .fn f fi ca,.fn f' fi' ca',h=>by simp only [same,nA] at h;rw [Pos.beq_eq h.1,wFu h.2.1,wFu h.2.2]
 | .fnil,.fnil,_=>rfl
 | .agg l,.agg l',h=>by simp only [same] at h;rw [wFu h]
 | .tup l,.tup l',h=>by simp only [same] at h;rw [wFu h]
theorem wFu:∀ {a b:List AV},wIm a b=true->a=b
 | [],[],_=>rfl
 | a :: l,b :: k,h=>by simp only [wIm,nA] at h;rw [wOW h.1,wFu h.2]
 | [],_ :: _,h=>by simp [wIm] at h
 | _ :: _,[],h=>by simp [wIm] at h
end
section
variable {tb:Tr AF} {ex exY:Run} {σ:Tr AV} {h h':AH} {v:AV}
theorem wOX {o:Option AV} (hr:okV h o=some (v,h')) (h2:AH):okV h2 o=some (v,h2):=by
 cases o with
 | none=>cases hr
 | some x=>cases hr;rfl
end
section
variable {P:Program} {l:List Oper} {σ σ':Env} {o:Oper} {w:World}
def Agr (l:List Oper) (o:Oper) (σ σ':Env):Prop:=∀ d ∈ wEl l o,σ d=σ' d
theorem wTX (h:Agr l o σ σ'):∀ y ∈ o.op.operands,ev σ y=ev σ' y:=by
 intro y hy
 cases y with
 | tmp t=>exact h t (nq _ (kc.2 ⟨.tmp t,by simpa using hy,rfl⟩))
 | _=>rfl
theorem wCL (h:Agr l o σ σ'):wanted l σ o=wanted l σ' o:=by
 unfold wanted
 cases hg:o.guard with
 | none=>rfl
 | some g =>
  obtain ⟨j,b⟩:=g
  simp only
  cases hd:(l[j]?).bind (·.dst) with
  | none=>rfl
  | some t =>
   simp only
   rw [h t (by unfold wEl;rw [hg];simp only [hd];simp)]
theorem wOY (hs:wBj o=false) (h:Agr l o σ σ'):execOp (ev σ) o=execOp (ev σ') o:=execOp_congr o (wNB hs) (wTX h)
theorem Runs.agr (hs:wBj o=false) (h:Agr l o σ σ') {v:Value} {w':World}:Runs P σ w o v w' ↔ Runs P σ' w o v w':=by
 unfold Runs;rw [wOY hs h]
theorem Runs.det {v v':Value} {w1 w2:World} (h:Runs P σ w o v w1) (h':Runs P σ w o v' w2):v=v'/\w1=w2:=by
 have:=h.2.symm.trans h'.2
 simp only [Result.ok.injEq] at this
 obtain ⟨e,e2⟩:=this
 exact ⟨by simpa using e,e2⟩
theorem Step1.agr (hs:wBj o=false) (h:Agr l o σ σ') {R:Value->World->Prop} (hh:Step1 P l o σ w R):Step1 P l o σ' w R:=by
 have e:=wOY hs h
 have ew:=wCL h
 rcases hh with ⟨h1,⟨h2,w',h3,h4⟩ | ⟨v,w',h3,h4⟩ | ⟨f,args,R',h3,h4,h5⟩ | hy⟩ | ⟨h1,h2⟩
 ·exact .inl ⟨ew ▸ h1,.inl ⟨h2,w',by unfold Does at h3 ⊢;rw [<- e];exact h3,h4⟩⟩
 ·exact .inl ⟨ew ▸ h1,.inr (.inl ⟨v,w',by unfold Runs at h3 ⊢;rw [<- e];exact h3,h4⟩)⟩
 ·exact .inl ⟨ew ▸ h1,.inr (.inr (.inl ⟨f,args,R',by unfold Enters at h3 ⊢;rw [<- e];exact h3,h4,h5⟩))⟩
 ·exact .inl ⟨ew ▸ h1,.inr (.inr (.inr (by unfold Rounds at hy ⊢;rw [<- e];exact hy)))⟩
 ·exact .inr ⟨ew ▸ h1,h2⟩
end
end Go.KX
namespace Go.KX
open Go.RowKit Go.KL
section
variable {tb:Tr AF} {ex exY:Run} {C:Chk} {P:Program}
theorem wEG:∀ (l1 l2:List AO) (σ:Tr AV) (h:AH) (r:Tr AV × AH),wAr tb ex exY (l1 ++ l2) σ h=some r->∃ σ1 h1,wAr tb ex exY l1 σ h=some (σ1,h1)/\wAr tb ex exY l2 σ1 h1=some r
 | [],l2,σ,h,r,hr=>⟨σ,h,wBD _ _ _ _ _,hr⟩
 | a :: l1,l2,σ,h,r,hr=>by
  rw [nH,wBG] at hr
  rw [wBG]
  cases hw:wCz σ a.grd with
  | true =>
   rw [hw] at hr
   simp only at hr ⊢
   cases hq:opK a.kd a.op tb ex exY σ h with
   | none=>rw [hq] at hr;cases hr
   | some q =>
    rw [hq] at hr
    exact wEG l1 l2 _ _ r hr
  | false =>
   rw [hw] at hr
   exact wEG l1 l2 _ _ r hr
theorem wIv {d:Option Pos} {σ:Tr AV} {v:AV} {p:Pos}:evA (wGe d σ v) (.t p)=if d=some p then v else evA σ (.t p):=by
 cases d with
 | none =>
  rw [if_neg (by simp)]
  rfl
 | some q =>
  show evA (σ.set q v) (.t p)=_
  rw [wKh,Tr.get_set]
  by_cases e:p=q
  ·subst e
   rw [if_pos rfl,if_pos rfl]
   rfl
  ·rw [if_neg e,if_neg (fun h=>e (by cases h;rfl)),wKh]
theorem wDM:∀ (l:List AO) (σ:Tr AV) (h:AH) (σ':Tr AV) (h':AH),wAr tb ex exY l σ h=some (σ',h')->∀ p,(∀ a ∈ l,a.dst ≠ some p)->evA σ' (.t p)=evA σ (.t p)
 | [],σ,h,σ',h',hr,p,_=>by
  rw [wBD] at hr
  cases hr
  rfl
 | a :: l,σ,h,σ',h',hr,p,hp=>by
  have hn:a.dst ≠ some p:=hp a (by simp)
  rw [wBG] at hr
  cases hw:wCz σ a.grd with
  | true =>
   rw [hw] at hr
   simp only at hr
   cases hq:opK a.kd a.op tb ex exY σ h with
   | none=>rw [hq] at hr;cases hr
   | some q =>
    rw [hq] at hr
    rw [wDM l _ _ _ _ hr p fun b hb=>hp b (by simp [hb]),wIv,if_neg hn]
  | false =>
   rw [hw] at hr
   rw [wDM l _ _ _ _ hr p fun b hb=>hp b (by simp [hb]),wIv,if_neg hn]
variable {μ μ':Mu} {h:AH} {w:World}
theorem Sim.adopt {c:Cl} {B:AB} (S:Sim C P μ h w) (hlt:c.1 < w.heap.size) (hn:∀ p d,μ p=some d->d.1 ≠ c.1) (hB:AbR C P (μ.add h.nx c) w c B):Sim C P (μ.add h.nx c) (h.push B) w:=by
 have hn0:=S.nx h.nx (nO _)
 have hle:=Mu.add_le (c:=c) hn0
 refine ⟨?_,?_,?_,?_⟩
 ·intro p hp
  have hp:h.nx.succ.nat <= p.nat:=hp
  rw [Pos.nat_succ] at hp
  unfold Mu.add
  rw [if_neg (fun e=>by subst e;omega)]
  exact S.nx p (by omega)
 ·intro p d hd
  unfold Mu.add at hd
  split at hd
  ·cases hd;exact hlt
  ·exact S.lt p d hd
 ·intro p q a b d e hp hq la lb hd he hde
  simp only [AH.push,Tr.get_set] at hp hq
  unfold Mu.add at hd he
  split at hd <;> split at he
  ·rename_i h1 h2;rw [h1,h2]
  ·cases hd;exact absurd hde.symm (hn _ _ he)
  ·cases he;exact absurd hde (hn _ _ hd)
  ·rename_i h1 h2
   rw [if_neg h1] at hp
   rw [if_neg h2] at hq
   exact S.inj p q a b d e hp hq la lb hd he hde
 ·intro p b hb
  simp only [AH.push,Tr.get_set] at hb
  split at hb
  ·rename_i e
   subst e
   cases hb
   exact ⟨c,Mu.add_same _ _ _,hB⟩
  ·rename_i e
   obtain ⟨d,h1,h2⟩:=S.at_ p b hb
   exact ⟨d,hle _ _ h1,h2.mono hle⟩
end
end Go.KX
namespace Go.KX
open Go.RowKit Go.KL
theorem wGK:∀ {l:List AOd} {p:Pos},AOd.t p ∈ l->p ∈ wCs l
 | .t q :: l,p,h=>by
  rcases nJ.1 h with h | h
  ·cases h;simp [wCs]
  ·simp only [wCs,nJ];exact .inr (wGK h)
 | .c v :: l,p,h=>by
  rcases nJ.1 h with h | h
  ·cases h
  ·show p ∈ wCs l
   exact wGK h
noncomputable def rst (σ:Tr AV):List Pos->Tr AV
 | []=>.e
 | p :: ps=>(rst σ ps).set p (evA σ (.t p))
theorem wHV (σ:Tr AV):∀ (ps:List Pos) (p:Pos),evA (rst σ ps) (.t p)=if p ∈ ps then evA σ (.t p) else u
 | [],p=>by rw [if_neg (by simp)];rfl
 | q :: ps,p=>by
  show evA ((rst σ ps).set q (evA σ (.t q))) (.t p)=_
  rw [wKh,Tr.get_set]
  by_cases e:p=q
  ·subst e
   rw [if_pos rfl,if_pos (by simp)]
   rfl
  ·rw [if_neg e,<- wKh,wHV σ ps p]
   simp [e]
open Classical in
noncomputable def rsl (σ:Env) (ps:List Pos):Env:=fun d=>if ∃ p ∈ ps,p.nat - 1=d then σ d else undef
theorem wHW {μ:Mu} {σA:Tr AV} {σ:Env} {ps:List Pos} (h:∀ p ∈ ps,Rv μ (evA σA (.t p)) (σ (p.nat - 1))):EnvR μ (rst σA ps) (rsl σ ps):=by
 intro p
 rw [wHV]
 unfold rsl
 by_cases hp:p ∈ ps
 ·rw [if_pos hp,if_pos ⟨p,hp,rfl⟩]
  exact h p hp
 ·rw [if_neg hp,if_neg]
  ·exact wNp μ
  ·rintro ⟨q,hq,e⟩
   have h1:=q.nat_pos
   have h2:=p.nat_pos
   have:q=p:=Pos.nat_inj (by omega)
   exact hp (this ▸ hq)
section
variable {tb:Tr AF} {ex exY:Run} {C:Chk} {P:Program} {μ:Mu} {σA:Tr AV} {σ:Env} {h h':AH} {v:AV} {o:Oper} {a:AOp} {w:World}
theorem wLd (hr:opY a tb ex exY σA h=some (v,h')):opY a tb ex exY (rst σA (wCs (wBb a))) h=some (v,h'):=by
 rw [<- hr]
 refine wOP a (fun x hx=>?_) h
 cases x with
 | t p=>rw [wHV,if_pos (wGK hx)]
 | c v=>rfl
theorem wRp (hs:wBj o=false) (hb:Sub a o):execOp (ev (rsl σ (wCs (wBb a)))) o=execOp (ev σ) o:=by
 refine execOp_congr o (wNB hs) fun y hy=>?_
 cases y with
 | tmp t =>
  show rsl σ (wCs (wBb a)) t=σ t
  unfold rsl
  rw [if_pos (hb t hy)]
 | _=>rfl
theorem wIw (hs:wBj o=false) (hb:Sub a o) {v:Value} {w':World}:Runs P (rsl σ (wCs (wBb a))) w o v w' ↔ Runs P σ w o v w':=by
 unfold Runs;rw [wRp hs hb]
theorem wHX (hs:wBj o=false) (hb:Sub a o) (hk:kdA a=3) (hc:wHQ P a o.op=true) (hr:opY a tb ex exY σA h=some (v,h')) (hv:∀ p ∈ wCs (wBb a),Rv μ (evA σA (.t p)) (σ (p.nat - 1))) :
  ∃ cv,Rv μ v cv/\∀ w,Runs P σ w o cv w:=by
 obtain ⟨_,h2⟩:=wIQ (tb:=tb) (ex:=ex) (exY:=exY) hk hc _ _ _ _ (wLd hr)
 obtain ⟨cv,g1,g2⟩:=h2 μ _ (wHW hv)
 exact ⟨cv,g1,fun w=>(wIw hs hb).1 (g2 o w rfl)⟩
theorem wOZ (hs:wBj o=false) (hb:Sub a o) (hk:kdA a=1 \/ kdA a=3) (hc:wHQ P a o.op=true) (hr:opY a tb ex exY σA h=some (v,h')) (S:Sim C P μ h w) (hv:∀ p ∈ wCs (wBb a),Rv μ (evA σA (.t p)) (σ (p.nat - 1))) :
  ∃ cv,Rv μ v cv/\Runs P σ w o cv w:=by
 obtain ⟨_,h2⟩:=wIR (C:=C) (tb:=tb) (ex:=ex) (exY:=exY) hk hc _ _ _ _ (wLd hr)
 obtain ⟨cv,g1,g2⟩:=h2 μ _ w (wHW hv) S
 exact ⟨cv,g1,(wIw hs hb).1 (g2 o rfl w (Keep.refl w _))⟩
theorem wLe {op:Op} (hk:wMx a=true) (hc:wHQ P a op=true):OkA C P op (opY a tb ex exY):=by
 cases a <;> first
  | (simp [wMx] at hk;done)
  | exact a_new hc | exact a_box hc | exact a_mkm hc | exact a_mks hc | exact wTT hc
theorem wMV (hs:wBj o=false) (hb:Sub a o) (hk:wMx a=true) (hc:wHQ P a o.op=true) (hr:opY a tb ex exY σA h=some (v,h')) (hv:∀ p ∈ wCs (wBb a),Rv μ (evA σA (.t p)) (σ (p.nat - 1))) :
  ∃ (B:AB) (vf:Pos->AV) (ob:Obj) (val:Nat->Value),h'=h.push B/\v=vf h.nx/\wMN B/\(∀ w:World,Runs P σ w o (val w.heap.size) (w.alloc ob)) /\
   (∀ μ' (w:World) b,μ.Le μ'->w.heap[b]?=some ob->AbR C P μ' w ⟨b,0,g0⟩ B)/\∀ μ' p b,μ' p=some ⟨b,0,g0⟩->Rv μ' (vf p) (val b):=by
 obtain ⟨B,vf,e1,e2,_,e4,e5⟩:=wLe (C:=C) (tb:=tb) (ex:=ex) (exY:=exY) hk hc _ _ _ _ (wLd hr)
 obtain ⟨ob,val,g1,g2,g3⟩:=e5 μ _ (wHW hv) o rfl
 exact ⟨B,vf,ob,val,e1,e2,e4,fun w=>(wIw hs hb).1 (g1 w),g2,g3⟩
end
end Go.KX
namespace Go.KX
open Go.RowKit Go.KL
section
variable {tb:Tr AF} {ex exY:Run} {P:Program}
theorem wLf {s t:List AO} {a:AO} {σ0:Tr AV} {h0:AH} {r:Tr AV × AH} (hr:wAr tb ex exY (s ++ a :: t) σ0 h0=some r) :
  ∃ σ1 h1,wAr tb ex exY s σ0 h0=some (σ1,h1) /\
   ((wCz σ1 a.grd=true/\∃ v h2,opK a.kd a.op tb ex exY σ1 h1=some (v,h2)/\wAr tb ex exY t (wGe a.dst σ1 v) h2=some r) \/
    (wCz σ1 a.grd=false/\wAr tb ex exY t (wGe a.dst σ1 u) h1=some r)):=by
 obtain ⟨σ1,h1,e1,e2⟩:=wEG s (a :: t) σ0 h0 r hr
 refine ⟨σ1,h1,e1,?_⟩
 rw [wBG] at e2
 cases hw:wCz σ1 a.grd with
 | true =>
  rw [hw] at e2
  simp only at e2
  cases hq:opK a.kd a.op tb ex exY σ1 h1 with
  | none=>rw [hq] at e2;cases e2
  | some q =>
   rw [hq] at e2
   exact .inl ⟨rfl,q.1,q.2,rfl,e2⟩
 | false =>
  rw [hw] at e2
  exact .inr ⟨rfl,e2⟩
theorem wEa {l:List Oper} {S:Nat->Bool} (hdc:∀ k,k < l.length->S k=true->∀ j ∈ prI l k,S j=true) {x i:Nat} (hp:∀ j ∈ prI l i,S j=true) (h:wLY l x i):S x=true:=h S hdc hp
variable {N:Nat} {l:List Oper} {os s t:List AO} {a:AO} {σ0 σ1 σf:Tr AV} {h0 h1 hf:AH}
theorem wKq (Z:ZOK P N l os) (e:os=s ++ a :: t) {v:AV} {σ2:Tr AV} {h2:AH} (hr:wAr tb ex exY t (wGe a.dst σ2 v) h2=some (σf,hf)) {p:Pos} (hp:a.dst=some p):evA σf (.t p)=v:=by
 rw [wDM t _ _ _ _ hr p fun b hb=>Z.wr s a t e p hp b (ng _ hb),wIv,if_pos hp]
theorem wTY (Z:ZOK P N l os) (e:os=s ++ a :: t) (hr:wAr tb ex exY (a :: t) σ1 h1=some (σf,hf)) {p:Pos} (hp:p ∈ wCN a):evA σf (.t p)=evA σ1 (.t p) :=
 wDM (a :: t) _ _ _ _ hr p fun b hb=>Z.rd s a t e p hp b hb
end
end Go.KX
namespace Go.KX
open Go.RowKit Go.KL
section
variable {tb:Tr AF} {ex exY:Run} {P:Program} {N:Nat} {l:List Oper} {os s t:List AO} {a:AO} {σ0 σ1 σA σf:Tr AV} {h0 h h1 hf:AH} {μ μS:Mu} {σ σ':Env} {w:World} {o:Oper}
theorem wDN:∀ {s s' t t':List AO} {a:AO},(s ++ a :: t).Pairwise (fun a b=>a.ix ≠ b.ix)->s ++ a :: t=s' ++ a :: t'->s=s'/\t=t'
 | [],[],t,t',a,_,e=>by
  simp only [nV,na,true_and] at e
  exact ⟨rfl,e⟩
 | [],b :: s',t,t',a,hp,e=>by
  simp only [nV,nH,na] at e
  obtain ⟨rfl,rfl⟩:=e
  rw [nV] at hp
  exact absurd rfl ((nW.1 hp).1 a (by simp))
 | b :: s,[],t,t',a,hp,e=>by
  simp only [nV,nH,na] at e
  obtain ⟨rfl,rfl⟩:=e
  rw [nH] at hp
  exact absurd rfl ((nW.1 hp).1 b (by simp))
 | b :: s,b' :: s',t,t',a,hp,e=>by
  simp only [nH,na] at e
  rw [nH] at hp
  obtain ⟨h1,h2⟩:=wDN (nW.1 hp).2 e.2
  exact ⟨by rw [e.1,h1],h2⟩
theorem wEy (A:AOK P N l a o) (hs:Sub a.op o):∀ d ∈ wEl l o,∃ p ∈ wCN a,p.nat - 1=d:=by
 intro d hd
 unfold wEl at hd
 rcases nI.1 hd with hd | hd
 ·obtain ⟨y,h1,h2⟩:=kc.1 hd
  cases y with
  | tmp t =>
   simp only [kh] at h2
   subst h2
   obtain ⟨p,h3,h4⟩:=hs t (by simpa using h1)
   exact ⟨p,nq _ h3,h4⟩
  | _=>simp at h2
 ·rcases A.grd with ⟨_,h2⟩ | ⟨p,b,j,d',h1,h2,h3,h4⟩
  ·rw [h2] at hd;simp at hd
  ·rw [h2] at hd
   simp only [h3,Option.toList_some,nQ] at hd
   subst hd
   exact ⟨p,ng _ (by rw [h1];simp),h4.symm⟩
structure Pend (tb:Tr AF) (ex exY:Run) (P:Program) (l:List Oper) (os:List AO) (σ0:Tr AV) (h0:AH) (σf:Tr AV) (w0:World) (μ μS:Mu) (σ:Env) (w:World) (a:AO) (o:Oper) (p:Pos):Prop where
 get:l[a.ix]?=some o
 dst:a.dst=some p
 fact:(wanted l σ o=false/\σ (p.nat - 1)=undef/\evA σf (.t p)=u) \/ (wanted l σ o=true /\
  (((a.kd=1 \/ a.kd=3 \/ 8 <= a.kd)/\Rv μ (evA σf (.t p)) (σ (p.nat - 1))) \/
   (a.kd=6/\Rv μS (evA σf (.t p)) (σ (p.nat - 1))/\∃ w1 w2,Runs P σ w1 o (σ (p.nat - 1)) w2) \/
   (a.kd=4/\Rv μS (evA σf (.t p)) (σ (p.nat - 1))/\∃ w1 ob s1 t1 σ1 h1,Runs P σ w1 o (σ (p.nat - 1)) (w1.alloc ob)/\w.heap[w1.heap.size]?=some ob/\w0.heap.size <= w1.heap.size /\
    os=s1 ++ a :: t1/\wAr tb ex exY s1 σ0 h0=some (σ1,h1)/\μS h1.nx=some ⟨w1.heap.size,0,g0⟩/\∀ q c,μS q=some c->c.1=w1.heap.size->q=h1.nx)))
theorem wOa {tb:Tr AF} {ex exY:Run} {k:Nat} {op:AOp} {σ:Tr AV} {h h':AH} {v:AV} (hk:k ≠ 2) (hr:opK k op tb ex exY σ h=some (v,h')):opY op tb ex exY σ h=some (v,h'):=by
 have hb:nP k 2=false:=by
  cases hb:nP k 2 with
  | false=>rfl
  | true=>exact absurd (nB hb) hk
 have:opK k op=opY op:=by unfold opK;rw [hb]
 rwa [this] at hr
theorem wMW {k:Nat} (h:8 <= k):¬ wCC k=true:=by
 unfold wCC
 simp only [nf,not_or]
 exact ⟨fun e=>by have:=nB e;omega,fun e=>by have:=nB e;omega⟩
theorem wOb {w:World} {a b:Obj} (h:w.alloc a=w.alloc b):a=b:=by
 have h1:=heap_alloc_new w a
 rw [h,heap_alloc_new] at h1
 exact (nL h1).symm
theorem wTZ (Z:ZOK P N l os) (e:os=s ++ a :: t) {μ0:Mu} {w0:World} {fl:Nat} (hs:wAr tb ex exY s σ0 h0=some (σA,h)) (hr:wAr tb ex exY (a :: t) σA h=some (σf,hf))
  (E:Ext μ0 fl w0 μ w) (S:Sim (CC P) P μ h w) (hE:EnvR μ σA σ') (hle:μ.Le μS) {p:Pos} (Pd:Pend tb ex exY P l os σ0 h0 σf w0 μ μS σ w a o p) (hag:∀ q ∈ wCN a,σ (q.nat - 1)=σ' (q.nat - 1)) :
  ∃ σB hB μB,wAr tb ex exY (s ++ [a]) σ0 h0=some (σB,hB)/\wAr tb ex exY t σB hB=some (σf,hf)/\μ.Le μB/\μB.Le μS/\Ext μ0 fl w0 μB w/\Sim (CC P) P μB hB w/\hB.fl=h.fl/\EnvR μB σB (upd σ' (p.nat - 1) (σ (p.nat - 1)))/\(a.kd=4->wanted l σ o=true->μB h.nx ≠ none):=by
 have ha:a ∈ os:=by rw [e];simp
 obtain ⟨o',A⟩:=wDZ (Z.ao a ha)
 have eo:o'=o:=by have:=A.get;rw [Pd.get] at this;exact (nL this).symm
 subst eo
 have hsel:=Z.sel a ha _ A.get
 have hsub:=Z.sub a ha _ A.get
 have hagr:Agr l o' σ σ':=fun d hd=>by
  obtain ⟨q,h1,rfl⟩:=wEy A hsub d hd
  exact hag q h1
 have hw:=wIt A hE
 have hwσ:wanted l σ o'=wCz σA a.grd:=(wCL hagr).trans hw
 obtain ⟨pd,dd,d1,d2,d3,_⟩:∃ p d,a.dst=some p/\o'.dst=some d/\d=p.nat - 1/\d < N:=by
  rcases A.dst with ⟨h1,_⟩ | h
  ·rw [Pd.dst] at h1;cases h1
  ·exact h
 have ep:pd=p:=by rw [Pd.dst] at d1;exact (nL d1).symm
 subst ep
 have eput:∀ cv,put' σ' o' cv=upd σ' (pd.nat - 1) cv:=fun cv=>by unfold put';rw [d2,d3]
 obtain ⟨σx,hx,q1,q2⟩:=wLf (s:=[]) (a:=a) (t:=t) (σ0:=σA) (h0:=h) (by rw [nV];exact hr)
 rw [wBD] at q1
 cases q1
 have split1:∀ {σB hB},(match wCz σA a.grd with | true=>(match opK a.kd a.op tb ex exY σA h with | some r=>some (wGe a.dst σA r.1,r.2) | none=>none) | false=>some (wGe a.dst σA u,h))=some (σB,hB)->wAr tb ex exY (s ++ [a]) σ0 h0=some (σB,hB):=by
  intro σB hB hq
  have app:∀ (l1 l2:List AO) (x:Tr AV) (y:AH) (x1:Tr AV) (y1:AH),wAr tb ex exY l1 x y=some (x1,y1)->wAr tb ex exY (l1 ++ l2) x y=wAr tb ex exY l2 x1 y1:=by
   intro l1
   induction l1 with
   | nil=>intro l2 x y x1 y1 h;rw [wBD] at h;cases h;rfl
   | cons b l1 ih =>
    intro l2 x y x1 y1 h
    rw [nH,wBG]
    rw [wBG] at h
    cases hb:wCz x b.grd with
    | true =>
     rw [hb] at h
     simp only at h ⊢
     cases hq:opK b.kd b.op tb ex exY x y with
     | none=>rw [hq] at h;cases h
     | some r=>rw [hq] at h;exact ih l2 _ _ _ _ h
    | false =>
     rw [hb] at h
     exact ih l2 _ _ _ _ h
  rw [app s [a] _ _ _ _ hs,wBG]
  cases hb:wCz σA a.grd with
  | true =>
   rw [hb] at hq
   simp only at hq ⊢
   cases hk:opK a.kd a.op tb ex exY σA h with
   | none=>rw [hk] at hq;cases hq
   | some r =>
    rw [hk] at hq
    cases hq
    exact wBD _ _ _ _ _
  | false =>
   rw [hb] at hq
   cases hq
   rw [wBD]
 rcases q2 with ⟨g1,v,h2,g2,g3⟩ | ⟨g1,g3⟩
 ·have hv:evA σf (.t pd)=v:=wKq Z e g3 Pd.dst
  have hrun:=split1 (σB:=wGe a.dst σA v) (hB:=h2) (by rw [g1];simp only;rw [g2])
  rcases Pd.fact with ⟨f1,_⟩ | ⟨_,⟨fk,f1⟩ | ⟨fk,f1,w1,w2,f2⟩ | ⟨fk,f1,w1,ob,s1,t1,σ1,h1,f2,f3,f4,f5,f6,f7,f8⟩⟩
  ·rw [hwσ,g1] at f1;cases f1
  ·have gY:opY a.op tb ex exY σA h=some (v,h2):=wOa (by omega) g2
   have hk:kdA a.op=1 \/ kdA a.op=3:=by
    rcases fk with fk | fk | fk
    ·exact A.k1 fk
    ·exact .inr (A.k3 fk)
    ·rcases Z.kd a ha with hh | ⟨_,hh | hh | hh | hh | hh⟩
     ·exact absurd hh (wMW fk)
     ·omega
     ·omega
     ·omega
     ·omega
     ·exact .inl hh.2
   obtain ⟨e1,_⟩:=wIR (C:=CC P) hk A.op _ _ _ _ gY
   subst e1
   rw [hv] at f1
   exact ⟨_,_,μ,hrun,g3,Mu.Le.refl μ,hle,E,S,rfl,by rw [<- eput];exact wEd A hE f1,fun h4 _=>by omega⟩
  ·have gY:opY a.op tb ex exY σA h=some (v,h2):=by rw [fk] at g2;exact g2
   have hk:kdA a.op=3:=by
    rcases Z.kd a ha with hh | ⟨_,hh | hh | hh | hh | hh⟩
    ·rw [fk] at hh;exact absurd hh (by decide)
    ·omega
    ·omega
    ·exact hh.2
    ·omega
    ·omega
   obtain ⟨e1,e2⟩:=wIQ hk A.op _ _ _ _ gY
   subst e1
   obtain ⟨cv,c1,c2⟩:=e2 μ σ' hE
   have:=Runs.det ((Runs.agr hsel hagr).2 (c2 o' w1 rfl)) f2
   rw [<- eput,<- this.1]
   exact ⟨_,_,μ,hrun,g3,Mu.Le.refl μ,hle,E,S,rfl,wEd A hE c1,fun h4 _=>by omega⟩
  ·have gY:opY a.op tb ex exY σA h=some (v,h2):=by rw [fk] at g2;exact g2
   have hk:wMx a.op=true:=by
    rcases Z.kd a ha with hh | ⟨_,hh | hh | hh | hh | hh⟩
    ·rw [fk] at hh;exact absurd hh (by decide)
    ·omega
    ·omega
    ·omega
    ·exact hh.2
    ·omega
   obtain ⟨B,vf,e1,e2,_,_,e5⟩:=wLe (C:=CC P) hk A.op _ _ _ _ gY
   obtain ⟨ob',val,c1,c2,c3⟩:=e5 μ σ' hE o' rfl
   obtain ⟨k1,k2⟩:=Runs.det ((Runs.agr hsel hagr).2 (c1 w1)) f2
   have k2:=wOb k2
   subst k2
   have es:s1=s:=(wDN (f5 ▸ Z.one) (f5.symm.trans e)).1
   subst es
   rw [hs] at f6
   cases f6
   have hn0:=S.nx h.nx (nO _)
   have hadd:=Mu.add_le (c:=(⟨w1.heap.size,0,g0⟩:Cl)) hn0
   have hlt:w1.heap.size < w.heap.size:=wAc f3
   subst e1 e2
   have hv':Rv (μ.add h.nx ⟨w1.heap.size,0,g0⟩) (vf h.nx) (σ (pd.nat - 1)):=by
    rw [<- k1]
    exact c3 _ _ _ (Mu.add_same _ _ _)
   refine ⟨_,_,μ.add h.nx ⟨w1.heap.size,0,g0⟩,hrun,g3,hadd,?_,⟨E.mono.trans hadd,?_,E.keep⟩,S.adopt hlt ?_ (c2 _ w _ hadd f3),rfl,?_,fun _ _=>by rw [Mu.add_same];simp⟩
   ·intro q d hq
    unfold Mu.add at hq
    split at hq
    ·rename_i eq
     subst eq
     cases hq
     exact f7
    ·exact hle q d hq
   ·intro q c hq
    unfold Mu.add at hq
    split at hq
    ·cases hq
     exact .inr (.inr f4)
    ·exact E.new q c hq
   ·intro q d hq hd
    have:=f8 q d (hle q d hq) hd
    subst this
    rw [hn0] at hq
    cases hq
   ·rw [<- eput]
    exact wEd A (hE.mono hadd) hv'
 ·have hrun:=split1 (σB:=wGe a.dst σA u) (hB:=h) (by rw [g1])
  rcases Pd.fact with ⟨_,f2,_⟩ | ⟨f1,_⟩
  ·refine ⟨_,_,μ,hrun,g3,Mu.Le.refl μ,hle,E,S,rfl,?_,fun _ hw'=>by rw [hwσ,g1] at hw';cases hw'⟩
   rw [f2,<- eput]
   exact wEd A hE (wNp μ)
  ·rw [hwσ,g1] at f1;cases f1
structure JS (tb:Tr AF) (ex exY:Run) (P:Program) (l:List Oper) (os:List AO) (σ0:Tr AV) (h0:AH) (σf:Tr AV) (hf:AH) (μ0:Mu) (w0:World) (S:Nat->Bool) (σ:Env) (w:World) (s t:List AO) (σA:Tr AV) (h:AH) (σ':Env) (μ μS:Mu):Prop where
 e:os=s ++ t
 hs:wAr tb ex exY s σ0 h0=some (σA,h)
 hr:wAr tb ex exY t σA h=some (σf,hf)
 inS:∀ a ∈ s,S a.ix=true
 free:∀ a ∈ t,S a.ix=true->wCC a.kd=false
 E:Ext μ0 h0.fl.nat w0 μ w
 sim:Sim (CC P) P μ h w
 fl:h.fl=h0.fl
 env:EnvR μ σA σ'
 ag:∀ q:Pos,(∀ a ∈ t,S a.ix=true->a.dst ≠ some q)->σ (q.nat - 1)=σ' (q.nat - 1)
 le:μ.Le μS
 nm:∀ q c,μS q=some c->μ q=some c \/ ∃ a o s1 t1 σ1 h1,a ∈ t/\S a.ix=true/\l[a.ix]?=some o/\wanted l σ o=true/\a.kd=4/\os=s1 ++ a :: t1/\wAr tb ex exY s1 σ0 h0=some (σ1,h1)/\q=h1.nx
 pd:∀ a ∈ t,S a.ix=true->∃ o p,Pend tb ex exY P l os σ0 h0 σf w0 μ μS σ w a o p
theorem Pend.mono {μB:Mu} {w0:World} {p:Pos} (h:Pend tb ex exY P l os σ0 h0 σf w0 μ μS σ w a o p) (hm:μ.Le μB):Pend tb ex exY P l os σ0 h0 σf w0 μB μS σ w a o p:=by
 refine ⟨h.get,h.dst,?_⟩
 rcases h.fact with f | ⟨f,⟨f1,f2⟩ | f1 | f1⟩
 ·exact .inl f
 ·exact .inr ⟨f,.inl ⟨f1,f2.mono hm⟩⟩
 ·exact .inr ⟨f,.inr (.inl f1)⟩
 ·exact .inr ⟨f,.inr (.inr f1)⟩
theorem JS.catch1 (Z:ZOK P N l os) {μ0:Mu} {w0:World} {S:Nat->Bool} (J:JS tb ex exY P l os σ0 h0 σf hf μ0 w0 S σ w s (a :: t) σA h σ' μ μS) (ha:S a.ix=true) :
  ∃ σB hB σ'' μB,JS tb ex exY P l os σ0 h0 σf hf μ0 w0 S σ w (s ++ [a]) t σB hB σ'' μB μS:=by
 obtain ⟨o,p,Pd⟩:=J.pd a (by simp) ha
 have hag:∀ q ∈ wCN a,σ (q.nat - 1)=σ' (q.nat - 1):=fun q hq=>J.ag q fun b hb _=>Z.rd s a t J.e q hq b hb
 obtain ⟨σB,hB,μB,c1,c2,c3,c4,c5,c6,c7,c8,c9⟩:=wTZ Z J.e J.hs J.hr J.E J.sim J.env J.le Pd hag
 have hne:∀ b ∈ t,b.ix ≠ a.ix:=fun b hb e=>by
  have:=Z.one
  rw [J.e] at this
  exact (nW.1 (nb.1 this).2.1).1 b hb e.symm
 refine ⟨σB,hB,_,μB,by rw [J.e];simp,c1,c2,fun b hb=>?_,fun b hb=>J.free b (by simp [hb]),c5,c6,c7.trans J.fl,c8,fun q hq=>?_,c4,fun q c hq=>?_,fun b hb hS=>?_⟩
 ·rcases nI.1 hb with hb | hb
  ·exact J.inS b hb
  ·rw [nQ.1 hb];exact ha
 ·by_cases e:q=p
  ·subst e
   rw [wCu]
  ·rw [wDq _ _ (fun h=>e (Pos.nat_inj (by have:=q.nat_pos;have:=p.nat_pos;omega)))]
   refine J.ag q fun b hb hS=>?_
   rcases nJ.1 hb with rfl | hb
   ·rw [Pd.dst]
    intro h
    cases h
    exact e rfl
   ·exact hq b hb hS
 ·rcases J.nm q c hq with h1 | ⟨b,ob,s1,t1,σ1,h1,k1,k2,k3,k4,k5,k6,k7,k8⟩
  ·exact .inl (c3 _ _ h1)
  ·rcases nJ.1 k1 with rfl | k1
   ·left
    have hs1:s1=s:=(wDN (k6 ▸ Z.one) (k6.symm.trans J.e)).1
    subst hs1
    rw [J.hs] at k7
    cases k7
    subst k8
    rw [Pd.get] at k3
    cases k3
    have:=c9 k5 k4
    cases hm:μB h.nx with
    | none=>exact absurd hm this
    | some c' =>
     have:=c4 _ _ hm
     rw [hq] at this
     exact this.symm
   ·exact .inr ⟨b,ob,s1,t1,σ1,h1,k1,k2,k3,k4,k5,k6,k7,k8⟩
 ·obtain ⟨o',p',h'⟩:=J.pd b (by simp [hb]) hS
  exact ⟨o',p',h'.mono c3⟩
end
end Go.KX
namespace Go.KX
open Go.RowKit Go.KL
section
variable {tb:Tr AF} {ex exY:Run} {P:Program} {N:Nat} {l:List Oper} {os s t:List AO} {a:AO} {σ0 σA σf:Tr AV} {h0 h hf:AH} {μ μS:Mu} {σ σ':Env} {w:World} {o:Oper}
theorem wEL:∀ (l1 l2:List AO) (x:Tr AV) (y:AH) (x1:Tr AV) (y1:AH),wAr tb ex exY l1 x y=some (x1,y1)->wAr tb ex exY (l1 ++ l2) x y=wAr tb ex exY l2 x1 y1
 | [],l2,x,y,x1,y1,h=>by rw [wBD] at h;cases h;rfl
 | b :: l1,l2,x,y,x1,y1,h=>by
  rw [nH,wBG]
  rw [wBG] at h
  cases hb:wCz x b.grd with
  | true =>
   rw [hb] at h
   simp only at h ⊢
   cases hq:opK b.kd b.op tb ex exY x y with
   | none=>rw [hq] at h;cases h
   | some r=>rw [hq] at h;exact wEL l1 l2 _ _ _ _ h
  | false =>
   rw [hb] at h
   exact wEL l1 l2 _ _ _ _ h
theorem wRq (HE:FrX ex) (HY:FrX exY) (Z:ZOK P N l os) (e:os=s ++ t) (hs:wAr tb ex exY s σ0 h0=some (σA,h)) {b:AO} (hb:b ∈ t) {s1 t1:List AO} {σ1:Tr AV} {h1:AH} (e1:os=s1 ++ b :: t1) (hr:wAr tb ex exY s1 σ0 h0=some (σ1,h1)):h.nx.nat <= h1.nx.nat:=by
 obtain ⟨r,r',rfl⟩:=nX hb
 have es:s1=s ++ r:=(wDN (e1 ▸ Z.one) (e1.symm.trans (e.trans (nG _ _ _).symm))).1
 subst es
 rw [wEL s r _ _ _ _ hs] at hr
 exact (wIU HE HY _ _ _ _ _ hr).nx
theorem wGm (Z:ZOK P N l os) {S:Nat->Bool} (hdc:∀ k,k < l.length->S k=true->∀ j ∈ prI l k,S j=true) (ha:a ∈ os) (hS:S a.ix=false) {b:AO} (hb:b ∈ os) (hbS:S b.ix=true) (A:AOK P N l a o) {ob:Oper} (hob:l[b.ix]?=some ob) (v:Value):Agr l ob σ (put' σ o v):=by
 obtain ⟨ob',B⟩:=wDZ (Z.ao b hb)
 have eo:ob'=ob:=by have:=B.get;rw [hob] at this;exact (nL this).symm
 subst eo
 intro d hd
 obtain ⟨p,hp,rfl⟩:=wEy B (Z.sub b hb _ B.get) d hd
 symm
 refine wGt fun dd hdd e=>?_
 rcases A.dst with ⟨_,h2⟩ | ⟨q,d',h1,h2,h3,_⟩
 ·rw [h2] at hdd;cases hdd
 ·rw [h2] at hdd
  have hdd:=nL hdd
  have eq:q=p:=Pos.nat_inj (by have:=q.nat_pos;have:=p.nat_pos;have:q.nat - 1=p.nat - 1:=h3.symm.trans (hdd.trans e);omega)
  subst eq
  have:=Z.rdS b hb q hp a ha h1
  have hlt:b.ix < l.length:=(ni.1 hob).1
  have:=wEa hdc (hdc _ hlt hbS) this
  rw [hS] at this
  cases this
theorem JS.fixed (HC:wGb (CC P) P tb ex) (HY':wFV (CC P) P exY) (HE:FrX ex) (HY:FrX exY) (Z:ZOK P N l os) {μ0:Mu} {w0:World} {S:Nat->Bool} (J:JS tb ex exY P l os σ0 h0 σf hf μ0 w0 S σ w s (a :: t) σA h σ' μ μS) (hfix:wCC a.kd=true) (hS:S a.ix=false)
  (hdc:∀ k,k < l.length->S k=true->∀ j ∈ prI l k,S j=true) (A:AOK P N l a o) :
  Step1 P l o σ w fun v w'=>∃ σB hB σ'' μB μT,JS tb ex exY P l os σ0 h0 σf hf μ0 w0 (fun k=>k == a.ix || S k) (put' σ o v) w' (s ++ [a]) t σB hB σ'' μB μT:=by
 have ha:a ∈ os:=by rw [J.e];simp
 have hsel:=Z.sel a ha _ A.get
 have hag:∀ q ∈ wCN a,σ (q.nat - 1)=σ' (q.nat - 1):=fun q hq=>J.ag q fun b hb _=>Z.rd s a t J.e q hq b hb
 have hagr:Agr l o σ σ':=fun d hd=>by
  obtain ⟨q,h1,rfl⟩:=wEy A (Z.sub a ha _ A.get) d hd
  exact hag q h1
 have hw:=wIt A J.env
 have main:∀ (v:AV) (cv:Value) (hB:AH) (w':World) (μB:Mu),wAr tb ex exY (s ++ [a]) σ0 h0=some (wGe a.dst σA v,hB)->wAr tb ex exY t (wGe a.dst σA v) hB=some (σf,hf) ->
   Ext μ h.fl.nat w μB w'->Sim (CC P) P μB hB w'->EnvR μB (wGe a.dst σA v) (put' σ' o cv)->hB.fl=h.fl ->
   ∃ σB hB σ'' μB μT,JS tb ex exY P l os σ0 h0 σf hf μ0 w0 (fun k=>k == a.ix || S k) (put' σ o cv) w' (s ++ [a]) t σB hB σ'' μB μT:=by
  intro v cv hB w' μB r1 r2 E' S' hE' hfl
  have hne:∀ b ∈ t,b.ix ≠ a.ix:=fun b hb e=>by
   have:=Z.one
   rw [J.e] at this
   exact (nW.1 (nb.1 this).2.1).1 b hb e.symm
  have hSb:∀ b ∈ t,(b.ix == a.ix || S b.ix)=true->S b.ix=true:=fun b hb h=>by
   have:=hne b hb
   simpa [this] using h
  have hbo:∀ b ∈ t,b ∈ os:=fun b hb=>by rw [J.e];simp [hb]
  have eB:os=(s ++ [a]) ++ t:=by rw [J.e];simp
  have hnm:∀ b ∈ t,∀ s1 t1 σ1 h1,os=s1 ++ b :: t1->wAr tb ex exY s1 σ0 h0=some (σ1,h1)->μB h1.nx=none/\μ h1.nx=none:=fun b hb s1 t1 σ1 h1 e1 hr=>by
   have g1:=wRq HE HY Z eB r1 hb e1 hr
   have g2:=wRq HE HY Z J.e J.hs (b:=b) (by simp [hb]) e1 hr
   exact ⟨S'.nx _ g1,J.sim.nx _ g2⟩
  let μT:Mu:=fun q=>match μB q with | some c=>some c | none=>μS q
  have hT:μB.Le μT:=fun q c hq=>by show (match μB q with | some c=>some c | none=>μS q)=_;rw [hq]
  have hST:μS.Le μT:=fun q c hq=>by
   show (match μB q with | some c=>some c | none=>μS q)=_
   cases hB:μB q with
   | none=>exact hq
   | some c' =>
    rcases J.nm q c hq with h1 | ⟨b,ob,s1,t1,σ1,h1,k1,k2,k3,k4,k5,k6,k7,k8⟩
    ·rw [E'.mono _ _ h1] at hB
     exact hB.symm ▸ rfl
    ·rcases nJ.1 k1 with rfl | k1
     ·rw [hS] at k2;cases k2
     ·have:=(hnm b k1 s1 t1 σ1 h1 k6 k7).1
      rw [<- k8,hB] at this
      cases this
  refine ⟨_,hB,_,μB,μT,eB,r1,r2,fun b hb=>?_,fun b hb hh=>J.free b (by simp [hb]) (hSb b hb hh),?_,S',hfl.trans J.fl,hE',fun q hq=>?_,hT,fun q c hq=>?_,fun b hb hh=>?_⟩
  ·rcases nI.1 hb with hb | hb
   ·simp [J.inS b hb]
   ·rw [nQ.1 hb];simp
  ·have:=J.E
   refine this.trans ?_
   rw [<- J.fl]
   exact E'
  ·have old:σ (q.nat - 1)=σ' (q.nat - 1) \/ a.dst=some q:=by
    by_cases hq':a.dst=some q
    ·exact .inr hq'
    ·exact .inl (J.ag q fun b hb h=>by
      rcases nJ.1 hb with rfl | hb
      ·exact hq'
      ·exact hq b hb (by simp [h]))
   rcases A.dst with ⟨h1,h2⟩ | ⟨p,d,h1,h2,h3,_⟩
   ·unfold put'
    rw [h2]
    rcases old with old | old
    ·exact old
    ·rw [h1] at old;cases old
   ·unfold put'
    rw [h2]
    by_cases e:q.nat - 1=d
    ·simp only [e,wCu]
    ·simp only
     rw [wDq _ _ e,wDq _ _ e]
     rcases old with old | old
     ·exact old
     ·rw [h1] at old
      cases old
      exact absurd h3.symm e
  ·have hq:(match μB q with | some c=>some c | none=>μS q)=some c:=hq
   cases hB':μB q with
   | some c' =>
    rw [hB'] at hq
    exact .inl hq
   | none =>
    rw [hB'] at hq
    rcases J.nm q c hq with h1 | ⟨b,ob,s1,t1,σ1,h1,k1,k2,k3,k4,k5,k6,k7,k8⟩
    ·rw [E'.mono _ _ h1] at hB'
     cases hB'
    ·rcases nJ.1 k1 with rfl | k1
     ·rw [hS] at k2;cases k2
     ·exact .inr ⟨b,ob,s1,t1,σ1,h1,k1,by simp [k2],k3,(wCL (wGm Z hdc ha hS (hbo b k1) k2 A k3 cv)).symm.trans k4,k5,k6,k7,k8⟩
  ·have hbS:=hSb b hb hh
   obtain ⟨ob,p,Pd⟩:=J.pd b (by simp [hb]) hbS
   have hA:=wGm (σ:=σ) Z hdc ha hS (hbo b hb) hbS A Pd.get cv
   have hp:put' σ o cv (p.nat - 1)=σ (p.nat - 1):=wGt fun d hd e=>by
    rcases A.dst with ⟨_,h2⟩ | ⟨q,d',h1,h2,h3,_⟩
    ·rw [h2] at hd;cases hd
    ·rw [h2] at hd
     have hd:=nL hd
     have eq:q=p:=Pos.nat_inj (by have:=q.nat_pos;have:=p.nat_pos;have:q.nat - 1=p.nat - 1:=h3.symm.trans (hd.trans e);omega)
     subst eq
     exact Z.wr s a t J.e q h1 b (ng _ hb) Pd.dst
   have hsb:=Z.sel b (hbo b hb) _ Pd.get
   refine ⟨ob,p,Pd.get,Pd.dst,?_⟩
   rw [hp,<- wCL hA]
   rcases Pd.fact with f | ⟨f,⟨f1,f2⟩ | ⟨f1,f2,w1,w2,f3⟩ | ⟨f1,f2,w1,o1,s1,t1,σ1,h1,f3,f4,f5,f6,f7,f8,f9⟩⟩
   ·exact .inl f
   ·exact .inr ⟨f,.inl ⟨f1,f2.mono E'.mono⟩⟩
   ·exact .inr ⟨f,.inr (.inl ⟨f1,f2.mono hST,w1,w2,(Runs.agr hsb hA).1 f3⟩)⟩
   ·obtain ⟨n1,n2⟩:=hnm b hb s1 t1 σ1 h1 f6 f7
    have nimg:¬ img μ h.fl.nat w1.heap.size:=by
     rintro ⟨q,d,g1,g2,_⟩
     have:=f9 q d (J.le _ _ g1) g2
     rw [this,n2] at g1
     cases g1
    refine .inr ⟨f,.inr (.inr ⟨f1,f2.mono hST,w1,o1,s1,t1,σ1,h1,(Runs.agr hsb hA).1 f3,(E'.keep.block _ (wAc f4) nimg).trans f4,f5,f6,f7,hST _ _ f8,fun q c hq hc=>?_⟩)⟩
    have hq:(match μB q with | some c=>some c | none=>μS q)=some c:=hq
    cases hB':μB q with
    | none=>rw [hB'] at hq;exact f9 q c hq hc
    | some c' =>
     rw [hB'] at hq
     cases hq
     rcases E'.new q c hB' with g | g | g
     ·exact f9 q c (J.le _ _ g) hc
     ·rw [hc] at g;exact absurd g nimg
     ·have:=wAc f4;omega
 obtain ⟨σx,hx,q1,q2⟩:=wLf (s:=[]) (a:=a) (t:=t) (σ0:=σA) (h0:=h) (by rw [nV];exact J.hr)
 rw [wBD] at q1
 cases q1
 refine Step1.agr hsel (fun d hd=>(hagr d hd).symm) ?_
 rcases q2 with ⟨g1,v,h2,g2,g3⟩ | ⟨g1,g3⟩
 ·refine (wTS HC HY' A (hw.trans g1) g2 J.env J.sim).mono ?_
  rintro cv w' ⟨_,μB,e1,e2,e3,e4⟩
  refine main v cv h2 w' μB ?_ g3 e1 e2 e3 e4
  rw [wEL s [a] _ _ _ _ J.hs,wBG,g1]
  simp only
  rw [g2]
  exact wBD _ _ _ _ _
 ·refine .inr ⟨hw.trans g1,?_⟩
  refine main u undef h w μ ?_ g3 (Ext.refl μ _ w) J.sim (wEd A J.env (wNp μ)) rfl
  rw [wEL s [a] _ _ _ _ J.hs,wBG,g1]
  exact wBD _ _ _ _ _
theorem JS.opnd (Z:ZOK P N l os) {μ0:Mu} {w0:World} {S:Nat->Bool} (J:JS tb ex exY P l os σ0 h0 σf hf μ0 w0 S σ w s t σA h σ' μ μS) (ha:a ∈ os) (hl:a.ix < l.length) (hp:∀ j ∈ prI l a.ix,S j=true)
  (hdc:∀ k,k < l.length->S k=true->∀ j ∈ prI l k,S j=true) {p:Pos} (hr:p ∈ wCN a):Rv μS (evA σf (.t p)) (σ (p.nat - 1))/\(a.kd=1 \/ a.kd=3 \/ 8 <= a.kd->Rv μ (evA σf (.t p)) (σ (p.nat - 1))):=by
 have base:(∀ b ∈ t,b.dst ≠ some p)->Rv μ (evA σf (.t p)) (σ (p.nat - 1)):=fun hn=>by
  rw [wDM t _ _ _ _ J.hr p hn,J.ag p fun b hb _=>hn b hb]
  exact J.env p
 by_cases hw:∃ b ∈ t,b.dst=some p
 ·obtain ⟨b,hb,hd⟩:=hw
  have hbo:b ∈ os:=by rw [J.e];simp [hb]
  have hanc:=Z.rdS a ha p hr b hbo hd
  have hS:=wEa hdc hp hanc
  obtain ⟨ob,p',Pd⟩:=J.pd b hb hS
  have ep:p'=p:=by have:=Pd.dst;rw [hd] at this;exact (nL this).symm
  subst ep
  rcases Pd.fact with ⟨_,f1,f2⟩ | ⟨_,⟨_,f1⟩ | ⟨f0,f1,_⟩ | ⟨f0,f1,_⟩⟩
  ·rw [f1,f2]
   exact ⟨wNp _,fun _=>wNp _⟩
  ·exact ⟨f1.mono J.le,fun _=>f1⟩
  ·exact ⟨f1,fun hk=>absurd f0 (Z.cl a ha hk p' hr b hbo hd).2⟩
  ·exact ⟨f1,fun hk=>absurd f0 (Z.cl a ha hk p' hr b hbo hd).1⟩
 ·have:=base fun b hb hd=>hw ⟨b,hb,hd⟩
  exact ⟨this.mono J.le,fun _=>this⟩
end
end Go.KX
namespace Go.KX
open Go.RowKit Go.KL
section
variable {tb:Tr AF} {ex exY:Run} {P:Program} {N:Nat} {l:List Oper} {os s t:List AO} {a:AO} {σ0 σA σf:Tr AV} {h0 h h1 h' hf:AH} {μ μS:Mu} {σ σ':Env} {w:World} {o:Oper} {v:AV}
theorem wPe {a:AOp} {op:Op} (hk:kdA a=1) (hc:wHQ P a op=true) (hE:EnvR μ σA σ) (hm:∀ b c,μ b=some c->h.m.get b=h1.m.get b) (hr:opY a tb ex exY σA h1=some (v,h')):opY a tb ex exY σA h=some (v,h):=by
 have cel:∀ b c,μ b=some c->wDs h b=wDs h1 b:=fun b c hb=>by unfold wDs;rw [hm b c hb]
 cases a <;> first | (simp [kdA] at hk;done) | skip
 case ld x =>
  have hr:wPH x σA h1=some (v,h'):=hr
  show wPH x σA h=some (v,h)
  have hc:wTH P x op=true:=hc
  unfold wTH at hc
  split at hc
  ·simp only [nA] at hc
   have g:=wAS hc.2 hE
   unfold wPH at hr ⊢
   split at hr
   ·rename_i b off hb
    rw [hb] at g
    obtain ⟨c,g1,_⟩:=g
    simp only [hb,cel b c g1]
    split at hr
    ·exact wOX hr h
    ·cases hr
   ·cases hr
  ·cases hc
 case ldA n x =>
  have hr:wHr n x σA h1=some (v,h'):=hr
  show wHr n x σA h=some (v,h)
  have hc:wOE P n x op=true:=hc
  unfold wOE at hc
  split at hc
  ·simp only [nA] at hc
   have g:=wAS hc.2 hE
   unfold wHr at hr ⊢
   split at hr
   ·rename_i b off hb
    rw [hb] at g
    obtain ⟨c,g1,_⟩:=g
    simp only [hb,cel b c g1]
    split at hr
    ·exact wOX hr h
    ·cases hr
   ·cases hr
  ·cases hc
 case lk two k ok z x y =>
  have hr:wPI two k ok z x y σA h1=some (v,h'):=hr
  show wPI two k ok z x y σA h=some (v,h)
  have hc:wTL P two k ok z x y op=true:=hc
  unfold wTL at hc
  split at hc
  ·simp only [nA] at hc
   have g:=wAS hc.2.2.1 hE
   unfold wPI at hr ⊢
   split at hr
   ·rename_i b hb
    rw [hb] at g
    obtain ⟨c,g1,_⟩:=g
    simp only [hb,hm b c g1]
    repeat' (split at hr)
    all_goals first | (cases hr;done) | (cases hr;rfl)
   ·cases hr
  ·cases hc
 case lenM x =>
  have hr:wFF x σA h1=some (v,h'):=hr
  show wFF x σA h=some (v,h)
  have hc:wJf P x op=true:=hc
  unfold wJf at hc
  split at hc
  ·split at hc
   ·simp only [nA] at hc
    obtain ⟨_,hc⟩:=hc
    split at hc
    ·simp only [nA] at hc
     have g:=wAS hc.2 hE
     unfold wFF at hr ⊢
     split at hr
     ·rename_i hb
      cases hr
      simp_all
     ·rename_i b hb
      rw [hb] at g
      obtain ⟨c,g1,_⟩:=g
      simp only [hb,hm b c g1]
      repeat' (split at hr)
      all_goals first | (cases hr;done) | (cases hr;rfl)
     ·cases hr
    ·cases hc
   ·cases hc
  ·cases hc
theorem wIx (HE:FrX ex) (HY:FrX exY):∀ (r:List AO) (σ1:Tr AV) (h1:AH) (σ2:Tr AV) (h2:AH),wAr tb ex exY r σ1 h1=some (σ2,h2)->(∀ b ∈ r,wHR P N l b=true) ->
  (∀ b ∈ r,b.kd=2 \/ (b.kd=1 \/ b.kd=3 \/ (b.kd=6/\kdA b.op=3) \/ (b.kd=4/\wMx b.op=true) \/ (8 <= b.kd/\kdA b.op=1)))->h1.nx.nat <= h2.nx.nat/\∀ p:Pos,p.nat < h1.nx.nat->h2.m.get p=h1.m.get p
 | [],σ1,h1,σ2,h2,hr,_,_=>by
  rw [wBD] at hr
  cases hr
  exact ⟨nO _,fun _ _=>rfl⟩
 | b :: r,σ1,h1,σ2,h2,hr,hc,hk=>by
  rw [wBG] at hr
  cases hw:wCz σ1 b.grd with
  | false =>
   rw [hw] at hr
   exact wIx HE HY r _ _ _ _ hr (fun c hcc=>hc c (by simp [hcc])) (fun c hcc=>hk c (by simp [hcc]))
  | true =>
   rw [hw] at hr
   simp only at hr
   cases hq:opK b.kd b.op tb ex exY σ1 h1 with
   | none=>rw [hq] at hr;cases hr
   | some q =>
    rw [hq] at hr
    obtain ⟨v,h3⟩:=q
    obtain ⟨g1,g2⟩:=wIx HE HY r _ _ _ _ hr (fun c hcc=>hc c (by simp [hcc])) (fun c hcc=>hk c (by simp [hcc]))
    obtain ⟨o,A⟩:=wDZ (hc b (by simp))
    have one:h1.nx.nat <= h3.nx.nat/\∀ p:Pos,p.nat < h1.nx.nat->h3.m.get p=h1.m.get p:=by
     have same:h3=h1->h1.nx.nat <= h3.nx.nat/\∀ p:Pos,p.nat < h1.nx.nat->h3.m.get p=h1.m.get p:=fun e=>by subst e;exact ⟨nO _,fun _ _=>rfl⟩
     rcases hk b (by simp) with k | k | k | ⟨k,k'⟩ | ⟨k,k'⟩ | ⟨k,k'⟩
     ·exact ⟨(wQg HE HY _ _ hq).nx,wTW HE HY b.op (by rw [k] at hq;exact hq)⟩
     ·rw [k] at hq
      exact same (wIR (C:=CC P) (A.k1 k) A.op _ _ _ _ hq).1
     ·rw [k] at hq
      exact same (wIQ (A.k3 k) A.op _ _ _ _ hq).1
     ·rw [k] at hq
      exact same (wIQ k' A.op _ _ _ _ hq).1
     ·rw [k] at hq
      obtain ⟨B,vf,e1,_⟩:=wLe (C:=CC P) k' A.op _ _ _ _ hq
      subst e1
      refine ⟨(Fr.push h1 B).nx,fun p hp=>?_⟩
      show (h1.m.set h1.nx B).get p=_
      rw [Tr.get_set,if_neg (fun e=>by subst e;omega)]
     ·exact same (wIR (C:=CC P) (.inl k') A.op _ _ _ _ (wOa (by omega) hq)).1
    exact ⟨kH one.1 g1,fun p hp=>(g2 p (kK hp one.1)).trans (one.2 p hp)⟩
theorem JS.full {μ0:Mu} {w0:World} {S:Nat->Bool} (J:JS tb ex exY P l os σ0 h0 σf hf μ0 w0 S σ w s t σA h σ' μ μS):wAr tb ex exY os σ0 h0=some (σf,hf):=by
 rw [J.e,wEL s t _ _ _ _ J.hs]
 exact J.hr
theorem JS.frm (Z:ZOK P N l os) {μ0:Mu} {w0:World} {S:Nat->Bool} (J:JS tb ex exY P l os σ0 h0 σf hf μ0 w0 S σ w s t σA h σ' μ μS) (ha:a ∈ os) (hl:a.ix < l.length) (hp:∀ j ∈ prI l a.ix,S j=true)
  (hdc:∀ k,k < l.length->S k=true->∀ j ∈ prI l k,S j=true) (A:AOK P N l a o) {s1 t1:List AO} {σ1:Tr AV} (e1:os=s1 ++ a :: t1) (hr1:wAr tb ex exY s1 σ0 h0=some (σ1,h1)) :
  wanted l σ o=wCz σ1 a.grd/\∀ p ∈ wCN a,evA σf (.t p)=evA σ1 (.t p):=by
 have hf:=J.full
 have hrd:∀ p ∈ wCN a,evA σf (.t p)=evA σ1 (.t p):=fun p hp=>by
  rw [e1,wEL s1 _ _ _ _ _ hr1] at hf
  exact wTY Z e1 hf hp
 refine ⟨?_,hrd⟩
 have hE:EnvR μS (rst σf (wCN a)) (rsl σ (wCN a)):=wHW fun p hpr=>(J.opnd Z ha hl hp hdc hpr).1
 have hw:=wIt A hE
 have hag:Agr l o (rsl σ (wCN a)) σ:=fun d hd=>by
  obtain ⟨p,h1,h2⟩:=wEy A (Z.sub a ha _ A.get) d hd
  unfold rsl
  rw [if_pos ⟨p,h1,h2⟩]
 rw [<- wCL hag,hw]
 cases hg:a.grd with
 | none=>rfl
 | some q =>
  obtain ⟨p,b⟩:=q
  show isB b (evA _ (.t p))=isB b (evA _ (.t p))
  have hpr:p ∈ wCN a:=ng _ (by rw [hg];simp)
  rw [wHV,if_pos hpr,hrd p hpr]
theorem wTa (HE:FrX ex) (HY:FrX exY) (Z:ZOK P N l os) {a b:AO} {s1 t1 s2 t2:List AO} {σ1 σ2:Tr AV} {h1 h2:AH} (e1:os=s1 ++ a :: t1) (e2:os=s2 ++ b :: t2) (r1:wAr tb ex exY s1 σ0 h0=some (σ1,h1)) (r2:wAr tb ex exY s2 σ0 h0=some (σ2,h2))
  (w1:wCz σ1 a.grd=true) (ka:a.kd=4) (la:wMx a.op=true) (hin:a ∈ s2):h1.nx.nat < h2.nx.nat:=by
 obtain ⟨o,A⟩:=wDZ (Z.ao a (by rw [e1];simp))
 obtain ⟨r,r',rfl⟩:=nX hin
 have es:s1=r:=(wDN (e1 ▸ Z.one) (e1.symm.trans (e2.trans (by rw [nG,nH])))).1
 subst es
 rw [wEL s1 _ _ _ _ _ r1,wBG,w1] at r2
 simp only at r2
 cases hq:opK a.kd a.op tb ex exY σ1 h1 with
 | none=>rw [hq] at r2;cases r2
 | some q =>
  rw [hq] at r2
  obtain ⟨v,h3⟩:=q
  rw [ka] at hq
  obtain ⟨B,vf,q1,_⟩:=wLe (C:=CC P) la A.op _ _ _ _ hq
  subst q1
  have:=(wIU HE HY _ _ _ _ _ r2).nx
  have h3:(h1.push B).nx.nat=h1.nx.nat + 1:=Pos.nat_succ _
  simp only at this
  omega
theorem nm_ne (HE:FrX ex) (HY:FrX exY) (Z:ZOK P N l os) {a b:AO} {s1 t1 s2 t2:List AO} {σ1 σ2:Tr AV} {h1 h2:AH} (e1:os=s1 ++ a :: t1) (e2:os=s2 ++ b :: t2) (r1:wAr tb ex exY s1 σ0 h0=some (σ1,h1)) (r2:wAr tb ex exY s2 σ0 h0=some (σ2,h2))
  (w1:wCz σ1 a.grd=true) (w2:wCz σ2 b.grd=true) (ka:a.kd=4) (la:wMx a.op=true) (kb:b.kd=4) (lb:wMx b.op=true) (hne:a ≠ b):h1.nx ≠ h2.nx:=by
 have ha:a ∈ s2 ++ b :: t2:=by rw [<- e2,e1];simp
 rcases nI.1 ha with h | h
 ·intro e
  have:=wTa HE HY Z e1 e2 r1 r2 w1 ka la h
  rw [e] at this
  exact absurd this (kY _)
 ·rcases nJ.1 h with h | h
  ·exact absurd h hne
  ·obtain ⟨r,r',rfl⟩:=nX h
   have es:s1=s2 ++ b :: r:=(wDN (e1 ▸ Z.one) (e1.symm.trans (e2.trans (by rw [nG,nH])))).1
   intro e
   have:=wTa HE HY Z e2 e1 r2 r1 w2 kb lb (by rw [es];simp)
   rw [e] at this
   exact absurd this (kY _)
end
end Go.KX
namespace Go.KX
open Go.RowKit Go.KL
section
variable {tb:Tr AF} {ex exY:Run} {P:Program} {N:Nat} {l:List Oper} {os s t:List AO} {a:AO} {σ0 σA σf:Tr AV} {h0 h h1 h' hf:AH} {μ μS:Mu} {σ σ':Env} {w:World} {o:Oper} {v:AV}
theorem wOc (Z:ZOK P N l os) {a b:AO} (ha:a ∈ os) (hb:b ∈ os) (e:b.ix=a.ix):b=a:=by
 obtain ⟨s,t,hs⟩:=nX ha
 have one:=Z.one
 rw [hs] at hb one
 rcases nI.1 hb with h | h
 ·exact absurd e ((nb.1 one).2.2 b h a (by simp))
 ·rcases nJ.1 h with h | h
  ·exact h
  ·exact absurd e.symm ((nW.1 (nb.1 one).2.1).1 b h)
theorem wGn (A:AOK P N l a o) {q:Pos} (hn:a.dst ≠ some q) (cv:Value):put' σ o cv (q.nat - 1)=σ (q.nat - 1):=by
 refine wGt fun d hd e=>?_
 rcases A.dst with ⟨_,h2⟩ | ⟨p,d',h1,h2,h3,_⟩
 ·rw [h2] at hd;cases hd
 ·rw [h2] at hd
  have hd:=nL hd
  have:p=q:=Pos.nat_inj (by have:=q.nat_pos;have:=p.nat_pos;have:p.nat - 1=q.nat - 1:=h3.symm.trans (hd.trans e);omega)
  subst this
  exact hn h1
theorem JS.add (Z:ZOK P N l os) {μ0:Mu} {w0:World} {S:Nat->Bool} (J:JS tb ex exY P l os σ0 h0 σf hf μ0 w0 S σ w s t σA h σ' μ μS) (ha:a ∈ t) (hS:S a.ix=false) (hfree:wCC a.kd=false)
  (hdc:∀ k,k < l.length->S k=true->∀ j ∈ prI l k,S j=true) (A:AOK P N l a o) {cv:Value} {w':World} {μT:Mu} (K:Keep w w' Non) (hle:μS.Le μT)
  (hnew:∀ q c,μT q=some c->μS q=some c \/ (c.1=w.heap.size/\wanted l σ o=true/\a.kd=4/\∃ s1 t1 σ1 h1,os=s1 ++ a :: t1/\wAr tb ex exY s1 σ0 h0=some (σ1,h1)/\q=h1.nx))
  (hpa:∃ p,Pend tb ex exY P l os σ0 h0 σf w0 μ μT (put' σ o cv) w' a o p) :
  JS tb ex exY P l os σ0 h0 σf hf μ0 w0 (fun k=>k == a.ix || S k) (put' σ o cv) w' s t σA h σ' μ μT:=by
 have hao:a ∈ os:=by rw [J.e];simp [ha]
 have hbo:∀ b ∈ t,b ∈ os:=fun b hb=>by rw [J.e];simp [hb]
 obtain ⟨sa,ta,ea⟩:=nX hao
 have hself:Agr l o σ (put' σ o cv):=by
  intro d hd
  obtain ⟨p,hp,rfl⟩:=wEy A (Z.sub a hao _ A.get) d hd
  exact (wGn A (Z.rd sa a ta ea p hp a (by simp)) cv).symm
 refine ⟨J.e,J.hs,J.hr,fun b hb=>by simp [J.inS b hb],fun b hb hh=>?_,⟨J.E.mono,J.E.new,J.E.keep.step K fun _ _ hn=>hn.elim⟩,J.sim.keep K,J.fl,J.env,fun q hq=>?_,J.le.trans hle,fun q c hq=>?_,fun b hb hh=>?_⟩
 ·by_cases e:b.ix=a.ix
  ·rw [wOc Z hao (hbo b hb) e];exact hfree
  ·exact J.free b hb (by simpa [e] using hh)
 ·rw [wGn A (hq a ha (by simp))]
  exact J.ag q fun b hb hs=>hq b hb (by simp [hs])
 ·rcases hnew q c hq with h1 | ⟨_,h2,h3,s1,t1,σ1,h1,e1,e2,e3⟩
  ·rcases J.nm q c h1 with g | ⟨b,ob,s1,t1,σ1,h1,k1,k2,k3,k4,k5,k6,k7,k8⟩
   ·exact .inl g
   ·exact .inr ⟨b,ob,s1,t1,σ1,h1,k1,by simp [k2],k3,(wCL (wGm Z hdc hao hS (hbo b k1) k2 A k3 cv)).symm.trans k4,k5,k6,k7,k8⟩
  ·exact .inr ⟨a,o,s1,t1,σ1,h1,ha,by simp,A.get,(wCL hself).symm.trans h2,h3,e1,e2,e3⟩
 ·by_cases e:b.ix=a.ix
  ·have:=wOc Z hao (hbo b hb) e
   subst this
   exact ⟨o,hpa⟩
  ·have hbS:S b.ix=true:=by simpa [e] using hh
   obtain ⟨ob,p,Pd⟩:=J.pd b hb hbS
   have hA:=wGm (σ:=σ) Z hdc hao hS (hbo b hb) hbS A Pd.get cv
   have hp:put' σ o cv (p.nat - 1)=σ (p.nat - 1):=by
    refine wGn A (fun hd=>?_) cv
    have hb':=hbo b hb
    rw [ea] at hb'
    have hb'':b ∈ sa ++ ta:=by
     rcases nI.1 hb' with h | h
     ·exact nq _ h
     ·rcases nJ.1 h with h | h
      ·exact absurd (by rw [h]) e
      ·exact ng _ h
    exact Z.wr sa a ta ea p hd b hb'' Pd.dst
   have hsb:=Z.sel b (hbo b hb) _ Pd.get
   refine ⟨ob,p,Pd.get,Pd.dst,?_⟩
   rw [hp,<- wCL hA]
   rcases Pd.fact with f | ⟨f,⟨f1,f2⟩ | ⟨f1,f2,w1,w2,f3⟩ | ⟨f1,f2,w1,o1,s1,t1,σ1,h1,f3,f4,f5,f6,f7,f8,f9⟩⟩
   ·exact .inl f
   ·exact .inr ⟨f,.inl ⟨f1,f2⟩⟩
   ·exact .inr ⟨f,.inr (.inl ⟨f1,f2.mono hle,w1,w2,(Runs.agr hsb hA).1 f3⟩)⟩
   ·refine .inr ⟨f,.inr (.inr ⟨f1,f2.mono hle,w1,o1,s1,t1,σ1,h1,(Runs.agr hsb hA).1 f3,(K.block _ (wAc f4) id).trans f4,f5,f6,f7,hle _ _ f8,fun q c hq hc=>?_⟩)⟩
    rcases hnew q c hq with h1 | ⟨h1,_⟩
    ·exact f9 q c h1 hc
    ·have:=wAc f4
     omega
theorem wIV:∀ (r:List AO),(∀ b ∈ r,b.kd ≠ 0) \/ ∃ x b y,r=x ++ b :: y/\b.kd=0/\∀ c ∈ x,c.kd ≠ 0
 | []=>.inl fun b hb=>by simp at hb
 | a :: r=>by
  by_cases h0:a.kd=0
  ·exact .inr ⟨[],a,r,rfl,h0,fun c hc=>by simp at hc⟩
  ·rcases wIV r with h | ⟨x,b,y,h1,h2,h3⟩
   ·refine .inl fun b hb=>?_
    rcases nJ.1 hb with rfl | hb
    ·exact h0
    ·exact h b hb
   ·refine .inr ⟨a :: x,b,y,by rw [h1];rfl,h2,fun c hc=>?_⟩
    rcases nJ.1 hc with rfl | hc
    ·exact h0
    ·exact h3 c hc
theorem JS.freeOp {σg:Tr AV} (HE:FrX ex) (HY:FrX exY) (Z:ZOK P N l os) (HL:LCK tb ex exY os σ0 h0 σg) (Hg:∀ a ∈ os,8 <= a.kd->∀ p,p ∈ wCN a \/ a.dst=some p->evA σf (.t p)=evA σg (.t p)) {μ0:Mu} {w0:World} {S:Nat->Bool} (J:JS tb ex exY P l os σ0 h0 σf hf μ0 w0 S σ w s t σA h σ' μ μS) (ha:a ∈ t) (hS:S a.ix=false) (hfree:wCC a.kd=false)
  (hp:∀ j ∈ prI l a.ix,S j=true) (hdc:∀ k,k < l.length->S k=true->∀ j ∈ prI l k,S j=true) (A:AOK P N l a o) :
  Step1 P l o σ w fun cv w'=>∃ μT,JS tb ex exY P l os σ0 h0 σf hf μ0 w0 (fun k=>k == a.ix || S k) (put' σ o cv) w' s t σA h σ' μ μT:=by
 have hao:a ∈ os:=by rw [J.e];simp [ha]
 have hl:a.ix < l.length:=(ni.1 A.get).1
 obtain ⟨r,r',et⟩:=nX ha
 have e1:os=(s ++ r) ++ a :: r':=by rw [J.e,et,nG]
 have hsel:=Z.sel a hao _ A.get
 have hsub:=Z.sub a hao _ A.get
 have hfull:=J.full
 rw [e1] at hfull
 obtain ⟨σ1,h1,r1,r2⟩:=wLf hfull
 obtain ⟨hw,hrd⟩:=J.frm Z hao hl hp hdc A e1 r1
 have hrr:wAr tb ex exY r σA h=some (σ1,h1):=by rw [<- wEL s r _ _ _ _ J.hs];exact r1
 have hself:∀ cv,Agr l o σ (put' σ o cv):=by
  intro cv d hd
  obtain ⟨p,hp,rfl⟩:=wEy A hsub d hd
  exact (wGn A (Z.rd _ a _ e1 p hp a (by simp)) cv).symm
 obtain ⟨hdn,hkd⟩:a.dst ≠ none/\(a.kd=1 \/ a.kd=3 \/ (a.kd=6/\kdA a.op=3) \/ (a.kd=4/\wMx a.op=true) \/ (8 <= a.kd/\kdA a.op=1)):=by
  rcases Z.kd a hao with h | h
  ·rw [hfree] at h;cases h
  ·exact h
 obtain ⟨p,d,d1,d2,d3,_⟩:∃ p d,a.dst=some p/\o.dst=some d/\d=p.nat - 1/\d < N:=by
  rcases A.dst with ⟨h1,_⟩ | h
  ·exact absurd h1 hdn
  ·exact h
 have eput:∀ cv,put' σ o cv (p.nat - 1)=cv:=fun cv=>by unfold put';rw [d2,d3];exact wCu _ _ _
 have hslot:∀ q ∈ wCs (wBb a.op),q ∈ wCN a:=fun q hq=>nq _ hq
 rcases r2 with ⟨g1,v,h2,g2,g3⟩ | ⟨g1,g3⟩
 ·have hv:evA σf (.t p)=v:=wKq Z e1 g3 d1
  have hw':wanted l σ o=true:=hw.trans g1
  have hwn:∀ cv,wanted l (put' σ o cv) o=true:=fun cv=>(wCL (hself cv)).symm.trans hw'
  have hvS:∀ q ∈ wCs (wBb a.op),Rv μS (evA σ1 (.t q)) (σ (q.nat - 1)):=fun q hq=>by
   rw [<- hrd q (hslot q hq)]
   exact (J.opnd Z hao hl hp hdc (hslot q hq)).1
  have clean:(a.kd=1 \/ a.kd=3 \/ 8 <= a.kd)->(∃ cv,Rv μ v cv/\Runs P σ w o cv w)->Step1 P l o σ w fun cv w'=>∃ μT,JS tb ex exY P l os σ0 h0 σf hf μ0 w0 (fun k=>k == a.ix || S k) (put' σ o cv) w' s t σA h σ' μ μT:=by
   rintro hk ⟨cv,c1,c2⟩
   refine .inl ⟨hw',.inr (.inl ⟨cv,w,c2,μS,J.add Z ha hS hfree hdc A (Keep.refl w _) (Mu.Le.refl _) (fun q c hq=>.inl hq) ⟨p,A.get,d1,.inr ⟨hwn cv,.inl ⟨hk,?_⟩⟩⟩⟩)⟩
   rw [hv,eput]
   exact c1
  have hvC:(a.kd=1 \/ a.kd=3 \/ 8 <= a.kd)->∀ q ∈ wCs (wBb a.op),Rv μ (evA σ1 (.t q)) (σ (q.nat - 1)):=fun hk q hq=>by
   rw [<- hrd q (hslot q hq)]
   exact (J.opnd Z hao hl hp hdc (hslot q hq)).2 hk
  have loadC:(a.kd=1 \/ a.kd=3 \/ 8 <= a.kd)->kdA a.op=1->∀ (x:List AO),(∀ b ∈ x,b ∈ t)->∀ {σ2:Tr AV} {h3 h4:AH} {σ3:Tr AV},wAr tb ex exY x σA h=some (σ2,h3)->opY a.op tb ex exY σ3 h3=some (v,h4)->(∀ b ∈ x,b.kd=0->False)->(∀ q ∈ wCN a,evA σf (.t q)=evA σ3 (.t q))->∃ cv,Rv μ v cv/\Runs P σ w o cv w:=by
   intro hk k x hx σ2 h3 h4 σ3 hrx gY hx0 hrd3
   have hv3:∀ q ∈ wCs (wBb a.op),Rv μ (evA σ3 (.t q)) (σ (q.nat - 1)):=fun q hq=>by
    rw [<- hrd3 q (hslot q hq)]
    exact (J.opnd Z hao hl hp hdc (hslot q hq)).2 hk
   have hrs:=wLd gY
   have henv:=wHW hv3
   obtain ⟨_,hold⟩:=wIx HE HY x _ _ _ _ hrx (fun b hb=>Z.ao b (by rw [J.e];simp [hx b hb])) (fun b hb=>by
    rcases Z.kd b (by rw [J.e];simp [hx b hb]) with h | h
    ·unfold wCC at h
     simp only [nf] at h
     rcases h with h | h
     ·exact absurd (nB h) (hx0 b hb)
     ·exact .inl (nB h)
    ·exact .inr h.2)
   have hm:∀ b c,μ b=some c->h.m.get b=h3.m.get b:=fun b c hb=>by
    refine (hold b ?_).symm
    rcases ke b.nat h.nx.nat with hlt | hge
    ·exact hlt
    ·rw [J.sim.nx b hge] at hb;cases hb
   have hld:=wPe k A.op henv hm hrs
   obtain ⟨cv,c1,c2⟩:=wOZ (C:=CC P) hsel hsub (.inl k) A.op hld J.sim (fun q hq=>by rw [wHV,if_pos hq];exact hv3 q hq)
   exact ⟨cv,c1,c2⟩
  rcases hkd with hk | hk | ⟨hk,hk2⟩ | ⟨hk,hk2⟩ | ⟨hk,hk2⟩
  ·have gY:opY a.op tb ex exY σ1 h1=some (v,h2):=by rw [hk] at g2;exact g2
   refine clean (.inl hk) ?_
   rcases A.k1 hk with k | k
   ·exact loadC (.inl hk) k r (fun b hb=>by rw [et];simp [hb]) hrr gY (fun b hb h0=>by
     have:=wEa hdc hp (Z.ld _ a _ e1 hk b (by simp [hb]) h0)
     have:=J.free b (by rw [et];simp [hb]) this
     rw [h0] at this
     cases this) hrd
   ·obtain ⟨cv,c1,c2⟩:=wHX hsel hsub k A.op gY (hvC (.inl hk))
    exact ⟨cv,c1,c2 w⟩
  ·have gY:opY a.op tb ex exY σ1 h1=some (v,h2):=by rw [hk] at g2;exact g2
   obtain ⟨cv,c1,c2⟩:=wHX hsel hsub (A.k3 hk) A.op gY (hvC (.inr (.inl hk)))
   exact clean (.inr (.inl hk)) ⟨cv,c1,c2 w⟩
  ·have gY:opY a.op tb ex exY σ1 h1=some (v,h2):=by rw [hk] at g2;exact g2
   obtain ⟨cv,c1,c2⟩:=wHX hsel hsub hk2 A.op gY hvS
   refine .inl ⟨hw',.inr (.inl ⟨cv,w,c2 w,μS,J.add Z ha hS hfree hdc A (Keep.refl w _) (Mu.Le.refl _) (fun q c hq=>.inl hq) ⟨p,A.get,d1,.inr ⟨hwn cv,.inr (.inl ⟨hk,?_,w,w,?_⟩)⟩⟩⟩)⟩
   ·rw [hv,eput]
    exact c1
   ·rw [eput]
    exact (Runs.agr hsel (hself cv)).1 (c2 w)
  ·have gY:opY a.op tb ex exY σ1 h1=some (v,h2):=by rw [hk] at g2;exact g2
   obtain ⟨B,vf,ob,val,_,ev',_,c1,c2,c3⟩:=wMV (C:=CC P) hsel hsub hk2 A.op gY hvS
   have hno:μS h1.nx=none:=by
    cases hq:μS h1.nx with
    | none=>rfl
    | some c =>
     rcases J.nm _ c hq with g | ⟨b,ob',s2,t2,σ2,h3,k1,k2,k3,k4,k5,k6,k7,k8⟩
     ·have:=wRq HE HY Z J.e J.hs ha e1 r1
      rw [J.sim.nx _ this] at g
      cases g
     ·have hbo:b ∈ os:=by rw [J.e];simp [k1]
      have hne:a ≠ b:=fun e=>by subst e;rw [hS] at k2;cases k2
      obtain ⟨ob2,B2⟩:=wDZ (Z.ao b hbo)
      have hb2:wMx b.op=true:=by
       rcases Z.kd b hbo with hh | ⟨_,hh | hh | hh | hh | hh⟩
       ·rw [k5] at hh;exact absurd hh (by decide)
       ·omega
       ·omega
       ·omega
       ·exact hh.2
       ·omega
      have hwb:wCz σ2 b.grd=true:=by
       have hlb:b.ix < l.length:=(ni.1 k3).1
       have eo:ob2=ob':=by have:=B2.get;rw [k3] at this;exact (nL this).symm
       subst eo
       have:=(J.frm Z hbo hlb (hdc _ hlb k2) hdc B2 k6 k7).1
       rw [<- this]
       exact k4
      exact absurd k8 (nm_ne HE HY Z e1 k6 r1 k7 g1 hwb hk hk2 k5 hb2 hne)
   have hadd:=Mu.add_le (c:=(⟨w.heap.size,0,g0⟩:Cl)) hno
   have hsz:∀ q c,μS q=some c->c.1 < w.heap.size:=fun q c hq=>by
    rcases J.nm q c hq with g | ⟨b,ob',s2,t2,σ2,h3,k1,k2,k3,k4,k5,k6,k7,k8⟩
    ·exact J.sim.lt q c g
    ·obtain ⟨ob2,p2,Pd⟩:=J.pd b k1 k2
     have eo:ob2=ob':=by have:=Pd.get;rw [k3] at this;exact (nL this).symm
     subst eo
     rcases Pd.fact with ⟨f,_⟩ | ⟨_,⟨f,_⟩ | ⟨f,_⟩ | ⟨_,_,w1,o1,s3,t3,σ3,h4,_,f4,_,f6,f7,f8,_⟩⟩
     ·rw [k4] at f;cases f
     ·omega
     ·omega
     ·have es:s3=s2:=(wDN (f6 ▸ Z.one) (f6.symm.trans k6)).1
      subst es
      rw [k7] at f7
      cases f7
      subst k8
      rw [hq] at f8
      cases f8
      exact wAc f4
   refine .inl ⟨hw',.inr (.inl ⟨val w.heap.size,w.alloc ob,c1 w,μS.add h1.nx ⟨w.heap.size,0,g0⟩,J.add Z ha hS hfree hdc A (wBI w ob) hadd (fun q c hq=>?_) ⟨p,A.get,d1,.inr ⟨hwn _,.inr (.inr ⟨hk,?_,w,ob,s ++ r,r',σ1,h1,?_,heap_alloc_new w ob,J.E.keep.size,e1,r1,Mu.add_same _ _ _,fun q c hq hc=>?_⟩)⟩⟩⟩)⟩
   ·unfold Mu.add at hq
    split at hq
    ·rename_i eq
     cases hq
     exact .inr ⟨rfl,hw',hk,s ++ r,r',σ1,h1,e1,r1,eq⟩
    ·exact .inl hq
   ·rw [hv,eput,ev']
    exact c3 _ _ _ (Mu.add_same _ _ _)
   ·rw [eput]
    exact (Runs.agr hsel (hself _)).1 (c1 w)
   ·unfold Mu.add at hq
    split at hq
    ·rename_i eq
     exact eq
    ·have:=hsz q c hq
     omega
  ·have gY:opY a.op tb ex exY σ1 h1=some (v,h2):=wOa (by omega) g2
   refine clean (.inr (.inr hk)) ?_
   rcases wIV r with hz | ⟨x,b,y,er,hb0,hx0⟩
   ·exact loadC (.inr (.inr hk)) hk2 r (fun b hb=>by rw [et];simp [hb]) hrr gY (fun b hb h0=>hz b hb h0) hrd
   ·have e2:os=(s ++ x) ++ b :: (y ++ a :: r'):=by rw [J.e,et,er];simp
    have hfull2:=J.full
    rw [e2] at hfull2
    obtain ⟨σ2,h3,r3,_⟩:=wLf hfull2
    have hbt:b ∈ t:=by rw [et,er];simp
    have hanc:wPL y + 8 < a.kd:=by
     rcases Z.ld8 _ a _ e1 hk (s ++ x) b y (by rw [er];simp) hb0 with g | g
     ·have:=J.free b hbt (wEa hdc hp g)
      rw [hb0] at this
      cases this
     ·exact g
    have hlk:=HL _ b _ e2 hb0 _ _ r3
    have hsame:=wKm y a r' 0 hlk hfree (by omega)
    have hgf:wCz σg a.grd=true:=by
     rw [<- g1]
     cases hg:a.grd with
     | none=>rfl
     | some q =>
      obtain ⟨q,c⟩:=q
      show isB c (evA _ (.t q))=isB c (evA _ (.t q))
      have hqr:q ∈ wCN a:=ng _ (by rw [hg];simp)
      rw [<- Hg a hao hk q (.inl hqr),hrd q hqr]
    unfold wIN at hsame
    rw [d1] at hsame
    simp only [hgf] at hsame
    split at hsame
    ·rename_i v' h5 hq
     have hvv:=wOW hsame
     rw [<- Hg a hao hk p (.inr d1),hv] at hvv
     subst hvv
     have hrx:wAr tb ex exY x σA h=some (σ2,h3):=by rw [<- wEL s x _ _ _ _ J.hs];exact r3
     exact loadC (.inr (.inr hk)) hk2 x (fun b hb=>by rw [et,er];simp [hb]) hrx hq (fun b hb h0=>hx0 b hb h0) (fun q hq=>Hg a hao hk q (.inl hq))
    ·cases hsame
 ·refine .inr ⟨hw.trans g1,μS,J.add Z ha hS hfree hdc A (Keep.refl w _) (Mu.Le.refl _) (fun q c hq=>.inl hq) ⟨p,A.get,d1,.inl ⟨(wCL (hself _)).symm.trans (hw.trans g1),eput _,?_⟩⟩⟩
  exact wKq Z e1 (v:=u) g3 d1
theorem JS.catch (Z:ZOK P N l os) {μ0:Mu} {w0:World} {S:Nat->Bool}:∀ (r:List AO) {s t:List AO} {σA:Tr AV} {h:AH} {σ':Env} {μ:Mu},JS tb ex exY P l os σ0 h0 σf hf μ0 w0 S σ w s (r ++ t) σA h σ' μ μS->(∀ a ∈ r,S a.ix=true) ->
  ∃ σB hB σ'' μB,JS tb ex exY P l os σ0 h0 σf hf μ0 w0 S σ w (s ++ r) t σB hB σ'' μB μS
 | [],s,t,σA,h,σ',μ,J,_=>⟨σA,h,σ',μ,by rw [nj];exact J⟩
 | a :: r,s,t,σA,h,σ',μ,J,hS=>by
  obtain ⟨σB,hB,σ'',μB,J1⟩:=JS.catch1 (t:=r ++ t) Z J (hS a (by simp))
  obtain ⟨σC,hC,σ3,μC,J2⟩:=JS.catch Z r J1 fun b hb=>hS b (by simp [hb])
  exact ⟨σC,hC,σ3,μC,by rw [show s ++ a :: r=s ++ [a] ++ r by simp];exact J2⟩
theorem JS.anew {A B:List AO} {σm:Tr AV} {h2:AH} {μ0:Mu} {w0:World} {S:Nat->Bool} (J:JS tb ex exY P l A σ0 h0 σm h2 μ0 w0 S σ w s [] σA h σ' μ μS) (hr:wAr tb ex exY B σm h2=some (σf,hf)) (hB:∀ b ∈ B,S b.ix=false) :
  Ext μ0 h0.fl.nat w0 μ w/\h2.fl=h0.fl/\JS tb ex exY P l B σm h2 σf hf μ w S σ w [] B σm h2 σ' μ μ:=by
 have hr1:=J.hr
 rw [wBD] at hr1
 cases hr1
 exact ⟨J.E,J.fl,rfl,wBD _ _ _ _ _,hr,fun b hb=>(by simp at hb),fun b hb hS=>(by rw [hB b hb] at hS;cases hS),Ext.refl μ _ w,J.sim,rfl,J.env,fun q _=>J.ag q fun b hb=>(by simp at hb),Mu.Le.refl _,fun q c hq=>.inl hq,fun b hb hS=>(by rw [hB b hb] at hS;cases hS)⟩
theorem CK.lazy {rr:Option Nat} {Q:wDi} {D:List Deferred} {id:Nat} (hm:P.follows .mixedOrders=true) (HC:wGb (CC P) P tb ex) (HY':wFV (CC P) P exY) (HE:FrX ex) (HY:FrX exY) (ZZ:∃ A B,ZAll P N l os A B) (HL0:LCK tb ex exY os σ0 h0 σf)
  (hr:wAr tb ex exY os σ0 h0=some (σf,hf)) (S:Sim (CC P) P μ h0 w) (hE:EnvR μ σ0 σ)
  (hQ:∀ μ' w' σ',Ext μ h0.fl.nat w μ' w'->Sim (CC P) P μ' hf w'->EnvR μ' σf σ'->hf.fl=h0.fl->Q D .normal σ' w'):CK rr N P (.region id l.toArray true) Q D σ w:=by
 obtain ⟨A,B,ZZ⟩:=ZZ
 obtain ⟨σm,h2,hrA,hrB⟩:=wEG A B σ0 h0 _ (ZZ.eq ▸ hr)
 have HL:LCK tb ex exY A σ0 h0 σf/\LCK tb ex exY B σm h2 σf:=by
  refine ⟨fun s b t e k0 σ1 h1 hs=>?_,wLa ZZ.low⟩
  have:=HL0 s b (t ++ B) (by rw [ZZ.eq,e];simp) k0 σ1 h1 hs
  exact wIu t B 0 this
 have Hg:∀ a ∈ A,8 <= a.kd->∀ p,p ∈ wCN a \/ a.dst=some p->evA σm (.t p)=evA σf (.t p):=fun a ha h8 p hp=>(wDM B _ _ _ _ hrB p fun b hb=>ZZ.far a ha h8 p hp b hb).symm
 have lt:∀ b ∈ os,b.ix < l.length:=fun b hb=>by
  rw [ZZ.eq] at hb
  rcases nI.1 hb with hb | hb
  ·obtain ⟨o,A⟩:=wDZ (ZZ.za.ao b hb)
   exact (ni.1 A.get).1
  ·obtain ⟨o,A⟩:=wDZ (ZZ.zb.ao b hb)
   exact (ni.1 A.get).1
 have stepB:∀ (S1:Nat->Bool) (a:AO) (σ1:Env) (w1:World) (μm:Mu) (wm:World) (s t:List AO) (σA:Tr AV) (h:AH) (σ':Env) (μ1 μS:Mu) (o:Oper),a ∈ B->S1 a.ix=false->(∀ j ∈ prI l a.ix,S1 j=true)->(∀ k,k < l.length->S1 k=true->∀ j ∈ prI l k,S1 j=true)->AOK P N l a o ->
   JS tb ex exY P l B σm h2 σf hf μm wm S1 σ1 w1 s t σA h σ' μ1 μS->Step1 P l o σ1 w1 fun v w'=>∃ s t σA h σ' μ1 μS,JS tb ex exY P l B σm h2 σf hf μm wm (fun k=>k == a.ix || S1 k) (put' σ1 o v) w' s t σA h σ' μ1 μS:=by
  intro S1 a σ1 w1 μm wm s t σA h σ' μ1 μS o ha hSi hpi hdc A J
  have hat:a ∈ t:=by
   have:=ha
   rw [J.e] at this
   rcases nI.1 this with h | h
   ·rw [J.inS a h] at hSi;cases hSi
   ·exact h
  cases hf:wCC a.kd with
  | true =>
   obtain ⟨r,r',et⟩:=nX hat
   rw [et] at J
   obtain ⟨σB,hB,σ'',μB,J1⟩:=JS.catch ZZ.zb r J fun b hb=>wEa hdc hpi (ZZ.zb.anc (s ++ r) a r' (by rw [J.e,nG]) hf b (by simp [hb]))
   refine (J1.fixed HC HY' HE HY ZZ.zb hf hSi hdc A).mono ?_
   rintro v w' ⟨σC,hC,σ3,μC,μT,J2⟩
   exact ⟨_,_,_,_,_,_,_,J2⟩
  | false =>
   refine (J.freeOp HE HY ZZ.zb HL.2 (fun _ _ _ _ _=>rfl) hat hSi hf hpi hdc A).mono ?_
   rintro v w' ⟨μT,J2⟩
   exact ⟨_,_,_,_,_,_,_,J2⟩
 have toB:∀ (S1:Nat->Bool) (σ1:Env) (w1:World) (s t:List AO) (σA:Tr AV) (h:AH) (σ':Env) (μ1 μS:Mu),(∀ a ∈ A,S1 a.ix=true)->(∀ b ∈ B,S1 b.ix=false)->JS tb ex exY P l A σ0 h0 σm h2 μ w S1 σ1 w1 s t σA h σ' μ1 μS ->
   ∃ μm σ',Ext μ h0.fl.nat w μm w1/\h2.fl=h0.fl/\JS tb ex exY P l B σm h2 σf hf μm w1 S1 σ1 w1 [] B σm h2 σ' μm μm:=by
  intro S1 σ1 w1 s t σA h σ' μ1 μS hA hB J
  have J0:JS tb ex exY P l A σ0 h0 σm h2 μ w S1 σ1 w1 s (t ++ []) σA h σ' μ1 μS:=by rw [nj];exact J
  obtain ⟨σB,hB',σ'',μB,J1⟩:=JS.catch ZZ.za t J0 fun b hb=>hA b (by rw [J.e];simp [hb])
  obtain ⟨g1,g2,g3⟩:=J1.anew hrB hB
  exact ⟨μB,σ'',g1,g2,g3⟩
 refine CK.anyRel hm ZZ.za.pr (fun S σ w1=>((∀ b ∈ B,S b.ix=false)/\∃ s t σA h σ' μ1 μS,JS tb ex exY P l A σ0 h0 σm h2 μ w S σ w1 s t σA h σ' μ1 μS) \/
  ((∀ a ∈ A,S a.ix=true)/\∃ μm wm,Ext μ h0.fl.nat w μm wm/\h2.fl=h0.fl/\∃ s t σA h σ' μ1 μS,JS tb ex exY P l B σm h2 σf hf μm wm S σ w1 s t σA h σ' μ1 μS)) ?_ ?_ ?_
 ·exact .inl ⟨fun b _=>rfl,[],A,σ0,h0,σ,μ,μ,rfl,wBD _ _ _ _ _,hrA,fun b hb=>(by simp at hb),fun b _ hb=>(by cases hb),Ext.drew μ _ w,S.keep (Keep.drew w),rfl,hE,fun _ _=>rfl,Mu.Le.refl _,fun q c hq=>.inl hq,fun b _ hb=>(by cases hb)⟩
 ·rintro S1 i σ1 w1 hi hSi hpi hdc hlt hI
  obtain ⟨a,ha,rfl⟩:=ZZ.all i hi
  rw [ZZ.eq] at ha
  rcases nI.1 ha with ha | ha
  ·obtain ⟨o,AK⟩:=wDZ (ZZ.za.ao a ha)
   refine ⟨o,AK.get,wIS AK,?_⟩
   rcases hI with ⟨hB,s,t,σA,h,σ',μ1,μS,J⟩ | ⟨hA,_⟩
   ·have hB':∀ b ∈ B,(fun k=>k == a.ix || S1 k) b.ix=false:=fun b hb=>by
     have:=(ZZ.cross b hb a ha).1
     simp [hB b hb,Ne.symm this]
    have hat:a ∈ t:=by
     have:=ha
     rw [J.e] at this
     rcases nI.1 this with h | h
     ·rw [J.inS a h] at hSi;cases hSi
     ·exact h
    cases hf:wCC a.kd with
    | true =>
     obtain ⟨r,r',et⟩:=nX hat
     rw [et] at J
     obtain ⟨σB,hB2,σ'',μB,J1⟩:=JS.catch ZZ.za r J fun b hb=>wEa hdc hpi (ZZ.za.anc (s ++ r) a r' (by rw [J.e,nG]) hf b (by simp [hb]))
     refine (J1.fixed HC HY' HE HY ZZ.za hf hSi hdc AK).mono ?_
     rintro v w' ⟨σC,hC,σ3,μC,μT,J2⟩
     exact .inl ⟨hB',_,_,_,_,_,_,_,J2⟩
    | false =>
     refine (J.freeOp HE HY ZZ.za HL.1 Hg hat hSi hf hpi hdc AK).mono ?_
     rintro v w' ⟨μT,J2⟩
     exact .inl ⟨hB',_,_,_,_,_,_,_,J2⟩
   ·rw [hA a ha] at hSi
    cases hSi
  ·obtain ⟨o,AK⟩:=wDZ (ZZ.zb.ao a ha)
   refine ⟨o,AK.get,wIS AK,?_⟩
   have hA:∀ c ∈ A,S1 c.ix=true:=fun c hc=>wEa hdc hpi (ZZ.cross a ha c hc).2
   rcases hI with ⟨hB,s,t,σA,h,σ',μ1,μS,J⟩ | ⟨_,μm,wm,g1,g2,s,t,σA,h,σ',μ1,μS,J⟩
   ·obtain ⟨μm,σ2,g1,g2,J1⟩:=toB S1 σ1 w1 s t σA h σ' μ1 μS hA hB J
    refine (stepB S1 a σ1 w1 _ _ _ _ _ _ _ _ _ o ha hSi hpi hdc AK J1).mono ?_
    rintro v w' ⟨s,t,σA,h,σ',μ1,μS,J2⟩
    exact .inr ⟨fun c hc=>by simp [hA c hc],_,_,g1,g2,_,_,_,_,_,_,_,J2⟩
   ·refine (stepB S1 a σ1 w1 _ _ _ _ _ _ _ _ _ o ha hSi hpi hdc AK J).mono ?_
    rintro v w' ⟨s,t,σA,h,σ',μ1,μS,J2⟩
    exact .inr ⟨fun c hc=>by simp [hA c hc],_,_,g1,g2,_,_,_,_,_,_,_,J2⟩
 ·rintro S1 σ1 w1 hall hI
  have hI2:∃ μm wm,Ext μ h0.fl.nat w μm wm/\h2.fl=h0.fl/\∃ s t σA h σ' μ1 μS,JS tb ex exY P l B σm h2 σf hf μm wm S1 σ1 w1 s t σA h σ' μ1 μS:=by
   rcases hI with ⟨hB,s,t,σA,h,σ',μ1,μS,J⟩ | ⟨_,hI⟩
   ·obtain ⟨μm,σ2,g1,g2,J1⟩:=toB S1 σ1 w1 s t σA h σ' μ1 μS (fun a ha=>hall _ (lt a (by rw [ZZ.eq];simp [ha]))) hB J
    exact ⟨_,_,g1,g2,_,_,_,_,_,_,_,J1⟩
   ·exact hI
  obtain ⟨μm,wm,g1,g2,s,t,σA,h,σ',μ1,μS,J⟩:=hI2
  have J0:JS tb ex exY P l B σm h2 σf hf μm wm S1 σ1 w1 s (t ++ []) σA h σ' μ1 μS:=by rw [nj];exact J
  obtain ⟨σB,hB,σ'',μB,J1⟩:=JS.catch ZZ.zb t J0 fun b hb=>hall _ (lt b (by rw [ZZ.eq,J.e];simp [hb]))
  have hr1:=J1.hr
  rw [wBD] at hr1
  cases hr1
  refine hQ μB w1 σ1 (g1.trans (g2 ▸ J1.E)) J1.sim (fun q=>?_) (J1.fl.trans g2)
  rw [J1.ag q fun b hb=>by simp at hb]
  exact J1.env q
end
end Go.KX
namespace Go.KX
open Go.RowKit Go.KL
section
variable {P:Program} {tb:Tr AF}
theorem wOd (hm:P.follows .mixedOrders=true) {ex exY:Run} (HC:wGb (CC P) P tb ex) (HY:wFV (CC P) P exY) (FE:FrX ex) (FY:FrX exY) {os:List AO} {σA σA':Tr AV} {h h':AH} (hr:wAr tb ex exY os σA h=some (σA',h')) {id N:Nat} {ops:Array Oper} {draw:Bool} (hc:chkR P N os ops.toList draw=true)
  {rr:Option Nat} {μ:Mu} {σ:Env} {w:World} {D:List Deferred} {n0:Nat} (S:Sim (CC P) P μ h w) (hE:EnvR μ σA σ) (M:Mk μ w n0 D):CK rr N P (.region id ops draw) (PostX P μ h.fl w n0 rr D .nrm σA' h') D σ w:=by
 unfold chkR at hc
 simp only [nA,nR] at hc
 obtain ⟨c1,c2⟩:=hc
 have hop:ops=ops.toList.toArray:=by simp
 have hcs:∀ a ∈ os,wHR P N ops.toList a=true/\kOf ((nN ops.toList.length).map fun i=>kdAt i os) a.ix=a.kd:=fun a ha=>⟨(c1 a ha).1,nB (c1 a ha).2⟩
 have post:∀ {w0:World},Ext μ h.fl.nat w μ w0->Sim (CC P) P μ h w0->OKS N P ops.toList (PostX P μ h.fl w n0 rr D .nrm σA' h') D ((nN ops.toList.length).map fun i=>kdAt i os) (wJg os) σ w0:=by
  intro w0 E0 S0
  refine wJh HC HY os σA h σA' h' hr hcs μ σ w0 S0 hE fun μ' w' σ' q1 q2 q3 q4=>?_
  have E:=E0.trans q1
  exact ⟨rfl,μ',E,q2,q3,M.ext E,q4,fun _=>rfl⟩
 rw [hop]
 cases draw with
 | true =>
  simp only at c2
  split at c2
  ·simp only [nA,nR,ny] at c2
   exact CK.lazy hm HC HY FE FY (wOQ (fun a ha=>(c1 a ha).1) c2.2) (wLa c2.1) hr S hE fun μ' w' σ' q1 q2 q3 q4=>⟨rfl,μ',q1,q2,q3,M.ext q1,q4,fun _=>rfl⟩
  ·exact CK.anyOrd hm _ _ c2 (post (Ext.drew μ _ w) (S.keep (Keep.drew w)))
 | false=>exact CK.reg _ c2 (post (Ext.refl μ _ w) S)
theorem wPf {ex:Run} (HC:wGb (CC P) P tb ex) {g:AOd} {t:List Pos} {asg body:AC} {g':Operand} {ps:Array Tmp} {asg' body':Code} {N:Nat} (hc:wFt P N (.rf g t asg body) (.rangeFunc g' ps asg' body')=true)
  {σA σA':Tr AV} {h h':AH} {e:Ex} (hr:sRf true g t asg body tb ex σA h=some (e,σA',h')) {μ:Mu} {σ:Env} {w:World} {D:List Deferred} {n0:Nat} (S:Sim (CC P) P μ h w) (hE:EnvR μ σA σ) (M:Mk μ w n0 D) (hn:n0 <= w.heap.size) :
  CK none N P (.rangeFunc g' ps asg' body') (PostX P μ h.fl w n0 none D e σA' h') D σ w:=by
 simp only [wFt,nA] at hc
 obtain ⟨c1,c2,c3,c4⟩:=hc
 obtain ⟨p,rfl⟩:∃ p:List Nat,ps=p.toArray:=⟨ps.toList,by simp⟩
 ·obtain ⟨ht,c6⟩:=wLb (by simpa using c2)
  unfold sRf at hr
  split at hr
  ·rename_i f fi ca hg
   have hx:=wAS c1 hE
   rw [hg] at hx
   obtain ⟨fv,cv,g1,g2,g3⟩:=hx
   split at hr <;> first | (cases hr;done) | skip
   rename_i rv h2 hcall
   obtain ⟨hcf,hgv⟩:=HC _ _ _ _ _ hcall
   refine CK.rangeFunc (t:=p) g3 hcf fun fn l rb w1 e1 e2 hl hd K hs=>?_
   subst e1 e2
   have hle:=Mu.add_le (c:=(⟨w.heap.size + 1,0,⟨N,σ,p,asg',body',w.heap.size,fn⟩⟩:Cl)) (S.nx h.nx (nO _))
   obtain ⟨s1,s2,s3,s4⟩:=S.push (w':=w1) (c:=⟨w.heap.size + 1,0,⟨N,σ,p,asg',body',w.heap.size,fn⟩⟩) (B:=.loop σA t asg body .ready) K (Nat.le_succ _) (by show w.heap.size + 1 < _;omega) ⟨hl,hE.mono hle,ht,c6,c3,c4⟩
   generalize hμ1:μ.add h.nx (⟨w.heap.size + 1,0,⟨N,σ,p,asg',body',w.heap.size,fn⟩⟩:Cl)=μ1 at *
   have M1:Mk μ1 w1 n0 (mark w.heap.size :: D):=by
    have M':=M.ext s2
    obtain ⟨rbs,m1,m2,m3⟩:=M'
    have hold:∀ rb ∈ rbs,rb < w.heap.size:=by
     obtain ⟨rbs0,k1,k2,k3⟩:=M
     intro rb hrb
     have hmm:rbs.map mark=rbs0.map mark:=by rw [<- m1,<- k1]
     have hinj:rbs=rbs0:=by
      have:∀ (a b:List Nat),a.map mark=b.map mark->a=b:=by
       intro a
       induction a with
       | nil=>intro b hb;cases b with
        | nil=>rfl
        | cons _ _=>simp at hb
       | cons x a ih=>intro b hb;cases b with
        | nil=>simp at hb
        | cons y b =>
         simp only [kX,na] at hb
         have hxy:x=y:=by have:=hb.1;simp [mark] at this;exact this
         rw [hxy,ih b hb.2]
      exact this _ _ hmm
     exact (k3 rb (hinj ▸ hrb)).1.lt
    refine ⟨w.heap.size :: rbs,by rw [kX,<- m1],List.nodup_cons.2 ⟨fun hm=>absurd (hold _ hm) (kY _),m2⟩,fun rb hrb=>?_⟩
    rcases nJ.1 hrb with rfl | hrb
    ·refine ⟨hd,hn,fun q c hq=>?_⟩
     rw [<- hμ1] at hq
     unfold Mu.add at hq
     split at hq
     ·cases hq;show w.heap.size + 1 ≠ _;omega
     ·have:=S.lt q c hq;omega
    ·exact m3 rb hrb
   have G:=hgv μ1 w1 (fv ++ (.func (.yield (w.heap.size + 1)) #[] #[] :: cv)) s1 (wEX (g1.mono s2.mono) (wBY ⟨_,s4,rfl⟩ (g2.mono s2.mono)))
   rw [nG]
   refine G.mono ?_
   rintro v3 w3 ⟨μ3,q1,q2,q3,q4⟩
   rw [s3] at q1 q4
   have E13:=s2.trans q1
   have hc3:=q1.mono _ _ s4
   have fin:∀ {B:AB} {h3:AH} (w4:World),h2.m.get h.nx=some B->wMN B->h2.put h.nx .dead=some h3->Keep w3 w4 (·=w.heap.size + 1)->w4.heap.size=w3.heap.size->∃ μ',Ext μ h.fl.nat w μ' w4/\Sim (CC P) P μ' h3 w4/\EnvR μ' σA σ/\Mk μ' w4 n0 (mark w.heap.size :: D)/\h3.fl=h.fl:=by
    intro B h3 w4 hB hlv hput K4 _
    obtain ⟨v1,v2,v3⟩:=q2.put hput hB hlv hc3 K4 (B':=.dead) trivial
    rw [q4] at v2 v3
    exact ⟨μ3,E13.trans v2,v1,hE.mono E13.mono,(M1.ext q1).ext v2,v3⟩
   split at hr
   ·rename_i sx tx ax bx hB
    split at hr <;> first | (cases hr;done) | skip
    rename_i h3 hput
    cases hr
    obtain ⟨c',u1,u2⟩:=q2.at_ _ _ hB
    rw [hc3] at u1;cases u1
    have L3:wMM (CC P) μ3 w3 ⟨w.heap.size + 1,0,⟨N,σ,p,asg',body',w.heap.size,fn⟩⟩ sx tx ax bx .ready:=u2
    refine .inl ⟨L3.at_,fun w4 K4 hs4=>?_⟩
    obtain ⟨μ',a1,a2,a3,a4,a5⟩:=fin w4 hB trivial hput K4 hs4
    exact ⟨rfl,μ',a1,a2,a3,a4,a5,fun hq=>by cases hq⟩
   ·rename_i sx tx ax bx ee hB
    split at hr <;> first | (cases hr;done) | skip
    rename_i h3 hput
    cases hr
    obtain ⟨c',u1,u2⟩:=q2.at_ _ _ hB
    rw [hc3] at u1;cases u1
    have L3:wMM (CC P) μ3 w3 ⟨w.heap.size + 1,0,⟨N,σ,p,asg',body',w.heap.size,fn⟩⟩ sx tx ax bx (.done e):=u2
    cases e with
    | nrm =>
     refine .inl ⟨L3.at_,fun w4 K4 hs4=>?_⟩
     obtain ⟨μ',a1,a2,a3,a4,a5⟩:=fin w4 hB trivial hput K4 hs4
     exact ⟨rfl,μ',a1,a2,a3,a4,a5,fun hq=>by cases hq⟩
    | ret =>
     refine .inr ⟨.ret,.inl rfl,L3.at_,fun w4 K4 hs4=>?_⟩
     obtain ⟨μ',a1,a2,a3,a4,a5⟩:=fin w4 hB trivial hput K4 hs4
     exact ⟨rfl,μ',a1,a2,a3,a4,a5,fun hq=>by cases hq⟩
    | exit i =>
     refine .inr ⟨.exit i,.inr ⟨i,rfl⟩,L3.at_,fun w4 K4 hs4=>?_⟩
     obtain ⟨μ',a1,a2,a3,a4,a5⟩:=fin w4 hB trivial hput K4 hs4
     exact ⟨rfl,μ',a1,a2,a3,a4,a5,fun hq=>by cases hq⟩
   ·cases hr
  ·cases hr
theorem CK.ofRounds {rr:Option Nat} {N:Nat} {c:Code} {Q:wDi} {D:List Deferred} {σ:Env} {w:World} (m:Nat) (hh:∀ a,Rep N D a σ->Code.roundsIn (WF rr) 0 P c (wIb N Q) m a w):CK rr N P (.loop c) Q D σ w :=
 fun a ha=>wpIn_loop_rounds m (hh a ha)
theorem wTb {exR:Run} {r:Bool} (HE:wJi P exR r) {a b:AC} {σA σA':Tr AV} {h h':AH} {e:Ex} (hr:wSw a b exR σA h=some (e,σA',h')) {c d:Code} {N:Nat} (hc1:wFt P N a c=true) (hc2:wFt P N b d=true)
  {rr:Option Nat} {μ:Mu} {σ:Env} {w:World} {D:List Deferred} {n0:Nat} (hrr:rr.isSome=r) (S:Sim (CC P) P μ h w) (hE:EnvR μ σA σ) (M:Mk μ w n0 D) (hn:n0 <= w.heap.size):CK rr N P (.seq c d) (PostX P μ h.fl w n0 rr D e σA' h') D σ w:=by
 obtain ⟨⟨e1,σ1,h1⟩,ha,hb⟩:=wSi hr
 rw [wKp] at hb
 refine CK.seq ((HE _ _ _ _ _ _ ha c N hc1 rr μ σ w D n0 hrr S hE M hn).mono ?_)
 intro D' e' σ' w' hp
 obtain ⟨rfl,μ1,q1,q2,q3,q4,q5,q6⟩:=hp
 cases e1 with
 | nrm =>
  refine (HE _ _ _ _ _ _ hb d N hc2 rr μ1 σ' w' D' n0 hrr q2 q3 q4 (kH hn q1.keep.size)).mono ?_
  intro D'' e'' σ'' w'' hp
  rw [q5] at hp
  exact PostX.trans q1 q6 hp
 | ret=>cases hb;exact ⟨rfl,μ1,q1,q2,q3,q4,q5,q6⟩
 | exit i=>cases hb;exact ⟨rfl,μ1,q1,q2,q3,q4,q5,q6⟩
theorem wRr {exR:Run} {r:Bool} {m:Nat} (HE:wJi P exR r) (HL:wOR P exR r m) {a:AC} {σA σA':Tr AV} {h h':AH} {e:Ex} (hr:wNm a exR σA h=some (e,σA',h')) {c:Code} {N:Nat} (hc:wFt P N a c=true)
  {rr:Option Nat} {μ:Mu} {σ:Env} {w:World} {D:List Deferred} {n0:Nat} (hrr:rr.isSome=r) (S:Sim (CC P) P μ h w) (hE:EnvR μ σA σ) (M:Mk μ w n0 D) (hn:n0 <= w.heap.size):∀ act,Rep N D act σ->Code.roundsIn (WF rr) 0 P c (wIb N (PostX P μ h.fl w n0 rr D e σA' h')) (m + 1) act w:=by
 obtain ⟨⟨e1,σ1,h1⟩,ha,hb⟩:=wSi hr
 rw [wKp] at hb
 intro act hact
 rw [roundsIn_succ]
 refine wpIn_mono (HE _ _ _ _ _ _ ha c N hc rr μ σ w D n0 hrr S hE M hn act hact) ?_
 rintro e' act' w' ⟨σ',D',hrep,hp⟩
 obtain ⟨rfl,μ1,q1,q2,q3,q4,q5,q6⟩:=hp
 cases e1 with
 | nrm =>
  refine wHU ?_ m act' w' (HL _ _ _ _ _ _ hb c N hc rr μ1 σ' w' D' n0 hrr q2 q3 q4 (kH hn q1.keep.size) act' hrep)
  rintro e'' act'' w'' ⟨σ'',D'',hrep',hp⟩
  rw [q5] at hp
  exact ⟨σ'',D'',hrep',PostX.trans q1 q6 hp⟩
 | ret=>cases hb;exact ⟨σ',D',hrep,rfl,μ1,q1,q2,q3,q4,q5,q6⟩
 | exit i=>cases hb;exact ⟨σ',D',hrep,rfl,μ1,q1,q2,q3,q4,q5,q6⟩
theorem wRs (hm:P.follows .mixedOrders=true) (T:wMU P tb):∀ (n:Nat) (r:Bool),wJi P (exec tb n r) r/\wOR P (exec tb n r) r n:=by
 intro n
 induction n with
 | zero=>intro r;exact ⟨fun c σA h e σA' h' hr=>(by cases hr),fun c σA h e σA' h' hr=>(by cases hr)⟩
 | succ n ih =>
  intro r
  have HC:=wOS T (ih false).1
  have HY:=wPc (P:=P) (ih true).1
  obtain ⟨HE,HL⟩:=ih r
  have loop:wOR P (exec tb (n + 1) r) r (n + 1):=by
   intro c σA h e σA' h' hr code N hc rr μ σ w D n0 hrr S hE M hn
   have hr:wNm c (exec tb n r) σA h=some (e,σA',h'):=hr
   exact wRr HE HL hr hc hrr S hE M hn
  refine ⟨?_,loop⟩
  intro c σA h e σA' h' hr code N hc rr μ σ w D n0 hrr S hE M hn
  rw [wJZ] at hr
  cases c with
  | skip =>
   have hr:sNrm σA h=some (e,σA',h'):=hr
   cases hr
   have fin:PostX P μ h.fl w n0 rr D .nrm σA h D .normal σ w:=⟨rfl,μ,Ext.refl μ _ w,S,hE,M,rfl,fun _=>rfl⟩
   cases code <;> simp only [wFt,nE] at hc
   ·exact CK.skip fin
   ·exact CK.label fin
  | rg os =>
   have hr:sRg os tb (exec tb n false) (exec tb n true) (exec tb n r) σA h=some (e,σA',h'):=hr
   unfold sRg at hr
   have:∃ y,wAr tb (exec tb n false) (exec tb n true) os σA h=some y/\some (Ex.nrm,y.1,y.2)=some (e,σA',h'):=by
    cases hq:wAr tb (exec tb n false) (exec tb n true) os σA h with
    | none=>rw [hq] at hr;cases hr
    | some y=>rw [hq] at hr;exact ⟨y,rfl,hr⟩
   obtain ⟨y,h1,h2⟩:=this
   cases h2
   cases code <;> simp only [wFt,nE] at hc
   exact wOd hm HC HY (wFX tb n false) (wFX tb n true) h1 hc S hE M
  | seq a b =>
   have hr:wSw a b (exec tb n r) σA h=some (e,σA',h'):=hr
   cases code <;> simp only [wFt,nE,nA] at hc
   exact wTb HE hr hc.1 hc.2 hrr S hE M hn
  | cond x a b =>
   have hr:wNl x a b (exec tb n r) σA h=some (e,σA',h'):=hr
   cases code <;> simp only [wFt,nE,nA] at hc
   have hx:=wAS hc.1 hE
   unfold wNl at hr
   split at hr
   ·rename_i hb;rw [hb] at hx
    exact CK.condT hx (HE _ _ _ _ _ _ hr _ N hc.2.1 rr μ σ w D n0 hrr S hE M hn)
   ·rename_i hb;rw [hb] at hx
    exact CK.condF hx (HE _ _ _ _ _ _ hr _ N hc.2.2 rr μ σ w D n0 hrr S hE M hn)
   ·cases hr
  | block i a =>
   have hr:wLP i a (exec tb n r) σA h=some (e,σA',h'):=hr
   cases code <;> simp only [wFt,nE,nA] at hc
   rename_i j code
   have hij:=nB hc.1
   subst hij
   obtain ⟨⟨e1,σ1,h1⟩,ha,hb⟩:=wSi hr
   refine CK.block ((HE _ _ _ _ _ _ ha code N hc.2 rr μ σ w D n0 hrr S hE M hn).mono ?_)
   rintro D' e' σ' w' ⟨rfl,μ1,q1,q2,q3,q4,q5,q6⟩
   cases e1 with
   | nrm=>cases hb;exact ⟨rfl,μ1,q1,q2,q3,q4,q5,q6⟩
   | ret=>cases hb;exact ⟨rfl,μ1,q1,q2,q3,q4,q5,q6⟩
   | exit k =>
    have hb:Bool.rec (motive:=fun _=>R) (some (.exit k,σ1,h1)) (some (.nrm,σ1,h1)) (nP k i)=some (e,σA',h'):=hb
    cases hk:nP k i with
    | true =>
     rw [hk] at hb;cases hb
     have:=nB hk
     subst this
     exact wId ⟨rfl,μ1,q1,q2,q3,q4,q5,q6⟩
    | false =>
     rw [hk] at hb;cases hb
     exact wPM ⟨rfl,μ1,q1,q2,q3,q4,q5,q6⟩ hk
  | loop a =>
   have hr':exec tb (n + 1) r (.loop a) σA h=some (e,σA',h'):=hr
   cases code <;> simp only [wFt,nE] at hc
   exact CK.ofRounds (n + 1) (loop _ _ _ _ _ _ hr' _ N hc rr μ σ w D n0 hrr S hE M hn)
  | rf g t asg body =>
   have hr:sRf (!r) g t asg body tb (exec tb n false) σA h=some (e,σA',h'):=hr
   cases r with
   | true=>unfold sRf at hr;simp at hr
   | false =>
    have hnone:rr=none:=by cases rr <;> first | rfl | cases hrr
    subst hnone
    cases code <;> first | (simp only [wFt,nE] at hc;done) | skip
    exact wPf HC hc hr S hE M hn
  | exit i =>
   have hr:some (Ex.exit i,σA,h)=some (e,σA',h'):=hr
   cases hr
   cases code <;> simp only [wFt,nE] at hc
   have:=nB hc
   subst this
   exact CK.exit ⟨rfl,μ,Ext.refl μ _ w,S,hE,M,rfl,fun _=>rfl⟩
  | scope a =>
   have hr:exec tb n r a σA h=some (e,σA',h'):=hr
   cases code <;> simp only [wFt,nE] at hc
   refine CK.scope ((HE _ _ _ _ _ _ hr _ N hc rr μ σ w D n0 hrr S hE M hn).mono ?_)
   rintro D' e' σ' w' ⟨rfl,q⟩
   cases e with
   | nrm=>exact ⟨rfl,q⟩
   | ret=>exact ⟨rfl,q⟩
   | exit k=>exact ⟨rfl,q⟩
  | ret =>
   have hr:some (Ex.ret,σA,h)=some (e,σA',h'):=hr
   cases hr
   cases code <;> simp only [wFt,nE] at hc
   exact CK.ret ⟨rfl,μ,Ext.refl μ _ w,S,hE,M,rfl,fun _=>rfl⟩
  | rl os =>
   have hr:sRl os tb (exec tb n false) (exec tb n true) σA h=some (e,σA',h'):=hr
   rw [wQT] at hr
   split at hr
   ·rename_i y hq
    cases hr
    obtain ⟨g1,g2⟩:=wKn _ _ _ _ hq
    cases code <;> simp only [wFt,nE,nA,nR] at hc
    rename_i id ops draw
    obtain ⟨rfl,c1,c2⟩:=hc
    have hop:ops=ops.toList.toArray:=by simp
    rw [hop]
    exact CK.lazy hm HC HY (wFX tb n false) (wFX tb n true) (wOQ c1 c2) g2 g1 S hE fun μ' w' σ' q1 q2 q3 q4=>⟨rfl,μ',q1,q2,q3,M.ext q1,q4,fun _=>rfl⟩
   ·cases hr
theorem Sim.empty (C:Chk) (P:Program) (w:World):Sim C P (fun _=>none) ⟨.e,.H,.H⟩ w :=
 ⟨fun _ _=>rfl,fun _ _ h=>(by cases h),fun _ _ _ _ _ _ h=>(by rw [Tr.get_e] at h;cases h),fun _ _ h=>(by rw [Tr.get_e] at h;cases h)⟩
theorem wMX (hm:P.follows .mixedOrders=true) (T:wMU P tb) (n:Nat) (f:Pos) (args:List AV) (vs:List Value) (v:AV) (h:AH) (hv:∀ μ,RvL μ args vs) (hr:wJW tb (exec tb n false) f args ⟨.e,.H,.H⟩=some (v,h)) (w:World) :
  Gv P (f.nat - 1) vs w fun cv w'=>∃ μ,Rv μ v cv/\Keep w w' Non:=by
 obtain ⟨_,hg⟩:=wOS T (wRs hm T n false).1 f args _ v h hr
 refine (hg _ w vs (Sim.empty _ _ w) (hv _)).mono ?_
 rintro cv w' ⟨μ',h1,h2,h3,_⟩
 exact ⟨μ',h3,h1.keep.weak fun i _ ⟨p,d,hp,_⟩=>by cases hp⟩
noncomputable def okB (tb:Tr AF) (n:Nat) (f:Pos) (b:Bool):Bool:=match wJW tb (exec tb n false) f [] ⟨.e,.H,.H⟩ with
 | some (.bool b',_)=>b' == b
 | _=>false
theorem wPg (hm:P.follows .mixedOrders=true) (T:wMU P tb) (n:Nat) (f:Pos) (k:Nat) (hk:f.nat=k + 1) (b:Bool) (hr:okB tb n f b=true) (w:World):Gv P k [] w fun cv w'=>cv=.bool b/\Keep w w' Non:=by
 unfold okB at hr
 split at hr
 ·rename_i b' h hq
  have hb:=eq_of_beq hr
  subst hb
  have:=wMX hm T n f [] [] _ h (fun _=>rfl) hq w
  rw [hk] at this
  refine this.mono ?_
  rintro cv w' ⟨μ,h1,h2⟩
  exact ⟨h1,h2⟩
 ·cases hr
def wOe (f:Nat->AF->Prop):Tr AF->(Nat->Nat)->Prop
 | .e,_=>True
 | .n l v r,g=>(match v with | none=>True | some a=>f (g 1) a)/\wOe f l (fun n=>g (2 * n))/\wOe f r (fun n=>g (2 * n + 1))
theorem wHY {f:Nat->AF->Prop}:∀ {t:Tr AF} {g:Nat->Nat},wOe f t g->∀ p a,t.get p=some a->f (g p.nat) a
 | .e,g,_,p,a,hq=>by rw [Tr.get_e] at hq;cases hq
 | .n l v r,g,⟨h1,h2,h3⟩,.H,a,hq=>by
  rw [Tr.get_H] at hq;subst hq;exact h1
 | .n l v r,g,⟨h1,h2,h3⟩,.O p,a,hq=>wHY h2 p a hq
 | .n l v r,g,⟨h1,h2,h3⟩,.I p,a,hq=>wHY h3 p a hq
theorem wTc (h:wOe (fun n a=>chkF P (n - 1) a=true) tb fun n=>n):wMU P tb:=fun p af hq=>wHY h p af hq
end
end Go.KX
namespace Go.KL.Net
structure Ed where
 a:Nat
 b:Nat
 c:Int
def wHn (es:List Ed) (x:Nat->Int):Prop:=∀ e ∈ es,x e.b <= x e.a + e.c
theorem wSA {P:Int->Prop} {B:Int} (h:∃ m,P m) (hB:∀ m,P m->m <= B):∃ m,P m/\∀ k,P k->k <= m:=by
 have key:∀ (d:Nat) (m:Int),P m->(B - m).toNat <= d->∃ m,P m/\∀ k,P k->k <= m:=by
  intro d
  induction d with
  | zero =>
   intro m hm hd
   exact ⟨m,hm,fun k hk=>by have:=hB k hk;omega⟩
  | succ d ih =>
   intro m hm hd
   rcases km (∃ k,P k/\m < k) with ⟨k,hk,hlt⟩ | h
   ·exact ih k hk (by have:=hB k hk;omega)
   ·exact ⟨m,hm,fun k hk=>by
     rcases kf m k with c | c
     ·exact absurd ⟨k,hk,c⟩ h
     ·exact c⟩
 obtain ⟨m,hm⟩:=h
 exact key _ m hm (nO _)
structure Con (n:Nat) (R:Int) (es:List Ed):Prop where
 ends:∀ e ∈ es,e.a < n/\e.b < n
 near:∀ x,wHn es x->∀ a b,a < n->b < n->x b - x a <= R
 all:∀ (S:Nat->Prop) (i:Nat),i < n->S i->(∀ e ∈ es,S e.a->S e.b)->∀ v,v < n->S v
structure Most (n:Nat) (es:List Ed) (top:Nat->Int) (δ:Nat->Int):Prop where
 ok:wHn es δ
 le:∀ v,v < n->δ v <= top v
 gr:∀ x,wHn es x->(∀ v,v < n->x v <= top v)->∀ v,v < n->x v <= δ v
theorem shift {es:List Ed} {x:Nat->Int} (h:wHn es x) (k:Int):wHn es fun v=>x v + k:=fun e he=>by have:=h e he;simp only;omega
theorem wOi {n:Nat} {R:Int} {es:List Ed} (C:Con n R es) {x:Nat->Int} (hx:wHn es x) {top:Nat->Int} {i:Nat} (hi:i < n) (h0:top i=0) (hp:∀ v,v < n->0 <= top v):∃ δ,Most n es top δ:=by
  have ex:∀ v,∃ m:Int,(v < n->(∃ y,wHn es y/\(∀ u,u < n->y u <= top u)/\y v=m)/\∀ y,wHn es y->(∀ u,u < n->y u <= top u)->y v <= m):=by
    intro v
    by_cases hv:v < n
    · obtain ⟨m,hm,hm2⟩:=wSA (P:=fun m=>∃ y,wHn es y/\(∀ u,u < n->y u <= top u)/\y v=m) (B:=R) ⟨_,fun u=>x u + (-(x i + R)),shift hx _,fun u hu=>by
          have:=C.near x hx i u hi hu
          have:=hp u hu
          simp only
          omega,rfl⟩ (by
          rintro m ⟨y,hy,hy2,rfl⟩
          have:=C.near y hy i v hi hv
          have:=hy2 i hi
          omega)
      exact ⟨m,fun _=>⟨hm,fun y hy hy2=>hm2 _ ⟨y,hy,hy2,rfl⟩⟩⟩
    · exact ⟨0,fun h=>absurd h hv⟩
  obtain ⟨δ,sp⟩:=Classical.axiomOfChoice ex
  refine ⟨δ,fun e he=>?_,fun v hv=>?_,fun y hy hy2 v hv=>(sp v hv).2 y hy hy2⟩
  · obtain ⟨h1,h2⟩:=C.ends e he
    obtain ⟨⟨y,hy,hy2,hy3⟩,_⟩:=sp e.b h2
    have:=(sp e.a h1).2 y hy hy2
    have:=hy e he
    omega
  · obtain ⟨⟨y,hy,hy2,hy3⟩,_⟩:=sp v hv
    have:=hy2 v hv
    omega
theorem Most.hi {n:Nat} {R:Int} {es:List Ed} (C:Con n R es) {top δ:Nat->Int} (M:Most n es top δ) {i:Nat} (hi:i < n) (h0:top i=0):∀ v,v < n->δ v <= R:=fun v hv=>by
 have:=C.near δ M.ok i v hi hv
 have:=M.le i hi
 omega
theorem Most.tight {n:Nat} {es:List Ed} {top δ:Nat->Int} (M:Most n es top δ) (hes:∀ e ∈ es,e.a < n/\e.b < n) (low:Nat->Int) (h0:∀ v,v < n->low v <= top v) (hT:∃ v,v < n/\δ v < low v) (hge:∀ v,v < n->δ v <= low v) :
  ∃ e ∈ es,low e.a=δ e.a/\δ e.b < low e.b/\δ e.b=δ e.a + e.c:=by
 rcases km (∃ e ∈ es,low e.a=δ e.a/\δ e.b < low e.b/\δ e.b=δ e.a + e.c) with h | h
 ·exact h
 ·exfalso
  obtain ⟨v,hv,hlt⟩:=hT
  have hx:wHn es (fun u=>if δ u < low u then δ u + 1 else δ u):=by
   intro e he
   obtain ⟨h1,h2⟩:=hes e he
   have a:=M.ok e he
   have b:=hge e.a h1
   have c:=hge e.b h2
   simp only
   by_cases e1:δ e.b < low e.b
   ·by_cases e2:δ e.a < low e.a
    ·rw [if_pos e1,if_pos e2];omega
    ·rw [if_pos e1,if_neg e2]
     by_cases e3:δ e.b=δ e.a + e.c
     ·exact absurd ⟨e,he,by omega,e1,e3⟩ h
     ·omega
   ·rw [if_neg e1]
    split <;> omega
  have:=M.gr _ hx (fun u hu=>by
   have:=M.le u hu
   have:=h0 u hu
   show (if δ u < low u then δ u + 1 else δ u) <= top u
   split <;> omega) v hv
  have this:(if δ v < low v then δ v + 1 else δ v) <= δ v:=this
  rw [if_pos hlt] at this
  omega
theorem wLh (p q:Nat->Bool) (hpq:∀ v,p v=true->q v=true):∀ (l:List Nat),(∃ v ∈ l,p v=false/\q v=true)->l.countP p < l.countP q
 | [],⟨v,h,_⟩=>by cases h
 | a :: l,⟨v,h,hp,hq⟩=>by
  have mono:∀ l:List Nat,l.countP p <= l.countP q:=fun l=>List.countP_mono_left fun v _ h=>hpq v h
  rw [kC,kC]
  rcases nJ.1 h with rfl | h
  ·have:=mono l
   simp only [hp,hq,if_true,nE,if_false]
   omega
  ·have:=wLh p q hpq l ⟨v,h,hp,hq⟩
   have:(if p a=true then 1 else 0) <= (if q a=true then 1 else 0):=by
    cases e:p a with
    | true=>rw [hpq a e];simp
    | false=>simp
   omega
def wSj (n:Nat) (δ low:Nat->Int):Nat:=(nN n).countP fun v=>decide (low v=δ v)
theorem wSB (n:Nat) (δ low:Nat->Int):wSj n δ low <= n:=by
 have:=List.countP_le_length (p:=fun v=>decide (low v=δ v)) (l:=nN n)
 rw [List.length_range] at this
 exact this
theorem wSC {n:Nat} {δ low low':Nat->Int} (h1:∀ v,v < n->δ v <= low' v) (h2:∀ v,v < n->low' v <= low v) {v:Nat} (hv:v < n) (a:δ v < low v) (b:low' v=δ v):wSj n δ low < wSj n δ low':=by
 have:=wLh (fun v=>decide (low v=δ v)) (fun v=>decide (low' v=δ v) || !decide (v < n)) (fun u hu=>by
  have hu':=of_decide_eq_true hu
  by_cases hun:u < n
  ·have:=h1 u hun
   have:=h2 u hun
   simp only [nf,decide_eq_true_eq]
   exact .inl (by omega)
  ·simp [hun]) (nN n) ⟨v,kJ.2 hv,decide_eq_false (by omega),by simp [b]⟩
 have e:(nN n).countP (fun v=>decide (low' v=δ v) || !decide (v < n))=(nN n).countP (fun v=>decide (low' v=δ v)):=by
  apply List.countP_congr
  intro u hu
  have:u < n:=kJ.1 hu
  simp [this]
 unfold wSj
 omega
structure IsD (n:Nat) (es:List Ed) (i:Nat) (f:Nat->Int):Prop where
 ok:wHn es f
 zero:f i=0
 gr:∀ x,wHn es x->∀ v,v < n->x v - x i <= f v
end Go.KL.Net
namespace Go.KL
variable {S S' B B' α:Type}
theorem wLi {body:Nat->S->Option (S ⊕ B)} (I:Nat->S->Prop) (Z:B->Prop):∀ (m k:Nat) (s:S),I k s ->
  (∀ i s,k <= i->i < k + m->I i s->(∃ s',body i s=some (.inl s')/\I (i + 1) s') \/ ∃ b,body i s=some (.inr b)/\Z b) ->
  (∃ s',forN body m k s=some (.inl s')/\I (k + m) s') \/ ∃ b,forN body m k s=some (.inr b)/\Z b
 | 0,k,s,h,_=>.inl ⟨s,rfl,h⟩
 | m + 1,k,s,h,hb=>by
  simp only [forN]
  rcases hb k s (nO _) (by omega) h with ⟨s',h1,h2⟩ | ⟨b,h1,h2⟩
  ·rw [h1]
   have:=wLi I Z m (k + 1) s' h2 fun i s h2 h3 h4=>hb i s (by omega) (by omega) h4
   rwa [show k + 1 + m=k + (m + 1) from by omega] at this
  ·rw [h1];exact .inr ⟨b,rfl,h2⟩
theorem wET {body:Nat->S->Option S} (I:Nat->S->Prop):∀ (m k:Nat) (s:S),I k s ->
  (∀ i s,k <= i->i < k + m->I i s->∃ s',body i s=some s'/\I (i + 1) s')->∃ s',forN' body m k s=some s'/\I (k + m) s'
 | 0,k,s,h,_=>⟨s,rfl,h⟩
 | m + 1,k,s,h,hb=>by
  simp only [forN']
  obtain ⟨s',h1,h2⟩:=hb k s (nO _) (by omega) h
  rw [h1]
  have:=wET I m (k + 1) s' h2 fun i s h2 h3 h4=>hb i s (by omega) (by omega) h4
  rwa [show k + 1 + m=k + (m + 1) from by omega] at this
theorem wDg {body:Nat->S->Option (S ⊕ B)} {n:Nat} {s:S} (hn:n <= 9223372036854775807):wFm 0 (n:Int) body s=forN body n 0 s:=by
 unfold wFm
 rw [if_pos (by omega),show ((n:Int) - 0).toNat=n from by omega]
theorem wDP {body:Nat->S->Option S} {n:Nat} {s:S} (hn:n <= 9223372036854775807):wBr 0 (n:Int) body s=forN' body n 0 s:=by
 unfold wBr
 rw [if_pos (by omega),show ((n:Int) - 0).toNat=n from by omega]
def first (p:α->Bool):List α->Nat->Int
 | [],_=>-1
 | a :: l,k=>if p a then (k:Int) else first p l (k + 1)
theorem wMZ {R:Type} {l:List α} {f:α->Option Bool} {p:α->Bool} (hf:∀ a ∈ l,f a=some (p a)) (hn:l.length <= 9223372036854775807) (z:Int->R) :
  (jn (wFm 0 (↑l.length:Int) (fun k2 (_:Unit)=>(idx l (↑k2:Int)).bind fun x=>(f x).bind fun y=>if y=true then esc (some (z (↑k2:Int))) else some (.inl ())) ()) fun _=>some (z (-1)))=some (z (first p l 0)):=by
 rw [wDg hn]
 have key:∀ (m k:Nat),k + m=l.length->(jn (forN (fun k2 (_:Unit)=>(idx l (↑k2:Int)).bind fun x=>(f x).bind fun y=>if y=true then esc (some (z (↑k2:Int))) else some (.inl ())) m k ()) fun _=>some (z (-1)))=some (z (first p (l.drop k) k)):=by
  intro m
  induction m with
  | zero=>intro k hk;rw [kB (by omega)];rfl
  | succ m ih =>
   intro k hk
   have hlt:k < l.length:=by omega
   rw [nr hlt,first,forN,wIf,nk hlt]
   simp only [hH,hf _ (kO hlt)]
   by_cases h:p l[k]=true
   ·simp [h]
   ·simp only [h,if_false,nE]
    exact ih (k + 1) (by omega)
 exact key l.length 0 (by omega)
theorem wFB {R:Type} {l:List α} {g:α->Option (Unit ⊕ R)} {p:α->Bool} {z:R} {K:Unit->Option R} (hg:∀ a ∈ l,g a=if p a=true then some (.inl ()) else some (.inr z)) (hn:l.length <= 9223372036854775807) :
  jn (wFm 0 (↑l.length:Int) (fun k (_:Unit)=>(idx l (↑k:Int)).bind g) ()) K=if l.all p=true then K () else some z:=by
 rw [wDg hn]
 have key:∀ (m k:Nat),k + m=l.length->jn (forN (fun k (_:Unit)=>(idx l (↑k:Int)).bind g) m k ()) K=if (l.drop k).all p=true then K () else some z:=by
  intro m
  induction m with
  | zero=>intro k hk;rw [kB (by omega)];rfl
  | succ m ih =>
   intro k hk
   have hlt:k < l.length:=by omega
   have e:l.drop k=l[k] :: l.drop (k + 1):=nr hlt
   rw [e,List.all_cons,forN,wIf,nk hlt]
   simp only [hH,hg _ (kO hlt)]
   by_cases h:p l[k]=true
   ·rw [h]
    simp only [if_true,kW]
    exact ih (k + 1) (by omega)
   ·rw [if_neg h]
    have:p l[k]=false:=by simpa using h
    simp only [this,Bool.false_and,wKK,nE,if_false]
 exact key l.length 0 (by omega)
theorem wPn {β:Type} {l:List α} {f:α->β} {bytes:Nat} {g:α->List β->Option (List β)} (hg:∀ a ∈ l,∀ r,g a r=app bytes r [f a]) (hn:l.length <= 9223372036854775807) (hb:l.length * bytes <= 140737488355328) :
  wBr 0 (↑l.length:Int) (fun k r=>(idx l (↑k:Int)).bind fun x=>g x r) []=some (l.map f):=by
 rw [wDP hn]
 have key:∀ (m k:Nat) (r:List β),k + m=l.length->r.length=k->forN' (fun k r=>(idx l (↑k:Int)).bind fun x=>g x r) m k r=some (r ++ (l.drop k).map f):=by
  intro m
  induction m with
  | zero=>intro k r hk _;rw [kB (by omega)];simp [forN']
  | succ m ih =>
   intro k r hk hr
   have hlt:k < l.length:=by omega
   have e:l.drop k=l[k] :: l.drop (k + 1):=nr hlt
   rw [e,forN',wIf,nk hlt]
   have ha:app bytes r [f l[k]]=some (r ++ [f l[k]]):=by
    refine if_pos ?_
    simp only [nS,nz]
    exact kH (Nat.mul_le_mul_right _ (by omega)) hb
   simp only [hH,hg _ (kO hlt),ha]
   rw [ih (k + 1) _ (by omega) (by simp [hr]),nG]
   rfl
 exact key l.length 0 [] (by omega) rfl
theorem wEH {bytes:Nat} {l m:List α} (h:(l.length + m.length) * bytes <= 140737488355328):app bytes l m=some (l ++ m):=if_pos h
end Go.KL
namespace Go.KL
variable {S B R α β:Type}
theorem wLj {body:Nat->S->Option (S ⊕ B)} (s:Nat->S):∀ (m k:Nat),(∀ i,k <= i->i < k + m->body i (s i)=some (.inl (s (i + 1))))->forN body m k (s k)=some (.inl (s (k + m)))
 | 0,_,_=>rfl
 | m + 1,k,h=>by
  rw [forN,h k (nO _) (by omega)]
  have:=wLj s m (k + 1) fun i h1 h2=>h i (by omega) (by omega)
  rw [show k + 1 + m=k + (m + 1) by omega] at this
  exact this
theorem wJp {body:Nat->S->Option S} (s:Nat->S):∀ (m k:Nat),(∀ i,k <= i->i < k + m->body i (s i)=some (s (i + 1)))->forN' body m k (s k)=some (s (k + m))
 | 0,_,_=>rfl
 | m + 1,k,h=>by
  rw [forN',h k (nO _) (by omega)]
  have:=wJp s m (k + 1) fun i h1 h2=>h i (by omega) (by omega)
  rw [show k + 1 + m=k + (m + 1) by omega] at this
  exact this
theorem wDI {body:Nat->S->Option S} {n:Nat} {s0:S} (s:Nat->S) (h0:s 0=s0) (hn:n <= 9223372036854775807) (h:∀ i,i < n->body i (s i)=some (s (i + 1))):wBr 0 (n:Int) body s0=some (s n):=by
 rw [wDP hn,<- h0]
 have:=wJp s n 0 fun i _ hi=>h i (by omega)
 rwa [nt] at this
theorem wPo {body:Nat->S->Option (S ⊕ B)} {n:Nat} {s0:S} (s:Nat->S) (h0:s 0=s0) (hn:n <= 9223372036854775807) (h:∀ i,i < n->body i (s i)=some (.inl (s (i + 1)))):wFm 0 (n:Int) body s0=some (.inl (s n)):=by
 rw [wDg hn,<- h0]
 have:=wLj s n 0 fun i _ hi=>h i (by omega)
 rwa [nt] at this
theorem wJq {body:Nat->Unit->Option (Unit ⊕ B)} {n:Nat} (hn:n <= 9223372036854775807) (h:∀ i,i < n->body i ()=some (.inl ())):wFm 0 (n:Int) body ()=some (.inl ()):=wPo (fun _=>()) rfl hn h
theorem wDw [Inhabited α] {l:List α} {k:Nat} (h:k < l.length):idx l (k:Int)=some (gd l k):=by
 rw [wIf]
 exact wAy h
theorem wBH [Inhabited α] {l:List α} {k:Nat} (h:k < l.length):gd l k ∈ l:=List.mem_of_getElem? (wAy h)
theorem wDk [Inhabited α] {l:List α} {k:Nat} (h:k < l.length):l.take (k + 1)=l.take k ++ [gd l k]:=by
 rw [List.take_add_one,wAy h]
 rfl
theorem wHg [Inhabited α] {l:List α} {k:Nat} (h:k < l.length):l.drop k=gd l k :: l.drop (k + 1):=by
 have:=wAy h
 rw [nk h] at this
 rw [nr h,nL this]
theorem wDa [Inhabited α] {l m:List α} {k:Nat} (h:k < l.length):gd (l ++ m) k=gd l k:=by
 have h1:=wAy (xs:=l ++ m) (k:=k) (by rw [nD];omega)
 rw [nh h,wAy h] at h1
 exact (nL h1).symm
theorem wFC [Inhabited α] (l m:List α) (x:α):gd (l ++ x :: m) l.length=x:=by
 have h1:=wAy (xs:=l ++ x :: m) (k:=l.length) (by simp)
 rw [nZ (nO _),kG] at h1
 exact (nL h1).symm
theorem wHh [Inhabited α] [Inhabited β] (f:α->β) {l:List α} {k:Nat} (h:k < l.length):gd (l.map f) k=f (gd l k):=by
 have h1:=wAy (xs:=l.map f) (k:=k) (by simpa using h)
 rw [List.getElem?_map,wAy h] at h1
 exact (nL h1).symm
theorem wSD (o:Option α):(o.bind fun x=>some x)=o:=by cases o <;> rfl
theorem wLk [Inhabited α] {l m:List α} (h:l.length=m.length) (hk:∀ k,k < l.length->gd l k=gd m k):l=m:=by
 apply List.ext_getElem?
 intro k
 rcases ke k l.length with h1 | h1
 ·rw [wAy h1,wAy (by omega),hk k h1]
 ·rw [kD h1,kD (by omega)]
end Go.KL
namespace Go.KL
variable {S B α:Type}
theorem wOj {body:S->Option (S ⊕ B)} (F:Nat):∀ (m:Nat) (s:Nat->S),(∀ i,i < m->body (s i)=some (.inl (s (i + 1))))->iter body (m + F) (s 0)=iter body F (s m)
 | 0,s,_=>by rw [nt]
 | m + 1,s,h=>by
  rw [show m + 1 + F=(m + F) + 1 by omega,iter,h 0 (by omega)]
  exact wOj F m (fun i=>s (i + 1)) fun i hi=>h (i + 1) (by omega)
theorem wKt {body:S->Option (S ⊕ B)} {m:Nat} (s:Nat->S) (h:∀ i,i < m->body (s i)=some (.inl (s (i + 1)))) {b:B} (hb:body (s m)=some (.inr b)) {s0:S} (h0:s 0=s0) (hm:m < 1000000):iter body big s0=some b:=by
 subst h0
 have:=wOj (big - m - 1 + 1) m s h
 rw [show m + (big - m - 1 + 1)=big by unfold big;omega] at this
 rw [this,iter,hb]
theorem wEI {body:S->Option (S ⊕ B)} (I:Nat->S->Prop) (Z:B->Prop) (m:Nat) (step:∀ i s,i <= m->I i s->(i < m/\∃ s',body s=some (.inl s')/\I (i + 1) s') \/ ∃ b,body s=some (.inr b)/\Z b) {s0:S} (h0:I 0 s0) (hm:m < 1000000):∃ b,iter body big s0=some b/\Z b:=by
 have key:∀ (d i:Nat) (s:S),i + d=m->I i s->∀ F,d < F->∃ b,iter body F s=some b/\Z b:=by
  intro d
  induction d with
  | zero =>
   intro i s hi hI F hF
   obtain ⟨F,rfl⟩:∃ G,F=G + 1:=⟨F - 1,by omega⟩
   rcases step i s (by omega) hI with ⟨h,_⟩ | ⟨b,h1,h2⟩
   ·omega
   ·exact ⟨b,by rw [iter,h1],h2⟩
  | succ d ih =>
   intro i s hi hI F hF
   obtain ⟨F,rfl⟩:∃ G,F=G + 1:=⟨F - 1,by omega⟩
   rcases step i s (by omega) hI with ⟨_,s',h1,h2⟩ | ⟨b,h1,h2⟩
   ·obtain ⟨b,h3,h4⟩:=ih (i + 1) s' (by omega) h2 F (by omega)
    exact ⟨b,by rw [iter,h1];exact h3,h4⟩
   ·exact ⟨b,by rw [iter,h1],h2⟩
 exact key m 0 s0 (by omega) h0 big (by unfold big;omega)
theorem wKu {body:S->Option (S ⊕ B)} (I:Nat->S->Prop) {b:B} (m:Nat) {s0:S} (h0:I 0 s0) (hm:m < 1000000) (step:∀ i s,i <= m->I i s->(i < m/\∃ s',body s=some (.inl s')/\I (i + 1) s') \/ body s=some (.inr b)):iter body big s0=some b:=by
 obtain ⟨c,h1,h2⟩:=wEI (body:=body) I (fun c=>c=b) m (fun i s hi hI=>by
  rcases step i s hi hI with h | h
  ·exact .inl h
  ·exact .inr ⟨b,h,rfl⟩) h0 hm
 rw [h1,h2]
theorem wJr [Inhabited α] {l:List α} {i k:Nat} {x:α} (hi:i < l.length) (hk:k < l.length):gd (l.set i x) k=if k=i then x else gd l k:=by
 have h1:=wAy (xs:=l.set i x) (k:=k) (by rw [kA];exact hk)
 rw [List.getElem?_set] at h1
 by_cases e:i=k
 ·subst e
  rw [if_pos rfl,if_pos hi] at h1
  rw [if_pos rfl]
  exact (nL h1).symm
 ·rw [if_neg e,wAy hk] at h1
  rw [if_neg (fun h=>e h.symm)]
  exact (nL h1).symm
theorem wEB [Inhabited α] {l:List α} {k:Nat} (h:k < l.length):gd l k=l[k]:=by
 have:=wAy h
 rw [nk h] at this
 exact (nL this).symm
end Go.KL
namespace Go.Proofs.YtkedcbligiebkaaGreat
open Go.KL Go.KL.Net
structure EdOK (n:Nat) (e:wAd):Prop where
 f0:0 <= e.from_
 f1:e.from_ < n
 t0:0 <= e.to_
 t1:e.to_ < n
 c0:-400000 <= e.count
 c1:e.count <= 400000
def ed (p:Bool) (e:wAd):Ed:=if p then ⟨e.to_.toNat,e.from_.toNat,e.count⟩ else ⟨e.from_.toNat,e.to_.toNat,e.count⟩
abbrev SS:=List Int × List Int × Int
def spB (es:List wAd) (p2:Bool):Nat->SS->Option SS:=fun k1375 (l1372,l1373,x1374) =>
      ((idx es (↑k1375:Int)).bind fun x1412 =>
      if p2=true then
        (chk x1412.to_ l1372.length).bind fun _ =>
        if (gd l1372 x1412.to_.toNat) < 1125899906842624 then
          (chk x1412.from_ l1372.length).bind fun _ =>
          if (w64 ((gd l1372 x1412.to_.toNat) + x1412.count)) < (gd l1372 x1412.from_.toNat) then
            ((chk x1412.from_ l1373.length).bind fun _ =>
            some ()).bind fun _ =>
            some ((nY l1372 x1412.from_.toNat (w64 ((gd l1372 x1412.to_.toNat) + x1412.count))),(nY l1373 x1412.from_.toNat (↑k1375:Int)),x1412.from_)
          else
            some (l1372,l1373,x1374)
        else
          some (l1372,l1373,x1374)
      else
        (chk x1412.from_ l1372.length).bind fun _ =>
        if (gd l1372 x1412.from_.toNat) < 1125899906842624 then
          (chk x1412.to_ l1372.length).bind fun _ =>
          if (w64 ((gd l1372 x1412.from_.toNat) + x1412.count)) < (gd l1372 x1412.to_.toNat) then
            ((chk x1412.to_ l1373.length).bind fun _ =>
            some ()).bind fun _ =>
            some ((nY l1372 x1412.to_.toNat (w64 ((gd l1372 x1412.from_.toNat) + x1412.count))),(nY l1373 x1412.to_.toNat (↑k1375:Int)),x1412.to_)
          else
            some (l1372,l1373,x1374)
        else
          some (l1372,l1373,x1374)).bind fun (l1406,l1407,x1408) =>
      some (l1406,l1407,x1408)
theorem wTq {n:Nat} {es:List wAd} (hes:∀ e ∈ es,EdOK n e) {p:Bool} {k:Nat} (hk:k < es.length) {far by_:List Int} {last:Int} (hf:far.length=n) (hb:by_.length=n) {M:Int} (hM:M <= 1000000000000000) (h0:0 <= M) (hr:∀ v,v < n->gd far v=1125899906842624 \/ (-M <= gd far v/\gd far v <= M)) :
  (ed p (gd es k)).a < n/\(ed p (gd es k)).b < n /\
  spB es p k (far,by_,last)=some (if gd far (ed p (gd es k)).a < 1125899906842624/\gd far (ed p (gd es k)).a + (ed p (gd es k)).c < gd far (ed p (gd es k)).b then
   (far.set (ed p (gd es k)).b (gd far (ed p (gd es k)).a + (ed p (gd es k)).c),by_.set (ed p (gd es k)).b (k:Int),((ed p (gd es k)).b:Int)) else (far,by_,last)):=by
 obtain ⟨f0,f1,t0,t1,c0,c1⟩:=hes _ (wBH hk)
 have hw:∀ a:Int,0 <= a->a < n->gd far a.toNat < 1125899906842624->w64 (gd far a.toNat + (gd es k).count)=gd far a.toNat + (gd es k).count:=fun a h1 h2 h3=>by
  rcases hr a.toNat (by omega) with c | c
  ·omega
  ·exact wAa (by omega) (by omega)
 unfold spB ed
 rw [wDw hk]
 cases p with
 | true =>
  refine ⟨by simp only [if_true];omega,by simp only [if_true];omega,?_⟩
  simp only [hH,if_true]
  rw [wBJ t0 (by omega),hH]
  by_cases a:gd far (gd es k).to_.toNat < 1125899906842624
  ·rw [if_pos a,wBJ f0 (by omega),hH,hw _ t0 t1 a]
   by_cases b:gd far (gd es k).to_.toNat + (gd es k).count < gd far (gd es k).from_.toNat
   ·rw [if_pos b,wBJ f0 (by omega),if_pos ⟨a,b⟩]
    simp only [hH]
    rw [show (((gd es k).from_.toNat:Nat):Int)=(gd es k).from_ by omega]
   ·rw [if_neg b,if_neg (fun h=>b h.2)];rfl
  ·rw [if_neg a,if_neg (fun h=>a h.1)];rfl
 | false =>
  refine ⟨by simp only [nE,if_false];omega,by simp only [nE,if_false];omega,?_⟩
  simp only [hH,nE,if_false]
  rw [wBJ f0 (by omega),hH]
  by_cases a:gd far (gd es k).from_.toNat < 1125899906842624
  ·rw [if_pos a,wBJ t0 (by omega),hH,hw _ f0 f1 a]
   by_cases b:gd far (gd es k).from_.toNat + (gd es k).count < gd far (gd es k).to_.toNat
   ·rw [if_pos b,wBJ t0 (by omega),if_pos ⟨a,b⟩]
    simp only [hH]
    rw [show (((gd es k).to_.toNat:Nat):Int)=(gd es k).to_ by omega]
   ·rw [if_neg b,if_neg (fun h=>b h.2)];rfl
  ·rw [if_neg a,if_neg (fun h=>a h.1)];rfl
structure Ps (n:Nat) (es:List wAd) (p:Bool) (far:List Int) (M:Int) (i:Nat) (s:SS):Prop where
 fl:s.1.length=n
 bl:s.2.1.length=n
 rg:∀ v,v < n->gd s.1 v=1125899906842624 \/ (-(M + 400000 * (i:Int)) <= gd s.1 v/\gd s.1 v <= M + 400000 * (i:Int))
 le:∀ v,v < n->gd s.1 v <= gd far v
 ch:(s.2.2=-1/\s.1=far/\∀ e ∈ es.take i,gd far (ed p e).a < 1125899906842624->gd far (ed p e).b <= gd far (ed p e).a + (ed p e).c) \/ (0 <= s.2.2/\s.2.2 < n/\∃ v,v < n/\gd s.1 v < gd far v)
 fe:∀ x,wHn (es.map (ed p)) x->(∀ v,v < n->x v <= gd far v)->∀ v,v < n->x v <= gd s.1 v
 st:∀ δ,wHn (es.map (ed p)) δ->(∀ v,v < n->δ v <= gd far v)->(∀ v,v < n->δ v < 1125899906842624)->∀ e ∈ es.take i,gd far (ed p e).a=δ (ed p e).a->δ (ed p e).b=δ (ed p e).a + (ed p e).c->gd s.1 (ed p e).b=δ (ed p e).b
theorem wSE {n:Nat} {es:List wAd} (hes:∀ e ∈ es,EdOK n e) (hl:es.length <= 1000) (p:Bool) {far by_:List Int} (hf:far.length=n) (hb:by_.length=n) {M:Int} (hM:M <= 900000000000000) (h0:0 <= M) (hr:∀ v,v < n->gd far v=1125899906842624 \/ (-M <= gd far v/\gd far v <= M)) :
  ∃ s,wBr 0 (↑es.length:Int) (spB es p) (far,by_,-1)=some s/\Ps n es p far M es.length s:=by
 rw [wDP (by omega)]
 obtain ⟨s,e,P⟩:=wET (body:=spB es p) (fun i s=>Ps n es p far M i s) es.length 0 (far,by_,-1)
  ⟨hf,hb,fun v hv=>by have:=hr v hv;simp only;omega,fun _ _=>Int.le_refl _,.inl ⟨rfl,rfl,fun e he=>by simp at he⟩,fun _ _ h=>h,fun _ _ _ _ e he=>by simp at he⟩ (by
  rintro i ⟨f,b,last⟩ _ hi P
  have hi':i < es.length:=by omega
  obtain ⟨fl,bl,rg,le,ch,fe,st⟩:=P
  simp only at fl bl rg le ch fe st
  obtain ⟨ha,hbb,e⟩:=wTq hes (p:=p) hi' (last:=last) fl bl (M:=M + 400000 * (i:Int)) (by omega) (by omega) rg
  have hm:=wBH hi'
  have hok:=hes _ hm
  have hc:-400000 <= (ed p (gd es i)).c/\(ed p (gd es i)).c <= 400000:=by
   have:=hok.c0;have:=hok.c1
   unfold ed
   split <;> exact ⟨by assumption,by assumption⟩
  have hfe:∀ x,wHn (es.map (ed p)) x->x (ed p (gd es i)).b <= x (ed p (gd es i)).a + (ed p (gd es i)).c:=fun x hx=>hx _ (nv.2 ⟨_,hm,rfl⟩)
  have hends:∀ e ∈ es.take i,(ed p e).a < n/\(ed p e).b < n:=fun e he=>by
   obtain ⟨a1,a2,a3,a4,_,_⟩:=hes e (kS he)
   unfold ed
   split <;> (simp only;omega)
  generalize hE:ed p (gd es i)=E at ha hbb e hc hfe
  rw [e]
  by_cases c:gd f E.a < 1125899906842624/\gd f E.a + E.c < gd f E.b
  ·rw [if_pos c]
   obtain ⟨c1,c2⟩:=c
   have rga:-(M + 400000 * (i:Int)) <= gd f E.a/\gd f E.a <= M + 400000 * (i:Int):=by
    rcases rg E.a ha with q | q
    ·omega
    ·exact q
   have hg:∀ v,v < n->gd (f.set E.b (gd f E.a + E.c)) v=if v=E.b then gd f E.a + E.c else gd f v:=fun v hv=>wJr (by omega) (by omega)
   refine ⟨_,rfl,by simp [fl],by simp [bl],fun v hv=>?_,fun v hv=>?_,.inr ⟨by simp only;omega,by simp only;omega,E.b,hbb,?_⟩,fun x hx hxt v hv=>?_,fun δ hδ h1 h2 e' he' g1 g2=>?_⟩
   ·simp only
    rw [hg v hv]
    split
    ·right;omega
    ·rcases rg v hv with q | q
     ·exact .inl q
     ·right;omega
   ·simp only
    rw [hg v hv]
    split
    ·rename_i h;have:=le E.b hbb;rw [h];omega
    ·exact le v hv
   ·simp only
    rw [hg _ hbb,if_pos rfl]
    have:=le E.b hbb
    omega
   ·simp only
    rw [hg v hv]
    have:=fe x hx hxt
    split
    ·rename_i h
     have a1:=this E.a ha
     have a2:=hfe x hx
     rw [h];omega
    ·exact this v hv
   ·have lo:=fe δ hδ h1
    simp only
    rw [wDk hi'] at he'
    rcases nI.1 he' with he' | he'
    ·have old:=st δ hδ h1 h2 e' he' g1 g2
     rw [hg _ (hends e' he').2]
     split
     ·rename_i h
      have a1:=lo E.a ha
      have a2:=hfe δ hδ
      rw [h] at old ⊢
      omega
     ·exact old
    ·have:=nQ.1 he'
     subst this
     rw [hE] at g1 g2 ⊢
     rw [hg _ hbb,if_pos rfl]
     have a1:=lo E.a ha
     have a2:=le E.a ha
     omega
  ·rw [if_neg c]
   refine ⟨_,rfl,fl,bl,fun v hv=>?_,le,?_,fe,fun δ hδ h1 h2 e' he' g1 g2=>?_⟩
   ·rcases rg v hv with q | q
    ·exact .inl q
    ·right;simp only;omega
   ·simp only
    rcases ch with ⟨q1,q2,q3⟩ | q
    ·refine .inl ⟨q1,q2,fun e' he' g=>?_⟩
     rw [wDk hi'] at he'
     rcases nI.1 he' with he' | he'
     ·exact q3 e' he' g
     ·have:=nQ.1 he'
      subst this
      rw [hE] at g ⊢
      rw [q2] at c
      rcases kf (gd far E.a + E.c) (gd far E.b) with d | d
      ·exact absurd ⟨g,d⟩ c
      ·exact d
    ·exact .inr q
   ·have lo:=fe δ hδ h1
    rw [wDk hi'] at he'
    rcases nI.1 he' with he' | he'
    ·exact st δ hδ h1 h2 e' he' g1 g2
    ·have:=nQ.1 he'
     subst this
     rw [hE] at g1 g2 ⊢
     simp only
     have a1:=lo E.a ha
     have a2:=le E.a ha
     have a3:=lo E.b hbb
     have a4:=h2 E.a ha
     have fa:gd f E.a=δ E.a:=by omega
     rw [fa] at c
     rcases kf (δ E.a + E.c) (gd f E.b) with d | d
     ·exact absurd ⟨a4,d⟩ c
     ·omega)
 rw [nt] at P
 exact ⟨s,e,P⟩
end Go.Proofs.YtkedcbligiebkaaGreat
namespace Go.Proofs.YtkedcbligiebkaaGreat
open Go.KL Go.KL.Net
theorem wFD {α:Type} [Inhabited α] (l:List α) (k:Nat):gd l k=(l[k]?).getD default:=by unfold gd;rw [nK]
theorem wOk {α:Type} {m ys:List α} {a:Nat} (h:a <= m.length):(cpy m a ys).length=m.length:=by
 unfold cpy
 simp only [nD,nM,no]
 omega
theorem wQj {α:Type} [Inhabited α] {m ys:List α} {a j:Nat} (h:a <= m.length) (hj:j < m.length):gd (cpy m a ys) j=if j < a then gd m j else if j < a + ys.length then gd ys (j - a) else gd m j:=by
 rw [wFD,wFD,wFD]
 unfold cpy
 rw [nG]
 by_cases c:j < a
 ·rw [if_pos c,nh (by rw [nM];omega),kL,if_pos c]
 ·rw [if_neg c,nZ (by rw [nM];omega),nM,Nat.min_eq_left h]
  by_cases d:j < a + ys.length
  ·rw [if_pos d,nh (by rw [nM];omega),kL,if_pos (by omega)]
  ·rw [if_neg d,nZ (by rw [nM];omega),nM,List.getElem?_drop,Nat.min_eq_right (by omega)]
   congr 2
   omega
theorem wJs (x:Int) {n:Nat} (h1:1 <= n) (h2:n <= 1000):wBF [x] (n:Int)=some (nc n x):=by
 unfold wBF wDF
 have e1:wAf (([x]:List Int).length:Int)=1:=rfl
 have e2:wAf (n:Int)=n:=by unfold wAf;omega
 rw [if_neg (by omega),e1,e2,if_pos (by omega),hH]
 simp only
 rw [show (1:Int) * (n:Int) / 18446744073709551616=0 by omega,show (1:Int) * (n:Int) % 18446744073709551616=n by omega,if_neg (by omega),hH,decide_eq_false (by omega),if_neg (by simp),wAa (by omega) (by omega),mkz,if_pos (by omega),hH,wQO,if_pos (by simp),hH]
 have hlen:(nc (n:Int).toNat (0:Int)).length=n:=by simp
 generalize nc (n:Int).toNat (0:Int)=z at hlen
 have e3:((min ([x]:List Int).length z.length:Nat):Int)=1:=by simp only [nU];omega
 refine wKu (I:=fun i (s:List Int × Int)=>s.1.length=n/\(i:Int) + 1 <= s.2/\s.2 <= n/\∀ j,j < s.2.toNat->gd s.1 j=x) n ⟨by rw [wOk (by simp)];exact hlen,by simp only;omega,by simp only;omega,fun j hj=>?_⟩ (by omega) ?_
 ·simp only at hj ⊢
  rw [wQj (by simp) (by omega),if_neg (by simp),if_pos (by simp only [nU];omega)]
  have:j=0:=by omega
  subst this
  rfl
 ·rintro i ⟨l,k⟩ hi ⟨q1,q2,q3,q4⟩
  simp only at q1 q2 q3 q4 ⊢
  by_cases c:k < (l.length:Int)
  ·left
   refine ⟨by omega,?_⟩
   have hd:(List.take ((l.length:Int).toNat - k.toNat) (List.drop k.toNat l)).length=l.length - k.toNat:=by
    rw [nM,no];omega
   have ht:(List.take (k.toNat - (0:Int).toNat) (List.drop (0:Int).toNat l))=l.take k.toNat:=by simp
   rw [if_pos c,cut,if_pos (by omega),hH,cut,if_pos (by omega),hH,wQO,if_pos (by omega),hH,ht,hd,nM]
   rw [wAa (by omega) (by omega)]
   refine ⟨_,rfl,by simp only;rw [wOk (by omega)];exact q1,by simp only;omega,by simp only;omega,fun j hj=>?_⟩
   simp only at hj ⊢
   rw [wQj (by omega) (by omega),nM]
   by_cases d:j < k.toNat
   ·rw [if_pos d];exact q4 j d
   ·rw [if_neg d,if_pos (by omega)]
    have:=q4 (j - k.toNat) (by omega)
    rw [wFD] at this ⊢
    rw [kL,if_pos (by omega)]
    exact this
  ·right
   rw [if_neg c,wPO]
   have:l=nc n x:=wLk (by simp [q1]) fun j hj=>by
    rw [q4 j (by omega),wEB (by simpa [q1] using hj)];simp
   rw [this]
def wHi (i:Int) (v:Nat):Int:=if i < 0 \/ (v:Int)=i then 0 else 1125899906842624
theorem wQk (i:Int) (v:Nat):0 <= wHi i v/\wHi i v <= 1125899906842624:=by unfold wHi;split <;> omega
theorem wSF {n:Nat} (i:Int) {l:List Int} (hl:l.length=n) (hn:n <= 1000) (h0:∀ v,v < n->gd l v=1125899906842624):∃ y,(wBr 0 (↑l.length:Int) (fun k1254 l1253 =>
  if i < 0 then
   (chk (↑k1254:Int) l1253.length).bind fun _ =>
   some (nY l1253 k1254 0)
  else
   if (↑k1254:Int)=i then
    (chk (↑k1254:Int) l1253.length).bind fun _ =>
    some (nY l1253 k1254 0)
   else
    some l1253) l)=some y/\y.length=n/\∀ v,v < n->gd y v=wHi i v:=by
 rw [wDP (by omega)]
 obtain ⟨y,e,y1,y2⟩:=wET (body:=fun (k1254:Nat) (l1253:List Int) =>
  if i < 0 then
   (chk (↑k1254:Int) l1253.length).bind fun _ =>
   some (nY l1253 k1254 0)
  else
   if (↑k1254:Int)=i then
    (chk (↑k1254:Int) l1253.length).bind fun _ =>
    some (nY l1253 k1254 0)
   else
    some l1253) (fun k s=>s.length=n/\∀ v,v < n->gd s v=if v < k then wHi i v else 1125899906842624) l.length 0 l ⟨hl,fun v hv=>by rw [if_neg (by omega)];exact h0 v hv⟩ (by
  rintro k s _ hk ⟨s1,s2⟩
  have hk':k < n:=by omega
  have hset:∀ v,v < n->gd (s.set k 0) v=if v=k then 0 else gd s v:=fun v hv=>wJr (by omega) (by omega)
  by_cases c:i < 0 \/ (k:Int)=i
  ·have hb:(if i < 0 then (chk (↑k:Int) s.length).bind fun _=>some (nY s k 0) else if (↑k:Int)=i then (chk (↑k:Int) s.length).bind fun _=>some (nY s k 0) else some s)=some (s.set k 0):=by
    rw [wBJ (by omega) (by omega)]
    rcases c with c | c
    ·rw [if_pos c];rfl
    ·rw [if_pos c]
     split <;> rfl
   refine ⟨_,hb,by simp [s1],fun v hv=>?_⟩
   rw [hset v hv]
   by_cases e:v=k
   ·subst e
    rw [if_pos rfl,if_pos (by omega),wHi,if_pos c]
   ·rw [if_neg e,s2 v hv]
    by_cases d:v < k
    ·rw [if_pos d,if_pos (by omega)]
    ·rw [if_neg d,if_neg (by omega)]
  ·refine ⟨s,by rw [if_neg (fun h=>c (.inl h)),if_neg (fun h=>c (.inr h))],s1,fun v hv=>?_⟩
   rw [s2 v hv]
   by_cases d:v < k
   ·rw [if_pos d,if_pos (by omega)]
   ·by_cases e:v=k
    ·subst e
     rw [if_neg (by omega),if_pos (by omega),wHi,if_neg c]
    ·rw [if_neg d,if_neg (by omega)])
 rw [nt] at y2
 exact ⟨y,e,y1,fun v hv=>by rw [y2 v hv,if_pos (by omega)]⟩
structure SpT (n:Nat) (es:List Ed) (i:Int) (far:List Int):Prop where
 fl:far.length=n
 rl:∀ e ∈ es,gd far e.a < 1125899906842624->gd far e.b <= gd far e.a + e.c
 rg:∀ v,v < n->gd far v=1125899906842624 \/ (-400000000000 <= gd far v/\gd far v <= 400000000000)
 le:∀ v,v < n->gd far v <= wHi i v
 fe:∀ x,wHn es x->(∀ v,v < n->x v <= wHi i v)->∀ v,v < n->x v <= gd far v
structure SpI (n:Nat) (es:List Ed) (i:Int) (t:Nat) (s:SS):Prop where
 fl:s.1.length=n
 bl:s.2.1.length=n
 rg:∀ v,v < n->gd s.1 v=1125899906842624 \/ (-(400000000 * (t:Int)) <= gd s.1 v/\gd s.1 v <= 400000000 * (t:Int))
 le:∀ v,v < n->gd s.1 v <= wHi i v
 fe:∀ x,wHn es x->(∀ v,v < n->x v <= wHi i v)->∀ v,v < n->x v <= gd s.1 v
 st:∀ δ,Most n es (wHi i) δ->(∀ v,v < n->δ v < 1125899906842624)->t <= wSj n δ fun v=>gd s.1 v
 la:t=0 \/ (0 <= s.2.2/\s.2.2 < n)
theorem wJt {d:wAj} {n:Nat} (hn:d.number.length=n) (h1:1 <= n) (h2:n <= 500) (hes:∀ e ∈ d.edges,EdOK n e) (hl:d.edges.length <= 1000) (i:Int) (p:Bool) :
  ∃ f last ok,wAn d i p=some (f,last,ok)/\f.by_.length=n/\f.far.length=n/\(ok=true->SpT n (d.edges.map (ed p)) i f.far)/\(ok=false->0 <= last/\last < n/\∀ δ,Most n (d.edges.map (ed p)) (wHi i) δ->¬ ∀ v,v < n->δ v < 1125899906842624):=by
 unfold wAn
 rw [hn,wJs _ h1 (by omega),hH,wJs _ h1 (by omega),hH,hH]
 simp only
 obtain ⟨y,e1,y1,y2⟩:=wSF (n:=n) i (l:=nc n 1125899906842624) (by simp) (by omega) (fun v hv=>by rw [wEB (by simpa using hv)];simp)
 rw [e1,hH,wAa (by omega) (by omega)]
 have hn1:((n:Int) + 1)=((n + 1:Nat):Int):=by omega
 rw [hn1,wDg (by omega)]
 have hmap:∀ e ∈ d.edges.map (ed p),e.a < n/\e.b < n:=fun e he=>by
  obtain ⟨q,hq,rfl⟩:=nv.1 he
  obtain ⟨a1,a2,a3,a4,_,_⟩:=hes q hq
  unfold ed
  split <;> (simp only;omega)
 rcases wLi (B:=wCn × Int × Bool) (body:=fun (k1336:Nat) ((l1333,l1334,x1335):SS) =>
  (wBr 0 (↑d.edges.length:Int) (spB d.edges p) (l1333,l1334,-1)).bind fun (y1380,y1381,y1382) =>
  if y1382 < 0 then
   esc (some ((⟨y1380,y1381⟩:wCn),0,true))
  else
   some (.inl (y1380,y1381,y1382))) (fun t s=>SpI n (d.edges.map (ed p)) i t s) (fun b=>b.2.2=true/\b.1.by_.length=n/\SpT n (d.edges.map (ed p)) i b.1.far) (n + 1) 0 (y,nc n (-1),-1)
  ⟨y1,by simp,fun v hv=>by simp only;rw [y2 v hv];unfold wHi;split <;> omega,fun v hv=>by simp only;rw [y2 v hv];exact Int.le_refl _,fun x _ hx v hv=>by simp only;rw [y2 v hv];exact hx v hv,fun _ _ _=>kj _,.inl rfl⟩ (by
   rintro t ⟨far,by_,last⟩ _ ht ⟨fl,bl,rg,le,fe,st,la⟩
   simp only at fl bl rg le fe st
   obtain ⟨⟨far',by',last'⟩,e,P⟩:=wSE hes hl p fl bl (M:=400000000 * (t:Int)) (by omega) (by omega) rg
   obtain ⟨gl,ql,qg,qle,ch,qfe,qst⟩:=P
   simp only at gl ql qg qle ch qfe qst
   simp only
   rw [e,hH]
   simp only
   rcases ch with ⟨c1,c2,c3⟩ | ⟨c1,c2,v,hv,c3⟩
   ·right
    subst c1
    rw [if_pos (by omega)]
    refine ⟨_,rfl,rfl,ql,gl,fun e' he' hlt=>?_,fun v hv=>?_,fun v hv=>Int.le_trans (qle v hv) (le v hv),fun x hx hxt v hv=>qfe x hx (fe x hx hxt) v hv⟩
    ·obtain ⟨q,hq,rfl⟩:=nv.1 he'
     simp only at hlt ⊢
     rw [c2] at hlt ⊢
     rw [kP] at c3
     exact c3 q hq hlt
    ·simp only
     rw [c2]
     rcases rg v hv with q | q
     ·exact .inl q
     ·right;omega
   ·left
    rw [if_neg (by omega)]
    refine ⟨_,rfl,gl,ql,fun v hv=>?_,fun v hv=>Int.le_trans (qle v hv) (le v hv),fun x hx hxt v hv=>qfe x hx (fe x hx hxt) v hv,fun δ M hδ=>?_,.inr ⟨c1,c2⟩⟩
    ·simp only
     rcases qg v hv with q | q
     ·exact .inl q
     ·right;omega
    ·have old:=st δ M hδ
     have lo:=fe δ M.ok M.le
     have lo':=qfe δ M.ok lo
     simp only
     obtain ⟨e',he',g1,g2,g3⟩:=M.tight hmap (fun u=>gd far u) (fun u hu=>le u hu) ⟨v,hv,by have:=lo' v hv;omega⟩ lo
     obtain ⟨q,hq,rfl⟩:=nv.1 he'
     rw [kP] at qst
     have h5:=qst δ M.ok lo hδ q hq g1 g3
     have:=wSC (n:=n) (δ:=δ) (low:=fun u=>gd far u) (low':=fun u=>gd far' u) lo' (fun u hu=>qle u hu) (hmap _ he').2 g2 h5
     omega) with ⟨⟨far,by_,last⟩,e,I⟩ | ⟨⟨f,last,ok⟩,e,h3,h4,h5⟩
 ·refine ⟨⟨far,by_⟩,last,false,?_,I.bl,I.fl,(fun h=>by cases h),fun _=>?_⟩
  ·show jn (forN _ (n + 1) 0 (y,nc n (-1),-1)) _=_
   erw [e]
   rfl
  ·have hla:=I.la
   simp only at hla
   refine ⟨by omega,by omega,fun δ M hδ=>?_⟩
   have h6:0 + (n + 1) <= wSj n δ fun v=>gd far v:=I.st δ M hδ
   have:=wSB n δ fun v=>gd far v
   omega
 ·simp only at h3 h4 h5
  subst h3
  refine ⟨f,last,true,?_,h4,h5.fl,fun _=>h5,fun h=>by cases h⟩
  show jn (forN _ (n + 1) 0 (y,nc n (-1),-1)) _=_
  erw [e]
  rfl
theorem SpT.fin {n:Nat} {R:Int} {es:List Ed} (C:Con n R es) (hc:∀ e ∈ es,e.c <= 400000) {i:Int} {far:List Int} (S:SpT n es i far) {k:Nat} (hk:k < n) (h0:wHi i k=0):∀ v,v < n->gd far v < 1125899906842624 :=
 C.all (fun v=>v < n->gd far v < 1125899906842624) k hk (fun _=>by have:=S.le k hk;omega) (fun e he h _=>by
  obtain ⟨h1,h2⟩:=C.ends e he
  have a:=h h1
  have b:=S.rl e he a
  have c:=hc e he
  rcases S.rg e.a h1 with q | q <;> omega) |> fun h v hv=>h v hv hv
theorem SpT.feas {n:Nat} {R:Int} {es:List Ed} (C:Con n R es) (hc:∀ e ∈ es,e.c <= 400000) {i:Int} {far:List Int} (S:SpT n es i far) {k:Nat} (hk:k < n) (h0:wHi i k=0):wHn es fun v=>gd far v :=
 fun e he=>S.rl e he (S.fin C hc hk h0 e.a (C.ends e he).1)
theorem SpT.isD {n:Nat} {R:Int} (hR:R <= 1000000000000) {es:List Ed} (C:Con n R es) (hc:∀ e ∈ es,e.c <= 400000) {i:Nat} (hi:i < n) {far:List Int} (S:SpT n es i far):IsD n es i fun v=>gd far v:=by
 have t0:wHi i i=0:=by unfold wHi;rw [if_pos (.inr rfl)]
 have F:=S.feas C hc hi t0
 have gr:∀ x,wHn es x->∀ v,v < n->x v - x i <= gd far v:=fun x hx v hv=>by
  have:=S.fe (fun u=>x u + (-(x i))) (shift hx _) (fun u hu=>by
   show x u + (-(x i)) <= _
   have:=C.near x hx i u hi hu
   unfold wHi
   split
   ·rename_i h
    rcases h with h | h
    ·omega
    ·have:u=i:=by omega
     subst this;omega
   ·omega) v hv
  have this:x v + (-(x i)) <= gd far v:=this
  omega
 have h1:=gr _ F i hi
 have h2:=S.le i hi
 exact ⟨F,by show gd far i=0;omega,gr⟩
end Go.Proofs.YtkedcbligiebkaaGreat
namespace Go.KL
def wSG (q:Nat->Bool):Nat->Nat->Bool
 | 0,_=>true
 | m + 1,k=>q k && wSG q m (k + 1)
theorem wEJ (q:Nat->Bool):∀ m k,wSG q m k=true ↔ ∀ i,k <= i->i < k + m->q i=true
 | 0,k=>⟨fun _ i h1 h2=>by omega,fun _=>rfl⟩
 | m + 1,k=>by
  rw [wSG,nA,wEJ q m (k + 1)]
  constructor
  ·rintro ⟨h1,h2⟩ i h3 h4
   by_cases e:i=k
   ·exact e ▸ h1
   ·exact h2 i (by omega) (by omega)
  ·exact fun h=>⟨h k (by omega) (by omega),fun i h1 h2=>h i (by omega) (by omega)⟩
end Go.KL
namespace Go.Proofs.YtkedcbligiebkaaGreat
open Go.KL Go.KL.Net
structure RC (r:wAD):Prop where
 n:1 <= r.Starts.length/\r.Starts.length <= 8
 m:r.Splits.length <= 7
 c:r.Clocks.length <= 4
 q:r.Readings.length <= 40
 st:∀ s ∈ r.Starts,0 <= s/\s <= 360000
 sp:∀ s ∈ r.Splits,s.Lo <= s.Hi/\0 <= s.Lo/\s.Hi <= 360000
 ck:∀ s ∈ r.Clocks,(s.Offset.Lo <= s.Offset.Hi/\-36000 <= s.Offset.Lo/\s.Offset.Hi <= 36000)/\0 <= s.Error/\s.Error <= 600
 rt:∀ x ∈ r.Readings,0 <= x.Time/\x.Time <= 360000
 ru:∀ x ∈ r.Readings,0 <= x.Skier/\x.Skier < r.Starts.length/\0 <= x.Mat/\x.Mat <= r.Splits.length/\0 <= x.Clock/\x.Clock < r.Clocks.length
def zp:wAC:=⟨-1,0⟩
def wIE (r:wAD) (p:wAC):Prop:=p=zp \/ (0 <= p.skier/\p.skier < r.Starts.length/\0 <= p.mat/\p.mat <= r.Splits.length) \/ (p.skier=-1/\1 <= p.mat/\p.mat <= r.Clocks.length)
def wDx (r:wAD) (x:wAK):Prop :=
 (x.Kind=0/\0 <= x.Skier/\x.Skier < r.Starts.length/\x.Index=0) \/ (x.Kind=1/\0 <= x.Skier/\x.Skier < r.Starts.length/\0 <= x.Index/\x.Index < r.Splits.length) \/
 (x.Kind=2/\x.Skier=0/\0 <= x.Index/\x.Index < r.Clocks.length) \/ (x.Kind=3/\x.Skier=0/\0 <= x.Index/\x.Index < r.Readings.length)
abbrev Pt:=wAC
def wCl (r:wAD) (x:wAK):Pt × Pt × Int × Int :=
 if x.Kind=0 then (zp,⟨x.Skier,0⟩,gd r.Starts x.Skier.toNat,-gd r.Starts x.Skier.toNat)
 else if x.Kind=1 then (⟨x.Skier,x.Index⟩,⟨x.Skier,x.Index + 1⟩,(gd r.Splits x.Index.toNat).Hi,-(gd r.Splits x.Index.toNat).Lo)
 else if x.Kind=2 then (zp,⟨-1,1 + x.Index⟩,-(gd r.Clocks x.Index.toNat).Offset.Lo,(gd r.Clocks x.Index.toNat).Offset.Hi)
 else (⟨-1,1 + (gd r.Readings x.Index.toNat).Clock⟩,⟨(gd r.Readings x.Index.toNat).Skier,(gd r.Readings x.Index.toNat).Mat⟩,(gd r.Readings x.Index.toNat).Time + (gd r.Clocks (gd r.Readings x.Index.toNat).Clock.toNat).Error,(gd r.Clocks (gd r.Readings x.Index.toNat).Clock.toNat).Error - (gd r.Readings x.Index.toNat).Time)
def wDJ (r:wAD) (x:wAK):Pt × Pt × Int:=if x.Up=true then ((wCl r x).1,(wCl r x).2.1,(wCl r x).2.2.1) else ((wCl r x).2.1,(wCl r x).1,(wCl r x).2.2.2)
theorem wFb {α:Type} [Inhabited α] {l:List α} {i:Int} (h0:0 <= i) (h1:i < l.length):idx l i=some (gd l i.toNat):=by
 obtain ⟨k,rfl⟩:=Int.eq_ofNat_of_zero_le h0
 rw [wDw (by omega)]
 rfl
theorem wCV {α:Type} [Inhabited α] {l:List α} {i:Int} (h0:0 <= i) (h1:i < l.length):gd l i.toNat ∈ l:=wBH (by omega)
theorem wPp {r:wAD} (C:RC r) {x:wAK} (h:wDx r x):wBi r x=some (wDJ r x):=by
 unfold wBi wCB wDT wDU wDV wDW wDX wDY wDC wDD wCj wCe
 have hm:=C.m;have hc:=C.c;have hq:=C.q;have hn:=C.n
 rcases h with ⟨k,a,b,c⟩ | ⟨k,a,b,c,d⟩ | ⟨k,a,c,d⟩ | ⟨k,a,c,d⟩
 ·have g:=C.st _ (wCV a b)
  have e4:wCl r x=(zp,⟨x.Skier,0⟩,gd r.Starts x.Skier.toNat,-gd r.Starts x.Skier.toNat):=if_pos k
  have w:w64 (-gd r.Starts x.Skier.toNat)=-gd r.Starts x.Skier.toNat:=wAa (by omega) (by omega)
  rw [if_pos k,wFb a b]
  simp only [hH]
  rw [w]
  unfold wDJ
  rw [e4]
  split <;> rfl
 ·have g:=C.sp _ (wCV c d)
  have e4:wCl r x=(⟨x.Skier,x.Index⟩,⟨x.Skier,x.Index + 1⟩,(gd r.Splits x.Index.toNat).Hi,-(gd r.Splits x.Index.toNat).Lo):=(if_neg (by omega)).trans (if_pos k)
  have w:w64 (-(gd r.Splits x.Index.toNat).Lo)=-(gd r.Splits x.Index.toNat).Lo:=wAa (by omega) (by omega)
  have w2:w64 (x.Index + 1)=x.Index + 1:=wAa (by omega) (by omega)
  rw [if_neg (by omega),if_pos k,wFb c d]
  simp only [hH]
  rw [w,w2]
  unfold wDJ
  rw [e4]
  split <;> rfl
 ·have g:=C.ck _ (wCV c d)
  have e4:wCl r x=(zp,⟨-1,1 + x.Index⟩,-(gd r.Clocks x.Index.toNat).Offset.Lo,(gd r.Clocks x.Index.toNat).Offset.Hi):=(if_neg (by omega)).trans ((if_neg (by omega)).trans (if_pos k))
  have w:w64 (-(gd r.Clocks x.Index.toNat).Offset.Lo)=-(gd r.Clocks x.Index.toNat).Offset.Lo:=wAa (by omega) (by omega)
  have w2:w64 (1 + x.Index)=1 + x.Index:=wAa (by omega) (by omega)
  rw [if_neg (by omega),if_neg (by omega),if_pos k,wFb c d]
  simp only [hH]
  rw [w,w2]
  unfold wDJ
  rw [e4]
  split <;> rfl
 ·have g:=C.rt _ (wCV c d)
  have u:=C.ru _ (wCV c d)
  have gc:=C.ck _ (wCV u.2.2.2.2.1 u.2.2.2.2.2)
  have e4:wCl r x=(⟨-1,1 + (gd r.Readings x.Index.toNat).Clock⟩,⟨(gd r.Readings x.Index.toNat).Skier,(gd r.Readings x.Index.toNat).Mat⟩,(gd r.Readings x.Index.toNat).Time + (gd r.Clocks (gd r.Readings x.Index.toNat).Clock.toNat).Error,(gd r.Clocks (gd r.Readings x.Index.toNat).Clock.toNat).Error - (gd r.Readings x.Index.toNat).Time):=(if_neg (by omega)).trans ((if_neg (by omega)).trans (if_neg (by omega)))
  rw [if_neg (by omega),if_neg (by omega),if_neg (by omega),if_pos k,wFb c d]
  simp only [hH]
  rw [wFb u.2.2.2.2.1 u.2.2.2.2.2]
  simp only [hH]
  generalize gd r.Readings x.Index.toNat=X at *
  generalize gd r.Clocks X.Clock.toNat=Y at *
  have w:w64 (X.Time + Y.Error)=X.Time + Y.Error:=wAa (by omega) (by omega)
  have w2:w64 (1 + X.Clock)=1 + X.Clock:=wAa (by omega) (by omega)
  have w3:w64 (Y.Error - X.Time)=Y.Error - X.Time:=wAa (by omega) (by omega)
  rw [w,w2,w3]
  unfold wDJ
  rw [e4]
  split <;> rfl
theorem wGR {r:wAD} (C:RC r) {x:wAK} (h:wDx r x):wIE r (wDJ r x).1/\wIE r (wDJ r x).2.1/\-400000 <= (wDJ r x).2.2/\(wDJ r x).2.2 <= 400000:=by
 have key:wIE r (wCl r x).1/\wIE r (wCl r x).2.1/\(-400000 <= (wCl r x).2.2.1/\(wCl r x).2.2.1 <= 400000)/\(-400000 <= (wCl r x).2.2.2/\(wCl r x).2.2.2 <= 400000):=by
  have hn:=C.n
  unfold wCl
  rcases h with ⟨k,a,b,c⟩ | ⟨k,a,b,c,d⟩ | ⟨k,a,c,d⟩ | ⟨k,a,c,d⟩
  ·have g:=C.st _ (wCV a b)
   rw [if_pos k]
   exact ⟨.inl rfl,.inr (.inl ⟨a,b,by simp only;omega,by simp only;omega⟩),by simp only;omega,by simp only;omega⟩
  ·have g:=C.sp _ (wCV c d)
   rw [if_neg (by omega),if_pos k]
   exact ⟨.inr (.inl ⟨a,b,by simp only;omega,by simp only;omega⟩),.inr (.inl ⟨a,b,by simp only;omega,by simp only;omega⟩),by simp only;omega,by simp only;omega⟩
  ·have g:=C.ck _ (wCV c d)
   rw [if_neg (by omega),if_neg (by omega),if_pos k]
   exact ⟨.inl rfl,.inr (.inr ⟨rfl,by simp only;omega,by simp only;omega⟩),by simp only;omega,by simp only;omega⟩
  ·have g:=C.rt _ (wCV c d)
   have u:=C.ru _ (wCV c d)
   have gc:=C.ck _ (wCV u.2.2.2.2.1 u.2.2.2.2.2)
   rw [if_neg (by omega),if_neg (by omega),if_neg (by omega)]
   exact ⟨.inr (.inr ⟨rfl,by simp only;omega,by simp only;omega⟩),.inr (.inl ⟨u.1,u.2.1,u.2.2.1,u.2.2.2.1⟩),by simp only;omega,by simp only;omega⟩
 obtain ⟨h1,h2,h3,h4⟩:=key
 unfold wDJ
 split
 ·exact ⟨h1,h2,h3⟩
 ·exact ⟨h2,h1,h4⟩
def two (kind skier i:Nat):List wAK:=[⟨kind,skier,i,true⟩,⟨kind,skier,i,false⟩]
def wJu (kind skier m:Nat):List wAK:=(nN m).flatMap (two kind skier)
def skL (kind ns m:Nat):List wAK:=(nN ns).flatMap fun s=>wJu kind s m
def wJv (r:wAD):List wAK:=skL 0 r.Starts.length 1 ++ (skL 1 r.Starts.length r.Splits.length ++ (skL 2 1 r.Clocks.length ++ skL 3 1 r.Readings.length))
theorem wSH {kind ns m:Nat} {x:wAK}:x ∈ skL kind ns m ↔ x.Kind=kind/\0 <= x.Skier/\x.Skier < ns/\0 <= x.Index/\x.Index < m:=by
 unfold skL wJu two
 simp only [List.mem_flatMap,kJ,nJ,List.not_mem_nil,or_false]
 constructor
 ·rintro ⟨s,hs,i,hi,rfl | rfl⟩ <;> exact ⟨rfl,by simp only;omega,by simp only;omega,by simp only;omega,by simp only;omega⟩
 ·rintro ⟨a,b,c,d,e⟩
  refine ⟨x.Skier.toNat,by omega,x.Index.toNat,by omega,?_⟩
  obtain ⟨k,s,i,u⟩:=x
  simp only at a b c d e
  subst a
  rw [nT b,nT d]
  cases u <;> simp
theorem wEu {r:wAD} {x:wAK}:x ∈ wJv r ↔ wDx r x:=by
 unfold wJv wDx
 simp only [nI,wSH]
 omega
theorem wSI (kind ns m:Nat):(skL kind ns m).length=2 * m * ns:=by
 unfold skL wJu
 rw [kZ]
 have:∀ s:Nat,((nN m).flatMap (two kind s)).length=2 * m:=fun s=>by
  rw [kZ]
  have e:(nN m).map (fun a=>(two kind s a).length)=nc m 2:=by
   apply List.ext_getElem (by simp)
   intro i h1 h2
   simp [two]
  rw [e,kR]
  omega
 have e:(nN ns).map (fun s=>((nN m).flatMap (two kind s)).length)=nc ns (2 * m):=by
  apply List.ext_getElem (by simp)
  intro i h1 h2
  simp [this]
 rw [e,kR,Nat.mul_comm]
theorem wJw {r:wAD} (C:RC r):(wJv r).length <= 216:=by
 unfold wJv
 simp only [nD,wSI]
 have hm:=C.m;have hc:=C.c;have hq:=C.q;have hn:=C.n
 have h1:2 * r.Splits.length * r.Starts.length <= 14 * 8:=Nat.mul_le_mul (by omega) hn.2
 omega
section
variable {S E:Type}
def wJM (f:S->wAK->Option (S ⊕ E)):List wAK->S->Option (S ⊕ E)
 | [],s=>some (.inl s)
 | x :: l,s=>(f s x).bind fun y=>match y with
  | .inl s'=>wJM f l s'
  | .inr e=>some (.inr e)
theorem wLl (f:S->wAK->Option (S ⊕ E)):∀ (l m:List wAK) (s:S),wJM f (l ++ m) s=(wJM f l s).bind fun y=>match y with
  | .inl s'=>wJM f m s'
  | .inr e=>some (.inr e)
 | [],_,_=>rfl
 | x :: l,m,s=>by
  rw [nH,wJM,wJM]
  cases f s x with
  | none=>rfl
  | some y=>cases y with
   | inl s'=>exact wLl f l m s'
   | inr e=>rfl
def lif {B:Type} (k:E->B) (x:Option (S ⊕ E)):Option (S ⊕ B):=x.bind fun y=>match y with
 | .inl s=>some (.inl s)
 | .inr e=>some (.inr (k e))
theorem wGq {B:Type} (k:E->B) {body:Nat->S->Option (S ⊕ B)} {f:S->wAK->Option (S ⊕ E)} {L:Nat->List wAK}:∀ (m i:Nat) (s:S),(∀ j s,i <= j->j < i + m->body j s=lif k (wJM f (L j) s))->forN body m i s=lif k (wJM f ((List.range' i m).flatMap L) s)
 | 0,_,_,_=>rfl
 | m + 1,i,s,h=>by
  rw [forN,h i s (nO _) (by omega),List.range'_succ,ki,wLl]
  cases wJM f (L i) s with
  | none=>rfl
  | some y=>cases y with
   | inl s'=>exact wGq k m (i + 1) s' fun j s h1 h2=>h j s (by omega) (by omega)
   | inr e=>rfl
theorem wQl {B:Type} (k:E->B) (x:Option (S ⊕ E)):jn (lif (fun e=>(.inr (k e):S ⊕ B)) x) (fun y=>some (.inl y))=lif k x:=by
 cases x with
 | none=>rfl
 | some y=>cases y <;> rfl
theorem wTr (x:Option (S ⊕ E)):jn (lif (fun e=>(.inr e:S ⊕ E)) x) (fun y=>some (.inl y))=x:=by
 cases x with
 | none=>rfl
 | some y=>cases y <;> rfl
theorem wTs (f:S->wAK->Option (S ⊕ E)) (kind skier i:Nat) (s:S):((f s (⟨(kind:Int),(skier:Int),(i:Int),true⟩:wAK)).bind fun yr141 =>
          match yr141 with
          | .inl s151 =>
            (f s151 (⟨(kind:Int),(skier:Int),(i:Int),false⟩:wAK)).bind fun yr154 =>
            match yr154 with
            | .inl s164 =>
              some (.inl s164)
            | .inr s164 =>
              esc (esc (esc (some (.inr s164))))
          | .inr s151 =>
            esc (esc (esc (some (.inr s151)))))=lif (fun e=>(.inr (.inr (.inr e)):S ⊕ (S ⊕ (S ⊕ E)))) (wJM f (two kind skier i) s):=by
  unfold two
  rw [wJM]
  cases f s (⟨(kind:Int),(skier:Int),(i:Int),true⟩:wAK) with
  | none=>rfl
  | some y=>cases y with
    | inr e=>rfl
    | inl s' =>
      simp only [hH]
      rw [wJM]
      cases f s' (⟨(kind:Int),(skier:Int),(i:Int),false⟩:wAK) with
      | none=>rfl
      | some y=>cases y <;> rfl
theorem wOl (f:S->wAK->Option (S ⊕ E)) (s0:S) {r:wAD} (C:RC r):wBk f s0 r=wJM f (wJv r) s0:=by
  unfold wBk
  have hm:=C.m;have hc:=C.c;have hq:=C.q;have hn:=C.n
  have inner:∀ (kind skier m:Nat) (s:S),m <= 1000->(wFm 0 (m:Int) (fun k113 s111 =>
          (f s111 (⟨(kind:Int),(skier:Int),(↑k113:Int),true⟩:wAK)).bind fun yr141 =>
          match yr141 with
          | .inl s151 =>
            (f s151 (⟨(kind:Int),(skier:Int),(↑k113:Int),false⟩:wAK)).bind fun yr154 =>
            match yr154 with
            | .inl s164 =>
              some (.inl s164)
            | .inr s164 =>
              esc (esc (esc (some (.inr s164))))
          | .inr s151 =>
            esc (esc (esc (some (.inr s151))))) s)=lif (fun e=>(.inr (.inr (.inr e)):S ⊕ (S ⊕ (S ⊕ E)))) (wJM f (wJu kind skier m) s):=fun kind skier m s hm=>by
    rw [wDg (by omega),wGq (fun e=>(.inr (.inr (.inr e)):S ⊕ (S ⊕ (S ⊕ E)))) (f:=f) (L:=two kind skier) m 0 s fun j s _ _=>wTs f kind skier j s,<- kU]
    rfl
  have skier:∀ (kind ns m:Nat) (s:S),ns <= 1000->m <= 1000->(jn (wFm 0 (ns:Int) (fun k78 s76 =>
        jn (wFm 0 (m:Int) (fun k113 s111 =>
          (f s111 (⟨(kind:Int),(↑k78:Int),(↑k113:Int),true⟩:wAK)).bind fun yr141 =>
          match yr141 with
          | .inl s151 =>
            (f s151 (⟨(kind:Int),(↑k78:Int),(↑k113:Int),false⟩:wAK)).bind fun yr154 =>
            match yr154 with
            | .inl s164 =>
              some (.inl s164)
            | .inr s164 =>
              esc (esc (esc (some (.inr s164))))
          | .inr s151 =>
            esc (esc (esc (some (.inr s151))))) s76) fun y195 =>
        some (.inl y195)) s) fun y219 =>
      some (.inl y219))=lif (fun e=>(.inr e:S ⊕ E)) (wJM f (skL kind ns m) s):=fun kind ns m s hns hm=>by
    rw [wDg (by omega),wGq (fun e=>(.inr (.inr e):S ⊕ (S ⊕ E))) (f:=f) (L:=fun q=>wJu kind q m) ns 0 s fun j s _ _=>by rw [inner kind j m s hm,wQl],wQl,<- kU]
    rfl
  unfold wFm
  rw [if_pos (by omega)]
  show jn (forN _ 4 0 s0) _=_
  rw [wGq (fun e=>(.inr e:S ⊕ E)) (f:=f) (L:=fun k=>if k=0 then skL 0 r.Starts.length 1 else if k=1 then skL 1 r.Starts.length r.Splits.length else if k=2 then skL 2 1 r.Clocks.length else skL 3 1 r.Readings.length) 4 0 s0 fun j s _ hj=>?_,wTr]
  · congr 1
    show List.flatMap _ [0,1,2,3]=_
    simp only [ki,List.flatMap_nil,nj]
    rfl
  · have:j=0 \/ j=1 \/ j=2 \/ j=3:=by omega
    rcases this with rfl | rfl | rfl | rfl
    · exact skier 0 r.Starts.length 1 s (by omega) (by omega)
    · exact skier 1 r.Starts.length r.Splits.length s (by omega) (by omega)
    · exact skier 2 1 r.Clocks.length s (by omega) (by omega)
    · exact skier 3 1 r.Readings.length s (by omega) (by omega)
end
end Go.Proofs.YtkedcbligiebkaaGreat
namespace Go.Proofs.YtkedcbligiebkaaGreat
open Go.KL Go.KL.Net
def wEf:List Pt->Nat->List (Pt × Int)
 | [],_=>[]
 | p :: l,k=>(p,(k:Int)) :: wEf l (k + 1)
theorem wJB:∀ (l:List Pt) (k:Nat),(wEf l k).length=l.length
 | [],_=>rfl
 | _ :: l,k=>by rw [wEf,nS,nS,wJB l]
theorem wLm:∀ (l:List Pt) (p:Pt) (k:Nat),wEf (l ++ [p]) k=wEf l k ++ [(p,((k + l.length:Nat):Int))]
 | [],p,k=>by simp [wEf]
 | a :: l,p,k=>by
  rw [nH,wEf,wEf,wLm l p (k + 1),nH,nS]
  congr 4
  omega
theorem wLn:∀ {l:List Pt} {k:Nat} {p:Pt},p ∉ l->wGV (wEf l k) p=none/\∀ v,mput (wEf l k) p v=wEf l k ++ [(p,v)]
 | [],_,_,_=>⟨rfl,fun _=>rfl⟩
 | a :: l,k,p,h=>by
  rw [nJ,not_or] at h
  obtain ⟨h1,h2⟩:=wLn (l:=l) (k:=k + 1) h.2
  refine ⟨by rw [wEf,wGV,if_neg h.1];exact h1,fun v=>?_⟩
  rw [wEf,mput,if_neg h.1,h2 v];rfl
theorem wOm:∀ {l:List Pt} {k i:Nat},l.Nodup->i < l.length->wGV (wEf l k) (gd l i)=some ((k + i:Nat):Int)
 | a :: l,k,0,_,_=>by
  rw [wEf,wGV]
  exact if_pos rfl
 | a :: l,k,i + 1,nd,hi=>by
  rw [List.nodup_cons] at nd
  have hi':i < l.length:=by simpa using hi
  have e:gd (a :: l) (i + 1)=gd l i:=rfl
  have hne:gd l i ≠ a:=fun h=>nd.1 (h ▸ wBH hi')
  rw [e,wEf,wGV,if_neg hne,wOm nd.2 hi']
  congr 2
  omega
def pos (pts:List Pt) (p:Pt):Nat:=(wAw (wEf pts 0) p 0).toNat
theorem wLo {α:Type} [Inhabited α] {l:List α} {a:α} (h:a ∈ l):∃ i,i < l.length/\gd l i=a:=by
 obtain ⟨i,hi,e⟩:=List.getElem_of_mem h
 exact ⟨i,hi,by rw [wEB hi,e]⟩
theorem wLp {pts:List Pt} (nd:pts.Nodup) {i:Nat} (hi:i < pts.length):pos pts (gd pts i)=i/\wAw (wEf pts 0) (gd pts i) 0=(i:Int)/\wIg (wEf pts 0) (gd pts i)=true:=by
 unfold pos wAw wIg
 rw [wOm nd hi]
 simp
theorem wIW {pts:List Pt} (nd:pts.Nodup) {p:Pt} (h:p ∈ pts):pos pts p < pts.length/\gd pts (pos pts p)=p/\wAw (wEf pts 0) p 0=(pos pts p:Int)/\wIg (wEf pts 0) p=true:=by
 obtain ⟨i,hi,rfl⟩:=wLo h
 obtain ⟨h1,h2,h3⟩:=wLp nd hi
 rw [h1]
 exact ⟨hi,rfl,h2,h3⟩
def wHo (pts:List Pt) (p:Pt):List Pt:=if p ∈ pts then pts else pts ++ [p]
theorem wKv {pts:List Pt} (nd:pts.Nodup) (p:Pt):(wHo pts p).Nodup:=by
 unfold wHo
 split
 ·exact nd
 ·rename_i h
  rw [List.nodup_append]
  exact ⟨nd,by simp,fun a ha b hb e=>h (by rw [nQ.1 hb] at e;exact e ▸ ha)⟩
theorem wDb {pts:List Pt} {p q:Pt}:q ∈ wHo pts p ↔ q ∈ pts \/ q=p:=by
 unfold wHo
 split
 ·rename_i h
  exact ⟨.inl,fun e=>e.elim id fun e=>e ▸ h⟩
 ·rw [nI,nQ]
theorem wLq (pts:List Pt) (p:Pt):pts.length <= (wHo pts p).length/\(wHo pts p).length <= pts.length + 1:=by
 unfold wHo
 split <;> simp
theorem wLr {pts:List Pt} (nd:pts.Nodup) {p q:Pt} (h:q ∈ pts):wAw (wEf (wHo pts p) 0) q 0=wAw (wEf pts 0) q 0:=by
 unfold wHo
 split
 ·rfl
 ·rename_i hp
  obtain ⟨i,hi,rfl⟩:=wLo h
  have e:gd (pts ++ [p]) i=gd pts i:=wDa hi
  have nd2:=wKv nd p
  unfold wHo at nd2
  rw [if_neg hp] at nd2
  rw [(wLp nd hi).2.1,<- e,(wLp nd2 (by rw [nD];omega)).2.1]
theorem wLs {pts:List Pt} (nd:pts.Nodup) (p:Pt):(if (wIg (wEf pts 0) p)=true then some (wEf pts 0) else some (mput (wEf pts 0) p (↑((wEf pts 0).length):Int)))=some (wEf (wHo pts p) 0):=by
 by_cases h:p ∈ pts
 ·rw [if_pos (wIW nd h).2.2.2,wHo,if_pos h]
 ·have ho:=wLn (k:=0) h
  have hn:¬ wIg (wEf pts 0) p=true:=by unfold wIg;rw [ho.1];simp
  rw [if_neg hn,ho.2,wHo,if_neg h,wLm,wJB,nt]
theorem wOn {pts:List Pt} {p:Pt} {i:Nat} (h:i < pts.length):gd (wHo pts p) i=gd pts i:=by
 unfold wHo
 split
 ·rfl
 ·exact wDa h
def mkE (r:wAD) (pts:List Pt) (x:wAK):wAd:=⟨x,wAw (wEf pts 0) (wDJ r x).1 0,wAw (wEf pts 0) (wDJ r x).2.1 0,(wDJ r x).2.2⟩
structure Desk (r:wAD) (d:wAj) (pts:List Pt):Prop where
 c:RC r
 race:d.Race=r
 num:d.number=wEf pts 0
 nd:pts.Nodup
 len:1 <= pts.length/\pts.length <= 433
 zero:gd pts 0=zp
 all:∀ p,p ∈ pts ↔ wIE r p
 edges:d.edges=(wJv r).map (mkE r pts)
structure OpI (r:wAD) (pre:List wAK) (s:List wAd × List (Pt × Int)) (pts:List Pt):Prop where
 num:s.2=wEf pts 0
 nd:pts.Nodup
 len:1 <= pts.length/\pts.length <= 1 + 2 * pre.length
 zero:gd pts 0=zp
 ok:∀ p ∈ pts,wIE r p
 has:∀ x ∈ pre,(wDJ r x).1 ∈ pts/\(wDJ r x).2.1 ∈ pts
 edges:s.1=pre.map (mkE r pts)
def opF (r:wAD):List wAd × List (Pt × Int)->wAK->Option ((List wAd × List (Pt × Int)) ⊕ Empty):=fun (l1591,l1595) x1616 =>
  (wBi r x1616).bind fun (x1652,x1653,x1654) =>
  (wBr 0 2 (fun k1692 l1689 =>
   (idx ([x1652,x1653]:List wAC) (↑k1692:Int)).bind fun x1718 =>
   if (wIg l1689 x1718)=true then
    some l1689
   else
    some (mput l1689 x1718 (↑(l1689.length):Int))) l1595).bind fun y1697 =>
  (app 56 l1591 [(⟨x1616,(wAw y1697 x1652 0),(wAw y1697 x1653 0),x1654⟩:wAd)]).bind fun x1773 =>
  some (.inl (x1773,y1697))
theorem wTt {r:wAD} (C:RC r) {pre:List wAK} (hp:pre.length <= 216) {x:wAK} (hx:wDx r x) {s:List wAd × List (Pt × Int)} {pts:List Pt} (I:OpI r pre s pts):∃ s' pts',opF r s x=some (.inl s')/\OpI r (pre ++ [x]) s' pts':=by
 obtain ⟨es,num⟩:=s
 obtain ⟨hn,nd,hl,hz,ok,has,he⟩:=I
 simp only at hn he
 subst hn he
 obtain ⟨o1,o2,_,_⟩:=wGR C hx
 unfold opF
 simp only
 rw [wPp C hx,hH]
 have nd1:=wKv nd (wDJ r x).1
 have nd2:=wKv nd1 (wDJ r x).2.1
 have loop:(wBr 0 2 (fun k1692 l1689 =>
   (idx ([(wDJ r x).1,(wDJ r x).2.1]:List wAC) (↑k1692:Int)).bind fun x1718 =>
   if (wIg l1689 x1718)=true then
    some l1689
   else
    some (mput l1689 x1718 (↑(l1689.length):Int))) (wEf pts 0))=some (wEf (wHo (wHo pts (wDJ r x).1) (wDJ r x).2.1) 0):=by
  unfold wBr
  rw [if_pos (by omega)]
  show forN' _ 2 0 (wEf pts 0)=_
  have i0:idx ([(wDJ r x).1,(wDJ r x).2.1]:List wAC) ((0:Nat):Int)=some (wDJ r x).1:=rfl
  have i1:idx ([(wDJ r x).1,(wDJ r x).2.1]:List wAC) ((0 + 1:Nat):Int)=some (wDJ r x).2.1:=rfl
  simp only [forN',i0,i1,hH]
  rw [wLs nd]
  simp only
  rw [wLs nd1]
 rw [loop,hH,wEH (by rw [List.length_map];simp only [nS,nz];omega),hH]
 have l1:=wLq pts (wDJ r x).1
 have l2:=wLq (wHo pts (wDJ r x).1) (wDJ r x).2.1
 have same:∀ q ∈ pts,wAw (wEf (wHo (wHo pts (wDJ r x).1) (wDJ r x).2.1) 0) q 0=wAw (wEf pts 0) q 0:=fun q hq=>by
  rw [wLr nd1 (wDb.2 (.inl hq)),wLr nd hq]
 refine ⟨_,wHo (wHo pts (wDJ r x).1) (wDJ r x).2.1,rfl,rfl,nd2,⟨by omega,by rw [nD,nU];omega⟩,?_,fun p hp=>?_,fun y hy=>?_,?_⟩
 ·rw [wOn (by omega),wOn (by omega),hz]
 ·rcases wDb.1 hp with hp | rfl
  ·rcases wDb.1 hp with hp | rfl
   ·exact ok p hp
   ·exact o1
  ·exact o2
 ·rcases nI.1 hy with hy | hy
  ·obtain ⟨a,b⟩:=has y hy
   exact ⟨wDb.2 (.inl (wDb.2 (.inl a))),wDb.2 (.inl (wDb.2 (.inl b)))⟩
  ·have:=nQ.1 hy
   subst this
   exact ⟨wDb.2 (.inl (wDb.2 (.inr rfl))),wDb.2 (.inr rfl)⟩
 ·simp only
  rw [List.map_append]
  congr 1
  refine List.map_congr_left fun y hy=>?_
  obtain ⟨a,b⟩:=has y hy
  unfold mkE
  rw [same _ a,same _ b]
theorem skip (r:wAD) (p:Pt) (h:wIE r p) (C:RC r):p=zp \/ ∃ x,wDx r x/\(wDJ r x).2.1=p:=by
 rcases h with h | ⟨a,b,c,d⟩ | ⟨a,b,c⟩
 ·exact .inl h
 ·right
  by_cases e:p.mat=0
  ·refine ⟨⟨0,p.skier,0,true⟩,.inl ⟨rfl,a,b,rfl⟩,?_⟩
   show (⟨p.skier,0⟩:Pt)=p
   rw [<- e]
  ·refine ⟨⟨1,p.skier,p.mat - 1,true⟩,.inr (.inl ⟨rfl,a,b,by simp only;omega,by simp only;omega⟩),?_⟩
   show (⟨p.skier,p.mat - 1 + 1⟩:Pt)=p
   rw [nu]
 ·right
  refine ⟨⟨2,0,p.mat - 1,true⟩,.inr (.inr (.inl ⟨rfl,rfl,by simp only;omega,by simp only;omega⟩)),?_⟩
  show (⟨-1,1 + (p.mat - 1)⟩:Pt)=p
  rw [<- a,kQ,nu]
theorem wOo {r:wAD} (C:RC r):∃ d pts,wDE r=some d/\Desk r d pts:=by
 unfold wDE wCj wCX
 simp only [hH]
 rw [wOl _ _ C]
 have hlen:=wJw C
 have key:∀ (l pre:List wAK) (s:List wAd × List (Pt × Int)) (pts:List Pt),OpI r pre s pts->pre.length + l.length <= 216->(∀ x ∈ l,wDx r x)->∃ s' pts',wJM (opF r) l s=some (.inl s')/\OpI r (pre ++ l) s' pts':=by
  intro l
  induction l with
  | nil=>intro pre s pts I _ _;exact ⟨s,pts,rfl,by rw [nj];exact I⟩
  | cons x l ih =>
   intro pre s pts I hl hx
   simp only [nS] at hl
   obtain ⟨s1,p1,e,I1⟩:=wTt C (by omega) (hx x (by simp)) I
   obtain ⟨s2,p2,e2,I2⟩:=ih (pre ++ [x]) s1 p1 I1 (by rw [nD,nU];omega) fun y hy=>hx y (by simp [hy])
   refine ⟨s2,p2,by rw [wJM,e];exact e2,?_⟩
   rw [nG] at I2
   exact I2
 obtain ⟨⟨es,num⟩,pts,e,I⟩:=key (wJv r) [] ([],mput ([]:List (Pt × Int)) (⟨-1,0⟩:wAC) 0) [zp] ⟨rfl,by simp,⟨by simp,by simp⟩,rfl,fun p hp=>.inl (nQ.1 hp),(fun x hx=>by cases hx),rfl⟩ (by simpa using hlen) fun x hx=>wEu.1 hx
 rw [nV] at I
 have hz:zp ∈ pts:=I.zero ▸ wBH I.len.1
 refine ⟨⟨r,num,es⟩,pts,?_,C,rfl,I.num,I.nd,⟨I.len.1,by have:=I.len.2;omega⟩,I.zero,fun p=>⟨I.ok p,fun h=>?_⟩,I.edges⟩
 ·show (wJM (opF r) (wJv r) _).bind _=_
  rw [e]
  rfl
 ·rcases skip r p h C with rfl | ⟨x,hx,rfl⟩
  ·exact hz
  ·exact (I.has x (wEu.2 hx)).2
end Go.Proofs.YtkedcbligiebkaaGreat
namespace Go.Proofs.YtkedcbligiebkaaGreat
open Go.KL Go.KL.Net
def wDl (r:wAD) (y:Pt->Int):Prop:=∀ x,wDx r x->y (wDJ r x).2.1 <= y (wDJ r x).1 + (wDJ r x).2.2
section
variable {r:wAD} {y:Pt->Int}
theorem fp0 (F:wDl r y) {s:Int} (h0:0 <= s) (h1:s < r.Starts.length):y ⟨s,0⟩=y zp + gd r.Starts s.toNat:=by
 have a:y ⟨s,0⟩ <= y zp + gd r.Starts s.toNat:=F ⟨0,s,0,true⟩ (.inl ⟨rfl,h0,h1,rfl⟩)
 have b:y zp <= y ⟨s,0⟩ + -gd r.Starts s.toNat:=F ⟨0,s,0,false⟩ (.inl ⟨rfl,h0,h1,rfl⟩)
 omega
theorem fp1 (F:wDl r y) {s k:Int} (h0:0 <= s) (h1:s < r.Starts.length) (k0:0 <= k) (k1:k < r.Splits.length):y ⟨s,k⟩ + (gd r.Splits k.toNat).Lo <= y ⟨s,k + 1⟩/\y ⟨s,k + 1⟩ <= y ⟨s,k⟩ + (gd r.Splits k.toNat).Hi:=by
 have a:y ⟨s,k + 1⟩ <= y ⟨s,k⟩ + (gd r.Splits k.toNat).Hi:=F ⟨1,s,k,true⟩ (.inr (.inl ⟨rfl,h0,h1,k0,k1⟩))
 have b:y ⟨s,k⟩ <= y ⟨s,k + 1⟩ + -(gd r.Splits k.toNat).Lo:=F ⟨1,s,k,false⟩ (.inr (.inl ⟨rfl,h0,h1,k0,k1⟩))
 omega
theorem fp2 (F:wDl r y) {k:Int} (k0:0 <= k) (k1:k < r.Clocks.length):y ⟨-1,1 + k⟩ <= y zp - (gd r.Clocks k.toNat).Offset.Lo/\y zp <= y ⟨-1,1 + k⟩ + (gd r.Clocks k.toNat).Offset.Hi:=by
 have a:y ⟨-1,1 + k⟩ <= y zp + -(gd r.Clocks k.toNat).Offset.Lo:=F ⟨2,0,k,true⟩ (.inr (.inr (.inl ⟨rfl,rfl,k0,k1⟩)))
 have b:y zp <= y ⟨-1,1 + k⟩ + (gd r.Clocks k.toNat).Offset.Hi:=F ⟨2,0,k,false⟩ (.inr (.inr (.inl ⟨rfl,rfl,k0,k1⟩)))
 omega
theorem wMa (C:RC r) (F:wDl r y) {p:Pt} (hp:wIE r p):-3300000 <= y p - y zp/\y p - y zp <= 3300000:=by
 rcases hp with rfl | ⟨a,b,c,d⟩ | ⟨a,b,c⟩
 ·omega
 ·have key:∀ k:Nat,(k:Int) <= r.Splits.length->0 <= y ⟨p.skier,k⟩ - y zp/\y ⟨p.skier,k⟩ - y zp <= 360000 * ((k:Int) + 1):=by
   intro k
   induction k with
   | zero =>
    intro _
    have:=fp0 F a b
    have:=C.st _ (wCV a b)
    show 0 <= y ⟨p.skier,0⟩ - y zp/\y ⟨p.skier,0⟩ - y zp <= _
    omega
   | succ k ih =>
    intro hk
    have h:=ih (by omega)
    have f:=fp1 F a b (k:=(k:Int)) (by omega) (by omega)
    have g:=C.sp _ (wCV (l:=r.Splits) (i:=(k:Int)) (by omega) (by omega))
    have e:((k + 1:Nat):Int)=(k:Int) + 1:=by omega
    rw [e]
    omega
  have:=key p.mat.toNat (by omega)
  rw [nT c] at this
  have hm:=C.m
  have e:(⟨p.skier,p.mat⟩:Pt)=p:=rfl
  rw [e] at this
  omega
 ·have f:=fp2 F (k:=p.mat - 1) (by omega) (by omega)
  have g:=(C.ck _ (wCV (l:=r.Clocks) (i:=p.mat - 1) (by omega) (by omega))).1
  have e:(⟨-1,1 + (p.mat - 1)⟩:Pt)=p:=by rw [<- a,kQ,nu]
  rw [e] at f
  omega
theorem to_zp {S:Pt->Prop} (hS:∀ x,wDx r x->S (wDJ r x).1->S (wDJ r x).2.1) {p:Pt} (hp:wIE r p) (h:S p):S zp:=by
 rcases hp with rfl | ⟨a,b,c,d⟩ | ⟨a,b,c⟩
 ·exact h
 ·have key:∀ k:Nat,(k:Int) <= r.Splits.length->S ⟨p.skier,k⟩->S zp:=by
   intro k
   induction k with
   | zero=>intro _ hk;exact hS ⟨0,p.skier,0,false⟩ (.inl ⟨rfl,a,b,rfl⟩) hk
   | succ k ih =>
    intro hk h
    refine ih (by omega) ?_
    have e:((k + 1:Nat):Int)=(k:Int) + 1:=by omega
    rw [e] at h
    exact hS ⟨1,p.skier,k,false⟩ (.inr (.inl ⟨rfl,a,b,by simp only;omega,by simp only;omega⟩)) h
  refine key p.mat.toNat (by omega) ?_
  rw [nT c];exact h
 ·have e:(⟨-1,1 + (p.mat - 1)⟩:Pt)=p:=by rw [<- a,kQ,nu]
  refine hS ⟨2,0,p.mat - 1,false⟩ (.inr (.inr (.inl ⟨rfl,rfl,by simp only;omega,by simp only;omega⟩))) ?_
  show S ⟨-1,1 + (p.mat - 1)⟩
  rw [e];exact h
theorem of_zp {S:Pt->Prop} (hS:∀ x,wDx r x->S (wDJ r x).1->S (wDJ r x).2.1) (h:S zp) {p:Pt} (hp:wIE r p):S p:=by
 rcases hp with rfl | ⟨a,b,c,d⟩ | ⟨a,b,c⟩
 ·exact h
 ·have key:∀ k:Nat,(k:Int) <= r.Splits.length->S ⟨p.skier,k⟩:=by
   intro k
   induction k with
   | zero=>intro _;exact hS ⟨0,p.skier,0,true⟩ (.inl ⟨rfl,a,b,rfl⟩) h
   | succ k ih =>
    intro hk
    have e:((k + 1:Nat):Int)=(k:Int) + 1:=by omega
    rw [e]
    exact hS ⟨1,p.skier,k,true⟩ (.inr (.inl ⟨rfl,a,b,by simp only;omega,by simp only;omega⟩)) (ih (by omega))
  have:=key p.mat.toNat (by omega)
  rw [nT c] at this
  exact this
 ·have e:(⟨-1,1 + (p.mat - 1)⟩:Pt)=p:=by rw [<- a,kQ,nu]
  have:=hS ⟨2,0,p.mat - 1,true⟩ (.inr (.inr (.inl ⟨rfl,rfl,by simp only;omega,by simp only;omega⟩))) h
  rw [<- e];exact this
def turn (x:wAK):wAK:=⟨x.Kind,x.Skier,x.Index,!x.Up⟩
theorem wSJ {x:wAK} (h:wDx r x):wDx r (turn x)/\(wDJ r (turn x)).1=(wDJ r x).2.1/\(wDJ r (turn x)).2.1=(wDJ r x).1:=by
 refine ⟨h,?_⟩
 obtain ⟨k,s,i,u⟩:=x
 unfold wDJ turn
 cases u <;> exact ⟨rfl,rfl⟩
structure IsDP (r:wAD) (a:Pt) (f:Pt->Int):Prop where
 ok:wDl r f
 zero:f a=0
 gr:∀ y,wDl r y->∀ p,wIE r p->y p - y a <= f p
theorem IsDP.one {a:Pt} {f g:Pt->Int} (F:IsDP r a f) (G:IsDP r a g) {p:Pt} (hp:wIE r p):f p=g p:=by
 have h1:=F.gr g G.ok p hp
 have h2:=G.gr f F.ok p hp
 have:=F.zero;have:=G.zero
 omega
theorem IsDP.near {a:Pt} {f:Pt->Int} (C:RC r) (F:IsDP r a f) (ha:wIE r a) {p:Pt} (hp:wIE r p):-6600000 <= f p/\f p <= 6600000:=by
 have h1:=wMa C F.ok ha
 have h2:=wMa C F.ok hp
 have:=F.zero
 omega
end
section
variable {r:wAD} {d:wAj} {pts:List Pt} (D:Desk r d pts)
include D
theorem Desk.pos_ok {p:Pt} (hp:wIE r p):pos pts p < pts.length/\gd pts (pos pts p)=p/\wAw d.number p 0=(pos pts p:Int):=by
 obtain ⟨h1,h2,h3,_⟩:=wIW D.nd ((D.all p).2 hp)
 exact ⟨h1,h2,by rw [D.num];exact h3⟩
theorem Desk.gd_ok {v:Nat} (hv:v < pts.length):wIE r (gd pts v)/\pos pts (gd pts v)=v:=⟨(D.all _).1 (wBH hv),(wLp D.nd hv).1⟩
theorem Desk.ed_is {x:wAK} (h:wDx r x) (p:Bool):ed p (mkE r pts x)=if p then ⟨pos pts (wDJ r x).2.1,pos pts (wDJ r x).1,(wDJ r x).2.2⟩ else ⟨pos pts (wDJ r x).1,pos pts (wDJ r x).2.1,(wDJ r x).2.2⟩:=by
 obtain ⟨o1,o2,_,_⟩:=wGR D.c h
 have h1:=(wIW D.nd ((D.all _).2 o1)).2.2.1
 have h2:=(wIW D.nd ((D.all _).2 o2)).2.2.1
 unfold ed mkE
 simp only [h1,h2,nl]
theorem Desk.mem {p:Bool} {e:Ed}:e ∈ d.edges.map (ed p) ↔ ∃ x,wDx r x/\e=ed p (mkE r pts x):=by
 rw [D.edges,List.map_map]
 constructor
 ·intro h
  obtain ⟨x,hx,rfl⟩:=nv.1 h
  exact ⟨x,wEu.1 hx,rfl⟩
 ·rintro ⟨x,hx,rfl⟩
  exact nv.2 ⟨x,wEu.2 hx,rfl⟩
theorem Desk.edOK:∀ e ∈ d.edges,EdOK pts.length e:=by
 intro e he
 rw [D.edges] at he
 obtain ⟨x,hx,rfl⟩:=nv.1 he
 have h:=wEu.1 hx
 obtain ⟨o1,o2,c1,c2⟩:=wGR D.c h
 obtain ⟨h1,_,h2,_⟩:=wIW D.nd ((D.all _).2 o1)
 obtain ⟨g1,_,g2,_⟩:=wIW D.nd ((D.all _).2 o2)
 unfold mkE
 rw [h2,g2]
 exact ⟨by simp only;omega,by simp only;omega,by simp only;omega,by simp only;omega,c1,c2⟩
theorem Desk.elen:d.edges.length <= 1000:=by
 have:=wJw D.c
 rw [D.edges,List.length_map]
 omega
theorem Desk.feas {y:Pt->Int} (F:wDl r y):wHn (d.edges.map (ed false)) fun v=>y (gd pts v):=by
 intro e he
 obtain ⟨x,hx,rfl⟩:=D.mem.1 he
 obtain ⟨o1,o2,_,_⟩:=wGR D.c hx
 rw [D.ed_is hx]
 simp only [nE,if_false]
 rw [(D.pos_ok o1).2.1,(D.pos_ok o2).2.1]
 exact F x hx
theorem Desk.back {z:Nat->Int} (F:wHn (d.edges.map (ed false)) z):wDl r fun p=>z (pos pts p):=by
 intro x hx
 have:=F _ (D.mem.2 ⟨x,hx,rfl⟩)
 rw [D.ed_is hx] at this
 simp only [nE,if_false] at this
 exact this
theorem Desk.backT {z:Nat->Int} (F:wHn (d.edges.map (ed true)) z):wDl r fun p=>-z (pos pts p):=by
 intro x hx
 have:=F _ (D.mem.2 ⟨x,hx,rfl⟩)
 rw [D.ed_is hx] at this
 simp only [if_true] at this
 simp only
 omega
theorem Desk.con (p:Bool):Con pts.length 6600000 (d.edges.map (ed p)):=by
 refine ⟨fun e he=>?_,fun z hz a b ha hb=>?_,fun S i hi hSi hS v hv=>?_⟩
 ·obtain ⟨x,hx,rfl⟩:=D.mem.1 he
  obtain ⟨o1,o2,_,_⟩:=wGR D.c hx
  have h1:=(D.pos_ok o1).1
  have h2:=(D.pos_ok o2).1
  rw [D.ed_is hx]
  split
  ·exact ⟨h2,h1⟩
  ·exact ⟨h1,h2⟩
 ·obtain ⟨pa,ea⟩:=D.gd_ok ha
  obtain ⟨pb,eb⟩:=D.gd_ok hb
  cases p with
  | false =>
   have h1:=wMa D.c (D.back hz) pa
   have h2:=wMa D.c (D.back hz) pb
   simp only [ea,eb] at h1 h2
   omega
  | true =>
   have h1:=wMa D.c (D.backT hz) pa
   have h2:=wMa D.c (D.backT hz) pb
   simp only [ea,eb] at h1 h2
   omega
 ·have hcl:∀ x,wDx r x->S (pos pts (wDJ r x).1)->S (pos pts (wDJ r x).2.1):=fun x hx h=>by
   cases p with
   | false =>
    have:=hS _ (D.mem.2 ⟨x,hx,rfl⟩)
    rw [D.ed_is hx] at this
    simp only [nE,if_false] at this
    exact this h
   | true =>
    obtain ⟨t1,t2,t3⟩:=wSJ hx
    have:=hS _ (D.mem.2 ⟨_,t1,rfl⟩)
    rw [D.ed_is t1] at this
    simp only [if_true] at this
    rw [t2,t3] at this
    exact this h
  obtain ⟨pi,ei⟩:=D.gd_ok hi
  obtain ⟨pv,ev⟩:=D.gd_ok hv
  have:=of_zp (S:=fun q=>S (pos pts q)) hcl (to_zp (S:=fun q=>S (pos pts q)) hcl pi (by show S (pos pts (gd pts i));rw [ei];exact hSi)) pv
  have this:S (pos pts (gd pts v)):=this
  rwa [ev] at this
theorem Desk.cost (p:Bool):∀ e ∈ d.edges.map (ed p),e.c <= 400000:=by
 intro e he
 obtain ⟨x,hx,rfl⟩:=D.mem.1 he
 obtain ⟨_,_,_,c⟩:=wGR D.c hx
 rw [D.ed_is hx]
 split <;> exact c
theorem Desk.nlen:d.number.length=pts.length:=by rw [D.num,wJB]
theorem Desk.any:∃ f last ok,wAn d (-1) false=some (f,last,ok)/\f.far.length=pts.length/\f.by_.length=pts.length/\(ok=true ↔ ∃ y,wDl r y)/\(ok=true->wDl r fun p=>gd f.far (pos pts p))/\(ok=false->0 <= last/\last < pts.length):=by
 obtain ⟨f,last,ok,e,bl,fl,h1,h2⟩:=wJt D.nlen D.len.1 (by have:=D.len.2;omega) D.edOK D.elen (-1) false
 have hp:0 < pts.length:=D.len.1
 have t0:wHi (-1) 0=0:=by unfold wHi;rw [if_pos (.inl (by omega))]
 have feas:ok=true->wDl r fun p=>gd f.far (pos pts p):=fun h=>D.back ((h1 h).feas (D.con false) (D.cost false) hp t0)
 refine ⟨f,last,ok,e,fl,bl,⟨fun h=>⟨_,feas h⟩,fun ⟨y,hy⟩=>?_⟩,feas,fun h=>⟨(h2 h).1,(h2 h).2.1⟩⟩
 cases ok with
 | true=>rfl
 | false =>
  exfalso
  obtain ⟨δ,M⟩:=wOi (D.con false) (D.feas hy) hp t0 (fun v _=>(wQk (-1) v).1)
  exact (h2 rfl).2.2 δ M fun v hv=>by have:=M.hi (D.con false) hp t0 v hv;omega
theorem Desk.from_ (hy:∃ y,wDl r y) {a:Pt} (ha:wIE r a):∃ f last,wAn d (pos pts a:Int) false=some (f,last,true)/\f.far.length=pts.length/\IsDP r a fun p=>gd f.far (pos pts p):=by
 obtain ⟨f,last,ok,e,bl,fl,h1,h2⟩:=wJt D.nlen D.len.1 (by have:=D.len.2;omega) D.edOK D.elen (pos pts a:Int) false
 obtain ⟨hp,hg,_⟩:=D.pos_ok ha
 have t0:wHi (pos pts a:Int) (pos pts a)=0:=by unfold wHi;rw [if_pos (.inr rfl)]
 obtain ⟨y,hy⟩:=hy
 have hok:ok=true:=by
  cases ok with
  | true=>rfl
  | false =>
   exfalso
   obtain ⟨δ,M⟩:=wOi (D.con false) (D.feas hy) hp t0 (fun v _=>(wQk _ v).1)
   exact (h2 rfl).2.2 δ M fun v hv=>by have:=M.hi (D.con false) hp t0 v hv;omega
 subst hok
 have I:=(h1 rfl).isD (by omega) (D.con false) (D.cost false) hp
 refine ⟨f,last,e,fl,D.back I.ok,I.zero,fun z hz p hpt=>?_⟩
 have:=I.gr _ (D.feas hz) (pos pts p) (D.pos_ok hpt).1
 simp only [hg,(D.pos_ok hpt).2.1] at this
 exact this
end
end Go.Proofs.YtkedcbligiebkaaGreat
namespace Go.Proofs.YtkedcbligiebkaaGreat
open Go.KL Go.KL.Net
open Classical
structure F4 (r:wAD) (y:Pt->Int):Prop where
 a:∀ s:Nat,s < r.Starts.length->y ⟨(s:Int),0⟩=y zp + gd r.Starts s
 b:∀ s k:Nat,s < r.Starts.length->k < r.Splits.length->(gd r.Splits k).Lo <= y ⟨(s:Int),(k:Int) + 1⟩ - y ⟨(s:Int),(k:Int)⟩/\y ⟨(s:Int),(k:Int) + 1⟩ - y ⟨(s:Int),(k:Int)⟩ <= (gd r.Splits k).Hi
 c:∀ k:Nat,k < r.Clocks.length->y ⟨-1,1 + (k:Int)⟩ <= y zp - (gd r.Clocks k).Offset.Lo/\y zp <= y ⟨-1,1 + (k:Int)⟩ + (gd r.Clocks k).Offset.Hi
 d:∀ x ∈ r.Readings,y ⟨x.Skier,x.Mat⟩ <= y ⟨-1,1 + x.Clock⟩ + (x.Time + (gd r.Clocks x.Clock.toNat).Error)/\y ⟨-1,1 + x.Clock⟩ <= y ⟨x.Skier,x.Mat⟩ + ((gd r.Clocks x.Clock.toNat).Error - x.Time)
theorem wTu {r:wAD} {y:Pt->Int}:wDl r y ↔ F4 r y:=by
 constructor
 ·intro F
  refine ⟨fun s hs=>?_,fun s k hs hk=>?_,fun k hk=>?_,fun x hx=>?_⟩
  ·have h:=fp0 F (s:=(s:Int)) (by omega) (by omega)
   rwa [nl] at h
  ·have h:=fp1 F (s:=(s:Int)) (k:=(k:Int)) (by omega) (by omega) (by omega) (by omega)
   rw [nl] at h
   omega
  ·have h:=fp2 F (k:=(k:Int)) (by omega) (by omega)
   rwa [nl] at h
  ·obtain ⟨k,hk,rfl⟩:=wLo hx
   have a:y ⟨(gd r.Readings k).Skier,(gd r.Readings k).Mat⟩ <= y ⟨-1,1 + (gd r.Readings k).Clock⟩ + ((gd r.Readings k).Time + (gd r.Clocks (gd r.Readings k).Clock.toNat).Error):=F ⟨3,0,(k:Int),true⟩ (.inr (.inr (.inr ⟨rfl,rfl,by simp only;omega,by simp only;omega⟩)))
   have b:y ⟨-1,1 + (gd r.Readings k).Clock⟩ <= y ⟨(gd r.Readings k).Skier,(gd r.Readings k).Mat⟩ + ((gd r.Clocks (gd r.Readings k).Clock.toNat).Error - (gd r.Readings k).Time):=F ⟨3,0,(k:Int),false⟩ (.inr (.inr (.inr ⟨rfl,rfl,by simp only;omega,by simp only;omega⟩)))
   exact ⟨a,b⟩
 ·rintro ⟨h1,h2,h3,h4⟩ x hx
  have key:y (wCl r x).2.1 <= y (wCl r x).1 + (wCl r x).2.2.1/\y (wCl r x).1 <= y (wCl r x).2.1 + (wCl r x).2.2.2:=by
   unfold wCl
   rcases hx with ⟨k,a,b,c⟩ | ⟨k,a,b,c,d⟩ | ⟨k,a,c,d⟩ | ⟨k,a,c,d⟩
   ·have h:=h1 x.Skier.toNat (by omega)
    rw [nT a] at h
    rw [if_pos k]
    simp only
    omega
   ·have h:=h2 x.Skier.toNat x.Index.toNat (by omega) (by omega)
    rw [nT a,nT c] at h
    rw [if_neg (by omega),if_pos k]
    simp only
    omega
   ·have h:=h3 x.Index.toNat (by omega)
    rw [nT c] at h
    rw [if_neg (by omega),if_neg (by omega),if_pos k]
    simp only
    omega
   ·have h:=h4 _ (wCV c d)
    rw [if_neg (by omega),if_neg (by omega),if_neg (by omega)]
    simp only
    omega
  unfold wDJ
  split
  ·exact key.1
  ·exact key.2
end Go.Proofs.YtkedcbligiebkaaGreat
namespace Go.Proofs.YtkedcbligiebkaaGreat
open Go.KL Go.KL.Net
def inB (n lo hi:Int):Bool:=decide (lo <= n/\n <= hi)
theorem wKw (n lo hi:Int):wCU n lo hi=some (inB n lo hi):=by
 unfold wCU inB
 by_cases h:lo <= n
 ·rw [if_pos h];simp [h]
 ·rw [if_neg h];simp [h]
def wPq (s:wAG) (lo hi:Int):Bool:=decide (s.Lo <= s.Hi/\lo <= s.Lo/\s.Hi <= hi)
theorem wIX (s:wAG) (lo hi:Int):wCG s lo hi=some (wPq s lo hi):=by
 unfold wCG wPq
 by_cases h:s.Lo <= s.Hi
 ·by_cases h2:lo <= s.Lo
  ·rw [if_pos h,if_pos h2];simp [h,h2]
  ·rw [if_pos h,if_neg h2];simp [h2]
 ·rw [if_neg h];simp [h]
theorem wOp {l:List Int} {f:Int->Option Bool} {p:Int->Bool} (hf:∀ a ∈ l,f a=some (p a)) (hn:l.length <= 1000):wBx l f=some (l.all p):=by
 unfold wBx
 refine (wFB (R:=Bool) (p:=p) (z:=false) (K:=fun _=>some true) (fun a ha=>?_) (by omega)).trans ?_
 ·rw [hf a ha,hH];split <;> rfl
 ·split <;> simp_all
theorem wMb {l:List wAG} {f:wAG->Option Bool} {p:wAG->Bool} (hf:∀ a ∈ l,f a=some (p a)) (hn:l.length <= 1000):wBV l f=some (l.all p):=by
 unfold wBV
 refine (wFB (R:=Bool) (p:=p) (z:=false) (K:=fun _=>some true) (fun a ha=>?_) (by omega)).trans ?_
 ·rw [hf a ha,hH];split <;> rfl
 ·split <;> simp_all
theorem wKx {l:List wAH} {f:wAH->Option Bool} {p:wAH->Bool} (hf:∀ a ∈ l,f a=some (p a)) (hn:l.length <= 1000):wBN l f=some (l.all p):=by
 unfold wBN
 refine (wFB (R:=Bool) (p:=p) (z:=false) (K:=fun _=>some true) (fun a ha=>?_) (by omega)).trans ?_
 ·rw [hf a ha,hH];split <;> rfl
 ·split <;> simp_all
theorem wGA {l:List wAX} {f:wAX->Option Bool} {p:wAX->Bool} (hf:∀ a ∈ l,f a=some (p a)) (hn:l.length <= 1000):wAu l f=some (l.all p):=by
 unfold wAu
 refine (wFB (R:=Bool) (p:=p) (z:=false) (K:=fun _=>some true) (fun a ha=>?_) (by omega)).trans ?_
 ·rw [hf a ha,hH];split <;> rfl
 ·split <;> simp_all
structure wFH (r:wAD):Prop where
 n:r.Starts.length <= 10
 m:r.Splits.length <= 9
 c:r.Clocks.length <= 6
 q:r.Readings.length <= 44
def stP (s:Int):Bool:=inB s 0 360000
def spP (s:wAG):Bool:=wPq s 0 360000
def ckP (c:wAH):Bool:=wPq c.Offset (-36000) 36000 && inB c.Error 0 600
def rtP (x:wAX):Bool:=inB x.Time 0 360000
def ruP (r:wAD) (x:wAX):Bool:=inB x.Skier 0 ((r.Starts.length:Int) - 1) && (inB x.Mat 0 r.Splits.length && inB x.Clock 0 ((r.Clocks.length:Int) - 1))
def code (r:wAD):Int :=
 if ¬ (1 <= r.Starts.length/\r.Starts.length <= 8) then 2 else if 7 < r.Splits.length then 2 else if 4 < r.Clocks.length then 2 else if 40 < r.Readings.length then 2
 else if r.Starts.all stP=true then (if r.Splits.all spP=true then (if r.Clocks.all ckP=true then (if r.Readings.all rtP=true then (if r.Readings.all (ruP r)=true then 0 else 1) else 3) else 3) else 3) else 3
theorem wOq {r:wAD} (h:code r=0):RC r:=by
 unfold code at h
 split at h
 ·omega
 ·split at h
  ·omega
  ·split at h
   ·omega
   ·split at h
    ·omega
    ·split at h
     ·split at h
      ·split at h
       ·split at h
        ·split at h
         ·rename_i a1 a2 a3 a4 h1 h2 h3 h4 h5
          rw [nR] at h1 h2 h3 h4 h5
          refine ⟨by omega,by omega,by omega,by omega,fun s hs=>?_,fun s hs=>?_,fun s hs=>?_,fun s hs=>?_,fun s hs=>?_⟩
          ·have:=h1 s hs
           simp only [stP,inB,decide_eq_true_eq] at this
           exact this
          ·have:=h2 s hs
           simp only [spP,wPq,decide_eq_true_eq] at this
           exact this
          ·have:=h3 s hs
           simp only [ckP,wPq,inB,nA,decide_eq_true_eq] at this
           exact this
          ·have:=h4 s hs
           simp only [rtP,inB,decide_eq_true_eq] at this
           exact this
          ·have:=h5 s hs
           simp only [ruP,inB,nA,decide_eq_true_eq] at this
           omega
         ·omega
        ·omega
       ·omega
      ·omega
     ·omega
theorem wOr {r:wAD} (S:wFH r) (s:wAW):wAz r s=some (inB s.Skier 0 ((r.Starts.length:Int) - 1) && inB s.Mat 0 r.Splits.length):=by
 have:=S.n
 unfold wAz
 rw [wAa (by omega) (by omega),wKw,hH,wKw,hH]
 cases inB s.Skier 0 ((r.Starts.length:Int) - 1)
 ·rw [if_neg (by simp)];rfl
 ·rw [if_pos rfl,kW]
theorem wMc {r:wAD} (S:wFH r):wDf r=some (code r):=by
 have hn:=S.n;have hm:=S.m;have hc:=S.c;have hq:=S.q
 unfold wDf code
 rw [wKw,hH]
 by_cases c1:1 <= r.Starts.length/\r.Starts.length <= 8
 ·have e1:inB (r.Starts.length:Int) 1 8=true:=by unfold inB;rw [decide_eq_true_eq];omega
  rw [e1,if_pos rfl,if_neg (show ¬ ¬ (1 <= r.Starts.length/\r.Starts.length <= 8) from fun h=>h c1)]
  by_cases c2:7 < r.Splits.length
  ·rw [if_pos (show (7:Int) < (r.Splits.length:Int) by omega),if_pos c2]
  ·rw [if_neg (show ¬ (7:Int) < (r.Splits.length:Int) by omega),if_neg c2]
   by_cases c3:4 < r.Clocks.length
   ·rw [if_pos (show (4:Int) < (r.Clocks.length:Int) by omega),if_pos c3]
   ·rw [if_neg (show ¬ (4:Int) < (r.Clocks.length:Int) by omega),if_neg c3]
    by_cases c4:40 < r.Readings.length
    ·rw [if_pos (show (40:Int) < (r.Readings.length:Int) by omega),if_pos c4]
    ·rw [if_neg (show ¬ (40:Int) < (r.Readings.length:Int) by omega),if_neg c4]
     rw [wOp (p:=stP) (fun a _=>by unfold wCF;rw [wKw];rfl) (by omega),hH]
     rw [wMb (p:=spP) (fun a _=>by unfold wCH;rw [wIX];rfl) (by omega),hH]
     rw [wKx (p:=ckP) (fun a _=>by
      unfold wCI ckP
      rw [wIX,hH,wKw,hH]
      cases wPq a.Offset (-36000) 36000
      ·rw [if_neg (by simp)];rfl
      ·rw [if_pos rfl];rfl) (by omega),hH]
     rw [wGA (p:=rtP) (fun a _=>by unfold wCJ;rw [wKw];rfl) (by omega),hH]
     rw [wGA (p:=ruP r) (fun a _=>by
      unfold wCK ruP
      rw [wOr S,hH,wAa (by omega) (by omega),wKw,hH]
      simp only
      cases inB a.Skier 0 ((r.Starts.length:Int) - 1)
      ·rw [if_neg (by simp)];rfl
      ·cases inB a.Mat 0 (r.Splits.length:Int)
       ·rw [if_neg (by simp)];rfl
       ·simp) (by omega),hH]
     split
     ·split
      ·split
       ·split
        ·split <;> rfl
        ·rfl
       ·rfl
      ·rfl
     ·rfl
 ·have e1:inB (r.Starts.length:Int) 1 8=false:=by unfold inB;rw [decide_eq_false_iff_not];omega
  rw [e1,if_neg (by simp),if_pos c1]
end Go.Proofs.YtkedcbligiebkaaGreat
namespace Go.Proofs.YtkedcbligiebkaaGreat
open Go.KL Go.KL.Net
open Classical
def wJx (r:wAD) (s:wAW):Bool:=inB s.Skier 0 ((r.Starts.length:Int) - 1) && inB s.Mat 0 r.Splits.length
def pt (s:wAW):Pt:=⟨s.Skier,s.Mat⟩
theorem wKy {r:wAD} {s:wAW} (h:wJx r s=true):wIE r (pt s)/\0 <= s.Skier/\s.Skier < r.Starts.length/\0 <= s.Mat/\s.Mat <= r.Splits.length:=by
 simp only [wJx,inB,nA,decide_eq_true_eq] at h
 exact ⟨.inr (.inl ⟨h.1.1,by simp only [pt];omega,h.2.1,h.2.2⟩),h.1.1,by omega,h.2.1,h.2.2⟩
noncomputable def wGB (r:wAD) (l:List wAW):Int:=if code r=0 then (if l.all (wJx r)=true then (if ∃ y,wDl r y then 0 else 7) else 1) else code r
theorem err0 {r:wAD} {l:List wAW} (h:wGB r l=0):RC r/\code r=0/\l.all (wJx r)=true/\∃ y,wDl r y:=by
 unfold wGB at h
 split at h
 ·split at h
  ·split at h
   ·rename_i a b c
    exact ⟨wOq a,a,b,c⟩
   ·omega
  ·omega
 ·contradiction
theorem wLt {r:wAD} (S:wFH r):(code r ≠ 0/\wCp r=some (none,code r)) \/ (code r=0/\∃ d pts,wCp r=some (some d,0)/\Desk r d pts):=by
 unfold wCp
 rw [wMc S,hH]
 by_cases c:code r=0
 ·right
  obtain ⟨d,pts,e,D⟩:=wOo (wOq c)
  refine ⟨c,d,pts,?_,D⟩
  rw [if_pos c,e];rfl
 ·left
  exact ⟨c,if_neg c⟩
end Go.Proofs.YtkedcbligiebkaaGreat
namespace Go.Proofs.YtkedcbligiebkaaGreat
open Go.KL Go.KL.Net
open Classical
theorem wMd {l:List wAW} {f:wAW->Option Bool} {p:wAW->Bool} (hf:∀ a ∈ l,f a=some (p a)) (hn:l.length <= 1000):wBE l f=some (l.all p):=by
 unfold wBE
 refine (wFB (R:=Bool) (p:=p) (z:=false) (K:=fun _=>some true) (fun a ha=>?_) (by omega)).trans ?_
 ·rw [hf a ha,hH];split <;> rfl
 ·split <;> simp_all
section
variable {r:wAD} {d:wAj} {pts:List Pt} (D:Desk r d pts)
include D
theorem Desk.holds:∃ b,wBy d=some b/\(b=true ↔ ∃ y,wDl r y):=by
 obtain ⟨f,last,ok,e,_,_,h,_⟩:=D.any
 refine ⟨ok,?_,h⟩
 unfold wBy
 rw [e];rfl
end
theorem wLu {r:wAD} (S:wFH r) {l:List wAW} (hl:l.length <= 10):∃ o,wCq r l=some (o,wGB r l)/\(wGB r l=0->∃ d pts,o=some d/\Desk r d pts)/\(wGB r l ≠ 0->o=none):=by
 unfold wCq
 rcases wLt S with ⟨c,e⟩ | ⟨c,d,pts,e,D⟩
 ·have ee:wGB r l=code r:=by unfold wGB;rw [if_neg c]
  refine ⟨none,?_,fun h=>absurd (ee ▸ h) c,fun _=>rfl⟩
  rw [e,hH,ee]
  simp only
  rw [if_neg c]
 ·rw [e,hH]
  simp only
  rw [if_pos trivial,wMd (p:=wJx r) (fun s _=>wOr S s) (by omega),hH]
  by_cases c2:l.all (wJx r)=true
  ·rw [if_pos c2]
   obtain ⟨b,e3,h3⟩:=D.holds
   rw [e3,hH]
   by_cases c3:∃ y,wDl r y
   ·have ee:wGB r l=0:=by unfold wGB;rw [if_pos c,if_pos c2,if_pos c3]
    rw [if_pos (h3.2 c3),ee]
    exact ⟨_,rfl,fun _=>⟨d,pts,rfl,D⟩,fun h=>absurd rfl h⟩
   ·have ee:wGB r l=7:=by unfold wGB;rw [if_pos c,if_pos c2,if_neg c3]
    rw [if_neg (fun h=>c3 (h3.1 h)),ee]
    exact ⟨_,rfl,fun h=>by omega,fun _=>rfl⟩
  ·have ee:wGB r l=1:=by unfold wGB;rw [if_pos c,if_neg c2]
   rw [if_neg c2,ee]
   exact ⟨_,rfl,fun h=>by omega,fun _=>rfl⟩
end Go.Proofs.YtkedcbligiebkaaGreat
namespace Go.Proofs.YtkedcbligiebkaaGreat
open Go.KL Go.KL.Net
open Classical
theorem wIY {S:Type} {body:Nat->S->Option S} {n:Nat} {s0:S} (I:Nat->S->Prop) (hn:n <= 1000) (h0:I 0 s0) (h:∀ i s,i < n->I i s->∃ s',body i s=some s'/\I (i + 1) s'):∃ s,wBr 0 (n:Int) body s0=some s/\I n s:=by
 rw [wDP (by omega)]
 have:=wET (body:=body) I n 0 s0 h0 fun i s _ h2 h3=>h i s (by omega) h3
 rwa [nt] at this
theorem wTv (a:Arr Int 64) {i j:Nat} (hi:i < 64) (v:Int):(a.set i v).get j=if j=i then v else a.get j:=by
 unfold Arr.set Arr.get
 simp only [nK]
 by_cases e:j=i
 ·rw [if_pos e,e,List.getElem?_set_self (by rw [a.h];exact hi)]
  rfl
 ·rw [if_neg e,List.getElem?_set_ne (Ne.symm e)]
def ahK (G:Nat->Nat->Int) (i k:Nat):List Int:=((nN k).filter fun j=>decide (G i j < 0)).map fun (j:Nat)=>(j:Int)
def beK (G:Nat->Nat->Int) (i k:Nat):Nat:=(nN k).countP fun j=>decide (0 < G j i)
theorem wGr (G:Nat->Nat->Int) (i k:Nat):ahK G i (k + 1)=if G i k < 0 then ahK G i k ++ [(k:Int)] else ahK G i k:=by
 unfold ahK
 rw [List.range_succ,List.filter_append,List.map_append]
 by_cases c:G i k < 0
 ·rw [if_pos c];simp [c]
 ·rw [if_neg c];simp [c]
theorem wLv (G:Nat->Nat->Int) (i k:Nat):beK G i (k + 1)=if 0 < G k i then beK G i k + 1 else beK G i k:=by
 unfold beK
 rw [List.range_succ,List.countP_append]
 by_cases c:0 < G k i
 ·rw [if_pos c];simp [c]
 ·rw [if_neg c];simp [c]
theorem wJC (G:Nat->Nat->Int) (i:Nat):∀ k,(ahK G i k).length <= k
 | 0=>by simp [ahK]
 | k + 1=>by
  have:=wJC G i k
  rw [wGr]
  split
  ·rw [nD,nU];omega
  ·omega
theorem wQm (G:Nat->Nat->Int) (i:Nat):∀ k,beK G i k <= k
 | 0=>by simp [beK]
 | k + 1=>by
  have:=wQm G i k
  rw [wLv]
  split <;> omega
def ahL (n:Nat) (G:Nat->Nat->Int):List (List Int):=(nN n).map fun i=>ahK G i n
def plL (n:Nat) (G:Nat->Nat->Int):List wAG:=(nN n).map fun i=>⟨1 + ((ahK G i n).length:Int),1 + (beK G i n:Int)⟩
theorem wJy {α:Type} [Inhabited α] {n k:Nat} (f:Nat->α) (h:k < n):gd ((nN n).map f) k=f k:=by
 rw [wEB (by simpa using h)]
 simp
section
variable {r:wAD} {d:wAj} {pts:List Pt} (D:Desk r d pts)
include D
theorem wHj (hy:∃ y,wDl r y) {m:Int} (m0:0 <= m) (m1:m <= r.Splits.length) {F:Nat->Pt->Int} (hF:∀ i,i < r.Starts.length->IsDP r ⟨(i:Int),m⟩ (F i)):∃ a,wBQ d m=some a/\∀ i j,i < r.Starts.length->j < r.Starts.length->a.get (i * 8 + j)=F i ⟨(j:Int),m⟩:=by
 have hn:=D.c.n
 have ok:∀ i,i < r.Starts.length->wIE r ⟨(i:Int),m⟩:=fun i hi=>.inr (.inl ⟨by simp only;omega,by simp only;omega,m0,m1⟩)
 unfold wBQ
 rw [D.race]
 obtain ⟨a,e,I⟩:=wIY (n:=r.Starts.length) (body:=fun k19 a18 =>
  (wAn d (wAw d.number (⟨(↑k19:Int),m⟩:wAC) 0) false).bind fun (x47,x48,x49) =>
  (wBr 0 (↑r.Starts.length:Int) (fun k79 a78 =>
   (chk (wAw d.number (⟨(↑k79:Int),m⟩:wAC) 0) x47.far.length).bind fun _ =>
   (chk (↑k19:Int) 8).bind fun _ =>
   (chk (↑k79:Int) 8).bind fun _ =>
   some (a78.set (k19 * 8 + k79) (gd x47.far (wAw d.number (⟨(↑k79:Int),m⟩:wAC) 0).toNat))) a18).bind fun y84 =>
  some y84) (s0:=(Arr.fill 64 0)) (fun k (a:Arr Int 64)=>∀ i j,i < k->j < r.Starts.length->a.get (i * 8 + j)=F i ⟨(j:Int),m⟩) (by omega) (fun i j h=>by omega) fun k a hk I=>by
  obtain ⟨f,last,e1,fl,Q⟩:=D.from_ hy (ok k hk)
  obtain ⟨b,e2,J⟩:=wIY (n:=r.Starts.length) (body:=fun k79 a78 =>
   (chk (wAw d.number (⟨(↑k79:Int),m⟩:wAC) 0) f.far.length).bind fun _ =>
   (chk (↑k:Int) 8).bind fun _ =>
   (chk (↑k79:Int) 8).bind fun _ =>
   some (a78.set (k * 8 + k79) (gd f.far (wAw d.number (⟨(↑k79:Int),m⟩:wAC) 0).toNat))) (s0:=a) (fun l (a:Arr Int 64)=>(∀ i j,i < k->j < r.Starts.length->a.get (i * 8 + j)=F i ⟨(j:Int),m⟩)/\∀ j,j < l->a.get (k * 8 + j)=F k ⟨(j:Int),m⟩) (by omega) ⟨I,fun j h=>by omega⟩ fun l a hl J=>by
   obtain ⟨h1,_,h3⟩:=D.pos_ok (ok l hl)
   refine ⟨a.set (k * 8 + l) (F k ⟨(l:Int),m⟩),?_,?_⟩
   ·rw [h3,wBJ (by omega) (by omega),hH,wBJ (by omega) (by omega),hH,wBJ (by omega) (by omega),hH,nl,(hF k hk).one Q (ok l hl)]
   ·refine ⟨fun i j hi hj=>?_,fun j hj=>?_⟩
    ·rw [wTv _ (by omega),if_neg (by omega),J.1 i j hi hj]
    ·rw [wTv _ (by omega)]
     by_cases c:j=l
     ·subst c
      rw [if_pos rfl]
     ·rw [if_neg (by omega),J.2 j (by omega)]
  refine ⟨b,?_,fun i j hi hj=>?_⟩
  ·rw [(D.pos_ok (ok k hk)).2.2,e1,hH]
   simp only
   rw [e2];rfl
  ·by_cases c:i=k
   ·subst c;exact J.2 j hj
   ·exact J.1 i j (by omega) hj
 exact ⟨a,by rw [e];rfl,I⟩
end
theorem wJz {r:wAD} (S:wFH r) (m:Int):∃ o,wCY r m=some (o,wGB r [⟨0,m⟩])/\(wGB r [⟨0,m⟩]=0->∃ d pts,o=some d/\Desk r d pts)/\(wGB r [⟨0,m⟩] ≠ 0->o=none):=by
 obtain ⟨o,e,h⟩:=wLu S (l:=[⟨0,m⟩]) (by simp)
 refine ⟨o,?_,h⟩
 unfold wCY
 rw [e,hH]
 cases o <;> rfl
theorem wQn {r:wAD} {m:Int} (h:wGB r [⟨0,m⟩]=0):RC r/\0 <= m/\m <= r.Splits.length/\∃ y,wDl r y:=by
 obtain ⟨C,_,hs,hy⟩:=err0 h
 simp only [List.all_cons,List.all_nil,Bool.and_true] at hs
 have:=wKy hs
 exact ⟨C,this.2.2.2.1,this.2.2.2.2,hy⟩
theorem wOs {r:wAD} (S:wFH r) (m:Int):(wGB r [⟨0,m⟩] ≠ 0->wCZ r m=some ([],wGB r [⟨0,m⟩]))/\(wGB r [⟨0,m⟩]=0->∀ F:Nat->Pt->Int,(∀ i,i < r.Starts.length->IsDP r ⟨(i:Int),m⟩ (F i))->wCZ r m=some (plL r.Starts.length (fun i j=>F i ⟨(j:Int),m⟩),0)):=by
 unfold wCZ
 obtain ⟨o,e,h0,h1⟩:=wJz S m
 rw [e,hH]
 simp only
 constructor
 ·intro c
  have ho:=h1 c
  subst ho
  simp only
  rw [if_neg c]
 ·intro c F hF
  obtain ⟨d,pts,rfl,D⟩:=h0 c
  obtain ⟨C,m0,m1,hy⟩:=wQn c
  obtain ⟨a,e1,ha⟩:=wHj D hy m0 m1 hF
  have hn:=C.n
  simp only
  rw [if_pos c,e1,hH,wDI (S:=List wAG) (n:=r.Starts.length) (fun k=>(plL r.Starts.length fun i j=>F i ⟨(j:Int),m⟩).take k) (s0:=[]) (by simp) (by omega) fun k hk=>?_]
  ·rw [hH,show (plL r.Starts.length fun i j=>F i ⟨(j:Int),m⟩).take r.Starts.length=plL r.Starts.length fun i j=>F i ⟨(j:Int),m⟩ from List.take_of_length_le (by simp [plL])]
  ·rw [wDI (S:=Int × Int) (n:=r.Starts.length) (fun j=>(1 + ((ahK (fun i j=>F i ⟨(j:Int),m⟩) k j).length:Int),1 + (beK (fun i j=>F i ⟨(j:Int),m⟩) k j:Int))) (s0:=(1,1)) (by simp [ahK,beK]) (by omega) fun j hj=>?_]
   ·have pl:(plL r.Starts.length fun i j=>F i ⟨(j:Int),m⟩).length=r.Starts.length:=by simp [plL]
    rw [hH]
    simp only
    rw [wEH (by rw [nM];simp only [nS,nz];omega),hH,wDk (by rw [pl];exact hk)]
    unfold plL
    rw [wJy _ hk]
   ·have l1:=wJC (fun i j=>F i ⟨(j:Int),m⟩) k j
    have l2:=wQm (fun i j=>F i ⟨(j:Int),m⟩) k j
    simp only
    rw [wBJ (by omega) (by omega),hH,wBJ (by omega) (by omega),hH,ha k j hk hj,ha j k hj hk,wAa (by omega) (by omega),wAa (by omega) (by omega),wGr,wLv]
    by_cases c1:F k ⟨(j:Int),m⟩ < 0
    ·rw [if_pos c1,if_pos c1]
     by_cases c2:0 < F j ⟨(k:Int),m⟩
     ·rw [if_pos c2,if_pos c2,nD,nU]
      congr 2 <;> omega
     ·rw [if_neg c2,if_neg c2,nD,nU]
      congr 2
    ·rw [if_neg c1,if_neg c1]
     by_cases c2:0 < F j ⟨(k:Int),m⟩
     ·rw [if_pos c2,if_pos c2]
      congr 2
     ·rw [if_neg c2,if_neg c2]
end Go.Proofs.YtkedcbligiebkaaGreat
namespace Go.Proofs.YtkedcbligiebkaaGreat
open Go.KL Go.KL.Net
open Classical
def wPr (f:Nat->Int):Nat->Int
 | 0=>0
 | k + 1=>wPr f k + f k
theorem wTw {r:wAD} {y:Pt->Int} (F:wDl r y) {s:Nat} (hs:s < r.Starts.length):∀ k:Nat,k <= r.Splits.length->y zp + gd r.Starts s + wPr (fun j=>(gd r.Splits j).Lo) k <= y ⟨(s:Int),(k:Int)⟩/\y ⟨(s:Int),(k:Int)⟩ <= y zp + gd r.Starts s + wPr (fun j=>(gd r.Splits j).Hi) k
 | 0,_=>by
  have:=(wTu.1 F).a s hs
  rw [show ((0:Nat):Int)=0 from rfl,this]
  simp only [wPr]
  omega
 | k + 1,h=>by
  have a:=wTw F hs k (by omega)
  have b:=(wTu.1 F).b s k hs (by omega)
  rw [show ((k + 1:Nat):Int)=(k:Int) + 1 by omega]
  simp only [wPr]
  omega
end Go.Proofs.YtkedcbligiebkaaGreat
namespace Go.Proofs.YtkedcbligiebkaaGreat
open Go.KL Go.KL.Net
open Classical
theorem wKz {f:Nat->Int} {b:Int}:∀ {m:Nat},(∀ k,k < m->0 <= f k/\f k <= b)->0 <= wPr f m/\wPr f m <= b * (m:Int)
 | 0,_=>by simp only [wPr];omega
 | m + 1,h=>by
  have a:=wKz (m:=m) fun k hk=>h k (by omega)
  have c:=h m (by omega)
  have e:b * ((m + 1:Nat):Int)=b * (m:Int) + b:=by rw [Int.natCast_add,Int.mul_add];simp
  rw [wPr,e]
  omega
end Go.Proofs.YtkedcbligiebkaaGreat
namespace Go.Proofs.YtkedcbligiebkaaGreat
open Go.KL
theorem wOt (a b:List Int) (i:Nat):gd (a ++ b) i=if i < a.length then gd a i else gd b (i - a.length):=by
 unfold gd
 split
 ·rename_i h;rw [nK,nh h,<- nK]
 ·rename_i h;rw [nK,nZ (by omega),<- nK]
theorem wDQ {a b:Nat} (h:b <= a) (ha:a <= 1000000):w64 ((a:Int) - (b:Int))=((a - b:Nat):Int):=by rw [wAa (by omega) (by omega)];omega
theorem wEb {a b:Nat} (h:a + b <= 1000000):w64 ((a:Int) + (b:Int))=((a + b:Nat):Int):=by rw [wAa (by omega) (by omega)];omega
theorem wGS {a:Nat} (h:a <= 1000000):w64 ((a:Int) + 1)=((a + 1:Nat):Int):=by rw [wAa (by omega) (by omega)];omega
theorem wJD {a:Nat} (h:1 <= a) (h2:a <= 1000000):w64 ((a:Int) - 1)=((a - 1:Nat):Int):=by rw [wAa (by omega) (by omega)];omega
theorem wKA {l:List Int} {i j:Nat} (h:i=j):gd l i=gd l j:=by rw [h]
theorem wMe {l:List Int} {p q n:Nat} {c:(Int × Int)->Option Int} (h1:p + n <= q) (h2:q + n <= l.length) (hl:l.length <= 1000):∃ r,wAO l p q n c=some r/\r.length=l.length /\
  ∀ i,i < l.length->gd r i=if p <= i/\i < p + n then gd l (i - p + q) else if q <= i/\i < q + n then gd l (i - q + p) else gd l i:=by
 unfold wAO
 rw [wDP (by omega)]
 obtain ⟨s,hs,I1,I2⟩:=wET (body:=fun (k8:Nat) (l7:List Int) =>
  (chk (w64 ((q:Int) + (↑k8:Int))) l7.length).bind fun _ =>
  (chk (w64 ((p:Int) + (↑k8:Int))) l7.length).bind fun _ =>
  (chk (w64 ((q:Int) + (↑k8:Int))) (nY l7 (w64 ((p:Int) + (↑k8:Int))).toNat (gd l7 (w64 ((q:Int) + (↑k8:Int))).toNat)).length).bind fun _ =>
  some (nY (nY l7 (w64 ((p:Int) + (↑k8:Int))).toNat (gd l7 (w64 ((q:Int) + (↑k8:Int))).toNat)) (w64 ((q:Int) + (↑k8:Int))).toNat (gd l7 (w64 ((p:Int) + (↑k8:Int))).toNat)))
  (fun k s=>s.length=l.length/\∀ i,i < l.length->gd s i=if p <= i/\i < p + k then gd l (i - p + q) else if q <= i/\i < q + k then gd l (i - q + p) else gd l i) n 0 l
  ⟨rfl,fun i hi=>by rw [if_neg (by omega),if_neg (by omega)]⟩ (fun k s _ hk ⟨J1,J2⟩=>by
   have hk:k < n:=by omega
   have e1:w64 ((q:Int) + (k:Int))=((q + k:Nat):Int):=wEb (by omega)
   have e2:w64 ((p:Int) + (k:Int))=((p + k:Nat):Int):=wEb (by omega)
   rw [e1,e2,wBJ (by omega) (by omega),hH,wBJ (by omega) (by omega),hH,wBJ (by omega) (by rw [kA];omega),hH]
   simp only [nl]
   refine ⟨_,rfl,by simp [J1],fun i hi=>?_⟩
   rw [wJr (by rw [kA];omega) (by rw [kA];omega),wJr (by omega) (by omega),J2 (p + k) (by omega),J2 (q + k) (by omega),J2 i hi]
   rw [if_neg (show ¬ (p <= q + k/\q + k < p + k) by omega),if_neg (show ¬ (q <= q + k/\q + k < q + k) by omega),if_neg (show ¬ (p <= p + k/\p + k < p + k) by omega),if_neg (show ¬ (q <= p + k/\p + k < q + k) by omega)]
   by_cases c1:i=q + k
   ·subst c1
    rw [if_pos rfl,if_neg (by omega),if_pos (by omega)]
    exact wKA (by omega)
   ·rw [if_neg c1]
    by_cases c2:i=p + k
    ·subst c2
     rw [if_pos rfl,if_pos (by omega)]
     exact wKA (by omega)
    ·rw [if_neg c2]
     by_cases c3:p <= i/\i < p + k
     ·rw [if_pos c3,if_pos (by omega)]
     ·rw [if_neg c3,if_neg (show ¬ (p <= i/\i < p + (k + 1)) by omega)]
      by_cases c4:q <= i/\i < q + k
      ·rw [if_pos c4,if_pos (by omega)]
      ·rw [if_neg c4,if_neg (by omega)])
 rw [hs]
 rw [nt] at I2
 exact ⟨s,rfl,I1,I2⟩
theorem wFc {P X M Y S:List Int} {c:(Int × Int)->Option Int} (h:X.length=Y.length) (hl:(P ++ X ++ M ++ Y ++ S).length <= 1000):wAO (P ++ X ++ M ++ Y ++ S) (P.length:Nat) ((P.length + X.length + M.length:Nat):Int) (X.length:Nat) c=some (P ++ Y ++ M ++ X ++ S):=by
 have hl':=hl
 simp only [nD] at hl
 obtain ⟨r,hr,h1,h2⟩:=wMe (l:=P ++ X ++ M ++ Y ++ S) (p:=P.length) (q:=P.length + X.length + M.length) (n:=X.length) (c:=c) (by omega) (by simp only [nD];omega) hl'
 rw [hr]
 refine congrArg some (wLk (by rw [h1];simp only [nD];omega) fun i hi=>?_)
 rw [h1] at hi
 rw [h2 i hi]
 simp only [nD] at hi
 simp only [wOt,nD]
 by_cases c1:i < P.length
 ·rw [if_neg (by omega),if_neg (by omega),if_pos (by omega),if_pos (by omega),if_pos (by omega),if_pos c1,if_pos (by omega),if_pos (by omega),if_pos (by omega),if_pos c1]
 ·by_cases c2:i < P.length + X.length
  ·rw [if_pos (by omega),if_pos (by omega),if_neg (by omega),if_pos (by omega),if_pos (by omega),if_pos (by omega),if_neg c1]
   exact wKA (by omega)
  ·rw [if_neg (show ¬ (P.length <= i/\i < P.length + X.length) by omega)]
   by_cases c3:i < P.length + X.length + M.length
   ·rw [if_neg (by omega),if_pos (by omega),if_pos (by omega),if_neg (by omega),if_pos (by omega),if_pos (by omega),if_neg (by omega)]
    exact wKA (by omega)
   ·by_cases c4:i < P.length + X.length + M.length + Y.length
    ·rw [if_pos (by omega),if_pos (by omega),if_pos (by omega),if_pos (by omega),if_neg (by omega),if_pos (by omega),if_neg (by omega)]
     exact wKA (by omega)
    ·rw [if_neg (by omega),if_neg (by omega),if_neg (by omega)]
     exact wKA (by omega)
theorem wPs {P X Y S:List Int} {c:(Int × Int)->Option Int} {m:Nat} (hm:P.length + X.length=m) (g:Y.length < X.length) (hl:(P ++ X ++ Y ++ S).length <= 1000) :
  wAO (P ++ X ++ Y ++ S) (w64 ((m:Int) - (X.length:Nat))) (m:Nat) (Y.length:Nat) c=some (P ++ Y ++ X.drop Y.length ++ X.take Y.length ++ S):=by
 have hx1:(X.take Y.length).length=Y.length:=by rw [nM];omega
 have hx2:(X.drop Y.length).length=X.length - Y.length:=by rw [no]
 have e3:P ++ X.take Y.length ++ X.drop Y.length ++ Y ++ S=P ++ X ++ Y ++ S:=by rw [nG P,np]
 have hsw:=wFc (P:=P) (X:=X.take Y.length) (M:=X.drop Y.length) (Y:=Y) (S:=S) (c:=c) hx1 (by rw [e3];exact hl)
 have hl2:=hl
 simp only [nD] at hl2
 rw [hx1,hx2,e3,show P.length + Y.length + (X.length - Y.length)=m by omega] at hsw
 rw [wDQ (by omega) (by omega),show m - X.length=P.length by omega]
 exact hsw
theorem wOu {P X Y S:List Int} {c:(Int × Int)->Option Int} {m:Nat} (hm:P.length + X.length=m) (g:X.length < Y.length) (hl:(P ++ X ++ Y ++ S).length <= 1000) :
  wAO (P ++ X ++ Y ++ S) (w64 ((m:Int) - (X.length:Nat))) (w64 ((w64 ((m:Int) + (Y.length:Nat))) - (X.length:Nat))) (X.length:Nat) c=some (P ++ Y.drop (Y.length - X.length) ++ Y.take (Y.length - X.length) ++ X ++ S):=by
 have hy1:(Y.drop (Y.length - X.length)).length=X.length:=by rw [no];omega
 have hy2:(Y.take (Y.length - X.length)).length=Y.length - X.length:=by rw [nM];omega
 have e3:P ++ X ++ Y.take (Y.length - X.length) ++ Y.drop (Y.length - X.length) ++ S=P ++ X ++ Y ++ S:=by rw [nG (P ++ X),np]
 have hsw:=wFc (P:=P) (X:=X) (M:=Y.take (Y.length - X.length)) (Y:=Y.drop (Y.length - X.length)) (S:=S) (c:=c) hy1.symm (by rw [e3];exact hl)
 have hl2:=hl
 simp only [nD] at hl2
 rw [hy2,e3,show P.length + X.length + (Y.length - X.length)=m + Y.length - X.length by omega] at hsw
 rw [wEb (by omega),wDQ (by omega) (by omega),wDQ (by omega) (by omega),show m - X.length=P.length by omega]
 exact hsw
theorem wSK {P X Y S:List Int} {c:(Int × Int)->Option Int} {m:Nat} (hm:P.length + X.length=m) (g:X.length=Y.length) (hl:(P ++ X ++ Y ++ S).length <= 1000) :
  wAO (P ++ X ++ Y ++ S) (w64 ((m:Int) - (X.length:Nat))) (m:Nat) (X.length:Nat) c=some (P ++ Y ++ X ++ S):=by
 have hsw:=wFc (P:=P) (X:=X) (M:=[]) (Y:=Y) (S:=S) (c:=c) g (by simpa using hl)
 have hl2:=hl
 simp only [nD] at hl2
 rw [nj,nj,nz,Nat.add_zero,hm] at hsw
 rw [wDQ (by omega) (by omega),show m - X.length=P.length by omega]
 exact hsw
def RotI (m:Nat) (G:List Int) (s:List Int × Int × Int) (n:Nat):Prop:=∃ P X Y S:List Int,s=(P ++ X ++ Y ++ S,((X.length:Nat):Int),((Y.length:Nat):Int))/\0 < X.length/\0 < Y.length/\P.length + X.length=m/\(P ++ X ++ Y ++ S).length <= 1000/\P ++ Y ++ X ++ S=G/\X.length + Y.length <= n
theorem wPt {m:Nat} {G:List Int} {c:(Int × Int)->Option Int} {l:List Int} {x y:Int} {n:Nat} (h:RotI m G (l,x,y) n) (hne:x ≠ y):0 < n/\∃ s',(if y < x then
        (wAO l (w64 ((m:Int) - x)) (m:Int) y c).bind fun x46 =>
        some (Sum.inl (β:=List Int × Int) (x46,w64 (x - y),y))
      else
        (wAO l (w64 ((m:Int) - x)) (w64 ((w64 ((m:Int) + y)) - x)) x c).bind fun x62 =>
        some (.inl (x62,x,w64 (y - x))))=some (.inl s')/\RotI m G s' (n - 1):=by
  obtain ⟨P,X,Y,S,e,i1,i2,i3,i4,i5,i6⟩:=h
  injection e with e1 e2
  injection e2 with e2 e3
  subst e1 e2 e3
  have hl:=i4
  simp only [nD] at hl
  refine ⟨by omega,?_⟩
  by_cases g:Y.length < X.length
  · rw [if_pos (by omega),wPs i3 g i4,hH,wDQ (by omega) (by omega)]
    have hx1:(X.take Y.length).length=Y.length:=by rw [nM];omega
    have hx2:(X.drop Y.length).length=X.length - Y.length:=by rw [no]
    refine ⟨_,rfl,P ++ Y,X.drop Y.length,X.take Y.length,S,by rw [hx1,hx2],by omega,by omega,by rw [nD];omega,by simp only [nD];omega,?_,by omega⟩
    rw [nG (P ++ Y) (X.take _),np,i5]
  · have g2:X.length < Y.length:=by
      rcases Nat.lt_trichotomy X.length Y.length with h | h | h
      · exact h
      · exact absurd (by rw [h]) hne
      · exact absurd h g
    rw [if_neg (by omega),wOu i3 g2 i4,hH,wDQ (by omega) (by omega)]
    have hy1:(Y.drop (Y.length - X.length)).length=X.length:=by rw [no];omega
    have hy2:(Y.take (Y.length - X.length)).length=Y.length - X.length:=by rw [nM];omega
    refine ⟨_,rfl,P,Y.drop (Y.length - X.length),Y.take (Y.length - X.length),X ++ S,by rw [hy1,hy2,nG _ X S],by omega,by omega,by omega,by simp only [nD];omega,?_,by omega⟩
    rw [nG P,np,<- nG,i5]
theorem wOv {A X Y B:List Int} {c:(Int × Int)->Option Int} {a m b:Nat} (ha:A.length=a) (hm:A.length + X.length=m) (hb:A.length + X.length + Y.length=b) (hX:0 < X.length) (hY:0 < Y.length) (hl:(A ++ X ++ Y ++ B).length <= 1000):wAk (A ++ X ++ Y ++ B) (a:Int) (m:Int) (b:Int) c=some (A ++ Y ++ X ++ B):=by
 unfold wAk
 have hl2:=hl
 simp only [nD] at hl2
 rw [wDQ (by omega) (by omega),wDQ (by omega) (by omega),show m - a=X.length by omega,show b - m=Y.length by omega]
 obtain ⟨r,h1,P,X',Y',S,rfl,h2,h3,h4,h5⟩:=wEI (body:=fun (l16,x17,x18) =>
  if x17=x18 then
   esc (some (l16,x17))
  else
   if x18 < x17 then
    (wAO l16 (w64 ((m:Int) - x17)) (m:Int) x18 c).bind fun x46 =>
    some (.inl (x46,w64 (x17 - x18),x18))
   else
    (wAO l16 (w64 ((m:Int) - x17)) (w64 ((w64 ((m:Int) + x18)) - x17)) x17 c).bind fun x62 =>
    some (.inl (x62,x17,w64 (x18 - x17))))
  (fun n s=>RotI m (A ++ Y ++ X ++ B) s (X.length + Y.length - n)) (fun r=>∃ P X' Y' S:List Int,r=(P ++ X' ++ Y' ++ S,((X'.length:Nat):Int))/\X'.length=Y'.length/\P.length + X'.length=m/\(P ++ X' ++ Y' ++ S).length <= 1000/\P ++ Y' ++ X' ++ S=A ++ Y ++ X ++ B) (X.length + Y.length)
  (fun n s hn h=>by
   obtain ⟨l,x,y⟩:=s
   simp only
   by_cases e:x=y
   ·right
    rw [if_pos e]
    obtain ⟨P,X',Y',S,e',i1,i2,i3,i4,i5,i6⟩:=h
    injection e' with e1 e2
    injection e2 with e2 e3
    subst e1 e2 e3
    exact ⟨_,rfl,P,X',Y',S,rfl,by omega,i3,i4,i5⟩
   ·left
    rw [if_neg e]
    obtain ⟨h1,s',h2,h3⟩:=wPt (c:=c) h e
    exact ⟨by omega,s',h2,by rw [show X.length + Y.length - (n + 1)=X.length + Y.length - n - 1 by omega];exact h3⟩)
  (s0:=(A ++ X ++ Y ++ B,((X.length:Nat):Int),((Y.length:Nat):Int))) ⟨A,X,Y,B,rfl,hX,hY,hm,hl,rfl,by omega⟩ (by omega)
 rw [h1,hH]
 simp only
 rw [wSK h3 h2 h4,hH,h5]
theorem wHk {body:Int × Int->Option ((Int × Int) ⊕ Int)} (q:Nat->Bool) {lo hi:Nat} (hle:lo <= hi) (hh:hi <= 1000) (mono:∀ i j,lo <= i->i <= j->j < hi->q j=true->q i=true)
  (hb:∀ i j:Nat,lo <= i->i < j->j <= hi->body ((i:Int),(j:Int))=some (.inl (if q ((i + j) / 2)=true then ((((i + j) / 2 + 1:Nat):Int),(j:Int)) else ((i:Int),(((i + j) / 2:Nat):Int)))))
  (he:∀ i:Nat,lo <= i->i <= hi->body ((i:Int),(i:Int))=some (.inr (i:Int))) :
  ∃ k:Nat,lo <= k/\k <= hi/\iter body big ((lo:Int),(hi:Int))=some (k:Int)/\(∀ i,lo <= i->i < k->q i=true)/\(∀ i,k <= i->i < hi->q i=false):=by
 obtain ⟨b,h1,k,rfl,h2⟩:=wEI (body:=body) (fun n s=>∃ i j:Nat,s=((i:Int),(j:Int))/\lo <= i/\i <= j/\j <= hi/\j - i + n <= hi - lo/\(∀ t,lo <= t->t < i->q t=true)/\(∀ t,j <= t->t < hi->q t=false))
  (fun b=>∃ k:Nat,b=(k:Int)/\lo <= k/\k <= hi/\(∀ t,lo <= t->t < k->q t=true)/\(∀ t,k <= t->t < hi->q t=false)) (hi - lo) (fun n s hn ⟨i,j,hs,i1,i2,i3,i4,i5,i6⟩=>by
   subst hs
   rcases ke i j with c | c
   ·left
    refine ⟨by omega,_,hb i j i1 c i3,?_⟩
    by_cases g:q ((i + j) / 2)=true
    ·rw [if_pos g]
     refine ⟨(i + j) / 2 + 1,j,rfl,by omega,by omega,i3,by omega,fun t h1 h2=>?_,i6⟩
     exact mono t ((i + j) / 2) h1 (by omega) (by omega) g
    ·rw [if_neg g]
     refine ⟨i,(i + j) / 2,rfl,i1,by omega,by omega,by omega,i5,fun t h1 h2=>?_⟩
     cases hq:q t with
     | false=>rfl
     | true=>exact absurd (mono _ t (by omega) h1 h2 hq) g
   ·right
    have:i=j:=by omega
    subst this
    exact ⟨_,he i i1 i3,i,rfl,i1,i3,i5,i6⟩) (s0:=((lo:Int),(hi:Int))) ⟨lo,hi,rfl,nO _,hle,nO _,by omega,fun t h1 h2=>by omega,fun t h1 h2=>by omega⟩ (by omega)
 exact ⟨k,h2.1,h2.2.1,h1,h2.2.2⟩
end Go.Proofs.YtkedcbligiebkaaGreat
namespace Go.Proofs.YtkedcbligiebkaaGreat
open Go.KL
def Lr (K:Int->Int) (a b:Int):Prop:=K a < K b \/ (K a=K b/\a < b)
theorem Lr.le {K:Int->Int} {a b:Int} (h:Lr K a b):K a <= K b:=by unfold Lr at h;omega
theorem Lr.of {K:Int->Int} {a b:Int} (h:K a <= K b) (h2:a < b):Lr K a b:=by unfold Lr;omega
def ByK (K:Int->Int) (n:Int) (c:(Int × Int)->Option Int):Prop:=∀ a b,0 <= a->a < n->0 <= b->b < n->∃ x,c (a,b)=some x/\(x < 0 ↔ K a < K b)
def In (n:Int) (l:List Int):Prop:=∀ x ∈ l,0 <= x/\x < n
theorem wJE (P T:List Int) (z x:Int):gd (P ++ z :: x :: T) P.length=z/\gd (P ++ z :: x :: T) (P.length + 1)=x/\nY (nY (P ++ z :: x :: T) (P.length + 1) z) P.length x=P ++ x :: z :: T/\nY (nY (P ++ z :: x :: T) P.length x) (P.length + 1) z=P ++ x :: z :: T:=by
 refine ⟨wFC _ _ _,?_,?_,?_⟩
 ·have:=wFC (P ++ [z]) T x
  simpa using this
 ·rw [nw _ _ (by omega),show P.length + 1 - P.length=1 by omega,nw _ _ (by omega),kG]
  rfl
 ·rw [nw _ _ (by omega),kG,nw _ _ (by omega),show P.length + 1 - P.length=1 by omega]
  rfl
def wTx (p1:Int) (c:(Int × Int)->Option Int) (x9:Int) (s:List Int × Int):Option ((List Int × Int) ⊕ ((List Int × Int) ⊕ List Int)):=match s with
  | (l34,x35) =>
        if p1 < x35 then
          (chk x35 l34.length).bind fun _ =>
          (chk (w64 (x35 - 1)) l34.length).bind fun _ =>
          (c ((gd l34 x35.toNat),(gd l34 (w64 (x35 - 1)).toNat))).bind fun x65 =>
          if x65 < 0 then
            (chk (w64 (x35 - 1)) (nY l34 x35.toNat (gd l34 (w64 (x35 - 1)).toNat)).length).bind fun _ =>
            some (.inl ((nY (nY l34 x35.toNat (gd l34 (w64 (x35 - 1)).toNat)) (w64 (x35 - 1)).toNat (gd l34 x35.toNat)),w64 (x35 - 1)))
          else
            esc (some (.inl (l34,w64 (x9 + 1))))
        else
          esc (some (.inl (l34,w64 (x9 + 1))))
theorem wMf (p0:List Int) (p1 p2:Int) (c:(Int × Int)->Option Int):wAV p0 p1 p2 c=iter (fun (l8,x9)=>if x9 < p2 then iter (wTx p1 c x9) big (l8,x9) else esc (some l8)) big (p0,w64 (p1 + 1)):=rfl
theorem wPu {K:Int->Int} {n:Int} {c:(Int × Int)->Option Int} (hc:ByK K n c) {A Z S:List Int} {x:Int} {x9:Int} (hx:0 <= x/\x < n) (hZ:In n Z) (hlt:∀ z ∈ Z,z < x) (ho:Z.Pairwise (Lr K)) (hl:(A ++ Z ++ x :: S).length <= 1000) :
  ∃ Z',iter (wTx (A.length:Nat) c x9) big (A ++ Z ++ x :: S,((A.length + Z.length:Nat):Int))=some (.inl (A ++ Z' ++ S,w64 (x9 + 1)))/\Z'.Perm (Z ++ [x])/\Z'.Pairwise (Lr K):=by
 simp only [nD,nS] at hl
 obtain ⟨b,h1,Z1,Z2,rfl,hb,h2,h3⟩:=wEI (body:=wTx (A.length:Nat) c x9) (fun k s=>∃ Z1 Z2,Z=Z1 ++ Z2/\s=(A ++ Z1 ++ x :: (Z2 ++ S),((A.length + Z1.length:Nat):Int))/\(∀ z ∈ Z2,K x < K z)/\Z2.length=k)
  (fun b=>∃ Z1 Z2,Z=Z1 ++ Z2/\b=.inl (A ++ Z1 ++ x :: (Z2 ++ S),w64 (x9 + 1))/\(∀ z ∈ Z2,K x < K z)/\(∀ z ∈ Z1,K z <= K x)) Z.length
  (fun k s hk ⟨Z1,Z2,e,hs,g1,g2⟩=>by
   subst hs
   have el:Z.length=Z1.length + Z2.length:=by rw [e,nD]
   unfold wTx
   simp only
   rcases List.eq_nil_or_concat Z1 with h | ⟨Y,z,h⟩
   ·subst h
    right
    rw [if_neg (by simp)]
    exact ⟨_,rfl,[],Z2,e,rfl,g1,fun z hz=>by simp at hz⟩
   ·rw [List.concat_eq_append] at h
    subst h
    have e1:A ++ (Y ++ [z]) ++ x :: (Z2 ++ S)=(A ++ Y) ++ z :: x :: (Z2 ++ S):=by simp
    have e2:((A.length + (Y ++ [z]).length:Nat):Int)=(((A ++ Y).length + 1:Nat):Int):=by simp only [nD,nU];omega
    obtain ⟨s1,s2,s3,_⟩:=wJE (A ++ Y) (Z2 ++ S) z x
    have hll:(A ++ Y ++ z :: x :: (Z2 ++ S)).length=A.length + Y.length + 2 + Z2.length + S.length:=by simp only [nD,nS];omega
    have el2:Z.length=Y.length + 1 + Z2.length:=by rw [el];simp
    have hY:(A ++ Y).length=A.length + Y.length:=nD
    have hz:z ∈ Z:=by rw [e];simp
    rw [e1,e2,if_pos (by omega),wBJ (by omega) (by omega),hH,wJD (by omega) (by omega),wBJ (by omega) (by omega),hH]
    simp only [nl,Nat.add_sub_cancel,s1,s2]
    obtain ⟨v,hv,hv2⟩:=hc x z hx.1 hx.2 (hZ z hz).1 (hZ z hz).2
    rw [hv,hH]
    by_cases g:K x < K z
    ·left
     rw [if_pos (hv2.2 g),wBJ (by omega) (by rw [kA];omega),hH,s3]
     refine ⟨by omega,_,rfl,Y,z :: Z2,by rw [e];simp,by simp,fun y hy=>?_,by simp;omega⟩
     rcases nJ.1 hy with rfl | hy
     ·exact g
     ·exact g1 y hy
    ·right
     rw [if_neg (fun h=>g (hv2.1 h))]
     refine ⟨_,rfl,Y ++ [z],Z2,e,by simp,g1,fun y hy=>?_⟩
     rcases nI.1 hy with hy | hy
     ·have pw:=ho
      rw [e,nG] at pw
      have:=(nb.1 pw).2.2 y hy z (by simp)
      have:=this.le
      omega
     ·rw [nQ.1 hy];omega) (s0:=(A ++ Z ++ x :: S,((A.length + Z.length:Nat):Int))) ⟨Z,[],by simp,by simp,fun z hz=>by simp at hz,rfl⟩ (by omega)
 subst hb
 refine ⟨Z1 ++ x :: Z2,by rw [h1];simp,?_,?_⟩
 ·simp only [nG]
  exact List.Perm.append_left _ (List.perm_append_singleton x Z2).symm
 ·rw [nb] at ho ⊢
  rw [nW]
  have hlt1:∀ z ∈ Z1,z < x:=fun z hz=>hlt z (nq _ hz)
  refine ⟨ho.1,⟨fun z hz=>.inl (h2 z hz),ho.2.1⟩,fun a ha b hb=>?_⟩
  rcases nJ.1 hb with rfl | hb
  ·exact Lr.of (h3 a ha) (hlt1 a ha)
  ·exact ho.2.2 a ha b hb
theorem wKB {K:Int->Int} {n:Int} {c:(Int × Int)->Option Int} (hc:ByK K n c) {A X B:List Int} (hX:In n X) (hlt:X.Pairwise (· < ·)) (hl:(A ++ X ++ B).length <= 1000) {a b:Nat} (ha:A.length=a) (hb:A.length + X.length=b) :
  ∃ Z,wAV (A ++ X ++ B) (a:Int) (b:Int) c=some (A ++ Z ++ B)/\Z.Perm X/\Z.Pairwise (Lr K):=by
 rw [wMf]
 simp only [nD] at hl
 subst ha
 rw [wGS (by omega)]
 cases X with
 | nil =>
  refine ⟨[],?_,List.Perm.refl _,kg⟩
  simp only [nz] at hb
  refine wKt (m:=0) (fun _=>(A ++ [] ++ B,((A.length + 1:Nat):Int))) (fun i hi=>by omega) ?_ rfl (by omega)
  simp only
  rw [if_neg (by omega)]
  rfl
 | cons x0 X =>
  simp only [nS] at hl hb
  obtain ⟨r,h1,Z,rfl,h2,h3⟩:=wEI (body:=fun (l8,x9)=>if x9 < (b:Int) then iter (wTx (A.length:Nat) c x9) big (l8,x9) else esc (some l8))
   (fun k s=>∃ Z,s=(A ++ Z ++ (X.drop k ++ B),((A.length + (k + 1):Nat):Int))/\Z.Perm (x0 :: X.take k)/\Z.Pairwise (Lr K)/\k <= X.length) (fun r=>∃ Z,r=A ++ Z ++ B/\Z.Perm (x0 :: X)/\Z.Pairwise (Lr K)) X.length
   (fun k s hk ⟨Z,hs,g1,g2,g3⟩=>by
    subst hs
    simp only
    have hZl:Z.length=k + 1:=by rw [g1.length_eq];simp;omega
    by_cases e:k=X.length
    ·right
     rw [if_neg (by omega)]
     refine ⟨_,rfl,Z,?_,?_,g2⟩
     ·rw [e,List.drop_length];rfl
     ·rwa [e,kP] at g1
    ·left
     have hk':k < X.length:=by omega
     rw [if_pos (by omega)]
     have hsub:∀ z ∈ Z,z ∈ x0 :: X:=fun z hz=>by
      have:=g1.mem_iff.1 hz
      rcases nJ.1 this with h | h
      ·rw [h];simp
      ·exact kV _ (kS h)
     have hlast:∀ z ∈ Z,z < gd X k:=fun z hz=>by
      have pw:=nW.1 hlt
      rcases nJ.1 (g1.mem_iff.1 hz) with h | h
      ·rw [h];exact pw.1 _ (wBH hk')
      ·have pw2:=pw.2
       rw [<- np k X,wHg hk'] at pw2
       exact (nb.1 pw2).2.2 z h _ (by simp)
     obtain ⟨Z',i1,i2,i3⟩:=wPu hc (A:=A) (Z:=Z) (S:=X.drop (k + 1) ++ B) (x:=gd X k) (x9:=((A.length + (k + 1):Nat):Int)) (hX _ (kV _ (wBH hk'))) (fun z hz=>hX z (hsub z hz)) hlast g2 (by simp only [nD,nS,no];omega)
     refine ⟨by omega,?_⟩
     rw [wHg hk',nH]
     rw [hZl] at i1
     refine ⟨_,i1,Z',by rw [wGS (by omega)];rfl,?_,i3,by omega⟩
     rw [wDk hk']
     exact i2.trans (by simpa using g1.append_right [gd X k]))
   (s0:=(A ++ x0 :: X ++ B,((A.length + 1:Nat):Int))) ⟨[x0],by simp,by simp,by simp,by omega⟩ (by omega)
  exact ⟨Z,by rw [h1],h2,h3⟩
end Go.Proofs.YtkedcbligiebkaaGreat
