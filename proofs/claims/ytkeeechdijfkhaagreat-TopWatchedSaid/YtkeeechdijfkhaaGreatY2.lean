import Derived.Test.YtkeeechdijfkhaaGreatY1
import Derived.Test.YtkeeechdijfkhaaGreatY0
set_option linter.all false
open Option renaming bind_some->nA
open List renaming length_append->nB,append_assoc->nG,length_take->nI,mem_cons->nJ,take_append_drop->nL,mem_append->nM,pairwise_append->nN,cons_append->nO,getD_eq_getElem?_getD->nQ,getElem_of_mem->nR,getElem?_append_left->nS,set->nT,mem_append_right->nU,getElem?_append_right->nV,length_drop->nW,pairwise_cons->nY,length_cons->nZ,length_singleton->na,mem_append_left->nb,append_of_mem->nc,all_eq_true->nf,replicate->ng,nil_append->ni,eq_nil_of_length_eq_zero->nk,countP_cons->no,mem_singleton->np,getElem?_eq_some_iff->nq,append_nil->nr,getElem?_eq_getElem->nt,length_set->nu,range->nv,getElem?_take->nw,getElem?_eq_none->kC,mem_range->kD,set_append_right->kE,mem_map->kG,drop_eq_getElem_cons->kK,getElem?_drop->kM,getElem_drop->kO,getElem_take->kP,length_eq_one_iff->kQ,take_of_length_le->kR,countP_mono_left->kU,countP_le_length->kV,length_nil->kX,mem_of_mem_take->kY,perm_append_singleton->kc,ext_getElem?->ki,pairwise_iff_getElem->kj,take_length->km,drop_eq_nil_of_le->kq,mem_cons_of_mem->ku,map_cons->kv,getElem?_range->ky,mem_filterMap->kz
open Nat renaming eq_of_beq_eq_true->nD,le_refl->nK,beq->nX,min_eq_left->ny,zero_add->nz,min_eq_right->kA,zero_le->kB,blt_eq->kH,sub_self->kL,blt->kS,le_trans->kW,lt_of_lt_of_le->kZ,lt_trichotomy->kf,lt_or_ge->kl,le_of_lt->ko,lt_irrefl->kx,add_sub_cancel->aA,ble_eq->aD
open Bool renaming and_eq_true->nE,false_eq_true->nH,or_eq_true->nl,not_eq_true'->kh
open Option.some renaming inj->nP,injEq->aC
open Int renaming toNat_natCast->nh,le_refl->kJ,tmod_eq_emod_of_nonneg->ke,lt_or_le->aB
open List.cons renaming injEq->nj
open List.Pairwise renaming nil->kg
open List.Perm renaming append_left->kr,refl->aE
open Classical renaming em->aF
namespace Go.KX
noncomputable section
open Go.RowKit Go.KL
def wCp:List AOd->List Pos
 | []=>[]
 | .t p :: l=>p :: wCp l
 | .c _ :: l=>wCp l
def wMm:AOp->Bool
 | .new _ _ | .box _ _ | .mkm | .mks _ _ _ _ _ _ | .blds _ _ _ _=>true
 | _=>false
def wCO (a:AO):List Pos:=wCp (wBW a.op) ++ (match a.grd with | some (p,_)=>[p] | none=>[])
def Sub (a:AOp) (o:Oper):Prop:=∀ t,Operand.tmp t ∈ o.op.operands->∃ p ∈ wCp (wBW a),p.nat - 1=t
def wLY (l:List Oper) (x i:Nat):Prop:=∀ S:Nat->Bool,(∀ k,k < l.length->S k=true->∀ j ∈ prI l k,S j=true)->(∀ j ∈ prI l i,S j=true)->S x=true
def wHJ (acc:List Nat):List Nat->Nat
 | []=>0
 | p :: ps=>wHJ acc ps ||| (2 ^ p ||| acc.getD p 0)
def wQK (acc:List Nat):List Oper->List Nat
 | []=>acc
 | o :: r=>wQK (acc ++ [wHJ acc (wME o)]) r
theorem wIH {acc:List Nat} {x:Nat}:∀ {ps:List Nat},(wHJ acc ps).testBit x=true->∃ p ∈ ps,x=p \/ (acc.getD p 0).testBit x=true
 | [],h=>by simp [wHJ] at h
 | p :: ps,h=>by
  simp only [wHJ,Nat.testBit_or,nl,Nat.testBit_two_pow,decide_eq_true_eq] at h
  rcases h with h | h | h
  ·obtain ⟨q,h1,h2⟩:=wIH h
   exact ⟨q,by simp [h1],h2⟩
  ·exact ⟨p,by simp,.inl h.symm⟩
  ·exact ⟨p,by simp,.inr h⟩
theorem wKf {l:List Oper} (hpr:∀ i,i < l.length->∀ j ∈ prI l i,j < i):∀ (rest done:List Oper) (acc:List Nat),l=done ++ rest->acc.length=done.length->(∀ i x,(acc.getD i 0).testBit x=true->wLY l x i) ->
  ∀ i x,((wQK acc rest).getD i 0).testBit x=true->wLY l x i
 | [],done,acc,_,_,h,i,x,hx=>h i x hx
 | o :: r,done,acc,hl,hlen,h,i,x,hx=>by
  refine wKf hpr r (done ++ [o]) (acc ++ [wHJ acc (wME o)]) (by rw [hl];simp) (by simp [hlen]) ?_ i x hx
  intro i x hx
  rcases kf i acc.length with hi | hi | hi
  ·rw [nQ,nS hi,<- nQ] at hx
   exact h i x hx
  ·rw [nQ,hi,nV (nK _),kL] at hx
   have hx:(wHJ acc (wME o)).testBit x=true:=hx
   have hlt:done.length < l.length:=by rw [hl];simp
   have hp:prI l done.length=wME o:=by
    unfold prI
    rw [hl,nV (nK _),kL]
    rfl
   obtain ⟨p,h1,h2⟩:=wIH hx
   intro S hdc hS
   rw [hi,hlen] at hS
   have hSp:S p=true:=hS p (by rw [hp];exact h1)
   rcases h2 with rfl | h2
   ·exact hSp
   ·have:=hpr _ hlt p (by rw [hp];exact h1)
    exact h p x h2 S hdc (hdc p (by omega) hSp)
  ·rw [nQ,kC (by simp;omega)] at hx
   simp at hx
def dne (b:AO) (p:Pos):Bool:=match b.dst with
 | none=>true
 | some q=>!Pos.beq q p
def subB (a:AOp) (o:Oper):Bool:=o.op.operands.toList.all fun
 | .tmp t=>(wCp (wBW a)).any fun p=>nX p.nat (t + 1)
 | _=>true
def kdOK (a:AO):Bool:=wCD a.kd || (a.dst.isSome && (nX a.kd 1 || (nX a.kd 3 || ((nX a.kd 6 && nX (kdA a.op) 3) || ((nX a.kd 4 && wMm a.op) || (Nat.ble 8 a.kd && nX (kdA a.op) 1))))))
def zld (m kd:Nat):Nat->List AO->Bool
 | _,[]=>true
 | n,b :: d=>(!Nat.beq b.kd 0 || (m.testBit b.ix || kS (n + 8) kd)) && zld m kd (match wCD b.kd with | true=>n + 1 | false=>n) d
def zop (m:Nat) (l:List Oper) (d:List AO) (a:AO) (t:List AO):Bool :=
 (!wCD a.kd || d.all fun b=>m.testBit b.ix) &&
 ((match a.dst with | none=>true | some p=>d.all (fun b=>dne b p) && t.all (fun b=>dne b p)) &&
 ((wCO a).all (fun p=>dne a p && (t.all (fun b=>dne b p) && d.all (fun b=>dne b p || (m.testBit b.ix && (!(nX a.kd 1 || (nX a.kd 3 || Nat.ble 8 a.kd)) || !(nX b.kd 4 || nX b.kd 6)))))) &&
 ((!Nat.beq a.kd 1 || d.all fun b=>!Nat.beq b.kd 0 || m.testBit b.ix) && (!Nat.ble 8 a.kd || zld m a.kd 0 d) &&
 (t.all (fun b=>!Nat.beq b.ix a.ix) &&
 (kdOK a && (match l[a.ix]? with | none=>false | some o=>!wBe o && subB a.op o))))))
def zgo (an:List Nat) (l:List Oper) (d:List AO):List AO->Bool
 | []=>true
 | a :: t=>zop (an.getD a.ix 0) l d a t && zgo an l (a :: d) t
def wRL (a:AO):Bool:=nX a.kd 0 && (match a.op with | .mv _=>true | _=>false)
def wRM:List AO->List AO
 | []=>[]
 | a :: t=>match wRL a with
  | true=>[]
  | false=>a :: wRM t
def wPV:List AO->List AO
 | []=>[]
 | a :: t=>match wRL a with
  | true=>a :: t
  | false=>wPV t
theorem wQL:∀ os:List AO,os=wRM os ++ wPV os
 | []=>rfl
 | a :: t=>by
  unfold wRM wPV
  cases wRL a with
  | true=>rfl
  | false=>exact congrArg (a :: ·) (wQL t)
def ztl (an:List Nat) (l:List Oper) (os:List AO):Bool :=
 ((wPV os).all (fun a=>kS a.kd 8) && (wRM os).all fun a=>kS a.kd 8 || ((wCO a).all (fun p=>(wPV os).all fun b=>dne b p) && (match a.dst with | some p=>(wPV os).all fun b=>dne b p | none=>true))) && (zgo an l [] (wRM os) && (zgo an l [] (wPV os) && (wPV os).all fun b=>(wRM os).all fun a=>!Nat.beq a.ix b.ix && (an.getD b.ix 0).testBit a.ix))
def chkZ (l:List Oper) (os:List AO):Bool :=
 (nv l.length).all (fun i=>(prI l i).all (kS · i)) && ((nv l.length).all (fun i=>os.any fun a=>nX a.ix i) && (zgo (wQK [] l) l [] os || ztl (wQK [] l) l os))
def wPD (l:List AO):Nat:=l.countP fun b=>wCD b.kd
structure ZOK (P:Program) (N:Nat) (l:List Oper) (os:List AO):Prop where
 ao:∀ a ∈ os,wHI P N l a=true
 one:os.Pairwise fun a b=>a.ix ≠ b.ix
 pr:∀ i,i < l.length->∀ j ∈ prI l i,j < i
 anc:∀ s a t,os=s ++ a :: t->wCD a.kd=true->∀ b ∈ s,wLY l b.ix a.ix
 wr:∀ s a t,os=s ++ a :: t->∀ p,a.dst=some p->∀ b ∈ s ++ t,b.dst ≠ some p
 rd:∀ s a t,os=s ++ a :: t->∀ p ∈ wCO a,∀ b ∈ a :: t,b.dst ≠ some p
 rdS:∀ a ∈ os,∀ p ∈ wCO a,∀ b ∈ os,b.dst=some p->wLY l b.ix a.ix
 kd:∀ a ∈ os,wCD a.kd=true \/ (a.dst ≠ none/\(a.kd=1 \/ a.kd=3 \/ (a.kd=6/\kdA a.op=3) \/ (a.kd=4/\wMm a.op=true) \/ (8 <= a.kd/\kdA a.op=1)))
 cl:∀ a ∈ os,a.kd=1 \/ a.kd=3 \/ 8 <= a.kd->∀ p ∈ wCO a,∀ b ∈ os,b.dst=some p->b.kd ≠ 4/\b.kd ≠ 6
 sel:∀ a ∈ os,∀ o,l[a.ix]?=some o->wBe o=false
 sub:∀ a ∈ os,∀ o,l[a.ix]?=some o->Sub a.op o
 ld:∀ s a t,os=s ++ a :: t->a.kd=1->∀ b ∈ s,b.kd=0->wLY l b.ix a.ix
 ld8:∀ s a t,os=s ++ a :: t->8 <= a.kd->∀ s1 b s2,s=s1 ++ b :: s2->b.kd=0->wLY l b.ix a.ix \/ wPD s2 + 8 < a.kd
theorem wQM {m kd:Nat}:∀ (x:List AO) (b:AO) (y:List AO) (n:Nat),zld m kd n (x ++ b :: y)=true->b.kd=0->m.testBit b.ix=true \/ n + wPD x + 8 < kd
 | [],b,y,n,h,h0=>by
  rw [ni,zld,h0] at h
  simp only [nE,nl,kH] at h
  rcases h.1 with g | g | g
  ·exact absurd g (by decide)
  ·exact .inl g
  ·exact .inr g
 | c :: x,b,y,n,h,h0=>by
  rw [nO,zld] at h
  simp only [nE] at h
  have:=wQM x b y _ h.2 h0
  refine this.imp id fun h=>?_
  unfold wPD at h ⊢
  rw [no]
  cases hf:wCD c.kd <;> rw [hf] at h <;> simp only [if_true,if_false,nH] at h ⊢ <;> omega
theorem Pos.beq_self:∀ p:Pos,p.beq p=true
 | .H=>rfl
 | .O p=>Pos.beq_self p
 | .I p=>Pos.beq_self p
theorem wHK {b:AO} {p:Pos} (h:dne b p=true):b.dst ≠ some p:=by
 intro e
 unfold dne at h
 rw [e] at h
 simp [Pos.beq_self] at h
theorem wQN {an:List Nat} {l:List Oper}:∀ (os d:List AO),zgo an l d os=true->∀ s a t,os=s ++ a :: t->zop (an.getD a.ix 0) l (s.reverse ++ d) a t=true
 | [],d,_,s,a,t,e=>by simp at e
 | b :: os,d,h,[],a,t,e=>by
  simp only [ni,nj] at e
  obtain ⟨rfl,rfl⟩:=e
  simp only [zgo,nE] at h
  exact h.1
 | b :: os,d,h,c :: s,a,t,e=>by
  simp only [nO,nj] at e
  obtain ⟨rfl,rfl⟩:=e
  simp only [zgo,nE] at h
  have:=wQN (s ++ a :: t) (b :: d) h.2 s a t rfl
  simpa using this
theorem wSn {α:Type} {R:α->α->Prop}:∀ (l:List α),(∀ s a t,l=s ++ a :: t->∀ b ∈ t,R a b)->l.Pairwise R
 | [],_=>kg
 | a :: l,h=>nY.2 ⟨fun b hb=>h [] a l rfl b hb,wSn l fun s b t e=>h (a :: s) b t (by rw [e];rfl)⟩
theorem wLZ {P:Program} {N:Nat} {l:List Oper} {os:List AO} (hao:∀ a ∈ os,wHI P N l a=true) (hpr:∀ i,i < l.length->∀ j ∈ prI l i,j < i) (hz:zgo (wQK [] l) l [] os=true):ZOK P N l os:=by
 have han:∀ i x,((wQK [] l).getD i 0).testBit x=true->wLY l x i:=wKf hpr l [] [] rfl rfl fun i x h=>by simp at h
 have key:∀ s a t,os=s ++ a :: t->zop ((wQK [] l).getD a.ix 0) l s.reverse a t=true:=fun s a t e=>by
  have:=wQN os [] hz s a t e
  rwa [nr] at this
 have wMU:∀ s a t,os=s ++ a :: t ->
   (wCD a.kd=true->∀ b ∈ s,wLY l b.ix a.ix)/\(∀ p,a.dst=some p->∀ b ∈ s ++ t,b.dst ≠ some p) /\
   (∀ p ∈ wCO a,(∀ b ∈ a :: t,b.dst ≠ some p)/\∀ b ∈ s,b.dst=some p->wLY l b.ix a.ix/\(a.kd=1 \/ a.kd=3 \/ 8 <= a.kd->b.kd ≠ 4/\b.kd ≠ 6)) /\
   ((a.kd=1->∀ b ∈ s,b.kd=0->wLY l b.ix a.ix)/\(8 <= a.kd->∀ s1 b s2,s=s1 ++ b :: s2->b.kd=0->wLY l b.ix a.ix \/ wPD s2 + 8 < a.kd))/\(∀ b ∈ t,a.ix ≠ b.ix)/\kdOK a=true/\(∀ o,l[a.ix]?=some o->wBe o=false/\subB a.op o=true):=by
  intro s a t e
  have hk:=key s a t e
  unfold zop at hk
  simp only [nE,nf,List.mem_reverse,nl,kh] at hk
  obtain ⟨k1,k2,k3,⟨k4,k8⟩,k5,k6,k7⟩:=hk
  refine ⟨fun hf b hb=>?_,fun p hp b hb=>?_,fun p hp=>⟨fun b hb=>?_,fun b hb hd=>?_⟩,⟨fun h1 b hb h0=>?_,fun h8 s1 b s2 es h0=>?_⟩,fun b hb he=>?_,k6,fun o ho=>?_⟩
  ·rcases k1 with k1 | k1
   ·rw [hf] at k1;cases k1
   ·exact han _ _ (k1 b hb)
  ·rw [hp] at k2
   simp only [nE,nf,List.mem_reverse] at k2
   rcases nM.1 hb with hb | hb
   ·exact wHK (k2.1 b hb)
   ·exact wHK (k2.2 b hb)
  ·obtain ⟨g1,g2,g3⟩:=k3 p hp
   rcases nJ.1 hb with rfl | hb
   ·exact wHK g1
   ·exact wHK (g2 b hb)
  ·obtain ⟨g1,g2,g3⟩:=k3 p hp
   rcases g3 b hb with g | ⟨g,g'⟩
   ·exact absurd hd (wHK g)
   ·refine ⟨han _ _ g,fun hk=>?_⟩
    rcases g' with g' | g'
    ·rcases hk with hk | hk | hk
     ·rw [hk] at g';exact absurd g' (by decide)
     ·rw [hk] at g';exact absurd g' (by decide)
     ·simp only [Bool.or_eq_false_iff] at g'
      have h8:Nat.ble 8 a.kd=true:=by rw [aD];exact hk
      rw [g'.2.2] at h8
      cases h8
    ·constructor <;> intro h4 <;> rw [h4] at g' <;> exact absurd g' (by decide)
  ·rcases k4 with k4 | k4
   ·rw [h1] at k4;exact absurd k4 (by decide)
   ·rcases k4 b hb with g | g
    ·rw [h0] at g;exact absurd g (by decide)
    ·exact han _ _ g
  ·rcases k8 with k8 | k8
   ·rw [<- Bool.not_eq_true,aD] at k8
    exact absurd h8 k8
   ·rw [es,List.reverse_append,List.reverse_cons,nG] at k8
    rcases wQM s2.reverse b (s1.reverse) 0 (by simpa using k8) h0 with g | g
    ·exact .inl (han _ _ g)
    ·refine .inr ?_
     unfold wPD at g ⊢
     rw [List.countP_reverse] at g
     omega
  ·have:=k5 b hb
   rw [he] at this
   simp at this
  ·rw [ho] at k7
   simpa using k7
 have mem:∀ a ∈ os,∃ s t,os=s ++ a :: t:=fun a ha=>nc ha
 refine ⟨hao,wSn os fun s a t e=>(wMU s a t e).2.2.2.2.1,hpr,fun s a t e=>(wMU s a t e).1,fun s a t e=>(wMU s a t e).2.1,fun s a t e p hp=>((wMU s a t e).2.2.1 p hp).1,fun a ha p hp b hb hd=>?_,fun a ha=>?_,fun a ha hk p hp b hb hd=>?_,fun a ha o ho=>?_,fun a ha o ho=>?_,fun s a t e=>(wMU s a t e).2.2.2.1.1,fun s a t e=>(wMU s a t e).2.2.2.1.2⟩
 ·obtain ⟨s,t,e⟩:=mem a ha
  obtain ⟨g1,g2⟩:=(wMU s a t e).2.2.1 p hp
  rw [e] at hb
  rcases nM.1 hb with hb | hb
  ·exact (g2 b hb hd).1
  ·exact absurd hd (g1 b hb)
 ·obtain ⟨s,t,e⟩:=mem a ha
  have hk:=(wMU s a t e).2.2.2.2.2.1
  unfold kdOK at hk
  simp only [nl,nE] at hk
  rcases hk with hk | ⟨h1,hk⟩
  ·exact .inl hk
  ·refine .inr ⟨fun e=>(by rw [e] at h1;cases h1),?_⟩
   rcases hk with hk | hk | ⟨hk,h2⟩ | ⟨hk,h2⟩ | ⟨hk,h2⟩
   ·exact .inl (nD hk)
   ·exact .inr (.inl (nD hk))
   ·exact .inr (.inr (.inl ⟨nD hk,nD h2⟩))
   ·exact .inr (.inr (.inr (.inl ⟨nD hk,h2⟩)))
   ·exact .inr (.inr (.inr (.inr ⟨by rwa [aD] at hk,nD h2⟩)))
 ·obtain ⟨s,t,e⟩:=mem a ha
  obtain ⟨g1,g2⟩:=(wMU s a t e).2.2.1 p hp
  rw [e] at hb
  rcases nM.1 hb with hb | hb
  ·exact (g2 b hb hd).2 hk
  ·exact absurd hd (g1 b hb)
 ·obtain ⟨s,t,e⟩:=mem a ha
  exact ((wMU s a t e).2.2.2.2.2.2 o ho).1
 ·obtain ⟨s,t,e⟩:=mem a ha
  have h1:=((wMU s a t e).2.2.2.2.2.2 o ho).2
  unfold subB at h1
  rw [nf] at h1
  intro x hx
  have:=h1 (.tmp x) (by simpa using hx)
  simp only [List.any_eq_true] at this
  obtain ⟨p,g1,g2⟩:=this
  exact ⟨p,g1,by rw [nD g2];rfl⟩
structure ZAll (P:Program) (N:Nat) (l:List Oper) (os A B:List AO):Prop where
 eq:os=A ++ B
 za:ZOK P N l A
 zb:ZOK P N l B
 cross:∀ b ∈ B,∀ a ∈ A,a.ix ≠ b.ix/\wLY l a.ix b.ix
 low:∀ b ∈ B,b.kd < 8
 far:∀ a ∈ A,8 <= a.kd->∀ p,p ∈ wCO a \/ a.dst=some p->∀ b ∈ B,b.dst ≠ some p
 all:∀ i,i < l.length->∃ a ∈ os,a.ix=i
theorem wOH {P:Program} {N:Nat} {l:List Oper} {os:List AO} (hao:∀ a ∈ os,wHI P N l a=true) (h:chkZ l os=true):∃ A B,ZAll P N l os A B:=by
 unfold chkZ at h
 rw [nE,nE,nl] at h
 obtain ⟨hpr0,hall0,hz⟩:=h
 simp only [nf,kD,kH,List.any_eq_true] at hpr0 hall0
 have hpr:∀ i,i < l.length->∀ j ∈ prI l i,j < i:=hpr0
 have hall:∀ i,i < l.length->∃ a ∈ os,a.ix=i:=fun i hi=>by
  obtain ⟨a,h1,h2⟩:=hall0 i hi
  exact ⟨a,h1,nD h2⟩
 have han:∀ i x,((wQK [] l).getD i 0).testBit x=true->wLY l x i:=wKf hpr l [] [] rfl rfl fun i x h=>by simp at h
 rcases hz with hz | hz
 ·exact ⟨os,[],by simp,wLZ hao hpr hz,wLZ (fun a ha=>by simp at ha) hpr rfl,fun b hb=>by simp at hb,fun b hb=>by simp at hb,fun a _ _ p _ b hb=>by simp at hb,hall⟩
 ·unfold ztl at hz
  simp only [nE,nf,kH,kh] at hz
  obtain ⟨⟨h1,h5⟩,h2,h3,h4⟩:=hz
  have e:=wQL os
  refine ⟨wRM os,wPV os,e,wLZ (fun a ha=>hao a (by rw [e];simp [ha])) hpr h2,wLZ (fun a ha=>hao a (by rw [e];simp [ha])) hpr h3,fun b hb a ha=>⟨fun e=>?_,han _ _ (h4 b hb a ha).2⟩,h1,fun a ha h8 p hp b hb=>?_,hall⟩
  ·have:=(h4 b hb a ha).1
   rw [e] at this
   simp at this
  ·have h6:=h5 a ha
   simp only [nl,nE,nf,kH] at h6
   rcases h6 with h6 | ⟨h6,h7⟩
   ·omega
   ·rcases hp with hp | hp
    ·exact wHK (h6 p hp b hb)
    ·rw [hp] at h7
     simp only [nf] at h7
     exact wHK (h7 b hb)
theorem wIf {tb:Tr AF} {ex exY:Run} {σf:Tr AV} {h:AH}:∀ (x y:List AO) (n:Nat),wJy tb ex exY σf h n (x ++ y)=true->wJy tb ex exY σf h n x=true
 | [],_,_,_=>rfl
 | a :: x,y,n,hl=>by
  rw [nO,wEj] at hl
  rw [wEj]
  cases hf:wCD a.kd with
  | true =>
   rw [hf] at hl
   exact wIf x y _ hl
  | false =>
   rw [hf] at hl
   simp only [nE] at hl ⊢
   exact ⟨hl.1,wIf x y _ hl.2⟩
theorem wKg {tb:Tr AF} {ex exY:Run} {σf:Tr AV} {h:AH}:∀ (x:List AO) (a:AO) (y:List AO) (n:Nat),wJy tb ex exY σf h n (x ++ a :: y)=true->wCD a.kd=false->n + wPD x + 8 < a.kd->wIB tb ex exY σf h a=true
 | [],a,y,n,hl,hf,hn=>by
  rw [ni,wEj,hf] at hl
  simp only [nE] at hl
  have hb:kS (n + 8) a.kd=true:=by rw [kH];exact hn
  rw [hb] at hl
  exact hl.1
 | c :: x,a,y,n,hl,hf,hn=>by
  rw [nO,wEj] at hl
  unfold wPD at hn
  rw [no] at hn
  cases hc:wCD c.kd with
  | true =>
   rw [hc] at hl hn
   exact wKg x a y _ hl hf (by unfold wPD;simp only [if_true] at hn;omega)
  | false =>
   rw [hc] at hl hn
   simp only [nE] at hl
   exact wKg x a y _ hl.2 hf (by unfold wPD;simp only [if_false,nH] at hn;omega)
def LCK (tb:Tr AF) (ex exY:Run) (os:List AO) (σ0:Tr AV) (h0:AH) (σf:Tr AV):Prop :=
 ∀ s b t,os=s ++ b :: t->b.kd=0->∀ σ1 h1,wAk tb ex exY s σ0 h0=some (σ1,h1)->wJy tb ex exY σf h1 0 t=true
theorem wKh {tb:Tr AF} {ex exY:Run}:∀ (os:List AO) (σ:Tr AV) (h:AH) (r:Tr AV × AH),wNZ tb ex exY os σ h=some r->wAk tb ex exY os σ h=some r/\LCK tb ex exY os σ h r.1
 | [],σ,h,r,hr=>by
  rw [wPM] at hr
  exact ⟨by rw [wAy];exact hr,fun s b t e=>by simp at e⟩
 | o :: os,σ,h,r,hr=>by
  rw [wNa] at hr
  split at hr
  ·cases hr
  ·rename_i q hq
   split at hr
   ·cases hr
   ·rename_i r' hr'
    have e:r'=r:=by
     split at hr
     ·split at hr
      ·cases hr;rfl
      ·cases hr
     ·cases hr;rfl
    subst e
    obtain ⟨g1,g2⟩:=wKh os _ _ _ hr'
    have g0:∀ s,wAk tb ex exY (o :: s) σ h=wAk tb ex exY s q.1 q.2:=by
     intro s
     rw [wBC]
     unfold wQi at hq
     cases hw:wCt σ o.grd with
     | true =>
      rw [hw] at hq
      simp only at hq ⊢
      split at hq
      ·rename_i y hy
       cases hq
       rfl
      ·cases hq
     | false =>
      rw [hw] at hq
      cases hq
      rfl
    refine ⟨by rw [g0];exact g1,fun s b t e h0 σ1 h1 hs=>?_⟩
    cases s with
    | nil =>
     simp only [ni,nj] at e
     obtain ⟨rfl,rfl⟩:=e
     rw [wAy] at hs
     cases hs
     have hb:nX o.kd 0=true:=by rw [h0];rfl
     rw [hb] at hr
     simp only at hr
     split at hr
     ·assumption
     ·cases hr
    | cons c s =>
     simp only [nO,nj] at e
     obtain ⟨rfl,rfl⟩:=e
     rw [g0] at hs
     exact g2 s b t rfl h0 σ1 h1 hs
theorem wLa {tb:Tr AF} {ex exY:Run} {os:List AO} {σ:Tr AV} {h:AH} {σf:Tr AV} (hk:∀ a ∈ os,a.kd < 8):LCK tb ex exY os σ h σf:=by
 intro s b t e _ σ1 h1 _
 have:∀ (l:List AO) (n:Nat),(∀ a ∈ l,a.kd < 8)->wJy tb ex exY σf h1 n l=true:=by
  intro l
  induction l with
  | nil=>intro n _;rfl
  | cons a l ih =>
   intro n hl
   rw [wEj]
   have ha:=hl a (by simp)
   have hb:kS (n + 8) a.kd=false:=by rw [<- Bool.not_eq_true,kH];omega
   cases wCD a.kd with
   | true=>exact ih _ fun b hb=>hl b (by simp [hb])
   | false =>
    simp only [hb,Bool.true_and]
    exact ih _ fun b hb=>hl b (by simp [hb])
 exact this t 0 fun a ha=>hk a (by rw [e];simp [ha])
end
end Go.KX
namespace Go.KX
noncomputable section
open Go.RowKit Go.KL
def kdAt (i:Nat):List AO->Nat
 | []=>0
 | a :: os=>match nX a.ix i with
  | true=>a.kd
  | false=>kdAt i os
def lazyA (os:List AO):Bool:=os.any fun a=>kS 3 a.kd
def chkR (P:Program) (N:Nat) (os:List AO) (l:List Oper) (draw:Bool):Bool :=
 let ks:=(nv l.length).map fun i=>kdAt i os
 os.all (fun a=>wHI P N l a && nX (kOf ks a.ix) a.kd) && (match draw with
  | true=>(match lazyA os with
   | true=>os.all (fun a=>kS a.kd 8) && chkZ l os
   | false=>wMr l ks (wJU os))
  | false=>inOrder 0 (wJU os) l.length)
def wMW (N:Nat):List Pos->List Nat->Bool
 | [],[]=>true
 | t :: ts,p :: ps=>(nX t.nat (p + 1) && kS p N) && wMW N ts ps
 | _,_=>false
theorem wLb {N:Nat}:∀ {ts:List Pos} {ps:List Nat},wMW N ts ps=true->ts.map Pos.nat=ps.map (· + 1)/\∀ x ∈ ps,x < N
 | [],[],_=>by simp
 | t :: ts,p :: ps,h=>by
  simp only [wMW,nE,kH] at h
  obtain ⟨⟨h1,h2⟩,h3⟩:=h
  obtain ⟨h4,h5⟩:=wLb h3
  refine ⟨by simp [h4,nD h1],?_⟩
  intro x hx
  rcases nJ.1 hx with rfl | hx
  ·exact h2
  ·exact h5 x hx
 | [],_ :: _,h=>by simp [wMW] at h
 | _ :: _,[],h=>by simp [wMW] at h
theorem wLc {μ:Mu}:∀ {ts:List Pos} {ns:List Nat} {σA σB:Tr AV} {σ:Env} {as:List AV} {vs:List Value},wQh σA ts as=some σB->ts.map Pos.nat=ns.map (· + 1)->RvL μ as vs->EnvR μ σA σ->EnvR μ σB (wPB σ ns vs)/\ns.length=vs.length
 | [],ns,σA,σB,σ,as,vs,hs,hn,hv,hE=>by
  cases ns with
  | cons _ _=>simp at hn
  | nil =>
   cases as with
   | cons _ _=>simp [wQh] at hs
   | nil=>cases hv;simp only [wQh,aC] at hs;subst hs;exact ⟨hE,rfl⟩
 | t :: ts,ns,σA,σB,σ,as,vs,hs,hn,hv,hE=>by
  cases ns with
  | nil=>simp at hn
  | cons n ns =>
   cases as with
   | nil=>simp [wQh] at hs
   | cons a as =>
    obtain ⟨v,ws,h1,h2,rfl⟩:=hv
    simp only [kv,nj] at hn
    have hp:=hE.put (p:=t) h1
    have e:t.nat - 1=n:=by omega
    rw [e] at hp
    obtain ⟨g1,g2⟩:=wLc (ts:=ts) (ns:=ns) (σA:=σA.set t a) (σ:=upd σ n v) (by simpa [wQh] using hs) hn.2 h2 hp
    exact ⟨g1,by simp [g2]⟩
def wFr (P:Program) (N:Nat):AC->Code->Bool
 | .skip,.skip=>true
 | .skip,.label _=>true
 | .rg os,.region _ ops draw=>chkR P N os ops.toList draw
 | .rl os,.region _ ops draw=>draw && (os.all (fun a=>wHI P N ops.toList a) && chkZ ops.toList os)
 | .seq a b,.seq c d=>wFr P N a c && wFr P N b d
 | .cond x a b,.cond y c d=>wBz x y && (wFr P N a c && wFr P N b d)
 | .block i a,.block j c=>nX i j && wFr P N a c
 | .loop a,.loop c=>wFr P N a c
 | .scope a,.scope c=>wFr P N a c
 | .rf g t asg body,.rangeFunc g' ps asg' body'=>wBz g g' && (wMW N t ps.toList && (wFr P N asg asg' && wFr P N body body'))
 | .exit i,.exit j=>nX i j
 | .ret,.ret=>true
 | _,_=>false
def CC (P:Program):Chk:=fun a c N=>wFr P N a c=true
section
variable {P:Program} {tb:Tr AF} {μ μ' μ'':Mu} {w w' w'':World} {h h' h'':AH} {σ:Env} {σA:Tr AV}
def Mk (μ:Mu) (w:World) (n0:Nat) (D:List Deferred):Prop:=∃ rbs:List Nat,D=rbs.map mark/\rbs.Nodup/\∀ rb ∈ rbs,Dfr w rb/\n0 <= rb/\∀ p c,μ p=some c->c.1 ≠ rb
theorem Mk.nil (μ:Mu) (w:World) (n0:Nat):Mk μ w n0 []:=⟨[],rfl,by simp,by simp⟩
theorem Mk.ext {n0 fl:Nat} {D:List Deferred} (M:Mk μ w n0 D) (E:Ext μ fl w μ' w'):Mk μ' w' n0 D:=by
 obtain ⟨rbs,h1,h2,h3⟩:=M
 refine ⟨rbs,h1,h2,fun rb hrb=>?_⟩
 obtain ⟨g1,g2,g3⟩:=h3 rb hrb
 refine ⟨g1.keep E.keep fun ⟨p,d,q1,q2,_⟩=>g3 p d q1 q2,g2,fun p c hp=>?_⟩
 rcases E.new p c hp with q | ⟨p',d,q1,q2,_⟩ | q
 ·exact g3 p c q
 ·rw [<- q2];exact g3 p' d q1
 ·have:=g1.lt;omega
def PostX (P:Program) (μ:Mu) (fl:Pos) (w:World) (n0:Nat) (rr:Option Nat) (D:List Deferred) (e:Ex) (σA':Tr AV) (h':AH):wDg:=fun D' e' σ' w' =>
 e'=exC e/\∃ μ',Ext μ fl.nat w μ' w'/\Sim (CC P) P μ' h' w'/\EnvR μ' σA' σ'/\Mk μ' w' n0 D'/\h'.fl=fl/\(rr.isSome=true->D'=D)
def wJW (P:Program) (ex:Run) (r:Bool):Prop:=∀ c σA h e σA' h',ex c σA h=some (e,σA',h')->∀ code N,wFr P N c code=true->∀ (rr:Option Nat) (μ:Mu) (σ:Env) (w:World) (D:List Deferred) (n0:Nat),
 rr.isSome=r->Sim (CC P) P μ h w->EnvR μ σA σ->Mk μ w n0 D->n0 <= w.heap.size->CK rr N P code (PostX P μ h.fl w n0 rr D e σA' h') D σ w
def wOI (P:Program) (ex:Run) (r:Bool) (m:Nat):Prop:=∀ c σA h e σA' h',ex (.loop c) σA h=some (e,σA',h')->∀ code N,wFr P N c code=true->∀ (rr:Option Nat) (μ:Mu) (σ:Env) (w:World) (D:List Deferred) (n0:Nat),
 rr.isSome=r->Sim (CC P) P μ h w->EnvR μ σA σ->Mk μ w n0 D->n0 <= w.heap.size->∀ a,Rep N D a σ->Code.roundsIn (WF rr) 0 P code (wIO N (PostX P μ h.fl w n0 rr D e σA' h')) m a w
theorem PostX.trans {fl:Pos} {n0:Nat} {rr:Option Nat} {D D1 D':List Deferred} {e:Ex} {e':Exit} {σA':Tr AV} {σ':Env} (E:Ext μ fl.nat w μ' w') (hD:rr.isSome=true->D1=D) (hP:PostX P μ' fl w' n0 rr D1 e σA' h' D' e' σ' w''):PostX P μ fl w n0 rr D e σA' h' D' e' σ' w'':=by
 obtain ⟨h1,μ2,h2,h3,h4,h5,h6,h7⟩:=hP
 exact ⟨h1,μ2,E.trans h2,h3,h4,h5,h6,fun hr=>(h7 hr).trans (hD hr)⟩
theorem wHL {F:Fence} {n:Nat} {c:Code} {Q Q':Exit->Act->World->Prop} (hQ:∀ e a w,Q e a w->Q' e a w):∀ (m:Nat) (a:Act) (w:World),Code.roundsIn F n P c Q m a w->Code.roundsIn F n P c Q' m a w
 | 0,_,_,h=>h.elim
 | m + 1,a,w,h=>by
  rw [roundsIn_succ] at h ⊢
  refine wpIn_mono h fun e a w q=>?_
  cases e with
  | normal=>exact wHL hQ m a w q
  | _=>exact hQ _ _ _ q
theorem Ext.drew (μ:Mu) (fl:Nat) (w:World):Ext μ fl w μ { w with drawn:=w.drawn + 1 }:=⟨Mu.Le.refl μ,fun _ _ h=>.inl h,(Keep.drew w).weak fun _ _ h=>h.elim⟩
theorem Sim.keepX {C:Chk} {X:Nat->Prop} (S:Sim C P μ h w) (K:Keep w w' X) (hX:∀ p c,μ p=some c->¬ X c.1):Sim C P μ h w' :=
 ⟨S.nx,fun p c hp=>kZ (S.lt p c hp) K.size,S.inj,fun p b hb=>let ⟨c,h1,h2⟩:=S.at_ p b hb;⟨c,h1,h2.keep K (hX p c h1)⟩⟩
def wEX (P:Program):List AR->List ResultVar->Bool
 | [],[]=>true
 | .t p :: l,.tmp t :: k=>nX p.nat (t + 1) && wEX P l k
 | .c p n :: l,.cell a t :: k=>nX p.nat (a + 1) && ((match n with | none=>wPQ P t false | some n=>wPQ P t true && szT P t n) && wEX P l k)
 | _,_=>false
def chkF (P:Program) (k:Nat) (af:AF):Bool:=match P.funcs[k]? with
 | none=>false
 | some fn=>match fn.body with
  | none=>false
  | some c => nX fn.ntmps af.n && (wEX P af.res fn.results.toList && (!(fn.name == "runtime.NumGoroutine") && wFr P fn.ntmps af.body c))
theorem wKi {C:Chk} (hE:EnvR μ σA σ) (S:Sim C P μ h w):∀ {l:List AR} {k:List ResultVar} {vs:List AV},wEX P l k=true->wSB σA h l=some vs->∃ VS,RvL μ vs VS/\wRz P w σ k VS
 | [],[],vs,_,hr=>by simp only [wSB] at hr;cases hr;exact ⟨[],rfl,trivial⟩
 | .t p :: l,.tmp t :: k,vs,hc,hr=>by
  simp only [wEX,nE] at hc
  simp only [wSB,res1] at hr
  split at hr
  ·rename_i vs' hvs
   cases hr
   obtain ⟨VS,g1,g2⟩:=wKi hE S hc.2 hvs
   have e:=nD hc.1
   have g:=hE p
   rw [e] at g
   exact ⟨_,wBU g g1,rfl,g2⟩
  ·cases hr
 | .c p n :: l,.cell a t :: k,vs,hc,hr=>by
  simp only [wEX,nE] at hc
  obtain ⟨c1,c2,c3⟩:=hc
  have e:=nD c1
  have g:=hE p
  rw [e] at g
  rw [wSB] at hr
  split at hr
  ·rename_i v hv
   split at hr
   ·rename_i vs' hvs
    cases hr
    obtain ⟨VS,g1,g2⟩:=wKi hE S c3 hvs
    simp only [res1] at hv
    split at hv
    ·rename_i b off hb
     split at hv
     ·rename_i cl hcl
      obtain ⟨c,ws,q1,q2,q3⟩:=wEy hcl S
      rw [hb] at g
      obtain ⟨c',k1,k2⟩:=g
      rw [q1] at k1;cases k1
      have k2:σ a=.pointer (some ⟨c.1,off,none⟩):=k2
      split at hv
      ·rw [wGV] at hv
       obtain ⟨cv,r1,r2⟩:=wFO q2 hv
       refine ⟨_,wBU r2 g1,⟨_,k2,?_⟩,g2⟩
       simp [loadVar,wEm c2,load,Sem.run,q3 w (Keep.refl w _) _ _ r1]
      ·rename_i n
       simp only [nE] at c2
       obtain ⟨r,hr3,rfl⟩:=wDr hv
       obtain ⟨r1,r2⟩:=wFP hr3 q2
       refine ⟨_,wBU ⟨_,r1,rfl⟩ g1,⟨_,k2,?_⟩,g2⟩
       have:=KL.run_loadCells (P:=P) (w:=w) (b:=c.1) (off:=off) (n:=n) ((ws.drop off).take n) (by simp;omega) fun j u hu=>q3 w (Keep.refl w _) _ _ (wEh rfl j u hu)
       simp [loadVar,wEm c2.1,wDy c2.2,this]
     ·cases hv
    ·cases hv
   ·cases hr
  ·cases hr
 | [],_ :: _,_,hc,_=>by simp [wEX] at hc
 | .t _ :: _,[],_,hc,_=>by simp [wEX] at hc
 | .c _ _ :: _,[],_,hc,_=>by simp [wEX] at hc
 | .t _ :: _,.cell _ _ :: _,_,hc,_=>by simp [wEX] at hc
 | .c _ _ :: _,.tmp _ :: _,_,hc,_=>by simp [wEX] at hc
theorem wRN {C:Chk} {l:List AR} {rs:Array ResultVar} {v:AV} (hE:EnvR μ σA σ) (S:Sim C P μ h w) (hc:wEX P l rs.toList=true) (hr:wQg σA h l=some (v,h')):h'=h/\∃ cv,Rv μ v cv/\(wCV rs σ).run P w=.ok cv w:=by
 unfold wQg at hr
 split at hr
 ·rename_i vs hvs
  cases hr
  refine ⟨rfl,?_⟩
  obtain ⟨VS,g1,g2⟩:=wKi hE S hc hvs
  have hrs:rs=rs.toList.toArray:=by simp
  unfold tupA
  split
  ·rename_i v
   obtain ⟨cv,ws,q1,q2,q3⟩:=g1
   cases q2
   subst q3
   refine ⟨cv,q1,?_⟩
   have hl:∃ r,rs=#[r]:=by
    cases hq:rs.toList with
    | nil=>rw [hq] at g2;exact g2.elim
    | cons r k =>
     cases k with
     | nil=>exact ⟨r,Array.ext' (by simpa using hq)⟩
     | cons r' k=>rw [hq] at g2;cases r <;> cases r' <;> exact g2.2.elim
   obtain ⟨r,rfl⟩:=hl
   exact wMH g2
  ·rename_i hne
   refine ⟨_,⟨VS,g1,rfl⟩,?_⟩
   rw [hrs]
   refine wEL g2 ?_
   have hl:=wDG g1
   cases hb:VS.length == 1 with
   | false=>rfl
   | true =>
    have:vs.length=1:=by rw [<- hl];exact eq_of_beq hb
    obtain ⟨v,hv⟩:=kQ.1 this
    exact absurd hv (hne v)
 ·cases hr
def wMX (P:Program) (tb:Tr AF):Prop:=∀ p af,tb.get p=some af->chkF P (p.nat - 1) af=true
theorem wOJ (T:wMX P tb) {ex:Run} (HE:wJW P ex false):wGW (CC P) P tb ex:=by
 intro f args h v h' hr
 unfold wJK at hr
 split at hr
 ·rename_i af haf
  have hcf:=T f af haf
  unfold chkF at hcf
  split at hcf
  ·cases hcf
  ·rename_i fn hfn
   split at hcf
   ·cases hcf
   ·rename_i c hbody
    simp only [nE,kh] at hcf
    obtain ⟨c1,c2,c3,c4⟩:=hcf
    refine ⟨fun a w=>?_,fun μ w vs S hv=>?_⟩
    ·have c3' : ¬ fn.name = "runtime.NumGoroutine" := by simpa using c3
     simp [callFunc,program,Sem.run,hfn,hbody,c3']
    ·split at hr
     ·rename_i hle
      have hle:=Nat.le_of_ble_eq_true hle
      have e1:=nD c1
      have key:∀ e σA' h1,ex af.body (wNW args .H .e) h=some (e,σA',h1)->(e=.nrm \/ e=.ret)->wQg σA' h1 af.res=some (v,h')->Gv P (f.nat - 1) vs w fun cv w'=>∃ μ',Ext μ h.fl.nat w μ' w'/\Sim (CC P) P μ' h' w'/\Rv μ' v cv/\h'.fl=h.fl:=by
       intro e σA' h1 hx he hres
       refine Gv.ofM hfn hbody rfl rfl (by rw [wDG hv,<- wEl,e1];exact hle) ?_
       refine (HE _ _ _ _ _ _ hx c fn.ntmps c4 none μ (wPx vs) w [] w.heap.size rfl S (wQk hv) (Mk.nil μ w _) (nK _)).mono ?_
       rintro D' e' σ' w' ⟨rfl,μ',q1,q2,q3,q4,q5,_⟩
       obtain ⟨rbs,m1,m2,m3⟩:=q4
       have fin:∃ rbs:List Nat,D'=rbs.map mark/\rbs.Nodup/\(∀ rb ∈ rbs,Dfr w' rb)/\∀ w2,Keep w' w2 (· ∈ rbs)->w2.heap.size=w'.heap.size->∃ cv,(wCV fn.results σ').run P w2=.ok cv w2/\∃ μ',Ext μ h.fl.nat w μ' w2/\Sim (CC P) P μ' h' w2/\Rv μ' v cv/\h'.fl=h.fl:=by
        refine ⟨rbs,m1,m2,fun rb hrb=>(m3 rb hrb).1,fun w2 K hs=>?_⟩
        have S2:=q2.keepX K fun p c hp hm=>(m3 _ hm).2.2 p c hp rfl
        obtain ⟨rfl,cv,r1,r2⟩:=wRN q3 S2 c2 hres
        refine ⟨cv,r2,μ',⟨q1.mono,q1.new,?_⟩,S2,r1,q5⟩
        exact q1.keep.step K fun i hi hm=>absurd (m3 i hm).2.1 (Nat.not_le.2 hi)
       rcases he with rfl | rfl
       ·exact fin
       ·exact fin
      split at hr
      ·exact key _ _ _ (by assumption) (.inl rfl) hr
      ·exact key _ _ _ (by assumption) (.inr rfl) hr
      ·cases hr
     ·cases hr
 ·cases hr
theorem wPW {ex:Run} (HE:wJW P ex true):wFT (CC P) P ex:=by
 intro b args h v h' hr
 unfold wJL at hr
 split at hr
 ·rename_i σA t asg body hB
  intro μ w xv c S hx hc
  split at hr <;> first | (cases hr;done) | skip
  rename_i σS hset
  split at hr <;> first | (cases hr;done) | skip
  rename_i σ1 h1 hasg
  split at hr <;> first | (cases hr;done) | skip
  rename_i σx tx ax bx hB1
  split at hr <;> first | (cases hr;done) | skip
  rename_i h2 hput2
  split at hr <;> first | (cases hr;done) | skip
  rename_i e σ3 h3 hbody
  split at hr <;> first | (cases hr;done) | skip
  rename_i σy ty ay by_ hB3
  split at hr <;> first | (cases hr;done) | skip
  rename_i h4 hput4
  cases hr
  obtain ⟨c',g1,g2⟩:=S.at_ b _ hB
  rw [hc] at g1;cases g1
  have L:wMP (CC P) μ w c σA t asg body .ready:=g2
  obtain ⟨hSE,hSl⟩:=wLc hset L.ht hx L.env
  refine Yd.of L.at_ L.tN hSl fun σ0 hσ0=>?_
  have hE0:EnvR μ σS σ0:=by
   intro p
   rw [hσ0];exact hSE p
  refine (HE _ _ _ _ _ _ hasg c.g.ac c.g.N L.asg (some c.1) μ σ0 w [] 0 rfl S hE0 (Mk.nil μ w _) (kB _)).mono ?_
  rintro D' e' σ' w1 ⟨rfl,μ1,q1,q2,q3,q4,q5,q6⟩
  have hc1:=q1.mono b c hc
  obtain ⟨c',r1,r2⟩:=q2.at_ b _ hB1
  rw [hc1] at r1;cases r1
  have L1:wMP (CC P) μ1 w1 c σx tx ax bx .ready:=r2
  refine ⟨rfl,q6 rfl,L1.at_,fun w2 hl2 K hs=>?_⟩
  obtain ⟨s1,s2,s3⟩:=q2.put hput2 hB1 trivial hc1 K (B':=.loop σA t asg body .busy) ⟨hl2,L.env.mono q1.mono,L.ht,L.tN,L.asg,L.body⟩
  rw [q5] at s2 s3
  refine (HE _ _ _ _ _ _ hbody c.g.bc c.g.N L.body (some c.1) μ1 σ' w2 [] 0 rfl s1 q3 (Mk.nil μ1 w2 _) (kB _)).mono ?_
  rintro D'' e'' σ'' w3 ⟨rfl,μ3,t1,t2,t3,t4,t5,t6⟩
  rw [s3] at t1 t5
  have hc3:=t1.mono b c hc1
  obtain ⟨c',u1,u2⟩:=t2.at_ b _ hB3
  rw [hc3] at u1;cases u1
  have L3:wMP (CC P) μ3 w3 c σy ty ay by_ .busy:=u2
  have fin:∀ w4,LoopAt w4 c.1 c.g.N c.g.σ c.g.t c.g.ac c.g.bc c.g.rb c.g.fn (lsC e.done).1 (lsC e.done).2->Keep w3 w4 (·=c.1)->∃ μ',Ext μ h.fl.nat w μ' w4/\Sim (CC P) P μ' h' w4/\AV.bool e.go=.bool e.go/\h'.fl=h.fl:=by
   intro w4 hl4 K4
   obtain ⟨v1,v2,v3⟩:=t2.put hput4 hB3 trivial hc3 K4 (B':=.loop σA t asg body e.done) ⟨hl4,(L.env.mono q1.mono).mono t1.mono,L.ht,L.tN,L.asg,L.body⟩
   rw [t5] at v2 v3
   exact ⟨μ3,(q1.trans s2).trans (t1.trans v2),v1,rfl,v3⟩
  cases e with
  | nrm=>exact ⟨L3.at_,fun w4 hl K4 _=>fin w4 hl K4⟩
  | ret=>exact ⟨L3.at_,fun w4 hl K4 _=>fin w4 hl K4⟩
  | exit i=>exact ⟨L3.at_,fun w4 hl K4 _=>fin w4 hl K4⟩
 ·cases hr
end
end
end Go.KX
namespace Go.KX
open Go.RowKit Go.KL
theorem wKj (b:AC) (exR:Run) (e:Ex) (σ:Tr AV) (h:AH):seqK b exR (e,σ,h)=(match e with | .nrm=>exR b σ h | e=>some (e,σ,h)):=by cases e <;> rfl
theorem wSE {x:R} {k:Ex × Tr AV × AH->R} {r:Ex × Tr AV × AH} (hr:Option.rec (motive:=fun _=>R) none k x=some r):∃ y,x=some y/\k y=some r:=by
 cases x with
 | none=>cases hr
 | some y=>exact ⟨y,rfl,hr⟩
structure Fr (h h':AH):Prop where
 nx:h.nx.nat <= h'.nx.nat
 fl:h'.fl=h.fl
 get:∀ p,p.nat < h.fl.nat->p.nat < h.nx.nat->h'.m.get p=h.m.get p
theorem Fr.refl (h:AH):Fr h h:=⟨nK _,rfl,fun _ _ _=>rfl⟩
theorem Fr.trans {a b c:AH} (h:Fr a b) (k:Fr b c):Fr a c :=
 ⟨kW h.nx k.nx,k.fl.trans h.fl,fun p h1 h2=>(k.get p (by rw [h.fl];exact h1) (kZ h2 h.nx)).trans (h.get p h1 h2)⟩
theorem Fr.push (h:AH) (B:AB):Fr h (h.push B):=by
 refine ⟨?_,rfl,fun p _ h2=>?_⟩
 ·show h.nx.nat <= h.nx.succ.nat
  rw [Pos.nat_succ];omega
 ·show (h.m.set h.nx B).get p=_
  rw [Tr.get_set,if_neg (fun e=>by subst e;omega)]
theorem Fr.put {h h':AH} {p:Pos} {B:AB} (hp:h.put p B=some h'):Fr h h':=by
 obtain ⟨h1,rfl⟩:=wIb hp
 refine ⟨nK _,rfl,fun q h2 _=>?_⟩
 show (h.m.set p B).get q=_
 rw [Tr.get_set,if_neg (fun e=>by subst e;omega)]
theorem Fr.setAt {h h':AH} {b:Pos} {off:Nat} {vs:List AV} (hs:KX.setAt h b off vs=some h'):Fr h h':=by
 unfold KX.setAt at hs
 split at hs
 ·split at hs
  ·exact Fr.put hs
  ·cases hs
 ·split at hs
  ·exact Fr.put hs
  ·cases hs
 ·cases hs
theorem wRO {h h':AH} {o:Option AV} {v:AV} (hr:okV h o=some (v,h')):h'=h:=by
 cases o with
 | none=>cases hr
 | some x=>cases hr;rfl
theorem wHj {α:Type} {b:Bool} {x:Option α} {y:α} (hr:ifO b x=some y):x=some y:=by
 cases b with
 | true=>exact hr
 | false=>cases hr
section
variable {tb:Tr AF} {ex exY:Run} {σ:Tr AV} {h h':AH} {v:AV}
theorem wSo {T sz by_ m:Nat} {news:List AV} {x:AV} (hr:app h T sz by_ m news x=some (v,h')):Fr h h':=by
 unfold app at hr
 split at hr
 ·split at hr <;> first | (cases hr;exact Fr.refl _) | (cases hr;done)
 ·split at hr
  ·have hr:=wHj hr;cases hr;exact Fr.push _ _
  ·split at hr
   ·split at hr
    ·rename_i hs;cases hr;exact Fr.setAt hs
    ·cases hr
   ·have hr:=wHj hr
    split at hr
    ·cases hr;exact Fr.push _ _
    ·cases hr
  ·split at hr
   ·split at hr
    ·split at hr
     ·rename_i hs;cases hr;exact Fr.setAt hs
     ·cases hr
    ·have hr:=wHj hr
     split at hr
     ·rename_i hs;cases hr;exact (Fr.put hs).trans (Fr.push _ _)
     ·cases hr
   ·cases hr
  ·cases hr
theorem wQO {z:List AV} {b:Pos} {off n:Nat} (hr:clr h z b off n=some (v,h')):Fr h h':=by
 unfold clr at hr
 split at hr
 ·cases hr;exact Fr.refl _
 ·have hr:=wHj hr
  split at hr
  ·rename_i hs;cases hr;exact Fr.setAt hs
  ·cases hr
def FrX (ex:Run):Prop:=∀ c σ h e σ' h',ex c σ h=some (e,σ',h')->Fr h h'
theorem wQP {l:List AR} (hr:wQg σ h l=some (v,h')):Fr h h':=by
 unfold wQg at hr
 split at hr
 ·cases hr;exact Fr.refl _
 ·cases hr
theorem wOK (HE:FrX ex) {f:Pos} {args:List AV} (hr:wJK tb ex f args h=some (v,h')):Fr h h':=by
 unfold wJK at hr
 split at hr
 ·split at hr
  ·split at hr
   ·rename_i h1;exact (HE _ _ _ _ _ _ h1).trans (wQP hr)
   ·rename_i h1;exact (HE _ _ _ _ _ _ h1).trans (wQP hr)
   ·cases hr
  ·cases hr
 ·cases hr
theorem wPX (HY:FrX ex) {b:Pos} {args:List AV} (hr:wJL ex b args h=some (v,h')):Fr h h':=by
 unfold wJL at hr
 split at hr
 ·split at hr
  ·cases hr
  ·split at hr
   ·rename_i h1
    split at hr
    ·split at hr
     ·rename_i h2
      split at hr
      ·rename_i h3
       split at hr
       ·split at hr
        ·rename_i h4
         cases hr
         exact (HY _ _ _ _ _ _ h1).trans ((Fr.put h2).trans ((HY _ _ _ _ _ _ h3).trans (Fr.put h4)))
        ·cases hr
       ·cases hr
      ·cases hr
     ·cases hr
    ·cases hr
   ·cases hr
 ·cases hr
theorem wOL (HE:FrX ex) (HY:FrX exY) (op:AOp) (hr:opY op tb ex exY σ h=some (v,h')):Fr h h':=by
  cases op with
  | call x l =>
    have hr:wGU x l tb ex exY σ h=some (v,h'):=hr
    unfold wGU at hr
    split at hr
    · exact wOK HE hr
    · exact wPX HY hr
    · cases hr
  | new T z=>cases hr;exact Fr.push _ _
  | box T x=>cases hr;exact Fr.push _ _
  | mkm=>cases hr;exact Fr.push _ _
  | mks T sz b z x y =>
    have hr:wGv T sz b z x y σ h=some (v,h'):=hr
    unfold wGv at hr
    split at hr
    · have hr:=wHj hr;cases hr;exact Fr.push _ _
    · cases hr
  | blds T n z ps =>
    have hr:wEi T n z ps σ h=some (v,h'):=hr
    unfold wEi at hr
    split at hr
    · cases hr;exact Fr.push _ _
    · cases hr
  | st n x y =>
    have hr:wQD n x y σ h=some (v,h'):=hr
    unfold wQD at hr
    split at hr
    · split at hr
      · split at hr
        · rename_i hs;cases hr;exact Fr.setAt hs
        · cases hr
      · cases hr
    · cases hr
  | mput two k x y z =>
    have hr:wGS two k x y z σ h=some (v,h'):=hr
    unfold wGS at hr
    split at hr
    · split at hr
      · split at hr
        · split at hr
          · rename_i hs;cases hr;exact Fr.put hs
          · cases hr
        · cases hr
      · cases hr
    · cases hr
  | mdel two k x y =>
    have hr:wGT two k x y σ h=some (v,h'):=hr
    unfold wGT at hr
    split at hr
    · split at hr
      · split at hr
        · split at hr
          · rename_i hs;cases hr;exact Fr.put hs
          · cases hr
        · cases hr
      · cases hr
    · cases hr
  | app T sz b x y =>
    have hr:wJH T sz b x y σ h=some (v,h'):=hr
    unfold wJH at hr
    split at hr
    · exact wSo (wHj hr)
    · cases hr
  | cpy sz x y =>
    have hr:wJI sz x y σ h=some (v,h'):=hr
    unfold wJI at hr
    split at hr
    · split at hr
      · have hr:=wHj hr
        split at hr
        · rename_i hs;cases hr;exact Fr.setAt hs
        · cases hr
      · cases hr
    · cases hr
  | clr z x =>
    have hr:wJJ z x σ h=some (v,h'):=hr
    unfold wJJ at hr
    split at hr
    · exact wQO hr
    · exact wQO hr
    · cases hr;exact Fr.refl _
    · cases hr;exact Fr.refl _
    · cases hr
  | bad=>cases hr
  | apz T sz b z x y =>
    have hr:wJM T sz b z x y σ h=some (v,h'):=hr
    unfold wJM at hr
    split at hr
    · split at hr
      · cases hr;exact Fr.refl _
      · have hr:=wHj hr;cases hr;exact Fr.push _ _
    · cases hr
  | _ =>
    have e:h'=h:=by
      dsimp only [opY] at hr
      first
        | exact wRO hr
        | (simp only [wSA,wGt,wOz,wHi,wGu,wKK,wKL,wKM,wKN,wKO,wMN,wKP,wGw,wKQ,wKR,wGx,wKS,wGy,wQf,wKT,wPA,wKU,wKV,wFE,wKW,wKX] at hr
           repeat' (split at hr)
           all_goals first
             | exact wRO hr
             | (cases hr;rfl)
             | (cases hr;done)
             | exact wRO (wHj hr)
             | (have hr2:=wHj hr;cases hr2;rfl))
    subst e
    exact Fr.refl _
theorem wQQ (HE:FrX ex) (HY:FrX exY) (k:Nat) (op:AOp) (hr:opK k op tb ex exY σ h=some (v,h')):Fr h h':=by
 by_cases k2:nX k 2=true
 ·have hr:wQE op tb ex exY σ h=some (v,h'):=by
   have e:opK k op=wQE op:=by unfold opK;rw [k2]
   rw [e] at hr;exact hr
  unfold wQE at hr
  split at hr
  ·rename_i v0 h0 hq
   cases hr
   have F:=wOL HE HY op hq
   exact ⟨F.nx,rfl,fun p _ h2=>F.get p h2 h2⟩
  ·cases hr
 ·have e:opK k op=opY op:=by
   unfold opK
   cases hb:nX k 2 with
   | true=>exact absurd hb k2
   | false=>rfl
  rw [e] at hr
  exact wOL HE HY op hr
theorem wSp (HE:FrX ex) (HY:FrX exY) (op:AOp) (hr:wQE op tb ex exY σ h=some (v,h')):∀ p,p.nat < h.nx.nat->h'.m.get p=h.m.get p:=by
 unfold wQE at hr
 split at hr
 ·rename_i v0 h0 hq
  cases hr
  have F:=wOL HE HY op hq
  exact fun p h2=>F.get p h2 h2
 ·cases hr
theorem wII (HE:FrX ex) (HY:FrX exY):∀ (l:List AO) (σ:Tr AV) (h:AH) (σ':Tr AV) (h':AH),wAk tb ex exY l σ h=some (σ',h')->Fr h h'
 | [],σ,h,σ',h',hr=>by
  rw [wAy] at hr;cases hr;exact Fr.refl _
 | o :: os,σ,h,σ',h',hr=>by
  rw [wBC] at hr
  split at hr
  ·split at hr
   ·rename_i r hq
    exact (wQQ HE HY _ _ hq).trans (wII HE HY os _ _ _ _ hr)
   ·cases hr
  ·exact wII HE HY os _ _ _ _ hr
theorem wOM {exR:Run} (HR:FrX exR) {b:AC} {r:Ex × Tr AV × AH} {e:Ex} {σ':Tr AV} (hr:seqK b exR r=some (e,σ',h')):Fr r.2.2 h':=by
 obtain ⟨e0,σ0,h0⟩:=r
 rw [wKj] at hr
 cases e0 with
 | nrm=>exact HR _ _ _ _ _ _ hr
 | exit i=>cases hr;exact Fr.refl _
 | ret=>cases hr;exact Fr.refl _
theorem wRP {exR:Run} (HE:FrX ex) (HY:FrX exY) (HR:FrX exR) (c:AC) (f:Bool) {e:Ex} {σ':Tr AV} (hr:step c f tb ex exY exR σ h=some (e,σ',h')):Fr h h':=by
 cases c with
 | skip=>cases hr;exact Fr.refl _
 | rg l =>
  have hr:sRg l tb ex exY exR σ h=some (e,σ',h'):=hr
  unfold sRg at hr
  cases hq:wAk tb ex exY l σ h with
  | none=>rw [hq] at hr;cases hr
  | some y =>
   rw [hq] at hr
   cases hr
   exact wII HE HY l _ _ _ _ hq
 | seq a b =>
  have hr:wSR a b exR σ h=some (e,σ',h'):=hr
  unfold wSR at hr
  obtain ⟨y,h1,h2⟩:=wSE hr
  exact (HR _ _ _ _ _ _ h1).trans (wOM HR h2)
 | cond c a b =>
  have hr:wNb c a b exR σ h=some (e,σ',h'):=hr
  unfold wNb at hr
  split at hr
  ·exact HR _ _ _ _ _ _ hr
  ·exact HR _ _ _ _ _ _ hr
  ·cases hr
 | block i a =>
  have hr:wLP i a exR σ h=some (e,σ',h'):=hr
  unfold wLP at hr
  obtain ⟨y,h1,h2⟩:=wSE hr
  obtain ⟨e0,σ0,h0⟩:=y
  refine (HR _ _ _ _ _ _ h1).trans ?_
  unfold wQG at h2
  cases e0 with
  | nrm=>cases h2;exact Fr.refl _
  | ret=>cases h2;exact Fr.refl _
  | exit j =>
   simp only at h2
   cases hb:nX j i with
   | true=>rw [hb] at h2;cases h2;exact Fr.refl _
   | false=>rw [hb] at h2;cases h2;exact Fr.refl _
 | loop a =>
  have hr:wNc a exR σ h=some (e,σ',h'):=hr
  unfold wNc at hr
  obtain ⟨y,h1,h2⟩:=wSE hr
  exact (HR _ _ _ _ _ _ h1).trans (wOM HR h2)
 | rf g t asg body =>
  have hr:sRf f g t asg body tb ex σ h=some (e,σ',h'):=hr
  unfold sRf at hr
  split at hr
  ·split at hr
   ·rename_i h1
    have F:=(Fr.push h (.loop σ t asg body .ready)).trans (wOK HE h1)
    split at hr
    ·split at hr
     ·rename_i h2;cases hr;exact F.trans (Fr.put h2)
     ·cases hr
    ·split at hr
     ·rename_i h2;cases hr;exact F.trans (Fr.put h2)
     ·cases hr
    ·cases hr
   ·cases hr
  ·cases hr
 | exit i=>cases hr;exact Fr.refl _
 | scope a=>exact HR _ _ _ _ _ _ hr
 | ret=>cases hr;exact Fr.refl _
 | rl l =>
  have hr:sRl l tb ex exY σ h=some (e,σ',h'):=hr
  rw [wQF] at hr
  split at hr
  ·rename_i y hq
   cases hr
   exact wII HE HY l _ _ _ _ (wKh _ _ _ _ hq).1
  ·cases hr
theorem wFV (tb:Tr AF):∀ (n:Nat) (r:Bool),FrX (exec tb n r)
 | 0,r=>fun c σ h e σ' h' hr=>by cases hr
 | n + 1,r=>fun c σ h e σ' h' hr=>by
  rw [wJN] at hr
  exact wRP (wFV tb n false) (wFV tb n true) (wFV tb n r) c _ hr
end
end Go.KX
namespace Go.KX
open Go.RowKit Go.KL
theorem wRQ {a b:IntKind} (h:keq a b=true):a=b:=by
 cases a <;> cases b <;> first | rfl | (simp [keq] at h)
theorem wRR {a b:Int} (h:zeq a b=true):a=b:=by
 cases a with
 | ofNat a=>cases b with
  | ofNat b=>simp only [zeq] at h;rw [nD h]
  | negSucc b=>simp [zeq] at h
 | negSucc a=>cases b with
  | ofNat b=>simp [zeq] at h
  | negSucc b=>simp only [zeq] at h;rw [nD h]
mutual
theorem wON:∀ {a b:AV},same a b=true->a=b
 | .int k n,.int k' n',h=>by simp only [same,nE] at h;rw [wRQ h.1,wRR h.2]
 | .bool a,.bool b,h=>by simp only [same,beq_iff_eq] at h;rw [h]
 | .ptr b o,.ptr b' o',h=>by simp only [same,nE] at h;rw [Pos.beq_eq h.1,nD h.2]
 | .pnil,.pnil,_=>rfl
 | .sl b o n c,.sl b' o' n' c',h=>by simp only [same,nE] at h;rw [Pos.beq_eq h.1,nD h.2.1,nD h.2.2.1,nD h.2.2.2]
 | .rw b o n c,.rw b' o' n' c',h=>by simp only [same,nE] at h;rw [Pos.beq_eq h.1,nD h.2.1,nD h.2.2.1,nD h.2.2.2]
 | .snil,.snil,_=>rfl
 | .map b,.map b',h=>by simp only [same] at h;rw [Pos.beq_eq h]
 | .mnil,.mnil,_=>rfl
 | .fn f fi ca,.fn f' fi' ca',h=>by simp only [same,nE] at h;rw [Pos.beq_eq h.1,wFs h.2.1,wFs h.2.2]
 | .fnil,.fnil,_=>rfl
 | .agg l,.agg l',h=>by simp only [same] at h;rw [wFs h]
 | .tup l,.tup l',h=>by simp only [same] at h;rw [wFs h]
theorem wFs:∀ {a b:List AV},wIX a b=true->a=b
 | [],[],_=>rfl
 | a :: l,b :: k,h=>by simp only [wIX,nE] at h;rw [wON h.1,wFs h.2]
 | [],_ :: _,h=>by simp [wIX] at h
 | _ :: _,[],h=>by simp [wIX] at h
end
section
variable {tb:Tr AF} {ex exY:Run} {σ:Tr AV} {h h':AH} {v:AV}
theorem wOO {o:Option AV} (hr:okV h o=some (v,h')) (h2:AH):okV h2 o=some (v,h2):=by
 cases o with
 | none=>cases hr
 | some x=>cases hr;rfl
end
section
variable {P:Program} {l:List Oper} {σ σ':Env} {o:Oper} {w:World}
def Agr (l:List Oper) (o:Oper) (σ σ':Env):Prop:=∀ d ∈ wEg l o,σ d=σ' d
theorem wSq (h:Agr l o σ σ'):∀ y ∈ o.op.operands,ev σ y=ev σ' y:=by
 intro y hy
 cases y with
 | tmp t=>exact h t (nb _ (kz.2 ⟨.tmp t,by simpa using hy,rfl⟩))
 | _=>rfl
theorem wCK (h:Agr l o σ σ'):wanted l σ o=wanted l σ' o:=by
 unfold wanted
 cases hg:o.guard with
 | none=>rfl
 | some g =>
  obtain ⟨j,b⟩:=g
  simp only
  cases hd:(l[j]?).bind (·.dst) with
  | none=>rfl
  | some t =>
   simp only
   rw [h t (by unfold wEg;rw [hg];simp only [hd];simp)]
theorem wOP (hs:wBe o=false) (h:Agr l o σ σ'):execOp (ev σ) o=execOp (ev σ') o:=execOp_congr o (wMq hs) (wSq h)
theorem Runs.agr (hs:wBe o=false) (h:Agr l o σ σ') {v:Value} {w':World}:Runs P σ w o v w' ↔ Runs P σ' w o v w':=by
 unfold Runs;rw [wOP hs h]
theorem Runs.det {v v':Value} {w1 w2:World} (h:Runs P σ w o v w1) (h':Runs P σ w o v' w2):v=v'/\w1=w2:=by
 have:=h.2.symm.trans h'.2
 simp only [Result.ok.injEq] at this
 obtain ⟨e,e2⟩:=this
 exact ⟨by simpa using e,e2⟩
theorem Step1.agr (hs:wBe o=false) (h:Agr l o σ σ') {R:Value->World->Prop} (hh:Step1 P l o σ w R):Step1 P l o σ' w R:=by
 have e:=wOP hs h
 have ew:=wCK h
 rcases hh with ⟨h1,⟨h2,w',h3,h4⟩ | ⟨v,w',h3,h4⟩ | ⟨f,args,R',h3,h4,h5⟩ | hy⟩ | ⟨h1,h2⟩
 ·exact .inl ⟨ew ▸ h1,.inl ⟨h2,w',by unfold Does at h3 ⊢;rw [<- e];exact h3,h4⟩⟩
 ·exact .inl ⟨ew ▸ h1,.inr (.inl ⟨v,w',by unfold Runs at h3 ⊢;rw [<- e];exact h3,h4⟩)⟩
 ·exact .inl ⟨ew ▸ h1,.inr (.inr (.inl ⟨f,args,R',by unfold Enters at h3 ⊢;rw [<- e];exact h3,h4,h5⟩))⟩
 ·exact .inl ⟨ew ▸ h1,.inr (.inr (.inr (by unfold Rounds at hy ⊢;rw [<- e];exact hy)))⟩
 ·exact .inr ⟨ew ▸ h1,h2⟩
end
end Go.KX
namespace Go.KX
open Go.RowKit Go.KL
section
variable {tb:Tr AF} {ex exY:Run} {C:Chk} {P:Program}
theorem wEA:∀ (l1 l2:List AO) (σ:Tr AV) (h:AH) (r:Tr AV × AH),wAk tb ex exY (l1 ++ l2) σ h=some r->∃ σ1 h1,wAk tb ex exY l1 σ h=some (σ1,h1)/\wAk tb ex exY l2 σ1 h1=some r
 | [],l2,σ,h,r,hr=>⟨σ,h,wAy _ _ _ _ _,hr⟩
 | a :: l1,l2,σ,h,r,hr=>by
  rw [nO,wBC] at hr
  rw [wBC]
  cases hw:wCt σ a.grd with
  | true =>
   rw [hw] at hr
   simp only at hr ⊢
   cases hq:opK a.kd a.op tb ex exY σ h with
   | none=>rw [hq] at hr;cases hr
   | some q =>
    rw [hq] at hr
    exact wEA l1 l2 _ _ r hr
  | false =>
   rw [hw] at hr
   exact wEA l1 l2 _ _ r hr
theorem wIg {d:Option Pos} {σ:Tr AV} {v:AV} {p:Pos}:evA (wGY d σ v) (.t p)=if d=some p then v else evA σ (.t p):=by
 cases d with
 | none =>
  rw [if_neg (by simp)]
  rfl
 | some q =>
  show evA (σ.set q v) (.t p)=_
  rw [wKb,Tr.get_set]
  by_cases e:p=q
  ·subst e
   rw [if_pos rfl,if_pos rfl]
   rfl
  ·rw [if_neg e,if_neg (fun h=>e (by cases h;rfl)),wKb]
theorem wDH:∀ (l:List AO) (σ:Tr AV) (h:AH) (σ':Tr AV) (h':AH),wAk tb ex exY l σ h=some (σ',h')->∀ p,(∀ a ∈ l,a.dst ≠ some p)->evA σ' (.t p)=evA σ (.t p)
 | [],σ,h,σ',h',hr,p,_=>by
  rw [wAy] at hr
  cases hr
  rfl
 | a :: l,σ,h,σ',h',hr,p,hp=>by
  have hn:a.dst ≠ some p:=hp a (by simp)
  rw [wBC] at hr
  cases hw:wCt σ a.grd with
  | true =>
   rw [hw] at hr
   simp only at hr
   cases hq:opK a.kd a.op tb ex exY σ h with
   | none=>rw [hq] at hr;cases hr
   | some q =>
    rw [hq] at hr
    rw [wDH l _ _ _ _ hr p fun b hb=>hp b (by simp [hb]),wIg,if_neg hn]
  | false =>
   rw [hw] at hr
   rw [wDH l _ _ _ _ hr p fun b hb=>hp b (by simp [hb]),wIg,if_neg hn]
variable {μ μ':Mu} {h:AH} {w:World}
theorem Sim.adopt {c:Cl} {B:AB} (S:Sim C P μ h w) (hlt:c.1 < w.heap.size) (hn:∀ p d,μ p=some d->d.1 ≠ c.1) (hB:AbR C P (μ.add h.nx c) w c B):Sim C P (μ.add h.nx c) (h.push B) w:=by
 have hn0:=S.nx h.nx (nK _)
 have hle:=Mu.add_le (c:=c) hn0
 refine ⟨?_,?_,?_,?_⟩
 ·intro p hp
  have hp:h.nx.succ.nat <= p.nat:=hp
  rw [Pos.nat_succ] at hp
  unfold Mu.add
  rw [if_neg (fun e=>by subst e;omega)]
  exact S.nx p (by omega)
 ·intro p d hd
  unfold Mu.add at hd
  split at hd
  ·cases hd;exact hlt
  ·exact S.lt p d hd
 ·intro p q a b d e hp hq la lb hd he hde
  simp only [AH.push,Tr.get_set] at hp hq
  unfold Mu.add at hd he
  split at hd <;> split at he
  ·rename_i h1 h2;rw [h1,h2]
  ·cases hd;exact absurd hde.symm (hn _ _ he)
  ·cases he;exact absurd hde (hn _ _ hd)
  ·rename_i h1 h2
   rw [if_neg h1] at hp
   rw [if_neg h2] at hq
   exact S.inj p q a b d e hp hq la lb hd he hde
 ·intro p b hb
  simp only [AH.push,Tr.get_set] at hb
  split at hb
  ·rename_i e
   subst e
   cases hb
   exact ⟨c,Mu.add_same _ _ _,hB⟩
  ·rename_i e
   obtain ⟨d,h1,h2⟩:=S.at_ p b hb
   exact ⟨d,hle _ _ h1,h2.mono hle⟩
end
end Go.KX
namespace Go.KX
open Go.RowKit Go.KL
theorem wGH:∀ {l:List AOd} {p:Pos},AOd.t p ∈ l->p ∈ wCp l
 | .t q :: l,p,h=>by
  rcases nJ.1 h with h | h
  ·cases h;simp [wCp]
  ·simp only [wCp,nJ];exact .inr (wGH h)
 | .c v :: l,p,h=>by
  rcases nJ.1 h with h | h
  ·cases h
  ·show p ∈ wCp l
   exact wGH h
noncomputable def rst (σ:Tr AV):List Pos->Tr AV
 | []=>.e
 | p :: ps=>(rst σ ps).set p (evA σ (.t p))
theorem wHM (σ:Tr AV):∀ (ps:List Pos) (p:Pos),evA (rst σ ps) (.t p)=if p ∈ ps then evA σ (.t p) else u
 | [],p=>by rw [if_neg (by simp)];rfl
 | q :: ps,p=>by
  show evA ((rst σ ps).set q (evA σ (.t q))) (.t p)=_
  rw [wKb,Tr.get_set]
  by_cases e:p=q
  ·subst e
   rw [if_pos rfl,if_pos (by simp)]
   rfl
  ·rw [if_neg e,<- wKb,wHM σ ps p]
   simp [e]
open Classical in
noncomputable def rsl (σ:Env) (ps:List Pos):Env:=fun d=>if ∃ p ∈ ps,p.nat - 1=d then σ d else undef
theorem wHN {μ:Mu} {σA:Tr AV} {σ:Env} {ps:List Pos} (h:∀ p ∈ ps,Rv μ (evA σA (.t p)) (σ (p.nat - 1))):EnvR μ (rst σA ps) (rsl σ ps):=by
 intro p
 rw [wHM]
 unfold rsl
 by_cases hp:p ∈ ps
 ·rw [if_pos hp,if_pos ⟨p,hp,rfl⟩]
  exact h p hp
 ·rw [if_neg hp,if_neg]
  ·exact wNg μ
  ·rintro ⟨q,hq,e⟩
   have h1:=q.nat_pos
   have h2:=p.nat_pos
   have:q=p:=Pos.nat_inj (by omega)
   exact hp (this ▸ hq)
section
variable {tb:Tr AF} {ex exY:Run} {C:Chk} {P:Program} {μ:Mu} {σA:Tr AV} {σ:Env} {h h':AH} {v:AV} {o:Oper} {a:AOp} {w:World}
theorem wLd (hr:opY a tb ex exY σA h=some (v,h')):opY a tb ex exY (rst σA (wCp (wBW a))) h=some (v,h'):=by
 rw [<- hr]
 refine wOG a (fun x hx=>?_) h
 cases x with
 | t p=>rw [wHM,if_pos (wGH hx)]
 | c v=>rfl
theorem wRS (hs:wBe o=false) (hb:Sub a o):execOp (ev (rsl σ (wCp (wBW a)))) o=execOp (ev σ) o:=by
 refine execOp_congr o (wMq hs) fun y hy=>?_
 cases y with
 | tmp t =>
  show rsl σ (wCp (wBW a)) t=σ t
  unfold rsl
  rw [if_pos (hb t hy)]
 | _=>rfl
theorem wIh (hs:wBe o=false) (hb:Sub a o) {v:Value} {w':World}:Runs P (rsl σ (wCp (wBW a))) w o v w' ↔ Runs P σ w o v w':=by
 unfold Runs;rw [wRS hs hb]
theorem wHO (hs:wBe o=false) (hb:Sub a o) (hk:kdA a=3) (hc:wHH P a o.op=true) (hr:opY a tb ex exY σA h=some (v,h')) (hv:∀ p ∈ wCp (wBW a),Rv μ (evA σA (.t p)) (σ (p.nat - 1))) :
  ∃ cv,Rv μ v cv/\∀ w,Runs P σ w o cv w:=by
 obtain ⟨_,h2⟩:=wIE (tb:=tb) (ex:=ex) (exY:=exY) hk hc _ _ _ _ (wLd hr)
 obtain ⟨cv,g1,g2⟩:=h2 μ _ (wHN hv)
 exact ⟨cv,g1,fun w=>(wIh hs hb).1 (g2 o w rfl)⟩
theorem wOQ (hs:wBe o=false) (hb:Sub a o) (hk:kdA a=1 \/ kdA a=3) (hc:wHH P a o.op=true) (hr:opY a tb ex exY σA h=some (v,h')) (S:Sim C P μ h w) (hv:∀ p ∈ wCp (wBW a),Rv μ (evA σA (.t p)) (σ (p.nat - 1))) :
  ∃ cv,Rv μ v cv/\Runs P σ w o cv w:=by
 obtain ⟨_,h2⟩:=wIF (C:=C) (tb:=tb) (ex:=ex) (exY:=exY) hk hc _ _ _ _ (wLd hr)
 obtain ⟨cv,g1,g2⟩:=h2 μ _ w (wHN hv) S
 exact ⟨cv,g1,(wIh hs hb).1 (g2 o rfl w (Keep.refl w _))⟩
theorem wLe {op:Op} (hk:wMm a=true) (hc:wHH P a op=true):OkA C P op (opY a tb ex exY):=by
 cases a <;> first
  | (simp [wMm] at hk;done)
  | exact a_new hc | exact a_box hc | exact a_mkm hc | exact a_mks hc | exact wSm hc
theorem wMY (hs:wBe o=false) (hb:Sub a o) (hk:wMm a=true) (hc:wHH P a o.op=true) (hr:opY a tb ex exY σA h=some (v,h')) (hv:∀ p ∈ wCp (wBW a),Rv μ (evA σA (.t p)) (σ (p.nat - 1))) :
  ∃ (B:AB) (vf:Pos->AV) (ob:Obj) (val:Nat->Value),h'=h.push B/\v=vf h.nx/\wMQ B/\(∀ w:World,Runs P σ w o (val w.heap.size) (w.alloc ob)) /\
   (∀ μ' (w:World) b,μ.Le μ'->w.heap[b]?=some ob->AbR C P μ' w ⟨b,0,g0⟩ B)/\∀ μ' p b,μ' p=some ⟨b,0,g0⟩->Rv μ' (vf p) (val b):=by
 obtain ⟨B,vf,e1,e2,_,e4,e5⟩:=wLe (C:=C) (tb:=tb) (ex:=ex) (exY:=exY) hk hc _ _ _ _ (wLd hr)
 obtain ⟨ob,val,g1,g2,g3⟩:=e5 μ _ (wHN hv) o rfl
 exact ⟨B,vf,ob,val,e1,e2,e4,fun w=>(wIh hs hb).1 (g1 w),g2,g3⟩
end
end Go.KX
namespace Go.KX
open Go.RowKit Go.KL
section
variable {tb:Tr AF} {ex exY:Run} {P:Program}
theorem wLf {s t:List AO} {a:AO} {σ0:Tr AV} {h0:AH} {r:Tr AV × AH} (hr:wAk tb ex exY (s ++ a :: t) σ0 h0=some r) :
  ∃ σ1 h1,wAk tb ex exY s σ0 h0=some (σ1,h1) /\
   ((wCt σ1 a.grd=true/\∃ v h2,opK a.kd a.op tb ex exY σ1 h1=some (v,h2)/\wAk tb ex exY t (wGY a.dst σ1 v) h2=some r) \/
    (wCt σ1 a.grd=false/\wAk tb ex exY t (wGY a.dst σ1 u) h1=some r)):=by
 obtain ⟨σ1,h1,e1,e2⟩:=wEA s (a :: t) σ0 h0 r hr
 refine ⟨σ1,h1,e1,?_⟩
 rw [wBC] at e2
 cases hw:wCt σ1 a.grd with
 | true =>
  rw [hw] at e2
  simp only at e2
  cases hq:opK a.kd a.op tb ex exY σ1 h1 with
  | none=>rw [hq] at e2;cases e2
  | some q =>
   rw [hq] at e2
   exact .inl ⟨rfl,q.1,q.2,rfl,e2⟩
 | false =>
  rw [hw] at e2
  exact .inr ⟨rfl,e2⟩
theorem wEQ {l:List Oper} {S:Nat->Bool} (hdc:∀ k,k < l.length->S k=true->∀ j ∈ prI l k,S j=true) {x i:Nat} (hp:∀ j ∈ prI l i,S j=true) (h:wLY l x i):S x=true:=h S hdc hp
variable {N:Nat} {l:List Oper} {os s t:List AO} {a:AO} {σ0 σ1 σf:Tr AV} {h0 h1 hf:AH}
theorem wKk (Z:ZOK P N l os) (e:os=s ++ a :: t) {v:AV} {σ2:Tr AV} {h2:AH} (hr:wAk tb ex exY t (wGY a.dst σ2 v) h2=some (σf,hf)) {p:Pos} (hp:a.dst=some p):evA σf (.t p)=v:=by
 rw [wDH t _ _ _ _ hr p fun b hb=>Z.wr s a t e p hp b (nU _ hb),wIg,if_pos hp]
theorem wSr (Z:ZOK P N l os) (e:os=s ++ a :: t) (hr:wAk tb ex exY (a :: t) σ1 h1=some (σf,hf)) {p:Pos} (hp:p ∈ wCO a):evA σf (.t p)=evA σ1 (.t p) :=
 wDH (a :: t) _ _ _ _ hr p fun b hb=>Z.rd s a t e p hp b hb
end
end Go.KX
namespace Go.KX
open Go.RowKit Go.KL
section
variable {tb:Tr AF} {ex exY:Run} {P:Program} {N:Nat} {l:List Oper} {os s t:List AO} {a:AO} {σ0 σ1 σA σf:Tr AV} {h0 h h1 hf:AH} {μ μS:Mu} {σ σ':Env} {w:World} {o:Oper}
theorem wDI:∀ {s s' t t':List AO} {a:AO},(s ++ a :: t).Pairwise (fun a b=>a.ix ≠ b.ix)->s ++ a :: t=s' ++ a :: t'->s=s'/\t=t'
 | [],[],t,t',a,_,e=>by
  simp only [ni,nj,true_and] at e
  exact ⟨rfl,e⟩
 | [],b :: s',t,t',a,hp,e=>by
  simp only [ni,nO,nj] at e
  obtain ⟨rfl,rfl⟩:=e
  rw [ni] at hp
  exact absurd rfl ((nY.1 hp).1 a (by simp))
 | b :: s,[],t,t',a,hp,e=>by
  simp only [ni,nO,nj] at e
  obtain ⟨rfl,rfl⟩:=e
  rw [nO] at hp
  exact absurd rfl ((nY.1 hp).1 b (by simp))
 | b :: s,b' :: s',t,t',a,hp,e=>by
  simp only [nO,nj] at e
  rw [nO] at hp
  obtain ⟨h1,h2⟩:=wDI (nY.1 hp).2 e.2
  exact ⟨by rw [e.1,h1],h2⟩
theorem wEz (A:AOK P N l a o) (hs:Sub a.op o):∀ d ∈ wEg l o,∃ p ∈ wCO a,p.nat - 1=d:=by
 intro d hd
 unfold wEg at hd
 rcases nM.1 hd with hd | hd
 ·obtain ⟨y,h1,h2⟩:=kz.1 hd
  cases y with
  | tmp t =>
   simp only [aC] at h2
   subst h2
   obtain ⟨p,h3,h4⟩:=hs t (by simpa using h1)
   exact ⟨p,nb _ h3,h4⟩
  | _=>simp at h2
 ·rcases A.grd with ⟨_,h2⟩ | ⟨p,b,j,d',h1,h2,h3,h4⟩
  ·rw [h2] at hd;simp at hd
  ·rw [h2] at hd
   simp only [h3,Option.toList_some,np] at hd
   subst hd
   exact ⟨p,nU _ (by rw [h1];simp),h4.symm⟩
structure Pend (tb:Tr AF) (ex exY:Run) (P:Program) (l:List Oper) (os:List AO) (σ0:Tr AV) (h0:AH) (σf:Tr AV) (w0:World) (μ μS:Mu) (σ:Env) (w:World) (a:AO) (o:Oper) (p:Pos):Prop where
 get:l[a.ix]?=some o
 dst:a.dst=some p
 fact:(wanted l σ o=false/\σ (p.nat - 1)=undef/\evA σf (.t p)=u) \/ (wanted l σ o=true /\
  (((a.kd=1 \/ a.kd=3 \/ 8 <= a.kd)/\Rv μ (evA σf (.t p)) (σ (p.nat - 1))) \/
   (a.kd=6/\Rv μS (evA σf (.t p)) (σ (p.nat - 1))/\∃ w1 w2,Runs P σ w1 o (σ (p.nat - 1)) w2) \/
   (a.kd=4/\Rv μS (evA σf (.t p)) (σ (p.nat - 1))/\∃ w1 ob s1 t1 σ1 h1,Runs P σ w1 o (σ (p.nat - 1)) (w1.alloc ob)/\w.heap[w1.heap.size]?=some ob/\w0.heap.size <= w1.heap.size /\
    os=s1 ++ a :: t1/\wAk tb ex exY s1 σ0 h0=some (σ1,h1)/\μS h1.nx=some ⟨w1.heap.size,0,g0⟩/\∀ q c,μS q=some c->c.1=w1.heap.size->q=h1.nx)))
theorem wOR {tb:Tr AF} {ex exY:Run} {k:Nat} {op:AOp} {σ:Tr AV} {h h':AH} {v:AV} (hk:k ≠ 2) (hr:opK k op tb ex exY σ h=some (v,h')):opY op tb ex exY σ h=some (v,h'):=by
 have hb:nX k 2=false:=by
  cases hb:nX k 2 with
  | false=>rfl
  | true=>exact absurd (nD hb) hk
 have:opK k op=opY op:=by unfold opK;rw [hb]
 rwa [this] at hr
theorem wMZ {k:Nat} (h:8 <= k):¬ wCD k=true:=by
 unfold wCD
 simp only [nl,not_or]
 exact ⟨fun e=>by have:=nD e;omega,fun e=>by have:=nD e;omega⟩
theorem wOS {w:World} {a b:Obj} (h:w.alloc a=w.alloc b):a=b:=by
 have h1:=heap_alloc_new w a
 rw [h,heap_alloc_new] at h1
 exact (nP h1).symm
theorem wSs (Z:ZOK P N l os) (e:os=s ++ a :: t) {μ0:Mu} {w0:World} {fl:Nat} (hs:wAk tb ex exY s σ0 h0=some (σA,h)) (hr:wAk tb ex exY (a :: t) σA h=some (σf,hf))
  (E:Ext μ0 fl w0 μ w) (S:Sim (CC P) P μ h w) (hE:EnvR μ σA σ') (hle:μ.Le μS) {p:Pos} (Pd:Pend tb ex exY P l os σ0 h0 σf w0 μ μS σ w a o p) (hag:∀ q ∈ wCO a,σ (q.nat - 1)=σ' (q.nat - 1)) :
  ∃ σB hB μB,wAk tb ex exY (s ++ [a]) σ0 h0=some (σB,hB)/\wAk tb ex exY t σB hB=some (σf,hf)/\μ.Le μB/\μB.Le μS/\Ext μ0 fl w0 μB w/\Sim (CC P) P μB hB w/\hB.fl=h.fl/\EnvR μB σB (upd σ' (p.nat - 1) (σ (p.nat - 1)))/\(a.kd=4->wanted l σ o=true->μB h.nx ≠ none):=by
 have ha:a ∈ os:=by rw [e];simp
 obtain ⟨o',A⟩:=wDT (Z.ao a ha)
 have eo:o'=o:=by have:=A.get;rw [Pd.get] at this;exact (nP this).symm
 subst eo
 have hsel:=Z.sel a ha _ A.get
 have hsub:=Z.sub a ha _ A.get
 have hagr:Agr l o' σ σ':=fun d hd=>by
  obtain ⟨q,h1,rfl⟩:=wEz A hsub d hd
  exact hag q h1
 have hw:=wIe A hE
 have hwσ:wanted l σ o'=wCt σA a.grd:=(wCK hagr).trans hw
 obtain ⟨pd,dd,d1,d2,d3,_⟩:∃ p d,a.dst=some p/\o'.dst=some d/\d=p.nat - 1/\d < N:=by
  rcases A.dst with ⟨h1,_⟩ | h
  ·rw [Pd.dst] at h1;cases h1
  ·exact h
 have ep:pd=p:=by rw [Pd.dst] at d1;exact (nP d1).symm
 subst ep
 have eput:∀ cv,put' σ' o' cv=upd σ' (pd.nat - 1) cv:=fun cv=>by unfold put';rw [d2,d3]
 obtain ⟨σx,hx,q1,q2⟩:=wLf (s:=[]) (a:=a) (t:=t) (σ0:=σA) (h0:=h) (by rw [ni];exact hr)
 rw [wAy] at q1
 cases q1
 have split1:∀ {σB hB},(match wCt σA a.grd with | true=>(match opK a.kd a.op tb ex exY σA h with | some r=>some (wGY a.dst σA r.1,r.2) | none=>none) | false=>some (wGY a.dst σA u,h))=some (σB,hB)->wAk tb ex exY (s ++ [a]) σ0 h0=some (σB,hB):=by
  intro σB hB hq
  have app:∀ (l1 l2:List AO) (x:Tr AV) (y:AH) (x1:Tr AV) (y1:AH),wAk tb ex exY l1 x y=some (x1,y1)->wAk tb ex exY (l1 ++ l2) x y=wAk tb ex exY l2 x1 y1:=by
   intro l1
   induction l1 with
   | nil=>intro l2 x y x1 y1 h;rw [wAy] at h;cases h;rfl
   | cons b l1 ih =>
    intro l2 x y x1 y1 h
    rw [nO,wBC]
    rw [wBC] at h
    cases hb:wCt x b.grd with
    | true =>
     rw [hb] at h
     simp only at h ⊢
     cases hq:opK b.kd b.op tb ex exY x y with
     | none=>rw [hq] at h;cases h
     | some r=>rw [hq] at h;exact ih l2 _ _ _ _ h
    | false =>
     rw [hb] at h
     exact ih l2 _ _ _ _ h
  rw [app s [a] _ _ _ _ hs,wBC]
  cases hb:wCt σA a.grd with
  | true =>
   rw [hb] at hq
   simp only at hq ⊢
   cases hk:opK a.kd a.op tb ex exY σA h with
   | none=>rw [hk] at hq;cases hq
   | some r =>
    rw [hk] at hq
    cases hq
    exact wAy _ _ _ _ _
  | false =>
   rw [hb] at hq
   cases hq
   rw [wAy]
 rcases q2 with ⟨g1,v,h2,g2,g3⟩ | ⟨g1,g3⟩
 ·have hv:evA σf (.t pd)=v:=wKk Z e g3 Pd.dst
  have hrun:=split1 (σB:=wGY a.dst σA v) (hB:=h2) (by rw [g1];simp only;rw [g2])
  rcases Pd.fact with ⟨f1,_⟩ | ⟨_,⟨fk,f1⟩ | ⟨fk,f1,w1,w2,f2⟩ | ⟨fk,f1,w1,ob,s1,t1,σ1,h1,f2,f3,f4,f5,f6,f7,f8⟩⟩
  ·rw [hwσ,g1] at f1;cases f1
  ·have gY:opY a.op tb ex exY σA h=some (v,h2):=wOR (by omega) g2
   have hk:kdA a.op=1 \/ kdA a.op=3:=by
    rcases fk with fk | fk | fk
    ·exact A.k1 fk
    ·exact .inr (A.k3 fk)
    ·rcases Z.kd a ha with hh | ⟨_,hh | hh | hh | hh | hh⟩
     ·exact absurd hh (wMZ fk)
     ·omega
     ·omega
     ·omega
     ·omega
     ·exact .inl hh.2
   obtain ⟨e1,_⟩:=wIF (C:=CC P) hk A.op _ _ _ _ gY
   subst e1
   rw [hv] at f1
   exact ⟨_,_,μ,hrun,g3,Mu.Le.refl μ,hle,E,S,rfl,by rw [<- eput];exact wEW A hE f1,fun h4 _=>by omega⟩
  ·have gY:opY a.op tb ex exY σA h=some (v,h2):=by rw [fk] at g2;exact g2
   have hk:kdA a.op=3:=by
    rcases Z.kd a ha with hh | ⟨_,hh | hh | hh | hh | hh⟩
    ·rw [fk] at hh;exact absurd hh (by decide)
    ·omega
    ·omega
    ·exact hh.2
    ·omega
    ·omega
   obtain ⟨e1,e2⟩:=wIE hk A.op _ _ _ _ gY
   subst e1
   obtain ⟨cv,c1,c2⟩:=e2 μ σ' hE
   have:=Runs.det ((Runs.agr hsel hagr).2 (c2 o' w1 rfl)) f2
   rw [<- eput,<- this.1]
   exact ⟨_,_,μ,hrun,g3,Mu.Le.refl μ,hle,E,S,rfl,wEW A hE c1,fun h4 _=>by omega⟩
  ·have gY:opY a.op tb ex exY σA h=some (v,h2):=by rw [fk] at g2;exact g2
   have hk:wMm a.op=true:=by
    rcases Z.kd a ha with hh | ⟨_,hh | hh | hh | hh | hh⟩
    ·rw [fk] at hh;exact absurd hh (by decide)
    ·omega
    ·omega
    ·omega
    ·exact hh.2
    ·omega
   obtain ⟨B,vf,e1,e2,_,_,e5⟩:=wLe (C:=CC P) hk A.op _ _ _ _ gY
   obtain ⟨ob',val,c1,c2,c3⟩:=e5 μ σ' hE o' rfl
   obtain ⟨k1,k2⟩:=Runs.det ((Runs.agr hsel hagr).2 (c1 w1)) f2
   have k2:=wOS k2
   subst k2
   have es:s1=s:=(wDI (f5 ▸ Z.one) (f5.symm.trans e)).1
   subst es
   rw [hs] at f6
   cases f6
   have hn0:=S.nx h.nx (nK _)
   have hadd:=Mu.add_le (c:=(⟨w1.heap.size,0,g0⟩:Cl)) hn0
   have hlt:w1.heap.size < w.heap.size:=wAc f3
   subst e1 e2
   have hv':Rv (μ.add h.nx ⟨w1.heap.size,0,g0⟩) (vf h.nx) (σ (pd.nat - 1)):=by
    rw [<- k1]
    exact c3 _ _ _ (Mu.add_same _ _ _)
   refine ⟨_,_,μ.add h.nx ⟨w1.heap.size,0,g0⟩,hrun,g3,hadd,?_,⟨E.mono.trans hadd,?_,E.keep⟩,S.adopt hlt ?_ (c2 _ w _ hadd f3),rfl,?_,fun _ _=>by rw [Mu.add_same];simp⟩
   ·intro q d hq
    unfold Mu.add at hq
    split at hq
    ·rename_i eq
     subst eq
     cases hq
     exact f7
    ·exact hle q d hq
   ·intro q c hq
    unfold Mu.add at hq
    split at hq
    ·cases hq
     exact .inr (.inr f4)
    ·exact E.new q c hq
   ·intro q d hq hd
    have:=f8 q d (hle q d hq) hd
    subst this
    rw [hn0] at hq
    cases hq
   ·rw [<- eput]
    exact wEW A (hE.mono hadd) hv'
 ·have hrun:=split1 (σB:=wGY a.dst σA u) (hB:=h) (by rw [g1])
  rcases Pd.fact with ⟨_,f2,_⟩ | ⟨f1,_⟩
  ·refine ⟨_,_,μ,hrun,g3,Mu.Le.refl μ,hle,E,S,rfl,?_,fun _ hw'=>by rw [hwσ,g1] at hw';cases hw'⟩
   rw [f2,<- eput]
   exact wEW A hE (wNg μ)
  ·rw [hwσ,g1] at f1;cases f1
structure JS (tb:Tr AF) (ex exY:Run) (P:Program) (l:List Oper) (os:List AO) (σ0:Tr AV) (h0:AH) (σf:Tr AV) (hf:AH) (μ0:Mu) (w0:World) (S:Nat->Bool) (σ:Env) (w:World) (s t:List AO) (σA:Tr AV) (h:AH) (σ':Env) (μ μS:Mu):Prop where
 e:os=s ++ t
 hs:wAk tb ex exY s σ0 h0=some (σA,h)
 hr:wAk tb ex exY t σA h=some (σf,hf)
 inS:∀ a ∈ s,S a.ix=true
 free:∀ a ∈ t,S a.ix=true->wCD a.kd=false
 E:Ext μ0 h0.fl.nat w0 μ w
 sim:Sim (CC P) P μ h w
 fl:h.fl=h0.fl
 env:EnvR μ σA σ'
 ag:∀ q:Pos,(∀ a ∈ t,S a.ix=true->a.dst ≠ some q)->σ (q.nat - 1)=σ' (q.nat - 1)
 le:μ.Le μS
 nm:∀ q c,μS q=some c->μ q=some c \/ ∃ a o s1 t1 σ1 h1,a ∈ t/\S a.ix=true/\l[a.ix]?=some o/\wanted l σ o=true/\a.kd=4/\os=s1 ++ a :: t1/\wAk tb ex exY s1 σ0 h0=some (σ1,h1)/\q=h1.nx
 pd:∀ a ∈ t,S a.ix=true->∃ o p,Pend tb ex exY P l os σ0 h0 σf w0 μ μS σ w a o p
theorem Pend.mono {μB:Mu} {w0:World} {p:Pos} (h:Pend tb ex exY P l os σ0 h0 σf w0 μ μS σ w a o p) (hm:μ.Le μB):Pend tb ex exY P l os σ0 h0 σf w0 μB μS σ w a o p:=by
 refine ⟨h.get,h.dst,?_⟩
 rcases h.fact with f | ⟨f,⟨f1,f2⟩ | f1 | f1⟩
 ·exact .inl f
 ·exact .inr ⟨f,.inl ⟨f1,f2.mono hm⟩⟩
 ·exact .inr ⟨f,.inr (.inl f1)⟩
 ·exact .inr ⟨f,.inr (.inr f1)⟩
theorem JS.catch1 (Z:ZOK P N l os) {μ0:Mu} {w0:World} {S:Nat->Bool} (J:JS tb ex exY P l os σ0 h0 σf hf μ0 w0 S σ w s (a :: t) σA h σ' μ μS) (ha:S a.ix=true) :
  ∃ σB hB σ'' μB,JS tb ex exY P l os σ0 h0 σf hf μ0 w0 S σ w (s ++ [a]) t σB hB σ'' μB μS:=by
 obtain ⟨o,p,Pd⟩:=J.pd a (by simp) ha
 have hag:∀ q ∈ wCO a,σ (q.nat - 1)=σ' (q.nat - 1):=fun q hq=>J.ag q fun b hb _=>Z.rd s a t J.e q hq b hb
 obtain ⟨σB,hB,μB,c1,c2,c3,c4,c5,c6,c7,c8,c9⟩:=wSs Z J.e J.hs J.hr J.E J.sim J.env J.le Pd hag
 have hne:∀ b ∈ t,b.ix ≠ a.ix:=fun b hb e=>by
  have:=Z.one
  rw [J.e] at this
  exact (nY.1 (nN.1 this).2.1).1 b hb e.symm
 refine ⟨σB,hB,_,μB,by rw [J.e];simp,c1,c2,fun b hb=>?_,fun b hb=>J.free b (by simp [hb]),c5,c6,c7.trans J.fl,c8,fun q hq=>?_,c4,fun q c hq=>?_,fun b hb hS=>?_⟩
 ·rcases nM.1 hb with hb | hb
  ·exact J.inS b hb
  ·rw [np.1 hb];exact ha
 ·by_cases e:q=p
  ·subst e
   rw [wCq]
  ·rw [wDn _ _ (fun h=>e (Pos.nat_inj (by have:=q.nat_pos;have:=p.nat_pos;omega)))]
   refine J.ag q fun b hb hS=>?_
   rcases nJ.1 hb with rfl | hb
   ·rw [Pd.dst]
    intro h
    cases h
    exact e rfl
   ·exact hq b hb hS
 ·rcases J.nm q c hq with h1 | ⟨b,ob,s1,t1,σ1,h1,k1,k2,k3,k4,k5,k6,k7,k8⟩
  ·exact .inl (c3 _ _ h1)
  ·rcases nJ.1 k1 with rfl | k1
   ·left
    have hs1:s1=s:=(wDI (k6 ▸ Z.one) (k6.symm.trans J.e)).1
    subst hs1
    rw [J.hs] at k7
    cases k7
    subst k8
    rw [Pd.get] at k3
    cases k3
    have:=c9 k5 k4
    cases hm:μB h.nx with
    | none=>exact absurd hm this
    | some c' =>
     have:=c4 _ _ hm
     rw [hq] at this
     exact this.symm
   ·exact .inr ⟨b,ob,s1,t1,σ1,h1,k1,k2,k3,k4,k5,k6,k7,k8⟩
 ·obtain ⟨o',p',h'⟩:=J.pd b (by simp [hb]) hS
  exact ⟨o',p',h'.mono c3⟩
end
end Go.KX
namespace Go.KX
open Go.RowKit Go.KL
section
variable {tb:Tr AF} {ex exY:Run} {P:Program} {N:Nat} {l:List Oper} {os s t:List AO} {a:AO} {σ0 σA σf:Tr AV} {h0 h hf:AH} {μ μS:Mu} {σ σ':Env} {w:World} {o:Oper}
theorem wED:∀ (l1 l2:List AO) (x:Tr AV) (y:AH) (x1:Tr AV) (y1:AH),wAk tb ex exY l1 x y=some (x1,y1)->wAk tb ex exY (l1 ++ l2) x y=wAk tb ex exY l2 x1 y1
 | [],l2,x,y,x1,y1,h=>by rw [wAy] at h;cases h;rfl
 | b :: l1,l2,x,y,x1,y1,h=>by
  rw [nO,wBC]
  rw [wBC] at h
  cases hb:wCt x b.grd with
  | true =>
   rw [hb] at h
   simp only at h ⊢
   cases hq:opK b.kd b.op tb ex exY x y with
   | none=>rw [hq] at h;cases h
   | some r=>rw [hq] at h;exact wED l1 l2 _ _ _ _ h
  | false =>
   rw [hb] at h
   exact wED l1 l2 _ _ _ _ h
theorem wRT (HE:FrX ex) (HY:FrX exY) (Z:ZOK P N l os) (e:os=s ++ t) (hs:wAk tb ex exY s σ0 h0=some (σA,h)) {b:AO} (hb:b ∈ t) {s1 t1:List AO} {σ1:Tr AV} {h1:AH} (e1:os=s1 ++ b :: t1) (hr:wAk tb ex exY s1 σ0 h0=some (σ1,h1)):h.nx.nat <= h1.nx.nat:=by
 obtain ⟨r,r',rfl⟩:=nc hb
 have es:s1=s ++ r:=(wDI (e1 ▸ Z.one) (e1.symm.trans (e.trans (nG _ _ _).symm))).1
 subst es
 rw [wED s r _ _ _ _ hs] at hr
 exact (wII HE HY _ _ _ _ _ hr).nx
theorem wGe (Z:ZOK P N l os) {S:Nat->Bool} (hdc:∀ k,k < l.length->S k=true->∀ j ∈ prI l k,S j=true) (ha:a ∈ os) (hS:S a.ix=false) {b:AO} (hb:b ∈ os) (hbS:S b.ix=true) (A:AOK P N l a o) {ob:Oper} (hob:l[b.ix]?=some ob) (v:Value):Agr l ob σ (put' σ o v):=by
 obtain ⟨ob',B⟩:=wDT (Z.ao b hb)
 have eo:ob'=ob:=by have:=B.get;rw [hob] at this;exact (nP this).symm
 subst eo
 intro d hd
 obtain ⟨p,hp,rfl⟩:=wEz B (Z.sub b hb _ B.get) d hd
 symm
 refine wGk fun dd hdd e=>?_
 rcases A.dst with ⟨_,h2⟩ | ⟨q,d',h1,h2,h3,_⟩
 ·rw [h2] at hdd;cases hdd
 ·rw [h2] at hdd
  have hdd:=nP hdd
  have eq:q=p:=Pos.nat_inj (by have:=q.nat_pos;have:=p.nat_pos;have:q.nat - 1=p.nat - 1:=h3.symm.trans (hdd.trans e);omega)
  subst eq
  have:=Z.rdS b hb q hp a ha h1
  have hlt:b.ix < l.length:=(nq.1 hob).1
  have:=wEQ hdc (hdc _ hlt hbS) this
  rw [hS] at this
  cases this
theorem JS.fixed (HC:wGW (CC P) P tb ex) (HY':wFT (CC P) P exY) (HE:FrX ex) (HY:FrX exY) (Z:ZOK P N l os) {μ0:Mu} {w0:World} {S:Nat->Bool} (J:JS tb ex exY P l os σ0 h0 σf hf μ0 w0 S σ w s (a :: t) σA h σ' μ μS) (hfix:wCD a.kd=true) (hS:S a.ix=false)
  (hdc:∀ k,k < l.length->S k=true->∀ j ∈ prI l k,S j=true) (A:AOK P N l a o) :
  Step1 P l o σ w fun v w'=>∃ σB hB σ'' μB μT,JS tb ex exY P l os σ0 h0 σf hf μ0 w0 (fun k=>k == a.ix || S k) (put' σ o v) w' (s ++ [a]) t σB hB σ'' μB μT:=by
 have ha:a ∈ os:=by rw [J.e];simp
 have hsel:=Z.sel a ha _ A.get
 have hag:∀ q ∈ wCO a,σ (q.nat - 1)=σ' (q.nat - 1):=fun q hq=>J.ag q fun b hb _=>Z.rd s a t J.e q hq b hb
 have hagr:Agr l o σ σ':=fun d hd=>by
  obtain ⟨q,h1,rfl⟩:=wEz A (Z.sub a ha _ A.get) d hd
  exact hag q h1
 have hw:=wIe A J.env
 have main:∀ (v:AV) (cv:Value) (hB:AH) (w':World) (μB:Mu),wAk tb ex exY (s ++ [a]) σ0 h0=some (wGY a.dst σA v,hB)->wAk tb ex exY t (wGY a.dst σA v) hB=some (σf,hf) ->
   Ext μ h.fl.nat w μB w'->Sim (CC P) P μB hB w'->EnvR μB (wGY a.dst σA v) (put' σ' o cv)->hB.fl=h.fl ->
   ∃ σB hB σ'' μB μT,JS tb ex exY P l os σ0 h0 σf hf μ0 w0 (fun k=>k == a.ix || S k) (put' σ o cv) w' (s ++ [a]) t σB hB σ'' μB μT:=by
  intro v cv hB w' μB r1 r2 E' S' hE' hfl
  have hne:∀ b ∈ t,b.ix ≠ a.ix:=fun b hb e=>by
   have:=Z.one
   rw [J.e] at this
   exact (nY.1 (nN.1 this).2.1).1 b hb e.symm
  have hSb:∀ b ∈ t,(b.ix == a.ix || S b.ix)=true->S b.ix=true:=fun b hb h=>by
   have:=hne b hb
   simpa [this] using h
  have hbo:∀ b ∈ t,b ∈ os:=fun b hb=>by rw [J.e];simp [hb]
  have eB:os=(s ++ [a]) ++ t:=by rw [J.e];simp
  have hnm:∀ b ∈ t,∀ s1 t1 σ1 h1,os=s1 ++ b :: t1->wAk tb ex exY s1 σ0 h0=some (σ1,h1)->μB h1.nx=none/\μ h1.nx=none:=fun b hb s1 t1 σ1 h1 e1 hr=>by
   have g1:=wRT HE HY Z eB r1 hb e1 hr
   have g2:=wRT HE HY Z J.e J.hs (b:=b) (by simp [hb]) e1 hr
   exact ⟨S'.nx _ g1,J.sim.nx _ g2⟩
  let μT:Mu:=fun q=>match μB q with | some c=>some c | none=>μS q
  have hT:μB.Le μT:=fun q c hq=>by show (match μB q with | some c=>some c | none=>μS q)=_;rw [hq]
  have hST:μS.Le μT:=fun q c hq=>by
   show (match μB q with | some c=>some c | none=>μS q)=_
   cases hB:μB q with
   | none=>exact hq
   | some c' =>
    rcases J.nm q c hq with h1 | ⟨b,ob,s1,t1,σ1,h1,k1,k2,k3,k4,k5,k6,k7,k8⟩
    ·rw [E'.mono _ _ h1] at hB
     exact hB.symm ▸ rfl
    ·rcases nJ.1 k1 with rfl | k1
     ·rw [hS] at k2;cases k2
     ·have:=(hnm b k1 s1 t1 σ1 h1 k6 k7).1
      rw [<- k8,hB] at this
      cases this
  refine ⟨_,hB,_,μB,μT,eB,r1,r2,fun b hb=>?_,fun b hb hh=>J.free b (by simp [hb]) (hSb b hb hh),?_,S',hfl.trans J.fl,hE',fun q hq=>?_,hT,fun q c hq=>?_,fun b hb hh=>?_⟩
  ·rcases nM.1 hb with hb | hb
   ·simp [J.inS b hb]
   ·rw [np.1 hb];simp
  ·have:=J.E
   refine this.trans ?_
   rw [<- J.fl]
   exact E'
  ·have old:σ (q.nat - 1)=σ' (q.nat - 1) \/ a.dst=some q:=by
    by_cases hq':a.dst=some q
    ·exact .inr hq'
    ·exact .inl (J.ag q fun b hb h=>by
      rcases nJ.1 hb with rfl | hb
      ·exact hq'
      ·exact hq b hb (by simp [h]))
   rcases A.dst with ⟨h1,h2⟩ | ⟨p,d,h1,h2,h3,_⟩
   ·unfold put'
    rw [h2]
    rcases old with old | old
    ·exact old
    ·rw [h1] at old;cases old
   ·unfold put'
    rw [h2]
    by_cases e:q.nat - 1=d
    ·simp only [e,wCq]
    ·simp only
     rw [wDn _ _ e,wDn _ _ e]
     rcases old with old | old
     ·exact old
     ·rw [h1] at old
      cases old
      exact absurd h3.symm e
  ·have hq:(match μB q with | some c=>some c | none=>μS q)=some c:=hq
   cases hB':μB q with
   | some c' =>
    rw [hB'] at hq
    exact .inl hq
   | none =>
    rw [hB'] at hq
    rcases J.nm q c hq with h1 | ⟨b,ob,s1,t1,σ1,h1,k1,k2,k3,k4,k5,k6,k7,k8⟩
    ·rw [E'.mono _ _ h1] at hB'
     cases hB'
    ·rcases nJ.1 k1 with rfl | k1
     ·rw [hS] at k2;cases k2
     ·exact .inr ⟨b,ob,s1,t1,σ1,h1,k1,by simp [k2],k3,(wCK (wGe Z hdc ha hS (hbo b k1) k2 A k3 cv)).symm.trans k4,k5,k6,k7,k8⟩
  ·have hbS:=hSb b hb hh
   obtain ⟨ob,p,Pd⟩:=J.pd b (by simp [hb]) hbS
   have hA:=wGe (σ:=σ) Z hdc ha hS (hbo b hb) hbS A Pd.get cv
   have hp:put' σ o cv (p.nat - 1)=σ (p.nat - 1):=wGk fun d hd e=>by
    rcases A.dst with ⟨_,h2⟩ | ⟨q,d',h1,h2,h3,_⟩
    ·rw [h2] at hd;cases hd
    ·rw [h2] at hd
     have hd:=nP hd
     have eq:q=p:=Pos.nat_inj (by have:=q.nat_pos;have:=p.nat_pos;have:q.nat - 1=p.nat - 1:=h3.symm.trans (hd.trans e);omega)
     subst eq
     exact Z.wr s a t J.e q h1 b (nU _ hb) Pd.dst
   have hsb:=Z.sel b (hbo b hb) _ Pd.get
   refine ⟨ob,p,Pd.get,Pd.dst,?_⟩
   rw [hp,<- wCK hA]
   rcases Pd.fact with f | ⟨f,⟨f1,f2⟩ | ⟨f1,f2,w1,w2,f3⟩ | ⟨f1,f2,w1,o1,s1,t1,σ1,h1,f3,f4,f5,f6,f7,f8,f9⟩⟩
   ·exact .inl f
   ·exact .inr ⟨f,.inl ⟨f1,f2.mono E'.mono⟩⟩
   ·exact .inr ⟨f,.inr (.inl ⟨f1,f2.mono hST,w1,w2,(Runs.agr hsb hA).1 f3⟩)⟩
   ·obtain ⟨n1,n2⟩:=hnm b hb s1 t1 σ1 h1 f6 f7
    have nimg:¬ img μ h.fl.nat w1.heap.size:=by
     rintro ⟨q,d,g1,g2,_⟩
     have:=f9 q d (J.le _ _ g1) g2
     rw [this,n2] at g1
     cases g1
    refine .inr ⟨f,.inr (.inr ⟨f1,f2.mono hST,w1,o1,s1,t1,σ1,h1,(Runs.agr hsb hA).1 f3,(E'.keep.block _ (wAc f4) nimg).trans f4,f5,f6,f7,hST _ _ f8,fun q c hq hc=>?_⟩)⟩
    have hq:(match μB q with | some c=>some c | none=>μS q)=some c:=hq
    cases hB':μB q with
    | none=>rw [hB'] at hq;exact f9 q c hq hc
    | some c' =>
     rw [hB'] at hq
     cases hq
     rcases E'.new q c hB' with g | g | g
     ·exact f9 q c (J.le _ _ g) hc
     ·rw [hc] at g;exact absurd g nimg
     ·have:=wAc f4;omega
 obtain ⟨σx,hx,q1,q2⟩:=wLf (s:=[]) (a:=a) (t:=t) (σ0:=σA) (h0:=h) (by rw [ni];exact J.hr)
 rw [wAy] at q1
 cases q1
 refine Step1.agr hsel (fun d hd=>(hagr d hd).symm) ?_
 rcases q2 with ⟨g1,v,h2,g2,g3⟩ | ⟨g1,g3⟩
 ·refine (wSl HC HY' A (hw.trans g1) g2 J.env J.sim).mono ?_
  rintro cv w' ⟨_,μB,e1,e2,e3,e4⟩
  refine main v cv h2 w' μB ?_ g3 e1 e2 e3 e4
  rw [wED s [a] _ _ _ _ J.hs,wBC,g1]
  simp only
  rw [g2]
  exact wAy _ _ _ _ _
 ·refine .inr ⟨hw.trans g1,?_⟩
  refine main u undef h w μ ?_ g3 (Ext.refl μ _ w) J.sim (wEW A J.env (wNg μ)) rfl
  rw [wED s [a] _ _ _ _ J.hs,wBC,g1]
  exact wAy _ _ _ _ _
theorem JS.opnd (Z:ZOK P N l os) {μ0:Mu} {w0:World} {S:Nat->Bool} (J:JS tb ex exY P l os σ0 h0 σf hf μ0 w0 S σ w s t σA h σ' μ μS) (ha:a ∈ os) (hl:a.ix < l.length) (hp:∀ j ∈ prI l a.ix,S j=true)
  (hdc:∀ k,k < l.length->S k=true->∀ j ∈ prI l k,S j=true) {p:Pos} (hr:p ∈ wCO a):Rv μS (evA σf (.t p)) (σ (p.nat - 1))/\(a.kd=1 \/ a.kd=3 \/ 8 <= a.kd->Rv μ (evA σf (.t p)) (σ (p.nat - 1))):=by
 have base:(∀ b ∈ t,b.dst ≠ some p)->Rv μ (evA σf (.t p)) (σ (p.nat - 1)):=fun hn=>by
  rw [wDH t _ _ _ _ J.hr p hn,J.ag p fun b hb _=>hn b hb]
  exact J.env p
 by_cases hw:∃ b ∈ t,b.dst=some p
 ·obtain ⟨b,hb,hd⟩:=hw
  have hbo:b ∈ os:=by rw [J.e];simp [hb]
  have hanc:=Z.rdS a ha p hr b hbo hd
  have hS:=wEQ hdc hp hanc
  obtain ⟨ob,p',Pd⟩:=J.pd b hb hS
  have ep:p'=p:=by have:=Pd.dst;rw [hd] at this;exact (nP this).symm
  subst ep
  rcases Pd.fact with ⟨_,f1,f2⟩ | ⟨_,⟨_,f1⟩ | ⟨f0,f1,_⟩ | ⟨f0,f1,_⟩⟩
  ·rw [f1,f2]
   exact ⟨wNg _,fun _=>wNg _⟩
  ·exact ⟨f1.mono J.le,fun _=>f1⟩
  ·exact ⟨f1,fun hk=>absurd f0 (Z.cl a ha hk p' hr b hbo hd).2⟩
  ·exact ⟨f1,fun hk=>absurd f0 (Z.cl a ha hk p' hr b hbo hd).1⟩
 ·have:=base fun b hb hd=>hw ⟨b,hb,hd⟩
  exact ⟨this.mono J.le,fun _=>this⟩
end
end Go.KX
namespace Go.KX
open Go.RowKit Go.KL
section
variable {tb:Tr AF} {ex exY:Run} {P:Program} {N:Nat} {l:List Oper} {os s t:List AO} {a:AO} {σ0 σA σf:Tr AV} {h0 h h1 h' hf:AH} {μ μS:Mu} {σ σ':Env} {w:World} {o:Oper} {v:AV}
theorem wPY {a:AOp} {op:Op} (hk:kdA a=1) (hc:wHH P a op=true) (hE:EnvR μ σA σ) (hm:∀ b c,μ b=some c->h.m.get b=h1.m.get b) (hr:opY a tb ex exY σA h1=some (v,h')):opY a tb ex exY σA h=some (v,h):=by
 have cel:∀ b c,μ b=some c->wDp h b=wDp h1 b:=fun b c hb=>by unfold wDp;rw [hm b c hb]
 cases a <;> first | (simp [kdA] at hk;done) | skip
 case ld x =>
  have hr:wOz x σA h1=some (v,h'):=hr
  show wOz x σA h=some (v,h)
  have hc:wSa P x op=true:=hc
  unfold wSa at hc
  split at hc
  ·simp only [nE] at hc
   have g:=wAR hc.2 hE
   unfold wOz at hr ⊢
   split at hr
   ·rename_i b off hb
    rw [hb] at g
    obtain ⟨c,g1,_⟩:=g
    simp only [hb,cel b c g1]
    split at hr
    ·exact wOO hr h
    ·cases hr
   ·cases hr
  ·cases hc
 case ldA n x =>
  have hr:wHi n x σA h1=some (v,h'):=hr
  show wHi n x σA h=some (v,h)
  have hc:wNv P n x op=true:=hc
  unfold wNv at hc
  split at hc
  ·simp only [nE] at hc
   have g:=wAR hc.2 hE
   unfold wHi at hr ⊢
   split at hr
   ·rename_i b off hb
    rw [hb] at g
    obtain ⟨c,g1,_⟩:=g
    simp only [hb,cel b c g1]
    split at hr
    ·exact wOO hr h
    ·cases hr
   ·cases hr
  ·cases hc
 case lk two k ok z x y =>
  have hr:wPA two k ok z x y σA h1=some (v,h'):=hr
  show wPA two k ok z x y σA h=some (v,h)
  have hc:wSe P two k ok z x y op=true:=hc
  unfold wSe at hc
  split at hc
  ·simp only [nE] at hc
   have g:=wAR hc.2.2.1 hE
   unfold wPA at hr ⊢
   split at hr
   ·rename_i b hb
    rw [hb] at g
    obtain ⟨c,g1,_⟩:=g
    simp only [hb,hm b c g1]
    repeat' (split at hr)
    all_goals first | (cases hr;done) | (cases hr;rfl)
   ·cases hr
  ·cases hc
 case lenM x =>
  have hr:wFE x σA h1=some (v,h'):=hr
  show wFE x σA h=some (v,h)
  have hc:wJT P x op=true:=hc
  unfold wJT at hc
  split at hc
  ·split at hc
   ·simp only [nE] at hc
    obtain ⟨_,hc⟩:=hc
    split at hc
    ·simp only [nE] at hc
     have g:=wAR hc.2 hE
     unfold wFE at hr ⊢
     split at hr
     ·rename_i hb
      cases hr
      simp_all
     ·rename_i b hb
      rw [hb] at g
      obtain ⟨c,g1,_⟩:=g
      simp only [hb,hm b c g1]
      repeat' (split at hr)
      all_goals first | (cases hr;done) | (cases hr;rfl)
     ·cases hr
    ·cases hc
   ·cases hc
  ·cases hc
theorem wIi (HE:FrX ex) (HY:FrX exY):∀ (r:List AO) (σ1:Tr AV) (h1:AH) (σ2:Tr AV) (h2:AH),wAk tb ex exY r σ1 h1=some (σ2,h2)->(∀ b ∈ r,wHI P N l b=true) ->
  (∀ b ∈ r,b.kd=2 \/ (b.kd=1 \/ b.kd=3 \/ (b.kd=6/\kdA b.op=3) \/ (b.kd=4/\wMm b.op=true) \/ (8 <= b.kd/\kdA b.op=1)))->h1.nx.nat <= h2.nx.nat/\∀ p:Pos,p.nat < h1.nx.nat->h2.m.get p=h1.m.get p
 | [],σ1,h1,σ2,h2,hr,_,_=>by
  rw [wAy] at hr
  cases hr
  exact ⟨nK _,fun _ _=>rfl⟩
 | b :: r,σ1,h1,σ2,h2,hr,hc,hk=>by
  rw [wBC] at hr
  cases hw:wCt σ1 b.grd with
  | false =>
   rw [hw] at hr
   exact wIi HE HY r _ _ _ _ hr (fun c hcc=>hc c (by simp [hcc])) (fun c hcc=>hk c (by simp [hcc]))
  | true =>
   rw [hw] at hr
   simp only at hr
   cases hq:opK b.kd b.op tb ex exY σ1 h1 with
   | none=>rw [hq] at hr;cases hr
   | some q =>
    rw [hq] at hr
    obtain ⟨v,h3⟩:=q
    obtain ⟨g1,g2⟩:=wIi HE HY r _ _ _ _ hr (fun c hcc=>hc c (by simp [hcc])) (fun c hcc=>hk c (by simp [hcc]))
    obtain ⟨o,A⟩:=wDT (hc b (by simp))
    have one:h1.nx.nat <= h3.nx.nat/\∀ p:Pos,p.nat < h1.nx.nat->h3.m.get p=h1.m.get p:=by
     have same:h3=h1->h1.nx.nat <= h3.nx.nat/\∀ p:Pos,p.nat < h1.nx.nat->h3.m.get p=h1.m.get p:=fun e=>by subst e;exact ⟨nK _,fun _ _=>rfl⟩
     rcases hk b (by simp) with k | k | k | ⟨k,k'⟩ | ⟨k,k'⟩ | ⟨k,k'⟩
     ·exact ⟨(wQQ HE HY _ _ hq).nx,wSp HE HY b.op (by rw [k] at hq;exact hq)⟩
     ·rw [k] at hq
      exact same (wIF (C:=CC P) (A.k1 k) A.op _ _ _ _ hq).1
     ·rw [k] at hq
      exact same (wIE (A.k3 k) A.op _ _ _ _ hq).1
     ·rw [k] at hq
      exact same (wIE k' A.op _ _ _ _ hq).1
     ·rw [k] at hq
      obtain ⟨B,vf,e1,_⟩:=wLe (C:=CC P) k' A.op _ _ _ _ hq
      subst e1
      refine ⟨(Fr.push h1 B).nx,fun p hp=>?_⟩
      show (h1.m.set h1.nx B).get p=_
      rw [Tr.get_set,if_neg (fun e=>by subst e;omega)]
     ·exact same (wIF (C:=CC P) (.inl k') A.op _ _ _ _ (wOR (by omega) hq)).1
    exact ⟨kW one.1 g1,fun p hp=>(g2 p (kZ hp one.1)).trans (one.2 p hp)⟩
theorem JS.full {μ0:Mu} {w0:World} {S:Nat->Bool} (J:JS tb ex exY P l os σ0 h0 σf hf μ0 w0 S σ w s t σA h σ' μ μS):wAk tb ex exY os σ0 h0=some (σf,hf):=by
 rw [J.e,wED s t _ _ _ _ J.hs]
 exact J.hr
theorem JS.frm (Z:ZOK P N l os) {μ0:Mu} {w0:World} {S:Nat->Bool} (J:JS tb ex exY P l os σ0 h0 σf hf μ0 w0 S σ w s t σA h σ' μ μS) (ha:a ∈ os) (hl:a.ix < l.length) (hp:∀ j ∈ prI l a.ix,S j=true)
  (hdc:∀ k,k < l.length->S k=true->∀ j ∈ prI l k,S j=true) (A:AOK P N l a o) {s1 t1:List AO} {σ1:Tr AV} (e1:os=s1 ++ a :: t1) (hr1:wAk tb ex exY s1 σ0 h0=some (σ1,h1)) :
  wanted l σ o=wCt σ1 a.grd/\∀ p ∈ wCO a,evA σf (.t p)=evA σ1 (.t p):=by
 have hf:=J.full
 have hrd:∀ p ∈ wCO a,evA σf (.t p)=evA σ1 (.t p):=fun p hp=>by
  rw [e1,wED s1 _ _ _ _ _ hr1] at hf
  exact wSr Z e1 hf hp
 refine ⟨?_,hrd⟩
 have hE:EnvR μS (rst σf (wCO a)) (rsl σ (wCO a)):=wHN fun p hpr=>(J.opnd Z ha hl hp hdc hpr).1
 have hw:=wIe A hE
 have hag:Agr l o (rsl σ (wCO a)) σ:=fun d hd=>by
  obtain ⟨p,h1,h2⟩:=wEz A (Z.sub a ha _ A.get) d hd
  unfold rsl
  rw [if_pos ⟨p,h1,h2⟩]
 rw [<- wCK hag,hw]
 cases hg:a.grd with
 | none=>rfl
 | some q =>
  obtain ⟨p,b⟩:=q
  show isB b (evA _ (.t p))=isB b (evA _ (.t p))
  have hpr:p ∈ wCO a:=nU _ (by rw [hg];simp)
  rw [wHM,if_pos hpr,hrd p hpr]
theorem wSt (HE:FrX ex) (HY:FrX exY) (Z:ZOK P N l os) {a b:AO} {s1 t1 s2 t2:List AO} {σ1 σ2:Tr AV} {h1 h2:AH} (e1:os=s1 ++ a :: t1) (e2:os=s2 ++ b :: t2) (r1:wAk tb ex exY s1 σ0 h0=some (σ1,h1)) (r2:wAk tb ex exY s2 σ0 h0=some (σ2,h2))
  (w1:wCt σ1 a.grd=true) (ka:a.kd=4) (la:wMm a.op=true) (hin:a ∈ s2):h1.nx.nat < h2.nx.nat:=by
 obtain ⟨o,A⟩:=wDT (Z.ao a (by rw [e1];simp))
 obtain ⟨r,r',rfl⟩:=nc hin
 have es:s1=r:=(wDI (e1 ▸ Z.one) (e1.symm.trans (e2.trans (by rw [nG,nO])))).1
 subst es
 rw [wED s1 _ _ _ _ _ r1,wBC,w1] at r2
 simp only at r2
 cases hq:opK a.kd a.op tb ex exY σ1 h1 with
 | none=>rw [hq] at r2;cases r2
 | some q =>
  rw [hq] at r2
  obtain ⟨v,h3⟩:=q
  rw [ka] at hq
  obtain ⟨B,vf,q1,_⟩:=wLe (C:=CC P) la A.op _ _ _ _ hq
  subst q1
  have:=(wII HE HY _ _ _ _ _ r2).nx
  have h3:(h1.push B).nx.nat=h1.nx.nat + 1:=Pos.nat_succ _
  simp only at this
  omega
theorem nm_ne (HE:FrX ex) (HY:FrX exY) (Z:ZOK P N l os) {a b:AO} {s1 t1 s2 t2:List AO} {σ1 σ2:Tr AV} {h1 h2:AH} (e1:os=s1 ++ a :: t1) (e2:os=s2 ++ b :: t2) (r1:wAk tb ex exY s1 σ0 h0=some (σ1,h1)) (r2:wAk tb ex exY s2 σ0 h0=some (σ2,h2))
  (w1:wCt σ1 a.grd=true) (w2:wCt σ2 b.grd=true) (ka:a.kd=4) (la:wMm a.op=true) (kb:b.kd=4) (lb:wMm b.op=true) (hne:a ≠ b):h1.nx ≠ h2.nx:=by
 have ha:a ∈ s2 ++ b :: t2:=by rw [<- e2,e1];simp
 rcases nM.1 ha with h | h
 ·intro e
  have:=wSt HE HY Z e1 e2 r1 r2 w1 ka la h
  rw [e] at this
  exact absurd this (kx _)
 ·rcases nJ.1 h with h | h
  ·exact absurd h hne
  ·obtain ⟨r,r',rfl⟩:=nc h
   have es:s1=s2 ++ b :: r:=(wDI (e1 ▸ Z.one) (e1.symm.trans (e2.trans (by rw [nG,nO])))).1
   intro e
   have:=wSt HE HY Z e2 e1 r2 r1 w2 kb lb (by rw [es];simp)
   rw [e] at this
   exact absurd this (kx _)
end
end Go.KX
namespace Go.KX
open Go.RowKit Go.KL
section
variable {tb:Tr AF} {ex exY:Run} {P:Program} {N:Nat} {l:List Oper} {os s t:List AO} {a:AO} {σ0 σA σf:Tr AV} {h0 h h1 h' hf:AH} {μ μS:Mu} {σ σ':Env} {w:World} {o:Oper} {v:AV}
theorem wOT (Z:ZOK P N l os) {a b:AO} (ha:a ∈ os) (hb:b ∈ os) (e:b.ix=a.ix):b=a:=by
 obtain ⟨s,t,hs⟩:=nc ha
 have one:=Z.one
 rw [hs] at hb one
 rcases nM.1 hb with h | h
 ·exact absurd e ((nN.1 one).2.2 b h a (by simp))
 ·rcases nJ.1 h with h | h
  ·exact h
  ·exact absurd e.symm ((nY.1 (nN.1 one).2.1).1 b h)
theorem wGf (A:AOK P N l a o) {q:Pos} (hn:a.dst ≠ some q) (cv:Value):put' σ o cv (q.nat - 1)=σ (q.nat - 1):=by
 refine wGk fun d hd e=>?_
 rcases A.dst with ⟨_,h2⟩ | ⟨p,d',h1,h2,h3,_⟩
 ·rw [h2] at hd;cases hd
 ·rw [h2] at hd
  have hd:=nP hd
  have:p=q:=Pos.nat_inj (by have:=q.nat_pos;have:=p.nat_pos;have:p.nat - 1=q.nat - 1:=h3.symm.trans (hd.trans e);omega)
  subst this
  exact hn h1
theorem JS.add (Z:ZOK P N l os) {μ0:Mu} {w0:World} {S:Nat->Bool} (J:JS tb ex exY P l os σ0 h0 σf hf μ0 w0 S σ w s t σA h σ' μ μS) (ha:a ∈ t) (hS:S a.ix=false) (hfree:wCD a.kd=false)
  (hdc:∀ k,k < l.length->S k=true->∀ j ∈ prI l k,S j=true) (A:AOK P N l a o) {cv:Value} {w':World} {μT:Mu} (K:Keep w w' Non) (hle:μS.Le μT)
  (hnew:∀ q c,μT q=some c->μS q=some c \/ (c.1=w.heap.size/\wanted l σ o=true/\a.kd=4/\∃ s1 t1 σ1 h1,os=s1 ++ a :: t1/\wAk tb ex exY s1 σ0 h0=some (σ1,h1)/\q=h1.nx))
  (hpa:∃ p,Pend tb ex exY P l os σ0 h0 σf w0 μ μT (put' σ o cv) w' a o p) :
  JS tb ex exY P l os σ0 h0 σf hf μ0 w0 (fun k=>k == a.ix || S k) (put' σ o cv) w' s t σA h σ' μ μT:=by
 have hao:a ∈ os:=by rw [J.e];simp [ha]
 have hbo:∀ b ∈ t,b ∈ os:=fun b hb=>by rw [J.e];simp [hb]
 obtain ⟨sa,ta,ea⟩:=nc hao
 have hself:Agr l o σ (put' σ o cv):=by
  intro d hd
  obtain ⟨p,hp,rfl⟩:=wEz A (Z.sub a hao _ A.get) d hd
  exact (wGf A (Z.rd sa a ta ea p hp a (by simp)) cv).symm
 refine ⟨J.e,J.hs,J.hr,fun b hb=>by simp [J.inS b hb],fun b hb hh=>?_,⟨J.E.mono,J.E.new,J.E.keep.step K fun _ _ hn=>hn.elim⟩,J.sim.keep K,J.fl,J.env,fun q hq=>?_,J.le.trans hle,fun q c hq=>?_,fun b hb hh=>?_⟩
 ·by_cases e:b.ix=a.ix
  ·rw [wOT Z hao (hbo b hb) e];exact hfree
  ·exact J.free b hb (by simpa [e] using hh)
 ·rw [wGf A (hq a ha (by simp))]
  exact J.ag q fun b hb hs=>hq b hb (by simp [hs])
 ·rcases hnew q c hq with h1 | ⟨_,h2,h3,s1,t1,σ1,h1,e1,e2,e3⟩
  ·rcases J.nm q c h1 with g | ⟨b,ob,s1,t1,σ1,h1,k1,k2,k3,k4,k5,k6,k7,k8⟩
   ·exact .inl g
   ·exact .inr ⟨b,ob,s1,t1,σ1,h1,k1,by simp [k2],k3,(wCK (wGe Z hdc hao hS (hbo b k1) k2 A k3 cv)).symm.trans k4,k5,k6,k7,k8⟩
  ·exact .inr ⟨a,o,s1,t1,σ1,h1,ha,by simp,A.get,(wCK hself).symm.trans h2,h3,e1,e2,e3⟩
 ·by_cases e:b.ix=a.ix
  ·have:=wOT Z hao (hbo b hb) e
   subst this
   exact ⟨o,hpa⟩
  ·have hbS:S b.ix=true:=by simpa [e] using hh
   obtain ⟨ob,p,Pd⟩:=J.pd b hb hbS
   have hA:=wGe (σ:=σ) Z hdc hao hS (hbo b hb) hbS A Pd.get cv
   have hp:put' σ o cv (p.nat - 1)=σ (p.nat - 1):=by
    refine wGf A (fun hd=>?_) cv
    have hb':=hbo b hb
    rw [ea] at hb'
    have hb'':b ∈ sa ++ ta:=by
     rcases nM.1 hb' with h | h
     ·exact nb _ h
     ·rcases nJ.1 h with h | h
      ·exact absurd (by rw [h]) e
      ·exact nU _ h
    exact Z.wr sa a ta ea p hd b hb'' Pd.dst
   have hsb:=Z.sel b (hbo b hb) _ Pd.get
   refine ⟨ob,p,Pd.get,Pd.dst,?_⟩
   rw [hp,<- wCK hA]
   rcases Pd.fact with f | ⟨f,⟨f1,f2⟩ | ⟨f1,f2,w1,w2,f3⟩ | ⟨f1,f2,w1,o1,s1,t1,σ1,h1,f3,f4,f5,f6,f7,f8,f9⟩⟩
   ·exact .inl f
   ·exact .inr ⟨f,.inl ⟨f1,f2⟩⟩
   ·exact .inr ⟨f,.inr (.inl ⟨f1,f2.mono hle,w1,w2,(Runs.agr hsb hA).1 f3⟩)⟩
   ·refine .inr ⟨f,.inr (.inr ⟨f1,f2.mono hle,w1,o1,s1,t1,σ1,h1,(Runs.agr hsb hA).1 f3,(K.block _ (wAc f4) id).trans f4,f5,f6,f7,hle _ _ f8,fun q c hq hc=>?_⟩)⟩
    rcases hnew q c hq with h1 | ⟨h1,_⟩
    ·exact f9 q c h1 hc
    ·have:=wAc f4
     omega
theorem wIJ:∀ (r:List AO),(∀ b ∈ r,b.kd ≠ 0) \/ ∃ x b y,r=x ++ b :: y/\b.kd=0/\∀ c ∈ x,c.kd ≠ 0
 | []=>.inl fun b hb=>by simp at hb
 | a :: r=>by
  by_cases h0:a.kd=0
  ·exact .inr ⟨[],a,r,rfl,h0,fun c hc=>by simp at hc⟩
  ·rcases wIJ r with h | ⟨x,b,y,h1,h2,h3⟩
   ·refine .inl fun b hb=>?_
    rcases nJ.1 hb with rfl | hb
    ·exact h0
    ·exact h b hb
   ·refine .inr ⟨a :: x,b,y,by rw [h1];rfl,h2,fun c hc=>?_⟩
    rcases nJ.1 hc with rfl | hc
    ·exact h0
    ·exact h3 c hc
theorem JS.freeOp {σg:Tr AV} (HE:FrX ex) (HY:FrX exY) (Z:ZOK P N l os) (HL:LCK tb ex exY os σ0 h0 σg) (Hg:∀ a ∈ os,8 <= a.kd->∀ p,p ∈ wCO a \/ a.dst=some p->evA σf (.t p)=evA σg (.t p)) {μ0:Mu} {w0:World} {S:Nat->Bool} (J:JS tb ex exY P l os σ0 h0 σf hf μ0 w0 S σ w s t σA h σ' μ μS) (ha:a ∈ t) (hS:S a.ix=false) (hfree:wCD a.kd=false)
  (hp:∀ j ∈ prI l a.ix,S j=true) (hdc:∀ k,k < l.length->S k=true->∀ j ∈ prI l k,S j=true) (A:AOK P N l a o) :
  Step1 P l o σ w fun cv w'=>∃ μT,JS tb ex exY P l os σ0 h0 σf hf μ0 w0 (fun k=>k == a.ix || S k) (put' σ o cv) w' s t σA h σ' μ μT:=by
 have hao:a ∈ os:=by rw [J.e];simp [ha]
 have hl:a.ix < l.length:=(nq.1 A.get).1
 obtain ⟨r,r',et⟩:=nc ha
 have e1:os=(s ++ r) ++ a :: r':=by rw [J.e,et,nG]
 have hsel:=Z.sel a hao _ A.get
 have hsub:=Z.sub a hao _ A.get
 have hfull:=J.full
 rw [e1] at hfull
 obtain ⟨σ1,h1,r1,r2⟩:=wLf hfull
 obtain ⟨hw,hrd⟩:=J.frm Z hao hl hp hdc A e1 r1
 have hrr:wAk tb ex exY r σA h=some (σ1,h1):=by rw [<- wED s r _ _ _ _ J.hs];exact r1
 have hself:∀ cv,Agr l o σ (put' σ o cv):=by
  intro cv d hd
  obtain ⟨p,hp,rfl⟩:=wEz A hsub d hd
  exact (wGf A (Z.rd _ a _ e1 p hp a (by simp)) cv).symm
 obtain ⟨hdn,hkd⟩:a.dst ≠ none/\(a.kd=1 \/ a.kd=3 \/ (a.kd=6/\kdA a.op=3) \/ (a.kd=4/\wMm a.op=true) \/ (8 <= a.kd/\kdA a.op=1)):=by
  rcases Z.kd a hao with h | h
  ·rw [hfree] at h;cases h
  ·exact h
 obtain ⟨p,d,d1,d2,d3,_⟩:∃ p d,a.dst=some p/\o.dst=some d/\d=p.nat - 1/\d < N:=by
  rcases A.dst with ⟨h1,_⟩ | h
  ·exact absurd h1 hdn
  ·exact h
 have eput:∀ cv,put' σ o cv (p.nat - 1)=cv:=fun cv=>by unfold put';rw [d2,d3];exact wCq _ _ _
 have hslot:∀ q ∈ wCp (wBW a.op),q ∈ wCO a:=fun q hq=>nb _ hq
 rcases r2 with ⟨g1,v,h2,g2,g3⟩ | ⟨g1,g3⟩
 ·have hv:evA σf (.t p)=v:=wKk Z e1 g3 d1
  have hw':wanted l σ o=true:=hw.trans g1
  have hwn:∀ cv,wanted l (put' σ o cv) o=true:=fun cv=>(wCK (hself cv)).symm.trans hw'
  have hvS:∀ q ∈ wCp (wBW a.op),Rv μS (evA σ1 (.t q)) (σ (q.nat - 1)):=fun q hq=>by
   rw [<- hrd q (hslot q hq)]
   exact (J.opnd Z hao hl hp hdc (hslot q hq)).1
  have clean:(a.kd=1 \/ a.kd=3 \/ 8 <= a.kd)->(∃ cv,Rv μ v cv/\Runs P σ w o cv w)->Step1 P l o σ w fun cv w'=>∃ μT,JS tb ex exY P l os σ0 h0 σf hf μ0 w0 (fun k=>k == a.ix || S k) (put' σ o cv) w' s t σA h σ' μ μT:=by
   rintro hk ⟨cv,c1,c2⟩
   refine .inl ⟨hw',.inr (.inl ⟨cv,w,c2,μS,J.add Z ha hS hfree hdc A (Keep.refl w _) (Mu.Le.refl _) (fun q c hq=>.inl hq) ⟨p,A.get,d1,.inr ⟨hwn cv,.inl ⟨hk,?_⟩⟩⟩⟩)⟩
   rw [hv,eput]
   exact c1
  have hvC:(a.kd=1 \/ a.kd=3 \/ 8 <= a.kd)->∀ q ∈ wCp (wBW a.op),Rv μ (evA σ1 (.t q)) (σ (q.nat - 1)):=fun hk q hq=>by
   rw [<- hrd q (hslot q hq)]
   exact (J.opnd Z hao hl hp hdc (hslot q hq)).2 hk
  have loadC:(a.kd=1 \/ a.kd=3 \/ 8 <= a.kd)->kdA a.op=1->∀ (x:List AO),(∀ b ∈ x,b ∈ t)->∀ {σ2:Tr AV} {h3 h4:AH} {σ3:Tr AV},wAk tb ex exY x σA h=some (σ2,h3)->opY a.op tb ex exY σ3 h3=some (v,h4)->(∀ b ∈ x,b.kd=0->False)->(∀ q ∈ wCO a,evA σf (.t q)=evA σ3 (.t q))->∃ cv,Rv μ v cv/\Runs P σ w o cv w:=by
   intro hk k x hx σ2 h3 h4 σ3 hrx gY hx0 hrd3
   have hv3:∀ q ∈ wCp (wBW a.op),Rv μ (evA σ3 (.t q)) (σ (q.nat - 1)):=fun q hq=>by
    rw [<- hrd3 q (hslot q hq)]
    exact (J.opnd Z hao hl hp hdc (hslot q hq)).2 hk
   have hrs:=wLd gY
   have henv:=wHN hv3
   obtain ⟨_,hold⟩:=wIi HE HY x _ _ _ _ hrx (fun b hb=>Z.ao b (by rw [J.e];simp [hx b hb])) (fun b hb=>by
    rcases Z.kd b (by rw [J.e];simp [hx b hb]) with h | h
    ·unfold wCD at h
     simp only [nl] at h
     rcases h with h | h
     ·exact absurd (nD h) (hx0 b hb)
     ·exact .inl (nD h)
    ·exact .inr h.2)
   have hm:∀ b c,μ b=some c->h.m.get b=h3.m.get b:=fun b c hb=>by
    refine (hold b ?_).symm
    rcases kl b.nat h.nx.nat with hlt | hge
    ·exact hlt
    ·rw [J.sim.nx b hge] at hb;cases hb
   have hld:=wPY k A.op henv hm hrs
   obtain ⟨cv,c1,c2⟩:=wOQ (C:=CC P) hsel hsub (.inl k) A.op hld J.sim (fun q hq=>by rw [wHM,if_pos hq];exact hv3 q hq)
   exact ⟨cv,c1,c2⟩
  rcases hkd with hk | hk | ⟨hk,hk2⟩ | ⟨hk,hk2⟩ | ⟨hk,hk2⟩
  ·have gY:opY a.op tb ex exY σ1 h1=some (v,h2):=by rw [hk] at g2;exact g2
   refine clean (.inl hk) ?_
   rcases A.k1 hk with k | k
   ·exact loadC (.inl hk) k r (fun b hb=>by rw [et];simp [hb]) hrr gY (fun b hb h0=>by
     have:=wEQ hdc hp (Z.ld _ a _ e1 hk b (by simp [hb]) h0)
     have:=J.free b (by rw [et];simp [hb]) this
     rw [h0] at this
     cases this) hrd
   ·obtain ⟨cv,c1,c2⟩:=wHO hsel hsub k A.op gY (hvC (.inl hk))
    exact ⟨cv,c1,c2 w⟩
  ·have gY:opY a.op tb ex exY σ1 h1=some (v,h2):=by rw [hk] at g2;exact g2
   obtain ⟨cv,c1,c2⟩:=wHO hsel hsub (A.k3 hk) A.op gY (hvC (.inr (.inl hk)))
   exact clean (.inr (.inl hk)) ⟨cv,c1,c2 w⟩
  ·have gY:opY a.op tb ex exY σ1 h1=some (v,h2):=by rw [hk] at g2;exact g2
   obtain ⟨cv,c1,c2⟩:=wHO hsel hsub hk2 A.op gY hvS
   refine .inl ⟨hw',.inr (.inl ⟨cv,w,c2 w,μS,J.add Z ha hS hfree hdc A (Keep.refl w _) (Mu.Le.refl _) (fun q c hq=>.inl hq) ⟨p,A.get,d1,.inr ⟨hwn cv,.inr (.inl ⟨hk,?_,w,w,?_⟩)⟩⟩⟩)⟩
   ·rw [hv,eput]
    exact c1
   ·rw [eput]
    exact (Runs.agr hsel (hself cv)).1 (c2 w)
  ·have gY:opY a.op tb ex exY σ1 h1=some (v,h2):=by rw [hk] at g2;exact g2
   obtain ⟨B,vf,ob,val,_,ev',_,c1,c2,c3⟩:=wMY (C:=CC P) hsel hsub hk2 A.op gY hvS
   have hno:μS h1.nx=none:=by
    cases hq:μS h1.nx with
    | none=>rfl
    | some c =>
     rcases J.nm _ c hq with g | ⟨b,ob',s2,t2,σ2,h3,k1,k2,k3,k4,k5,k6,k7,k8⟩
     ·have:=wRT HE HY Z J.e J.hs ha e1 r1
      rw [J.sim.nx _ this] at g
      cases g
     ·have hbo:b ∈ os:=by rw [J.e];simp [k1]
      have hne:a ≠ b:=fun e=>by subst e;rw [hS] at k2;cases k2
      obtain ⟨ob2,B2⟩:=wDT (Z.ao b hbo)
      have hb2:wMm b.op=true:=by
       rcases Z.kd b hbo with hh | ⟨_,hh | hh | hh | hh | hh⟩
       ·rw [k5] at hh;exact absurd hh (by decide)
       ·omega
       ·omega
       ·omega
       ·exact hh.2
       ·omega
      have hwb:wCt σ2 b.grd=true:=by
       have hlb:b.ix < l.length:=(nq.1 k3).1
       have eo:ob2=ob':=by have:=B2.get;rw [k3] at this;exact (nP this).symm
       subst eo
       have:=(J.frm Z hbo hlb (hdc _ hlb k2) hdc B2 k6 k7).1
       rw [<- this]
       exact k4
      exact absurd k8 (nm_ne HE HY Z e1 k6 r1 k7 g1 hwb hk hk2 k5 hb2 hne)
   have hadd:=Mu.add_le (c:=(⟨w.heap.size,0,g0⟩:Cl)) hno
   have hsz:∀ q c,μS q=some c->c.1 < w.heap.size:=fun q c hq=>by
    rcases J.nm q c hq with g | ⟨b,ob',s2,t2,σ2,h3,k1,k2,k3,k4,k5,k6,k7,k8⟩
    ·exact J.sim.lt q c g
    ·obtain ⟨ob2,p2,Pd⟩:=J.pd b k1 k2
     have eo:ob2=ob':=by have:=Pd.get;rw [k3] at this;exact (nP this).symm
     subst eo
     rcases Pd.fact with ⟨f,_⟩ | ⟨_,⟨f,_⟩ | ⟨f,_⟩ | ⟨_,_,w1,o1,s3,t3,σ3,h4,_,f4,_,f6,f7,f8,_⟩⟩
     ·rw [k4] at f;cases f
     ·omega
     ·omega
     ·have es:s3=s2:=(wDI (f6 ▸ Z.one) (f6.symm.trans k6)).1
      subst es
      rw [k7] at f7
      cases f7
      subst k8
      rw [hq] at f8
      cases f8
      exact wAc f4
   refine .inl ⟨hw',.inr (.inl ⟨val w.heap.size,w.alloc ob,c1 w,μS.add h1.nx ⟨w.heap.size,0,g0⟩,J.add Z ha hS hfree hdc A (wBD w ob) hadd (fun q c hq=>?_) ⟨p,A.get,d1,.inr ⟨hwn _,.inr (.inr ⟨hk,?_,w,ob,s ++ r,r',σ1,h1,?_,heap_alloc_new w ob,J.E.keep.size,e1,r1,Mu.add_same _ _ _,fun q c hq hc=>?_⟩)⟩⟩⟩)⟩
   ·unfold Mu.add at hq
    split at hq
    ·rename_i eq
     cases hq
     exact .inr ⟨rfl,hw',hk,s ++ r,r',σ1,h1,e1,r1,eq⟩
    ·exact .inl hq
   ·rw [hv,eput,ev']
    exact c3 _ _ _ (Mu.add_same _ _ _)
   ·rw [eput]
    exact (Runs.agr hsel (hself _)).1 (c1 w)
   ·unfold Mu.add at hq
    split at hq
    ·rename_i eq
     exact eq
    ·have:=hsz q c hq
     omega
  ·have gY:opY a.op tb ex exY σ1 h1=some (v,h2):=wOR (by omega) g2
   refine clean (.inr (.inr hk)) ?_
   rcases wIJ r with hz | ⟨x,b,y,er,hb0,hx0⟩
   ·exact loadC (.inr (.inr hk)) hk2 r (fun b hb=>by rw [et];simp [hb]) hrr gY (fun b hb h0=>hz b hb h0) hrd
   ·have e2:os=(s ++ x) ++ b :: (y ++ a :: r'):=by rw [J.e,et,er];simp
    have hfull2:=J.full
    rw [e2] at hfull2
    obtain ⟨σ2,h3,r3,_⟩:=wLf hfull2
    have hbt:b ∈ t:=by rw [et,er];simp
    have hanc:wPD y + 8 < a.kd:=by
     rcases Z.ld8 _ a _ e1 hk (s ++ x) b y (by rw [er];simp) hb0 with g | g
     ·have:=J.free b hbt (wEQ hdc hp g)
      rw [hb0] at this
      cases this
     ·exact g
    have hlk:=HL _ b _ e2 hb0 _ _ r3
    have hsame:=wKg y a r' 0 hlk hfree (by omega)
    have hgf:wCt σg a.grd=true:=by
     rw [<- g1]
     cases hg:a.grd with
     | none=>rfl
     | some q =>
      obtain ⟨q,c⟩:=q
      show isB c (evA _ (.t q))=isB c (evA _ (.t q))
      have hqr:q ∈ wCO a:=nU _ (by rw [hg];simp)
      rw [<- Hg a hao hk q (.inl hqr),hrd q hqr]
    unfold wIB at hsame
    rw [d1] at hsame
    simp only [hgf] at hsame
    split at hsame
    ·rename_i v' h5 hq
     have hvv:=wON hsame
     rw [<- Hg a hao hk p (.inr d1),hv] at hvv
     subst hvv
     have hrx:wAk tb ex exY x σA h=some (σ2,h3):=by rw [<- wED s x _ _ _ _ J.hs];exact r3
     exact loadC (.inr (.inr hk)) hk2 x (fun b hb=>by rw [et,er];simp [hb]) hrx hq (fun b hb h0=>hx0 b hb h0) (fun q hq=>Hg a hao hk q (.inl hq))
    ·cases hsame
 ·refine .inr ⟨hw.trans g1,μS,J.add Z ha hS hfree hdc A (Keep.refl w _) (Mu.Le.refl _) (fun q c hq=>.inl hq) ⟨p,A.get,d1,.inl ⟨(wCK (hself _)).symm.trans (hw.trans g1),eput _,?_⟩⟩⟩
  exact wKk Z e1 (v:=u) g3 d1
theorem JS.catch (Z:ZOK P N l os) {μ0:Mu} {w0:World} {S:Nat->Bool}:∀ (r:List AO) {s t:List AO} {σA:Tr AV} {h:AH} {σ':Env} {μ:Mu},JS tb ex exY P l os σ0 h0 σf hf μ0 w0 S σ w s (r ++ t) σA h σ' μ μS->(∀ a ∈ r,S a.ix=true) ->
  ∃ σB hB σ'' μB,JS tb ex exY P l os σ0 h0 σf hf μ0 w0 S σ w (s ++ r) t σB hB σ'' μB μS
 | [],s,t,σA,h,σ',μ,J,_=>⟨σA,h,σ',μ,by rw [nr];exact J⟩
 | a :: r,s,t,σA,h,σ',μ,J,hS=>by
  obtain ⟨σB,hB,σ'',μB,J1⟩:=JS.catch1 (t:=r ++ t) Z J (hS a (by simp))
  obtain ⟨σC,hC,σ3,μC,J2⟩:=JS.catch Z r J1 fun b hb=>hS b (by simp [hb])
  exact ⟨σC,hC,σ3,μC,by rw [show s ++ a :: r=s ++ [a] ++ r by simp];exact J2⟩
theorem JS.anew {A B:List AO} {σm:Tr AV} {h2:AH} {μ0:Mu} {w0:World} {S:Nat->Bool} (J:JS tb ex exY P l A σ0 h0 σm h2 μ0 w0 S σ w s [] σA h σ' μ μS) (hr:wAk tb ex exY B σm h2=some (σf,hf)) (hB:∀ b ∈ B,S b.ix=false) :
  Ext μ0 h0.fl.nat w0 μ w/\h2.fl=h0.fl/\JS tb ex exY P l B σm h2 σf hf μ w S σ w [] B σm h2 σ' μ μ:=by
 have hr1:=J.hr
 rw [wAy] at hr1
 cases hr1
 exact ⟨J.E,J.fl,rfl,wAy _ _ _ _ _,hr,fun b hb=>(by simp at hb),fun b hb hS=>(by rw [hB b hb] at hS;cases hS),Ext.refl μ _ w,J.sim,rfl,J.env,fun q _=>J.ag q fun b hb=>(by simp at hb),Mu.Le.refl _,fun q c hq=>.inl hq,fun b hb hS=>(by rw [hB b hb] at hS;cases hS)⟩
theorem CK.lazy {rr:Option Nat} {Q:wDg} {D:List Deferred} {id:Nat} (hm:P.follows .mixedOrders=true) (HC:wGW (CC P) P tb ex) (HY':wFT (CC P) P exY) (HE:FrX ex) (HY:FrX exY) (ZZ:∃ A B,ZAll P N l os A B) (HL0:LCK tb ex exY os σ0 h0 σf)
  (hr:wAk tb ex exY os σ0 h0=some (σf,hf)) (S:Sim (CC P) P μ h0 w) (hE:EnvR μ σ0 σ)
  (hQ:∀ μ' w' σ',Ext μ h0.fl.nat w μ' w'->Sim (CC P) P μ' hf w'->EnvR μ' σf σ'->hf.fl=h0.fl->Q D .normal σ' w'):CK rr N P (.region id l.toArray true) Q D σ w:=by
 obtain ⟨A,B,ZZ⟩:=ZZ
 obtain ⟨σm,h2,hrA,hrB⟩:=wEA A B σ0 h0 _ (ZZ.eq ▸ hr)
 have HL:LCK tb ex exY A σ0 h0 σf/\LCK tb ex exY B σm h2 σf:=by
  refine ⟨fun s b t e k0 σ1 h1 hs=>?_,wLa ZZ.low⟩
  have:=HL0 s b (t ++ B) (by rw [ZZ.eq,e];simp) k0 σ1 h1 hs
  exact wIf t B 0 this
 have Hg:∀ a ∈ A,8 <= a.kd->∀ p,p ∈ wCO a \/ a.dst=some p->evA σm (.t p)=evA σf (.t p):=fun a ha h8 p hp=>(wDH B _ _ _ _ hrB p fun b hb=>ZZ.far a ha h8 p hp b hb).symm
 have lt:∀ b ∈ os,b.ix < l.length:=fun b hb=>by
  rw [ZZ.eq] at hb
  rcases nM.1 hb with hb | hb
  ·obtain ⟨o,A⟩:=wDT (ZZ.za.ao b hb)
   exact (nq.1 A.get).1
  ·obtain ⟨o,A⟩:=wDT (ZZ.zb.ao b hb)
   exact (nq.1 A.get).1
 have stepB:∀ (S1:Nat->Bool) (a:AO) (σ1:Env) (w1:World) (μm:Mu) (wm:World) (s t:List AO) (σA:Tr AV) (h:AH) (σ':Env) (μ1 μS:Mu) (o:Oper),a ∈ B->S1 a.ix=false->(∀ j ∈ prI l a.ix,S1 j=true)->(∀ k,k < l.length->S1 k=true->∀ j ∈ prI l k,S1 j=true)->AOK P N l a o ->
   JS tb ex exY P l B σm h2 σf hf μm wm S1 σ1 w1 s t σA h σ' μ1 μS->Step1 P l o σ1 w1 fun v w'=>∃ s t σA h σ' μ1 μS,JS tb ex exY P l B σm h2 σf hf μm wm (fun k=>k == a.ix || S1 k) (put' σ1 o v) w' s t σA h σ' μ1 μS:=by
  intro S1 a σ1 w1 μm wm s t σA h σ' μ1 μS o ha hSi hpi hdc A J
  have hat:a ∈ t:=by
   have:=ha
   rw [J.e] at this
   rcases nM.1 this with h | h
   ·rw [J.inS a h] at hSi;cases hSi
   ·exact h
  cases hf:wCD a.kd with
  | true =>
   obtain ⟨r,r',et⟩:=nc hat
   rw [et] at J
   obtain ⟨σB,hB,σ'',μB,J1⟩:=JS.catch ZZ.zb r J fun b hb=>wEQ hdc hpi (ZZ.zb.anc (s ++ r) a r' (by rw [J.e,nG]) hf b (by simp [hb]))
   refine (J1.fixed HC HY' HE HY ZZ.zb hf hSi hdc A).mono ?_
   rintro v w' ⟨σC,hC,σ3,μC,μT,J2⟩
   exact ⟨_,_,_,_,_,_,_,J2⟩
  | false =>
   refine (J.freeOp HE HY ZZ.zb HL.2 (fun _ _ _ _ _=>rfl) hat hSi hf hpi hdc A).mono ?_
   rintro v w' ⟨μT,J2⟩
   exact ⟨_,_,_,_,_,_,_,J2⟩
 have toB:∀ (S1:Nat->Bool) (σ1:Env) (w1:World) (s t:List AO) (σA:Tr AV) (h:AH) (σ':Env) (μ1 μS:Mu),(∀ a ∈ A,S1 a.ix=true)->(∀ b ∈ B,S1 b.ix=false)->JS tb ex exY P l A σ0 h0 σm h2 μ w S1 σ1 w1 s t σA h σ' μ1 μS ->
   ∃ μm σ',Ext μ h0.fl.nat w μm w1/\h2.fl=h0.fl/\JS tb ex exY P l B σm h2 σf hf μm w1 S1 σ1 w1 [] B σm h2 σ' μm μm:=by
  intro S1 σ1 w1 s t σA h σ' μ1 μS hA hB J
  have J0:JS tb ex exY P l A σ0 h0 σm h2 μ w S1 σ1 w1 s (t ++ []) σA h σ' μ1 μS:=by rw [nr];exact J
  obtain ⟨σB,hB',σ'',μB,J1⟩:=JS.catch ZZ.za t J0 fun b hb=>hA b (by rw [J.e];simp [hb])
  obtain ⟨g1,g2,g3⟩:=J1.anew hrB hB
  exact ⟨μB,σ'',g1,g2,g3⟩
 refine CK.anyRel hm ZZ.za.pr (fun S σ w1=>((∀ b ∈ B,S b.ix=false)/\∃ s t σA h σ' μ1 μS,JS tb ex exY P l A σ0 h0 σm h2 μ w S σ w1 s t σA h σ' μ1 μS) \/
  ((∀ a ∈ A,S a.ix=true)/\∃ μm wm,Ext μ h0.fl.nat w μm wm/\h2.fl=h0.fl/\∃ s t σA h σ' μ1 μS,JS tb ex exY P l B σm h2 σf hf μm wm S σ w1 s t σA h σ' μ1 μS)) ?_ ?_ ?_
 ·exact .inl ⟨fun b _=>rfl,[],A,σ0,h0,σ,μ,μ,rfl,wAy _ _ _ _ _,hrA,fun b hb=>(by simp at hb),fun b _ hb=>(by cases hb),Ext.drew μ _ w,S.keep (Keep.drew w),rfl,hE,fun _ _=>rfl,Mu.Le.refl _,fun q c hq=>.inl hq,fun b _ hb=>(by cases hb)⟩
 ·rintro S1 i σ1 w1 hi hSi hpi hdc hlt hI
  obtain ⟨a,ha,rfl⟩:=ZZ.all i hi
  rw [ZZ.eq] at ha
  rcases nM.1 ha with ha | ha
  ·obtain ⟨o,AK⟩:=wDT (ZZ.za.ao a ha)
   refine ⟨o,AK.get,wIG AK,?_⟩
   rcases hI with ⟨hB,s,t,σA,h,σ',μ1,μS,J⟩ | ⟨hA,_⟩
   ·have hB':∀ b ∈ B,(fun k=>k == a.ix || S1 k) b.ix=false:=fun b hb=>by
     have:=(ZZ.cross b hb a ha).1
     simp [hB b hb,Ne.symm this]
    have hat:a ∈ t:=by
     have:=ha
     rw [J.e] at this
     rcases nM.1 this with h | h
     ·rw [J.inS a h] at hSi;cases hSi
     ·exact h
    cases hf:wCD a.kd with
    | true =>
     obtain ⟨r,r',et⟩:=nc hat
     rw [et] at J
     obtain ⟨σB,hB2,σ'',μB,J1⟩:=JS.catch ZZ.za r J fun b hb=>wEQ hdc hpi (ZZ.za.anc (s ++ r) a r' (by rw [J.e,nG]) hf b (by simp [hb]))
     refine (J1.fixed HC HY' HE HY ZZ.za hf hSi hdc AK).mono ?_
     rintro v w' ⟨σC,hC,σ3,μC,μT,J2⟩
     exact .inl ⟨hB',_,_,_,_,_,_,_,J2⟩
    | false =>
     refine (J.freeOp HE HY ZZ.za HL.1 Hg hat hSi hf hpi hdc AK).mono ?_
     rintro v w' ⟨μT,J2⟩
     exact .inl ⟨hB',_,_,_,_,_,_,_,J2⟩
   ·rw [hA a ha] at hSi
    cases hSi
  ·obtain ⟨o,AK⟩:=wDT (ZZ.zb.ao a ha)
   refine ⟨o,AK.get,wIG AK,?_⟩
   have hA:∀ c ∈ A,S1 c.ix=true:=fun c hc=>wEQ hdc hpi (ZZ.cross a ha c hc).2
   rcases hI with ⟨hB,s,t,σA,h,σ',μ1,μS,J⟩ | ⟨_,μm,wm,g1,g2,s,t,σA,h,σ',μ1,μS,J⟩
   ·obtain ⟨μm,σ2,g1,g2,J1⟩:=toB S1 σ1 w1 s t σA h σ' μ1 μS hA hB J
    refine (stepB S1 a σ1 w1 _ _ _ _ _ _ _ _ _ o ha hSi hpi hdc AK J1).mono ?_
    rintro v w' ⟨s,t,σA,h,σ',μ1,μS,J2⟩
    exact .inr ⟨fun c hc=>by simp [hA c hc],_,_,g1,g2,_,_,_,_,_,_,_,J2⟩
   ·refine (stepB S1 a σ1 w1 _ _ _ _ _ _ _ _ _ o ha hSi hpi hdc AK J).mono ?_
    rintro v w' ⟨s,t,σA,h,σ',μ1,μS,J2⟩
    exact .inr ⟨fun c hc=>by simp [hA c hc],_,_,g1,g2,_,_,_,_,_,_,_,J2⟩
 ·rintro S1 σ1 w1 hall hI
  have hI2:∃ μm wm,Ext μ h0.fl.nat w μm wm/\h2.fl=h0.fl/\∃ s t σA h σ' μ1 μS,JS tb ex exY P l B σm h2 σf hf μm wm S1 σ1 w1 s t σA h σ' μ1 μS:=by
   rcases hI with ⟨hB,s,t,σA,h,σ',μ1,μS,J⟩ | ⟨_,hI⟩
   ·obtain ⟨μm,σ2,g1,g2,J1⟩:=toB S1 σ1 w1 s t σA h σ' μ1 μS (fun a ha=>hall _ (lt a (by rw [ZZ.eq];simp [ha]))) hB J
    exact ⟨_,_,g1,g2,_,_,_,_,_,_,_,J1⟩
   ·exact hI
  obtain ⟨μm,wm,g1,g2,s,t,σA,h,σ',μ1,μS,J⟩:=hI2
  have J0:JS tb ex exY P l B σm h2 σf hf μm wm S1 σ1 w1 s (t ++ []) σA h σ' μ1 μS:=by rw [nr];exact J
  obtain ⟨σB,hB,σ'',μB,J1⟩:=JS.catch ZZ.zb t J0 fun b hb=>hall _ (lt b (by rw [ZZ.eq,J.e];simp [hb]))
  have hr1:=J1.hr
  rw [wAy] at hr1
  cases hr1
  refine hQ μB w1 σ1 (g1.trans (g2 ▸ J1.E)) J1.sim (fun q=>?_) (J1.fl.trans g2)
  rw [J1.ag q fun b hb=>by simp at hb]
  exact J1.env q
end
end Go.KX
namespace Go.KX
open Go.RowKit Go.KL
section
variable {P:Program} {tb:Tr AF}
theorem wOU (hm:P.follows .mixedOrders=true) {ex exY:Run} (HC:wGW (CC P) P tb ex) (HY:wFT (CC P) P exY) (FE:FrX ex) (FY:FrX exY) {os:List AO} {σA σA':Tr AV} {h h':AH} (hr:wAk tb ex exY os σA h=some (σA',h')) {id N:Nat} {ops:Array Oper} {draw:Bool} (hc:chkR P N os ops.toList draw=true)
  {rr:Option Nat} {μ:Mu} {σ:Env} {w:World} {D:List Deferred} {n0:Nat} (S:Sim (CC P) P μ h w) (hE:EnvR μ σA σ) (M:Mk μ w n0 D):CK rr N P (.region id ops draw) (PostX P μ h.fl w n0 rr D .nrm σA' h') D σ w:=by
 unfold chkR at hc
 simp only [nE,nf] at hc
 obtain ⟨c1,c2⟩:=hc
 have hop:ops=ops.toList.toArray:=by simp
 have hcs:∀ a ∈ os,wHI P N ops.toList a=true/\kOf ((nv ops.toList.length).map fun i=>kdAt i os) a.ix=a.kd:=fun a ha=>⟨(c1 a ha).1,nD (c1 a ha).2⟩
 have post:∀ {w0:World},Ext μ h.fl.nat w μ w0->Sim (CC P) P μ h w0->OKS N P ops.toList (PostX P μ h.fl w n0 rr D .nrm σA' h') D ((nv ops.toList.length).map fun i=>kdAt i os) (wJU os) σ w0:=by
  intro w0 E0 S0
  refine wJV HC HY os σA h σA' h' hr hcs μ σ w0 S0 hE fun μ' w' σ' q1 q2 q3 q4=>?_
  have E:=E0.trans q1
  exact ⟨rfl,μ',E,q2,q3,M.ext E,q4,fun _=>rfl⟩
 rw [hop]
 cases draw with
 | true =>
  simp only at c2
  split at c2
  ·simp only [nE,nf,kH] at c2
   exact CK.lazy hm HC HY FE FY (wOH (fun a ha=>(c1 a ha).1) c2.2) (wLa c2.1) hr S hE fun μ' w' σ' q1 q2 q3 q4=>⟨rfl,μ',q1,q2,q3,M.ext q1,q4,fun _=>rfl⟩
  ·exact CK.anyOrd hm _ _ c2 (post (Ext.drew μ _ w) (S.keep (Keep.drew w)))
 | false=>exact CK.reg _ c2 (post (Ext.refl μ _ w) S)
theorem wPZ {ex:Run} (HC:wGW (CC P) P tb ex) {g:AOd} {t:List Pos} {asg body:AC} {g':Operand} {ps:Array Tmp} {asg' body':Code} {N:Nat} (hc:wFr P N (.rf g t asg body) (.rangeFunc g' ps asg' body')=true)
  {σA σA':Tr AV} {h h':AH} {e:Ex} (hr:sRf true g t asg body tb ex σA h=some (e,σA',h')) {μ:Mu} {σ:Env} {w:World} {D:List Deferred} {n0:Nat} (S:Sim (CC P) P μ h w) (hE:EnvR μ σA σ) (M:Mk μ w n0 D) (hn:n0 <= w.heap.size) :
  CK none N P (.rangeFunc g' ps asg' body') (PostX P μ h.fl w n0 none D e σA' h') D σ w:=by
 simp only [wFr,nE] at hc
 obtain ⟨c1,c2,c3,c4⟩:=hc
 obtain ⟨p,rfl⟩:∃ p:List Nat,ps=p.toArray:=⟨ps.toList,by simp⟩
 ·obtain ⟨ht,c6⟩:=wLb (by simpa using c2)
  unfold sRf at hr
  split at hr
  ·rename_i f fi ca hg
   have hx:=wAR c1 hE
   rw [hg] at hx
   obtain ⟨fv,cv,g1,g2,g3⟩:=hx
   split at hr <;> first | (cases hr;done) | skip
   rename_i rv h2 hcall
   obtain ⟨hcf,hgv⟩:=HC _ _ _ _ _ hcall
   refine CK.rangeFunc (t:=p) g3 hcf fun fn l rb w1 e1 e2 hl hd K hs=>?_
   subst e1 e2
   have hle:=Mu.add_le (c:=(⟨w.heap.size + 1,0,⟨N,σ,p,asg',body',w.heap.size,fn⟩⟩:Cl)) (S.nx h.nx (nK _))
   obtain ⟨s1,s2,s3,s4⟩:=S.push (w':=w1) (c:=⟨w.heap.size + 1,0,⟨N,σ,p,asg',body',w.heap.size,fn⟩⟩) (B:=.loop σA t asg body .ready) K (Nat.le_succ _) (by show w.heap.size + 1 < _;omega) ⟨hl,hE.mono hle,ht,c6,c3,c4⟩
   generalize hμ1:μ.add h.nx (⟨w.heap.size + 1,0,⟨N,σ,p,asg',body',w.heap.size,fn⟩⟩:Cl)=μ1 at *
   have M1:Mk μ1 w1 n0 (mark w.heap.size :: D):=by
    have M':=M.ext s2
    obtain ⟨rbs,m1,m2,m3⟩:=M'
    have hold:∀ rb ∈ rbs,rb < w.heap.size:=by
     obtain ⟨rbs0,k1,k2,k3⟩:=M
     intro rb hrb
     have hmm:rbs.map mark=rbs0.map mark:=by rw [<- m1,<- k1]
     have hinj:rbs=rbs0:=by
      have:∀ (a b:List Nat),a.map mark=b.map mark->a=b:=by
       intro a
       induction a with
       | nil=>intro b hb;cases b with
        | nil=>rfl
        | cons _ _=>simp at hb
       | cons x a ih=>intro b hb;cases b with
        | nil=>simp at hb
        | cons y b =>
         simp only [kv,nj] at hb
         have hxy:x=y:=by have:=hb.1;simp [mark] at this;exact this
         rw [hxy,ih b hb.2]
      exact this _ _ hmm
     exact (k3 rb (hinj ▸ hrb)).1.lt
    refine ⟨w.heap.size :: rbs,by rw [kv,<- m1],List.nodup_cons.2 ⟨fun hm=>absurd (hold _ hm) (kx _),m2⟩,fun rb hrb=>?_⟩
    rcases nJ.1 hrb with rfl | hrb
    ·refine ⟨hd,hn,fun q c hq=>?_⟩
     rw [<- hμ1] at hq
     unfold Mu.add at hq
     split at hq
     ·cases hq;show w.heap.size + 1 ≠ _;omega
     ·have:=S.lt q c hq;omega
    ·exact m3 rb hrb
   have G:=hgv μ1 w1 (fv ++ (.func (.yield (w.heap.size + 1)) #[] #[] :: cv)) s1 (wEN (g1.mono s2.mono) (wBU ⟨_,s4,rfl⟩ (g2.mono s2.mono)))
   rw [nG]
   refine G.mono ?_
   rintro v3 w3 ⟨μ3,q1,q2,q3,q4⟩
   rw [s3] at q1 q4
   have E13:=s2.trans q1
   have hc3:=q1.mono _ _ s4
   have fin:∀ {B:AB} {h3:AH} (w4:World),h2.m.get h.nx=some B->wMQ B->h2.put h.nx .dead=some h3->Keep w3 w4 (·=w.heap.size + 1)->w4.heap.size=w3.heap.size->∃ μ',Ext μ h.fl.nat w μ' w4/\Sim (CC P) P μ' h3 w4/\EnvR μ' σA σ/\Mk μ' w4 n0 (mark w.heap.size :: D)/\h3.fl=h.fl:=by
    intro B h3 w4 hB hlv hput K4 _
    obtain ⟨v1,v2,v3⟩:=q2.put hput hB hlv hc3 K4 (B':=.dead) trivial
    rw [q4] at v2 v3
    exact ⟨μ3,E13.trans v2,v1,hE.mono E13.mono,(M1.ext q1).ext v2,v3⟩
   split at hr
   ·rename_i sx tx ax bx hB
    split at hr <;> first | (cases hr;done) | skip
    rename_i h3 hput
    cases hr
    obtain ⟨c',u1,u2⟩:=q2.at_ _ _ hB
    rw [hc3] at u1;cases u1
    have L3:wMP (CC P) μ3 w3 ⟨w.heap.size + 1,0,⟨N,σ,p,asg',body',w.heap.size,fn⟩⟩ sx tx ax bx .ready:=u2
    refine .inl ⟨L3.at_,fun w4 K4 hs4=>?_⟩
    obtain ⟨μ',a1,a2,a3,a4,a5⟩:=fin w4 hB trivial hput K4 hs4
    exact ⟨rfl,μ',a1,a2,a3,a4,a5,fun hq=>by cases hq⟩
   ·rename_i sx tx ax bx ee hB
    split at hr <;> first | (cases hr;done) | skip
    rename_i h3 hput
    cases hr
    obtain ⟨c',u1,u2⟩:=q2.at_ _ _ hB
    rw [hc3] at u1;cases u1
    have L3:wMP (CC P) μ3 w3 ⟨w.heap.size + 1,0,⟨N,σ,p,asg',body',w.heap.size,fn⟩⟩ sx tx ax bx (.done e):=u2
    cases e with
    | nrm =>
     refine .inl ⟨L3.at_,fun w4 K4 hs4=>?_⟩
     obtain ⟨μ',a1,a2,a3,a4,a5⟩:=fin w4 hB trivial hput K4 hs4
     exact ⟨rfl,μ',a1,a2,a3,a4,a5,fun hq=>by cases hq⟩
    | ret =>
     refine .inr ⟨.ret,.inl rfl,L3.at_,fun w4 K4 hs4=>?_⟩
     obtain ⟨μ',a1,a2,a3,a4,a5⟩:=fin w4 hB trivial hput K4 hs4
     exact ⟨rfl,μ',a1,a2,a3,a4,a5,fun hq=>by cases hq⟩
    | exit i =>
     refine .inr ⟨.exit i,.inr ⟨i,rfl⟩,L3.at_,fun w4 K4 hs4=>?_⟩
     obtain ⟨μ',a1,a2,a3,a4,a5⟩:=fin w4 hB trivial hput K4 hs4
     exact ⟨rfl,μ',a1,a2,a3,a4,a5,fun hq=>by cases hq⟩
   ·cases hr
  ·cases hr
theorem CK.ofRounds {rr:Option Nat} {N:Nat} {c:Code} {Q:wDg} {D:List Deferred} {σ:Env} {w:World} (m:Nat) (hh:∀ a,Rep N D a σ->Code.roundsIn (WF rr) 0 P c (wIO N Q) m a w):CK rr N P (.loop c) Q D σ w :=
 fun a ha=>wpIn_loop_rounds m (hh a ha)
theorem wSu {exR:Run} {r:Bool} (HE:wJW P exR r) {a b:AC} {σA σA':Tr AV} {h h':AH} {e:Ex} (hr:wSR a b exR σA h=some (e,σA',h')) {c d:Code} {N:Nat} (hc1:wFr P N a c=true) (hc2:wFr P N b d=true)
  {rr:Option Nat} {μ:Mu} {σ:Env} {w:World} {D:List Deferred} {n0:Nat} (hrr:rr.isSome=r) (S:Sim (CC P) P μ h w) (hE:EnvR μ σA σ) (M:Mk μ w n0 D) (hn:n0 <= w.heap.size):CK rr N P (.seq c d) (PostX P μ h.fl w n0 rr D e σA' h') D σ w:=by
 obtain ⟨⟨e1,σ1,h1⟩,ha,hb⟩:=wSE hr
 rw [wKj] at hb
 refine CK.seq ((HE _ _ _ _ _ _ ha c N hc1 rr μ σ w D n0 hrr S hE M hn).mono ?_)
 intro D' e' σ' w' hp
 obtain ⟨rfl,μ1,q1,q2,q3,q4,q5,q6⟩:=hp
 cases e1 with
 | nrm =>
  refine (HE _ _ _ _ _ _ hb d N hc2 rr μ1 σ' w' D' n0 hrr q2 q3 q4 (kW hn q1.keep.size)).mono ?_
  intro D'' e'' σ'' w'' hp
  rw [q5] at hp
  exact PostX.trans q1 q6 hp
 | ret=>cases hb;exact ⟨rfl,μ1,q1,q2,q3,q4,q5,q6⟩
 | exit i=>cases hb;exact ⟨rfl,μ1,q1,q2,q3,q4,q5,q6⟩
theorem wRU {exR:Run} {r:Bool} {m:Nat} (HE:wJW P exR r) (HL:wOI P exR r m) {a:AC} {σA σA':Tr AV} {h h':AH} {e:Ex} (hr:wNc a exR σA h=some (e,σA',h')) {c:Code} {N:Nat} (hc:wFr P N a c=true)
  {rr:Option Nat} {μ:Mu} {σ:Env} {w:World} {D:List Deferred} {n0:Nat} (hrr:rr.isSome=r) (S:Sim (CC P) P μ h w) (hE:EnvR μ σA σ) (M:Mk μ w n0 D) (hn:n0 <= w.heap.size):∀ act,Rep N D act σ->Code.roundsIn (WF rr) 0 P c (wIO N (PostX P μ h.fl w n0 rr D e σA' h')) (m + 1) act w:=by
 obtain ⟨⟨e1,σ1,h1⟩,ha,hb⟩:=wSE hr
 rw [wKj] at hb
 intro act hact
 rw [roundsIn_succ]
 refine wpIn_mono (HE _ _ _ _ _ _ ha c N hc rr μ σ w D n0 hrr S hE M hn act hact) ?_
 rintro e' act' w' ⟨σ',D',hrep,hp⟩
 obtain ⟨rfl,μ1,q1,q2,q3,q4,q5,q6⟩:=hp
 cases e1 with
 | nrm =>
  refine wHL ?_ m act' w' (HL _ _ _ _ _ _ hb c N hc rr μ1 σ' w' D' n0 hrr q2 q3 q4 (kW hn q1.keep.size) act' hrep)
  rintro e'' act'' w'' ⟨σ'',D'',hrep',hp⟩
  rw [q5] at hp
  exact ⟨σ'',D'',hrep',PostX.trans q1 q6 hp⟩
 | ret=>cases hb;exact ⟨σ',D',hrep,rfl,μ1,q1,q2,q3,q4,q5,q6⟩
 | exit i=>cases hb;exact ⟨σ',D',hrep,rfl,μ1,q1,q2,q3,q4,q5,q6⟩
theorem wRV (hm:P.follows .mixedOrders=true) (T:wMX P tb):∀ (n:Nat) (r:Bool),wJW P (exec tb n r) r/\wOI P (exec tb n r) r n:=by
 intro n
 induction n with
 | zero=>intro r;exact ⟨fun c σA h e σA' h' hr=>(by cases hr),fun c σA h e σA' h' hr=>(by cases hr)⟩
 | succ n ih =>
  intro r
  have HC:=wOJ T (ih false).1
  have HY:=wPW (P:=P) (ih true).1
  obtain ⟨HE,HL⟩:=ih r
  have loop:wOI P (exec tb (n + 1) r) r (n + 1):=by
   intro c σA h e σA' h' hr code N hc rr μ σ w D n0 hrr S hE M hn
   have hr:wNc c (exec tb n r) σA h=some (e,σA',h'):=hr
   exact wRU HE HL hr hc hrr S hE M hn
  refine ⟨?_,loop⟩
  intro c σA h e σA' h' hr code N hc rr μ σ w D n0 hrr S hE M hn
  rw [wJN] at hr
  cases c with
  | skip =>
   have hr:sNrm σA h=some (e,σA',h'):=hr
   cases hr
   have fin:PostX P μ h.fl w n0 rr D .nrm σA h D .normal σ w:=⟨rfl,μ,Ext.refl μ _ w,S,hE,M,rfl,fun _=>rfl⟩
   cases code <;> simp only [wFr,nH] at hc
   ·exact CK.skip fin
   ·exact CK.label fin
  | rg os =>
   have hr:sRg os tb (exec tb n false) (exec tb n true) (exec tb n r) σA h=some (e,σA',h'):=hr
   unfold sRg at hr
   have:∃ y,wAk tb (exec tb n false) (exec tb n true) os σA h=some y/\some (Ex.nrm,y.1,y.2)=some (e,σA',h'):=by
    cases hq:wAk tb (exec tb n false) (exec tb n true) os σA h with
    | none=>rw [hq] at hr;cases hr
    | some y=>rw [hq] at hr;exact ⟨y,rfl,hr⟩
   obtain ⟨y,h1,h2⟩:=this
   cases h2
   cases code <;> simp only [wFr,nH] at hc
   exact wOU hm HC HY (wFV tb n false) (wFV tb n true) h1 hc S hE M
  | seq a b =>
   have hr:wSR a b (exec tb n r) σA h=some (e,σA',h'):=hr
   cases code <;> simp only [wFr,nH,nE] at hc
   exact wSu HE hr hc.1 hc.2 hrr S hE M hn
  | cond x a b =>
   have hr:wNb x a b (exec tb n r) σA h=some (e,σA',h'):=hr
   cases code <;> simp only [wFr,nH,nE] at hc
   have hx:=wAR hc.1 hE
   unfold wNb at hr
   split at hr
   ·rename_i hb;rw [hb] at hx
    exact CK.condT hx (HE _ _ _ _ _ _ hr _ N hc.2.1 rr μ σ w D n0 hrr S hE M hn)
   ·rename_i hb;rw [hb] at hx
    exact CK.condF hx (HE _ _ _ _ _ _ hr _ N hc.2.2 rr μ σ w D n0 hrr S hE M hn)
   ·cases hr
  | block i a =>
   have hr:wLP i a (exec tb n r) σA h=some (e,σA',h'):=hr
   cases code <;> simp only [wFr,nH,nE] at hc
   rename_i j code
   have hij:=nD hc.1
   subst hij
   obtain ⟨⟨e1,σ1,h1⟩,ha,hb⟩:=wSE hr
   refine CK.block ((HE _ _ _ _ _ _ ha code N hc.2 rr μ σ w D n0 hrr S hE M hn).mono ?_)
   rintro D' e' σ' w' ⟨rfl,μ1,q1,q2,q3,q4,q5,q6⟩
   cases e1 with
   | nrm=>cases hb;exact ⟨rfl,μ1,q1,q2,q3,q4,q5,q6⟩
   | ret=>cases hb;exact ⟨rfl,μ1,q1,q2,q3,q4,q5,q6⟩
   | exit k =>
    have hb:Bool.rec (motive:=fun _=>R) (some (.exit k,σ1,h1)) (some (.nrm,σ1,h1)) (nX k i)=some (e,σA',h'):=hb
    cases hk:nX k i with
    | true =>
     rw [hk] at hb;cases hb
     have:=nD hk
     subst this
     exact wIQ ⟨rfl,μ1,q1,q2,q3,q4,q5,q6⟩
    | false =>
     rw [hk] at hb;cases hb
     exact wLJ ⟨rfl,μ1,q1,q2,q3,q4,q5,q6⟩ hk
  | loop a =>
   have hr':exec tb (n + 1) r (.loop a) σA h=some (e,σA',h'):=hr
   cases code <;> simp only [wFr,nH] at hc
   exact CK.ofRounds (n + 1) (loop _ _ _ _ _ _ hr' _ N hc rr μ σ w D n0 hrr S hE M hn)
  | rf g t asg body =>
   have hr:sRf (!r) g t asg body tb (exec tb n false) σA h=some (e,σA',h'):=hr
   cases r with
   | true=>unfold sRf at hr;simp at hr
   | false =>
    have hnone:rr=none:=by cases rr <;> first | rfl | cases hrr
    subst hnone
    cases code <;> first | (simp only [wFr,nH] at hc;done) | skip
    exact wPZ HC hc hr S hE M hn
  | exit i =>
   have hr:some (Ex.exit i,σA,h)=some (e,σA',h'):=hr
   cases hr
   cases code <;> simp only [wFr,nH] at hc
   have:=nD hc
   subst this
   exact CK.exit ⟨rfl,μ,Ext.refl μ _ w,S,hE,M,rfl,fun _=>rfl⟩
  | scope a =>
   have hr:exec tb n r a σA h=some (e,σA',h'):=hr
   cases code <;> simp only [wFr,nH] at hc
   refine CK.scope ((HE _ _ _ _ _ _ hr _ N hc rr μ σ w D n0 hrr S hE M hn).mono ?_)
   rintro D' e' σ' w' ⟨rfl,q⟩
   cases e with
   | nrm=>exact ⟨rfl,q⟩
   | ret=>exact ⟨rfl,q⟩
   | exit k=>exact ⟨rfl,q⟩
  | ret =>
   have hr:some (Ex.ret,σA,h)=some (e,σA',h'):=hr
   cases hr
   cases code <;> simp only [wFr,nH] at hc
   exact CK.ret ⟨rfl,μ,Ext.refl μ _ w,S,hE,M,rfl,fun _=>rfl⟩
  | rl os =>
   have hr:sRl os tb (exec tb n false) (exec tb n true) σA h=some (e,σA',h'):=hr
   rw [wQF] at hr
   split at hr
   ·rename_i y hq
    cases hr
    obtain ⟨g1,g2⟩:=wKh _ _ _ _ hq
    cases code <;> simp only [wFr,nH,nE,nf] at hc
    rename_i id ops draw
    obtain ⟨rfl,c1,c2⟩:=hc
    have hop:ops=ops.toList.toArray:=by simp
    rw [hop]
    exact CK.lazy hm HC HY (wFV tb n false) (wFV tb n true) (wOH c1 c2) g2 g1 S hE fun μ' w' σ' q1 q2 q3 q4=>⟨rfl,μ',q1,q2,q3,M.ext q1,q4,fun _=>rfl⟩
   ·cases hr
theorem Sim.empty (C:Chk) (P:Program) (w:World):Sim C P (fun _=>none) ⟨.e,.H,.H⟩ w :=
 ⟨fun _ _=>rfl,fun _ _ h=>(by cases h),fun _ _ _ _ _ _ h=>(by rw [Tr.get_e] at h;cases h),fun _ _ h=>(by rw [Tr.get_e] at h;cases h)⟩
theorem wMa (hm:P.follows .mixedOrders=true) (T:wMX P tb) (n:Nat) (f:Pos) (args:List AV) (vs:List Value) (v:AV) (h:AH) (hv:∀ μ,RvL μ args vs) (hr:wJK tb (exec tb n false) f args ⟨.e,.H,.H⟩=some (v,h)) (w:World) :
  Gv P (f.nat - 1) vs w fun cv w'=>∃ μ,Rv μ v cv/\Keep w w' Non:=by
 obtain ⟨_,hg⟩:=wOJ T (wRV hm T n false).1 f args _ v h hr
 refine (hg _ w vs (Sim.empty _ _ w) (hv _)).mono ?_
 rintro cv w' ⟨μ',h1,h2,h3,_⟩
 exact ⟨μ',h3,h1.keep.weak fun i _ ⟨p,d,hp,_⟩=>by cases hp⟩
noncomputable def okB (tb:Tr AF) (n:Nat) (f:Pos) (b:Bool):Bool:=match wJK tb (exec tb n false) f [] ⟨.e,.H,.H⟩ with
 | some (.bool b',_)=>b' == b
 | _=>false
theorem wPa (hm:P.follows .mixedOrders=true) (T:wMX P tb) (n:Nat) (f:Pos) (k:Nat) (hk:f.nat=k + 1) (b:Bool) (hr:okB tb n f b=true) (w:World):Gv P k [] w fun cv w'=>cv=.bool b/\Keep w w' Non:=by
 unfold okB at hr
 split at hr
 ·rename_i b' h hq
  have hb:=eq_of_beq hr
  subst hb
  have:=wMa hm T n f [] [] _ h (fun _=>rfl) hq w
  rw [hk] at this
  refine this.mono ?_
  rintro cv w' ⟨μ,h1,h2⟩
  exact ⟨h1,h2⟩
 ·cases hr
def wOV (f:Nat->AF->Prop):Tr AF->(Nat->Nat)->Prop
 | .e,_=>True
 | .n l v r,g=>(match v with | none=>True | some a=>f (g 1) a)/\wOV f l (fun n=>g (2 * n))/\wOV f r (fun n=>g (2 * n + 1))
theorem wHP {f:Nat->AF->Prop}:∀ {t:Tr AF} {g:Nat->Nat},wOV f t g->∀ p a,t.get p=some a->f (g p.nat) a
 | .e,g,_,p,a,hq=>by rw [Tr.get_e] at hq;cases hq
 | .n l v r,g,⟨h1,h2,h3⟩,.H,a,hq=>by
  rw [Tr.get_H] at hq;subst hq;exact h1
 | .n l v r,g,⟨h1,h2,h3⟩,.O p,a,hq=>wHP h2 p a hq
 | .n l v r,g,⟨h1,h2,h3⟩,.I p,a,hq=>wHP h3 p a hq
theorem wSv (h:wOV (fun n a=>chkF P (n - 1) a=true) tb fun n=>n):wMX P tb:=fun p af hq=>wHP h p af hq
end
end Go.KX
namespace Go.KL
variable {S S' B B' α:Type}
theorem wLj {body:Nat->S->Option (S ⊕ B)} (I:Nat->S->Prop) (Z:B->Prop):∀ (m k:Nat) (s:S),I k s ->
  (∀ i s,k <= i->i < k + m->I i s->(∃ s',body i s=some (.inl s')/\I (i + 1) s') \/ ∃ b,body i s=some (.inr b)/\Z b) ->
  (∃ s',forN body m k s=some (.inl s')/\I (k + m) s') \/ ∃ b,forN body m k s=some (.inr b)/\Z b
 | 0,k,s,h,_=>.inl ⟨s,rfl,h⟩
 | m + 1,k,s,h,hb=>by
  simp only [forN]
  rcases hb k s (nK _) (by omega) h with ⟨s',h1,h2⟩ | ⟨b,h1,h2⟩
  ·rw [h1]
   have:=wLj I Z m (k + 1) s' h2 fun i s h2 h3 h4=>hb i s (by omega) (by omega) h4
   rwa [show k + 1 + m=k + (m + 1) from by omega] at this
  ·rw [h1];exact .inr ⟨b,rfl,h2⟩
theorem wEI {body:Nat->S->Option S} (I:Nat->S->Prop):∀ (m k:Nat) (s:S),I k s ->
  (∀ i s,k <= i->i < k + m->I i s->∃ s',body i s=some s'/\I (i + 1) s')->∃ s',forN' body m k s=some s'/\I (k + m) s'
 | 0,k,s,h,_=>⟨s,rfl,h⟩
 | m + 1,k,s,h,hb=>by
  simp only [forN']
  obtain ⟨s',h1,h2⟩:=hb k s (nK _) (by omega) h
  rw [h1]
  have:=wEI I m (k + 1) s' h2 fun i s h2 h3 h4=>hb i s (by omega) (by omega) h4
  rwa [show k + 1 + m=k + (m + 1) from by omega] at this
theorem wDb {body:Nat->S->Option (S ⊕ B)} {n:Nat} {s:S} (hn:n <= 9223372036854775807):wFI 0 (n:Int) body s=forN body n 0 s:=by
 unfold wFI
 rw [if_pos (by omega),show ((n:Int) - 0).toNat=n from by omega]
theorem wEJ {body:Nat->S->Option S} {n:Nat} {s:S} (hn:n <= 9223372036854775807):wCg 0 (n:Int) body s=forN' body n 0 s:=by
 unfold wCg
 rw [if_pos (by omega),show ((n:Int) - 0).toNat=n from by omega]
def first (p:α->Bool):List α->Nat->Int
 | [],_=>-1
 | a :: l,k=>if p a then (k:Int) else first p l (k + 1)
theorem wJd (p:α->Bool):∀ (l:List α) (k:Nat),decide (0 <= first p l k)=l.any p
 | [],k=>by simp [first]
 | a :: l,k=>by
  rw [first,List.any_cons]
  by_cases h:p a
  ·simp [h]
  ·simp [h,wJd p l (k + 1)]
theorem wMb {R:Type} {l:List α} {f:α->Option Bool} {p:α->Bool} (hf:∀ a ∈ l,f a=some (p a)) (hn:l.length <= 9223372036854775807) (z:Int->R) :
  (jn (wFI 0 (↑l.length:Int) (fun k2 (_:Unit)=>(idx l (↑k2:Int)).bind fun x=>(f x).bind fun y=>if y=true then esc (some (z (↑k2:Int))) else some (.inl ())) ()) fun _=>some (z (-1)))=some (z (first p l 0)):=by
 rw [wDb hn]
 have key:∀ (m k:Nat),k + m=l.length->(jn (forN (fun k2 (_:Unit)=>(idx l (↑k2:Int)).bind fun x=>(f x).bind fun y=>if y=true then esc (some (z (↑k2:Int))) else some (.inl ())) m k ()) fun _=>some (z (-1)))=some (z (first p (l.drop k) k)):=by
  intro m
  induction m with
  | zero=>intro k hk;rw [kq (by omega)];rfl
  | succ m ih =>
   intro k hk
   have hlt:k < l.length:=by omega
   rw [kK hlt,first,forN,wKC,nt hlt]
   simp only [nA,hf _ (List.getElem_mem hlt)]
   by_cases h:p l[k]=true
   ·simp [h]
   ·simp only [h,if_false,nH]
    exact ih (k + 1) (by omega)
 exact key l.length 0 (by omega)
theorem wFy {R:Type} {l:List α} {g:α->Option (Unit ⊕ R)} {p:α->Bool} {z:R} {K:Unit->Option R} (hg:∀ a ∈ l,g a=if p a=true then some (.inl ()) else some (.inr z)) (hn:l.length <= 9223372036854775807) :
  jn (wFI 0 (↑l.length:Int) (fun k (_:Unit)=>(idx l (↑k:Int)).bind g) ()) K=if l.all p=true then K () else some z:=by
 rw [wDb hn]
 have key:∀ (m k:Nat),k + m=l.length->jn (forN (fun k (_:Unit)=>(idx l (↑k:Int)).bind g) m k ()) K=if (l.drop k).all p=true then K () else some z:=by
  intro m
  induction m with
  | zero=>intro k hk;rw [kq (by omega)];rfl
  | succ m ih =>
   intro k hk
   have hlt:k < l.length:=by omega
   have e:l.drop k=l[k] :: l.drop (k + 1):=kK hlt
   rw [e,List.all_cons,forN,wKC,nt hlt]
   simp only [nA,hg _ (List.getElem_mem hlt)]
   by_cases h:p l[k]=true
   ·rw [h]
    simp only [if_true,Bool.true_and]
    exact ih (k + 1) (by omega)
   ·rw [if_neg h]
    have:p l[k]=false:=by simpa using h
    simp only [this,Bool.false_and,wKE,nH,if_false]
 exact key l.length 0 (by omega)
theorem wEr {bytes:Nat} {l m:List α} (h:(l.length + m.length) * bytes <= 140737488355328):app bytes l m=some (l ++ m):=if_pos h
end Go.KL
namespace Go.KL
variable {S B R α β:Type}
theorem wLk {body:Nat->S->Option (S ⊕ B)} (s:Nat->S):∀ (m k:Nat),(∀ i,k <= i->i < k + m->body i (s i)=some (.inl (s (i + 1))))->forN body m k (s k)=some (.inl (s (k + m)))
 | 0,_,_=>rfl
 | m + 1,k,h=>by
  rw [forN,h k (nK _) (by omega)]
  have:=wLk s m (k + 1) fun i h1 h2=>h i (by omega) (by omega)
  rw [show k + 1 + m=k + (m + 1) by omega] at this
  exact this
theorem wPe {body:Nat->S->Option (S ⊕ B)} {n:Nat} {s0:S} (s:Nat->S) (h0:s 0=s0) (hn:n <= 9223372036854775807) (h:∀ i,i < n->body i (s i)=some (.inl (s (i + 1)))):wFI 0 (n:Int) body s0=some (.inl (s n)):=by
 rw [wDb hn,<- h0]
 have:=wLk s n 0 fun i _ hi=>h i (by omega)
 rwa [nz] at this
theorem wOX {body:Nat->Unit->Option (Unit ⊕ B)} {n:Nat} (hn:n <= 9223372036854775807) (h:∀ i,i < n->body i ()=some (.inl ())):wFI 0 (n:Int) body ()=some (.inl ()):=wPe (fun _=>()) rfl hn h
theorem wGN [Inhabited α] {l:List α} {k:Nat} (h:k < l.length):idx l (k:Int)=some (gd l k):=by
 rw [wKC]
 exact wAx h
theorem wBI [Inhabited α] {l:List α} {k:Nat} (h:k < l.length):gd l k ∈ l:=List.mem_of_getElem? (wAx h)
theorem wGO [Inhabited α] {l:List α} {k:Nat} (h:k < l.length):l.take (k + 1)=l.take k ++ [gd l k]:=by
 rw [List.take_add_one,wAx h]
 rfl
theorem wIm [Inhabited α] {l:List α} {k:Nat} (h:k < l.length):l.drop k=gd l k :: l.drop (k + 1):=by
 have:=wAx h
 rw [nt h] at this
 rw [kK h,nP this]
theorem wDW [Inhabited α] {l m:List α} {k:Nat} (h:k < l.length):gd (l ++ m) k=gd l k:=by
 have h1:=wAx (xs:=l ++ m) (k:=k) (by rw [nB];omega)
 rw [nS h,wAx h] at h1
 exact (nP h1).symm
theorem wFA [Inhabited α] (l m:List α) (x:α):gd (l ++ x :: m) l.length=x:=by
 have h1:=wAx (xs:=l ++ x :: m) (k:=l.length) (by simp)
 rw [nV (nK _),kL] at h1
 exact (nP h1).symm
theorem wOY [Inhabited α] {l m:List α} (h:l.length=m.length) (hk:∀ k,k < l.length->gd l k=gd m k):l=m:=by
 apply ki
 intro k
 rcases kl k l.length with h1 | h1
 ·rw [wAx h1,wAx (by omega),hk k h1]
 ·rw [kC h1,kC (by omega)]
end Go.KL
namespace Go.KL
variable {S B α:Type}
theorem wOZ {body:S->Option (S ⊕ B)} (F:Nat):∀ (m:Nat) (s:Nat->S),(∀ i,i < m->body (s i)=some (.inl (s (i + 1))))->iter body (m + F) (s 0)=iter body F (s m)
 | 0,s,_=>by rw [nz]
 | m + 1,s,h=>by
  rw [show m + 1 + F=(m + F) + 1 by omega,iter,h 0 (by omega)]
  exact wOZ F m (fun i=>s (i + 1)) fun i hi=>h (i + 1) (by omega)
theorem wKo {body:S->Option (S ⊕ B)} {m:Nat} (s:Nat->S) (h:∀ i,i < m->body (s i)=some (.inl (s (i + 1)))) {b:B} (hb:body (s m)=some (.inr b)) {s0:S} (h0:s 0=s0) (hm:m < 1000000):iter body big s0=some b:=by
 subst h0
 have:=wOZ (big - m - 1 + 1) m s h
 rw [show m + (big - m - 1 + 1)=big by unfold big;omega] at this
 rw [this,iter,hb]
theorem wDi {body:S->Option (S ⊕ B)} (I:Nat->S->Prop) (Z:B->Prop) (m:Nat) (step:∀ i s,i <= m->I i s->(i < m/\∃ s',body s=some (.inl s')/\I (i + 1) s') \/ ∃ b,body s=some (.inr b)/\Z b) {s0:S} (h0:I 0 s0) (hm:m < 1000000):∃ b,iter body big s0=some b/\Z b:=by
 have key:∀ (d i:Nat) (s:S),i + d=m->I i s->∀ F,d < F->∃ b,iter body F s=some b/\Z b:=by
  intro d
  induction d with
  | zero =>
   intro i s hi hI F hF
   obtain ⟨F,rfl⟩:∃ G,F=G + 1:=⟨F - 1,by omega⟩
   rcases step i s (by omega) hI with ⟨h,_⟩ | ⟨b,h1,h2⟩
   ·omega
   ·exact ⟨b,by rw [iter,h1],h2⟩
  | succ d ih =>
   intro i s hi hI F hF
   obtain ⟨F,rfl⟩:∃ G,F=G + 1:=⟨F - 1,by omega⟩
   rcases step i s (by omega) hI with ⟨_,s',h1,h2⟩ | ⟨b,h1,h2⟩
   ·obtain ⟨b,h3,h4⟩:=ih (i + 1) s' (by omega) h2 F (by omega)
    exact ⟨b,by rw [iter,h1];exact h3,h4⟩
   ·exact ⟨b,by rw [iter,h1],h2⟩
 exact key m 0 s0 (by omega) h0 big (by unfold big;omega)
theorem wKp {body:S->Option (S ⊕ B)} (I:Nat->S->Prop) {b:B} (m:Nat) {s0:S} (h0:I 0 s0) (hm:m < 1000000) (step:∀ i s,i <= m->I i s->(i < m/\∃ s',body s=some (.inl s')/\I (i + 1) s') \/ body s=some (.inr b)):iter body big s0=some b:=by
 obtain ⟨c,h1,h2⟩:=wDi (body:=body) I (fun c=>c=b) m (fun i s hi hI=>by
  rcases step i s hi hI with h | h
  ·exact .inl h
  ·exact .inr ⟨b,h,rfl⟩) h0 hm
 rw [h1,h2]
theorem wJe [Inhabited α] {l:List α} {i k:Nat} {x:α} (hi:i < l.length) (hk:k < l.length):gd (l.set i x) k=if k=i then x else gd l k:=by
 have h1:=wAx (xs:=l.set i x) (k:=k) (by rw [nu];exact hk)
 rw [List.getElem?_set] at h1
 by_cases e:i=k
 ·subst e
  rw [if_pos rfl,if_pos hi] at h1
  rw [if_pos rfl]
  exact (nP h1).symm
 ·rw [if_neg e,wAx hk] at h1
  rw [if_neg (fun h=>e h.symm)]
  exact (nP h1).symm
theorem wEK [Inhabited α] {l:List α} {k:Nat} (h:k < l.length):gd l k=l[k]:=by
 have:=wAx h
 rw [nt h] at this
 exact (nP this).symm
end Go.KL
namespace Go.Proofs.YtkeeechdijfkhaaGreat
open Go.KL
open Classical
def Cov (h:wAG) (t:Int):Prop:=h.From <= t/\t < h.To
structure IsNx (l:List wAG) (t g:Int):Prop where
 at_:∃ h ∈ l,Cov h t/\h.To=g
 le:∀ h ∈ l,Cov h t->h.To <= g
def NoNx (l:List wAG) (t:Int):Prop:=∀ h ∈ l,¬ Cov h t
theorem IsNx.lt {l:List wAG} {t g:Int} (h:IsNx l t g):t < g:=by
 obtain ⟨x,_,c,e⟩:=h.at_
 unfold Cov at c
 omega
theorem IsNx.one {l:List wAG} {t g g':Int} (h:IsNx l t g) (h':IsNx l t g'):g=g':=by
 obtain ⟨x,hx,c,e⟩:=h.at_
 obtain ⟨x',hx',c',e'⟩:=h'.at_
 have a:=h.le x' hx' c'
 have b:=h'.le x hx c
 omega
inductive Run (l:List wAG) (to:Int):Int->List Int->Int->Prop
 | fin {f:Int} (h:to <= f):Run l to f [] to
 | gap {f:Int} (h:f < to) (n:NoNx l f):Run l to f [] f
 | go {f g e:Int} {ms:List Int} (h:f < to) (n:IsNx l f g) (r:Run l to g ms e):Run l to f (f :: ms) e
theorem Run.cmp {l:List wAG} {t1 t2 f e1:Int} {m1:List Int} (r1:Run l t1 f m1 e1) (h12:t1 <= t2):∀ {m2:List Int} {e2:Int},Run l t2 f m2 e2->m1.length <= m2.length/\(e1 < t1->e2=e1):=by
 induction r1 with
 | fin h=>exact fun _=>⟨kB _,fun h=>by omega⟩
 | gap h n =>
  intro m2 e2 r2
  cases r2 with
  | fin h2=>omega
  | gap _ _=>exact ⟨nK _,fun _=>rfl⟩
  | go _ n2 _ =>
   obtain ⟨x,hx,c,_⟩:=n2.at_
   exact absurd c (n x hx)
 | go h n r ih =>
  intro m2 e2 r2
  cases r2 with
  | fin h2=>omega
  | gap _ n2 =>
   obtain ⟨x,hx,c,_⟩:=n.at_
   exact absurd c (n2 x hx)
  | go _ n2 r2 =>
   have e:=n.one n2
   subst e
   have:=ih r2
   exact ⟨by simp only [nZ];omega,this.2⟩
theorem Run.end_le {l:List wAG} {to f e:Int} {ms:List Int} (r:Run l to f ms e):e <= to:=by
 induction r with
 | fin _=>exact kJ _
 | gap h _=>omega
 | go _ _ _ ih=>exact ih
theorem Run.count {l:List wAG} {to f e:Int} {ms:List Int} (r:Run l to f ms e):ms.length <= l.countP fun h=>decide (f < h.To):=by
 induction r with
 | fin _=>exact kB _
 | gap _ _=>exact kB _
 | @go f g e ms h n r ih =>
  have lt:(l.countP fun h=>decide (g < h.To)) < l.countP fun h=>decide (f < h.To):=by
   obtain ⟨x,hx,c,e⟩:=n.at_
   have fg:=n.lt
   clear ih r n
   induction l with
   | nil=>cases hx
   | cons a l ih2 =>
    rw [no,no]
    have mono:(l.countP fun h=>decide (g < h.To)) <= l.countP fun h=>decide (f < h.To):=kU fun y _ hy=>by
     rw [decide_eq_true_eq] at hy ⊢
     omega
    rcases nJ.1 hx with rfl | hx
    ·have h1:decide (g < x.To)=false:=decide_eq_false (by omega)
     have h2:decide (f < x.To)=true:=decide_eq_true (by omega)
     rw [h1,h2]
     simp only [if_true,nH,if_false]
     omega
    ·have:=ih2 hx
     by_cases h1:g < a.To
     ·rw [decide_eq_true h1,decide_eq_true (show f < a.To by omega)]
      simp only [if_true]
      omega
     ·rw [decide_eq_false h1]
      simp only [nH,if_false]
      omega
  simp only [nZ]
  omega
theorem Run.len {l:List wAG} {to f e:Int} {ms:List Int} (r:Run l to f ms e):ms.length <= l.length :=
 kW r.count kV
theorem Run.head {l:List wAG} {to f e:Int} {ms:List Int} (r:Run l to f ms e) (h:0 < ms.length):gd ms 0=f:=by
 cases r with
 | fin _=>simp at h
 | gap _ _=>simp at h
 | go _ _ _=>rfl
theorem Run.marks {l:List wAG} {to f e:Int} {ms:List Int} (r:Run l to f ms e):(∀ i,i < ms.length->f <= gd ms i/\gd ms i < to)/\∀ i,i + 1 < ms.length->gd ms i < gd ms (i + 1)/\∀ h ∈ l,¬ (Cov h (gd ms i)/\Cov h (gd ms (i + 1))):=by
 induction r with
 | fin _=>exact ⟨fun i h=>by simp at h,fun i h=>by simp at h⟩
 | gap _ _=>exact ⟨fun i h=>by simp at h,fun i h=>by simp at h⟩
 | @go f g e ms h n r ih =>
  refine ⟨fun i hi=>?_,fun i hi=>?_⟩
  ·cases i with
   | zero=>exact ⟨kJ _,h⟩
   | succ i =>
    have a:=ih.1 i (by simpa using hi)
    have b:=n.lt
    show f <= gd ms i/\gd ms i < to
    omega
  ·cases i with
   | zero =>
    have e0:=r.head (by simp only [nZ] at hi;omega)
    show f < gd ms 0/\∀ h ∈ l,¬ (Cov h f/\Cov h (gd ms 0))
    rw [e0]
    refine ⟨n.lt,fun x hx c=>?_⟩
    have:=n.le x hx c.1
    have:=c.2
    unfold Cov at this
    omega
   | succ i=>exact ih.2 i (by simp only [nZ] at hi ⊢;omega)
end Go.Proofs.YtkeeechdijfkhaaGreat
namespace Go.KL
def wRc (q:Nat->Bool):Nat->Nat->Bool
 | 0,_=>true
 | m + 1,k=>q k && wRc q m (k + 1)
def fnd {B:Type} (f:Nat->Option B):Nat->Nat->Option B
 | 0,_=>none
 | m + 1,k=>match f k with
  | some c=>some c
  | none=>fnd f m (k + 1)
theorem wEB (q:Nat->Bool):∀ m k,wRc q m k=true ↔ ∀ i,k <= i->i < k + m->q i=true
 | 0,k=>⟨fun _ i h1 h2=>by omega,fun _=>rfl⟩
 | m + 1,k=>by
  rw [wRc,nE,wEB q m (k + 1)]
  constructor
  ·rintro ⟨h1,h2⟩ i h3 h4
   by_cases e:i=k
   ·exact e ▸ h1
   ·exact h2 i (by omega) (by omega)
  ·exact fun h=>⟨h k (by omega) (by omega),fun i h1 h2=>h i (by omega) (by omega)⟩
def out {S B:Type} (s:S):Option B->S ⊕ B
 | none=>.inl s
 | some c=>.inr c
theorem wLl {B:Type} {body:Nat->Unit->Option (Unit ⊕ B)} {f:Nat->Option B}:∀ (m k:Nat),(∀ i,k <= i->i < k + m->body i ()=some (out () (f i)))->forN body m k ()=some (out () (fnd f m k))
 | 0,_,_=>rfl
 | m + 1,k,h=>by
  rw [forN,h k (by omega) (by omega),fnd]
  cases f k with
  | none=>exact wLl m (k + 1) fun i h1 h2=>h i (by omega) (by omega)
  | some c=>rfl
theorem wPf {B:Type} {body:Nat->Unit->Option (Unit ⊕ B)} {n:Nat} (f:Nat->Option B) (hn:n <= 1000) (h:∀ i,i < n->body i ()=some (out () (f i))):wFI 0 (n:Int) body ()=some (out () (fnd f n 0)):=by
 rw [wDb (by omega)]
 exact wLl n 0 fun i _ hi=>h i (by omega)
end Go.KL
namespace Go.Proofs.YtkeeechdijfkhaaGreat
open Go.KL
theorem wOa (a b:List Int) (i:Nat):gd (a ++ b) i=if i < a.length then gd a i else gd b (i - a.length):=by
 unfold gd
 split
 ·rename_i h;rw [nQ,nS h,<- nQ]
 ·rename_i h;rw [nQ,nV (by omega),<- nQ]
theorem wDK {a b:Nat} (h:b <= a) (ha:a <= 1000000):w64 ((a:Int) - (b:Int))=((a - b:Nat):Int):=by rw [wAb (by omega) (by omega)];omega
theorem wES {a b:Nat} (h:a + b <= 1000000):w64 ((a:Int) + (b:Int))=((a + b:Nat):Int):=by rw [wAb (by omega) (by omega)];omega
theorem wGP {a:Nat} (h:a <= 1000000):w64 ((a:Int) + 1)=((a + 1:Nat):Int):=by rw [wAb (by omega) (by omega)];omega
theorem wIn {a:Nat} (h:1 <= a) (h2:a <= 1000000):w64 ((a:Int) - 1)=((a - 1:Nat):Int):=by rw [wAb (by omega) (by omega)];omega
theorem wJf {l:List Int} {i j:Nat} (h:i=j):gd l i=gd l j:=by rw [h]
theorem wMc {l:List Int} {p q n:Nat} {c:(Int × Int)->Option Int} (h1:p + n <= q) (h2:q + n <= l.length) (hl:l.length <= 1000):∃ r,wAN l p q n c=some r/\r.length=l.length /\
  ∀ i,i < l.length->gd r i=if p <= i/\i < p + n then gd l (i - p + q) else if q <= i/\i < q + n then gd l (i - q + p) else gd l i:=by
 unfold wAN
 rw [wEJ (by omega)]
 obtain ⟨s,hs,I1,I2⟩:=wEI (body:=fun (k8:Nat) (l7:List Int) =>
  (chk (w64 ((q:Int) + (↑k8:Int))) l7.length).bind fun _ =>
  (chk (w64 ((p:Int) + (↑k8:Int))) l7.length).bind fun _ =>
  (chk (w64 ((q:Int) + (↑k8:Int))) (nT l7 (w64 ((p:Int) + (↑k8:Int))).toNat (gd l7 (w64 ((q:Int) + (↑k8:Int))).toNat)).length).bind fun _ =>
  some (nT (nT l7 (w64 ((p:Int) + (↑k8:Int))).toNat (gd l7 (w64 ((q:Int) + (↑k8:Int))).toNat)) (w64 ((q:Int) + (↑k8:Int))).toNat (gd l7 (w64 ((p:Int) + (↑k8:Int))).toNat)))
  (fun k s=>s.length=l.length/\∀ i,i < l.length->gd s i=if p <= i/\i < p + k then gd l (i - p + q) else if q <= i/\i < q + k then gd l (i - q + p) else gd l i) n 0 l
  ⟨rfl,fun i hi=>by rw [if_neg (by omega),if_neg (by omega)]⟩ (fun k s _ hk ⟨J1,J2⟩=>by
   have hk:k < n:=by omega
   have e1:w64 ((q:Int) + (k:Int))=((q + k:Nat):Int):=wES (by omega)
   have e2:w64 ((p:Int) + (k:Int))=((p + k:Nat):Int):=wES (by omega)
   rw [e1,e2,wBR (by omega) (by omega),nA,wBR (by omega) (by omega),nA,wBR (by omega) (by rw [nu];omega),nA]
   simp only [nh]
   refine ⟨_,rfl,by simp [J1],fun i hi=>?_⟩
   rw [wJe (by rw [nu];omega) (by rw [nu];omega),wJe (by omega) (by omega),J2 (p + k) (by omega),J2 (q + k) (by omega),J2 i hi]
   rw [if_neg (show ¬ (p <= q + k/\q + k < p + k) by omega),if_neg (show ¬ (q <= q + k/\q + k < q + k) by omega),if_neg (show ¬ (p <= p + k/\p + k < p + k) by omega),if_neg (show ¬ (q <= p + k/\p + k < q + k) by omega)]
   by_cases c1:i=q + k
   ·subst c1
    rw [if_pos rfl,if_neg (by omega),if_pos (by omega)]
    exact wJf (by omega)
   ·rw [if_neg c1]
    by_cases c2:i=p + k
    ·subst c2
     rw [if_pos rfl,if_pos (by omega)]
     exact wJf (by omega)
    ·rw [if_neg c2]
     by_cases c3:p <= i/\i < p + k
     ·rw [if_pos c3,if_pos (by omega)]
     ·rw [if_neg c3,if_neg (show ¬ (p <= i/\i < p + (k + 1)) by omega)]
      by_cases c4:q <= i/\i < q + k
      ·rw [if_pos c4,if_pos (by omega)]
      ·rw [if_neg c4,if_neg (by omega)])
 rw [hs]
 rw [nz] at I2
 exact ⟨s,rfl,I1,I2⟩
theorem wFa {P X M Y S:List Int} {c:(Int × Int)->Option Int} (h:X.length=Y.length) (hl:(P ++ X ++ M ++ Y ++ S).length <= 1000):wAN (P ++ X ++ M ++ Y ++ S) (P.length:Nat) ((P.length + X.length + M.length:Nat):Int) (X.length:Nat) c=some (P ++ Y ++ M ++ X ++ S):=by
 have hl':=hl
 simp only [nB] at hl
 obtain ⟨r,hr,h1,h2⟩:=wMc (l:=P ++ X ++ M ++ Y ++ S) (p:=P.length) (q:=P.length + X.length + M.length) (n:=X.length) (c:=c) (by omega) (by simp only [nB];omega) hl'
 rw [hr]
 refine congrArg some (wOY (by rw [h1];simp only [nB];omega) fun i hi=>?_)
 rw [h1] at hi
 rw [h2 i hi]
 simp only [nB] at hi
 simp only [wOa,nB]
 by_cases c1:i < P.length
 ·rw [if_neg (by omega),if_neg (by omega),if_pos (by omega),if_pos (by omega),if_pos (by omega),if_pos c1,if_pos (by omega),if_pos (by omega),if_pos (by omega),if_pos c1]
 ·by_cases c2:i < P.length + X.length
  ·rw [if_pos (by omega),if_pos (by omega),if_neg (by omega),if_pos (by omega),if_pos (by omega),if_pos (by omega),if_neg c1]
   exact wJf (by omega)
  ·rw [if_neg (show ¬ (P.length <= i/\i < P.length + X.length) by omega)]
   by_cases c3:i < P.length + X.length + M.length
   ·rw [if_neg (by omega),if_pos (by omega),if_pos (by omega),if_neg (by omega),if_pos (by omega),if_pos (by omega),if_neg (by omega)]
    exact wJf (by omega)
   ·by_cases c4:i < P.length + X.length + M.length + Y.length
    ·rw [if_pos (by omega),if_pos (by omega),if_pos (by omega),if_pos (by omega),if_neg (by omega),if_pos (by omega),if_neg (by omega)]
     exact wJf (by omega)
    ·rw [if_neg (by omega),if_neg (by omega),if_neg (by omega)]
     exact wJf (by omega)
theorem wPg {P X Y S:List Int} {c:(Int × Int)->Option Int} {m:Nat} (hm:P.length + X.length=m) (g:Y.length < X.length) (hl:(P ++ X ++ Y ++ S).length <= 1000) :
  wAN (P ++ X ++ Y ++ S) (w64 ((m:Int) - (X.length:Nat))) (m:Nat) (Y.length:Nat) c=some (P ++ Y ++ X.drop Y.length ++ X.take Y.length ++ S):=by
 have hx1:(X.take Y.length).length=Y.length:=by rw [nI];omega
 have hx2:(X.drop Y.length).length=X.length - Y.length:=by rw [nW]
 have e3:P ++ X.take Y.length ++ X.drop Y.length ++ Y ++ S=P ++ X ++ Y ++ S:=by rw [nG P,nL]
 have hsw:=wFa (P:=P) (X:=X.take Y.length) (M:=X.drop Y.length) (Y:=Y) (S:=S) (c:=c) hx1 (by rw [e3];exact hl)
 have hl2:=hl
 simp only [nB] at hl2
 rw [hx1,hx2,e3,show P.length + Y.length + (X.length - Y.length)=m by omega] at hsw
 rw [wDK (by omega) (by omega),show m - X.length=P.length by omega]
 exact hsw
theorem wOb {P X Y S:List Int} {c:(Int × Int)->Option Int} {m:Nat} (hm:P.length + X.length=m) (g:X.length < Y.length) (hl:(P ++ X ++ Y ++ S).length <= 1000) :
  wAN (P ++ X ++ Y ++ S) (w64 ((m:Int) - (X.length:Nat))) (w64 ((w64 ((m:Int) + (Y.length:Nat))) - (X.length:Nat))) (X.length:Nat) c=some (P ++ Y.drop (Y.length - X.length) ++ Y.take (Y.length - X.length) ++ X ++ S):=by
 have hy1:(Y.drop (Y.length - X.length)).length=X.length:=by rw [nW];omega
 have hy2:(Y.take (Y.length - X.length)).length=Y.length - X.length:=by rw [nI];omega
 have e3:P ++ X ++ Y.take (Y.length - X.length) ++ Y.drop (Y.length - X.length) ++ S=P ++ X ++ Y ++ S:=by rw [nG (P ++ X),nL]
 have hsw:=wFa (P:=P) (X:=X) (M:=Y.take (Y.length - X.length)) (Y:=Y.drop (Y.length - X.length)) (S:=S) (c:=c) hy1.symm (by rw [e3];exact hl)
 have hl2:=hl
 simp only [nB] at hl2
 rw [hy2,e3,show P.length + X.length + (Y.length - X.length)=m + Y.length - X.length by omega] at hsw
 rw [wES (by omega),wDK (by omega) (by omega),wDK (by omega) (by omega),show m - X.length=P.length by omega]
 exact hsw
theorem wRd {P X Y S:List Int} {c:(Int × Int)->Option Int} {m:Nat} (hm:P.length + X.length=m) (g:X.length=Y.length) (hl:(P ++ X ++ Y ++ S).length <= 1000) :
  wAN (P ++ X ++ Y ++ S) (w64 ((m:Int) - (X.length:Nat))) (m:Nat) (X.length:Nat) c=some (P ++ Y ++ X ++ S):=by
 have hsw:=wFa (P:=P) (X:=X) (M:=[]) (Y:=Y) (S:=S) (c:=c) g (by simpa using hl)
 have hl2:=hl
 simp only [nB] at hl2
 rw [nr,nr,kX,Nat.add_zero,hm] at hsw
 rw [wDK (by omega) (by omega),show m - X.length=P.length by omega]
 exact hsw
def RotI (m:Nat) (G:List Int) (s:List Int × Int × Int) (n:Nat):Prop:=∃ P X Y S:List Int,s=(P ++ X ++ Y ++ S,((X.length:Nat):Int),((Y.length:Nat):Int))/\0 < X.length/\0 < Y.length/\P.length + X.length=m/\(P ++ X ++ Y ++ S).length <= 1000/\P ++ Y ++ X ++ S=G/\X.length + Y.length <= n
theorem wPh {m:Nat} {G:List Int} {c:(Int × Int)->Option Int} {l:List Int} {x y:Int} {n:Nat} (h:RotI m G (l,x,y) n) (hne:x ≠ y):0 < n/\∃ s',(if y < x then
        (wAN l (w64 ((m:Int) - x)) (m:Int) y c).bind fun x46 =>
        some (Sum.inl (β:=List Int × Int) (x46,w64 (x - y),y))
      else
        (wAN l (w64 ((m:Int) - x)) (w64 ((w64 ((m:Int) + y)) - x)) x c).bind fun x62 =>
        some (.inl (x62,x,w64 (y - x))))=some (.inl s')/\RotI m G s' (n - 1):=by
  obtain ⟨P,X,Y,S,e,i1,i2,i3,i4,i5,i6⟩:=h
  injection e with e1 e2
  injection e2 with e2 e3
  subst e1 e2 e3
  have hl:=i4
  simp only [nB] at hl
  refine ⟨by omega,?_⟩
  by_cases g:Y.length < X.length
  · rw [if_pos (by omega),wPg i3 g i4,nA,wDK (by omega) (by omega)]
    have hx1:(X.take Y.length).length=Y.length:=by rw [nI];omega
    have hx2:(X.drop Y.length).length=X.length - Y.length:=by rw [nW]
    refine ⟨_,rfl,P ++ Y,X.drop Y.length,X.take Y.length,S,by rw [hx1,hx2],by omega,by omega,by rw [nB];omega,by simp only [nB];omega,?_,by omega⟩
    rw [nG (P ++ Y) (X.take _),nL,i5]
  · have g2:X.length < Y.length:=by
      rcases kf X.length Y.length with h | h | h
      · exact h
      · exact absurd (by rw [h]) hne
      · exact absurd h g
    rw [if_neg (by omega),wOb i3 g2 i4,nA,wDK (by omega) (by omega)]
    have hy1:(Y.drop (Y.length - X.length)).length=X.length:=by rw [nW];omega
    have hy2:(Y.take (Y.length - X.length)).length=Y.length - X.length:=by rw [nI];omega
    refine ⟨_,rfl,P,Y.drop (Y.length - X.length),Y.take (Y.length - X.length),X ++ S,by rw [hy1,hy2,nG _ X S],by omega,by omega,by omega,by simp only [nB];omega,?_,by omega⟩
    rw [nG P,nL,<- nG,i5]
theorem wOc {A X Y B:List Int} {c:(Int × Int)->Option Int} {a m b:Nat} (ha:A.length=a) (hm:A.length + X.length=m) (hb:A.length + X.length + Y.length=b) (hX:0 < X.length) (hY:0 < Y.length) (hl:(A ++ X ++ Y ++ B).length <= 1000):wAi (A ++ X ++ Y ++ B) (a:Int) (m:Int) (b:Int) c=some (A ++ Y ++ X ++ B):=by
 unfold wAi
 have hl2:=hl
 simp only [nB] at hl2
 rw [wDK (by omega) (by omega),wDK (by omega) (by omega),show m - a=X.length by omega,show b - m=Y.length by omega]
 obtain ⟨r,h1,P,X',Y',S,rfl,h2,h3,h4,h5⟩:=wDi (body:=fun (l16,x17,x18) =>
  if x17=x18 then
   esc (some (l16,x17))
  else
   if x18 < x17 then
    (wAN l16 (w64 ((m:Int) - x17)) (m:Int) x18 c).bind fun x46 =>
    some (.inl (x46,w64 (x17 - x18),x18))
   else
    (wAN l16 (w64 ((m:Int) - x17)) (w64 ((w64 ((m:Int) + x18)) - x17)) x17 c).bind fun x62 =>
    some (.inl (x62,x17,w64 (x18 - x17))))
  (fun n s=>RotI m (A ++ Y ++ X ++ B) s (X.length + Y.length - n)) (fun r=>∃ P X' Y' S:List Int,r=(P ++ X' ++ Y' ++ S,((X'.length:Nat):Int))/\X'.length=Y'.length/\P.length + X'.length=m/\(P ++ X' ++ Y' ++ S).length <= 1000/\P ++ Y' ++ X' ++ S=A ++ Y ++ X ++ B) (X.length + Y.length)
  (fun n s hn h=>by
   obtain ⟨l,x,y⟩:=s
   simp only
   by_cases e:x=y
   ·right
    rw [if_pos e]
    obtain ⟨P,X',Y',S,e',i1,i2,i3,i4,i5,i6⟩:=h
    injection e' with e1 e2
    injection e2 with e2 e3
    subst e1 e2 e3
    exact ⟨_,rfl,P,X',Y',S,rfl,by omega,i3,i4,i5⟩
   ·left
    rw [if_neg e]
    obtain ⟨h1,s',h2,h3⟩:=wPh (c:=c) h e
    exact ⟨by omega,s',h2,by rw [show X.length + Y.length - (n + 1)=X.length + Y.length - n - 1 by omega];exact h3⟩)
  (s0:=(A ++ X ++ Y ++ B,((X.length:Nat):Int),((Y.length:Nat):Int))) ⟨A,X,Y,B,rfl,hX,hY,hm,hl,rfl,by omega⟩ (by omega)
 rw [h1,nA]
 simp only
 rw [wRd h3 h2 h4,nA,h5]
theorem wHV {body:Int × Int->Option ((Int × Int) ⊕ Int)} (q:Nat->Bool) {lo hi:Nat} (hle:lo <= hi) (hh:hi <= 1000) (mono:∀ i j,lo <= i->i <= j->j < hi->q j=true->q i=true)
  (hb:∀ i j:Nat,lo <= i->i < j->j <= hi->body ((i:Int),(j:Int))=some (.inl (if q ((i + j) / 2)=true then ((((i + j) / 2 + 1:Nat):Int),(j:Int)) else ((i:Int),(((i + j) / 2:Nat):Int)))))
  (he:∀ i:Nat,lo <= i->i <= hi->body ((i:Int),(i:Int))=some (.inr (i:Int))) :
  ∃ k:Nat,lo <= k/\k <= hi/\iter body big ((lo:Int),(hi:Int))=some (k:Int)/\(∀ i,lo <= i->i < k->q i=true)/\(∀ i,k <= i->i < hi->q i=false):=by
 obtain ⟨b,h1,k,rfl,h2⟩:=wDi (body:=body) (fun n s=>∃ i j:Nat,s=((i:Int),(j:Int))/\lo <= i/\i <= j/\j <= hi/\j - i + n <= hi - lo/\(∀ t,lo <= t->t < i->q t=true)/\(∀ t,j <= t->t < hi->q t=false))
  (fun b=>∃ k:Nat,b=(k:Int)/\lo <= k/\k <= hi/\(∀ t,lo <= t->t < k->q t=true)/\(∀ t,k <= t->t < hi->q t=false)) (hi - lo) (fun n s hn ⟨i,j,hs,i1,i2,i3,i4,i5,i6⟩=>by
   subst hs
   rcases kl i j with c | c
   ·left
    refine ⟨by omega,_,hb i j i1 c i3,?_⟩
    by_cases g:q ((i + j) / 2)=true
    ·rw [if_pos g]
     refine ⟨(i + j) / 2 + 1,j,rfl,by omega,by omega,i3,by omega,fun t h1 h2=>?_,i6⟩
     exact mono t ((i + j) / 2) h1 (by omega) (by omega) g
    ·rw [if_neg g]
     refine ⟨i,(i + j) / 2,rfl,i1,by omega,by omega,by omega,i5,fun t h1 h2=>?_⟩
     cases hq:q t with
     | false=>rfl
     | true=>exact absurd (mono _ t (by omega) h1 h2 hq) g
   ·right
    have:i=j:=by omega
    subst this
    exact ⟨_,he i i1 i3,i,rfl,i1,i3,i5,i6⟩) (s0:=((lo:Int),(hi:Int))) ⟨lo,hi,rfl,nK _,hle,nK _,by omega,fun t h1 h2=>by omega,fun t h1 h2=>by omega⟩ (by omega)
 exact ⟨k,h2.1,h2.2.1,h1,h2.2.2⟩
end Go.Proofs.YtkeeechdijfkhaaGreat
namespace Go.Proofs.YtkeeechdijfkhaaGreat
open Go.KL
def Lr (K:Int->Int) (a b:Int):Prop:=K a < K b \/ (K a=K b/\a < b)
theorem Lr.le {K:Int->Int} {a b:Int} (h:Lr K a b):K a <= K b:=by unfold Lr at h;omega
theorem Lr.of {K:Int->Int} {a b:Int} (h:K a <= K b) (h2:a < b):Lr K a b:=by unfold Lr;omega
def ByK (K:Int->Int) (n:Int) (c:(Int × Int)->Option Int):Prop:=∀ a b,0 <= a->a < n->0 <= b->b < n->∃ x,c (a,b)=some x/\(x < 0 ↔ K a < K b)
def In (n:Int) (l:List Int):Prop:=∀ x ∈ l,0 <= x/\x < n
theorem wIo (P T:List Int) (z x:Int):gd (P ++ z :: x :: T) P.length=z/\gd (P ++ z :: x :: T) (P.length + 1)=x/\nT (nT (P ++ z :: x :: T) (P.length + 1) z) P.length x=P ++ x :: z :: T/\nT (nT (P ++ z :: x :: T) P.length x) (P.length + 1) z=P ++ x :: z :: T:=by
 refine ⟨wFA _ _ _,?_,?_,?_⟩
 ·have:=wFA (P ++ [z]) T x
  simpa using this
 ·rw [kE _ _ (by omega),show P.length + 1 - P.length=1 by omega,kE _ _ (by omega),kL]
  rfl
 ·rw [kE _ _ (by omega),kL,kE _ _ (by omega),show P.length + 1 - P.length=1 by omega]
  rfl
def wTG (p1:Int) (c:(Int × Int)->Option Int) (x9:Int) (s:List Int × Int):Option ((List Int × Int) ⊕ ((List Int × Int) ⊕ List Int)):=match s with
  | (l34,x35) =>
        if p1 < x35 then
          (chk x35 l34.length).bind fun _ =>
          (chk (w64 (x35 - 1)) l34.length).bind fun _ =>
          (c ((gd l34 x35.toNat),(gd l34 (w64 (x35 - 1)).toNat))).bind fun x65 =>
          if x65 < 0 then
            (chk (w64 (x35 - 1)) (nT l34 x35.toNat (gd l34 (w64 (x35 - 1)).toNat)).length).bind fun _ =>
            some (.inl ((nT (nT l34 x35.toNat (gd l34 (w64 (x35 - 1)).toNat)) (w64 (x35 - 1)).toNat (gd l34 x35.toNat)),w64 (x35 - 1)))
          else
            esc (some (.inl (l34,w64 (x9 + 1))))
        else
          esc (some (.inl (l34,w64 (x9 + 1))))
theorem wMd (p0:List Int) (p1 p2:Int) (c:(Int × Int)->Option Int):wAU p0 p1 p2 c=iter (fun (l8,x9)=>if x9 < p2 then iter (wTG p1 c x9) big (l8,x9) else esc (some l8)) big (p0,w64 (p1 + 1)):=rfl
theorem wPi {K:Int->Int} {n:Int} {c:(Int × Int)->Option Int} (hc:ByK K n c) {A Z S:List Int} {x:Int} {x9:Int} (hx:0 <= x/\x < n) (hZ:In n Z) (hlt:∀ z ∈ Z,z < x) (ho:Z.Pairwise (Lr K)) (hl:(A ++ Z ++ x :: S).length <= 1000) :
  ∃ Z',iter (wTG (A.length:Nat) c x9) big (A ++ Z ++ x :: S,((A.length + Z.length:Nat):Int))=some (.inl (A ++ Z' ++ S,w64 (x9 + 1)))/\Z'.Perm (Z ++ [x])/\Z'.Pairwise (Lr K):=by
 simp only [nB,nZ] at hl
 obtain ⟨b,h1,Z1,Z2,rfl,hb,h2,h3⟩:=wDi (body:=wTG (A.length:Nat) c x9) (fun k s=>∃ Z1 Z2,Z=Z1 ++ Z2/\s=(A ++ Z1 ++ x :: (Z2 ++ S),((A.length + Z1.length:Nat):Int))/\(∀ z ∈ Z2,K x < K z)/\Z2.length=k)
  (fun b=>∃ Z1 Z2,Z=Z1 ++ Z2/\b=.inl (A ++ Z1 ++ x :: (Z2 ++ S),w64 (x9 + 1))/\(∀ z ∈ Z2,K x < K z)/\(∀ z ∈ Z1,K z <= K x)) Z.length
  (fun k s hk ⟨Z1,Z2,e,hs,g1,g2⟩=>by
   subst hs
   have el:Z.length=Z1.length + Z2.length:=by rw [e,nB]
   unfold wTG
   simp only
   rcases List.eq_nil_or_concat Z1 with h | ⟨Y,z,h⟩
   ·subst h
    right
    rw [if_neg (by simp)]
    exact ⟨_,rfl,[],Z2,e,rfl,g1,fun z hz=>by simp at hz⟩
   ·rw [List.concat_eq_append] at h
    subst h
    have e1:A ++ (Y ++ [z]) ++ x :: (Z2 ++ S)=(A ++ Y) ++ z :: x :: (Z2 ++ S):=by simp
    have e2:((A.length + (Y ++ [z]).length:Nat):Int)=(((A ++ Y).length + 1:Nat):Int):=by simp only [nB,na];omega
    obtain ⟨s1,s2,s3,_⟩:=wIo (A ++ Y) (Z2 ++ S) z x
    have hll:(A ++ Y ++ z :: x :: (Z2 ++ S)).length=A.length + Y.length + 2 + Z2.length + S.length:=by simp only [nB,nZ];omega
    have el2:Z.length=Y.length + 1 + Z2.length:=by rw [el];simp
    have hY:(A ++ Y).length=A.length + Y.length:=nB
    have hz:z ∈ Z:=by rw [e];simp
    rw [e1,e2,if_pos (by omega),wBR (by omega) (by omega),nA,wIn (by omega) (by omega),wBR (by omega) (by omega),nA]
    simp only [nh,aA,s1,s2]
    obtain ⟨v,hv,hv2⟩:=hc x z hx.1 hx.2 (hZ z hz).1 (hZ z hz).2
    rw [hv,nA]
    by_cases g:K x < K z
    ·left
     rw [if_pos (hv2.2 g),wBR (by omega) (by rw [nu];omega),nA,s3]
     refine ⟨by omega,_,rfl,Y,z :: Z2,by rw [e];simp,by simp,fun y hy=>?_,by simp;omega⟩
     rcases nJ.1 hy with rfl | hy
     ·exact g
     ·exact g1 y hy
    ·right
     rw [if_neg (fun h=>g (hv2.1 h))]
     refine ⟨_,rfl,Y ++ [z],Z2,e,by simp,g1,fun y hy=>?_⟩
     rcases nM.1 hy with hy | hy
     ·have pw:=ho
      rw [e,nG] at pw
      have:=(nN.1 pw).2.2 y hy z (by simp)
      have:=this.le
      omega
     ·rw [np.1 hy];omega) (s0:=(A ++ Z ++ x :: S,((A.length + Z.length:Nat):Int))) ⟨Z,[],by simp,by simp,fun z hz=>by simp at hz,rfl⟩ (by omega)
 subst hb
 refine ⟨Z1 ++ x :: Z2,by rw [h1];simp,?_,?_⟩
 ·simp only [nG]
  exact kr _ (kc x Z2).symm
 ·rw [nN] at ho ⊢
  rw [nY]
  have hlt1:∀ z ∈ Z1,z < x:=fun z hz=>hlt z (nb _ hz)
  refine ⟨ho.1,⟨fun z hz=>.inl (h2 z hz),ho.2.1⟩,fun a ha b hb=>?_⟩
  rcases nJ.1 hb with rfl | hb
  ·exact Lr.of (h3 a ha) (hlt1 a ha)
  ·exact ho.2.2 a ha b hb
theorem wJg {K:Int->Int} {n:Int} {c:(Int × Int)->Option Int} (hc:ByK K n c) {A X B:List Int} (hX:In n X) (hlt:X.Pairwise (· < ·)) (hl:(A ++ X ++ B).length <= 1000) {a b:Nat} (ha:A.length=a) (hb:A.length + X.length=b) :
  ∃ Z,wAU (A ++ X ++ B) (a:Int) (b:Int) c=some (A ++ Z ++ B)/\Z.Perm X/\Z.Pairwise (Lr K):=by
 rw [wMd]
 simp only [nB] at hl
 subst ha
 rw [wGP (by omega)]
 cases X with
 | nil =>
  refine ⟨[],?_,aE _,kg⟩
  simp only [kX] at hb
  refine wKo (m:=0) (fun _=>(A ++ [] ++ B,((A.length + 1:Nat):Int))) (fun i hi=>by omega) ?_ rfl (by omega)
  simp only
  rw [if_neg (by omega)]
  rfl
 | cons x0 X =>
  simp only [nZ] at hl hb
  obtain ⟨r,h1,Z,rfl,h2,h3⟩:=wDi (body:=fun (l8,x9)=>if x9 < (b:Int) then iter (wTG (A.length:Nat) c x9) big (l8,x9) else esc (some l8))
   (fun k s=>∃ Z,s=(A ++ Z ++ (X.drop k ++ B),((A.length + (k + 1):Nat):Int))/\Z.Perm (x0 :: X.take k)/\Z.Pairwise (Lr K)/\k <= X.length) (fun r=>∃ Z,r=A ++ Z ++ B/\Z.Perm (x0 :: X)/\Z.Pairwise (Lr K)) X.length
   (fun k s hk ⟨Z,hs,g1,g2,g3⟩=>by
    subst hs
    simp only
    have hZl:Z.length=k + 1:=by rw [g1.length_eq];simp;omega
    by_cases e:k=X.length
    ·right
     rw [if_neg (by omega)]
     refine ⟨_,rfl,Z,?_,?_,g2⟩
     ·rw [e,List.drop_length];rfl
     ·rwa [e,km] at g1
    ·left
     have hk':k < X.length:=by omega
     rw [if_pos (by omega)]
     have hsub:∀ z ∈ Z,z ∈ x0 :: X:=fun z hz=>by
      have:=g1.mem_iff.1 hz
      rcases nJ.1 this with h | h
      ·rw [h];simp
      ·exact ku _ (kY h)
     have hlast:∀ z ∈ Z,z < gd X k:=fun z hz=>by
      have pw:=nY.1 hlt
      rcases nJ.1 (g1.mem_iff.1 hz) with h | h
      ·rw [h];exact pw.1 _ (wBI hk')
      ·have pw2:=pw.2
       rw [<- nL k X,wIm hk'] at pw2
       exact (nN.1 pw2).2.2 z h _ (by simp)
     obtain ⟨Z',i1,i2,i3⟩:=wPi hc (A:=A) (Z:=Z) (S:=X.drop (k + 1) ++ B) (x:=gd X k) (x9:=((A.length + (k + 1):Nat):Int)) (hX _ (ku _ (wBI hk'))) (fun z hz=>hX z (hsub z hz)) hlast g2 (by simp only [nB,nZ,nW];omega)
     refine ⟨by omega,?_⟩
     rw [wIm hk',nO]
     rw [hZl] at i1
     refine ⟨_,i1,Z',by rw [wGP (by omega)];rfl,?_,i3,by omega⟩
     rw [wGO hk']
     exact i2.trans (by simpa using g1.append_right [gd X k]))
   (s0:=(A ++ x0 :: X ++ B,((A.length + 1:Nat):Int))) ⟨[x0],by simp,by simp,by simp,by omega⟩ (by omega)
  exact ⟨Z,by rw [h1],h2,h3⟩
end Go.Proofs.YtkeeechdijfkhaaGreat
namespace Go.Proofs.YtkeeechdijfkhaaGreat
open Go.KL
theorem wIp {i j:Nat} (h:i + j <= 1000000):w64 ((wAg (w64 ((i:Int) + (j:Int)))) / 2)=(((i + j) / 2:Nat):Int):=by
 rw [wES h]
 have e:wAg ((i + j:Nat):Int)=((i + j:Nat):Int):=by unfold wAg;omega
 rw [e,wAb (by omega) (by omega)]
 omega
def sm1 (p0:List Int) (p1 p2 p3:Int) (p4:(Int × Int)->Option Int):Option (List Int) :=
  (iter (fun (x14,x15) =>
   if x14 < x15 then
    (chk (w64 ((wAg (w64 (x14 + x15))) / 2)) p0.length).bind fun _ =>
    (chk p1 p0.length).bind fun _ =>
    (p4 ((gd p0 (w64 ((wAg (w64 (x14 + x15))) / 2)).toNat),(gd p0 p1.toNat))).bind fun x43 =>
    if x43 < 0 then
     some (.inl (w64 ((w64 ((wAg (w64 (x14 + x15))) / 2)) + 1),x15))
    else
     some (.inl (x14,w64 ((wAg (w64 (x14 + x15))) / 2)))
   else
    esc (some x14)) big (p2,p3)).bind fun x4 =>
  iter (fun (l80,x81) =>
   if x81 < (w64 (x4 - 1)) then
    (chk (w64 (x81 + 1)) l80.length).bind fun _ =>
    (chk x81 l80.length).bind fun _ =>
    (chk (w64 (x81 + 1)) (nT l80 x81.toNat (gd l80 (w64 (x81 + 1)).toNat)).length).bind fun _ =>
    some (.inl ((nT (nT l80 x81.toNat (gd l80 (w64 (x81 + 1)).toNat)) (w64 (x81 + 1)).toNat (gd l80 x81.toNat)),w64 (x81 + 1)))
   else
    esc (some l80)) big (p0,p1)
def sm2 (p0:List Int) (p1 p2 p3:Int) (p4:(Int × Int)->Option Int):Option (List Int) :=
      (iter (fun (x137,x138) =>
        if x137 < x138 then
          (chk p2 p0.length).bind fun _ =>
          (chk (w64 ((wAg (w64 (x137 + x138))) / 2)) p0.length).bind fun _ =>
          (p4 ((gd p0 p2.toNat),(gd p0 (w64 ((wAg (w64 (x137 + x138))) / 2)).toNat))).bind fun x166 =>
          if x166 < 0 then
            some (.inl (x137,w64 ((wAg (w64 (x137 + x138))) / 2)))
          else
            some (.inl (w64 ((w64 ((wAg (w64 (x137 + x138))) / 2)) + 1),x138))
        else
          esc (some x137)) big (p1,p2)).bind fun x127 =>
      iter (fun (l203,x204) =>
        if x127 < x204 then
          (chk (w64 (x204 - 1)) l203.length).bind fun _ =>
          (chk x204 l203.length).bind fun _ =>
          (chk (w64 (x204 - 1)) (nT l203 x204.toNat (gd l203 (w64 (x204 - 1)).toNat)).length).bind fun _ =>
          some (.inl ((nT (nT l203 x204.toNat (gd l203 (w64 (x204 - 1)).toNat)) (w64 (x204 - 1)).toNat (gd l203 x204.toNat)),w64 (x204 - 1)))
        else
          esc (some l203)) big (p0,p2)
def smS (p0:List Int) (m1:Int) (p4:(Int × Int)->Option Int) (s:Int × Int):Option ((Int × Int) ⊕ Int):=match s with
  | (x260,x261) =>
          if x260 < x261 then
            (chk (w64 (m1 - (w64 ((wAg (w64 (x260 + x261))) / 2)))) p0.length).bind fun _ =>
            (chk (w64 ((wAg (w64 (x260 + x261))) / 2)) p0.length).bind fun _ =>
            (p4 ((gd p0 (w64 (m1 - (w64 ((wAg (w64 (x260 + x261))) / 2)))).toNat),(gd p0 (w64 ((wAg (w64 (x260 + x261))) / 2)).toNat))).bind fun x294 =>
            if x294 < 0 then
              some (.inl (x260,w64 ((wAg (w64 (x260 + x261))) / 2)))
            else
              some (.inl (w64 ((w64 ((wAg (w64 (x260 + x261))) / 2)) + 1),x261))
          else
            esc (some x260)
def smT (rec_:(List Int)->Int->Int->Int->((Int × Int)->Option Int)->Option ((List Int))) (l:List Int) (p1 p3 mid e k:Int) (p4:(Int × Int)->Option Int):Option (List Int) :=
          if p1 < k then
            if k < mid then
              (rec_ l p1 k mid p4).bind fun x373 =>
              if mid < e then
                if e < p3 then
                  (rec_ x373 mid e p3 p4).bind fun x389 =>
                  some x389
                else
                  some x373
              else
                some x373
            else
              if mid < e then
                if e < p3 then
                  (rec_ l mid e p3 p4).bind fun x408 =>
                  some x408
                else
                  some l
              else
                some l
          else
            if mid < e then
              if e < p3 then
                (rec_ l mid e p3 p4).bind fun x427 =>
                some x427
              else
                some l
            else
              some l
def smR (rec_:(List Int)->Int->Int->Int->((Int × Int)->Option Int)->Option ((List Int))) (p0:List Int) (p1 p2 p3 mid e k:Int) (p4:(Int × Int)->Option Int):Option (List Int) :=
        (if k < p2 then
          some (decide (p2 < e))
        else
          some false).bind fun b330 =>
        if b330=true then
          (wAi p0 k p2 e p4).bind fun x357=>smT rec_ x357 p1 p3 mid e k p4
        else
          smT rec_ p0 p1 p3 mid e k p4
theorem wMe (rec_:(List Int)->Int->Int->Int->((Int × Int)->Option Int)->Option ((List Int))) (p0:List Int) (p1 p2 p3:Int) (p4:(Int × Int)->Option Int):wAn rec_ p0 p1 p2 p3 p4 =
 if (w64 (p2 - p1))=1 then sm1 p0 p1 p2 p3 p4
 else if (w64 (p3 - p2))=1 then sm2 p0 p1 p2 p3 p4
 else if (w64 ((wAg (w64 (p1 + p3))) / 2)) < p2 then
  (iter (smS p0 (w64 ((w64 ((w64 ((wAg (w64 (p1 + p3))) / 2)) + p2)) - 1)) p4) big (w64 ((w64 ((w64 ((wAg (w64 (p1 + p3))) / 2)) + p2)) - p3),w64 ((wAg (w64 (p1 + p3))) / 2))).bind fun x250 =>
  smR rec_ p0 p1 p2 p3 (w64 ((wAg (w64 (p1 + p3))) / 2)) (w64 ((w64 ((w64 ((wAg (w64 (p1 + p3))) / 2)) + p2)) - x250)) x250 p4
 else
  (iter (smS p0 (w64 ((w64 ((w64 ((wAg (w64 (p1 + p3))) / 2)) + p2)) - 1)) p4) big (p1,p2)).bind fun x250 =>
  smR rec_ p0 p1 p2 p3 (w64 ((wAg (w64 (p1 + p3))) / 2)) (w64 ((w64 ((w64 ((wAg (w64 (p1 + p3))) / 2)) + p2)) - x250)) x250 p4:=rfl
theorem wJh {K:Int->Int} {Y:List Int} (h:Y.Pairwise (Lr K)) {i j:Nat} (hij:i <= j) (hj:j < Y.length):K (gd Y i) <= K (gd Y j):=by
 rcases kl i j with c | c
 ·have:=kj.1 h i j (by omega) hj c
  rw [<- wEK (by omega),<- wEK hj] at this
  exact this.le
 ·rw [show i=j by omega]
  exact kJ _
theorem gd_X {A X Y B:List Int} {i:Nat} (h1:A.length <= i) (h2:i < A.length + X.length):gd (A ++ X ++ Y ++ B) i=gd X (i - A.length):=by
 simp only [wOa,nB]
 rw [if_pos (by omega),if_pos (by omega),if_neg (by omega)]
theorem gd_Y {A X Y B:List Int} {i:Nat} (h1:A.length + X.length <= i) (h2:i < A.length + X.length + Y.length):gd (A ++ X ++ Y ++ B) i=gd Y (i - (A.length + X.length)):=by
 simp only [wOa,nB]
 rw [if_pos (by omega),if_neg (by omega)]
theorem wTH {K:Int->Int} {n:Int} {c:(Int × Int)->Option Int} (hc:ByK K n c) {A Y B:List Int} {x:Int} (hx:0 <= x/\x < n) (hY:In n Y) (hlt:∀ y ∈ Y,x < y) (ho:Y.Pairwise (Lr K)) (hl:(A ++ [x] ++ Y ++ B).length <= 1000) {a m b:Nat} (ha:A.length=a) (hm:a + 1=m) (hb:m + Y.length=b) :
  ∃ Z,sm1 (A ++ [x] ++ Y ++ B) (a:Int) (m:Int) (b:Int) c=some (A ++ Z ++ B)/\Z.Perm ([x] ++ Y)/\Z.Pairwise (Lr K):=by
 have hl2:=hl
 simp only [nB,na] at hl2
 unfold sm1
 have hx0:gd (A ++ [x] ++ Y ++ B) a=x:=by rw [gd_X (by omega) (by simp;omega),ha,kL];rfl
 have hy:∀ i,m <= i->i < b->gd (A ++ [x] ++ Y ++ B) i=gd Y (i - m):=fun i h1 h2=>by
  rw [gd_Y (by simp;omega) (by simp;omega)]
  exact wJf (by simp;omega)
 obtain ⟨k,k1,k2,k3,k4,k5⟩:=wHV (body:=fun (x14,x15) =>
   if x14 < x15 then
    (chk (w64 ((wAg (w64 (x14 + x15))) / 2)) (A ++ [x] ++ Y ++ B).length).bind fun _ =>
    (chk (a:Int) (A ++ [x] ++ Y ++ B).length).bind fun _ =>
    (c ((gd (A ++ [x] ++ Y ++ B) (w64 ((wAg (w64 (x14 + x15))) / 2)).toNat),(gd (A ++ [x] ++ Y ++ B) (a:Int).toNat))).bind fun x43 =>
    if x43 < 0 then
     some (.inl (w64 ((w64 ((wAg (w64 (x14 + x15))) / 2)) + 1),x15))
    else
     some (.inl (x14,w64 ((wAg (w64 (x14 + x15))) / 2)))
   else
    esc (some x14)) (fun h=>decide (K (gd Y (h - m)) < K x)) (lo:=m) (hi:=b) (by omega) (by omega) (fun i j h1 h2 h3 h4=>by
    have h4:K (gd Y (j - m)) < K x:=by simpa using h4
    have:=wJh ho (i:=i - m) (j:=j - m) (by omega) (by omega)
    simpa using (by omega:K (gd Y (i - m)) < K x)) (fun i j h1 h2 h3=>by
    have hh:(i + j) / 2 - m < Y.length:=by omega
    have hin:=hY _ (wBI hh)
    simp only
    rw [if_pos (by omega),wIp (by omega),wBR (by omega) (by simp only [nB,na];omega),nA,wBR (by omega) (by simp only [nB,na];omega),nA]
    simp only [nh]
    rw [hx0,hy _ (by omega) (by omega)]
    obtain ⟨v,hv,hv2⟩:=hc (gd Y ((i + j) / 2 - m)) x hin.1 hin.2 hx.1 hx.2
    rw [hv,nA]
    by_cases g:K (gd Y ((i + j) / 2 - m)) < K x
    ·rw [if_pos (hv2.2 g),if_pos (by simpa using g),wGP (by omega)]
    ·rw [if_neg (fun h=>g (hv2.1 h)),if_neg (by simpa using g)]) (fun i h1 h2=>by
    simp only
    rw [if_neg (by omega)]
    rfl)
 rw [k3,nA,wIn (by omega) (by omega)]
 obtain ⟨j,rfl⟩:∃ j,k=m + j:=⟨k - m,by omega⟩
 have hj:j <= Y.length:=by omega
 refine ⟨Y.take j ++ x :: Y.drop j,?_,?_,?_⟩
 ·refine wKo (m:=j) (fun i=>(A ++ Y.take i ++ x :: (Y.drop i ++ B),((a + i:Nat):Int))) (fun i hi=>?_) ?_ (by simp) (by omega)
  ·have e:(A ++ Y.take i).length=a + i:=by rw [nB,nI];omega
   have e2:Y.drop i ++ B=gd Y i :: (Y.drop (i + 1) ++ B):=by rw [wIm (by omega)];rfl
   obtain ⟨s1,s2,_,s4⟩:=wIo (A ++ Y.take i) (Y.drop (i + 1) ++ B) x (gd Y i)
   rw [e] at s1 s2 s4
   have hll:(A ++ Y.take i ++ x :: gd Y i :: (Y.drop (i + 1) ++ B)).length <= 1000/\a + i + 2 <= (A ++ Y.take i ++ x :: gd Y i :: (Y.drop (i + 1) ++ B)).length:=by
    rw [nB,e];simp only [nZ,nB,nW];omega
   simp only
   rw [if_pos (by omega),e2,wGP (by omega),wBR (by omega) (by omega),nA,wBR (by omega) (by omega),nA,wBR (by omega) (by rw [nu];omega),nA]
   simp only [nh]
   rw [s1,s2,s4,wGO (by omega)]
   simp [Nat.add_assoc]
  ·simp only
   rw [if_neg (by omega)]
   simp
 ·simp only [List.singleton_append]
  refine (List.perm_middle).trans ?_
  rw [nL]
 ·rw [<- nL j Y,nN] at ho
  rw [nN,nY]
  refine ⟨ho.1,⟨fun y hy=>?_,ho.2.1⟩,fun y hy z hz=>?_⟩
  ·obtain ⟨i,hi,e⟩:=nR hy
   rw [nW] at hi
   have h5:=k5 (m + (j + i)) (by omega) (by omega)
   rw [show m + (j + i) - m=j + i by omega] at h5
   have e':gd Y (j + i)=y:=by rw [wEK (by omega),<- e,kO]
   rw [e'] at h5
   have h5:¬ K y < K x:=by simpa using h5
   exact Lr.of (by omega) (hlt y (List.mem_of_mem_drop hy))
  ·rcases nJ.1 hz with e0 | hz
   ·rw [e0]
    obtain ⟨i,hi,e⟩:=nR hy
    rw [nI] at hi
    have h4:=k4 (m + i) (by omega) (by omega)
    rw [show m + i - m=i by omega] at h4
    have e':gd Y i=y:=by rw [wEK (by omega),<- e,kP]
    rw [e'] at h4
    exact .inl (by simpa using h4)
   ·exact ho.2.2 y hy z hz
theorem wTI {K:Int->Int} {n:Int} {c:(Int × Int)->Option Int} (hc:ByK K n c) {A X B:List Int} {y:Int} (hy:0 <= y/\y < n) (hX:In n X) (hlt:∀ x ∈ X,x < y) (ho:X.Pairwise (Lr K)) (hl:(A ++ X ++ [y] ++ B).length <= 1000) {a m b:Nat} (ha:A.length=a) (hm:a + X.length=m) (hb:m + 1=b) :
    ∃ Z,sm2 (A ++ X ++ [y] ++ B) (a:Int) (m:Int) (b:Int) c=some (A ++ Z ++ B)/\Z.Perm (X ++ [y])/\Z.Pairwise (Lr K):=by
  have hl2:=hl
  simp only [nB,na] at hl2
  unfold sm2
  have hy0:gd (A ++ X ++ [y] ++ B) m=y:=by rw [gd_Y (by omega) (by simp;omega),show m - (A.length + X.length)=0 by omega];rfl
  have hx:∀ i,a <= i->i < m->gd (A ++ X ++ [y] ++ B) i=gd X (i - a):=fun i h1 h2=>by rw [gd_X (by omega) (by omega),ha]
  obtain ⟨k,k1,k2,k3,k4,k5⟩:=wHV (body:=fun (x137,x138) =>
        if x137 < x138 then
          (chk (m:Int) (A ++ X ++ [y] ++ B).length).bind fun _ =>
          (chk (w64 ((wAg (w64 (x137 + x138))) / 2)) (A ++ X ++ [y] ++ B).length).bind fun _ =>
          (c ((gd (A ++ X ++ [y] ++ B) (m:Int).toNat),(gd (A ++ X ++ [y] ++ B) (w64 ((wAg (w64 (x137 + x138))) / 2)).toNat))).bind fun x166 =>
          if x166 < 0 then
            some (.inl (x137,w64 ((wAg (w64 (x137 + x138))) / 2)))
          else
            some (.inl (w64 ((w64 ((wAg (w64 (x137 + x138))) / 2)) + 1),x138))
        else
          esc (some x137)) (fun h=>decide (K (gd X (h - a)) <= K y)) (lo:=a) (hi:=m) (by omega) (by omega) (fun i j h1 h2 h3 h4=>by
        have h4:K (gd X (j - a)) <= K y:=by simpa using h4
        have:=wJh ho (i:=i - a) (j:=j - a) (by omega) (by omega)
        simpa using (by omega:K (gd X (i - a)) <= K y)) (fun i j h1 h2 h3=>by
        have hh:(i + j) / 2 - a < X.length:=by omega
        have hin:=hX _ (wBI hh)
        simp only
        rw [if_pos (by omega),wIp (by omega),wBR (by omega) (by simp only [nB,na];omega),nA,wBR (by omega) (by simp only [nB,na];omega),nA]
        simp only [nh]
        rw [hy0,hx _ (by omega) (by omega)]
        obtain ⟨v,hv,hv2⟩:=hc y (gd X ((i + j) / 2 - a)) hy.1 hy.2 hin.1 hin.2
        rw [hv,nA]
        by_cases g:K y < K (gd X ((i + j) / 2 - a))
        · rw [if_pos (hv2.2 g),if_neg (by simpa using g)]
        · rw [if_neg (fun h=>g (hv2.1 h)),if_pos (by simpa using g),wGP (by omega)]) (fun i h1 h2=>by
        simp only
        rw [if_neg (by omega)]
        rfl)
  rw [k3,nA]
  obtain ⟨j,rfl⟩:∃ j,k=a + j:=⟨k - a,by omega⟩
  have hj:j <= X.length:=by omega
  refine ⟨X.take j ++ y :: X.drop j,?_,?_,?_⟩
  · refine wKo (m:=X.length - j) (fun i=>(A ++ X.take (X.length - i) ++ y :: (X.drop (X.length - i) ++ B),((m - i:Nat):Int))) (fun i hi=>?_) ?_ (by simp) (by omega)
    · obtain ⟨q,hq⟩:∃ q,X.length - i=q + 1:=⟨X.length - i - 1,by omega⟩
      have hq1:X.length - (i + 1)=q:=by omega
      have e:(A ++ X.take q).length=a + q:=by rw [nB,nI];omega
      obtain ⟨s1,s2,s3,_⟩:=wIo (A ++ X.take q) (X.drop (q + 1) ++ B) (gd X q) y
      rw [e] at s1 s2 s3
      have e2:A ++ X.take (q + 1) ++ y :: (X.drop (q + 1) ++ B)=A ++ X.take q ++ gd X q :: y :: (X.drop (q + 1) ++ B):=by rw [wGO (by omega)];simp
      have hll:a + q + 2 <= (A ++ X.take q ++ gd X q :: y :: (X.drop (q + 1) ++ B)).length:=by rw [nB,e];simp only [nZ];omega
      have em:m - i=a + q + 1:=by omega
      simp only
      rw [hq,hq1,e2,em,if_pos (by omega),wIn (by omega) (by omega),wBR (by omega) (by omega),nA,wBR (by omega) (by omega),nA,wBR (by omega) (by rw [nu];omega),nA]
      simp only [nh,aA]
      rw [s1,s2,s3,show m - (i + 1)=a + q by omega,wIm (l:=X) (k:=q) (by omega)]
      rfl
    · simp only
      rw [show X.length - (X.length - j)=j by omega,if_neg (by omega)]
      simp
  · refine (List.perm_middle).trans ?_
    rw [nL]
    exact (kc y X).symm
  · rw [<- nL j X,nN] at ho
    rw [nN,nY]
    refine ⟨ho.1,⟨fun x hx=>?_,ho.2.1⟩,fun x hx z hz=>?_⟩
    · obtain ⟨i,hi,e⟩:=nR hx
      rw [nW] at hi
      have h5:=k5 (a + (j + i)) (by omega) (by omega)
      rw [show a + (j + i) - a=j + i by omega] at h5
      have e':gd X (j + i)=x:=by rw [wEK (by omega),<- e,kO]
      rw [e'] at h5
      exact .inl (by simpa using h5)
    · rcases nJ.1 hz with e0 | hz
      · rw [e0]
        obtain ⟨i,hi,e⟩:=nR hx
        rw [nI] at hi
        have h4:=k4 (a + i) (by omega) (by omega)
        rw [show a + i - a=i by omega] at h4
        have e':gd X i=x:=by rw [wEK (by omega),<- e,kP]
        rw [e'] at h4
        exact Lr.of (by simpa using h4) (hlt x (kY hx))
      · exact ho.2.2 x hx z hz
end Go.Proofs.YtkeeechdijfkhaaGreat
namespace Go.Proofs.YtkeeechdijfkhaaGreat
open Go.KL
abbrev Rec:=(List Int)->Int->Int->Int->((Int × Int)->Option Int)->Option ((List Int))
def wLm (K:Int->Int) (n:Int) (c:(Int × Int)->Option Int) (r:Rec) (N:Nat):Prop:=∀ A X Y B:List Int,0 < X.length->0 < Y.length->In n X->In n Y->(∀ x ∈ X,∀ y ∈ Y,x < y)->X.Pairwise (Lr K)->Y.Pairwise (Lr K)->(A ++ X ++ Y ++ B).length <= 1000->X.length + Y.length < N ->
 ∃ Z,r (A ++ X ++ Y ++ B) ((A.length:Nat):Int) ((A.length + X.length:Nat):Int) ((A.length + X.length + Y.length:Nat):Int) c=some (A ++ Z ++ B)/\Z.Perm (X ++ Y)/\Z.Pairwise (Lr K)
theorem wLn {K:Int->Int} {n:Int} {c:(Int × Int)->Option Int} {r:Rec} {N:Nat} (H:wLm K n c r N) {A X Y B:List Int} (hX:In n X) (hY:In n Y) (hlt:∀ x ∈ X,∀ y ∈ Y,x < y) (oX:X.Pairwise (Lr K)) (oY:Y.Pairwise (Lr K)) (hl:(A ++ X ++ Y ++ B).length <= 1000) (hN:X.length + Y.length < N) {a k m:Nat} (ha:A.length=a) (hk:a + X.length=k) (hm:k + Y.length=m) (R:List Int->Option (List Int)) :
  ∃ Z,(if (a:Int) < (k:Int) then (if (k:Int) < (m:Int) then (r (A ++ X ++ Y ++ B) (a:Int) (k:Int) (m:Int) c).bind R else R (A ++ X ++ Y ++ B)) else R (A ++ X ++ Y ++ B))=R (A ++ Z ++ B)/\Z.Perm (X ++ Y)/\Z.Pairwise (Lr K):=by
 by_cases h1:(a:Int) < (k:Int)
 ·rw [if_pos h1]
  by_cases h2:(k:Int) < (m:Int)
  ·rw [if_pos h2]
   obtain ⟨Z,e,p,o⟩:=H A X Y B (by omega) (by omega) hX hY hlt oX oY hl hN
   rw [ha,hk,hm] at e
   exact ⟨Z,by rw [e,nA],p,o⟩
  ·rw [if_neg h2]
   have:Y=[]:=nk (by omega)
   subst this
   exact ⟨X,by simp,by simp,oX⟩
 ·rw [if_neg h1]
  have:X=[]:=nk (by omega)
  subst this
  exact ⟨Y,by simp,by simp,oY⟩
theorem wTJ {K:Int->Int} {n:Int} {c:(Int × Int)->Option Int} {r:Rec} {N:Nat} (H:wLm K n c r N) {A X1 X2 Y1 Y2 B:List Int} (hX:In n (X1 ++ X2)) (hY:In n (Y1 ++ Y2)) (hlt:∀ x ∈ X1 ++ X2,∀ y ∈ Y1 ++ Y2,x < y) (oX:(X1 ++ X2).Pairwise (Lr K)) (oY:(Y1 ++ Y2).Pairwise (Lr K))
  (o12:∀ x ∈ X1,∀ y ∈ Y2,Lr K x y) (o21:∀ y ∈ Y1,∀ x ∈ X2,Lr K y x) (hl:(A ++ X1 ++ Y1 ++ X2 ++ Y2 ++ B).length <= 1000) (hN1:X1.length + Y1.length < N) (hN2:X2.length + Y2.length < N) {a k mid e b:Nat} (ha:A.length=a) (hk:a + X1.length=k) (hm:k + Y1.length=mid) (he:mid + X2.length=e) (hb:e + Y2.length=b) :
  ∃ Z,smT r (A ++ X1 ++ Y1 ++ X2 ++ Y2 ++ B) (a:Int) (b:Int) (mid:Int) (e:Int) (k:Int) c=some (A ++ Z ++ B)/\Z.Perm ((X1 ++ X2) ++ (Y1 ++ Y2))/\Z.Pairwise (Lr K):=by
 rw [nN] at oX oY
 have T:∀ l:List Int,smT r l (a:Int) (b:Int) (mid:Int) (e:Int) (k:Int) c=if (a:Int) < (k:Int) then (if (k:Int) < (mid:Int) then (r l (a:Int) (k:Int) (mid:Int) c).bind (fun l=>if (mid:Int) < (e:Int) then (if (e:Int) < (b:Int) then (r l (mid:Int) (e:Int) (b:Int) c).bind some else some l) else some l) else (fun l=>if (mid:Int) < (e:Int) then (if (e:Int) < (b:Int) then (r l (mid:Int) (e:Int) (b:Int) c).bind some else some l) else some l) l) else (fun l=>if (mid:Int) < (e:Int) then (if (e:Int) < (b:Int) then (r l (mid:Int) (e:Int) (b:Int) c).bind some else some l) else some l) l:=fun l=>rfl
 obtain ⟨Z1,e1,p1,o1⟩:=wLn H (A:=A) (X:=X1) (Y:=Y1) (B:=X2 ++ Y2 ++ B) (fun x hx=>hX x (nb _ hx)) (fun y hy=>hY y (nb _ hy)) (fun x hx y hy=>hlt x (nb _ hx) y (nb _ hy)) oX.1 oY.1 (by simpa only [nG] using hl) hN1 ha hk hm (fun l=>if (mid:Int) < (e:Int) then (if (e:Int) < (b:Int) then (r l (mid:Int) (e:Int) (b:Int) c).bind some else some l) else some l)
 have hZ1:Z1.length=X1.length + Y1.length:=by rw [p1.length_eq,nB]
 have hl2:=hl
 simp only [nB] at hl2
 obtain ⟨Z2,e2,p2,o2⟩:=wLn H (A:=A ++ Z1) (X:=X2) (Y:=Y2) (B:=B) (fun x hx=>hX x (nU _ hx)) (fun y hy=>hY y (nU _ hy)) (fun x hx y hy=>hlt x (nU _ hx) y (nU _ hy)) oX.2.1 oY.2.1 (by simp only [nB];omega) hN2 (a:=mid) (by rw [nB];omega) he hb some
 refine ⟨Z1 ++ Z2,?_,?_,?_⟩
 ·rw [T]
  have q:A ++ X1 ++ Y1 ++ X2 ++ Y2 ++ B=A ++ X1 ++ Y1 ++ (X2 ++ Y2 ++ B):=by simp only [nG]
  rw [q,e1]
  have q2:A ++ Z1 ++ (X2 ++ Y2 ++ B)=A ++ Z1 ++ X2 ++ Y2 ++ B:=by simp only [nG]
  rw [q2,e2]
  simp only [nG]
 ·refine (p1.append p2).trans ?_
  rw [nG,nG]
  refine kr _ ?_
  rw [<- nG,<- nG]
  exact List.Perm.append_right _ List.perm_append_comm
 ·rw [nN]
  refine ⟨o1,o2,fun x hx y hy=>?_⟩
  rcases nM.1 (p1.mem_iff.1 hx) with hx | hx <;> rcases nM.1 (p2.mem_iff.1 hy) with hy | hy
  ·exact oX.2.2 x hx y hy
  ·exact o12 x hx y hy
  ·exact o21 x hx y hy
  ·exact oY.2.2 x hx y hy
theorem wTK {K:Int->Int} {n:Int} {c:(Int × Int)->Option Int} {r:Rec} {N:Nat} (H:wLm K n c r N) {A X1 X2 Y1 Y2 B:List Int} (hX:In n (X1 ++ X2)) (hY:In n (Y1 ++ Y2)) (hlt:∀ x ∈ X1 ++ X2,∀ y ∈ Y1 ++ Y2,x < y) (oX:(X1 ++ X2).Pairwise (Lr K)) (oY:(Y1 ++ Y2).Pairwise (Lr K))
  (o12:∀ x ∈ X1,∀ y ∈ Y2,Lr K x y) (o21:∀ y ∈ Y1,∀ x ∈ X2,Lr K y x) (hl:(A ++ X1 ++ X2 ++ Y1 ++ Y2 ++ B).length <= 1000) (hN1:X1.length + Y1.length < N) (hN2:X2.length + Y2.length < N) {a k m mid e b:Nat} (ha:A.length=a) (hk:a + X1.length=k) (hm:k + X2.length=m) (hmid:k + Y1.length=mid) (he:m + Y1.length=e) (hb:e + Y2.length=b) :
  ∃ Z,smR r (A ++ X1 ++ X2 ++ Y1 ++ Y2 ++ B) (a:Int) (m:Int) (b:Int) (mid:Int) (e:Int) (k:Int) c=some (A ++ Z ++ B)/\Z.Perm ((X1 ++ X2) ++ (Y1 ++ Y2))/\Z.Pairwise (Lr K):=by
 have hl2:=hl
 simp only [nB] at hl2
 obtain ⟨Z,e1,p,o⟩:=wTJ H (A:=A) (B:=B) hX hY hlt oX oY o12 o21 (by simp only [nB];omega) hN1 hN2 ha hk hmid (e:=e) (by omega) hb
 refine ⟨Z,?_,p,o⟩
 rw [<- e1]
 unfold smR
 by_cases h1:k < m
 ·rw [if_pos (by omega),nA]
  by_cases h2:m < e
  ·rw [if_pos (by simp;omega)]
   have q:A ++ X1 ++ X2 ++ Y1 ++ Y2 ++ B=(A ++ X1) ++ X2 ++ Y1 ++ (Y2 ++ B):=by simp only [nG]
   have q2:A ++ X1 ++ Y1 ++ X2 ++ Y2 ++ B=(A ++ X1) ++ Y1 ++ X2 ++ (Y2 ++ B):=by simp only [nG]
   rw [q,wOc (A:=A ++ X1) (a:=k) (m:=m) (b:=e) (by rw [nB];omega) (by rw [nB];omega) (by rw [nB];omega) (by omega) (by omega) (by rw [<- q];exact hl),nA,q2]
  ·rw [if_neg (by simp;omega)]
   have:Y1=[]:=nk (by omega)
   subst this
   simp
 ·rw [if_neg (by omega),nA,if_neg (by simp)]
  have:X2=[]:=nk (by omega)
  subst this
  simp
theorem wQR {K:Int->Int} {n:Int} {c:(Int × Int)->Option Int} (hc:ByK K n c) {A X Y B:List Int} (hX:In n X) (hY:In n Y) (oX:X.Pairwise (Lr K)) (oY:Y.Pairwise (Lr K)) (hl:(A ++ X ++ Y ++ B).length <= 1000) {a m b lo hi p:Nat} (ha:A.length=a) (hm:a + X.length=m) (hb:m + Y.length=b) (h1:a <= lo) (h2:lo <= hi) (h3:hi <= m) (hp:∀ i,lo <= i->i < hi->i <= p/\m <= p - i/\p - i < b) :
  ∃ k:Nat,lo <= k/\k <= hi/\iter (smS (A ++ X ++ Y ++ B) (p:Int) c) big ((lo:Int),(hi:Int))=some (k:Int)/\(∀ i,lo <= i->i < k->K (gd X (i - a)) <= K (gd Y (p - i - m)))/\(∀ i,k <= i->i < hi->K (gd Y (p - i - m)) < K (gd X (i - a))):=by
 have hl2:=hl
 simp only [nB] at hl2
 have gx:∀ i,a <= i->i < m->gd (A ++ X ++ Y ++ B) i=gd X (i - a):=fun i g1 g2=>by rw [gd_X (by omega) (by omega),ha]
 have gy:∀ i,m <= i->i < b->gd (A ++ X ++ Y ++ B) i=gd Y (i - m):=fun i g1 g2=>by rw [gd_Y (by omega) (by omega)];exact wJf (by omega)
 obtain ⟨k,k1,k2,k3,k4,k5⟩:=wHV (body:=smS (A ++ X ++ Y ++ B) (p:Int) c) (fun i=>decide (K (gd X (i - a)) <= K (gd Y (p - i - m)))) h2 (by omega) (fun i j g1 g2 g3 g4=>by
  have g4:K (gd X (j - a)) <= K (gd Y (p - j - m)):=by simpa using g4
  have q1:=hp i g1 (by omega)
  have q2:=hp j (by omega) g3
  have l1:=wJh oX (i:=i - a) (j:=j - a) (by omega) (by omega)
  have l2:=wJh oY (i:=p - j - m) (j:=p - i - m) (by omega) (by omega)
  simpa using (by omega:K (gd X (i - a)) <= K (gd Y (p - i - m)))) (fun i j g1 g2 g3=>by
  obtain ⟨q0,q1,q2⟩:=hp ((i + j) / 2) (by omega) (by omega)
  have hx:(i + j) / 2 - a < X.length:=by omega
  have hy:p - (i + j) / 2 - m < Y.length:=by omega
  have ix:=hX _ (wBI hx)
  have iy:=hY _ (wBI hy)
  unfold smS
  simp only
  have hpb:p <= 1000000:=by omega
  rw [if_pos (by omega),wIp (by omega),wDK (by omega) hpb,wBR (by omega) (by simp only [nB];omega),nA,wBR (by omega) (by simp only [nB];omega),nA]
  simp only [nh]
  rw [gx ((i + j) / 2) (by omega) (by omega),gy (p - (i + j) / 2) q1 q2]
  obtain ⟨v,hv,hv2⟩:=hc (gd Y (p - (i + j) / 2 - m)) (gd X ((i + j) / 2 - a)) iy.1 iy.2 ix.1 ix.2
  rw [hv,nA]
  by_cases g:K (gd Y (p - (i + j) / 2 - m)) < K (gd X ((i + j) / 2 - a))
  ·rw [if_pos (hv2.2 g),if_neg (by simpa using g)]
  ·rw [if_neg (fun h=>g (hv2.1 h)),if_pos (by simpa using g),wGP (by omega)]) (fun i g1 g2=>by
  unfold smS
  simp only
  rw [if_neg (by omega)]
  rfl)
 exact ⟨k,k1,k2,k3,fun i g1 g2=>by simpa using k4 i g1 g2,fun i g1 g2=>by simpa using k5 i g1 g2⟩
theorem wTL {K:Int->Int} {n:Int} {c:(Int × Int)->Option Int} (hc:ByK K n c):∀ F:Nat,wLm K n c (wAQ F) (F + 1):=by
 intro F
 induction F with
 | zero=>intro A X Y B h1 h2 _ _ _ _ _ _ h;omega
 | succ F ih =>
  intro A X Y B hx0 hy0 hX hY hlt oX oY hl hF
  show ∃ Z,wAn (wAQ F) _ _ _ _ _=_/\_
  rw [wMe]
  have hl2:=hl
  simp only [nB] at hl2
  generalize ha:A.length=a at *
  generalize hm:a + X.length=m at *
  generalize hb:m + Y.length=b at *
  rw [wDK (a:=m) (b:=a) (by omega) (by omega),wDK (a:=b) (b:=m) (by omega) (by omega)]
  by_cases c1:X.length=1
  ·rw [if_pos (by omega)]
   obtain ⟨x,rfl⟩:=kQ.1 c1
   exact wTH hc (hX x (by simp)) hY (fun y hy=>hlt x (by simp) y hy) oY hl ha (by simpa using hm) hb
  rw [if_neg (by omega)]
  by_cases c2:Y.length=1
  ·rw [if_pos (by omega)]
   obtain ⟨y,rfl⟩:=kQ.1 c2
   exact wTI hc (hY y (by simp)) hX (fun x hx=>hlt x hx y (by simp)) oX hl ha hm (by simpa using hb)
  rw [if_neg (by omega),wIp (by omega)]
  generalize hmid:(a + b) / 2=mid at *
  rw [wES (a:=mid) (b:=m) (by omega),wIn (a:=mid + m) (by omega) (by omega)]
  have fin:∀ k:Nat,a <= k->k <= m->m + k <= mid + m->mid + m <= b + k->(a < k->mid + m < b + k->K (gd X (k - 1 - a)) <= K (gd Y (mid + m - k - m)))->(k < m->k < mid->K (gd Y (mid + m - 1 - k - m)) < K (gd X (k - a))) ->
    ∃ Z,smR (wAQ F) (A ++ X ++ Y ++ B) (a:Int) (m:Int) (b:Int) (mid:Int) (w64 (((mid + m:Nat):Int) - (k:Int))) (k:Int) c=some (A ++ Z ++ B)/\Z.Perm (X ++ Y)/\Z.Pairwise (Lr K):=by
   intro k k1 k2 k3 k4 k5 k6
   rw [wDK (by omega) (by omega)]
   have ex:X=X.take (k - a) ++ X.drop (k - a):=(nL ..).symm
   have ey:Y=Y.take (mid - k) ++ Y.drop (mid - k):=(nL ..).symm
   have lx1:(X.take (k - a)).length=k - a:=by rw [nI];omega
   have lx2:(X.drop (k - a)).length=m - k:=by rw [nW];omega
   have ly1:(Y.take (mid - k)).length=mid - k:=by rw [nI];omega
   have ly2:(Y.drop (mid - k)).length=Y.length - (mid - k):=by rw [nW]
   have mx1:∀ x ∈ X.take (k - a),∃ i,i < k - a/\gd X i=x:=fun x hx=>by
    obtain ⟨i,hi,e⟩:=nR hx
    rw [lx1] at hi
    exact ⟨i,hi,by rw [wEK (by omega),<- e,kP]⟩
   have mx2:∀ x ∈ X.drop (k - a),∃ i,k - a <= i/\i < X.length/\gd X i=x:=fun x hx=>by
    obtain ⟨i,hi,e⟩:=nR hx
    rw [lx2] at hi
    exact ⟨k - a + i,by omega,by omega,by rw [wEK (by omega),<- e,kO]⟩
   have my1:∀ y ∈ Y.take (mid - k),∃ i,i < mid - k/\gd Y i=y:=fun y hy=>by
    obtain ⟨i,hi,e⟩:=nR hy
    rw [ly1] at hi
    exact ⟨i,hi,by rw [wEK (by omega),<- e,kP]⟩
   have my2:∀ y ∈ Y.drop (mid - k),∃ i,mid - k <= i/\i < Y.length/\gd Y i=y:=fun y hy=>by
    obtain ⟨i,hi,e⟩:=nR hy
    rw [ly2] at hi
    exact ⟨mid - k + i,by omega,by omega,by rw [wEK (by omega),<- e,kO]⟩
   obtain ⟨Z,e,p,o⟩:=wTK ih (A:=A) (X1:=X.take (k - a)) (X2:=X.drop (k - a)) (Y1:=Y.take (mid - k)) (Y2:=Y.drop (mid - k)) (B:=B) (by rwa [<- ex]) (by rwa [<- ey]) (by rwa [<- ex,<- ey]) (by rwa [<- ex]) (by rwa [<- ey]) (fun x hx y hy=>by
     obtain ⟨i,i1,rfl⟩:=mx1 x hx
     obtain ⟨j,j1,j2,rfl⟩:=my2 y hy
     have h5:=k5 (by omega) (by omega)
     have l1:=wJh oX (i:=i) (j:=k - 1 - a) (by omega) (by omega)
     have l2:=wJh oY (i:=mid + m - k - m) (j:=j) (by omega) j2
     exact Lr.of (by omega) (hlt _ (wBI (by omega)) _ (wBI j2))) (fun y hy x hx=>by
     obtain ⟨i,i1,i2,rfl⟩:=mx2 x hx
     obtain ⟨j,j1,rfl⟩:=my1 y hy
     have h6:=k6 (by omega) (by omega)
     have l1:=wJh oX (i:=k - a) (j:=i) (by omega) i2
     have l2:=wJh oY (i:=j) (j:=mid + m - 1 - k - m) (by omega) (by omega)
     exact .inl (by omega)) (by
     have:A ++ X.take (k - a) ++ X.drop (k - a) ++ Y.take (mid - k) ++ Y.drop (mid - k) ++ B=A ++ X ++ Y ++ B:=by rw [nG A,<- ex,nG (A ++ X),<- ey]
     rw [this];exact hl) (by omega) (by omega) ha (k:=k) (m:=m) (mid:=mid) (e:=mid + m - k) (b:=b) (by omega) (by omega) (by omega) (by omega) (by omega)
   have q:A ++ X.take (k - a) ++ X.drop (k - a) ++ Y.take (mid - k) ++ Y.drop (mid - k) ++ B=A ++ X ++ Y ++ B:=by rw [nG A,<- ex,nG (A ++ X),<- ey]
   rw [q] at e
   rw [<- ex,<- ey] at p
   exact ⟨Z,e,p,o⟩
  by_cases c3:mid < m
  ·rw [if_pos (by omega),wDK (a:=mid + m) (b:=b) (by omega) (by omega)]
   obtain ⟨k,k1,k2,k3,k4,k5⟩:=wQR hc hX hY oX oY hl ha hm hb (lo:=mid + m - b) (hi:=mid) (p:=mid + m - 1) (by omega) (by omega) (by omega) (fun i g1 g2=>by omega)
   rw [k3,nA]
   refine fin k (by omega) (by omega) (by omega) (by omega) (fun g1 g2=>?_) (fun g1 g2=>k5 k (by omega) g2)
   have:=k4 (k - 1) (by omega) (by omega)
   rwa [show mid + m - 1 - (k - 1) - m=mid + m - k - m by omega] at this
  ·rw [if_neg (by omega)]
   obtain ⟨k,k1,k2,k3,k4,k5⟩:=wQR hc hX hY oX oY hl ha hm hb (lo:=a) (hi:=m) (p:=mid + m - 1) (by omega) (by omega) (by omega) (fun i g1 g2=>by omega)
   rw [k3,nA]
   refine fin k (by omega) (by omega) (by omega) (by omega) (fun g1 g2=>?_) (fun g1 g2=>k5 k (by omega) g1)
   have:=k4 (k - 1) (by omega) (by omega)
   rwa [show mid + m - 1 - (k - 1) - m=mid + m - k - m by omega] at this
end Go.Proofs.YtkeeechdijfkhaaGreat
namespace Go.Proofs.YtkeeechdijfkhaaGreat
open Go.KL
def seg (l:List Int) (i j:Nat):List Int:=(l.drop i).take (j - i)
def rng (i j:Nat):List Int:=(nv (j - i)).map fun (k:Nat)=>((i + k:Nat):Int)
theorem wLo {i j:Nat}:∀ x ∈ rng i j,(i:Int) <= x/\x < j:=by
 intro x hx
 obtain ⟨k,hk,rfl⟩:=kG.1 hx
 have:=kD.1 hk
 omega
theorem wTM (i j:Nat):(rng i j).Pairwise (· < ·):=by
 unfold rng
 rw [List.pairwise_map]
 exact List.pairwise_lt_range.imp fun h=>by omega
theorem wET (i j:Nat):(rng i j).length=j - i:=by simp [rng]
theorem wRe {a m b:Nat} (h1:a <= m) (h2:m <= b):rng a m ++ rng m b=rng a b:=by
 unfold rng
 rw [show b - a=(m - a) + (b - m) by omega,List.range_add,List.map_append,List.map_map]
 congr 1
 refine List.map_congr_left fun k _=>?_
 simp only [Function.comp_apply]
 omega
theorem wIq {l:List Int} {i j:Nat} (h:j <= l.length):(seg l i j).length=j - i:=by
 unfold seg;rw [nI,nW];omega
theorem wHW {l:List Int} {a b:Nat} (h1:a <= b):l=l.take a ++ seg l a b ++ l.drop b:=by
 unfold seg
 rw [nG]
 conv=>lhs;rw [<- nL a l]
 congr 1
 conv=>lhs;rw [<- nL (b - a) (l.drop a)]
 congr 1
 rw [List.drop_drop]
 congr 1
 omega
theorem wMf {l:List Int} {a m b:Nat} (h1:a <= m) (h2:m <= b):l=l.take a ++ seg l a m ++ seg l m b ++ l.drop b:=by
 conv=>lhs;rw [wHW (l:=l) h2]
 congr 1
 congr 1
 unfold seg
 conv=>lhs;rw [<- nL a (l.take m)]
 rw [List.take_take,ny h1,List.drop_take]
theorem wOd {A Z Z' B:List Int} (h:Z.length=Z'.length) {i j:Nat} (hij:j <= A.length \/ A.length + Z.length <= i):seg (A ++ Z ++ B) i j=seg (A ++ Z' ++ B) i j:=by
 unfold seg
 apply ki
 intro t
 rw [nw,nw]
 split
 ·rw [kM,kM]
  rcases hij with g | g
  ·rw [nS (by simp;omega),nS (by omega),nS (by simp;omega),nS (by omega)]
  ·rw [nV (by simp;omega),nV (by simp;omega)]
   congr 1
   simp only [nB]
   omega
 ·rfl
theorem wOe {A Z B:List Int} {a b:Nat} (ha:A.length=a) (hb:a + Z.length=b):seg (A ++ Z ++ B) a b=Z:=by
 unfold seg
 rw [nG,<- ha,List.drop_left,List.take_append_of_le_length (by omega),kR (by omega)]
def Srt (K:Int->Int) (l:List Int) (i j:Nat):Prop:=(seg l i j).Perm (rng i j)/\(seg l i j).Pairwise (Lr K)
theorem wIK {K:Int->Int} {n:Nat} {c:(Int × Int)->Option Int} (hc:ByK K n c) {l:List Int} (hl:l.length=n) (hn:n <= 64) {a b:Nat} (hab:a <= b) (hb:b <= n) (hs:seg l a b=rng a b) :
  ∃ l',wAU l (a:Int) (b:Int) c=some l'/\l'.length=n/\Srt K l' a b/\∀ i j,j <= a \/ b <= i->seg l' i j=seg l i j:=by
 have e:=wHW (l:=l) hab
 have la:(l.take a).length=a:=by rw [nI];omega
 have ls:=wIq (l:=l) (i:=a) (j:=b) (by omega)
 obtain ⟨Z,h1,h2,h3⟩:=wJg hc (A:=l.take a) (X:=seg l a b) (B:=l.drop b) (fun x hx=>by rw [hs] at hx;have:=wLo x hx;omega) (by rw [hs];exact wTM a b) (by rw [<- e];omega) (a:=a) (b:=b) la (by rw [la,ls];omega)
 have lz:Z.length=b - a:=by rw [h2.length_eq,ls]
 rw [<- e] at h1
 refine ⟨_,h1,?_,?_,fun i j hij=>?_⟩
 ·have:=congrArg List.length e
  simp only [nB] at this ⊢
  omega
 ·rw [Srt,wOe la (by omega)]
  exact ⟨by rw [<- hs];exact h2,h3⟩
 ·conv=>rhs;rw [e]
  exact wOd (by omega) (by omega)
theorem wJi {K:Int->Int} {n:Nat} {c:(Int × Int)->Option Int} (hc:ByK K n c) {l:List Int} (hl:l.length=n) (hn:n <= 64) {a m b:Nat} (ham:a < m) (hmb:m < b) (hb:b <= n) (h1:Srt K l a m) (h2:Srt K l m b) :
  ∃ l',wAQ 1000 l (a:Int) (m:Int) (b:Int) c=some l'/\l'.length=n/\Srt K l' a b/\∀ i j,j <= a \/ b <= i->seg l' i j=seg l i j:=by
 have e:=wMf (l:=l) (ko ham) (ko hmb)
 have e2:=wHW (l:=l) (a:=a) (b:=b) (by omega)
 have la:(l.take a).length=a:=by rw [nI];omega
 have l1:=wIq (l:=l) (i:=a) (j:=m) (by omega)
 have l2:=wIq (l:=l) (i:=m) (j:=b) (by omega)
 have l3:=wIq (l:=l) (i:=a) (j:=b) (by omega)
 have i1:∀ x ∈ seg l a m,(a:Int) <= x/\x < m:=fun x hx=>wLo x (h1.1.mem_iff.1 hx)
 have i2:∀ x ∈ seg l m b,(m:Int) <= x/\x < b:=fun x hx=>wLo x (h2.1.mem_iff.1 hx)
 obtain ⟨Z,g1,g2,g3⟩:=wTL hc 1000 (l.take a) (seg l a m) (seg l m b) (l.drop b) (by omega) (by omega) (fun x hx=>by have:=i1 x hx;omega) (fun x hx=>by have:=i2 x hx;omega) (fun x hx y hy=>by have:=i1 x hx;have:=i2 y hy;omega) h1.2 h2.2 (by rw [<- e];omega) (by omega)
 rw [<- e,la,l1,l2,show a + (m - a)=m by omega,show m + (b - m)=b by omega] at g1
 have lz:Z.length=b - a:=by rw [g2.length_eq,nB,l1,l2];omega
 refine ⟨_,g1,?_,?_,fun i j hij=>?_⟩
 ·have:=congrArg List.length e2
  simp only [nB] at this ⊢
  omega
 ·rw [Srt,wOe la (by omega)]
  refine ⟨?_,g3⟩
  rw [<- wRe (ko ham) (ko hmb)]
  exact g2.trans (h1.1.append h2.1)
 ·conv=>rhs;rw [e2]
  exact wOd (by omega) (by omega)
def Blk (K:Int->Int) (n bs:Nat) (l:List Int):Prop:=∀ s,bs * s < n->Srt K l (bs * s) (min (bs * s + bs) n)
theorem Srt.same {K:Int->Int} {l l':List Int} {i j:Nat} (h:Srt K l i j) (e:seg l' i j=seg l i j):Srt K l' i j:=by unfold Srt;rw [e];exact h
theorem wKq {K:Int->Int} {n:Nat} {c:(Int × Int)->Option Int} (hc:ByK K n c) (hn:n <= 64):∃ l a l',iter (fun (l16,x17,x18) =>
  if x18 <= (n:Int) then
   (wAU l16 x17 x18 c).bind fun x39 =>
   some (.inl (x39,x18,w64 (x18 + 20)))
  else
   esc (some (l16,x17))) big (rng 0 n,0,20)=some (l,a)/\wAU l a (n:Int) c=some l'/\l'.length=n/\Blk K n 20 l':=by
 obtain ⟨r,h1,l,t,rfl,h2,h3,h4,h5,h6⟩:=wDi (body:=fun (l16,x17,x18) =>
  if x18 <= (n:Int) then
   (wAU l16 x17 x18 c).bind fun x39 =>
   some (.inl (x39,x18,w64 (x18 + 20)))
  else
   esc (some (l16,x17))) (fun t s=>∃ l,s=(l,((20 * t:Nat):Int),((20 * t + 20:Nat):Int))/\l.length=n/\20 * t <= n/\(∀ s,s < t->Srt K l (20 * s) (20 * s + 20))/\(∀ i j,20 * t <= i->j <= n->seg l i j=rng i j))
  (fun r=>∃ l t,r=(l,((20 * t:Nat):Int))/\l.length=n/\20 * t <= n/\n < 20 * t + 20/\(∀ s,s < t->Srt K l (20 * s) (20 * s + 20))/\(∀ i j,20 * t <= i->j <= n->seg l i j=rng i j)) 4
  (fun t s ht ⟨l,hs,g1,g2,g3,g4⟩=>by
   subst hs
   simp only
   by_cases h:((20 * t + 20:Nat):Int) <= (n:Int)
   ·left
    obtain ⟨l',e1,e2,e3,e4⟩:=wIK hc g1 hn (a:=20 * t) (b:=20 * t + 20) (by omega) (by omega) (g4 _ _ (nK _) (by omega))
    have ew:w64 (((20 * t + 20:Nat):Int) + 20)=((20 * (t + 1) + 20:Nat):Int):=by
     have:=wES (a:=20 * t + 20) (b:=20) (by omega)
     rw [show ((20:Nat):Int)=20 from rfl] at this
     rw [this]
     omega
    rw [if_pos h,e1,nA,ew]
    refine ⟨by omega,_,rfl,l',by rw [show 20 * t + 20=20 * (t + 1) by omega],e2,by omega,fun s hs=>?_,fun i j hi hj=>?_⟩
    ·by_cases c1:s=t
     ·rw [c1];exact e3
     ·exact (g3 s (by omega)).same (e4 _ _ (by omega))
    ·rw [e4 _ _ (by omega)]
     exact g4 i j (by omega) hj
   ·right
    rw [if_neg h]
    exact ⟨_,rfl,l,t,rfl,g1,g2,by omega,g3,g4⟩)
  (s0:=(rng 0 n,0,20)) ⟨rng 0 n,rfl,by rw [wET];omega,by omega,fun s hs=>by omega,fun i j _ hj=>by
   unfold seg
   apply ki
   intro q
   rw [nw]
   split
   ·rw [kM]
    simp only [rng,List.getElem?_map]
    rw [ky (by omega),ky (by omega)]
    simp
   ·rw [kC (by rw [wET];omega)]⟩ (by omega)
 obtain ⟨l',e1,e2,e3,e4⟩:=wIK hc h2 hn (a:=20 * t) (b:=n) h3 (nK _) (h6 _ _ (nK _) (nK _))
 refine ⟨l,_,l',h1,e1,e2,fun s hs=>?_⟩
 by_cases c1:s=t
 ·rw [c1,kA (by omega)];exact e3
 ·have hlt:s < t:=by omega
  rw [ny (by omega)]
  exact (h5 s hlt).same (e4 _ _ (by omega))
theorem wPj {K:Int->Int} {n:Nat} {c:(Int × Int)->Option Int} (hc:ByK K n c) (hn:n <= 64) {bs:Nat} (hbs:bs=20 \/ bs=40) (hlt:bs < n) {l:List Int} (hl:l.length=n) (hB:Blk K n bs l) :
    ∃ l',((iter (fun (l121,x122,x123) =>
        if x123 <= (n:Int) then
          (wAQ 1000 l121 x122 (w64 (x122 + (bs:Int))) x123 c).bind fun x146 =>
          some (.inl (x146,x123,w64 (x123 + (w64 (2 * (bs:Int))))))
        else
          esc (some (l121,x122))) big (l,0,w64 (2 * (bs:Int)))).bind fun (l107,x108) =>
      if (w64 (x108 + (bs:Int))) < (n:Int) then
        (wAQ 1000 l107 x108 (w64 (x108 + (bs:Int))) (n:Int) c).bind fun x182 =>
        some (.inl (x182,w64 ((bs:Int) * 2)))
      else
        some (.inl (l107,w64 ((bs:Int) * 2))))=some (Sum.inl (β:=List Int) (l',((2 * bs:Nat):Int)))/\l'.length=n/\Blk K n (2 * bs) l':=by
  have e0:w64 (2 * (bs:Int))=((2 * bs:Nat):Int):=by rw [wAb (by omega) (by omega)];omega
  have e00:w64 ((bs:Int) * 2)=((2 * bs:Nat):Int):=by rw [wAb (by omega) (by omega)];omega
  rw [e0,e00]
  obtain ⟨r,h1,m,t,rfl,h2,h3,h4,h5,h6⟩:=wDi (body:=fun (l121,x122,x123) =>
        if x123 <= (n:Int) then
          (wAQ 1000 l121 x122 (w64 (x122 + (bs:Int))) x123 c).bind fun x146 =>
          some (.inl (x146,x123,w64 (x123 + ((2 * bs:Nat):Int))))
        else
          esc (some (l121,x122))) (fun t s=>∃ l,s=(l,((2 * bs * t:Nat):Int),((2 * bs * t + 2 * bs:Nat):Int))/\l.length=n/\2 * bs * t <= n/\(∀ s,s < t->Srt K l (2 * bs * s) (2 * bs * s + 2 * bs))/\(∀ s,2 * t <= s->bs * s < n->Srt K l (bs * s) (min (bs * s + bs) n)))
    (fun r=>∃ l t,r=(l,((2 * bs * t:Nat):Int))/\l.length=n/\2 * bs * t <= n/\n < 2 * bs * t + 2 * bs/\(∀ s,s < t->Srt K l (2 * bs * s) (2 * bs * s + 2 * bs))/\(∀ s,2 * t <= s->bs * s < n->Srt K l (bs * s) (min (bs * s + bs) n))) 4
    (fun t s ht ⟨l,hs,g1,g2,g3,g4⟩=>by
      subst hs
      simp only
      by_cases h:((2 * bs * t + 2 * bs:Nat):Int) <= (n:Int)
      · left
        have s1:=g4 (2 * t) (nK _) (by rcases hbs with rfl | rfl <;> omega)
        have s2:=g4 (2 * t + 1) (by omega) (by rcases hbs with rfl | rfl <;> omega)
        have q1:bs * (2 * t)=2 * bs * t:=by rcases hbs with rfl | rfl <;> omega
        have q2:bs * (2 * t + 1)=2 * bs * t + bs:=by rcases hbs with rfl | rfl <;> omega
        rw [q1,ny (by omega)] at s1
        rw [q2,ny (by omega),show 2 * bs * t + bs + bs=2 * bs * t + 2 * bs by omega] at s2
        obtain ⟨l',e1,e2,e3,e4⟩:=wJi hc g1 hn (by omega) (by omega) (by omega) s1 s2
        have ew:w64 (((2 * bs * t + 2 * bs:Nat):Int) + ((2 * bs:Nat):Int))=((2 * bs * (t + 1) + 2 * bs:Nat):Int):=by
          rw [wES (by omega)]
          rcases hbs with rfl | rfl <;> omega
        rw [if_pos h,wES (by omega),e1,nA,ew]
        refine ⟨by rcases hbs with rfl | rfl <;> omega,_,rfl,l',by rw [show 2 * bs * t + 2 * bs=2 * bs * (t + 1) by rw [Nat.mul_add,Nat.mul_one]],e2,by rw [Nat.mul_add,Nat.mul_one];omega,fun s hs=>?_,fun s hs hs2=>?_⟩
        · by_cases c1:s=t
          · rw [c1];exact e3
          · exact (g3 s (by omega)).same (e4 _ _ (by rcases hbs with rfl | rfl <;> omega))
        · exact (g4 s (by omega) hs2).same (e4 _ _ (by rcases hbs with rfl | rfl <;> omega))
      · right
        rw [if_neg h]
        exact ⟨_,rfl,l,t,rfl,g1,g2,by omega,g3,g4⟩)
    (s0:=(l,0,((2 * bs:Nat):Int))) ⟨l,by simp,hl,by omega,fun s hs=>by omega,fun s _ hs=>hB s hs⟩ (by omega)
  rw [h1,nA]
  simp only
  rw [wES (by omega)]
  have fin:∀ l':List Int,l'.length=n->(2 * bs * t < n->Srt K l' (2 * bs * t) n)->(∀ s,s < t->Srt K l' (2 * bs * s) (2 * bs * s + 2 * bs))->Blk K n (2 * bs) l':=fun l' _ g2 g3 s hs=>by
    by_cases c1:s=t
    · subst c1
      rw [kA (by omega)]
      exact g2 hs
    · have:s < t:=by rcases hbs with rfl | rfl <;> omega
      have q:2 * bs * s + 2 * bs <= n:=by rcases hbs with rfl | rfl <;> omega
      rw [ny q]
      exact g3 s this
  have q1:bs * (2 * t)=2 * bs * t:=by rcases hbs with rfl | rfl <;> omega
  have q2:bs * (2 * t + 1)=2 * bs * t + bs:=by rcases hbs with rfl | rfl <;> omega
  by_cases h:((2 * bs * t + bs:Nat):Int) < (n:Int)
  · have s1:=h6 (2 * t) (nK _) (by omega)
    have s2:=h6 (2 * t + 1) (by omega) (by omega)
    rw [q1,ny (by omega)] at s1
    rw [q2,kA (by omega)] at s2
    obtain ⟨l',e1,e2,e3,e4⟩:=wJi hc h2 hn (by omega) (by omega) (nK _) s1 s2
    rw [if_pos h,e1,nA]
    refine ⟨l',rfl,e2,fin l' e2 (fun _=>e3) fun s hs=>(h5 s hs).same (e4 _ _ (by rcases hbs with rfl | rfl <;> omega))⟩
  · rw [if_neg h]
    refine ⟨m,rfl,h2,fin m h2 (fun g=>?_) h5⟩
    have s1:=h6 (2 * t) (nK _) (by omega)
    rw [q1,kA (by omega)] at s1
    exact s1
theorem wOf {K:Int->Int} {n:Nat} {c:(Int × Int)->Option Int} (hc:ByK K n c) (hn:n <= 64):∃ r,wAm (rng 0 n) c=some r/\r.Perm (rng 0 n)/\r.Pairwise (Lr K):=by
 unfold wAm wBJ
 rw [wET,Nat.sub_zero]
 obtain ⟨l,a,l',h1,h2,h3,h4⟩:=wKq hc hn
 rw [h1,nA]
 simp only
 rw [h2,nA]
 obtain ⟨r,g1,g2,g3⟩:=wDi (body:=fun (l88,x89) =>
  if x89 < (n:Int) then
   (iter (fun (l121,x122,x123) =>
    if x123 <= (n:Int) then
     (wAQ 1000 l121 x122 (w64 (x122 + x89)) x123 c).bind fun x146 =>
     some (.inl (x146,x123,w64 (x123 + (w64 (2 * x89)))))
    else
     esc (some (l121,x122))) big (l88,0,w64 (2 * x89))).bind fun (l107,x108) =>
   if (w64 (x108 + x89)) < (n:Int) then
    (wAQ 1000 l107 x108 (w64 (x108 + x89)) (n:Int) c).bind fun x182 =>
    some (.inl (x182,w64 (x89 * 2)))
   else
    some (.inl (l107,w64 (x89 * 2)))
  else
   esc (some l88)) (fun k s=>∃ l bs,s=(l,((bs:Nat):Int))/\(k=0/\bs=20 \/ k=1/\bs=40 \/ k=2/\bs=80)/\l.length=n/\Blk K n bs l) (fun r=>r.length=n/\Srt K r 0 n) 3
  (fun k s hk ⟨l,bs,hs,q1,q2,q3⟩=>by
   subst hs
   simp only
   by_cases h:((bs:Nat):Int) < (n:Int)
   ·left
    obtain ⟨l2,e1,e2,e3⟩:=wPj hc hn (bs:=bs) (by omega) (by omega) q2 q3
    rw [if_pos h,e1]
    exact ⟨by omega,_,rfl,l2,2 * bs,rfl,by omega,e2,e3⟩
   ·right
    rw [if_neg h]
    refine ⟨_,rfl,q2,?_⟩
    by_cases z:n=0
    ·subst z
     have:l=[]:=nk q2
     subst this
     exact ⟨aE _,kg⟩
    ·have:=q3 0 (by omega)
     rw [Nat.mul_zero,nz,kA (by omega)] at this
     exact this) (s0:=(l',20)) ⟨l',20,rfl,.inl ⟨rfl,rfl⟩,h3,h4⟩ (by omega)
 rw [g1,nA]
 refine ⟨r,rfl,?_⟩
 have:seg r 0 n=r:=by unfold seg;rw [List.drop_zero,kR (by omega)]
 unfold Srt at g3
 rwa [this] at g3
end Go.Proofs.YtkeeechdijfkhaaGreat
namespace Go.Proofs.YtkeeechdijfkhaaGreat
open Go.KL
theorem wJj {a b:Int} (h0:0 <= a) (hb:0 < b):∃ x,rem a b=some x/\0 <= x/\x < b:=by
 refine ⟨a.tmod b,if_neg (by omega),?_,?_⟩
 ·rw [ke h0];exact Int.emod_nonneg _ (by omega)
 ·rw [ke h0];exact Int.emod_lt_of_pos _ hb
theorem wKr (x:Int):0 <= wEe x:=by unfold wEe;omega
theorem wRf (x:Int):wEe x < 4294967296:=by unfold wEe;omega
theorem w64u (x:Int):w64 (wEe x)=wEe x:=by
 have:=wKr x
 have:=wRf x
 exact wAb (by omega) (by omega)
theorem wPk (a:Int) {b:Int} (hb:b ≠ 0):∃ x,quo a b=some x:=⟨_,if_neg hb⟩
theorem wDA (d:wAB) (n:Int) (h0:0 <= d.next) (h1:d.next <= 1000000):∃ x d',wAJ d n=some (x,d')/\0 <= d'.next/\d'.next <= d.next + 1/\0 <= x/\(x < n \/ (n <= 1/\x=0)):=by
 unfold wAJ
 by_cases hn:n <= 1
 ·exact ⟨0,d,by rw [if_pos hn],h0,by omega,by omega,.inr ⟨hn,rfl⟩⟩
 rw [if_neg hn]
 by_cases hl:(d.bytes.length:Int)=0
 ·exact ⟨0,d,by rw [if_pos hl],h0,by omega,by omega,.inl (by omega)⟩
 rw [if_neg hl]
 obtain ⟨r,e1,r0,r1⟩:=wJj h0 (show (0:Int) < d.bytes.length by omega)
 obtain ⟨b,e2⟩:∃ b,idx d.bytes r=some b:=by
  unfold idx
  rw [if_pos r0,nt (by omega)]
  exact ⟨_,rfl⟩
 obtain ⟨q,e3⟩:=wPk d.next (b:=d.bytes.length) hl
 obtain ⟨st,e4,_,_⟩:=wJj (wKr ((wEe ((wEe ((wEe (d.state * 45)) + (wEe b))) + (wEe (77 * (wEe q))))) + 1)) (b:=65519) (by decide)
 rw [e1,nA,e2,nA,e3,nA,e4,nA,wAb (x:=d.next + 1) (by omega) (by omega)]
 have fin:∀ z:Int,∃ x d',((rem (w64 (wEe z)) n).bind fun x=>some (x,(⟨d.bytes,d.next + 1,st⟩:wAB)))=some (x,d')/\0 <= d'.next/\d'.next <= d.next + 1/\0 <= x/\(x < n \/ (n <= 1/\x=0)):=by
  intro z
  obtain ⟨x,e5,x0,x1⟩:=wJj (a:=w64 (wEe z)) (b:=n) (by rw [w64u];exact wKr z) (by omega)
  exact ⟨x,_,by rw [e5];rfl,by show 0 <= d.next + 1;omega,by show d.next + 1 <= _;omega,x0,.inl x1⟩
 by_cases c1:wEe q=0
 ·rw [if_pos c1]
  by_cases c2:n <= 256
  ·rw [if_pos c2];exact fin _
  ·rw [if_neg c2];exact fin _
 ·rw [if_neg c1];exact fin _
theorem wEs (d:wAB) (a b:Int) (h0:0 <= d.next) (h1:d.next <= 1000000) (ha:-1000000 <= a) (hab:a <= b) (hb:b <= 1000000):∃ x d',wAM d a b=some (x,d')/\0 <= d'.next/\d'.next <= d.next + 1/\a <= x/\x <= b:=by
 unfold wAM
 rw [wAb (x:=b - a) (by omega) (by omega),wAb (x:=b - a + 1) (by omega) (by omega)]
 obtain ⟨x,d',e,n0,n1,x0,x1⟩:=wDA d (b - a + 1) h0 h1
 refine ⟨a + x,d',?_,n0,n1,by omega,by omega⟩
 rw [e,nA]
 simp only
 rw [wAb (by omega) (by omega)]
end Go.Proofs.YtkeeechdijfkhaaGreat
namespace Go.Proofs.YtkeeechdijfkhaaGreat
open Go.KL
open Classical
theorem wIL {S:Type} {body:Nat->S->Option S} {n:Nat} {s0:S} (I:Nat->S->Prop) (hn:n <= 1000) (h0:I 0 s0) (h:∀ i s,i < n->I i s->∃ s',body i s=some s'/\I (i + 1) s'):∃ s,wCg 0 (n:Int) body s0=some s/\I n s:=by
 rw [wEJ (by omega)]
 have:=wEI (body:=body) I n 0 s0 h0 fun i s _ h2 h3=>h i s (by omega) h3
 rwa [nz] at this
theorem wOg {B:Type} {f:Nat->Option B} {c:B}:∀ (m k:Nat),fnd f m k=some c->∃ i,k <= i/\i < k + m/\f i=some c/\∀ j,k <= j->j < i->f j=none
 | 0,_,h=>by cases h
 | m + 1,k,h=>by
  unfold fnd at h
  cases e:f k with
  | some c' =>
   rw [e] at h
   exact ⟨k,nK _,by omega,e.trans h,fun j h1 h2=>by omega⟩
  | none =>
   rw [e] at h
   obtain ⟨i,h1,h2,h3,h4⟩:=wOg m (k + 1) h
   refine ⟨i,by omega,by omega,h3,fun j h5 h6=>?_⟩
   by_cases c:j=k
   ·rw [c];exact e
   ·exact h4 j (by omega) h6
theorem wOh {B:Type} {f:Nat->Option B}:∀ (m k:Nat),fnd f m k=none->∀ i,k <= i->i < k + m->f i=none
 | 0,_,_,_,_,_=>by omega
 | m + 1,k,h,i,h1,h2=>by
  unfold fnd at h
  cases e:f k with
  | some c'=>rw [e] at h;cases h
  | none =>
   rw [e] at h
   by_cases c:i=k
   ·rw [c];exact e
   ·exact wOh m (k + 1) h i (by omega) (by omega)
theorem wEt (n lo hi:Int):wBS n lo hi=some (decide (lo <= n/\n <= hi)):=by
 unfold wBS
 by_cases h:lo <= n
 ·rw [if_pos h]
  exact congrArg some (decide_eq_decide.2 ⟨fun a=>⟨h,a⟩,fun a=>a.2⟩)
 ·rw [if_neg h,decide_eq_false fun a=>h a.1]
theorem wHX (h:wAG) (t:Int):wAl h t=some (decide (Cov h t)):=by
 unfold wAl
 by_cases c:h.From <= t
 ·rw [if_pos c]
  exact congrArg some (decide_eq_decide.2 ⟨fun a=>(⟨c,a⟩:Cov h t),fun a=>a.2⟩)
 ·rw [if_neg c,decide_eq_false fun a:Cov h t=>c a.1]
theorem wJk {l:List wAG} {f:wAG->Option Bool} {p:wAG->Bool} (hf:∀ a ∈ l,f a=some (p a)) (hl:l.length <= 100000):wAX l f=some (l.any p):=by
 unfold wAX wAh
 refine (congrArg (fun o=>Option.bind o fun x1:Int=>some (decide (0 <= x1))) (wMb (f:=f) (p:=p) hf (by omega) (fun x:Int=>x))).trans ?_
 exact congrArg some (wJd _ l 0)
structure GdOK (l:List wAG):Prop where
 n:1 <= l.length/\l.length <= 14
 h:∀ h ∈ l,(0 <= h.Who/\h.Who <= 99)/\(0 <= h.From/\h.From <= h.To)/\h.To <= 10000
theorem wFb {l:List wAG} (G:GdOK l) {to:Int} (h1:1 <= to) (h2:to <= 10000):wBg l 0 to=some 0:=by
 have hn:=G.n
 unfold wBg wCN wBi
 rw [wEt,nA,if_pos (decide_eq_true (by omega)),wJk (p:=fun _=>false) (fun a ha=>by
  obtain ⟨a1,a2,a3⟩:=G.h a ha
  unfold wAw wBH
  rw [wEt,nA,if_pos (decide_eq_true a1),wEt,nA,if_pos (decide_eq_true a2),decide_eq_true a3]
  rfl) (by omega),nA,nA,show (!l.any fun _=>false)=true by simp,if_pos rfl,nA,if_pos rfl,wEt,nA,if_pos (decide_eq_true (by omega)),if_neg (by omega),if_neg (by omega)]
theorem wTN {l:List wAG} {f g:Int} (n:IsNx l f g):(l.countP fun h=>decide (g < h.To)) < l.countP fun h=>decide (f < h.To):=by
 obtain ⟨x,hx,c,e⟩:=n.at_
 have fg:=n.lt
 clear n
 induction l with
 | nil=>cases hx
 | cons a l ih2 =>
  rw [no,no]
  have mono:(l.countP fun h=>decide (g < h.To)) <= l.countP fun h=>decide (f < h.To):=kU fun y _ hy=>by
   rw [decide_eq_true_eq] at hy ⊢
   omega
  rcases nJ.1 hx with rfl | hx
  ·have h1:decide (g < x.To)=false:=decide_eq_false (by omega)
   have h2:decide (f < x.To)=true:=by
    unfold Cov at c
    exact decide_eq_true (by omega)
   rw [h1,h2]
   simp only [if_true,nH,if_false]
   omega
  ·have:=ih2 hx
   by_cases h1:g < a.To
   ·rw [decide_eq_true h1,decide_eq_true (show f < a.To by omega)]
    simp only [if_true]
    omega
   ·rw [decide_eq_false h1]
    simp only [nH,if_false]
    omega
theorem wTO {n k:Nat} (h:k < n):gd (rng 0 n) k=(k:Int):=by
 rw [wEK (by rw [wET];omega)]
 unfold rng
 rw [List.getElem_map,List.getElem_range]
 omega
def lkB (l:List wAG) (x93:List Int) (p2:Int):Int × List Int × List Int->Option ((Int × List Int × List Int) ⊕ ((List Int × List Int) ⊕ (List Int × List Int × Int))):=fun (x137,l138,l142) =>
  if x137 < p2 then
   jn (wFI 0 (↑x93.length:Int) (fun k170 _ =>
    (chk (↑k170:Int) x93.length).bind fun _ =>
    (idx l (gd x93 k170)).bind fun x202 =>
    (wAl x202 x137).bind fun x212 =>
    if x212=true then
     esc (if (gd x93 k170)=(-1) then
      esc (esc (some (l138,l142,x137)))
     else
      (app 8 l138 [(gd x93 k170)]).bind fun x241 =>
      (app 8 l142 [x137]).bind fun x254 =>
      some (.inl (x202.To,x241,x254)))
    else
     some (.inl ())) ()) fun _ =>
   esc (esc (some (l138,l142,x137)))
  else
   esc (some (.inl (l138,l142)))
theorem wPl {l:List wAG} (G:GdOK l) {to:Int} (h1:1 <= to) (h2:to <= 10000):∃ hs ms e,wBZ l 0 to=some (hs,ms,e)/\hs.length=ms.length/\Run l to 0 ms e:=by
 have hn:=G.n
 unfold wBZ
 rw [mkz,if_pos (by omega),nA]
 have ef:wCg 0 (↑l.length:Int) (fun k24 l23 =>
  (chk (↑k24:Int) l23.length).bind fun _ =>
  some (nT l23 k24 (↑k24:Int))) (ng (l.length:Int).toNat (0:Int))=some (rng 0 l.length):=by
  obtain ⟨s,e,i1,i2⟩:=wIL (n:=l.length) (body:=fun (k24:Nat) (l23:List Int) =>
   (chk (↑k24:Int) l23.length).bind fun _ =>
   some (nT l23 k24 (↑k24:Int))) (s0:=ng (l.length:Int).toNat (0:Int)) (fun k s=>s.length=l.length/\∀ j,j < k->gd s j=(j:Int)) (by omega) ⟨by simp,fun j h=>by omega⟩ fun k s hk ⟨a1,a2⟩=>by
    refine ⟨_,by rw [wBR (by omega) (by omega),nA],by rw [nu];exact a1,fun j hj=>?_⟩
    rw [wJe (by omega) (by omega)]
    by_cases c:j=k
    ·rw [if_pos c,c]
    ·rw [if_neg c];exact a2 j (by omega)
  rw [e]
  refine congrArg some (wOY (by rw [i1,wET];omega) fun k hk=>?_)
  rw [i2 k (by omega),wTO (by omega)]
 rw [ef,nA,nA]
 have ec:wMt (ng (l.length:Int).toNat (0:Int)) 0 (rng 0 l.length)=some (rng 0 l.length):=by
  unfold wMt
  rw [if_pos (by simp)]
  unfold cpy
  rw [show (rng 0 l.length).length=l.length by rw [wET];omega]
  simp [wET]
  exact kR (by rw [wET];omega)
 rw [ec,nA]
 obtain ⟨r,er,hp,ho⟩:=wOf (K:=fun i=>-(gd l i.toNat).To) (n:=l.length) (c:=fun x=>wBh x.1 x.2 l) (fun a b a0 a1 b0 b1=>by
  have ha:=G.h _ (wBI (l:=l) (k:=a.toNat) (by omega))
  have hb:=G.h _ (wBI (l:=l) (k:=b.toNat) (by omega))
  refine ⟨(gd l b.toNat).To - (gd l a.toNat).To,?_,by show ((gd l b.toNat).To - (gd l a.toNat).To < 0 ↔ -(gd l a.toNat).To < -(gd l b.toNat).To);omega⟩
  unfold wBh
  have ea:idx l a=some (gd l a.toNat):=by unfold idx;rw [if_pos a0,wAx (by omega)]
  have eb:idx l b=some (gd l b.toNat):=by unfold idx;rw [if_pos b0,wAx (by omega)]
  show ((idx l b).bind fun x3=>(idx l a).bind fun x10=>some (w64 (x3.To - x10.To)))=_
  rw [eb,nA,ea,nA,wAb (by omega) (by omega)]) (by omega)
 have rl:r.length=l.length:=by rw [hp.length_eq,wET];omega
 have rin:∀ q,q < l.length->0 <= gd r q/\gd r q < l.length:=fun q hq=>by
  have:=wLo _ (hp.mem_iff.1 (wBI (l:=r) (k:=q) (by omega)))
  omega
 rw [er,nA]
 obtain ⟨b,eb,Z⟩:=wDi (body:=lkB l r to) (S:=Int × List Int × List Int) (I:=fun k s=>0 <= s.1/\s.2.1.length=k/\s.2.2.length=k/\k + (l.countP fun h=>decide (s.1 < h.To)) <= l.length/\∀ m2 e,Run l to s.1 m2 e->Run l to 0 (s.2.2 ++ m2) e)
  (fun b=>(∃ hs ms,b=.inl (hs,ms)/\hs.length=ms.length/\Run l to 0 ms to) \/ ∃ hs ms e,b=.inr (hs,ms,e)/\hs.length=ms.length/\Run l to 0 ms e) (l.length + 1) (s0:=(0,[],[])) (by
  rintro k ⟨f,hs,ms⟩ hk ⟨f0,a1,a2,a3,a4⟩
  simp only at f0 a1 a2 a3 a4
  unfold lkB
  simp only
  by_cases hf:f < to
  ·rw [if_pos hf]
   have fn:=wPf (B:=(Int × List Int × List Int) ⊕ ((List Int × List Int) ⊕ (List Int × List Int × Int))) (body:=fun k170 _ =>
    (chk (↑k170:Int) r.length).bind fun _ =>
    (idx l (gd r k170)).bind fun x202 =>
    (wAl x202 f).bind fun x212 =>
    if x212=true then
     esc (if (gd r k170)=(-1) then
      esc (esc (some (hs,ms,f)))
     else
      (app 8 hs [(gd r k170)]).bind fun x241 =>
      (app 8 ms [f]).bind fun x254 =>
      some (.inl (x202.To,x241,x254)))
    else
     some (.inl ())) (n:=r.length) (fun q=>if Cov (gd l (gd r q).toNat) f then some (.inl ((gd l (gd r q).toNat).To,hs ++ [gd r q],ms ++ [f])) else none) (by omega) (fun q hq=>by
     obtain ⟨b0,b1⟩:=rin q (by omega)
     have ei:idx l (gd r q)=some (gd l (gd r q).toNat):=by unfold idx;rw [if_pos b0,wAx (by omega)]
     rw [wBR (by omega) (by omega),nA,ei,nA,wHX,nA]
     by_cases c:Cov (gd l (gd r q).toNat) f
     ·rw [if_pos (decide_eq_true c),if_pos c,if_neg (by omega),wEr (by simp only [nZ,kX];omega),nA,wEr (by simp only [nZ,kX];omega),nA]
      rfl
     ·rw [if_neg (by simpa using c),if_neg c]
      rfl)
   rw [fn]
   cases hF:fnd (fun q=>if Cov (gd l (gd r q).toNat) f then some (Sum.inl ((gd l (gd r q).toNat).To,hs ++ [gd r q],ms ++ [f]):(Int × List Int × List Int) ⊕ ((List Int × List Int) ⊕ (List Int × List Int × Int))) else none) r.length 0 with
   | some v =>
    obtain ⟨i,_,hi,hv,hmin⟩:=wOg _ _ hF
    have hi:i < l.length:=by omega
    obtain ⟨b0,b1⟩:=rin i hi
    try simp only at hv
    split at hv
    case isFalse=>cases hv
    case isTrue c =>
    cases hv
    have nx:IsNx l f (gd l (gd r i).toNat).To:=by
     refine ⟨⟨_,wBI (by omega),c,rfl⟩,fun h hh ch=>?_⟩
     obtain ⟨j,hj,ej⟩:=nR hh
     have hjr:(j:Int) ∈ r:=hp.mem_iff.2 (by
      unfold rng
      exact kG.2 ⟨j,kD.2 (by omega),by omega⟩)
     obtain ⟨q,hq,eq⟩:=nR hjr
     have gq:gd r q=(j:Int):=by rw [wEK hq];exact eq
     have gj:gd l (gd r q).toNat=h:=by rw [gq,nh,wEK hj];exact ej
     rcases kf q i with lt | e | gt
     ·have:=hmin q (kB _) lt
      try simp only at this
      rw [gj,if_pos ch] at this
      cases this
     ·subst e;rw [gj];exact kJ _
     ·have o:=(kj.1 ho) i q (by omega) hq gt
      rw [<- wEK (by omega),<- wEK hq] at o
      have o:=o.le
      try simp only at o
      rw [gj] at o
      omega
    have hlt:=wTN nx
    have lt2:=nx.lt
    exact .inl ⟨by omega,_,rfl,by simp only;omega,by simp [a1],by simp [a2],by simp only;omega,fun m2 e R=>by
     simp only
     rw [nG]
     exact a4 _ _ (.go hf nx R)⟩
   | none =>
    refine .inr ⟨_,rfl,.inr ⟨hs,ms,f,rfl,by omega,?_⟩⟩
    have:=a4 [] f (.gap hf fun h hh ch=>by
     obtain ⟨j,hj,ej⟩:=nR hh
     have hjr:(j:Int) ∈ r:=hp.mem_iff.2 (by
      unfold rng
      exact kG.2 ⟨j,kD.2 (by omega),by omega⟩)
     obtain ⟨q,hq,eq⟩:=nR hjr
     have gq:gd r q=(j:Int):=by rw [wEK hq];exact eq
     have gj:gd l (gd r q).toNat=h:=by rw [gq,nh,wEK hj];exact ej
     have:=wOh _ _ hF q (kB _) (by omega)
     try simp only at this
     rw [gj,if_pos ch] at this
     cases this)
    rwa [nr] at this
  ·rw [if_neg hf]
   refine .inr ⟨_,rfl,.inl ⟨hs,ms,rfl,by omega,?_⟩⟩
   have:=a4 [] to (.fin (by omega))
   rwa [nr] at this) ⟨kJ _,rfl,rfl,by simp only [nz];exact kV,fun m2 e R=>R⟩ (by omega)
 have eb':iter (fun (x137,l138,l142) =>
  if x137 < to then
   jn (wFI 0 (↑r.length:Int) (fun k170 _ =>
    (chk (↑k170:Int) r.length).bind fun _ =>
    (idx l (gd r k170)).bind fun x202 =>
    (wAl x202 x137).bind fun x212 =>
    if x212=true then
     esc (if (gd r k170)=(-1) then
      esc (esc (some (l138,l142,x137)))
     else
      (app 8 l138 [(gd r k170)]).bind fun x241 =>
      (app 8 l142 [x137]).bind fun x254 =>
      some (.inl (x202.To,x241,x254)))
    else
     some (.inl ())) ()) fun _ =>
   esc (esc (some (l138,l142,x137)))
  else
   esc (some (.inl (l138,l142)))) big ((0:Int),([]:List Int),([]:List Int))=some b:=eb
 rw [eb']
 rcases Z with ⟨hs,ms,rfl,hl,R⟩ | ⟨hs,ms,e,rfl,hl,R⟩
 ·exact ⟨hs,ms,to,rfl,hl,R⟩
 ·exact ⟨hs,ms,e,rfl,hl,R⟩
end Go.Proofs.YtkeeechdijfkhaaGreat
namespace Go.KL.Net
structure Ed where
 a:Nat
 b:Nat
 c:Int
def wHe (es:List Ed) (x:Nat->Int):Prop:=∀ e ∈ es,x e.b <= x e.a + e.c
theorem wRg {P:Int->Prop} {B:Int} (h:∃ m,P m) (hB:∀ m,P m->m <= B):∃ m,P m/\∀ k,P k->k <= m:=by
 have key:∀ (d:Nat) (m:Int),P m->(B - m).toNat <= d->∃ m,P m/\∀ k,P k->k <= m:=by
  intro d
  induction d with
  | zero =>
   intro m hm hd
   exact ⟨m,hm,fun k hk=>by have:=hB k hk;omega⟩
  | succ d ih =>
   intro m hm hd
   rcases aF (∃ k,P k/\m < k) with ⟨k,hk,hlt⟩ | h
   ·exact ih k hk (by have:=hB k hk;omega)
   ·exact ⟨m,hm,fun k hk=>by
     rcases aB m k with c | c
     ·exact absurd ⟨k,hk,c⟩ h
     ·exact c⟩
 obtain ⟨m,hm⟩:=h
 exact key _ m hm (nK _)
structure Con (n:Nat) (R:Int) (es:List Ed):Prop where
 ends:∀ e ∈ es,e.a < n/\e.b < n
 near:∀ x,wHe es x->∀ a b,a < n->b < n->x b - x a <= R
 all:∀ (S:Nat->Prop) (i:Nat),i < n->S i->(∀ e ∈ es,S e.a->S e.b)->∀ v,v < n->S v
structure Most (n:Nat) (es:List Ed) (top:Nat->Int) (δ:Nat->Int):Prop where
 ok:wHe es δ
 le:∀ v,v < n->δ v <= top v
 gr:∀ x,wHe es x->(∀ v,v < n->x v <= top v)->∀ v,v < n->x v <= δ v
theorem shift {es:List Ed} {x:Nat->Int} (h:wHe es x) (k:Int):wHe es fun v=>x v + k:=fun e he=>by have:=h e he;simp only;omega
theorem wOi {n:Nat} {R:Int} {es:List Ed} (C:Con n R es) {x:Nat->Int} (hx:wHe es x) {top:Nat->Int} {i:Nat} (hi:i < n) (h0:top i=0) (hp:∀ v,v < n->0 <= top v):∃ δ,Most n es top δ:=by
  have ex:∀ v,∃ m:Int,(v < n->(∃ y,wHe es y/\(∀ u,u < n->y u <= top u)/\y v=m)/\∀ y,wHe es y->(∀ u,u < n->y u <= top u)->y v <= m):=by
    intro v
    by_cases hv:v < n
    · obtain ⟨m,hm,hm2⟩:=wRg (P:=fun m=>∃ y,wHe es y/\(∀ u,u < n->y u <= top u)/\y v=m) (B:=R) ⟨_,fun u=>x u + (-(x i + R)),shift hx _,fun u hu=>by
          have:=C.near x hx i u hi hu
          have:=hp u hu
          simp only
          omega,rfl⟩ (by
          rintro m ⟨y,hy,hy2,rfl⟩
          have:=C.near y hy i v hi hv
          have:=hy2 i hi
          omega)
      exact ⟨m,fun _=>⟨hm,fun y hy hy2=>hm2 _ ⟨y,hy,hy2,rfl⟩⟩⟩
    · exact ⟨0,fun h=>absurd h hv⟩
  obtain ⟨δ,sp⟩:=Classical.axiomOfChoice ex
  refine ⟨δ,fun e he=>?_,fun v hv=>?_,fun y hy hy2 v hv=>(sp v hv).2 y hy hy2⟩
  · obtain ⟨h1,h2⟩:=C.ends e he
    obtain ⟨⟨y,hy,hy2,hy3⟩,_⟩:=sp e.b h2
    have:=(sp e.a h1).2 y hy hy2
    have:=hy e he
    omega
  · obtain ⟨⟨y,hy,hy2,hy3⟩,_⟩:=sp v hv
    have:=hy2 v hv
    omega
theorem Most.hi {n:Nat} {R:Int} {es:List Ed} (C:Con n R es) {top δ:Nat->Int} (M:Most n es top δ) {i:Nat} (hi:i < n) (h0:top i=0):∀ v,v < n->δ v <= R:=fun v hv=>by
 have:=C.near δ M.ok i v hi hv
 have:=M.le i hi
 omega
theorem Most.tight {n:Nat} {es:List Ed} {top δ:Nat->Int} (M:Most n es top δ) (hes:∀ e ∈ es,e.a < n/\e.b < n) (low:Nat->Int) (h0:∀ v,v < n->low v <= top v) (hT:∃ v,v < n/\δ v < low v) (hge:∀ v,v < n->δ v <= low v) :
  ∃ e ∈ es,low e.a=δ e.a/\δ e.b < low e.b/\δ e.b=δ e.a + e.c:=by
 rcases aF (∃ e ∈ es,low e.a=δ e.a/\δ e.b < low e.b/\δ e.b=δ e.a + e.c) with h | h
 ·exact h
 ·exfalso
  obtain ⟨v,hv,hlt⟩:=hT
  have hx:wHe es (fun u=>if δ u < low u then δ u + 1 else δ u):=by
   intro e he
   obtain ⟨h1,h2⟩:=hes e he
   have a:=M.ok e he
   have b:=hge e.a h1
   have c:=hge e.b h2
   simp only
   by_cases e1:δ e.b < low e.b
   ·by_cases e2:δ e.a < low e.a
    ·rw [if_pos e1,if_pos e2];omega
    ·rw [if_pos e1,if_neg e2]
     by_cases e3:δ e.b=δ e.a + e.c
     ·exact absurd ⟨e,he,by omega,e1,e3⟩ h
     ·omega
   ·rw [if_neg e1]
    split <;> omega
  have:=M.gr _ hx (fun u hu=>by
   have:=M.le u hu
   have:=h0 u hu
   show (if δ u < low u then δ u + 1 else δ u) <= top u
   split <;> omega) v hv
  have this:(if δ v < low v then δ v + 1 else δ v) <= δ v:=this
  rw [if_pos hlt] at this
  omega
theorem wLp (p q:Nat->Bool) (hpq:∀ v,p v=true->q v=true):∀ (l:List Nat),(∃ v ∈ l,p v=false/\q v=true)->l.countP p < l.countP q
 | [],⟨v,h,_⟩=>by cases h
 | a :: l,⟨v,h,hp,hq⟩=>by
  have mono:∀ l:List Nat,l.countP p <= l.countP q:=fun l=>kU fun v _ h=>hpq v h
  rw [no,no]
  rcases nJ.1 h with rfl | h
  ·have:=mono l
   simp only [hp,hq,if_true,nH,if_false]
   omega
  ·have:=wLp p q hpq l ⟨v,h,hp,hq⟩
   have:(if p a=true then 1 else 0) <= (if q a=true then 1 else 0):=by
    cases e:p a with
    | true=>rw [hpq a e];simp
    | false=>simp
   omega
def wSG (n:Nat) (δ low:Nat->Int):Nat:=(nv n).countP fun v=>decide (low v=δ v)
theorem wRh (n:Nat) (δ low:Nat->Int):wSG n δ low <= n:=by
 have:=kV (p:=fun v=>decide (low v=δ v)) (l:=nv n)
 rw [List.length_range] at this
 exact this
theorem wRi {n:Nat} {δ low low':Nat->Int} (h1:∀ v,v < n->δ v <= low' v) (h2:∀ v,v < n->low' v <= low v) {v:Nat} (hv:v < n) (a:δ v < low v) (b:low' v=δ v):wSG n δ low < wSG n δ low':=by
 have:=wLp (fun v=>decide (low v=δ v)) (fun v=>decide (low' v=δ v) || !decide (v < n)) (fun u hu=>by
  have hu':=of_decide_eq_true hu
  by_cases hun:u < n
  ·have:=h1 u hun
   have:=h2 u hun
   simp only [nl,decide_eq_true_eq]
   exact .inl (by omega)
  ·simp [hun]) (nv n) ⟨v,kD.2 hv,decide_eq_false (by omega),by simp [b]⟩
 have e:(nv n).countP (fun v=>decide (low' v=δ v) || !decide (v < n))=(nv n).countP (fun v=>decide (low' v=δ v)):=by
  apply List.countP_congr
  intro u hu
  have:u < n:=kD.1 hu
  simp [this]
 unfold wSG
 omega
structure IsD (n:Nat) (es:List Ed) (i:Nat) (f:Nat->Int):Prop where
 ok:wHe es f
 zero:f i=0
 gr:∀ x,wHe es x->∀ v,v < n->x v - x i <= f v
end Go.KL.Net
namespace Go.Proofs.YtkeeechdijfkhaaGreat
open Go.KL Go.KL.Net
structure EdOK (n:Nat) (e:wAd):Prop where
 f0:0 <= e.from_
 f1:e.from_ < n
 t0:0 <= e.to_
 t1:e.to_ < n
 c0:-400000 <= e.count
 c1:e.count <= 400000
def ed (p:Bool) (e:wAd):Ed:=if p then ⟨e.to_.toNat,e.from_.toNat,e.count⟩ else ⟨e.from_.toNat,e.to_.toNat,e.count⟩
abbrev SS:=List Int × List Int × Int
def spB (es:List wAd) (p2:Bool):Nat->SS->Option SS:=fun k1375 (l1372,l1373,x1374) =>
      ((idx es (↑k1375:Int)).bind fun x1412 =>
      if p2=true then
        (chk x1412.to_ l1372.length).bind fun _ =>
        if (gd l1372 x1412.to_.toNat) < 1125899906842624 then
          (chk x1412.from_ l1372.length).bind fun _ =>
          if (w64 ((gd l1372 x1412.to_.toNat) + x1412.count)) < (gd l1372 x1412.from_.toNat) then
            ((chk x1412.from_ l1373.length).bind fun _ =>
            some ()).bind fun _ =>
            some ((nT l1372 x1412.from_.toNat (w64 ((gd l1372 x1412.to_.toNat) + x1412.count))),(nT l1373 x1412.from_.toNat (↑k1375:Int)),x1412.from_)
          else
            some (l1372,l1373,x1374)
        else
          some (l1372,l1373,x1374)
      else
        (chk x1412.from_ l1372.length).bind fun _ =>
        if (gd l1372 x1412.from_.toNat) < 1125899906842624 then
          (chk x1412.to_ l1372.length).bind fun _ =>
          if (w64 ((gd l1372 x1412.from_.toNat) + x1412.count)) < (gd l1372 x1412.to_.toNat) then
            ((chk x1412.to_ l1373.length).bind fun _ =>
            some ()).bind fun _ =>
            some ((nT l1372 x1412.to_.toNat (w64 ((gd l1372 x1412.from_.toNat) + x1412.count))),(nT l1373 x1412.to_.toNat (↑k1375:Int)),x1412.to_)
          else
            some (l1372,l1373,x1374)
        else
          some (l1372,l1373,x1374)).bind fun (l1406,l1407,x1408) =>
      some (l1406,l1407,x1408)
theorem wTP {n:Nat} {es:List wAd} (hes:∀ e ∈ es,EdOK n e) {p:Bool} {k:Nat} (hk:k < es.length) {far by_:List Int} {last:Int} (hf:far.length=n) (hb:by_.length=n) {M:Int} (hM:M <= 1000000000000000) (h0:0 <= M) (hr:∀ v,v < n->gd far v=1125899906842624 \/ (-M <= gd far v/\gd far v <= M)) :
  (ed p (gd es k)).a < n/\(ed p (gd es k)).b < n /\
  spB es p k (far,by_,last)=some (if gd far (ed p (gd es k)).a < 1125899906842624/\gd far (ed p (gd es k)).a + (ed p (gd es k)).c < gd far (ed p (gd es k)).b then
   (far.set (ed p (gd es k)).b (gd far (ed p (gd es k)).a + (ed p (gd es k)).c),by_.set (ed p (gd es k)).b (k:Int),((ed p (gd es k)).b:Int)) else (far,by_,last)):=by
 obtain ⟨f0,f1,t0,t1,c0,c1⟩:=hes _ (wBI hk)
 have hw:∀ a:Int,0 <= a->a < n->gd far a.toNat < 1125899906842624->w64 (gd far a.toNat + (gd es k).count)=gd far a.toNat + (gd es k).count:=fun a h1 h2 h3=>by
  rcases hr a.toNat (by omega) with c | c
  ·omega
  ·exact wAb (by omega) (by omega)
 unfold spB ed
 rw [wGN hk]
 cases p with
 | true =>
  refine ⟨by simp only [if_true];omega,by simp only [if_true];omega,?_⟩
  simp only [nA,if_true]
  rw [wBR t0 (by omega),nA]
  by_cases a:gd far (gd es k).to_.toNat < 1125899906842624
  ·rw [if_pos a,wBR f0 (by omega),nA,hw _ t0 t1 a]
   by_cases b:gd far (gd es k).to_.toNat + (gd es k).count < gd far (gd es k).from_.toNat
   ·rw [if_pos b,wBR f0 (by omega),if_pos ⟨a,b⟩]
    simp only [nA]
    rw [show (((gd es k).from_.toNat:Nat):Int)=(gd es k).from_ by omega]
   ·rw [if_neg b,if_neg (fun h=>b h.2)];rfl
  ·rw [if_neg a,if_neg (fun h=>a h.1)];rfl
 | false =>
  refine ⟨by simp only [nH,if_false];omega,by simp only [nH,if_false];omega,?_⟩
  simp only [nA,nH,if_false]
  rw [wBR f0 (by omega),nA]
  by_cases a:gd far (gd es k).from_.toNat < 1125899906842624
  ·rw [if_pos a,wBR t0 (by omega),nA,hw _ f0 f1 a]
   by_cases b:gd far (gd es k).from_.toNat + (gd es k).count < gd far (gd es k).to_.toNat
   ·rw [if_pos b,wBR t0 (by omega),if_pos ⟨a,b⟩]
    simp only [nA]
    rw [show (((gd es k).to_.toNat:Nat):Int)=(gd es k).to_ by omega]
   ·rw [if_neg b,if_neg (fun h=>b h.2)];rfl
  ·rw [if_neg a,if_neg (fun h=>a h.1)];rfl
structure Ps (n:Nat) (es:List wAd) (p:Bool) (far:List Int) (M:Int) (i:Nat) (s:SS):Prop where
 fl:s.1.length=n
 bl:s.2.1.length=n
 rg:∀ v,v < n->gd s.1 v=1125899906842624 \/ (-(M + 400000 * (i:Int)) <= gd s.1 v/\gd s.1 v <= M + 400000 * (i:Int))
 le:∀ v,v < n->gd s.1 v <= gd far v
 ch:(s.2.2=-1/\s.1=far/\∀ e ∈ es.take i,gd far (ed p e).a < 1125899906842624->gd far (ed p e).b <= gd far (ed p e).a + (ed p e).c) \/ (0 <= s.2.2/\s.2.2 < n/\∃ v,v < n/\gd s.1 v < gd far v)
 fe:∀ x,wHe (es.map (ed p)) x->(∀ v,v < n->x v <= gd far v)->∀ v,v < n->x v <= gd s.1 v
 st:∀ δ,wHe (es.map (ed p)) δ->(∀ v,v < n->δ v <= gd far v)->(∀ v,v < n->δ v < 1125899906842624)->∀ e ∈ es.take i,gd far (ed p e).a=δ (ed p e).a->δ (ed p e).b=δ (ed p e).a + (ed p e).c->gd s.1 (ed p e).b=δ (ed p e).b
theorem wRj {n:Nat} {es:List wAd} (hes:∀ e ∈ es,EdOK n e) (hl:es.length <= 1000) (p:Bool) {far by_:List Int} (hf:far.length=n) (hb:by_.length=n) {M:Int} (hM:M <= 900000000000000) (h0:0 <= M) (hr:∀ v,v < n->gd far v=1125899906842624 \/ (-M <= gd far v/\gd far v <= M)) :
  ∃ s,wCg 0 (↑es.length:Int) (spB es p) (far,by_,-1)=some s/\Ps n es p far M es.length s:=by
 rw [wEJ (by omega)]
 obtain ⟨s,e,P⟩:=wEI (body:=spB es p) (fun i s=>Ps n es p far M i s) es.length 0 (far,by_,-1)
  ⟨hf,hb,fun v hv=>by have:=hr v hv;simp only;omega,fun _ _=>kJ _,.inl ⟨rfl,rfl,fun e he=>by simp at he⟩,fun _ _ h=>h,fun _ _ _ _ e he=>by simp at he⟩ (by
  rintro i ⟨f,b,last⟩ _ hi P
  have hi':i < es.length:=by omega
  obtain ⟨fl,bl,rg,le,ch,fe,st⟩:=P
  simp only at fl bl rg le ch fe st
  obtain ⟨ha,hbb,e⟩:=wTP hes (p:=p) hi' (last:=last) fl bl (M:=M + 400000 * (i:Int)) (by omega) (by omega) rg
  have hm:=wBI hi'
  have hok:=hes _ hm
  have hc:-400000 <= (ed p (gd es i)).c/\(ed p (gd es i)).c <= 400000:=by
   have:=hok.c0;have:=hok.c1
   unfold ed
   split <;> exact ⟨by assumption,by assumption⟩
  have hfe:∀ x,wHe (es.map (ed p)) x->x (ed p (gd es i)).b <= x (ed p (gd es i)).a + (ed p (gd es i)).c:=fun x hx=>hx _ (kG.2 ⟨_,hm,rfl⟩)
  have hends:∀ e ∈ es.take i,(ed p e).a < n/\(ed p e).b < n:=fun e he=>by
   obtain ⟨a1,a2,a3,a4,_,_⟩:=hes e (kY he)
   unfold ed
   split <;> (simp only;omega)
  generalize hE:ed p (gd es i)=E at ha hbb e hc hfe
  rw [e]
  by_cases c:gd f E.a < 1125899906842624/\gd f E.a + E.c < gd f E.b
  ·rw [if_pos c]
   obtain ⟨c1,c2⟩:=c
   have rga:-(M + 400000 * (i:Int)) <= gd f E.a/\gd f E.a <= M + 400000 * (i:Int):=by
    rcases rg E.a ha with q | q
    ·omega
    ·exact q
   have hg:∀ v,v < n->gd (f.set E.b (gd f E.a + E.c)) v=if v=E.b then gd f E.a + E.c else gd f v:=fun v hv=>wJe (by omega) (by omega)
   refine ⟨_,rfl,by simp [fl],by simp [bl],fun v hv=>?_,fun v hv=>?_,.inr ⟨by simp only;omega,by simp only;omega,E.b,hbb,?_⟩,fun x hx hxt v hv=>?_,fun δ hδ h1 h2 e' he' g1 g2=>?_⟩
   ·simp only
    rw [hg v hv]
    split
    ·right;omega
    ·rcases rg v hv with q | q
     ·exact .inl q
     ·right;omega
   ·simp only
    rw [hg v hv]
    split
    ·rename_i h;have:=le E.b hbb;rw [h];omega
    ·exact le v hv
   ·simp only
    rw [hg _ hbb,if_pos rfl]
    have:=le E.b hbb
    omega
   ·simp only
    rw [hg v hv]
    have:=fe x hx hxt
    split
    ·rename_i h
     have a1:=this E.a ha
     have a2:=hfe x hx
     rw [h];omega
    ·exact this v hv
   ·have lo:=fe δ hδ h1
    simp only
    rw [wGO hi'] at he'
    rcases nM.1 he' with he' | he'
    ·have old:=st δ hδ h1 h2 e' he' g1 g2
     rw [hg _ (hends e' he').2]
     split
     ·rename_i h
      have a1:=lo E.a ha
      have a2:=hfe δ hδ
      rw [h] at old ⊢
      omega
     ·exact old
    ·have:=np.1 he'
     subst this
     rw [hE] at g1 g2 ⊢
     rw [hg _ hbb,if_pos rfl]
     have a1:=lo E.a ha
     have a2:=le E.a ha
     omega
  ·rw [if_neg c]
   refine ⟨_,rfl,fl,bl,fun v hv=>?_,le,?_,fe,fun δ hδ h1 h2 e' he' g1 g2=>?_⟩
   ·rcases rg v hv with q | q
    ·exact .inl q
    ·right;simp only;omega
   ·simp only
    rcases ch with ⟨q1,q2,q3⟩ | q
    ·refine .inl ⟨q1,q2,fun e' he' g=>?_⟩
     rw [wGO hi'] at he'
     rcases nM.1 he' with he' | he'
     ·exact q3 e' he' g
     ·have:=np.1 he'
      subst this
      rw [hE] at g ⊢
      rw [q2] at c
      rcases aB (gd far E.a + E.c) (gd far E.b) with d | d
      ·exact absurd ⟨g,d⟩ c
      ·exact d
    ·exact .inr q
   ·have lo:=fe δ hδ h1
    rw [wGO hi'] at he'
    rcases nM.1 he' with he' | he'
    ·exact st δ hδ h1 h2 e' he' g1 g2
    ·have:=np.1 he'
     subst this
     rw [hE] at g1 g2 ⊢
     simp only
     have a1:=lo E.a ha
     have a2:=le E.a ha
     have a3:=lo E.b hbb
     have a4:=h2 E.a ha
     have fa:gd f E.a=δ E.a:=by omega
     rw [fa] at c
     rcases aB (δ E.a + E.c) (gd f E.b) with d | d
     ·exact absurd ⟨a4,d⟩ c
     ·omega)
 rw [nz] at P
 exact ⟨s,e,P⟩
end Go.Proofs.YtkeeechdijfkhaaGreat
namespace Go.Proofs.YtkeeechdijfkhaaGreat
open Go.KL Go.KL.Net
theorem wFB {α:Type} [Inhabited α] (l:List α) (k:Nat):gd l k=(l[k]?).getD default:=by unfold gd;rw [nQ]
theorem wOj {α:Type} {m ys:List α} {a:Nat} (h:a <= m.length):(cpy m a ys).length=m.length:=by
 unfold cpy
 simp only [nB,nI,nW]
 omega
theorem wQS {α:Type} [Inhabited α] {m ys:List α} {a j:Nat} (h:a <= m.length) (hj:j < m.length):gd (cpy m a ys) j=if j < a then gd m j else if j < a + ys.length then gd ys (j - a) else gd m j:=by
 rw [wFB,wFB,wFB]
 unfold cpy
 rw [nG]
 by_cases c:j < a
 ·rw [if_pos c,nS (by rw [nI];omega),nw,if_pos c]
 ·rw [if_neg c,nV (by rw [nI];omega),nI,ny h]
  by_cases d:j < a + ys.length
  ·rw [if_pos d,nS (by rw [nI];omega),nw,if_pos (by omega)]
  ·rw [if_neg d,nV (by rw [nI];omega),nI,kM,kA (by omega)]
   congr 2
   omega
theorem wJl (x:Int) {n:Nat} (h1:1 <= n) (h2:n <= 1000):wBA [x] (n:Int)=some (ng n x):=by
 unfold wBA wCx
 have e1:wAg (([x]:List Int).length:Int)=1:=rfl
 have e2:wAg (n:Int)=n:=by unfold wAg;omega
 rw [if_neg (by omega),e1,e2,if_pos (by omega),nA]
 simp only
 rw [show (1:Int) * (n:Int) / 18446744073709551616=0 by omega,show (1:Int) * (n:Int) % 18446744073709551616=n by omega,if_neg (by omega),nA,decide_eq_false (by omega),if_neg (by simp),wAb (by omega) (by omega),mkz,if_pos (by omega),nA,wMt,if_pos (by simp),nA]
 have hlen:(ng (n:Int).toNat (0:Int)).length=n:=by simp
 generalize ng (n:Int).toNat (0:Int)=z at hlen
 have e3:((min ([x]:List Int).length z.length:Nat):Int)=1:=by simp only [na];omega
 refine wKp (I:=fun i (s:List Int × Int)=>s.1.length=n/\(i:Int) + 1 <= s.2/\s.2 <= n/\∀ j,j < s.2.toNat->gd s.1 j=x) n ⟨by rw [wOj (by simp)];exact hlen,by simp only;omega,by simp only;omega,fun j hj=>?_⟩ (by omega) ?_
 ·simp only at hj ⊢
  rw [wQS (by simp) (by omega),if_neg (by simp),if_pos (by simp only [na];omega)]
  have:j=0:=by omega
  subst this
  rfl
 ·rintro i ⟨l,k⟩ hi ⟨q1,q2,q3,q4⟩
  simp only at q1 q2 q3 q4 ⊢
  by_cases c:k < (l.length:Int)
  ·left
   refine ⟨by omega,?_⟩
   have hd:(List.take ((l.length:Int).toNat - k.toNat) (List.drop k.toNat l)).length=l.length - k.toNat:=by
    rw [nI,nW];omega
   have ht:(List.take (k.toNat - (0:Int).toNat) (List.drop (0:Int).toNat l))=l.take k.toNat:=by simp
   rw [if_pos c,cut,if_pos (by omega),nA,cut,if_pos (by omega),nA,wMt,if_pos (by omega),nA,ht,hd,nI]
   rw [wAb (by omega) (by omega)]
   refine ⟨_,rfl,by simp only;rw [wOj (by omega)];exact q1,by simp only;omega,by simp only;omega,fun j hj=>?_⟩
   simp only at hj ⊢
   rw [wQS (by omega) (by omega),nI]
   by_cases d:j < k.toNat
   ·rw [if_pos d];exact q4 j d
   ·rw [if_neg d,if_pos (by omega)]
    have:=q4 (j - k.toNat) (by omega)
    rw [wFB] at this ⊢
    rw [nw,if_pos (by omega)]
    exact this
  ·right
   rw [if_neg c,wPF]
   have:l=ng n x:=wOY (by simp [q1]) fun j hj=>by
    rw [q4 j (by omega),wEK (by simpa [q1] using hj)];simp
   rw [this]
def wHY (i:Int) (v:Nat):Int:=if i < 0 \/ (v:Int)=i then 0 else 1125899906842624
theorem wQT (i:Int) (v:Nat):0 <= wHY i v/\wHY i v <= 1125899906842624:=by unfold wHY;split <;> omega
theorem wRk {n:Nat} (i:Int) {l:List Int} (hl:l.length=n) (hn:n <= 1000) (h0:∀ v,v < n->gd l v=1125899906842624):∃ y,(wCg 0 (↑l.length:Int) (fun k1254 l1253 =>
  if i < 0 then
   (chk (↑k1254:Int) l1253.length).bind fun _ =>
   some (nT l1253 k1254 0)
  else
   if (↑k1254:Int)=i then
    (chk (↑k1254:Int) l1253.length).bind fun _ =>
    some (nT l1253 k1254 0)
   else
    some l1253) l)=some y/\y.length=n/\∀ v,v < n->gd y v=wHY i v:=by
 rw [wEJ (by omega)]
 obtain ⟨y,e,y1,y2⟩:=wEI (body:=fun (k1254:Nat) (l1253:List Int) =>
  if i < 0 then
   (chk (↑k1254:Int) l1253.length).bind fun _ =>
   some (nT l1253 k1254 0)
  else
   if (↑k1254:Int)=i then
    (chk (↑k1254:Int) l1253.length).bind fun _ =>
    some (nT l1253 k1254 0)
   else
    some l1253) (fun k s=>s.length=n/\∀ v,v < n->gd s v=if v < k then wHY i v else 1125899906842624) l.length 0 l ⟨hl,fun v hv=>by rw [if_neg (by omega)];exact h0 v hv⟩ (by
  rintro k s _ hk ⟨s1,s2⟩
  have hk':k < n:=by omega
  have hset:∀ v,v < n->gd (s.set k 0) v=if v=k then 0 else gd s v:=fun v hv=>wJe (by omega) (by omega)
  by_cases c:i < 0 \/ (k:Int)=i
  ·have hb:(if i < 0 then (chk (↑k:Int) s.length).bind fun _=>some (nT s k 0) else if (↑k:Int)=i then (chk (↑k:Int) s.length).bind fun _=>some (nT s k 0) else some s)=some (s.set k 0):=by
    rw [wBR (by omega) (by omega)]
    rcases c with c | c
    ·rw [if_pos c];rfl
    ·rw [if_pos c]
     split <;> rfl
   refine ⟨_,hb,by simp [s1],fun v hv=>?_⟩
   rw [hset v hv]
   by_cases e:v=k
   ·subst e
    rw [if_pos rfl,if_pos (by omega),wHY,if_pos c]
   ·rw [if_neg e,s2 v hv]
    by_cases d:v < k
    ·rw [if_pos d,if_pos (by omega)]
    ·rw [if_neg d,if_neg (by omega)]
  ·refine ⟨s,by rw [if_neg (fun h=>c (.inl h)),if_neg (fun h=>c (.inr h))],s1,fun v hv=>?_⟩
   rw [s2 v hv]
   by_cases d:v < k
   ·rw [if_pos d,if_pos (by omega)]
   ·by_cases e:v=k
    ·subst e
     rw [if_neg (by omega),if_pos (by omega),wHY,if_neg c]
    ·rw [if_neg d,if_neg (by omega)])
 rw [nz] at y2
 exact ⟨y,e,y1,fun v hv=>by rw [y2 v hv,if_pos (by omega)]⟩
structure SpT (n:Nat) (es:List Ed) (i:Int) (far:List Int):Prop where
 fl:far.length=n
 rl:∀ e ∈ es,gd far e.a < 1125899906842624->gd far e.b <= gd far e.a + e.c
 rg:∀ v,v < n->gd far v=1125899906842624 \/ (-400000000000 <= gd far v/\gd far v <= 400000000000)
 le:∀ v,v < n->gd far v <= wHY i v
 fe:∀ x,wHe es x->(∀ v,v < n->x v <= wHY i v)->∀ v,v < n->x v <= gd far v
structure SpI (n:Nat) (es:List Ed) (i:Int) (t:Nat) (s:SS):Prop where
 fl:s.1.length=n
 bl:s.2.1.length=n
 rg:∀ v,v < n->gd s.1 v=1125899906842624 \/ (-(400000000 * (t:Int)) <= gd s.1 v/\gd s.1 v <= 400000000 * (t:Int))
 le:∀ v,v < n->gd s.1 v <= wHY i v
 fe:∀ x,wHe es x->(∀ v,v < n->x v <= wHY i v)->∀ v,v < n->x v <= gd s.1 v
 st:∀ δ,Most n es (wHY i) δ->(∀ v,v < n->δ v < 1125899906842624)->t <= wSG n δ fun v=>gd s.1 v
 la:t=0 \/ (0 <= s.2.2/\s.2.2 < n)
theorem wJm {d:wAr} {n:Nat} (hn:d.number.length=n) (h1:1 <= n) (h2:n <= 500) (hes:∀ e ∈ d.edges,EdOK n e) (hl:d.edges.length <= 1000) (i:Int) (p:Bool) :
  ∃ f last ok,wAs d i p=some (f,last,ok)/\f.by_.length=n/\f.far.length=n/\(ok=true->SpT n (d.edges.map (ed p)) i f.far)/\(ok=false->0 <= last/\last < n/\∀ δ,Most n (d.edges.map (ed p)) (wHY i) δ->¬ ∀ v,v < n->δ v < 1125899906842624):=by
 unfold wAs
 rw [hn,wJl _ h1 (by omega),nA,wJl _ h1 (by omega),nA,nA]
 simp only
 obtain ⟨y,e1,y1,y2⟩:=wRk (n:=n) i (l:=ng n 1125899906842624) (by simp) (by omega) (fun v hv=>by rw [wEK (by simpa using hv)];simp)
 rw [e1,nA,wAb (by omega) (by omega)]
 have hn1:((n:Int) + 1)=((n + 1:Nat):Int):=by omega
 rw [hn1,wDb (by omega)]
 have hmap:∀ e ∈ d.edges.map (ed p),e.a < n/\e.b < n:=fun e he=>by
  obtain ⟨q,hq,rfl⟩:=kG.1 he
  obtain ⟨a1,a2,a3,a4,_,_⟩:=hes q hq
  unfold ed
  split <;> (simp only;omega)
 rcases wLj (B:=wCm × Int × Bool) (body:=fun (k1336:Nat) ((l1333,l1334,x1335):SS) =>
  (wCg 0 (↑d.edges.length:Int) (spB d.edges p) (l1333,l1334,-1)).bind fun (y1380,y1381,y1382) =>
  if y1382 < 0 then
   esc (some ((⟨y1380,y1381⟩:wCm),0,true))
  else
   some (.inl (y1380,y1381,y1382))) (fun t s=>SpI n (d.edges.map (ed p)) i t s) (fun b=>b.2.2=true/\b.1.by_.length=n/\SpT n (d.edges.map (ed p)) i b.1.far) (n + 1) 0 (y,ng n (-1),-1)
  ⟨y1,by simp,fun v hv=>by simp only;rw [y2 v hv];unfold wHY;split <;> omega,fun v hv=>by simp only;rw [y2 v hv];exact kJ _,fun x _ hx v hv=>by simp only;rw [y2 v hv];exact hx v hv,fun _ _ _=>kB _,.inl rfl⟩ (by
   rintro t ⟨far,by_,last⟩ _ ht ⟨fl,bl,rg,le,fe,st,la⟩
   simp only at fl bl rg le fe st
   obtain ⟨⟨far',by',last'⟩,e,P⟩:=wRj hes hl p fl bl (M:=400000000 * (t:Int)) (by omega) (by omega) rg
   obtain ⟨gl,ql,qg,qle,ch,qfe,qst⟩:=P
   simp only at gl ql qg qle ch qfe qst
   simp only
   rw [e,nA]
   simp only
   rcases ch with ⟨c1,c2,c3⟩ | ⟨c1,c2,v,hv,c3⟩
   ·right
    subst c1
    rw [if_pos (by omega)]
    refine ⟨_,rfl,rfl,ql,gl,fun e' he' hlt=>?_,fun v hv=>?_,fun v hv=>Int.le_trans (qle v hv) (le v hv),fun x hx hxt v hv=>qfe x hx (fe x hx hxt) v hv⟩
    ·obtain ⟨q,hq,rfl⟩:=kG.1 he'
     simp only at hlt ⊢
     rw [c2] at hlt ⊢
     rw [km] at c3
     exact c3 q hq hlt
    ·simp only
     rw [c2]
     rcases rg v hv with q | q
     ·exact .inl q
     ·right;omega
   ·left
    rw [if_neg (by omega)]
    refine ⟨_,rfl,gl,ql,fun v hv=>?_,fun v hv=>Int.le_trans (qle v hv) (le v hv),fun x hx hxt v hv=>qfe x hx (fe x hx hxt) v hv,fun δ M hδ=>?_,.inr ⟨c1,c2⟩⟩
    ·simp only
     rcases qg v hv with q | q
     ·exact .inl q
     ·right;omega
    ·have old:=st δ M hδ
     have lo:=fe δ M.ok M.le
     have lo':=qfe δ M.ok lo
     simp only
     obtain ⟨e',he',g1,g2,g3⟩:=M.tight hmap (fun u=>gd far u) (fun u hu=>le u hu) ⟨v,hv,by have:=lo' v hv;omega⟩ lo
     obtain ⟨q,hq,rfl⟩:=kG.1 he'
     rw [km] at qst
     have h5:=qst δ M.ok lo hδ q hq g1 g3
     have:=wRi (n:=n) (δ:=δ) (low:=fun u=>gd far u) (low':=fun u=>gd far' u) lo' (fun u hu=>qle u hu) (hmap _ he').2 g2 h5
     omega) with ⟨⟨far,by_,last⟩,e,I⟩ | ⟨⟨f,last,ok⟩,e,h3,h4,h5⟩
 ·refine ⟨⟨far,by_⟩,last,false,?_,I.bl,I.fl,(fun h=>by cases h),fun _=>?_⟩
  ·show jn (forN _ (n + 1) 0 (y,ng n (-1),-1)) _=_
   erw [e]
   rfl
  ·have hla:=I.la
   simp only at hla
   refine ⟨by omega,by omega,fun δ M hδ=>?_⟩
   have h6:0 + (n + 1) <= wSG n δ fun v=>gd far v:=I.st δ M hδ
   have:=wRh n δ fun v=>gd far v
   omega
 ·simp only at h3 h4 h5
  subst h3
  refine ⟨f,last,true,?_,h4,h5.fl,fun _=>h5,fun h=>by cases h⟩
  show jn (forN _ (n + 1) 0 (y,ng n (-1),-1)) _=_
  erw [e]
  rfl
theorem SpT.fin {n:Nat} {R:Int} {es:List Ed} (C:Con n R es) (hc:∀ e ∈ es,e.c <= 400000) {i:Int} {far:List Int} (S:SpT n es i far) {k:Nat} (hk:k < n) (h0:wHY i k=0):∀ v,v < n->gd far v < 1125899906842624 :=
 C.all (fun v=>v < n->gd far v < 1125899906842624) k hk (fun _=>by have:=S.le k hk;omega) (fun e he h _=>by
  obtain ⟨h1,h2⟩:=C.ends e he
  have a:=h h1
  have b:=S.rl e he a
  have c:=hc e he
  rcases S.rg e.a h1 with q | q <;> omega) |> fun h v hv=>h v hv hv
theorem SpT.feas {n:Nat} {R:Int} {es:List Ed} (C:Con n R es) (hc:∀ e ∈ es,e.c <= 400000) {i:Int} {far:List Int} (S:SpT n es i far) {k:Nat} (hk:k < n) (h0:wHY i k=0):wHe es fun v=>gd far v :=
 fun e he=>S.rl e he (S.fin C hc hk h0 e.a (C.ends e he).1)
theorem SpT.isD {n:Nat} {R:Int} (hR:R <= 1000000000000) {es:List Ed} (C:Con n R es) (hc:∀ e ∈ es,e.c <= 400000) {i:Nat} (hi:i < n) {far:List Int} (S:SpT n es i far):IsD n es i fun v=>gd far v:=by
 have t0:wHY i i=0:=by unfold wHY;rw [if_pos (.inr rfl)]
 have F:=S.feas C hc hi t0
 have gr:∀ x,wHe es x->∀ v,v < n->x v - x i <= gd far v:=fun x hx v hv=>by
  have:=S.fe (fun u=>x u + (-(x i))) (shift hx _) (fun u hu=>by
   show x u + (-(x i)) <= _
   have:=C.near x hx i u hi hu
   unfold wHY
   split
   ·rename_i h
    rcases h with h | h
    ·omega
    ·have:u=i:=by omega
     subst this;omega
   ·omega) v hv
  have this:x v + (-(x i)) <= gd far v:=this
  omega
 have h1:=gr _ F i hi
 have h2:=S.le i hi
 exact ⟨F,by show gd far i=0;omega,gr⟩
end Go.Proofs.YtkeeechdijfkhaaGreat
