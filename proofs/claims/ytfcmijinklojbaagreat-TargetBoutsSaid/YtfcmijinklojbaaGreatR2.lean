import Derived.Test.YtfcmijinklojbaaGreatR1
import Derived.Test.YtfcmijinklojbaaGreatR0
set_option linter.all false
open Option renaming bind_some->hH
open Bool renaming and_eq_true->nA,false_eq_true->nH,true_and->nO,false_and->nQ,or_eq_true->nR,eq_iff_iff->nf,not_eq_true'->kL
open Nat renaming eq_of_beq_eq_true->nB,le_refl->nG,beq->nM,blt_eq->np,zero_add->nw,blt->kB,le_trans->kC,pow_le_pow_right->kG,lt_of_lt_of_le->kH,pow_succ->kQ,zero_le->kS,testBit_lt_two_pow->kU,lt_irrefl->kW,ble_eq->kf
open List renaming all_eq_true->nD,getD_eq_getElem?_getD->nE,mem_append->nI,mem_cons->nJ,cons_append->nK,pairwise_iff_getElem->nP,append_of_mem->nS,nil_append->nT,mem_singleton->nV,map_cons->nW,append_assoc->nX,pairwise_cons->nY,mem_append_right->nZ,getElem?_eq_some_iff->na,getElem?_eq_getElem->nc,mem_append_left->ng,drop_eq_getElem_cons->nh,getElem?_take_of_lt->ni,range->nj,drop_eq_nil_of_le->nk,mem_range->nl,pairwise_append->nq,length_take->nr,append_nil->nt,length_map->nu,length_nil->nv,any_eq_true->nz,take_length->kA,nodup_cons->kD,mem_filter->kE,getElem?_append_right->kJ,any_cons->kK,mem_map->kO,map_append->kR,mem_cons_of_mem->kV,all_cons->kX,getElem_of_mem->kY,mem_filterMap->kc
open Option.some renaming inj->nL,injEq->ke
open Classical renaming propDecidable->nN
open List.cons renaming injEq->nU,inj->kg
open Int renaming le_refl->ny,add_zero->kM,sub_zero->kP,toNat_of_nonneg->kZ
namespace Go.KX
noncomputable section
open Go.RowKit Go.KL
def wCj:List AOd->List Pos
 | []=>[]
 | .t p :: l=>p :: wCj l
 | .c _ :: l=>wCj l
def wLa:AOp->Bool
 | .new _ _ | .box _ _ | .mkm | .mks _ _ _ _ _ _ | .blds _ _ _ _=>true
 | _=>false
def wCT (a:AO):List Pos:=wCj (wBj a.op) ++ (match a.grd with | some (p,_)=>[p] | none=>[])
def Sub (a:AOp) (o:Oper):Prop:=∀ t,Operand.tmp t ∈ o.op.operands->∃ p ∈ wCj (wBj a),p.nat - 1=t
def wKZ (l:List Oper) (x i:Nat):Prop:=∀ S:Nat->Bool,(∀ k,k < l.length->S k=true->∀ j ∈ prI l k,S j=true)->(∀ j ∈ prI l i,S j=true)->S x=true
def wHC (acc:List Nat):List Nat->Nat
 | []=>0
 | p :: ps=>wHC acc ps ||| (2 ^ p ||| acc.getD p 0)
def wPF (acc:List Nat):List Oper->List Nat
 | []=>acc
 | o :: r=>wPF (acc ++ [wHC acc (wKv o)]) r
theorem wHq {acc:List Nat} {x:Nat}:∀ {ps:List Nat},(wHC acc ps).testBit x=true->∃ p ∈ ps,x=p \/ (acc.getD p 0).testBit x=true
 | [],h=>by simp [wHC] at h
 | p :: ps,h=>by
  simp only [wHC,Nat.testBit_or,nR,Nat.testBit_two_pow,decide_eq_true_eq] at h
  rcases h with h | h | h
  ·obtain ⟨q,h1,h2⟩:=wHq h
   exact ⟨q,by simp [h1],h2⟩
  ·exact ⟨p,by simp,.inl h.symm⟩
  ·exact ⟨p,by simp,.inr h⟩
theorem wJq {l:List Oper} (hpr:∀ i,i < l.length->∀ j ∈ prI l i,j < i):∀ (rest done:List Oper) (acc:List Nat),l=done ++ rest->acc.length=done.length->(∀ i x,(acc.getD i 0).testBit x=true->wKZ l x i) ->
  ∀ i x,((wPF acc rest).getD i 0).testBit x=true->wKZ l x i
 | [],done,acc,_,_,h,i,x,hx=>h i x hx
 | o :: r,done,acc,hl,hlen,h,i,x,hx=>by
  refine wJq hpr r (done ++ [o]) (acc ++ [wHC acc (wKv o)]) (by rw [hl];simp) (by simp [hlen]) ?_ i x hx
  intro i x hx
  rcases Nat.lt_trichotomy i acc.length with hi | hi | hi
  ·rw [nE,List.getElem?_append_left hi,<- nE] at hx
   exact h i x hx
  ·rw [nE,hi,kJ (nG _),Nat.sub_self] at hx
   have hx:(wHC acc (wKv o)).testBit x=true:=hx
   have hlt:done.length < l.length:=by rw [hl];simp
   have hp:prI l done.length=wKv o:=by
    unfold prI
    rw [hl,kJ (nG _),Nat.sub_self]
    rfl
   obtain ⟨p,h1,h2⟩:=wHq hx
   intro S hdc hS
   rw [hi,hlen] at hS
   have hSp:S p=true:=hS p (by rw [hp];exact h1)
   rcases h2 with rfl | h2
   ·exact hSp
   ·have:=hpr _ hlt p (by rw [hp];exact h1)
    exact h p x h2 S hdc (hdc p (by omega) hSp)
  ·rw [nE,List.getElem?_eq_none (by simp;omega)] at hx
   simp at hx
def dne (b:AO) (p:Pos):Bool:=match b.dst with
 | none=>true
 | some q=>!Pos.beq q p
def subB (a:AOp) (o:Oper):Bool:=o.op.operands.toList.all fun
 | .tmp t=>(wCj (wBj a)).any fun p=>nM p.nat (t + 1)
 | _=>true
def kdOK (a:AO):Bool:=wCN a.kd || (a.dst.isSome && (nM a.kd 1 || (nM a.kd 3 || ((nM a.kd 6 && nM (kdA a.op) 3) || ((nM a.kd 4 && wLa a.op) || (Nat.ble 8 a.kd && nM (kdA a.op) 1))))))
def zld (m kd:Nat):Nat->List AO->Bool
 | _,[]=>true
 | n,b :: d=>(!Nat.beq b.kd 0 || (m.testBit b.ix || kB (n + 8) kd)) && zld m kd (match wCN b.kd with | true=>n + 1 | false=>n) d
def zop (m:Nat) (l:List Oper) (d:List AO) (a:AO) (t:List AO):Bool :=
 (!wCN a.kd || d.all fun b=>m.testBit b.ix) &&
 ((match a.dst with | none=>true | some p=>d.all (fun b=>dne b p) && t.all (fun b=>dne b p)) &&
 ((wCT a).all (fun p=>dne a p && (t.all (fun b=>dne b p) && d.all (fun b=>dne b p || (m.testBit b.ix && (!(nM a.kd 1 || (nM a.kd 3 || Nat.ble 8 a.kd)) || !(nM b.kd 4 || nM b.kd 6)))))) &&
 ((!Nat.beq a.kd 1 || d.all fun b=>!Nat.beq b.kd 0 || m.testBit b.ix) && (!Nat.ble 8 a.kd || zld m a.kd 0 d) &&
 (t.all (fun b=>!Nat.beq b.ix a.ix) &&
 (kdOK a && (match l[a.ix]? with | none=>false | some o=>!wBt o && subB a.op o))))))
def zgo (an:List Nat) (l:List Oper) (d:List AO):List AO->Bool
 | []=>true
 | a :: t=>zop (an.getD a.ix 0) l d a t && zgo an l (a :: d) t
def wQK (a:AO):Bool:=nM a.kd 0 && (match a.op with | .mv _=>true | _=>false)
def wQL:List AO->List AO
 | []=>[]
 | a :: t=>match wQK a with
  | true=>[]
  | false=>a :: wQL t
def wOT:List AO->List AO
 | []=>[]
 | a :: t=>match wQK a with
  | true=>a :: t
  | false=>wOT t
theorem wPG:∀ os:List AO,os=wQL os ++ wOT os
 | []=>rfl
 | a :: t=>by
  unfold wQL wOT
  cases wQK a with
  | true=>rfl
  | false=>exact congrArg (a :: ·) (wPG t)
def ztl (an:List Nat) (l:List Oper) (os:List AO):Bool :=
 ((wOT os).all (fun a=>kB a.kd 8) && (wQL os).all fun a=>kB a.kd 8 || ((wCT a).all (fun p=>(wOT os).all fun b=>dne b p) && (match a.dst with | some p=>(wOT os).all fun b=>dne b p | none=>true))) && (zgo an l [] (wQL os) && (zgo an l [] (wOT os) && (wOT os).all fun b=>(wQL os).all fun a=>!Nat.beq a.ix b.ix && (an.getD b.ix 0).testBit a.ix))
def chkZ (l:List Oper) (os:List AO):Bool :=
 (nj l.length).all (fun i=>(prI l i).all (kB · i)) && ((nj l.length).all (fun i=>os.any fun a=>nM a.ix i) && (zgo (wPF [] l) l [] os || ztl (wPF [] l) l os))
def wOC (l:List AO):Nat:=l.countP fun b=>wCN b.kd
structure ZOK (P:Program) (N:Nat) (l:List Oper) (os:List AO):Prop where
 ao:∀ a ∈ os,wHB P N l a=true
 one:os.Pairwise fun a b=>a.ix ≠ b.ix
 pr:∀ i,i < l.length->∀ j ∈ prI l i,j < i
 anc:∀ s a t,os=s ++ a :: t->wCN a.kd=true->∀ b ∈ s,wKZ l b.ix a.ix
 wr:∀ s a t,os=s ++ a :: t->∀ p,a.dst=some p->∀ b ∈ s ++ t,b.dst ≠ some p
 rd:∀ s a t,os=s ++ a :: t->∀ p ∈ wCT a,∀ b ∈ a :: t,b.dst ≠ some p
 rdS:∀ a ∈ os,∀ p ∈ wCT a,∀ b ∈ os,b.dst=some p->wKZ l b.ix a.ix
 kd:∀ a ∈ os,wCN a.kd=true \/ (a.dst ≠ none/\(a.kd=1 \/ a.kd=3 \/ (a.kd=6/\kdA a.op=3) \/ (a.kd=4/\wLa a.op=true) \/ (8 <= a.kd/\kdA a.op=1)))
 cl:∀ a ∈ os,a.kd=1 \/ a.kd=3 \/ 8 <= a.kd->∀ p ∈ wCT a,∀ b ∈ os,b.dst=some p->b.kd ≠ 4/\b.kd ≠ 6
 sel:∀ a ∈ os,∀ o,l[a.ix]?=some o->wBt o=false
 sub:∀ a ∈ os,∀ o,l[a.ix]?=some o->Sub a.op o
 ld:∀ s a t,os=s ++ a :: t->a.kd=1->∀ b ∈ s,b.kd=0->wKZ l b.ix a.ix
 ld8:∀ s a t,os=s ++ a :: t->8 <= a.kd->∀ s1 b s2,s=s1 ++ b :: s2->b.kd=0->wKZ l b.ix a.ix \/ wOC s2 + 8 < a.kd
theorem wPH {m kd:Nat}:∀ (x:List AO) (b:AO) (y:List AO) (n:Nat),zld m kd n (x ++ b :: y)=true->b.kd=0->m.testBit b.ix=true \/ n + wOC x + 8 < kd
 | [],b,y,n,h,h0=>by
  rw [nT,zld,h0] at h
  simp only [nA,nR,np] at h
  rcases h.1 with g | g | g
  ·exact absurd g (by decide)
  ·exact .inl g
  ·exact .inr g
 | c :: x,b,y,n,h,h0=>by
  rw [nK,zld] at h
  simp only [nA] at h
  have:=wPH x b y _ h.2 h0
  refine this.imp id fun h=>?_
  unfold wOC at h ⊢
  rw [List.countP_cons]
  cases hf:wCN c.kd <;> rw [hf] at h <;> simp only [if_true,if_false,nH] at h ⊢ <;> omega
theorem Pos.beq_self:∀ p:Pos,p.beq p=true
 | .H=>rfl
 | .O p=>Pos.beq_self p
 | .I p=>Pos.beq_self p
theorem wHD {b:AO} {p:Pos} (h:dne b p=true):b.dst ≠ some p:=by
 intro e
 unfold dne at h
 rw [e] at h
 simp [Pos.beq_self] at h
theorem wPI {an:List Nat} {l:List Oper}:∀ (os d:List AO),zgo an l d os=true->∀ s a t,os=s ++ a :: t->zop (an.getD a.ix 0) l (s.reverse ++ d) a t=true
 | [],d,_,s,a,t,e=>by simp at e
 | b :: os,d,h,[],a,t,e=>by
  simp only [nT,nU] at e
  obtain ⟨rfl,rfl⟩:=e
  simp only [zgo,nA] at h
  exact h.1
 | b :: os,d,h,c :: s,a,t,e=>by
  simp only [nK,nU] at e
  obtain ⟨rfl,rfl⟩:=e
  simp only [zgo,nA] at h
  have:=wPI (s ++ a :: t) (b :: d) h.2 s a t rfl
  simpa using this
theorem wRq {α:Type} {R:α->α->Prop}:∀ (l:List α),(∀ s a t,l=s ++ a :: t->∀ b ∈ t,R a b)->l.Pairwise R
 | [],_=>List.Pairwise.nil
 | a :: l,h=>nY.2 ⟨fun b hb=>h [] a l rfl b hb,wRq l fun s b t e=>h (a :: s) b t (by rw [e];rfl)⟩
theorem wKa {P:Program} {N:Nat} {l:List Oper} {os:List AO} (hao:∀ a ∈ os,wHB P N l a=true) (hpr:∀ i,i < l.length->∀ j ∈ prI l i,j < i) (hz:zgo (wPF [] l) l [] os=true):ZOK P N l os:=by
 have han:∀ i x,((wPF [] l).getD i 0).testBit x=true->wKZ l x i:=wJq hpr l [] [] rfl rfl fun i x h=>by simp at h
 have key:∀ s a t,os=s ++ a :: t->zop ((wPF [] l).getD a.ix 0) l s.reverse a t=true:=fun s a t e=>by
  have:=wPI os [] hz s a t e
  rwa [nt] at this
 have wLJ:∀ s a t,os=s ++ a :: t ->
   (wCN a.kd=true->∀ b ∈ s,wKZ l b.ix a.ix)/\(∀ p,a.dst=some p->∀ b ∈ s ++ t,b.dst ≠ some p) /\
   (∀ p ∈ wCT a,(∀ b ∈ a :: t,b.dst ≠ some p)/\∀ b ∈ s,b.dst=some p->wKZ l b.ix a.ix/\(a.kd=1 \/ a.kd=3 \/ 8 <= a.kd->b.kd ≠ 4/\b.kd ≠ 6)) /\
   ((a.kd=1->∀ b ∈ s,b.kd=0->wKZ l b.ix a.ix)/\(8 <= a.kd->∀ s1 b s2,s=s1 ++ b :: s2->b.kd=0->wKZ l b.ix a.ix \/ wOC s2 + 8 < a.kd))/\(∀ b ∈ t,a.ix ≠ b.ix)/\kdOK a=true/\(∀ o,l[a.ix]?=some o->wBt o=false/\subB a.op o=true):=by
  intro s a t e
  have hk:=key s a t e
  unfold zop at hk
  simp only [nA,nD,List.mem_reverse,nR,kL] at hk
  obtain ⟨k1,k2,k3,⟨k4,k8⟩,k5,k6,k7⟩:=hk
  refine ⟨fun hf b hb=>?_,fun p hp b hb=>?_,fun p hp=>⟨fun b hb=>?_,fun b hb hd=>?_⟩,⟨fun h1 b hb h0=>?_,fun h8 s1 b s2 es h0=>?_⟩,fun b hb he=>?_,k6,fun o ho=>?_⟩
  ·rcases k1 with k1 | k1
   ·rw [hf] at k1;cases k1
   ·exact han _ _ (k1 b hb)
  ·rw [hp] at k2
   simp only [nA,nD,List.mem_reverse] at k2
   rcases nI.1 hb with hb | hb
   ·exact wHD (k2.1 b hb)
   ·exact wHD (k2.2 b hb)
  ·obtain ⟨g1,g2,g3⟩:=k3 p hp
   rcases nJ.1 hb with rfl | hb
   ·exact wHD g1
   ·exact wHD (g2 b hb)
  ·obtain ⟨g1,g2,g3⟩:=k3 p hp
   rcases g3 b hb with g | ⟨g,g'⟩
   ·exact absurd hd (wHD g)
   ·refine ⟨han _ _ g,fun hk=>?_⟩
    rcases g' with g' | g'
    ·rcases hk with hk | hk | hk
     ·rw [hk] at g';exact absurd g' (by decide)
     ·rw [hk] at g';exact absurd g' (by decide)
     ·simp only [Bool.or_eq_false_iff] at g'
      have h8:Nat.ble 8 a.kd=true:=by rw [kf];exact hk
      rw [g'.2.2] at h8
      cases h8
    ·constructor <;> intro h4 <;> rw [h4] at g' <;> exact absurd g' (by decide)
  ·rcases k4 with k4 | k4
   ·rw [h1] at k4;exact absurd k4 (by decide)
   ·rcases k4 b hb with g | g
    ·rw [h0] at g;exact absurd g (by decide)
    ·exact han _ _ g
  ·rcases k8 with k8 | k8
   ·rw [<- Bool.not_eq_true,kf] at k8
    exact absurd h8 k8
   ·rw [es,List.reverse_append,List.reverse_cons,nX] at k8
    rcases wPH s2.reverse b (s1.reverse) 0 (by simpa using k8) h0 with g | g
    ·exact .inl (han _ _ g)
    ·refine .inr ?_
     unfold wOC at g ⊢
     rw [List.countP_reverse] at g
     omega
  ·have:=k5 b hb
   rw [he] at this
   simp at this
  ·rw [ho] at k7
   simpa using k7
 have mem:∀ a ∈ os,∃ s t,os=s ++ a :: t:=fun a ha=>nS ha
 refine ⟨hao,wRq os fun s a t e=>(wLJ s a t e).2.2.2.2.1,hpr,fun s a t e=>(wLJ s a t e).1,fun s a t e=>(wLJ s a t e).2.1,fun s a t e p hp=>((wLJ s a t e).2.2.1 p hp).1,fun a ha p hp b hb hd=>?_,fun a ha=>?_,fun a ha hk p hp b hb hd=>?_,fun a ha o ho=>?_,fun a ha o ho=>?_,fun s a t e=>(wLJ s a t e).2.2.2.1.1,fun s a t e=>(wLJ s a t e).2.2.2.1.2⟩
 ·obtain ⟨s,t,e⟩:=mem a ha
  obtain ⟨g1,g2⟩:=(wLJ s a t e).2.2.1 p hp
  rw [e] at hb
  rcases nI.1 hb with hb | hb
  ·exact (g2 b hb hd).1
  ·exact absurd hd (g1 b hb)
 ·obtain ⟨s,t,e⟩:=mem a ha
  have hk:=(wLJ s a t e).2.2.2.2.2.1
  unfold kdOK at hk
  simp only [nR,nA] at hk
  rcases hk with hk | ⟨h1,hk⟩
  ·exact .inl hk
  ·refine .inr ⟨fun e=>(by rw [e] at h1;cases h1),?_⟩
   rcases hk with hk | hk | ⟨hk,h2⟩ | ⟨hk,h2⟩ | ⟨hk,h2⟩
   ·exact .inl (nB hk)
   ·exact .inr (.inl (nB hk))
   ·exact .inr (.inr (.inl ⟨nB hk,nB h2⟩))
   ·exact .inr (.inr (.inr (.inl ⟨nB hk,h2⟩)))
   ·exact .inr (.inr (.inr (.inr ⟨by rwa [kf] at hk,nB h2⟩)))
 ·obtain ⟨s,t,e⟩:=mem a ha
  obtain ⟨g1,g2⟩:=(wLJ s a t e).2.2.1 p hp
  rw [e] at hb
  rcases nI.1 hb with hb | hb
  ·exact (g2 b hb hd).2 hk
  ·exact absurd hd (g1 b hb)
 ·obtain ⟨s,t,e⟩:=mem a ha
  exact ((wLJ s a t e).2.2.2.2.2.2 o ho).1
 ·obtain ⟨s,t,e⟩:=mem a ha
  have h1:=((wLJ s a t e).2.2.2.2.2.2 o ho).2
  unfold subB at h1
  rw [nD] at h1
  intro x hx
  have:=h1 (.tmp x) (by simpa using hx)
  simp only [nz] at this
  obtain ⟨p,g1,g2⟩:=this
  exact ⟨p,g1,by rw [nB g2];rfl⟩
structure ZAll (P:Program) (N:Nat) (l:List Oper) (os A B:List AO):Prop where
 eq:os=A ++ B
 za:ZOK P N l A
 zb:ZOK P N l B
 cross:∀ b ∈ B,∀ a ∈ A,a.ix ≠ b.ix/\wKZ l a.ix b.ix
 low:∀ b ∈ B,b.kd < 8
 far:∀ a ∈ A,8 <= a.kd->∀ p,p ∈ wCT a \/ a.dst=some p->∀ b ∈ B,b.dst ≠ some p
 all:∀ i,i < l.length->∃ a ∈ os,a.ix=i
theorem wMw {P:Program} {N:Nat} {l:List Oper} {os:List AO} (hao:∀ a ∈ os,wHB P N l a=true) (h:chkZ l os=true):∃ A B,ZAll P N l os A B:=by
 unfold chkZ at h
 rw [nA,nA,nR] at h
 obtain ⟨hpr0,hall0,hz⟩:=h
 simp only [nD,nl,np,nz] at hpr0 hall0
 have hpr:∀ i,i < l.length->∀ j ∈ prI l i,j < i:=hpr0
 have hall:∀ i,i < l.length->∃ a ∈ os,a.ix=i:=fun i hi=>by
  obtain ⟨a,h1,h2⟩:=hall0 i hi
  exact ⟨a,h1,nB h2⟩
 have han:∀ i x,((wPF [] l).getD i 0).testBit x=true->wKZ l x i:=wJq hpr l [] [] rfl rfl fun i x h=>by simp at h
 rcases hz with hz | hz
 ·exact ⟨os,[],by simp,wKa hao hpr hz,wKa (fun a ha=>by simp at ha) hpr rfl,fun b hb=>by simp at hb,fun b hb=>by simp at hb,fun a _ _ p _ b hb=>by simp at hb,hall⟩
 ·unfold ztl at hz
  simp only [nA,nD,np,kL] at hz
  obtain ⟨⟨h1,h5⟩,h2,h3,h4⟩:=hz
  have e:=wPG os
  refine ⟨wQL os,wOT os,e,wKa (fun a ha=>hao a (by rw [e];simp [ha])) hpr h2,wKa (fun a ha=>hao a (by rw [e];simp [ha])) hpr h3,fun b hb a ha=>⟨fun e=>?_,han _ _ (h4 b hb a ha).2⟩,h1,fun a ha h8 p hp b hb=>?_,hall⟩
  ·have:=(h4 b hb a ha).1
   rw [e] at this
   simp at this
  ·have h6:=h5 a ha
   simp only [nR,nA,nD,np] at h6
   rcases h6 with h6 | ⟨h6,h7⟩
   ·omega
   ·rcases hp with hp | hp
    ·exact wHD (h6 p hp b hb)
    ·rw [hp] at h7
     simp only [nD] at h7
     exact wHD (h7 b hb)
theorem wIR {tb:Tr AF} {ex exY:Run} {σf:Tr AV} {h:AH}:∀ (x y:List AO) (n:Nat),wJN tb ex exY σf h n (x ++ y)=true->wJN tb ex exY σf h n x=true
 | [],_,_,_=>rfl
 | a :: x,y,n,hl=>by
  rw [nK,wER] at hl
  rw [wER]
  cases hf:wCN a.kd with
  | true =>
   rw [hf] at hl
   exact wIR x y _ hl
  | false =>
   rw [hf] at hl
   simp only [nA] at hl ⊢
   exact ⟨hl.1,wIR x y _ hl.2⟩
theorem wJr {tb:Tr AF} {ex exY:Run} {σf:Tr AV} {h:AH}:∀ (x:List AO) (a:AO) (y:List AO) (n:Nat),wJN tb ex exY σf h n (x ++ a :: y)=true->wCN a.kd=false->n + wOC x + 8 < a.kd->wHk tb ex exY σf h a=true
 | [],a,y,n,hl,hf,hn=>by
  rw [nT,wER,hf] at hl
  simp only [nA] at hl
  have hb:kB (n + 8) a.kd=true:=by rw [np];exact hn
  rw [hb] at hl
  exact hl.1
 | c :: x,a,y,n,hl,hf,hn=>by
  rw [nK,wER] at hl
  unfold wOC at hn
  rw [List.countP_cons] at hn
  cases hc:wCN c.kd with
  | true =>
   rw [hc] at hl hn
   exact wJr x a y _ hl hf (by unfold wOC;simp only [if_true] at hn;omega)
  | false =>
   rw [hc] at hl hn
   simp only [nA] at hl
   exact wJr x a y _ hl.2 hf (by unfold wOC;simp only [if_false,nH] at hn;omega)
def LCK (tb:Tr AF) (ex exY:Run) (os:List AO) (σ0:Tr AV) (h0:AH) (σf:Tr AV):Prop :=
 ∀ s b t,os=s ++ b :: t->b.kd=0->∀ σ1 h1,wAZ tb ex exY s σ0 h0=some (σ1,h1)->wJN tb ex exY σf h1 0 t=true
theorem wJs {tb:Tr AF} {ex exY:Run}:∀ (os:List AO) (σ:Tr AV) (h:AH) (r:Tr AV × AH),wMK tb ex exY os σ h=some r->wAZ tb ex exY os σ h=some r/\LCK tb ex exY os σ h r.1
 | [],σ,h,r,hr=>by
  rw [wOL] at hr
  exact ⟨by rw [wAs];exact hr,fun s b t e=>by simp at e⟩
 | o :: os,σ,h,r,hr=>by
  rw [wML] at hr
  split at hr
  ·cases hr
  ·rename_i q hq
   split at hr
   ·cases hr
   ·rename_i r' hr'
    have e:r'=r:=by
     split at hr
     ·split at hr
      ·cases hr;rfl
      ·cases hr
     ·cases hr;rfl
    subst e
    obtain ⟨g1,g2⟩:=wJs os _ _ _ hr'
    have g0:∀ s,wAZ tb ex exY (o :: s) σ h=wAZ tb ex exY s q.1 q.2:=by
     intro s
     rw [wAu]
     unfold wPg at hq
     cases hw:wCm σ o.grd with
     | true =>
      rw [hw] at hq
      simp only at hq ⊢
      split at hq
      ·rename_i y hy
       cases hq
       rfl
      ·cases hq
     | false =>
      rw [hw] at hq
      cases hq
      rfl
    refine ⟨by rw [g0];exact g1,fun s b t e h0 σ1 h1 hs=>?_⟩
    cases s with
    | nil =>
     simp only [nT,nU] at e
     obtain ⟨rfl,rfl⟩:=e
     rw [wAs] at hs
     cases hs
     have hb:nM o.kd 0=true:=by rw [h0];rfl
     rw [hb] at hr
     simp only at hr
     split at hr
     ·assumption
     ·cases hr
    | cons c s =>
     simp only [nK,nU] at e
     obtain ⟨rfl,rfl⟩:=e
     rw [g0] at hs
     exact g2 s b t rfl h0 σ1 h1 hs
theorem wKb {tb:Tr AF} {ex exY:Run} {os:List AO} {σ:Tr AV} {h:AH} {σf:Tr AV} (hk:∀ a ∈ os,a.kd < 8):LCK tb ex exY os σ h σf:=by
 intro s b t e _ σ1 h1 _
 have:∀ (l:List AO) (n:Nat),(∀ a ∈ l,a.kd < 8)->wJN tb ex exY σf h1 n l=true:=by
  intro l
  induction l with
  | nil=>intro n _;rfl
  | cons a l ih =>
   intro n hl
   rw [wER]
   have ha:=hl a (by simp)
   have hb:kB (n + 8) a.kd=false:=by rw [<- Bool.not_eq_true,np];omega
   cases wCN a.kd with
   | true=>exact ih _ fun b hb=>hl b (by simp [hb])
   | false =>
    simp only [hb,nO]
    exact ih _ fun b hb=>hl b (by simp [hb])
 exact this t 0 fun a ha=>hk a (by rw [e];simp [ha])
end
end Go.KX
namespace Go.KX
noncomputable section
open Go.RowKit Go.KL
def kdAt (i:Nat):List AO->Nat
 | []=>0
 | a :: os=>match nM a.ix i with
  | true=>a.kd
  | false=>kdAt i os
def lazyA (os:List AO):Bool:=os.any fun a=>kB 3 a.kd
def chkR (P:Program) (N:Nat) (os:List AO) (l:List Oper) (draw:Bool):Bool :=
 let ks:=(nj l.length).map fun i=>kdAt i os
 os.all (fun a=>wHB P N l a && nM (kOf ks a.ix) a.kd) && (match draw with
  | true=>(match lazyA os with
   | true=>os.all (fun a=>kB a.kd 8) && chkZ l os
   | false=>wLf l ks (wJC os))
  | false=>inOrder 0 (wJC os) l.length)
def wLL (N:Nat):List Pos->List Nat->Bool
 | [],[]=>true
 | t :: ts,p :: ps=>(nM t.nat (p + 1) && kB p N) && wLL N ts ps
 | _,_=>false
theorem wKc {N:Nat}:∀ {ts:List Pos} {ps:List Nat},wLL N ts ps=true->ts.map Pos.nat=ps.map (· + 1)/\∀ x ∈ ps,x < N
 | [],[],_=>by simp
 | t :: ts,p :: ps,h=>by
  simp only [wLL,nA,np] at h
  obtain ⟨⟨h1,h2⟩,h3⟩:=h
  obtain ⟨h4,h5⟩:=wKc h3
  refine ⟨by simp [h4,nB h1],?_⟩
  intro x hx
  rcases nJ.1 hx with rfl | hx
  ·exact h2
  ·exact h5 x hx
 | [],_ :: _,h=>by simp [wLL] at h
 | _ :: _,[],h=>by simp [wLL] at h
theorem wKd {μ:Mu}:∀ {ts:List Pos} {ns:List Nat} {σA σB:Tr AV} {σ:Env} {as:List AV} {vs:List Value},wPf σA ts as=some σB->ts.map Pos.nat=ns.map (· + 1)->RvL μ as vs->EnvR μ σA σ->EnvR μ σB (wMO σ ns vs)/\ns.length=vs.length
 | [],ns,σA,σB,σ,as,vs,hs,hn,hv,hE=>by
  cases ns with
  | cons _ _=>simp at hn
  | nil =>
   cases as with
   | cons _ _=>simp [wPf] at hs
   | nil=>cases hv;simp only [wPf,ke] at hs;subst hs;exact ⟨hE,rfl⟩
 | t :: ts,ns,σA,σB,σ,as,vs,hs,hn,hv,hE=>by
  cases ns with
  | nil=>simp at hn
  | cons n ns =>
   cases as with
   | nil=>simp [wPf] at hs
   | cons a as =>
    obtain ⟨v,ws,h1,h2,rfl⟩:=hv
    simp only [nW,nU] at hn
    have hp:=hE.put (p:=t) h1
    have e:t.nat - 1=n:=by omega
    rw [e] at hp
    obtain ⟨g1,g2⟩:=wKd (ts:=ts) (ns:=ns) (σA:=σA.set t a) (σ:=upd σ n v) (by simpa [wPf] using hs) hn.2 h2 hp
    exact ⟨g1,by simp [g2]⟩
def wFe (P:Program) (N:Nat):AC->Code->Bool
 | .skip,.skip=>true
 | .skip,.label _=>true
 | .rg os,.region _ ops draw=>chkR P N os ops.toList draw
 | .rl os,.region _ ops draw=>draw && (os.all (fun a=>wHB P N ops.toList a) && chkZ ops.toList os)
 | .seq a b,.seq c d=>wFe P N a c && wFe P N b d
 | .cond x a b,.cond y c d=>wCK x y && (wFe P N a c && wFe P N b d)
 | .block i a,.block j c=>nM i j && wFe P N a c
 | .loop a,.loop c=>wFe P N a c
 | .scope a,.scope c=>wFe P N a c
 | .rf g t asg body,.rangeFunc g' ps asg' body'=>wCK g g' && (wLL N t ps.toList && (wFe P N asg asg' && wFe P N body body'))
 | .exit i,.exit j=>nM i j
 | .ret,.ret=>true
 | _,_=>false
def CC (P:Program):Chk:=fun a c N=>wFe P N a c=true
section
variable {P:Program} {tb:Tr AF} {μ μ' μ'':Mu} {w w' w'':World} {h h' h'':AH} {σ:Env} {σA:Tr AV}
def Mk (μ:Mu) (w:World) (n0:Nat) (D:List Deferred):Prop:=∃ rbs:List Nat,D=rbs.map mark/\rbs.Nodup/\∀ rb ∈ rbs,Dfr w rb/\n0 <= rb/\∀ p c,μ p=some c->c.1 ≠ rb
theorem Mk.nil (μ:Mu) (w:World) (n0:Nat):Mk μ w n0 []:=⟨[],rfl,by simp,by simp⟩
theorem Mk.ext {n0 fl:Nat} {D:List Deferred} (M:Mk μ w n0 D) (E:Ext μ fl w μ' w'):Mk μ' w' n0 D:=by
 obtain ⟨rbs,h1,h2,h3⟩:=M
 refine ⟨rbs,h1,h2,fun rb hrb=>?_⟩
 obtain ⟨g1,g2,g3⟩:=h3 rb hrb
 refine ⟨g1.keep E.keep fun ⟨p,d,q1,q2,_⟩=>g3 p d q1 q2,g2,fun p c hp=>?_⟩
 rcases E.new p c hp with q | ⟨p',d,q1,q2,_⟩ | q
 ·exact g3 p c q
 ·rw [<- q2];exact g3 p' d q1
 ·have:=g1.lt;omega
def PostX (P:Program) (μ:Mu) (fl:Pos) (w:World) (n0:Nat) (rr:Option Nat) (D:List Deferred) (e:Ex) (σA':Tr AV) (h':AH):wDG:=fun D' e' σ' w' =>
 e'=exC e/\∃ μ',Ext μ fl.nat w μ' w'/\Sim (CC P) P μ' h' w'/\EnvR μ' σA' σ'/\Mk μ' w' n0 D'/\h'.fl=fl/\(rr.isSome=true->D'=D)
def wJE (P:Program) (ex:Run) (r:Bool):Prop:=∀ c σA h e σA' h',ex c σA h=some (e,σA',h')->∀ code N,wFe P N c code=true->∀ (rr:Option Nat) (μ:Mu) (σ:Env) (w:World) (D:List Deferred) (n0:Nat),
 rr.isSome=r->Sim (CC P) P μ h w->EnvR μ σA σ->Mk μ w n0 D->n0 <= w.heap.size->CK rr N P code (PostX P μ h.fl w n0 rr D e σA' h') D σ w
def wMx (P:Program) (ex:Run) (r:Bool) (m:Nat):Prop:=∀ c σA h e σA' h',ex (.loop c) σA h=some (e,σA',h')->∀ code N,wFe P N c code=true->∀ (rr:Option Nat) (μ:Mu) (σ:Env) (w:World) (D:List Deferred) (n0:Nat),
 rr.isSome=r->Sim (CC P) P μ h w->EnvR μ σA σ->Mk μ w n0 D->n0 <= w.heap.size->∀ a,Rep N D a σ->Code.roundsIn (WF rr) 0 P code (wHV N (PostX P μ h.fl w n0 rr D e σA' h')) m a w
theorem PostX.trans {fl:Pos} {n0:Nat} {rr:Option Nat} {D D1 D':List Deferred} {e:Ex} {e':Exit} {σA':Tr AV} {σ':Env} (E:Ext μ fl.nat w μ' w') (hD:rr.isSome=true->D1=D) (hP:PostX P μ' fl w' n0 rr D1 e σA' h' D' e' σ' w''):PostX P μ fl w n0 rr D e σA' h' D' e' σ' w'':=by
 obtain ⟨h1,μ2,h2,h3,h4,h5,h6,h7⟩:=hP
 exact ⟨h1,μ2,E.trans h2,h3,h4,h5,h6,fun hr=>(h7 hr).trans (hD hr)⟩
theorem wHE {F:Fence} {n:Nat} {c:Code} {Q Q':Exit->Act->World->Prop} (hQ:∀ e a w,Q e a w->Q' e a w):∀ (m:Nat) (a:Act) (w:World),Code.roundsIn F n P c Q m a w->Code.roundsIn F n P c Q' m a w
 | 0,_,_,h=>h.elim
 | m + 1,a,w,h=>by
  rw [roundsIn_succ] at h ⊢
  refine wpIn_mono h fun e a w q=>?_
  cases e with
  | normal=>exact wHE hQ m a w q
  | _=>exact hQ _ _ _ q
theorem Ext.drew (μ:Mu) (fl:Nat) (w:World):Ext μ fl w μ { w with drawn:=w.drawn + 1 }:=⟨Mu.Le.refl μ,fun _ _ h=>.inl h,(Keep.drew w).weak fun _ _ h=>h.elim⟩
theorem Sim.keepX {C:Chk} {X:Nat->Prop} (S:Sim C P μ h w) (K:Keep w w' X) (hX:∀ p c,μ p=some c->¬ X c.1):Sim C P μ h w' :=
 ⟨S.nx,fun p c hp=>kH (S.lt p c hp) K.size,S.inj,fun p b hb=>let ⟨c,h1,h2⟩:=S.at_ p b hb;⟨c,h1,h2.keep K (hX p c h1)⟩⟩
def wEH (P:Program):List AR->List ResultVar->Bool
 | [],[]=>true
 | .t p :: l,.tmp t :: k=>nM p.nat (t + 1) && wEH P l k
 | .c p n :: l,.cell a t :: k=>nM p.nat (a + 1) && ((match n with | none=>wOO P t false | some n=>wOO P t true && szT P t n) && wEH P l k)
 | _,_=>false
def chkF (P:Program) (k:Nat) (af:AF):Bool:=match P.funcs[k]? with
 | none=>false
 | some fn=>match fn.body with
  | none=>false
  | some c => nM fn.ntmps af.n && (wEH P af.res fn.results.toList && (!(fn.name == "runtime.NumGoroutine") && wFe P fn.ntmps af.body c))
theorem wJt {C:Chk} (hE:EnvR μ σA σ) (S:Sim C P μ h w):∀ {l:List AR} {k:List ResultVar} {vs:List AV},wEH P l k=true->wQv σA h l=some vs->∃ VS,RvL μ vs VS/\wQt P w σ k VS
 | [],[],vs,_,hr=>by simp only [wQv] at hr;cases hr;exact ⟨[],rfl,trivial⟩
 | .t p :: l,.tmp t :: k,vs,hc,hr=>by
  simp only [wEH,nA] at hc
  simp only [wQv,res1] at hr
  split at hr
  ·rename_i vs' hvs
   cases hr
   obtain ⟨VS,g1,g2⟩:=wJt hE S hc.2 hvs
   have e:=nB hc.1
   have g:=hE p
   rw [e] at g
   exact ⟨_,wBh g g1,rfl,g2⟩
  ·cases hr
 | .c p n :: l,.cell a t :: k,vs,hc,hr=>by
  simp only [wEH,nA] at hc
  obtain ⟨c1,c2,c3⟩:=hc
  have e:=nB c1
  have g:=hE p
  rw [e] at g
  rw [wQv] at hr
  split at hr
  ·rename_i v hv
   split at hr
   ·rename_i vs' hvs
    cases hr
    obtain ⟨VS,g1,g2⟩:=wJt hE S c3 hvs
    simp only [res1] at hv
    split at hv
    ·rename_i b off hb
     split at hv
     ·rename_i cl hcl
      obtain ⟨c,ws,q1,q2,q3⟩:=wEg hcl S
      rw [hb] at g
      obtain ⟨c',k1,k2⟩:=g
      rw [q1] at k1;cases k1
      have k2:σ a=.pointer (some ⟨c.1,off,none⟩):=k2
      split at hv
      ·rw [wGI] at hv
       obtain ⟨cv,r1,r2⟩:=wFF q2 hv
       refine ⟨_,wBh r2 g1,⟨_,k2,?_⟩,g2⟩
       simp [loadVar,wET c2,load,Sem.run,q3 w (Keep.refl w _) _ _ r1]
      ·rename_i n
       simp only [nA] at c2
       obtain ⟨r,hr3,rfl⟩:=wDO hv
       obtain ⟨r1,r2⟩:=wFG hr3 q2
       refine ⟨_,wBh ⟨_,r1,rfl⟩ g1,⟨_,k2,?_⟩,g2⟩
       have:=KL.run_loadCells (P:=P) (w:=w) (b:=c.1) (off:=off) (n:=n) ((ws.drop off).take n) (by simp;omega) fun j u hu=>q3 w (Keep.refl w _) _ _ (wFY rfl j u hu)
       simp [loadVar,wET c2.1,wDg c2.2,this]
     ·cases hv
    ·cases hv
   ·cases hr
  ·cases hr
 | [],_ :: _,_,hc,_=>by simp [wEH] at hc
 | .t _ :: _,[],_,hc,_=>by simp [wEH] at hc
 | .c _ _ :: _,[],_,hc,_=>by simp [wEH] at hc
 | .t _ :: _,.cell _ _ :: _,_,hc,_=>by simp [wEH] at hc
 | .c _ _ :: _,.tmp _ :: _,_,hc,_=>by simp [wEH] at hc
theorem wQM {C:Chk} {l:List AR} {rs:Array ResultVar} {v:AV} (hE:EnvR μ σA σ) (S:Sim C P μ h w) (hc:wEH P l rs.toList=true) (hr:wPe σA h l=some (v,h')):h'=h/\∃ cv,Rv μ v cv/\(wCi rs σ).run P w=.ok cv w:=by
 unfold wPe at hr
 split at hr
 ·rename_i vs hvs
  cases hr
  refine ⟨rfl,?_⟩
  obtain ⟨VS,g1,g2⟩:=wJt hE S hc hvs
  have hrs:rs=rs.toList.toArray:=by simp
  unfold tupA
  split
  ·rename_i v
   obtain ⟨cv,ws,q1,q2,q3⟩:=g1
   cases q2
   subst q3
   refine ⟨cv,q1,?_⟩
   have hl:∃ r,rs=#[r]:=by
    cases hq:rs.toList with
    | nil=>rw [hq] at g2;exact g2.elim
    | cons r k =>
     cases k with
     | nil=>exact ⟨r,Array.ext' (by simpa using hq)⟩
     | cons r' k=>rw [hq] at g2;cases r <;> cases r' <;> exact g2.2.elim
   obtain ⟨r,rfl⟩:=hl
   exact wKx g2
  ·rename_i hne
   refine ⟨_,⟨VS,g1,rfl⟩,?_⟩
   rw [hrs]
   refine resLn g2 ?_
   have hl:=wCu g1
   cases hb:VS.length == 1 with
   | false=>rfl
   | true =>
    have:vs.length=1:=by rw [<- hl];exact eq_of_beq hb
    obtain ⟨v,hv⟩:=List.length_eq_one_iff.1 this
    exact absurd hv (hne v)
 ·cases hr
def wLM (P:Program) (tb:Tr AF):Prop:=∀ p af,tb.get p=some af->chkF P (p.nat - 1) af=true
theorem wMy (T:wLM P tb) {ex:Run} (HE:wJE P ex false):wGJ (CC P) P tb ex:=by
 intro f args h v h' hr
 unfold wIs at hr
 split at hr
 ·rename_i af haf
  have hcf:=T f af haf
  unfold chkF at hcf
  split at hcf
  ·cases hcf
  ·rename_i fn hfn
   split at hcf
   ·cases hcf
   ·rename_i c hbody
    simp only [nA,kL] at hcf
    obtain ⟨c1,c2,c3,c4⟩:=hcf
    refine ⟨fun a w=>?_,fun μ w vs S hv=>?_⟩
    ·have c3' : ¬ fn.name = "runtime.NumGoroutine" := by simpa using c3
     simp [callFunc,program,Sem.run,hfn,hbody,c3']
    ·split at hr
     ·rename_i hle
      have hle:=Nat.le_of_ble_eq_true hle
      have e1:=nB c1
      have key:∀ e σA' h1,ex af.body (wMH args .H .e) h=some (e,σA',h1)->(e=.nrm \/ e=.ret)->wPe σA' h1 af.res=some (v,h')->Gv P (f.nat - 1) vs w fun cv w'=>∃ μ',Ext μ h.fl.nat w μ' w'/\Sim (CC P) P μ' h' w'/\Rv μ' v cv/\h'.fl=h.fl:=by
       intro e σA' h1 hx he hres
       refine Gv.ofM hfn hbody rfl rfl (by rw [wCu hv,<- wES,e1];exact hle) ?_
       refine (HE _ _ _ _ _ _ hx c fn.ntmps c4 none μ (wOs vs) w [] w.heap.size rfl S (wPj hv) (Mk.nil μ w _) (nG _)).mono ?_
       rintro D' e' σ' w' ⟨rfl,μ',q1,q2,q3,q4,q5,_⟩
       obtain ⟨rbs,m1,m2,m3⟩:=q4
       have fin:∃ rbs:List Nat,D'=rbs.map mark/\rbs.Nodup/\(∀ rb ∈ rbs,Dfr w' rb)/\∀ w2,Keep w' w2 (· ∈ rbs)->w2.heap.size=w'.heap.size->∃ cv,(wCi fn.results σ').run P w2=.ok cv w2/\∃ μ',Ext μ h.fl.nat w μ' w2/\Sim (CC P) P μ' h' w2/\Rv μ' v cv/\h'.fl=h.fl:=by
        refine ⟨rbs,m1,m2,fun rb hrb=>(m3 rb hrb).1,fun w2 K hs=>?_⟩
        have S2:=q2.keepX K fun p c hp hm=>(m3 _ hm).2.2 p c hp rfl
        obtain ⟨rfl,cv,r1,r2⟩:=wQM q3 S2 c2 hres
        refine ⟨cv,r2,μ',⟨q1.mono,q1.new,?_⟩,S2,r1,q5⟩
        exact q1.keep.step K fun i hi hm=>absurd (m3 i hm).2.1 (Nat.not_le.2 hi)
       rcases he with rfl | rfl
       ·exact fin
       ·exact fin
      split at hr
      ·exact key _ _ _ (by assumption) (.inl rfl) hr
      ·exact key _ _ _ (by assumption) (.inr rfl) hr
      ·cases hr
     ·cases hr
 ·cases hr
theorem wOU {ex:Run} (HE:wJE P ex true):wFK (CC P) P ex:=by
 intro b args h v h' hr
 unfold wIt at hr
 split at hr
 ·rename_i σA t asg body hB
  intro μ w xv c S hx hc
  split at hr <;> first | (cases hr;done) | skip
  rename_i σS hset
  split at hr <;> first | (cases hr;done) | skip
  rename_i σ1 h1 hasg
  split at hr <;> first | (cases hr;done) | skip
  rename_i σx tx ax bx hB1
  split at hr <;> first | (cases hr;done) | skip
  rename_i h2 hput2
  split at hr <;> first | (cases hr;done) | skip
  rename_i e σ3 h3 hbody
  split at hr <;> first | (cases hr;done) | skip
  rename_i σy ty ay by_ hB3
  split at hr <;> first | (cases hr;done) | skip
  rename_i h4 hput4
  cases hr
  obtain ⟨c',g1,g2⟩:=S.at_ b _ hB
  rw [hc] at g1;cases g1
  have L:wLE (CC P) μ w c σA t asg body .ready:=g2
  obtain ⟨hSE,hSl⟩:=wKd hset L.ht hx L.env
  refine Yd.of L.at_ L.tN hSl fun σ0 hσ0=>?_
  have hE0:EnvR μ σS σ0:=by
   intro p
   rw [hσ0];exact hSE p
  refine (HE _ _ _ _ _ _ hasg c.g.ac c.g.N L.asg (some c.1) μ σ0 w [] 0 rfl S hE0 (Mk.nil μ w _) (kS _)).mono ?_
  rintro D' e' σ' w1 ⟨rfl,μ1,q1,q2,q3,q4,q5,q6⟩
  have hc1:=q1.mono b c hc
  obtain ⟨c',r1,r2⟩:=q2.at_ b _ hB1
  rw [hc1] at r1;cases r1
  have L1:wLE (CC P) μ1 w1 c σx tx ax bx .ready:=r2
  refine ⟨rfl,q6 rfl,L1.at_,fun w2 hl2 K hs=>?_⟩
  obtain ⟨s1,s2,s3⟩:=q2.put hput2 hB1 trivial hc1 K (B':=.loop σA t asg body .busy) ⟨hl2,L.env.mono q1.mono,L.ht,L.tN,L.asg,L.body⟩
  rw [q5] at s2 s3
  refine (HE _ _ _ _ _ _ hbody c.g.bc c.g.N L.body (some c.1) μ1 σ' w2 [] 0 rfl s1 q3 (Mk.nil μ1 w2 _) (kS _)).mono ?_
  rintro D'' e'' σ'' w3 ⟨rfl,μ3,t1,t2,t3,t4,t5,t6⟩
  rw [s3] at t1 t5
  have hc3:=t1.mono b c hc1
  obtain ⟨c',u1,u2⟩:=t2.at_ b _ hB3
  rw [hc3] at u1;cases u1
  have L3:wLE (CC P) μ3 w3 c σy ty ay by_ .busy:=u2
  have fin:∀ w4,LoopAt w4 c.1 c.g.N c.g.σ c.g.t c.g.ac c.g.bc c.g.rb c.g.fn (lsC e.done).1 (lsC e.done).2->Keep w3 w4 (·=c.1)->∃ μ',Ext μ h.fl.nat w μ' w4/\Sim (CC P) P μ' h' w4/\AV.bool e.go=.bool e.go/\h'.fl=h.fl:=by
   intro w4 hl4 K4
   obtain ⟨v1,v2,v3⟩:=t2.put hput4 hB3 trivial hc3 K4 (B':=.loop σA t asg body e.done) ⟨hl4,(L.env.mono q1.mono).mono t1.mono,L.ht,L.tN,L.asg,L.body⟩
   rw [t5] at v2 v3
   exact ⟨μ3,(q1.trans s2).trans (t1.trans v2),v1,rfl,v3⟩
  cases e with
  | nrm=>exact ⟨L3.at_,fun w4 hl K4 _=>fin w4 hl K4⟩
  | ret=>exact ⟨L3.at_,fun w4 hl K4 _=>fin w4 hl K4⟩
  | exit i=>exact ⟨L3.at_,fun w4 hl K4 _=>fin w4 hl K4⟩
 ·cases hr
end
end
end Go.KX
namespace Go.KX
open Go.RowKit Go.KL
theorem wJu (b:AC) (exR:Run) (e:Ex) (σ:Tr AV) (h:AH):seqK b exR (e,σ,h)=(match e with | .nrm=>exR b σ h | e=>some (e,σ,h)):=by cases e <;> rfl
theorem wQy {x:R} {k:Ex × Tr AV × AH->R} {r:Ex × Tr AV × AH} (hr:Option.rec (motive:=fun _=>R) none k x=some r):∃ y,x=some y/\k y=some r:=by
 cases x with
 | none=>cases hr
 | some y=>exact ⟨y,rfl,hr⟩
structure Fr (h h':AH):Prop where
 nx:h.nx.nat <= h'.nx.nat
 fl:h'.fl=h.fl
 get:∀ p,p.nat < h.fl.nat->p.nat < h.nx.nat->h'.m.get p=h.m.get p
theorem Fr.refl (h:AH):Fr h h:=⟨nG _,rfl,fun _ _ _=>rfl⟩
theorem Fr.trans {a b c:AH} (h:Fr a b) (k:Fr b c):Fr a c :=
 ⟨kC h.nx k.nx,k.fl.trans h.fl,fun p h1 h2=>(k.get p (by rw [h.fl];exact h1) (kH h2 h.nx)).trans (h.get p h1 h2)⟩
theorem Fr.push (h:AH) (B:AB):Fr h (h.push B):=by
 refine ⟨?_,rfl,fun p _ h2=>?_⟩
 ·show h.nx.nat <= h.nx.succ.nat
  rw [Pos.nat_succ];omega
 ·show (h.m.set h.nx B).get p=_
  rw [Tr.get_set,if_neg (fun e=>by subst e;omega)]
theorem Fr.put {h h':AH} {p:Pos} {B:AB} (hp:h.put p B=some h'):Fr h h':=by
 obtain ⟨h1,rfl⟩:=wIN hp
 refine ⟨nG _,rfl,fun q h2 _=>?_⟩
 show (h.m.set p B).get q=_
 rw [Tr.get_set,if_neg (fun e=>by subst e;omega)]
theorem Fr.setAt {h h':AH} {b:Pos} {off:Nat} {vs:List AV} (hs:KX.setAt h b off vs=some h'):Fr h h':=by
 unfold KX.setAt at hs
 split at hs
 ·split at hs
  ·exact Fr.put hs
  ·cases hs
 ·split at hs
  ·exact Fr.put hs
  ·cases hs
 ·cases hs
theorem wQN {h h':AH} {o:Option AV} {v:AV} (hr:okV h o=some (v,h')):h'=h:=by
 cases o with
 | none=>cases hr
 | some x=>cases hr;rfl
theorem wHZ {α:Type} {b:Bool} {x:Option α} {y:α} (hr:ifO b x=some y):x=some y:=by
 cases b with
 | true=>exact hr
 | false=>cases hr
section
variable {tb:Tr AF} {ex exY:Run} {σ:Tr AV} {h h':AH} {v:AV}
theorem wRr {T sz by_ m:Nat} {news:List AV} {x:AV} (hr:app h T sz by_ m news x=some (v,h')):Fr h h':=by
 unfold app at hr
 split at hr
 ·split at hr <;> first | (cases hr;exact Fr.refl _) | (cases hr;done)
 ·split at hr
  ·have hr:=wHZ hr;cases hr;exact Fr.push _ _
  ·split at hr
   ·split at hr
    ·rename_i hs;cases hr;exact Fr.setAt hs
    ·cases hr
   ·have hr:=wHZ hr
    split at hr
    ·cases hr;exact Fr.push _ _
    ·cases hr
  ·split at hr
   ·split at hr
    ·split at hr
     ·rename_i hs;cases hr;exact Fr.setAt hs
     ·cases hr
    ·have hr:=wHZ hr
     split at hr
     ·rename_i hs;cases hr;exact (Fr.put hs).trans (Fr.push _ _)
     ·cases hr
   ·cases hr
  ·cases hr
theorem wPJ {z:List AV} {b:Pos} {off n:Nat} (hr:clr h z b off n=some (v,h')):Fr h h':=by
 unfold clr at hr
 split at hr
 ·cases hr;exact Fr.refl _
 ·have hr:=wHZ hr
  split at hr
  ·rename_i hs;cases hr;exact Fr.setAt hs
  ·cases hr
def FrX (ex:Run):Prop:=∀ c σ h e σ' h',ex c σ h=some (e,σ',h')->Fr h h'
theorem wPK {l:List AR} (hr:wPe σ h l=some (v,h')):Fr h h':=by
 unfold wPe at hr
 split at hr
 ·cases hr;exact Fr.refl _
 ·cases hr
theorem wMz (HE:FrX ex) {f:Pos} {args:List AV} (hr:wIs tb ex f args h=some (v,h')):Fr h h':=by
 unfold wIs at hr
 split at hr
 ·split at hr
  ·split at hr
   ·rename_i h1;exact (HE _ _ _ _ _ _ h1).trans (wPK hr)
   ·rename_i h1;exact (HE _ _ _ _ _ _ h1).trans (wPK hr)
   ·cases hr
  ·cases hr
 ·cases hr
theorem wOV (HY:FrX ex) {b:Pos} {args:List AV} (hr:wIt ex b args h=some (v,h')):Fr h h':=by
 unfold wIt at hr
 split at hr
 ·split at hr
  ·cases hr
  ·split at hr
   ·rename_i h1
    split at hr
    ·split at hr
     ·rename_i h2
      split at hr
      ·rename_i h3
       split at hr
       ·split at hr
        ·rename_i h4
         cases hr
         exact (HY _ _ _ _ _ _ h1).trans ((Fr.put h2).trans ((HY _ _ _ _ _ _ h3).trans (Fr.put h4)))
        ·cases hr
       ·cases hr
      ·cases hr
     ·cases hr
    ·cases hr
   ·cases hr
 ·cases hr
theorem wNA (HE:FrX ex) (HY:FrX exY) (op:AOp) (hr:opY op tb ex exY σ h=some (v,h')):Fr h h':=by
  cases op with
  | call x l =>
    have hr:wGH x l tb ex exY σ h=some (v,h'):=hr
    unfold wGH at hr
    split at hr
    · exact wMz HE hr
    · exact wOV HY hr
    · cases hr
  | new T z=>cases hr;exact Fr.push _ _
  | box T x=>cases hr;exact Fr.push _ _
  | mkm=>cases hr;exact Fr.push _ _
  | mks T sz b z x y =>
    have hr:wGo T sz b z x y σ h=some (v,h'):=hr
    unfold wGo at hr
    split at hr
    · have hr:=wHZ hr;cases hr;exact Fr.push _ _
    · cases hr
  | blds T n z ps =>
    have hr:wEQ T n z ps σ h=some (v,h'):=hr
    unfold wEQ at hr
    split at hr
    · cases hr;exact Fr.push _ _
    · cases hr
  | st n x y =>
    have hr:wOy n x y σ h=some (v,h'):=hr
    unfold wOy at hr
    split at hr
    · split at hr
      · split at hr
        · rename_i hs;cases hr;exact Fr.setAt hs
        · cases hr
      · cases hr
    · cases hr
  | mput two k x y z =>
    have hr:wGF two k x y z σ h=some (v,h'):=hr
    unfold wGF at hr
    split at hr
    · split at hr
      · split at hr
        · split at hr
          · rename_i hs;cases hr;exact Fr.put hs
          · cases hr
        · cases hr
      · cases hr
    · cases hr
  | mdel two k x y =>
    have hr:wGG two k x y σ h=some (v,h'):=hr
    unfold wGG at hr
    split at hr
    · split at hr
      · split at hr
        · split at hr
          · rename_i hs;cases hr;exact Fr.put hs
          · cases hr
        · cases hr
      · cases hr
    · cases hr
  | app T sz b x y =>
    have hr:wIp T sz b x y σ h=some (v,h'):=hr
    unfold wIp at hr
    split at hr
    · exact wRr (wHZ hr)
    · cases hr
  | cpy sz x y =>
    have hr:wIq sz x y σ h=some (v,h'):=hr
    unfold wIq at hr
    split at hr
    · split at hr
      · have hr:=wHZ hr
        split at hr
        · rename_i hs;cases hr;exact Fr.setAt hs
        · cases hr
      · cases hr
    · cases hr
  | clr z x =>
    have hr:wIr z x σ h=some (v,h'):=hr
    unfold wIr at hr
    split at hr
    · exact wPJ hr
    · exact wPJ hr
    · cases hr;exact Fr.refl _
    · cases hr;exact Fr.refl _
    · cases hr
  | bad=>cases hr
  | apz T sz b z x y =>
    have hr:wIu T sz b z x y σ h=some (v,h'):=hr
    unfold wIu at hr
    split at hr
    · split at hr
      · cases hr;exact Fr.refl _
      · have hr:=wHZ hr;cases hr;exact Fr.push _ _
    · cases hr
  | _ =>
    have e:h'=h:=by
      dsimp only [opY] at hr
      first
        | exact wQN hr
        | (simp only [wQu,wGm,wNz,wHY,wGn,wJW,wJX,wJY,wJZ,wJa,wLC,wJb,wGp,wJc,wJd,wGq,wJe,wGr,wPd,wJf,wOA,wJg,wJh,wEs,wJi,wJj] at hr
           repeat' (split at hr)
           all_goals first
             | exact wQN hr
             | (cases hr;rfl)
             | (cases hr;done)
             | exact wQN (wHZ hr)
             | (have hr2:=wHZ hr;cases hr2;rfl))
    subst e
    exact Fr.refl _
theorem wPL (HE:FrX ex) (HY:FrX exY) (k:Nat) (op:AOp) (hr:opK k op tb ex exY σ h=some (v,h')):Fr h h':=by
 by_cases k2:nM k 2=true
 ·have hr:wOz op tb ex exY σ h=some (v,h'):=by
   have e:opK k op=wOz op:=by unfold opK;rw [k2]
   rw [e] at hr;exact hr
  unfold wOz at hr
  split at hr
  ·rename_i v0 h0 hq
   cases hr
   have F:=wNA HE HY op hq
   exact ⟨F.nx,rfl,fun p _ h2=>F.get p h2 h2⟩
  ·cases hr
 ·have e:opK k op=opY op:=by
   unfold opK
   cases hb:nM k 2 with
   | true=>exact absurd hb k2
   | false=>rfl
  rw [e] at hr
  exact wNA HE HY op hr
theorem wRs (HE:FrX ex) (HY:FrX exY) (op:AOp) (hr:wOz op tb ex exY σ h=some (v,h')):∀ p,p.nat < h.nx.nat->h'.m.get p=h.m.get p:=by
 unfold wOz at hr
 split at hr
 ·rename_i v0 h0 hq
  cases hr
  have F:=wNA HE HY op hq
  exact fun p h2=>F.get p h2 h2
 ·cases hr
theorem wHr (HE:FrX ex) (HY:FrX exY):∀ (l:List AO) (σ:Tr AV) (h:AH) (σ':Tr AV) (h':AH),wAZ tb ex exY l σ h=some (σ',h')->Fr h h'
 | [],σ,h,σ',h',hr=>by
  rw [wAs] at hr;cases hr;exact Fr.refl _
 | o :: os,σ,h,σ',h',hr=>by
  rw [wAu] at hr
  split at hr
  ·split at hr
   ·rename_i r hq
    exact (wPL HE HY _ _ hq).trans (wHr HE HY os _ _ _ _ hr)
   ·cases hr
  ·exact wHr HE HY os _ _ _ _ hr
theorem wNB {exR:Run} (HR:FrX exR) {b:AC} {r:Ex × Tr AV × AH} {e:Ex} {σ':Tr AV} (hr:seqK b exR r=some (e,σ',h')):Fr r.2.2 h':=by
 obtain ⟨e0,σ0,h0⟩:=r
 rw [wJu] at hr
 cases e0 with
 | nrm=>exact HR _ _ _ _ _ _ hr
 | exit i=>cases hr;exact Fr.refl _
 | ret=>cases hr;exact Fr.refl _
theorem wQO {exR:Run} (HE:FrX ex) (HY:FrX exY) (HR:FrX exR) (c:AC) (f:Bool) {e:Ex} {σ':Tr AV} (hr:step c f tb ex exY exR σ h=some (e,σ',h')):Fr h h':=by
 cases c with
 | skip=>cases hr;exact Fr.refl _
 | rg l =>
  have hr:sRg l tb ex exY exR σ h=some (e,σ',h'):=hr
  unfold sRg at hr
  cases hq:wAZ tb ex exY l σ h with
  | none=>rw [hq] at hr;cases hr
  | some y =>
   rw [hq] at hr
   cases hr
   exact wHr HE HY l _ _ _ _ hq
 | seq a b =>
  have hr:wRT a b exR σ h=some (e,σ',h'):=hr
  unfold wRT at hr
  obtain ⟨y,h1,h2⟩:=wQy hr
  exact (HR _ _ _ _ _ _ h1).trans (wNB HR h2)
 | cond c a b =>
  have hr:wMM c a b exR σ h=some (e,σ',h'):=hr
  unfold wMM at hr
  split at hr
  ·exact HR _ _ _ _ _ _ hr
  ·exact HR _ _ _ _ _ _ hr
  ·cases hr
 | block i a =>
  have hr:wKQ i a exR σ h=some (e,σ',h'):=hr
  unfold wKQ at hr
  obtain ⟨y,h1,h2⟩:=wQy hr
  obtain ⟨e0,σ0,h0⟩:=y
  refine (HR _ _ _ _ _ _ h1).trans ?_
  unfold wPB at h2
  cases e0 with
  | nrm=>cases h2;exact Fr.refl _
  | ret=>cases h2;exact Fr.refl _
  | exit j =>
   simp only at h2
   cases hb:nM j i with
   | true=>rw [hb] at h2;cases h2;exact Fr.refl _
   | false=>rw [hb] at h2;cases h2;exact Fr.refl _
 | loop a =>
  have hr:wMN a exR σ h=some (e,σ',h'):=hr
  unfold wMN at hr
  obtain ⟨y,h1,h2⟩:=wQy hr
  exact (HR _ _ _ _ _ _ h1).trans (wNB HR h2)
 | rf g t asg body =>
  have hr:sRf f g t asg body tb ex σ h=some (e,σ',h'):=hr
  unfold sRf at hr
  split at hr
  ·split at hr
   ·rename_i h1
    have F:=(Fr.push h (.loop σ t asg body .ready)).trans (wMz HE h1)
    split at hr
    ·split at hr
     ·rename_i h2;cases hr;exact F.trans (Fr.put h2)
     ·cases hr
    ·split at hr
     ·rename_i h2;cases hr;exact F.trans (Fr.put h2)
     ·cases hr
    ·cases hr
   ·cases hr
  ·cases hr
 | exit i=>cases hr;exact Fr.refl _
 | scope a=>exact HR _ _ _ _ _ _ hr
 | ret=>cases hr;exact Fr.refl _
 | rl l =>
  have hr:sRl l tb ex exY σ h=some (e,σ',h'):=hr
  rw [wPA] at hr
  split at hr
  ·rename_i y hq
   cases hr
   exact wHr HE HY l _ _ _ _ (wJs _ _ _ _ hq).1
  ·cases hr
theorem wFM (tb:Tr AF):∀ (n:Nat) (r:Bool),FrX (exec tb n r)
 | 0,r=>fun c σ h e σ' h' hr=>by cases hr
 | n + 1,r=>fun c σ h e σ' h' hr=>by
  rw [wIv] at hr
  exact wQO (wFM tb n false) (wFM tb n true) (wFM tb n r) c _ hr
end
end Go.KX
namespace Go.KX
open Go.RowKit Go.KL
theorem wQP {a b:IntKind} (h:keq a b=true):a=b:=by
 cases a <;> cases b <;> first | rfl | (simp [keq] at h)
theorem wQQ {a b:Int} (h:zeq a b=true):a=b:=by
 cases a with
 | ofNat a=>cases b with
  | ofNat b=>simp only [zeq] at h;rw [nB h]
  | negSucc b=>simp [zeq] at h
 | negSucc a=>cases b with
  | ofNat b=>simp [zeq] at h
  | negSucc b=>simp only [zeq] at h;rw [nB h]
mutual
theorem wNC:∀ {a b:AV},same a b=true->a=b
 | .int k n,.int k' n',h=>by simp only [same,nA] at h;rw [wQP h.1,wQQ h.2]
 | .bool a,.bool b,h=>by simp only [same,beq_iff_eq] at h;rw [h]
 | .ptr b o,.ptr b' o',h=>by simp only [same,nA] at h;rw [Pos.beq_eq h.1,nB h.2]
 | .pnil,.pnil,_=>rfl
 | .sl b o n c,.sl b' o' n' c',h=>by simp only [same,nA] at h;rw [Pos.beq_eq h.1,nB h.2.1,nB h.2.2.1,nB h.2.2.2]
 | .rw b o n c,.rw b' o' n' c',h=>by simp only [same,nA] at h;rw [Pos.beq_eq h.1,nB h.2.1,nB h.2.2.1,nB h.2.2.2]
 | .snil,.snil,_=>rfl
 | .map b,.map b',h=>by simp only [same] at h;rw [Pos.beq_eq h]
 | .mnil,.mnil,_=>rfl
 | .fn f fi ca,.fn f' fi' ca',h=>by simp only [same,nA] at h;rw [Pos.beq_eq h.1,wFf h.2.1,wFf h.2.2]
 | .fnil,.fnil,_=>rfl
 | .agg l,.agg l',h=>by simp only [same] at h;rw [wFf h]
 | .tup l,.tup l',h=>by simp only [same] at h;rw [wFf h]
theorem wFf:∀ {a b:List AV},wII a b=true->a=b
 | [],[],_=>rfl
 | a :: l,b :: k,h=>by simp only [wII,nA] at h;rw [wNC h.1,wFf h.2]
 | [],_ :: _,h=>by simp [wII] at h
 | _ :: _,[],h=>by simp [wII] at h
end
section
variable {tb:Tr AF} {ex exY:Run} {σ:Tr AV} {h h':AH} {v:AV}
theorem wND {o:Option AV} (hr:okV h o=some (v,h')) (h2:AH):okV h2 o=some (v,h2):=by
 cases o with
 | none=>cases hr
 | some x=>cases hr;rfl
end
section
variable {P:Program} {l:List Oper} {σ σ':Env} {o:Oper} {w:World}
def Agr (l:List Oper) (o:Oper) (σ σ':Env):Prop:=∀ d ∈ wEN l o,σ d=σ' d
theorem wRt (h:Agr l o σ σ'):∀ y ∈ o.op.operands,ev σ y=ev σ' y:=by
 intro y hy
 cases y with
 | tmp t=>exact h t (ng _ (kc.2 ⟨.tmp t,by simpa using hy,rfl⟩))
 | _=>rfl
theorem wCQ (h:Agr l o σ σ'):wanted l σ o=wanted l σ' o:=by
 unfold wanted
 cases hg:o.guard with
 | none=>rfl
 | some g =>
  obtain ⟨j,b⟩:=g
  simp only
  cases hd:(l[j]?).bind (·.dst) with
  | none=>rfl
  | some t =>
   simp only
   rw [h t (by unfold wEN;rw [hg];simp only [hd];simp)]
theorem wNE (hs:wBt o=false) (h:Agr l o σ σ'):execOp (ev σ) o=execOp (ev σ') o:=execOp_congr o (wLe hs) (wRt h)
theorem Runs.agr (hs:wBt o=false) (h:Agr l o σ σ') {v:Value} {w':World}:Runs P σ w o v w' ↔ Runs P σ' w o v w':=by
 unfold Runs;rw [wNE hs h]
theorem Runs.det {v v':Value} {w1 w2:World} (h:Runs P σ w o v w1) (h':Runs P σ w o v' w2):v=v'/\w1=w2:=by
 have:=h.2.symm.trans h'.2
 simp only [Result.ok.injEq] at this
 obtain ⟨e,e2⟩:=this
 exact ⟨by simpa using e,e2⟩
theorem Step1.agr (hs:wBt o=false) (h:Agr l o σ σ') {R:Value->World->Prop} (hh:Step1 P l o σ w R):Step1 P l o σ' w R:=by
 have e:=wNE hs h
 have ew:=wCQ h
 rcases hh with ⟨h1,⟨h2,w',h3,h4⟩ | ⟨v,w',h3,h4⟩ | ⟨f,args,R',h3,h4,h5⟩ | hy⟩ | ⟨h1,h2⟩
 ·exact .inl ⟨ew ▸ h1,.inl ⟨h2,w',by unfold Does at h3 ⊢;rw [<- e];exact h3,h4⟩⟩
 ·exact .inl ⟨ew ▸ h1,.inr (.inl ⟨v,w',by unfold Runs at h3 ⊢;rw [<- e];exact h3,h4⟩)⟩
 ·exact .inl ⟨ew ▸ h1,.inr (.inr (.inl ⟨f,args,R',by unfold Enters at h3 ⊢;rw [<- e];exact h3,h4,h5⟩))⟩
 ·exact .inl ⟨ew ▸ h1,.inr (.inr (.inr (by unfold Rounds at hy ⊢;rw [<- e];exact hy)))⟩
 ·exact .inr ⟨ew ▸ h1,h2⟩
end
end Go.KX
namespace Go.KX
open Go.RowKit Go.KL
section
variable {tb:Tr AF} {ex exY:Run} {C:Chk} {P:Program}
theorem wDi:∀ (l1 l2:List AO) (σ:Tr AV) (h:AH) (r:Tr AV × AH),wAZ tb ex exY (l1 ++ l2) σ h=some r->∃ σ1 h1,wAZ tb ex exY l1 σ h=some (σ1,h1)/\wAZ tb ex exY l2 σ1 h1=some r
 | [],l2,σ,h,r,hr=>⟨σ,h,wAs _ _ _ _ _,hr⟩
 | a :: l1,l2,σ,h,r,hr=>by
  rw [nK,wAu] at hr
  rw [wAu]
  cases hw:wCm σ a.grd with
  | true =>
   rw [hw] at hr
   simp only at hr ⊢
   cases hq:opK a.kd a.op tb ex exY σ h with
   | none=>rw [hq] at hr;cases hr
   | some q =>
    rw [hq] at hr
    exact wDi l1 l2 _ _ r hr
  | false =>
   rw [hw] at hr
   exact wDi l1 l2 _ _ r hr
theorem wIS {d:Option Pos} {σ:Tr AV} {v:AV} {p:Pos}:evA (wGM d σ v) (.t p)=if d=some p then v else evA σ (.t p):=by
 cases d with
 | none =>
  rw [if_neg (by simp)]
  rfl
 | some q =>
  show evA (σ.set q v) (.t p)=_
  rw [wJm,Tr.get_set]
  by_cases e:p=q
  ·subst e
   rw [if_pos rfl,if_pos rfl]
   rfl
  ·rw [if_neg e,if_neg (fun h=>e (by cases h;rfl)),wJm]
theorem wCv:∀ (l:List AO) (σ:Tr AV) (h:AH) (σ':Tr AV) (h':AH),wAZ tb ex exY l σ h=some (σ',h')->∀ p,(∀ a ∈ l,a.dst ≠ some p)->evA σ' (.t p)=evA σ (.t p)
 | [],σ,h,σ',h',hr,p,_=>by
  rw [wAs] at hr
  cases hr
  rfl
 | a :: l,σ,h,σ',h',hr,p,hp=>by
  have hn:a.dst ≠ some p:=hp a (by simp)
  rw [wAu] at hr
  cases hw:wCm σ a.grd with
  | true =>
   rw [hw] at hr
   simp only at hr
   cases hq:opK a.kd a.op tb ex exY σ h with
   | none=>rw [hq] at hr;cases hr
   | some q =>
    rw [hq] at hr
    rw [wCv l _ _ _ _ hr p fun b hb=>hp b (by simp [hb]),wIS,if_neg hn]
  | false =>
   rw [hw] at hr
   rw [wCv l _ _ _ _ hr p fun b hb=>hp b (by simp [hb]),wIS,if_neg hn]
variable {μ μ':Mu} {h:AH} {w:World}
theorem Sim.adopt {c:Cl} {B:AB} (S:Sim C P μ h w) (hlt:c.1 < w.heap.size) (hn:∀ p d,μ p=some d->d.1 ≠ c.1) (hB:AbR C P (μ.add h.nx c) w c B):Sim C P (μ.add h.nx c) (h.push B) w:=by
 have hn0:=S.nx h.nx (nG _)
 have hle:=Mu.add_le (c:=c) hn0
 refine ⟨?_,?_,?_,?_⟩
 ·intro p hp
  have hp:h.nx.succ.nat <= p.nat:=hp
  rw [Pos.nat_succ] at hp
  unfold Mu.add
  rw [if_neg (fun e=>by subst e;omega)]
  exact S.nx p (by omega)
 ·intro p d hd
  unfold Mu.add at hd
  split at hd
  ·cases hd;exact hlt
  ·exact S.lt p d hd
 ·intro p q a b d e hp hq la lb hd he hde
  simp only [AH.push,Tr.get_set] at hp hq
  unfold Mu.add at hd he
  split at hd <;> split at he
  ·rename_i h1 h2;rw [h1,h2]
  ·cases hd;exact absurd hde.symm (hn _ _ he)
  ·cases he;exact absurd hde (hn _ _ hd)
  ·rename_i h1 h2
   rw [if_neg h1] at hp
   rw [if_neg h2] at hq
   exact S.inj p q a b d e hp hq la lb hd he hde
 ·intro p b hb
  simp only [AH.push,Tr.get_set] at hb
  split at hb
  ·rename_i e
   subst e
   cases hb
   exact ⟨c,Mu.add_same _ _ _,hB⟩
  ·rename_i e
   obtain ⟨d,h1,h2⟩:=S.at_ p b hb
   exact ⟨d,hle _ _ h1,h2.mono hle⟩
end
end Go.KX
namespace Go.KX
open Go.RowKit Go.KL
theorem wFu:∀ {l:List AOd} {p:Pos},AOd.t p ∈ l->p ∈ wCj l
 | .t q :: l,p,h=>by
  rcases nJ.1 h with h | h
  ·cases h;simp [wCj]
  ·simp only [wCj,nJ];exact .inr (wFu h)
 | .c v :: l,p,h=>by
  rcases nJ.1 h with h | h
  ·cases h
  ·show p ∈ wCj l
   exact wFu h
noncomputable def rst (σ:Tr AV):List Pos->Tr AV
 | []=>.e
 | p :: ps=>(rst σ ps).set p (evA σ (.t p))
theorem wHF (σ:Tr AV):∀ (ps:List Pos) (p:Pos),evA (rst σ ps) (.t p)=if p ∈ ps then evA σ (.t p) else u
 | [],p=>by rw [if_neg (by simp)];rfl
 | q :: ps,p=>by
  show evA ((rst σ ps).set q (evA σ (.t q))) (.t p)=_
  rw [wJm,Tr.get_set]
  by_cases e:p=q
  ·subst e
   rw [if_pos rfl,if_pos (by simp)]
   rfl
  ·rw [if_neg e,<- wJm,wHF σ ps p]
   simp [e]
open Classical in
noncomputable def rsl (σ:Env) (ps:List Pos):Env:=fun d=>if ∃ p ∈ ps,p.nat - 1=d then σ d else undef
theorem wHG {μ:Mu} {σA:Tr AV} {σ:Env} {ps:List Pos} (h:∀ p ∈ ps,Rv μ (evA σA (.t p)) (σ (p.nat - 1))):EnvR μ (rst σA ps) (rsl σ ps):=by
 intro p
 rw [wHF]
 unfold rsl
 by_cases hp:p ∈ ps
 ·rw [if_pos hp,if_pos ⟨p,hp,rfl⟩]
  exact h p hp
 ·rw [if_neg hp,if_neg]
  ·exact wMV μ
  ·rintro ⟨q,hq,e⟩
   have h1:=q.nat_pos
   have h2:=p.nat_pos
   have:q=p:=Pos.nat_inj (by omega)
   exact hp (this ▸ hq)
section
variable {tb:Tr AF} {ex exY:Run} {C:Chk} {P:Program} {μ:Mu} {σA:Tr AV} {σ:Env} {h h':AH} {v:AV} {o:Oper} {a:AOp} {w:World}
theorem wKe (hr:opY a tb ex exY σA h=some (v,h')):opY a tb ex exY (rst σA (wCj (wBj a))) h=some (v,h'):=by
 rw [<- hr]
 refine wMv a (fun x hx=>?_) h
 cases x with
 | t p=>rw [wHF,if_pos (wFu hx)]
 | c v=>rfl
theorem wQR (hs:wBt o=false) (hb:Sub a o):execOp (ev (rsl σ (wCj (wBj a)))) o=execOp (ev σ) o:=by
 refine execOp_congr o (wLe hs) fun y hy=>?_
 cases y with
 | tmp t =>
  show rsl σ (wCj (wBj a)) t=σ t
  unfold rsl
  rw [if_pos (hb t hy)]
 | _=>rfl
theorem wIT (hs:wBt o=false) (hb:Sub a o) {v:Value} {w':World}:Runs P (rsl σ (wCj (wBj a))) w o v w' ↔ Runs P σ w o v w':=by
 unfold Runs;rw [wQR hs hb]
theorem wHH (hs:wBt o=false) (hb:Sub a o) (hk:kdA a=3) (hc:wHA P a o.op=true) (hr:opY a tb ex exY σA h=some (v,h')) (hv:∀ p ∈ wCj (wBj a),Rv μ (evA σA (.t p)) (σ (p.nat - 1))) :
  ∃ cv,Rv μ v cv/\∀ w,Runs P σ w o cv w:=by
 obtain ⟨_,h2⟩:=wHn (tb:=tb) (ex:=ex) (exY:=exY) hk hc _ _ _ _ (wKe hr)
 obtain ⟨cv,g1,g2⟩:=h2 μ _ (wHG hv)
 exact ⟨cv,g1,fun w=>(wIT hs hb).1 (g2 o w rfl)⟩
theorem wNF (hs:wBt o=false) (hb:Sub a o) (hk:kdA a=1 \/ kdA a=3) (hc:wHA P a o.op=true) (hr:opY a tb ex exY σA h=some (v,h')) (S:Sim C P μ h w) (hv:∀ p ∈ wCj (wBj a),Rv μ (evA σA (.t p)) (σ (p.nat - 1))) :
  ∃ cv,Rv μ v cv/\Runs P σ w o cv w:=by
 obtain ⟨_,h2⟩:=wHo (C:=C) (tb:=tb) (ex:=ex) (exY:=exY) hk hc _ _ _ _ (wKe hr)
 obtain ⟨cv,g1,g2⟩:=h2 μ _ w (wHG hv) S
 exact ⟨cv,g1,(wIT hs hb).1 (g2 o rfl w (Keep.refl w _))⟩
theorem wKf {op:Op} (hk:wLa a=true) (hc:wHA P a op=true):OkA C P op (opY a tb ex exY):=by
 cases a <;> first
  | (simp [wLa] at hk;done)
  | exact a_new hc | exact a_box hc | exact a_mkm hc | exact a_mks hc | exact wRp hc
theorem wLN (hs:wBt o=false) (hb:Sub a o) (hk:wLa a=true) (hc:wHA P a o.op=true) (hr:opY a tb ex exY σA h=some (v,h')) (hv:∀ p ∈ wCj (wBj a),Rv μ (evA σA (.t p)) (σ (p.nat - 1))) :
  ∃ (B:AB) (vf:Pos->AV) (ob:Obj) (val:Nat->Value),h'=h.push B/\v=vf h.nx/\wLF B/\(∀ w:World,Runs P σ w o (val w.heap.size) (w.alloc ob)) /\
   (∀ μ' (w:World) b,μ.Le μ'->w.heap[b]?=some ob->AbR C P μ' w ⟨b,0,g0⟩ B)/\∀ μ' p b,μ' p=some ⟨b,0,g0⟩->Rv μ' (vf p) (val b):=by
 obtain ⟨B,vf,e1,e2,_,e4,e5⟩:=wKf (C:=C) (tb:=tb) (ex:=ex) (exY:=exY) hk hc _ _ _ _ (wKe hr)
 obtain ⟨ob,val,g1,g2,g3⟩:=e5 μ _ (wHG hv) o rfl
 exact ⟨B,vf,ob,val,e1,e2,e4,fun w=>(wIT hs hb).1 (g1 w),g2,g3⟩
end
end Go.KX
namespace Go.KX
open Go.RowKit Go.KL
section
variable {tb:Tr AF} {ex exY:Run} {P:Program}
theorem wKg {s t:List AO} {a:AO} {σ0:Tr AV} {h0:AH} {r:Tr AV × AH} (hr:wAZ tb ex exY (s ++ a :: t) σ0 h0=some r) :
  ∃ σ1 h1,wAZ tb ex exY s σ0 h0=some (σ1,h1) /\
   ((wCm σ1 a.grd=true/\∃ v h2,opK a.kd a.op tb ex exY σ1 h1=some (v,h2)/\wAZ tb ex exY t (wGM a.dst σ1 v) h2=some r) \/
    (wCm σ1 a.grd=false/\wAZ tb ex exY t (wGM a.dst σ1 u) h1=some r)):=by
 obtain ⟨σ1,h1,e1,e2⟩:=wDi s (a :: t) σ0 h0 r hr
 refine ⟨σ1,h1,e1,?_⟩
 rw [wAu] at e2
 cases hw:wCm σ1 a.grd with
 | true =>
  rw [hw] at e2
  simp only at e2
  cases hq:opK a.kd a.op tb ex exY σ1 h1 with
  | none=>rw [hq] at e2;cases e2
  | some q =>
   rw [hq] at e2
   exact .inl ⟨rfl,q.1,q.2,rfl,e2⟩
 | false =>
  rw [hw] at e2
  exact .inr ⟨rfl,e2⟩
theorem wEA {l:List Oper} {S:Nat->Bool} (hdc:∀ k,k < l.length->S k=true->∀ j ∈ prI l k,S j=true) {x i:Nat} (hp:∀ j ∈ prI l i,S j=true) (h:wKZ l x i):S x=true:=h S hdc hp
variable {N:Nat} {l:List Oper} {os s t:List AO} {a:AO} {σ0 σ1 σf:Tr AV} {h0 h1 hf:AH}
theorem wJv (Z:ZOK P N l os) (e:os=s ++ a :: t) {v:AV} {σ2:Tr AV} {h2:AH} (hr:wAZ tb ex exY t (wGM a.dst σ2 v) h2=some (σf,hf)) {p:Pos} (hp:a.dst=some p):evA σf (.t p)=v:=by
 rw [wCv t _ _ _ _ hr p fun b hb=>Z.wr s a t e p hp b (nZ _ hb),wIS,if_pos hp]
theorem wRu (Z:ZOK P N l os) (e:os=s ++ a :: t) (hr:wAZ tb ex exY (a :: t) σ1 h1=some (σf,hf)) {p:Pos} (hp:p ∈ wCT a):evA σf (.t p)=evA σ1 (.t p) :=
 wCv (a :: t) _ _ _ _ hr p fun b hb=>Z.rd s a t e p hp b hb
end
end Go.KX
namespace Go.KX
open Go.RowKit Go.KL
section
variable {tb:Tr AF} {ex exY:Run} {P:Program} {N:Nat} {l:List Oper} {os s t:List AO} {a:AO} {σ0 σ1 σA σf:Tr AV} {h0 h h1 hf:AH} {μ μS:Mu} {σ σ':Env} {w:World} {o:Oper}
theorem wCw:∀ {s s' t t':List AO} {a:AO},(s ++ a :: t).Pairwise (fun a b=>a.ix ≠ b.ix)->s ++ a :: t=s' ++ a :: t'->s=s'/\t=t'
 | [],[],t,t',a,_,e=>by
  simp only [nT,nU,true_and] at e
  exact ⟨rfl,e⟩
 | [],b :: s',t,t',a,hp,e=>by
  simp only [nT,nK,nU] at e
  obtain ⟨rfl,rfl⟩:=e
  rw [nT] at hp
  exact absurd rfl ((nY.1 hp).1 a (by simp))
 | b :: s,[],t,t',a,hp,e=>by
  simp only [nT,nK,nU] at e
  obtain ⟨rfl,rfl⟩:=e
  rw [nK] at hp
  exact absurd rfl ((nY.1 hp).1 b (by simp))
 | b :: s,b' :: s',t,t',a,hp,e=>by
  simp only [nK,nU] at e
  rw [nK] at hp
  obtain ⟨h1,h2⟩:=wCw (nY.1 hp).2 e.2
  exact ⟨by rw [e.1,h1],h2⟩
theorem wEh (A:AOK P N l a o) (hs:Sub a.op o):∀ d ∈ wEN l o,∃ p ∈ wCT a,p.nat - 1=d:=by
 intro d hd
 unfold wEN at hd
 rcases nI.1 hd with hd | hd
 ·obtain ⟨y,h1,h2⟩:=kc.1 hd
  cases y with
  | tmp t =>
   simp only [ke] at h2
   subst h2
   obtain ⟨p,h3,h4⟩:=hs t (by simpa using h1)
   exact ⟨p,ng _ h3,h4⟩
  | _=>simp at h2
 ·rcases A.grd with ⟨_,h2⟩ | ⟨p,b,j,d',h1,h2,h3,h4⟩
  ·rw [h2] at hd;simp at hd
  ·rw [h2] at hd
   simp only [h3,Option.toList_some,nV] at hd
   subst hd
   exact ⟨p,nZ _ (by rw [h1];simp),h4.symm⟩
structure Pend (tb:Tr AF) (ex exY:Run) (P:Program) (l:List Oper) (os:List AO) (σ0:Tr AV) (h0:AH) (σf:Tr AV) (w0:World) (μ μS:Mu) (σ:Env) (w:World) (a:AO) (o:Oper) (p:Pos):Prop where
 get:l[a.ix]?=some o
 dst:a.dst=some p
 fact:(wanted l σ o=false/\σ (p.nat - 1)=undef/\evA σf (.t p)=u) \/ (wanted l σ o=true /\
  (((a.kd=1 \/ a.kd=3 \/ 8 <= a.kd)/\Rv μ (evA σf (.t p)) (σ (p.nat - 1))) \/
   (a.kd=6/\Rv μS (evA σf (.t p)) (σ (p.nat - 1))/\∃ w1 w2,Runs P σ w1 o (σ (p.nat - 1)) w2) \/
   (a.kd=4/\Rv μS (evA σf (.t p)) (σ (p.nat - 1))/\∃ w1 ob s1 t1 σ1 h1,Runs P σ w1 o (σ (p.nat - 1)) (w1.alloc ob)/\w.heap[w1.heap.size]?=some ob/\w0.heap.size <= w1.heap.size /\
    os=s1 ++ a :: t1/\wAZ tb ex exY s1 σ0 h0=some (σ1,h1)/\μS h1.nx=some ⟨w1.heap.size,0,g0⟩/\∀ q c,μS q=some c->c.1=w1.heap.size->q=h1.nx)))
theorem wNG {tb:Tr AF} {ex exY:Run} {k:Nat} {op:AOp} {σ:Tr AV} {h h':AH} {v:AV} (hk:k ≠ 2) (hr:opK k op tb ex exY σ h=some (v,h')):opY op tb ex exY σ h=some (v,h'):=by
 have hb:nM k 2=false:=by
  cases hb:nM k 2 with
  | false=>rfl
  | true=>exact absurd (nB hb) hk
 have:opK k op=opY op:=by unfold opK;rw [hb]
 rwa [this] at hr
theorem wLO {k:Nat} (h:8 <= k):¬ wCN k=true:=by
 unfold wCN
 simp only [nR,not_or]
 exact ⟨fun e=>by have:=nB e;omega,fun e=>by have:=nB e;omega⟩
theorem wNH {w:World} {a b:Obj} (h:w.alloc a=w.alloc b):a=b:=by
 have h1:=heap_alloc_new w a
 rw [h,heap_alloc_new] at h1
 exact (nL h1).symm
theorem wRv (Z:ZOK P N l os) (e:os=s ++ a :: t) {μ0:Mu} {w0:World} {fl:Nat} (hs:wAZ tb ex exY s σ0 h0=some (σA,h)) (hr:wAZ tb ex exY (a :: t) σA h=some (σf,hf))
  (E:Ext μ0 fl w0 μ w) (S:Sim (CC P) P μ h w) (hE:EnvR μ σA σ') (hle:μ.Le μS) {p:Pos} (Pd:Pend tb ex exY P l os σ0 h0 σf w0 μ μS σ w a o p) (hag:∀ q ∈ wCT a,σ (q.nat - 1)=σ' (q.nat - 1)) :
  ∃ σB hB μB,wAZ tb ex exY (s ++ [a]) σ0 h0=some (σB,hB)/\wAZ tb ex exY t σB hB=some (σf,hf)/\μ.Le μB/\μB.Le μS/\Ext μ0 fl w0 μB w/\Sim (CC P) P μB hB w/\hB.fl=h.fl/\EnvR μB σB (upd σ' (p.nat - 1) (σ (p.nat - 1)))/\(a.kd=4->wanted l σ o=true->μB h.nx ≠ none):=by
 have ha:a ∈ os:=by rw [e];simp
 obtain ⟨o',A⟩:=wCz (Z.ao a ha)
 have eo:o'=o:=by have:=A.get;rw [Pd.get] at this;exact (nL this).symm
 subst eo
 have hsel:=Z.sel a ha _ A.get
 have hsub:=Z.sub a ha _ A.get
 have hagr:Agr l o' σ σ':=fun d hd=>by
  obtain ⟨q,h1,rfl⟩:=wEh A hsub d hd
  exact hag q h1
 have hw:=wIQ A hE
 have hwσ:wanted l σ o'=wCm σA a.grd:=(wCQ hagr).trans hw
 obtain ⟨pd,dd,d1,d2,d3,_⟩:∃ p d,a.dst=some p/\o'.dst=some d/\d=p.nat - 1/\d < N:=by
  rcases A.dst with ⟨h1,_⟩ | h
  ·rw [Pd.dst] at h1;cases h1
  ·exact h
 have ep:pd=p:=by rw [Pd.dst] at d1;exact (nL d1).symm
 subst ep
 have eput:∀ cv,put' σ' o' cv=upd σ' (pd.nat - 1) cv:=fun cv=>by unfold put';rw [d2,d3]
 obtain ⟨σx,hx,q1,q2⟩:=wKg (s:=[]) (a:=a) (t:=t) (σ0:=σA) (h0:=h) (by rw [nT];exact hr)
 rw [wAs] at q1
 cases q1
 have split1:∀ {σB hB},(match wCm σA a.grd with | true=>(match opK a.kd a.op tb ex exY σA h with | some r=>some (wGM a.dst σA r.1,r.2) | none=>none) | false=>some (wGM a.dst σA u,h))=some (σB,hB)->wAZ tb ex exY (s ++ [a]) σ0 h0=some (σB,hB):=by
  intro σB hB hq
  have app:∀ (l1 l2:List AO) (x:Tr AV) (y:AH) (x1:Tr AV) (y1:AH),wAZ tb ex exY l1 x y=some (x1,y1)->wAZ tb ex exY (l1 ++ l2) x y=wAZ tb ex exY l2 x1 y1:=by
   intro l1
   induction l1 with
   | nil=>intro l2 x y x1 y1 h;rw [wAs] at h;cases h;rfl
   | cons b l1 ih =>
    intro l2 x y x1 y1 h
    rw [nK,wAu]
    rw [wAu] at h
    cases hb:wCm x b.grd with
    | true =>
     rw [hb] at h
     simp only at h ⊢
     cases hq:opK b.kd b.op tb ex exY x y with
     | none=>rw [hq] at h;cases h
     | some r=>rw [hq] at h;exact ih l2 _ _ _ _ h
    | false =>
     rw [hb] at h
     exact ih l2 _ _ _ _ h
  rw [app s [a] _ _ _ _ hs,wAu]
  cases hb:wCm σA a.grd with
  | true =>
   rw [hb] at hq
   simp only at hq ⊢
   cases hk:opK a.kd a.op tb ex exY σA h with
   | none=>rw [hk] at hq;cases hq
   | some r =>
    rw [hk] at hq
    cases hq
    exact wAs _ _ _ _ _
  | false =>
   rw [hb] at hq
   cases hq
   rw [wAs]
 rcases q2 with ⟨g1,v,h2,g2,g3⟩ | ⟨g1,g3⟩
 ·have hv:evA σf (.t pd)=v:=wJv Z e g3 Pd.dst
  have hrun:=split1 (σB:=wGM a.dst σA v) (hB:=h2) (by rw [g1];simp only;rw [g2])
  rcases Pd.fact with ⟨f1,_⟩ | ⟨_,⟨fk,f1⟩ | ⟨fk,f1,w1,w2,f2⟩ | ⟨fk,f1,w1,ob,s1,t1,σ1,h1,f2,f3,f4,f5,f6,f7,f8⟩⟩
  ·rw [hwσ,g1] at f1;cases f1
  ·have gY:opY a.op tb ex exY σA h=some (v,h2):=wNG (by omega) g2
   have hk:kdA a.op=1 \/ kdA a.op=3:=by
    rcases fk with fk | fk | fk
    ·exact A.k1 fk
    ·exact .inr (A.k3 fk)
    ·rcases Z.kd a ha with hh | ⟨_,hh | hh | hh | hh | hh⟩
     ·exact absurd hh (wLO fk)
     ·omega
     ·omega
     ·omega
     ·omega
     ·exact .inl hh.2
   obtain ⟨e1,_⟩:=wHo (C:=CC P) hk A.op _ _ _ _ gY
   subst e1
   rw [hv] at f1
   exact ⟨_,_,μ,hrun,g3,Mu.Le.refl μ,hle,E,S,rfl,by rw [<- eput];exact wEG A hE f1,fun h4 _=>by omega⟩
  ·have gY:opY a.op tb ex exY σA h=some (v,h2):=by rw [fk] at g2;exact g2
   have hk:kdA a.op=3:=by
    rcases Z.kd a ha with hh | ⟨_,hh | hh | hh | hh | hh⟩
    ·rw [fk] at hh;exact absurd hh (by decide)
    ·omega
    ·omega
    ·exact hh.2
    ·omega
    ·omega
   obtain ⟨e1,e2⟩:=wHn hk A.op _ _ _ _ gY
   subst e1
   obtain ⟨cv,c1,c2⟩:=e2 μ σ' hE
   have:=Runs.det ((Runs.agr hsel hagr).2 (c2 o' w1 rfl)) f2
   rw [<- eput,<- this.1]
   exact ⟨_,_,μ,hrun,g3,Mu.Le.refl μ,hle,E,S,rfl,wEG A hE c1,fun h4 _=>by omega⟩
  ·have gY:opY a.op tb ex exY σA h=some (v,h2):=by rw [fk] at g2;exact g2
   have hk:wLa a.op=true:=by
    rcases Z.kd a ha with hh | ⟨_,hh | hh | hh | hh | hh⟩
    ·rw [fk] at hh;exact absurd hh (by decide)
    ·omega
    ·omega
    ·omega
    ·exact hh.2
    ·omega
   obtain ⟨B,vf,e1,e2,_,_,e5⟩:=wKf (C:=CC P) hk A.op _ _ _ _ gY
   obtain ⟨ob',val,c1,c2,c3⟩:=e5 μ σ' hE o' rfl
   obtain ⟨k1,k2⟩:=Runs.det ((Runs.agr hsel hagr).2 (c1 w1)) f2
   have k2:=wNH k2
   subst k2
   have es:s1=s:=(wCw (f5 ▸ Z.one) (f5.symm.trans e)).1
   subst es
   rw [hs] at f6
   cases f6
   have hn0:=S.nx h.nx (nG _)
   have hadd:=Mu.add_le (c:=(⟨w1.heap.size,0,g0⟩:Cl)) hn0
   have hlt:w1.heap.size < w.heap.size:=wAM f3
   subst e1 e2
   have hv':Rv (μ.add h.nx ⟨w1.heap.size,0,g0⟩) (vf h.nx) (σ (pd.nat - 1)):=by
    rw [<- k1]
    exact c3 _ _ _ (Mu.add_same _ _ _)
   refine ⟨_,_,μ.add h.nx ⟨w1.heap.size,0,g0⟩,hrun,g3,hadd,?_,⟨E.mono.trans hadd,?_,E.keep⟩,S.adopt hlt ?_ (c2 _ w _ hadd f3),rfl,?_,fun _ _=>by rw [Mu.add_same];simp⟩
   ·intro q d hq
    unfold Mu.add at hq
    split at hq
    ·rename_i eq
     subst eq
     cases hq
     exact f7
    ·exact hle q d hq
   ·intro q c hq
    unfold Mu.add at hq
    split at hq
    ·cases hq
     exact .inr (.inr f4)
    ·exact E.new q c hq
   ·intro q d hq hd
    have:=f8 q d (hle q d hq) hd
    subst this
    rw [hn0] at hq
    cases hq
   ·rw [<- eput]
    exact wEG A (hE.mono hadd) hv'
 ·have hrun:=split1 (σB:=wGM a.dst σA u) (hB:=h) (by rw [g1])
  rcases Pd.fact with ⟨_,f2,_⟩ | ⟨f1,_⟩
  ·refine ⟨_,_,μ,hrun,g3,Mu.Le.refl μ,hle,E,S,rfl,?_,fun _ hw'=>by rw [hwσ,g1] at hw';cases hw'⟩
   rw [f2,<- eput]
   exact wEG A hE (wMV μ)
  ·rw [hwσ,g1] at f1;cases f1
structure JS (tb:Tr AF) (ex exY:Run) (P:Program) (l:List Oper) (os:List AO) (σ0:Tr AV) (h0:AH) (σf:Tr AV) (hf:AH) (μ0:Mu) (w0:World) (S:Nat->Bool) (σ:Env) (w:World) (s t:List AO) (σA:Tr AV) (h:AH) (σ':Env) (μ μS:Mu):Prop where
 e:os=s ++ t
 hs:wAZ tb ex exY s σ0 h0=some (σA,h)
 hr:wAZ tb ex exY t σA h=some (σf,hf)
 inS:∀ a ∈ s,S a.ix=true
 free:∀ a ∈ t,S a.ix=true->wCN a.kd=false
 E:Ext μ0 h0.fl.nat w0 μ w
 sim:Sim (CC P) P μ h w
 fl:h.fl=h0.fl
 env:EnvR μ σA σ'
 ag:∀ q:Pos,(∀ a ∈ t,S a.ix=true->a.dst ≠ some q)->σ (q.nat - 1)=σ' (q.nat - 1)
 le:μ.Le μS
 nm:∀ q c,μS q=some c->μ q=some c \/ ∃ a o s1 t1 σ1 h1,a ∈ t/\S a.ix=true/\l[a.ix]?=some o/\wanted l σ o=true/\a.kd=4/\os=s1 ++ a :: t1/\wAZ tb ex exY s1 σ0 h0=some (σ1,h1)/\q=h1.nx
 pd:∀ a ∈ t,S a.ix=true->∃ o p,Pend tb ex exY P l os σ0 h0 σf w0 μ μS σ w a o p
theorem Pend.mono {μB:Mu} {w0:World} {p:Pos} (h:Pend tb ex exY P l os σ0 h0 σf w0 μ μS σ w a o p) (hm:μ.Le μB):Pend tb ex exY P l os σ0 h0 σf w0 μB μS σ w a o p:=by
 refine ⟨h.get,h.dst,?_⟩
 rcases h.fact with f | ⟨f,⟨f1,f2⟩ | f1 | f1⟩
 ·exact .inl f
 ·exact .inr ⟨f,.inl ⟨f1,f2.mono hm⟩⟩
 ·exact .inr ⟨f,.inr (.inl f1)⟩
 ·exact .inr ⟨f,.inr (.inr f1)⟩
theorem JS.catch1 (Z:ZOK P N l os) {μ0:Mu} {w0:World} {S:Nat->Bool} (J:JS tb ex exY P l os σ0 h0 σf hf μ0 w0 S σ w s (a :: t) σA h σ' μ μS) (ha:S a.ix=true) :
  ∃ σB hB σ'' μB,JS tb ex exY P l os σ0 h0 σf hf μ0 w0 S σ w (s ++ [a]) t σB hB σ'' μB μS:=by
 obtain ⟨o,p,Pd⟩:=J.pd a (by simp) ha
 have hag:∀ q ∈ wCT a,σ (q.nat - 1)=σ' (q.nat - 1):=fun q hq=>J.ag q fun b hb _=>Z.rd s a t J.e q hq b hb
 obtain ⟨σB,hB,μB,c1,c2,c3,c4,c5,c6,c7,c8,c9⟩:=wRv Z J.e J.hs J.hr J.E J.sim J.env J.le Pd hag
 have hne:∀ b ∈ t,b.ix ≠ a.ix:=fun b hb e=>by
  have:=Z.one
  rw [J.e] at this
  exact (nY.1 (nq.1 this).2.1).1 b hb e.symm
 refine ⟨σB,hB,_,μB,by rw [J.e];simp,c1,c2,fun b hb=>?_,fun b hb=>J.free b (by simp [hb]),c5,c6,c7.trans J.fl,c8,fun q hq=>?_,c4,fun q c hq=>?_,fun b hb hS=>?_⟩
 ·rcases nI.1 hb with hb | hb
  ·exact J.inS b hb
  ·rw [nV.1 hb];exact ha
 ·by_cases e:q=p
  ·subst e
   rw [wCk]
  ·rw [wCh _ _ (fun h=>e (Pos.nat_inj (by have:=q.nat_pos;have:=p.nat_pos;omega)))]
   refine J.ag q fun b hb hS=>?_
   rcases nJ.1 hb with rfl | hb
   ·rw [Pd.dst]
    intro h
    cases h
    exact e rfl
   ·exact hq b hb hS
 ·rcases J.nm q c hq with h1 | ⟨b,ob,s1,t1,σ1,h1,k1,k2,k3,k4,k5,k6,k7,k8⟩
  ·exact .inl (c3 _ _ h1)
  ·rcases nJ.1 k1 with rfl | k1
   ·left
    have hs1:s1=s:=(wCw (k6 ▸ Z.one) (k6.symm.trans J.e)).1
    subst hs1
    rw [J.hs] at k7
    cases k7
    subst k8
    rw [Pd.get] at k3
    cases k3
    have:=c9 k5 k4
    cases hm:μB h.nx with
    | none=>exact absurd hm this
    | some c' =>
     have:=c4 _ _ hm
     rw [hq] at this
     exact this.symm
   ·exact .inr ⟨b,ob,s1,t1,σ1,h1,k1,k2,k3,k4,k5,k6,k7,k8⟩
 ·obtain ⟨o',p',h'⟩:=J.pd b (by simp [hb]) hS
  exact ⟨o',p',h'.mono c3⟩
end
end Go.KX
namespace Go.KX
open Go.RowKit Go.KL
section
variable {tb:Tr AF} {ex exY:Run} {P:Program} {N:Nat} {l:List Oper} {os s t:List AO} {a:AO} {σ0 σA σf:Tr AV} {h0 h hf:AH} {μ μS:Mu} {σ σ':Env} {w:World} {o:Oper}
theorem wDk:∀ (l1 l2:List AO) (x:Tr AV) (y:AH) (x1:Tr AV) (y1:AH),wAZ tb ex exY l1 x y=some (x1,y1)->wAZ tb ex exY (l1 ++ l2) x y=wAZ tb ex exY l2 x1 y1
 | [],l2,x,y,x1,y1,h=>by rw [wAs] at h;cases h;rfl
 | b :: l1,l2,x,y,x1,y1,h=>by
  rw [nK,wAu]
  rw [wAu] at h
  cases hb:wCm x b.grd with
  | true =>
   rw [hb] at h
   simp only at h ⊢
   cases hq:opK b.kd b.op tb ex exY x y with
   | none=>rw [hq] at h;cases h
   | some r=>rw [hq] at h;exact wDk l1 l2 _ _ _ _ h
  | false =>
   rw [hb] at h
   exact wDk l1 l2 _ _ _ _ h
theorem wQS (HE:FrX ex) (HY:FrX exY) (Z:ZOK P N l os) (e:os=s ++ t) (hs:wAZ tb ex exY s σ0 h0=some (σA,h)) {b:AO} (hb:b ∈ t) {s1 t1:List AO} {σ1:Tr AV} {h1:AH} (e1:os=s1 ++ b :: t1) (hr:wAZ tb ex exY s1 σ0 h0=some (σ1,h1)):h.nx.nat <= h1.nx.nat:=by
 obtain ⟨r,r',rfl⟩:=nS hb
 have es:s1=s ++ r:=(wCw (e1 ▸ Z.one) (e1.symm.trans (e.trans (nX _ _ _).symm))).1
 subst es
 rw [wDk s r _ _ _ _ hs] at hr
 exact (wHr HE HY _ _ _ _ _ hr).nx
theorem wGV (Z:ZOK P N l os) {S:Nat->Bool} (hdc:∀ k,k < l.length->S k=true->∀ j ∈ prI l k,S j=true) (ha:a ∈ os) (hS:S a.ix=false) {b:AO} (hb:b ∈ os) (hbS:S b.ix=true) (A:AOK P N l a o) {ob:Oper} (hob:l[b.ix]?=some ob) (v:Value):Agr l ob σ (put' σ o v):=by
 obtain ⟨ob',B⟩:=wCz (Z.ao b hb)
 have eo:ob'=ob:=by have:=B.get;rw [hob] at this;exact (nL this).symm
 subst eo
 intro d hd
 obtain ⟨p,hp,rfl⟩:=wEh B (Z.sub b hb _ B.get) d hd
 symm
 refine wGc fun dd hdd e=>?_
 rcases A.dst with ⟨_,h2⟩ | ⟨q,d',h1,h2,h3,_⟩
 ·rw [h2] at hdd;cases hdd
 ·rw [h2] at hdd
  have hdd:=nL hdd
  have eq:q=p:=Pos.nat_inj (by have:=q.nat_pos;have:=p.nat_pos;have:q.nat - 1=p.nat - 1:=h3.symm.trans (hdd.trans e);omega)
  subst eq
  have:=Z.rdS b hb q hp a ha h1
  have hlt:b.ix < l.length:=(na.1 hob).1
  have:=wEA hdc (hdc _ hlt hbS) this
  rw [hS] at this
  cases this
theorem JS.fixed (HC:wGJ (CC P) P tb ex) (HY':wFK (CC P) P exY) (HE:FrX ex) (HY:FrX exY) (Z:ZOK P N l os) {μ0:Mu} {w0:World} {S:Nat->Bool} (J:JS tb ex exY P l os σ0 h0 σf hf μ0 w0 S σ w s (a :: t) σA h σ' μ μS) (hfix:wCN a.kd=true) (hS:S a.ix=false)
  (hdc:∀ k,k < l.length->S k=true->∀ j ∈ prI l k,S j=true) (A:AOK P N l a o) :
  Step1 P l o σ w fun v w'=>∃ σB hB σ'' μB μT,JS tb ex exY P l os σ0 h0 σf hf μ0 w0 (fun k=>k == a.ix || S k) (put' σ o v) w' (s ++ [a]) t σB hB σ'' μB μT:=by
 have ha:a ∈ os:=by rw [J.e];simp
 have hsel:=Z.sel a ha _ A.get
 have hag:∀ q ∈ wCT a,σ (q.nat - 1)=σ' (q.nat - 1):=fun q hq=>J.ag q fun b hb _=>Z.rd s a t J.e q hq b hb
 have hagr:Agr l o σ σ':=fun d hd=>by
  obtain ⟨q,h1,rfl⟩:=wEh A (Z.sub a ha _ A.get) d hd
  exact hag q h1
 have hw:=wIQ A J.env
 have main:∀ (v:AV) (cv:Value) (hB:AH) (w':World) (μB:Mu),wAZ tb ex exY (s ++ [a]) σ0 h0=some (wGM a.dst σA v,hB)->wAZ tb ex exY t (wGM a.dst σA v) hB=some (σf,hf) ->
   Ext μ h.fl.nat w μB w'->Sim (CC P) P μB hB w'->EnvR μB (wGM a.dst σA v) (put' σ' o cv)->hB.fl=h.fl ->
   ∃ σB hB σ'' μB μT,JS tb ex exY P l os σ0 h0 σf hf μ0 w0 (fun k=>k == a.ix || S k) (put' σ o cv) w' (s ++ [a]) t σB hB σ'' μB μT:=by
  intro v cv hB w' μB r1 r2 E' S' hE' hfl
  have hne:∀ b ∈ t,b.ix ≠ a.ix:=fun b hb e=>by
   have:=Z.one
   rw [J.e] at this
   exact (nY.1 (nq.1 this).2.1).1 b hb e.symm
  have hSb:∀ b ∈ t,(b.ix == a.ix || S b.ix)=true->S b.ix=true:=fun b hb h=>by
   have:=hne b hb
   simpa [this] using h
  have hbo:∀ b ∈ t,b ∈ os:=fun b hb=>by rw [J.e];simp [hb]
  have eB:os=(s ++ [a]) ++ t:=by rw [J.e];simp
  have hnm:∀ b ∈ t,∀ s1 t1 σ1 h1,os=s1 ++ b :: t1->wAZ tb ex exY s1 σ0 h0=some (σ1,h1)->μB h1.nx=none/\μ h1.nx=none:=fun b hb s1 t1 σ1 h1 e1 hr=>by
   have g1:=wQS HE HY Z eB r1 hb e1 hr
   have g2:=wQS HE HY Z J.e J.hs (b:=b) (by simp [hb]) e1 hr
   exact ⟨S'.nx _ g1,J.sim.nx _ g2⟩
  let μT:Mu:=fun q=>match μB q with | some c=>some c | none=>μS q
  have hT:μB.Le μT:=fun q c hq=>by show (match μB q with | some c=>some c | none=>μS q)=_;rw [hq]
  have hST:μS.Le μT:=fun q c hq=>by
   show (match μB q with | some c=>some c | none=>μS q)=_
   cases hB:μB q with
   | none=>exact hq
   | some c' =>
    rcases J.nm q c hq with h1 | ⟨b,ob,s1,t1,σ1,h1,k1,k2,k3,k4,k5,k6,k7,k8⟩
    ·rw [E'.mono _ _ h1] at hB
     exact hB.symm ▸ rfl
    ·rcases nJ.1 k1 with rfl | k1
     ·rw [hS] at k2;cases k2
     ·have:=(hnm b k1 s1 t1 σ1 h1 k6 k7).1
      rw [<- k8,hB] at this
      cases this
  refine ⟨_,hB,_,μB,μT,eB,r1,r2,fun b hb=>?_,fun b hb hh=>J.free b (by simp [hb]) (hSb b hb hh),?_,S',hfl.trans J.fl,hE',fun q hq=>?_,hT,fun q c hq=>?_,fun b hb hh=>?_⟩
  ·rcases nI.1 hb with hb | hb
   ·simp [J.inS b hb]
   ·rw [nV.1 hb];simp
  ·have:=J.E
   refine this.trans ?_
   rw [<- J.fl]
   exact E'
  ·have old:σ (q.nat - 1)=σ' (q.nat - 1) \/ a.dst=some q:=by
    by_cases hq':a.dst=some q
    ·exact .inr hq'
    ·exact .inl (J.ag q fun b hb h=>by
      rcases nJ.1 hb with rfl | hb
      ·exact hq'
      ·exact hq b hb (by simp [h]))
   rcases A.dst with ⟨h1,h2⟩ | ⟨p,d,h1,h2,h3,_⟩
   ·unfold put'
    rw [h2]
    rcases old with old | old
    ·exact old
    ·rw [h1] at old;cases old
   ·unfold put'
    rw [h2]
    by_cases e:q.nat - 1=d
    ·simp only [e,wCk]
    ·simp only
     rw [wCh _ _ e,wCh _ _ e]
     rcases old with old | old
     ·exact old
     ·rw [h1] at old
      cases old
      exact absurd h3.symm e
  ·have hq:(match μB q with | some c=>some c | none=>μS q)=some c:=hq
   cases hB':μB q with
   | some c' =>
    rw [hB'] at hq
    exact .inl hq
   | none =>
    rw [hB'] at hq
    rcases J.nm q c hq with h1 | ⟨b,ob,s1,t1,σ1,h1,k1,k2,k3,k4,k5,k6,k7,k8⟩
    ·rw [E'.mono _ _ h1] at hB'
     cases hB'
    ·rcases nJ.1 k1 with rfl | k1
     ·rw [hS] at k2;cases k2
     ·exact .inr ⟨b,ob,s1,t1,σ1,h1,k1,by simp [k2],k3,(wCQ (wGV Z hdc ha hS (hbo b k1) k2 A k3 cv)).symm.trans k4,k5,k6,k7,k8⟩
  ·have hbS:=hSb b hb hh
   obtain ⟨ob,p,Pd⟩:=J.pd b (by simp [hb]) hbS
   have hA:=wGV (σ:=σ) Z hdc ha hS (hbo b hb) hbS A Pd.get cv
   have hp:put' σ o cv (p.nat - 1)=σ (p.nat - 1):=wGc fun d hd e=>by
    rcases A.dst with ⟨_,h2⟩ | ⟨q,d',h1,h2,h3,_⟩
    ·rw [h2] at hd;cases hd
    ·rw [h2] at hd
     have hd:=nL hd
     have eq:q=p:=Pos.nat_inj (by have:=q.nat_pos;have:=p.nat_pos;have:q.nat - 1=p.nat - 1:=h3.symm.trans (hd.trans e);omega)
     subst eq
     exact Z.wr s a t J.e q h1 b (nZ _ hb) Pd.dst
   have hsb:=Z.sel b (hbo b hb) _ Pd.get
   refine ⟨ob,p,Pd.get,Pd.dst,?_⟩
   rw [hp,<- wCQ hA]
   rcases Pd.fact with f | ⟨f,⟨f1,f2⟩ | ⟨f1,f2,w1,w2,f3⟩ | ⟨f1,f2,w1,o1,s1,t1,σ1,h1,f3,f4,f5,f6,f7,f8,f9⟩⟩
   ·exact .inl f
   ·exact .inr ⟨f,.inl ⟨f1,f2.mono E'.mono⟩⟩
   ·exact .inr ⟨f,.inr (.inl ⟨f1,f2.mono hST,w1,w2,(Runs.agr hsb hA).1 f3⟩)⟩
   ·obtain ⟨n1,n2⟩:=hnm b hb s1 t1 σ1 h1 f6 f7
    have nimg:¬ img μ h.fl.nat w1.heap.size:=by
     rintro ⟨q,d,g1,g2,_⟩
     have:=f9 q d (J.le _ _ g1) g2
     rw [this,n2] at g1
     cases g1
    refine .inr ⟨f,.inr (.inr ⟨f1,f2.mono hST,w1,o1,s1,t1,σ1,h1,(Runs.agr hsb hA).1 f3,(E'.keep.block _ (wAM f4) nimg).trans f4,f5,f6,f7,hST _ _ f8,fun q c hq hc=>?_⟩)⟩
    have hq:(match μB q with | some c=>some c | none=>μS q)=some c:=hq
    cases hB':μB q with
    | none=>rw [hB'] at hq;exact f9 q c hq hc
    | some c' =>
     rw [hB'] at hq
     cases hq
     rcases E'.new q c hB' with g | g | g
     ·exact f9 q c (J.le _ _ g) hc
     ·rw [hc] at g;exact absurd g nimg
     ·have:=wAM f4;omega
 obtain ⟨σx,hx,q1,q2⟩:=wKg (s:=[]) (a:=a) (t:=t) (σ0:=σA) (h0:=h) (by rw [nT];exact J.hr)
 rw [wAs] at q1
 cases q1
 refine Step1.agr hsel (fun d hd=>(hagr d hd).symm) ?_
 rcases q2 with ⟨g1,v,h2,g2,g3⟩ | ⟨g1,g3⟩
 ·refine (wRo HC HY' A (hw.trans g1) g2 J.env J.sim).mono ?_
  rintro cv w' ⟨_,μB,e1,e2,e3,e4⟩
  refine main v cv h2 w' μB ?_ g3 e1 e2 e3 e4
  rw [wDk s [a] _ _ _ _ J.hs,wAu,g1]
  simp only
  rw [g2]
  exact wAs _ _ _ _ _
 ·refine .inr ⟨hw.trans g1,?_⟩
  refine main u undef h w μ ?_ g3 (Ext.refl μ _ w) J.sim (wEG A J.env (wMV μ)) rfl
  rw [wDk s [a] _ _ _ _ J.hs,wAu,g1]
  exact wAs _ _ _ _ _
theorem JS.opnd (Z:ZOK P N l os) {μ0:Mu} {w0:World} {S:Nat->Bool} (J:JS tb ex exY P l os σ0 h0 σf hf μ0 w0 S σ w s t σA h σ' μ μS) (ha:a ∈ os) (hl:a.ix < l.length) (hp:∀ j ∈ prI l a.ix,S j=true)
  (hdc:∀ k,k < l.length->S k=true->∀ j ∈ prI l k,S j=true) {p:Pos} (hr:p ∈ wCT a):Rv μS (evA σf (.t p)) (σ (p.nat - 1))/\(a.kd=1 \/ a.kd=3 \/ 8 <= a.kd->Rv μ (evA σf (.t p)) (σ (p.nat - 1))):=by
 have base:(∀ b ∈ t,b.dst ≠ some p)->Rv μ (evA σf (.t p)) (σ (p.nat - 1)):=fun hn=>by
  rw [wCv t _ _ _ _ J.hr p hn,J.ag p fun b hb _=>hn b hb]
  exact J.env p
 by_cases hw:∃ b ∈ t,b.dst=some p
 ·obtain ⟨b,hb,hd⟩:=hw
  have hbo:b ∈ os:=by rw [J.e];simp [hb]
  have hanc:=Z.rdS a ha p hr b hbo hd
  have hS:=wEA hdc hp hanc
  obtain ⟨ob,p',Pd⟩:=J.pd b hb hS
  have ep:p'=p:=by have:=Pd.dst;rw [hd] at this;exact (nL this).symm
  subst ep
  rcases Pd.fact with ⟨_,f1,f2⟩ | ⟨_,⟨_,f1⟩ | ⟨f0,f1,_⟩ | ⟨f0,f1,_⟩⟩
  ·rw [f1,f2]
   exact ⟨wMV _,fun _=>wMV _⟩
  ·exact ⟨f1.mono J.le,fun _=>f1⟩
  ·exact ⟨f1,fun hk=>absurd f0 (Z.cl a ha hk p' hr b hbo hd).2⟩
  ·exact ⟨f1,fun hk=>absurd f0 (Z.cl a ha hk p' hr b hbo hd).1⟩
 ·have:=base fun b hb hd=>hw ⟨b,hb,hd⟩
  exact ⟨this.mono J.le,fun _=>this⟩
end
end Go.KX
namespace Go.KX
open Go.RowKit Go.KL
section
variable {tb:Tr AF} {ex exY:Run} {P:Program} {N:Nat} {l:List Oper} {os s t:List AO} {a:AO} {σ0 σA σf:Tr AV} {h0 h h1 h' hf:AH} {μ μS:Mu} {σ σ':Env} {w:World} {o:Oper} {v:AV}
theorem wOW {a:AOp} {op:Op} (hk:kdA a=1) (hc:wHA P a op=true) (hE:EnvR μ σA σ) (hm:∀ b c,μ b=some c->h.m.get b=h1.m.get b) (hr:opY a tb ex exY σA h1=some (v,h')):opY a tb ex exY σA h=some (v,h):=by
 have cel:∀ b c,μ b=some c->wDN h b=wDN h1 b:=fun b c hb=>by unfold wDN;rw [hm b c hb]
 cases a <;> first | (simp [kdA] at hk;done) | skip
 case ld x =>
  have hr:wNz x σA h1=some (v,h'):=hr
  show wNz x σA h=some (v,h)
  have hc:wRd P x op=true:=hc
  unfold wRd at hc
  split at hc
  ·simp only [nA] at hc
   have g:=wAG hc.2 hE
   unfold wNz at hr ⊢
   split at hr
   ·rename_i b off hb
    rw [hb] at g
    obtain ⟨c,g1,_⟩:=g
    simp only [hb,cel b c g1]
    split at hr
    ·exact wND hr h
    ·cases hr
   ·cases hr
  ·cases hc
 case ldA n x =>
  have hr:wHY n x σA h1=some (v,h'):=hr
  show wHY n x σA h=some (v,h)
  have hc:wMk P n x op=true:=hc
  unfold wMk at hc
  split at hc
  ·simp only [nA] at hc
   have g:=wAG hc.2 hE
   unfold wHY at hr ⊢
   split at hr
   ·rename_i b off hb
    rw [hb] at g
    obtain ⟨c,g1,_⟩:=g
    simp only [hb,cel b c g1]
    split at hr
    ·exact wND hr h
    ·cases hr
   ·cases hr
  ·cases hc
 case lk two k ok z x y =>
  have hr:wOA two k ok z x y σA h1=some (v,h'):=hr
  show wOA two k ok z x y σA h=some (v,h)
  have hc:wRh P two k ok z x y op=true:=hc
  unfold wRh at hc
  split at hc
  ·simp only [nA] at hc
   have g:=wAG hc.2.2.1 hE
   unfold wOA at hr ⊢
   split at hr
   ·rename_i b hb
    rw [hb] at g
    obtain ⟨c,g1,_⟩:=g
    simp only [hb,hm b c g1]
    repeat' (split at hr)
    all_goals first | (cases hr;done) | (cases hr;rfl)
   ·cases hr
  ·cases hc
 case lenM x =>
  have hr:wEs x σA h1=some (v,h'):=hr
  show wEs x σA h=some (v,h)
  have hc:wJB P x op=true:=hc
  unfold wJB at hc
  split at hc
  ·split at hc
   ·simp only [nA] at hc
    obtain ⟨_,hc⟩:=hc
    split at hc
    ·simp only [nA] at hc
     have g:=wAG hc.2 hE
     unfold wEs at hr ⊢
     split at hr
     ·rename_i hb
      cases hr
      simp_all
     ·rename_i b hb
      rw [hb] at g
      obtain ⟨c,g1,_⟩:=g
      simp only [hb,hm b c g1]
      repeat' (split at hr)
      all_goals first | (cases hr;done) | (cases hr;rfl)
     ·cases hr
    ·cases hc
   ·cases hc
  ·cases hc
theorem wIU (HE:FrX ex) (HY:FrX exY):∀ (r:List AO) (σ1:Tr AV) (h1:AH) (σ2:Tr AV) (h2:AH),wAZ tb ex exY r σ1 h1=some (σ2,h2)->(∀ b ∈ r,wHB P N l b=true) ->
  (∀ b ∈ r,b.kd=2 \/ (b.kd=1 \/ b.kd=3 \/ (b.kd=6/\kdA b.op=3) \/ (b.kd=4/\wLa b.op=true) \/ (8 <= b.kd/\kdA b.op=1)))->h1.nx.nat <= h2.nx.nat/\∀ p:Pos,p.nat < h1.nx.nat->h2.m.get p=h1.m.get p
 | [],σ1,h1,σ2,h2,hr,_,_=>by
  rw [wAs] at hr
  cases hr
  exact ⟨nG _,fun _ _=>rfl⟩
 | b :: r,σ1,h1,σ2,h2,hr,hc,hk=>by
  rw [wAu] at hr
  cases hw:wCm σ1 b.grd with
  | false =>
   rw [hw] at hr
   exact wIU HE HY r _ _ _ _ hr (fun c hcc=>hc c (by simp [hcc])) (fun c hcc=>hk c (by simp [hcc]))
  | true =>
   rw [hw] at hr
   simp only at hr
   cases hq:opK b.kd b.op tb ex exY σ1 h1 with
   | none=>rw [hq] at hr;cases hr
   | some q =>
    rw [hq] at hr
    obtain ⟨v,h3⟩:=q
    obtain ⟨g1,g2⟩:=wIU HE HY r _ _ _ _ hr (fun c hcc=>hc c (by simp [hcc])) (fun c hcc=>hk c (by simp [hcc]))
    obtain ⟨o,A⟩:=wCz (hc b (by simp))
    have one:h1.nx.nat <= h3.nx.nat/\∀ p:Pos,p.nat < h1.nx.nat->h3.m.get p=h1.m.get p:=by
     have same:h3=h1->h1.nx.nat <= h3.nx.nat/\∀ p:Pos,p.nat < h1.nx.nat->h3.m.get p=h1.m.get p:=fun e=>by subst e;exact ⟨nG _,fun _ _=>rfl⟩
     rcases hk b (by simp) with k | k | k | ⟨k,k'⟩ | ⟨k,k'⟩ | ⟨k,k'⟩
     ·exact ⟨(wPL HE HY _ _ hq).nx,wRs HE HY b.op (by rw [k] at hq;exact hq)⟩
     ·rw [k] at hq
      exact same (wHo (C:=CC P) (A.k1 k) A.op _ _ _ _ hq).1
     ·rw [k] at hq
      exact same (wHn (A.k3 k) A.op _ _ _ _ hq).1
     ·rw [k] at hq
      exact same (wHn k' A.op _ _ _ _ hq).1
     ·rw [k] at hq
      obtain ⟨B,vf,e1,_⟩:=wKf (C:=CC P) k' A.op _ _ _ _ hq
      subst e1
      refine ⟨(Fr.push h1 B).nx,fun p hp=>?_⟩
      show (h1.m.set h1.nx B).get p=_
      rw [Tr.get_set,if_neg (fun e=>by subst e;omega)]
     ·exact same (wHo (C:=CC P) (.inl k') A.op _ _ _ _ (wNG (by omega) hq)).1
    exact ⟨kC one.1 g1,fun p hp=>(g2 p (kH hp one.1)).trans (one.2 p hp)⟩
theorem JS.full {μ0:Mu} {w0:World} {S:Nat->Bool} (J:JS tb ex exY P l os σ0 h0 σf hf μ0 w0 S σ w s t σA h σ' μ μS):wAZ tb ex exY os σ0 h0=some (σf,hf):=by
 rw [J.e,wDk s t _ _ _ _ J.hs]
 exact J.hr
theorem JS.frm (Z:ZOK P N l os) {μ0:Mu} {w0:World} {S:Nat->Bool} (J:JS tb ex exY P l os σ0 h0 σf hf μ0 w0 S σ w s t σA h σ' μ μS) (ha:a ∈ os) (hl:a.ix < l.length) (hp:∀ j ∈ prI l a.ix,S j=true)
  (hdc:∀ k,k < l.length->S k=true->∀ j ∈ prI l k,S j=true) (A:AOK P N l a o) {s1 t1:List AO} {σ1:Tr AV} (e1:os=s1 ++ a :: t1) (hr1:wAZ tb ex exY s1 σ0 h0=some (σ1,h1)) :
  wanted l σ o=wCm σ1 a.grd/\∀ p ∈ wCT a,evA σf (.t p)=evA σ1 (.t p):=by
 have hf:=J.full
 have hrd:∀ p ∈ wCT a,evA σf (.t p)=evA σ1 (.t p):=fun p hp=>by
  rw [e1,wDk s1 _ _ _ _ _ hr1] at hf
  exact wRu Z e1 hf hp
 refine ⟨?_,hrd⟩
 have hE:EnvR μS (rst σf (wCT a)) (rsl σ (wCT a)):=wHG fun p hpr=>(J.opnd Z ha hl hp hdc hpr).1
 have hw:=wIQ A hE
 have hag:Agr l o (rsl σ (wCT a)) σ:=fun d hd=>by
  obtain ⟨p,h1,h2⟩:=wEh A (Z.sub a ha _ A.get) d hd
  unfold rsl
  rw [if_pos ⟨p,h1,h2⟩]
 rw [<- wCQ hag,hw]
 cases hg:a.grd with
 | none=>rfl
 | some q =>
  obtain ⟨p,b⟩:=q
  show isB b (evA _ (.t p))=isB b (evA _ (.t p))
  have hpr:p ∈ wCT a:=nZ _ (by rw [hg];simp)
  rw [wHF,if_pos hpr,hrd p hpr]
theorem wRw (HE:FrX ex) (HY:FrX exY) (Z:ZOK P N l os) {a b:AO} {s1 t1 s2 t2:List AO} {σ1 σ2:Tr AV} {h1 h2:AH} (e1:os=s1 ++ a :: t1) (e2:os=s2 ++ b :: t2) (r1:wAZ tb ex exY s1 σ0 h0=some (σ1,h1)) (r2:wAZ tb ex exY s2 σ0 h0=some (σ2,h2))
  (w1:wCm σ1 a.grd=true) (ka:a.kd=4) (la:wLa a.op=true) (hin:a ∈ s2):h1.nx.nat < h2.nx.nat:=by
 obtain ⟨o,A⟩:=wCz (Z.ao a (by rw [e1];simp))
 obtain ⟨r,r',rfl⟩:=nS hin
 have es:s1=r:=(wCw (e1 ▸ Z.one) (e1.symm.trans (e2.trans (by rw [nX,nK])))).1
 subst es
 rw [wDk s1 _ _ _ _ _ r1,wAu,w1] at r2
 simp only at r2
 cases hq:opK a.kd a.op tb ex exY σ1 h1 with
 | none=>rw [hq] at r2;cases r2
 | some q =>
  rw [hq] at r2
  obtain ⟨v,h3⟩:=q
  rw [ka] at hq
  obtain ⟨B,vf,q1,_⟩:=wKf (C:=CC P) la A.op _ _ _ _ hq
  subst q1
  have:=(wHr HE HY _ _ _ _ _ r2).nx
  have h3:(h1.push B).nx.nat=h1.nx.nat + 1:=Pos.nat_succ _
  simp only at this
  omega
theorem nm_ne (HE:FrX ex) (HY:FrX exY) (Z:ZOK P N l os) {a b:AO} {s1 t1 s2 t2:List AO} {σ1 σ2:Tr AV} {h1 h2:AH} (e1:os=s1 ++ a :: t1) (e2:os=s2 ++ b :: t2) (r1:wAZ tb ex exY s1 σ0 h0=some (σ1,h1)) (r2:wAZ tb ex exY s2 σ0 h0=some (σ2,h2))
  (w1:wCm σ1 a.grd=true) (w2:wCm σ2 b.grd=true) (ka:a.kd=4) (la:wLa a.op=true) (kb:b.kd=4) (lb:wLa b.op=true) (hne:a ≠ b):h1.nx ≠ h2.nx:=by
 have ha:a ∈ s2 ++ b :: t2:=by rw [<- e2,e1];simp
 rcases nI.1 ha with h | h
 ·intro e
  have:=wRw HE HY Z e1 e2 r1 r2 w1 ka la h
  rw [e] at this
  exact absurd this (kW _)
 ·rcases nJ.1 h with h | h
  ·exact absurd h hne
  ·obtain ⟨r,r',rfl⟩:=nS h
   have es:s1=s2 ++ b :: r:=(wCw (e1 ▸ Z.one) (e1.symm.trans (e2.trans (by rw [nX,nK])))).1
   intro e
   have:=wRw HE HY Z e2 e1 r2 r1 w2 kb lb (by rw [es];simp)
   rw [e] at this
   exact absurd this (kW _)
end
end Go.KX
namespace Go.KX
open Go.RowKit Go.KL
section
variable {tb:Tr AF} {ex exY:Run} {P:Program} {N:Nat} {l:List Oper} {os s t:List AO} {a:AO} {σ0 σA σf:Tr AV} {h0 h h1 h' hf:AH} {μ μS:Mu} {σ σ':Env} {w:World} {o:Oper} {v:AV}
theorem wNI (Z:ZOK P N l os) {a b:AO} (ha:a ∈ os) (hb:b ∈ os) (e:b.ix=a.ix):b=a:=by
 obtain ⟨s,t,hs⟩:=nS ha
 have one:=Z.one
 rw [hs] at hb one
 rcases nI.1 hb with h | h
 ·exact absurd e ((nq.1 one).2.2 b h a (by simp))
 ·rcases nJ.1 h with h | h
  ·exact h
  ·exact absurd e.symm ((nY.1 (nq.1 one).2.1).1 b h)
theorem wGW (A:AOK P N l a o) {q:Pos} (hn:a.dst ≠ some q) (cv:Value):put' σ o cv (q.nat - 1)=σ (q.nat - 1):=by
 refine wGc fun d hd e=>?_
 rcases A.dst with ⟨_,h2⟩ | ⟨p,d',h1,h2,h3,_⟩
 ·rw [h2] at hd;cases hd
 ·rw [h2] at hd
  have hd:=nL hd
  have:p=q:=Pos.nat_inj (by have:=q.nat_pos;have:=p.nat_pos;have:p.nat - 1=q.nat - 1:=h3.symm.trans (hd.trans e);omega)
  subst this
  exact hn h1
theorem JS.add (Z:ZOK P N l os) {μ0:Mu} {w0:World} {S:Nat->Bool} (J:JS tb ex exY P l os σ0 h0 σf hf μ0 w0 S σ w s t σA h σ' μ μS) (ha:a ∈ t) (hS:S a.ix=false) (hfree:wCN a.kd=false)
  (hdc:∀ k,k < l.length->S k=true->∀ j ∈ prI l k,S j=true) (A:AOK P N l a o) {cv:Value} {w':World} {μT:Mu} (K:Keep w w' Non) (hle:μS.Le μT)
  (hnew:∀ q c,μT q=some c->μS q=some c \/ (c.1=w.heap.size/\wanted l σ o=true/\a.kd=4/\∃ s1 t1 σ1 h1,os=s1 ++ a :: t1/\wAZ tb ex exY s1 σ0 h0=some (σ1,h1)/\q=h1.nx))
  (hpa:∃ p,Pend tb ex exY P l os σ0 h0 σf w0 μ μT (put' σ o cv) w' a o p) :
  JS tb ex exY P l os σ0 h0 σf hf μ0 w0 (fun k=>k == a.ix || S k) (put' σ o cv) w' s t σA h σ' μ μT:=by
 have hao:a ∈ os:=by rw [J.e];simp [ha]
 have hbo:∀ b ∈ t,b ∈ os:=fun b hb=>by rw [J.e];simp [hb]
 obtain ⟨sa,ta,ea⟩:=nS hao
 have hself:Agr l o σ (put' σ o cv):=by
  intro d hd
  obtain ⟨p,hp,rfl⟩:=wEh A (Z.sub a hao _ A.get) d hd
  exact (wGW A (Z.rd sa a ta ea p hp a (by simp)) cv).symm
 refine ⟨J.e,J.hs,J.hr,fun b hb=>by simp [J.inS b hb],fun b hb hh=>?_,⟨J.E.mono,J.E.new,J.E.keep.step K fun _ _ hn=>hn.elim⟩,J.sim.keep K,J.fl,J.env,fun q hq=>?_,J.le.trans hle,fun q c hq=>?_,fun b hb hh=>?_⟩
 ·by_cases e:b.ix=a.ix
  ·rw [wNI Z hao (hbo b hb) e];exact hfree
  ·exact J.free b hb (by simpa [e] using hh)
 ·rw [wGW A (hq a ha (by simp))]
  exact J.ag q fun b hb hs=>hq b hb (by simp [hs])
 ·rcases hnew q c hq with h1 | ⟨_,h2,h3,s1,t1,σ1,h1,e1,e2,e3⟩
  ·rcases J.nm q c h1 with g | ⟨b,ob,s1,t1,σ1,h1,k1,k2,k3,k4,k5,k6,k7,k8⟩
   ·exact .inl g
   ·exact .inr ⟨b,ob,s1,t1,σ1,h1,k1,by simp [k2],k3,(wCQ (wGV Z hdc hao hS (hbo b k1) k2 A k3 cv)).symm.trans k4,k5,k6,k7,k8⟩
  ·exact .inr ⟨a,o,s1,t1,σ1,h1,ha,by simp,A.get,(wCQ hself).symm.trans h2,h3,e1,e2,e3⟩
 ·by_cases e:b.ix=a.ix
  ·have:=wNI Z hao (hbo b hb) e
   subst this
   exact ⟨o,hpa⟩
  ·have hbS:S b.ix=true:=by simpa [e] using hh
   obtain ⟨ob,p,Pd⟩:=J.pd b hb hbS
   have hA:=wGV (σ:=σ) Z hdc hao hS (hbo b hb) hbS A Pd.get cv
   have hp:put' σ o cv (p.nat - 1)=σ (p.nat - 1):=by
    refine wGW A (fun hd=>?_) cv
    have hb':=hbo b hb
    rw [ea] at hb'
    have hb'':b ∈ sa ++ ta:=by
     rcases nI.1 hb' with h | h
     ·exact ng _ h
     ·rcases nJ.1 h with h | h
      ·exact absurd (by rw [h]) e
      ·exact nZ _ h
    exact Z.wr sa a ta ea p hd b hb'' Pd.dst
   have hsb:=Z.sel b (hbo b hb) _ Pd.get
   refine ⟨ob,p,Pd.get,Pd.dst,?_⟩
   rw [hp,<- wCQ hA]
   rcases Pd.fact with f | ⟨f,⟨f1,f2⟩ | ⟨f1,f2,w1,w2,f3⟩ | ⟨f1,f2,w1,o1,s1,t1,σ1,h1,f3,f4,f5,f6,f7,f8,f9⟩⟩
   ·exact .inl f
   ·exact .inr ⟨f,.inl ⟨f1,f2⟩⟩
   ·exact .inr ⟨f,.inr (.inl ⟨f1,f2.mono hle,w1,w2,(Runs.agr hsb hA).1 f3⟩)⟩
   ·refine .inr ⟨f,.inr (.inr ⟨f1,f2.mono hle,w1,o1,s1,t1,σ1,h1,(Runs.agr hsb hA).1 f3,(K.block _ (wAM f4) id).trans f4,f5,f6,f7,hle _ _ f8,fun q c hq hc=>?_⟩)⟩
    rcases hnew q c hq with h1 | ⟨h1,_⟩
    ·exact f9 q c h1 hc
    ·have:=wAM f4
     omega
theorem wHs:∀ (r:List AO),(∀ b ∈ r,b.kd ≠ 0) \/ ∃ x b y,r=x ++ b :: y/\b.kd=0/\∀ c ∈ x,c.kd ≠ 0
 | []=>.inl fun b hb=>by simp at hb
 | a :: r=>by
  by_cases h0:a.kd=0
  ·exact .inr ⟨[],a,r,rfl,h0,fun c hc=>by simp at hc⟩
  ·rcases wHs r with h | ⟨x,b,y,h1,h2,h3⟩
   ·refine .inl fun b hb=>?_
    rcases nJ.1 hb with rfl | hb
    ·exact h0
    ·exact h b hb
   ·refine .inr ⟨a :: x,b,y,by rw [h1];rfl,h2,fun c hc=>?_⟩
    rcases nJ.1 hc with rfl | hc
    ·exact h0
    ·exact h3 c hc
theorem JS.freeOp {σg:Tr AV} (HE:FrX ex) (HY:FrX exY) (Z:ZOK P N l os) (HL:LCK tb ex exY os σ0 h0 σg) (Hg:∀ a ∈ os,8 <= a.kd->∀ p,p ∈ wCT a \/ a.dst=some p->evA σf (.t p)=evA σg (.t p)) {μ0:Mu} {w0:World} {S:Nat->Bool} (J:JS tb ex exY P l os σ0 h0 σf hf μ0 w0 S σ w s t σA h σ' μ μS) (ha:a ∈ t) (hS:S a.ix=false) (hfree:wCN a.kd=false)
  (hp:∀ j ∈ prI l a.ix,S j=true) (hdc:∀ k,k < l.length->S k=true->∀ j ∈ prI l k,S j=true) (A:AOK P N l a o) :
  Step1 P l o σ w fun cv w'=>∃ μT,JS tb ex exY P l os σ0 h0 σf hf μ0 w0 (fun k=>k == a.ix || S k) (put' σ o cv) w' s t σA h σ' μ μT:=by
 have hao:a ∈ os:=by rw [J.e];simp [ha]
 have hl:a.ix < l.length:=(na.1 A.get).1
 obtain ⟨r,r',et⟩:=nS ha
 have e1:os=(s ++ r) ++ a :: r':=by rw [J.e,et,nX]
 have hsel:=Z.sel a hao _ A.get
 have hsub:=Z.sub a hao _ A.get
 have hfull:=J.full
 rw [e1] at hfull
 obtain ⟨σ1,h1,r1,r2⟩:=wKg hfull
 obtain ⟨hw,hrd⟩:=J.frm Z hao hl hp hdc A e1 r1
 have hrr:wAZ tb ex exY r σA h=some (σ1,h1):=by rw [<- wDk s r _ _ _ _ J.hs];exact r1
 have hself:∀ cv,Agr l o σ (put' σ o cv):=by
  intro cv d hd
  obtain ⟨p,hp,rfl⟩:=wEh A hsub d hd
  exact (wGW A (Z.rd _ a _ e1 p hp a (by simp)) cv).symm
 obtain ⟨hdn,hkd⟩:a.dst ≠ none/\(a.kd=1 \/ a.kd=3 \/ (a.kd=6/\kdA a.op=3) \/ (a.kd=4/\wLa a.op=true) \/ (8 <= a.kd/\kdA a.op=1)):=by
  rcases Z.kd a hao with h | h
  ·rw [hfree] at h;cases h
  ·exact h
 obtain ⟨p,d,d1,d2,d3,_⟩:∃ p d,a.dst=some p/\o.dst=some d/\d=p.nat - 1/\d < N:=by
  rcases A.dst with ⟨h1,_⟩ | h
  ·exact absurd h1 hdn
  ·exact h
 have eput:∀ cv,put' σ o cv (p.nat - 1)=cv:=fun cv=>by unfold put';rw [d2,d3];exact wCk _ _ _
 have hslot:∀ q ∈ wCj (wBj a.op),q ∈ wCT a:=fun q hq=>ng _ hq
 rcases r2 with ⟨g1,v,h2,g2,g3⟩ | ⟨g1,g3⟩
 ·have hv:evA σf (.t p)=v:=wJv Z e1 g3 d1
  have hw':wanted l σ o=true:=hw.trans g1
  have hwn:∀ cv,wanted l (put' σ o cv) o=true:=fun cv=>(wCQ (hself cv)).symm.trans hw'
  have hvS:∀ q ∈ wCj (wBj a.op),Rv μS (evA σ1 (.t q)) (σ (q.nat - 1)):=fun q hq=>by
   rw [<- hrd q (hslot q hq)]
   exact (J.opnd Z hao hl hp hdc (hslot q hq)).1
  have clean:(a.kd=1 \/ a.kd=3 \/ 8 <= a.kd)->(∃ cv,Rv μ v cv/\Runs P σ w o cv w)->Step1 P l o σ w fun cv w'=>∃ μT,JS tb ex exY P l os σ0 h0 σf hf μ0 w0 (fun k=>k == a.ix || S k) (put' σ o cv) w' s t σA h σ' μ μT:=by
   rintro hk ⟨cv,c1,c2⟩
   refine .inl ⟨hw',.inr (.inl ⟨cv,w,c2,μS,J.add Z ha hS hfree hdc A (Keep.refl w _) (Mu.Le.refl _) (fun q c hq=>.inl hq) ⟨p,A.get,d1,.inr ⟨hwn cv,.inl ⟨hk,?_⟩⟩⟩⟩)⟩
   rw [hv,eput]
   exact c1
  have hvC:(a.kd=1 \/ a.kd=3 \/ 8 <= a.kd)->∀ q ∈ wCj (wBj a.op),Rv μ (evA σ1 (.t q)) (σ (q.nat - 1)):=fun hk q hq=>by
   rw [<- hrd q (hslot q hq)]
   exact (J.opnd Z hao hl hp hdc (hslot q hq)).2 hk
  have loadC:(a.kd=1 \/ a.kd=3 \/ 8 <= a.kd)->kdA a.op=1->∀ (x:List AO),(∀ b ∈ x,b ∈ t)->∀ {σ2:Tr AV} {h3 h4:AH} {σ3:Tr AV},wAZ tb ex exY x σA h=some (σ2,h3)->opY a.op tb ex exY σ3 h3=some (v,h4)->(∀ b ∈ x,b.kd=0->False)->(∀ q ∈ wCT a,evA σf (.t q)=evA σ3 (.t q))->∃ cv,Rv μ v cv/\Runs P σ w o cv w:=by
   intro hk k x hx σ2 h3 h4 σ3 hrx gY hx0 hrd3
   have hv3:∀ q ∈ wCj (wBj a.op),Rv μ (evA σ3 (.t q)) (σ (q.nat - 1)):=fun q hq=>by
    rw [<- hrd3 q (hslot q hq)]
    exact (J.opnd Z hao hl hp hdc (hslot q hq)).2 hk
   have hrs:=wKe gY
   have henv:=wHG hv3
   obtain ⟨_,hold⟩:=wIU HE HY x _ _ _ _ hrx (fun b hb=>Z.ao b (by rw [J.e];simp [hx b hb])) (fun b hb=>by
    rcases Z.kd b (by rw [J.e];simp [hx b hb]) with h | h
    ·unfold wCN at h
     simp only [nR] at h
     rcases h with h | h
     ·exact absurd (nB h) (hx0 b hb)
     ·exact .inl (nB h)
    ·exact .inr h.2)
   have hm:∀ b c,μ b=some c->h.m.get b=h3.m.get b:=fun b c hb=>by
    refine (hold b ?_).symm
    rcases Nat.lt_or_ge b.nat h.nx.nat with hlt | hge
    ·exact hlt
    ·rw [J.sim.nx b hge] at hb;cases hb
   have hld:=wOW k A.op henv hm hrs
   obtain ⟨cv,c1,c2⟩:=wNF (C:=CC P) hsel hsub (.inl k) A.op hld J.sim (fun q hq=>by rw [wHF,if_pos hq];exact hv3 q hq)
   exact ⟨cv,c1,c2⟩
  rcases hkd with hk | hk | ⟨hk,hk2⟩ | ⟨hk,hk2⟩ | ⟨hk,hk2⟩
  ·have gY:opY a.op tb ex exY σ1 h1=some (v,h2):=by rw [hk] at g2;exact g2
   refine clean (.inl hk) ?_
   rcases A.k1 hk with k | k
   ·exact loadC (.inl hk) k r (fun b hb=>by rw [et];simp [hb]) hrr gY (fun b hb h0=>by
     have:=wEA hdc hp (Z.ld _ a _ e1 hk b (by simp [hb]) h0)
     have:=J.free b (by rw [et];simp [hb]) this
     rw [h0] at this
     cases this) hrd
   ·obtain ⟨cv,c1,c2⟩:=wHH hsel hsub k A.op gY (hvC (.inl hk))
    exact ⟨cv,c1,c2 w⟩
  ·have gY:opY a.op tb ex exY σ1 h1=some (v,h2):=by rw [hk] at g2;exact g2
   obtain ⟨cv,c1,c2⟩:=wHH hsel hsub (A.k3 hk) A.op gY (hvC (.inr (.inl hk)))
   exact clean (.inr (.inl hk)) ⟨cv,c1,c2 w⟩
  ·have gY:opY a.op tb ex exY σ1 h1=some (v,h2):=by rw [hk] at g2;exact g2
   obtain ⟨cv,c1,c2⟩:=wHH hsel hsub hk2 A.op gY hvS
   refine .inl ⟨hw',.inr (.inl ⟨cv,w,c2 w,μS,J.add Z ha hS hfree hdc A (Keep.refl w _) (Mu.Le.refl _) (fun q c hq=>.inl hq) ⟨p,A.get,d1,.inr ⟨hwn cv,.inr (.inl ⟨hk,?_,w,w,?_⟩)⟩⟩⟩)⟩
   ·rw [hv,eput]
    exact c1
   ·rw [eput]
    exact (Runs.agr hsel (hself cv)).1 (c2 w)
  ·have gY:opY a.op tb ex exY σ1 h1=some (v,h2):=by rw [hk] at g2;exact g2
   obtain ⟨B,vf,ob,val,_,ev',_,c1,c2,c3⟩:=wLN (C:=CC P) hsel hsub hk2 A.op gY hvS
   have hno:μS h1.nx=none:=by
    cases hq:μS h1.nx with
    | none=>rfl
    | some c =>
     rcases J.nm _ c hq with g | ⟨b,ob',s2,t2,σ2,h3,k1,k2,k3,k4,k5,k6,k7,k8⟩
     ·have:=wQS HE HY Z J.e J.hs ha e1 r1
      rw [J.sim.nx _ this] at g
      cases g
     ·have hbo:b ∈ os:=by rw [J.e];simp [k1]
      have hne:a ≠ b:=fun e=>by subst e;rw [hS] at k2;cases k2
      obtain ⟨ob2,B2⟩:=wCz (Z.ao b hbo)
      have hb2:wLa b.op=true:=by
       rcases Z.kd b hbo with hh | ⟨_,hh | hh | hh | hh | hh⟩
       ·rw [k5] at hh;exact absurd hh (by decide)
       ·omega
       ·omega
       ·omega
       ·exact hh.2
       ·omega
      have hwb:wCm σ2 b.grd=true:=by
       have hlb:b.ix < l.length:=(na.1 k3).1
       have eo:ob2=ob':=by have:=B2.get;rw [k3] at this;exact (nL this).symm
       subst eo
       have:=(J.frm Z hbo hlb (hdc _ hlb k2) hdc B2 k6 k7).1
       rw [<- this]
       exact k4
      exact absurd k8 (nm_ne HE HY Z e1 k6 r1 k7 g1 hwb hk hk2 k5 hb2 hne)
   have hadd:=Mu.add_le (c:=(⟨w.heap.size,0,g0⟩:Cl)) hno
   have hsz:∀ q c,μS q=some c->c.1 < w.heap.size:=fun q c hq=>by
    rcases J.nm q c hq with g | ⟨b,ob',s2,t2,σ2,h3,k1,k2,k3,k4,k5,k6,k7,k8⟩
    ·exact J.sim.lt q c g
    ·obtain ⟨ob2,p2,Pd⟩:=J.pd b k1 k2
     have eo:ob2=ob':=by have:=Pd.get;rw [k3] at this;exact (nL this).symm
     subst eo
     rcases Pd.fact with ⟨f,_⟩ | ⟨_,⟨f,_⟩ | ⟨f,_⟩ | ⟨_,_,w1,o1,s3,t3,σ3,h4,_,f4,_,f6,f7,f8,_⟩⟩
     ·rw [k4] at f;cases f
     ·omega
     ·omega
     ·have es:s3=s2:=(wCw (f6 ▸ Z.one) (f6.symm.trans k6)).1
      subst es
      rw [k7] at f7
      cases f7
      subst k8
      rw [hq] at f8
      cases f8
      exact wAM f4
   refine .inl ⟨hw',.inr (.inl ⟨val w.heap.size,w.alloc ob,c1 w,μS.add h1.nx ⟨w.heap.size,0,g0⟩,J.add Z ha hS hfree hdc A (wBL w ob) hadd (fun q c hq=>?_) ⟨p,A.get,d1,.inr ⟨hwn _,.inr (.inr ⟨hk,?_,w,ob,s ++ r,r',σ1,h1,?_,heap_alloc_new w ob,J.E.keep.size,e1,r1,Mu.add_same _ _ _,fun q c hq hc=>?_⟩)⟩⟩⟩)⟩
   ·unfold Mu.add at hq
    split at hq
    ·rename_i eq
     cases hq
     exact .inr ⟨rfl,hw',hk,s ++ r,r',σ1,h1,e1,r1,eq⟩
    ·exact .inl hq
   ·rw [hv,eput,ev']
    exact c3 _ _ _ (Mu.add_same _ _ _)
   ·rw [eput]
    exact (Runs.agr hsel (hself _)).1 (c1 w)
   ·unfold Mu.add at hq
    split at hq
    ·rename_i eq
     exact eq
    ·have:=hsz q c hq
     omega
  ·have gY:opY a.op tb ex exY σ1 h1=some (v,h2):=wNG (by omega) g2
   refine clean (.inr (.inr hk)) ?_
   rcases wHs r with hz | ⟨x,b,y,er,hb0,hx0⟩
   ·exact loadC (.inr (.inr hk)) hk2 r (fun b hb=>by rw [et];simp [hb]) hrr gY (fun b hb h0=>hz b hb h0) hrd
   ·have e2:os=(s ++ x) ++ b :: (y ++ a :: r'):=by rw [J.e,et,er];simp
    have hfull2:=J.full
    rw [e2] at hfull2
    obtain ⟨σ2,h3,r3,_⟩:=wKg hfull2
    have hbt:b ∈ t:=by rw [et,er];simp
    have hanc:wOC y + 8 < a.kd:=by
     rcases Z.ld8 _ a _ e1 hk (s ++ x) b y (by rw [er];simp) hb0 with g | g
     ·have:=J.free b hbt (wEA hdc hp g)
      rw [hb0] at this
      cases this
     ·exact g
    have hlk:=HL _ b _ e2 hb0 _ _ r3
    have hsame:=wJr y a r' 0 hlk hfree (by omega)
    have hgf:wCm σg a.grd=true:=by
     rw [<- g1]
     cases hg:a.grd with
     | none=>rfl
     | some q =>
      obtain ⟨q,c⟩:=q
      show isB c (evA _ (.t q))=isB c (evA _ (.t q))
      have hqr:q ∈ wCT a:=nZ _ (by rw [hg];simp)
      rw [<- Hg a hao hk q (.inl hqr),hrd q hqr]
    unfold wHk at hsame
    rw [d1] at hsame
    simp only [hgf] at hsame
    split at hsame
    ·rename_i v' h5 hq
     have hvv:=wNC hsame
     rw [<- Hg a hao hk p (.inr d1),hv] at hvv
     subst hvv
     have hrx:wAZ tb ex exY x σA h=some (σ2,h3):=by rw [<- wDk s x _ _ _ _ J.hs];exact r3
     exact loadC (.inr (.inr hk)) hk2 x (fun b hb=>by rw [et,er];simp [hb]) hrx hq (fun b hb h0=>hx0 b hb h0) (fun q hq=>Hg a hao hk q (.inl hq))
    ·cases hsame
 ·refine .inr ⟨hw.trans g1,μS,J.add Z ha hS hfree hdc A (Keep.refl w _) (Mu.Le.refl _) (fun q c hq=>.inl hq) ⟨p,A.get,d1,.inl ⟨(wCQ (hself _)).symm.trans (hw.trans g1),eput _,?_⟩⟩⟩
  exact wJv Z e1 (v:=u) g3 d1
theorem JS.catch (Z:ZOK P N l os) {μ0:Mu} {w0:World} {S:Nat->Bool}:∀ (r:List AO) {s t:List AO} {σA:Tr AV} {h:AH} {σ':Env} {μ:Mu},JS tb ex exY P l os σ0 h0 σf hf μ0 w0 S σ w s (r ++ t) σA h σ' μ μS->(∀ a ∈ r,S a.ix=true) ->
  ∃ σB hB σ'' μB,JS tb ex exY P l os σ0 h0 σf hf μ0 w0 S σ w (s ++ r) t σB hB σ'' μB μS
 | [],s,t,σA,h,σ',μ,J,_=>⟨σA,h,σ',μ,by rw [nt];exact J⟩
 | a :: r,s,t,σA,h,σ',μ,J,hS=>by
  obtain ⟨σB,hB,σ'',μB,J1⟩:=JS.catch1 (t:=r ++ t) Z J (hS a (by simp))
  obtain ⟨σC,hC,σ3,μC,J2⟩:=JS.catch Z r J1 fun b hb=>hS b (by simp [hb])
  exact ⟨σC,hC,σ3,μC,by rw [show s ++ a :: r=s ++ [a] ++ r by simp];exact J2⟩
theorem JS.anew {A B:List AO} {σm:Tr AV} {h2:AH} {μ0:Mu} {w0:World} {S:Nat->Bool} (J:JS tb ex exY P l A σ0 h0 σm h2 μ0 w0 S σ w s [] σA h σ' μ μS) (hr:wAZ tb ex exY B σm h2=some (σf,hf)) (hB:∀ b ∈ B,S b.ix=false) :
  Ext μ0 h0.fl.nat w0 μ w/\h2.fl=h0.fl/\JS tb ex exY P l B σm h2 σf hf μ w S σ w [] B σm h2 σ' μ μ:=by
 have hr1:=J.hr
 rw [wAs] at hr1
 cases hr1
 exact ⟨J.E,J.fl,rfl,wAs _ _ _ _ _,hr,fun b hb=>(by simp at hb),fun b hb hS=>(by rw [hB b hb] at hS;cases hS),Ext.refl μ _ w,J.sim,rfl,J.env,fun q _=>J.ag q fun b hb=>(by simp at hb),Mu.Le.refl _,fun q c hq=>.inl hq,fun b hb hS=>(by rw [hB b hb] at hS;cases hS)⟩
theorem CK.lazy {rr:Option Nat} {Q:wDG} {D:List Deferred} {id:Nat} (hm:P.follows .mixedOrders=true) (HC:wGJ (CC P) P tb ex) (HY':wFK (CC P) P exY) (HE:FrX ex) (HY:FrX exY) (ZZ:∃ A B,ZAll P N l os A B) (HL0:LCK tb ex exY os σ0 h0 σf)
  (hr:wAZ tb ex exY os σ0 h0=some (σf,hf)) (S:Sim (CC P) P μ h0 w) (hE:EnvR μ σ0 σ)
  (hQ:∀ μ' w' σ',Ext μ h0.fl.nat w μ' w'->Sim (CC P) P μ' hf w'->EnvR μ' σf σ'->hf.fl=h0.fl->Q D .normal σ' w'):CK rr N P (.region id l.toArray true) Q D σ w:=by
 obtain ⟨A,B,ZZ⟩:=ZZ
 obtain ⟨σm,h2,hrA,hrB⟩:=wDi A B σ0 h0 _ (ZZ.eq ▸ hr)
 have HL:LCK tb ex exY A σ0 h0 σf/\LCK tb ex exY B σm h2 σf:=by
  refine ⟨fun s b t e k0 σ1 h1 hs=>?_,wKb ZZ.low⟩
  have:=HL0 s b (t ++ B) (by rw [ZZ.eq,e];simp) k0 σ1 h1 hs
  exact wIR t B 0 this
 have Hg:∀ a ∈ A,8 <= a.kd->∀ p,p ∈ wCT a \/ a.dst=some p->evA σm (.t p)=evA σf (.t p):=fun a ha h8 p hp=>(wCv B _ _ _ _ hrB p fun b hb=>ZZ.far a ha h8 p hp b hb).symm
 have lt:∀ b ∈ os,b.ix < l.length:=fun b hb=>by
  rw [ZZ.eq] at hb
  rcases nI.1 hb with hb | hb
  ·obtain ⟨o,A⟩:=wCz (ZZ.za.ao b hb)
   exact (na.1 A.get).1
  ·obtain ⟨o,A⟩:=wCz (ZZ.zb.ao b hb)
   exact (na.1 A.get).1
 have stepB:∀ (S1:Nat->Bool) (a:AO) (σ1:Env) (w1:World) (μm:Mu) (wm:World) (s t:List AO) (σA:Tr AV) (h:AH) (σ':Env) (μ1 μS:Mu) (o:Oper),a ∈ B->S1 a.ix=false->(∀ j ∈ prI l a.ix,S1 j=true)->(∀ k,k < l.length->S1 k=true->∀ j ∈ prI l k,S1 j=true)->AOK P N l a o ->
   JS tb ex exY P l B σm h2 σf hf μm wm S1 σ1 w1 s t σA h σ' μ1 μS->Step1 P l o σ1 w1 fun v w'=>∃ s t σA h σ' μ1 μS,JS tb ex exY P l B σm h2 σf hf μm wm (fun k=>k == a.ix || S1 k) (put' σ1 o v) w' s t σA h σ' μ1 μS:=by
  intro S1 a σ1 w1 μm wm s t σA h σ' μ1 μS o ha hSi hpi hdc A J
  have hat:a ∈ t:=by
   have:=ha
   rw [J.e] at this
   rcases nI.1 this with h | h
   ·rw [J.inS a h] at hSi;cases hSi
   ·exact h
  cases hf:wCN a.kd with
  | true =>
   obtain ⟨r,r',et⟩:=nS hat
   rw [et] at J
   obtain ⟨σB,hB,σ'',μB,J1⟩:=JS.catch ZZ.zb r J fun b hb=>wEA hdc hpi (ZZ.zb.anc (s ++ r) a r' (by rw [J.e,nX]) hf b (by simp [hb]))
   refine (J1.fixed HC HY' HE HY ZZ.zb hf hSi hdc A).mono ?_
   rintro v w' ⟨σC,hC,σ3,μC,μT,J2⟩
   exact ⟨_,_,_,_,_,_,_,J2⟩
  | false =>
   refine (J.freeOp HE HY ZZ.zb HL.2 (fun _ _ _ _ _=>rfl) hat hSi hf hpi hdc A).mono ?_
   rintro v w' ⟨μT,J2⟩
   exact ⟨_,_,_,_,_,_,_,J2⟩
 have toB:∀ (S1:Nat->Bool) (σ1:Env) (w1:World) (s t:List AO) (σA:Tr AV) (h:AH) (σ':Env) (μ1 μS:Mu),(∀ a ∈ A,S1 a.ix=true)->(∀ b ∈ B,S1 b.ix=false)->JS tb ex exY P l A σ0 h0 σm h2 μ w S1 σ1 w1 s t σA h σ' μ1 μS ->
   ∃ μm σ',Ext μ h0.fl.nat w μm w1/\h2.fl=h0.fl/\JS tb ex exY P l B σm h2 σf hf μm w1 S1 σ1 w1 [] B σm h2 σ' μm μm:=by
  intro S1 σ1 w1 s t σA h σ' μ1 μS hA hB J
  have J0:JS tb ex exY P l A σ0 h0 σm h2 μ w S1 σ1 w1 s (t ++ []) σA h σ' μ1 μS:=by rw [nt];exact J
  obtain ⟨σB,hB',σ'',μB,J1⟩:=JS.catch ZZ.za t J0 fun b hb=>hA b (by rw [J.e];simp [hb])
  obtain ⟨g1,g2,g3⟩:=J1.anew hrB hB
  exact ⟨μB,σ'',g1,g2,g3⟩
 refine CK.anyRel hm ZZ.za.pr (fun S σ w1=>((∀ b ∈ B,S b.ix=false)/\∃ s t σA h σ' μ1 μS,JS tb ex exY P l A σ0 h0 σm h2 μ w S σ w1 s t σA h σ' μ1 μS) \/
  ((∀ a ∈ A,S a.ix=true)/\∃ μm wm,Ext μ h0.fl.nat w μm wm/\h2.fl=h0.fl/\∃ s t σA h σ' μ1 μS,JS tb ex exY P l B σm h2 σf hf μm wm S σ w1 s t σA h σ' μ1 μS)) ?_ ?_ ?_
 ·exact .inl ⟨fun b _=>rfl,[],A,σ0,h0,σ,μ,μ,rfl,wAs _ _ _ _ _,hrA,fun b hb=>(by simp at hb),fun b _ hb=>(by cases hb),Ext.drew μ _ w,S.keep (Keep.drew w),rfl,hE,fun _ _=>rfl,Mu.Le.refl _,fun q c hq=>.inl hq,fun b _ hb=>(by cases hb)⟩
 ·rintro S1 i σ1 w1 hi hSi hpi hdc hlt hI
  obtain ⟨a,ha,rfl⟩:=ZZ.all i hi
  rw [ZZ.eq] at ha
  rcases nI.1 ha with ha | ha
  ·obtain ⟨o,AK⟩:=wCz (ZZ.za.ao a ha)
   refine ⟨o,AK.get,wHp AK,?_⟩
   rcases hI with ⟨hB,s,t,σA,h,σ',μ1,μS,J⟩ | ⟨hA,_⟩
   ·have hB':∀ b ∈ B,(fun k=>k == a.ix || S1 k) b.ix=false:=fun b hb=>by
     have:=(ZZ.cross b hb a ha).1
     simp [hB b hb,Ne.symm this]
    have hat:a ∈ t:=by
     have:=ha
     rw [J.e] at this
     rcases nI.1 this with h | h
     ·rw [J.inS a h] at hSi;cases hSi
     ·exact h
    cases hf:wCN a.kd with
    | true =>
     obtain ⟨r,r',et⟩:=nS hat
     rw [et] at J
     obtain ⟨σB,hB2,σ'',μB,J1⟩:=JS.catch ZZ.za r J fun b hb=>wEA hdc hpi (ZZ.za.anc (s ++ r) a r' (by rw [J.e,nX]) hf b (by simp [hb]))
     refine (J1.fixed HC HY' HE HY ZZ.za hf hSi hdc AK).mono ?_
     rintro v w' ⟨σC,hC,σ3,μC,μT,J2⟩
     exact .inl ⟨hB',_,_,_,_,_,_,_,J2⟩
    | false =>
     refine (J.freeOp HE HY ZZ.za HL.1 Hg hat hSi hf hpi hdc AK).mono ?_
     rintro v w' ⟨μT,J2⟩
     exact .inl ⟨hB',_,_,_,_,_,_,_,J2⟩
   ·rw [hA a ha] at hSi
    cases hSi
  ·obtain ⟨o,AK⟩:=wCz (ZZ.zb.ao a ha)
   refine ⟨o,AK.get,wHp AK,?_⟩
   have hA:∀ c ∈ A,S1 c.ix=true:=fun c hc=>wEA hdc hpi (ZZ.cross a ha c hc).2
   rcases hI with ⟨hB,s,t,σA,h,σ',μ1,μS,J⟩ | ⟨_,μm,wm,g1,g2,s,t,σA,h,σ',μ1,μS,J⟩
   ·obtain ⟨μm,σ2,g1,g2,J1⟩:=toB S1 σ1 w1 s t σA h σ' μ1 μS hA hB J
    refine (stepB S1 a σ1 w1 _ _ _ _ _ _ _ _ _ o ha hSi hpi hdc AK J1).mono ?_
    rintro v w' ⟨s,t,σA,h,σ',μ1,μS,J2⟩
    exact .inr ⟨fun c hc=>by simp [hA c hc],_,_,g1,g2,_,_,_,_,_,_,_,J2⟩
   ·refine (stepB S1 a σ1 w1 _ _ _ _ _ _ _ _ _ o ha hSi hpi hdc AK J).mono ?_
    rintro v w' ⟨s,t,σA,h,σ',μ1,μS,J2⟩
    exact .inr ⟨fun c hc=>by simp [hA c hc],_,_,g1,g2,_,_,_,_,_,_,_,J2⟩
 ·rintro S1 σ1 w1 hall hI
  have hI2:∃ μm wm,Ext μ h0.fl.nat w μm wm/\h2.fl=h0.fl/\∃ s t σA h σ' μ1 μS,JS tb ex exY P l B σm h2 σf hf μm wm S1 σ1 w1 s t σA h σ' μ1 μS:=by
   rcases hI with ⟨hB,s,t,σA,h,σ',μ1,μS,J⟩ | ⟨_,hI⟩
   ·obtain ⟨μm,σ2,g1,g2,J1⟩:=toB S1 σ1 w1 s t σA h σ' μ1 μS (fun a ha=>hall _ (lt a (by rw [ZZ.eq];simp [ha]))) hB J
    exact ⟨_,_,g1,g2,_,_,_,_,_,_,_,J1⟩
   ·exact hI
  obtain ⟨μm,wm,g1,g2,s,t,σA,h,σ',μ1,μS,J⟩:=hI2
  have J0:JS tb ex exY P l B σm h2 σf hf μm wm S1 σ1 w1 s (t ++ []) σA h σ' μ1 μS:=by rw [nt];exact J
  obtain ⟨σB,hB,σ'',μB,J1⟩:=JS.catch ZZ.zb t J0 fun b hb=>hall _ (lt b (by rw [ZZ.eq,J.e];simp [hb]))
  have hr1:=J1.hr
  rw [wAs] at hr1
  cases hr1
  refine hQ μB w1 σ1 (g1.trans (g2 ▸ J1.E)) J1.sim (fun q=>?_) (J1.fl.trans g2)
  rw [J1.ag q fun b hb=>by simp at hb]
  exact J1.env q
end
end Go.KX
namespace Go.KX
open Go.RowKit Go.KL
section
variable {P:Program} {tb:Tr AF}
theorem wNJ (hm:P.follows .mixedOrders=true) {ex exY:Run} (HC:wGJ (CC P) P tb ex) (HY:wFK (CC P) P exY) (FE:FrX ex) (FY:FrX exY) {os:List AO} {σA σA':Tr AV} {h h':AH} (hr:wAZ tb ex exY os σA h=some (σA',h')) {id N:Nat} {ops:Array Oper} {draw:Bool} (hc:chkR P N os ops.toList draw=true)
  {rr:Option Nat} {μ:Mu} {σ:Env} {w:World} {D:List Deferred} {n0:Nat} (S:Sim (CC P) P μ h w) (hE:EnvR μ σA σ) (M:Mk μ w n0 D):CK rr N P (.region id ops draw) (PostX P μ h.fl w n0 rr D .nrm σA' h') D σ w:=by
 unfold chkR at hc
 simp only [nA,nD] at hc
 obtain ⟨c1,c2⟩:=hc
 have hop:ops=ops.toList.toArray:=by simp
 have hcs:∀ a ∈ os,wHB P N ops.toList a=true/\kOf ((nj ops.toList.length).map fun i=>kdAt i os) a.ix=a.kd:=fun a ha=>⟨(c1 a ha).1,nB (c1 a ha).2⟩
 have post:∀ {w0:World},Ext μ h.fl.nat w μ w0->Sim (CC P) P μ h w0->OKS N P ops.toList (PostX P μ h.fl w n0 rr D .nrm σA' h') D ((nj ops.toList.length).map fun i=>kdAt i os) (wJC os) σ w0:=by
  intro w0 E0 S0
  refine wJD HC HY os σA h σA' h' hr hcs μ σ w0 S0 hE fun μ' w' σ' q1 q2 q3 q4=>?_
  have E:=E0.trans q1
  exact ⟨rfl,μ',E,q2,q3,M.ext E,q4,fun _=>rfl⟩
 rw [hop]
 cases draw with
 | true =>
  simp only at c2
  split at c2
  ·simp only [nA,nD,np] at c2
   exact CK.lazy hm HC HY FE FY (wMw (fun a ha=>(c1 a ha).1) c2.2) (wKb c2.1) hr S hE fun μ' w' σ' q1 q2 q3 q4=>⟨rfl,μ',q1,q2,q3,M.ext q1,q4,fun _=>rfl⟩
  ·exact CK.anyOrd hm _ _ c2 (post (Ext.drew μ _ w) (S.keep (Keep.drew w)))
 | false=>exact CK.reg _ c2 (post (Ext.refl μ _ w) S)
theorem wOX {ex:Run} (HC:wGJ (CC P) P tb ex) {g:AOd} {t:List Pos} {asg body:AC} {g':Operand} {ps:Array Tmp} {asg' body':Code} {N:Nat} (hc:wFe P N (.rf g t asg body) (.rangeFunc g' ps asg' body')=true)
  {σA σA':Tr AV} {h h':AH} {e:Ex} (hr:sRf true g t asg body tb ex σA h=some (e,σA',h')) {μ:Mu} {σ:Env} {w:World} {D:List Deferred} {n0:Nat} (S:Sim (CC P) P μ h w) (hE:EnvR μ σA σ) (M:Mk μ w n0 D) (hn:n0 <= w.heap.size) :
  CK none N P (.rangeFunc g' ps asg' body') (PostX P μ h.fl w n0 none D e σA' h') D σ w:=by
 simp only [wFe,nA] at hc
 obtain ⟨c1,c2,c3,c4⟩:=hc
 obtain ⟨p,rfl⟩:∃ p:List Nat,ps=p.toArray:=⟨ps.toList,by simp⟩
 ·obtain ⟨ht,c6⟩:=wKc (by simpa using c2)
  unfold sRf at hr
  split at hr
  ·rename_i f fi ca hg
   have hx:=wAG c1 hE
   rw [hg] at hx
   obtain ⟨fv,cv,g1,g2,g3⟩:=hx
   split at hr <;> first | (cases hr;done) | skip
   rename_i rv h2 hcall
   obtain ⟨hcf,hgv⟩:=HC _ _ _ _ _ hcall
   refine CK.rangeFunc (t:=p) g3 hcf fun fn l rb w1 e1 e2 hl hd K hs=>?_
   subst e1 e2
   have hle:=Mu.add_le (c:=(⟨w.heap.size + 1,0,⟨N,σ,p,asg',body',w.heap.size,fn⟩⟩:Cl)) (S.nx h.nx (nG _))
   obtain ⟨s1,s2,s3,s4⟩:=S.push (w':=w1) (c:=⟨w.heap.size + 1,0,⟨N,σ,p,asg',body',w.heap.size,fn⟩⟩) (B:=.loop σA t asg body .ready) K (Nat.le_succ _) (by show w.heap.size + 1 < _;omega) ⟨hl,hE.mono hle,ht,c6,c3,c4⟩
   generalize hμ1:μ.add h.nx (⟨w.heap.size + 1,0,⟨N,σ,p,asg',body',w.heap.size,fn⟩⟩:Cl)=μ1 at *
   have M1:Mk μ1 w1 n0 (mark w.heap.size :: D):=by
    have M':=M.ext s2
    obtain ⟨rbs,m1,m2,m3⟩:=M'
    have hold:∀ rb ∈ rbs,rb < w.heap.size:=by
     obtain ⟨rbs0,k1,k2,k3⟩:=M
     intro rb hrb
     have hmm:rbs.map mark=rbs0.map mark:=by rw [<- m1,<- k1]
     have hinj:rbs=rbs0:=by
      have:∀ (a b:List Nat),a.map mark=b.map mark->a=b:=by
       intro a
       induction a with
       | nil=>intro b hb;cases b with
        | nil=>rfl
        | cons _ _=>simp at hb
       | cons x a ih=>intro b hb;cases b with
        | nil=>simp at hb
        | cons y b =>
         simp only [nW,nU] at hb
         have hxy:x=y:=by have:=hb.1;simp [mark] at this;exact this
         rw [hxy,ih b hb.2]
      exact this _ _ hmm
     exact (k3 rb (hinj ▸ hrb)).1.lt
    refine ⟨w.heap.size :: rbs,by rw [nW,<- m1],kD.2 ⟨fun hm=>absurd (hold _ hm) (kW _),m2⟩,fun rb hrb=>?_⟩
    rcases nJ.1 hrb with rfl | hrb
    ·refine ⟨hd,hn,fun q c hq=>?_⟩
     rw [<- hμ1] at hq
     unfold Mu.add at hq
     split at hq
     ·cases hq;show w.heap.size + 1 ≠ _;omega
     ·have:=S.lt q c hq;omega
    ·exact m3 rb hrb
   have G:=hgv μ1 w1 (fv ++ (.func (.yield (w.heap.size + 1)) #[] #[] :: cv)) s1 (wDx (g1.mono s2.mono) (wBh ⟨_,s4,rfl⟩ (g2.mono s2.mono)))
   rw [nX]
   refine G.mono ?_
   rintro v3 w3 ⟨μ3,q1,q2,q3,q4⟩
   rw [s3] at q1 q4
   have E13:=s2.trans q1
   have hc3:=q1.mono _ _ s4
   have fin:∀ {B:AB} {h3:AH} (w4:World),h2.m.get h.nx=some B->wLF B->h2.put h.nx .dead=some h3->Keep w3 w4 (·=w.heap.size + 1)->w4.heap.size=w3.heap.size->∃ μ',Ext μ h.fl.nat w μ' w4/\Sim (CC P) P μ' h3 w4/\EnvR μ' σA σ/\Mk μ' w4 n0 (mark w.heap.size :: D)/\h3.fl=h.fl:=by
    intro B h3 w4 hB hlv hput K4 _
    obtain ⟨v1,v2,v3⟩:=q2.put hput hB hlv hc3 K4 (B':=.dead) trivial
    rw [q4] at v2 v3
    exact ⟨μ3,E13.trans v2,v1,hE.mono E13.mono,(M1.ext q1).ext v2,v3⟩
   split at hr
   ·rename_i sx tx ax bx hB
    split at hr <;> first | (cases hr;done) | skip
    rename_i h3 hput
    cases hr
    obtain ⟨c',u1,u2⟩:=q2.at_ _ _ hB
    rw [hc3] at u1;cases u1
    have L3:wLE (CC P) μ3 w3 ⟨w.heap.size + 1,0,⟨N,σ,p,asg',body',w.heap.size,fn⟩⟩ sx tx ax bx .ready:=u2
    refine .inl ⟨L3.at_,fun w4 K4 hs4=>?_⟩
    obtain ⟨μ',a1,a2,a3,a4,a5⟩:=fin w4 hB trivial hput K4 hs4
    exact ⟨rfl,μ',a1,a2,a3,a4,a5,fun hq=>by cases hq⟩
   ·rename_i sx tx ax bx ee hB
    split at hr <;> first | (cases hr;done) | skip
    rename_i h3 hput
    cases hr
    obtain ⟨c',u1,u2⟩:=q2.at_ _ _ hB
    rw [hc3] at u1;cases u1
    have L3:wLE (CC P) μ3 w3 ⟨w.heap.size + 1,0,⟨N,σ,p,asg',body',w.heap.size,fn⟩⟩ sx tx ax bx (.done e):=u2
    cases e with
    | nrm =>
     refine .inl ⟨L3.at_,fun w4 K4 hs4=>?_⟩
     obtain ⟨μ',a1,a2,a3,a4,a5⟩:=fin w4 hB trivial hput K4 hs4
     exact ⟨rfl,μ',a1,a2,a3,a4,a5,fun hq=>by cases hq⟩
    | ret =>
     refine .inr ⟨.ret,.inl rfl,L3.at_,fun w4 K4 hs4=>?_⟩
     obtain ⟨μ',a1,a2,a3,a4,a5⟩:=fin w4 hB trivial hput K4 hs4
     exact ⟨rfl,μ',a1,a2,a3,a4,a5,fun hq=>by cases hq⟩
    | exit i =>
     refine .inr ⟨.exit i,.inr ⟨i,rfl⟩,L3.at_,fun w4 K4 hs4=>?_⟩
     obtain ⟨μ',a1,a2,a3,a4,a5⟩:=fin w4 hB trivial hput K4 hs4
     exact ⟨rfl,μ',a1,a2,a3,a4,a5,fun hq=>by cases hq⟩
   ·cases hr
  ·cases hr
theorem CK.ofRounds {rr:Option Nat} {N:Nat} {c:Code} {Q:wDG} {D:List Deferred} {σ:Env} {w:World} (m:Nat) (hh:∀ a,Rep N D a σ->Code.roundsIn (WF rr) 0 P c (wHV N Q) m a w):CK rr N P (.loop c) Q D σ w :=
 fun a ha=>wpIn_loop_rounds m (hh a ha)
theorem wRx {exR:Run} {r:Bool} (HE:wJE P exR r) {a b:AC} {σA σA':Tr AV} {h h':AH} {e:Ex} (hr:wRT a b exR σA h=some (e,σA',h')) {c d:Code} {N:Nat} (hc1:wFe P N a c=true) (hc2:wFe P N b d=true)
  {rr:Option Nat} {μ:Mu} {σ:Env} {w:World} {D:List Deferred} {n0:Nat} (hrr:rr.isSome=r) (S:Sim (CC P) P μ h w) (hE:EnvR μ σA σ) (M:Mk μ w n0 D) (hn:n0 <= w.heap.size):CK rr N P (.seq c d) (PostX P μ h.fl w n0 rr D e σA' h') D σ w:=by
 obtain ⟨⟨e1,σ1,h1⟩,ha,hb⟩:=wQy hr
 rw [wJu] at hb
 refine CK.seq ((HE _ _ _ _ _ _ ha c N hc1 rr μ σ w D n0 hrr S hE M hn).mono ?_)
 intro D' e' σ' w' hp
 obtain ⟨rfl,μ1,q1,q2,q3,q4,q5,q6⟩:=hp
 cases e1 with
 | nrm =>
  refine (HE _ _ _ _ _ _ hb d N hc2 rr μ1 σ' w' D' n0 hrr q2 q3 q4 (kC hn q1.keep.size)).mono ?_
  intro D'' e'' σ'' w'' hp
  rw [q5] at hp
  exact PostX.trans q1 q6 hp
 | ret=>cases hb;exact ⟨rfl,μ1,q1,q2,q3,q4,q5,q6⟩
 | exit i=>cases hb;exact ⟨rfl,μ1,q1,q2,q3,q4,q5,q6⟩
theorem wQT {exR:Run} {r:Bool} {m:Nat} (HE:wJE P exR r) (HL:wMx P exR r m) {a:AC} {σA σA':Tr AV} {h h':AH} {e:Ex} (hr:wMN a exR σA h=some (e,σA',h')) {c:Code} {N:Nat} (hc:wFe P N a c=true)
  {rr:Option Nat} {μ:Mu} {σ:Env} {w:World} {D:List Deferred} {n0:Nat} (hrr:rr.isSome=r) (S:Sim (CC P) P μ h w) (hE:EnvR μ σA σ) (M:Mk μ w n0 D) (hn:n0 <= w.heap.size):∀ act,Rep N D act σ->Code.roundsIn (WF rr) 0 P c (wHV N (PostX P μ h.fl w n0 rr D e σA' h')) (m + 1) act w:=by
 obtain ⟨⟨e1,σ1,h1⟩,ha,hb⟩:=wQy hr
 rw [wJu] at hb
 intro act hact
 rw [roundsIn_succ]
 refine wpIn_mono (HE _ _ _ _ _ _ ha c N hc rr μ σ w D n0 hrr S hE M hn act hact) ?_
 rintro e' act' w' ⟨σ',D',hrep,hp⟩
 obtain ⟨rfl,μ1,q1,q2,q3,q4,q5,q6⟩:=hp
 cases e1 with
 | nrm =>
  refine wHE ?_ m act' w' (HL _ _ _ _ _ _ hb c N hc rr μ1 σ' w' D' n0 hrr q2 q3 q4 (kC hn q1.keep.size) act' hrep)
  rintro e'' act'' w'' ⟨σ'',D'',hrep',hp⟩
  rw [q5] at hp
  exact ⟨σ'',D'',hrep',PostX.trans q1 q6 hp⟩
 | ret=>cases hb;exact ⟨σ',D',hrep,rfl,μ1,q1,q2,q3,q4,q5,q6⟩
 | exit i=>cases hb;exact ⟨σ',D',hrep,rfl,μ1,q1,q2,q3,q4,q5,q6⟩
theorem wQU (hm:P.follows .mixedOrders=true) (T:wLM P tb):∀ (n:Nat) (r:Bool),wJE P (exec tb n r) r/\wMx P (exec tb n r) r n:=by
 intro n
 induction n with
 | zero=>intro r;exact ⟨fun c σA h e σA' h' hr=>(by cases hr),fun c σA h e σA' h' hr=>(by cases hr)⟩
 | succ n ih =>
  intro r
  have HC:=wMy T (ih false).1
  have HY:=wOU (P:=P) (ih true).1
  obtain ⟨HE,HL⟩:=ih r
  have loop:wMx P (exec tb (n + 1) r) r (n + 1):=by
   intro c σA h e σA' h' hr code N hc rr μ σ w D n0 hrr S hE M hn
   have hr:wMN c (exec tb n r) σA h=some (e,σA',h'):=hr
   exact wQT HE HL hr hc hrr S hE M hn
  refine ⟨?_,loop⟩
  intro c σA h e σA' h' hr code N hc rr μ σ w D n0 hrr S hE M hn
  rw [wIv] at hr
  cases c with
  | skip =>
   have hr:sNrm σA h=some (e,σA',h'):=hr
   cases hr
   have fin:PostX P μ h.fl w n0 rr D .nrm σA h D .normal σ w:=⟨rfl,μ,Ext.refl μ _ w,S,hE,M,rfl,fun _=>rfl⟩
   cases code <;> simp only [wFe,nH] at hc
   ·exact CK.skip fin
   ·exact CK.label fin
  | rg os =>
   have hr:sRg os tb (exec tb n false) (exec tb n true) (exec tb n r) σA h=some (e,σA',h'):=hr
   unfold sRg at hr
   have:∃ y,wAZ tb (exec tb n false) (exec tb n true) os σA h=some y/\some (Ex.nrm,y.1,y.2)=some (e,σA',h'):=by
    cases hq:wAZ tb (exec tb n false) (exec tb n true) os σA h with
    | none=>rw [hq] at hr;cases hr
    | some y=>rw [hq] at hr;exact ⟨y,rfl,hr⟩
   obtain ⟨y,h1,h2⟩:=this
   cases h2
   cases code <;> simp only [wFe,nH] at hc
   exact wNJ hm HC HY (wFM tb n false) (wFM tb n true) h1 hc S hE M
  | seq a b =>
   have hr:wRT a b (exec tb n r) σA h=some (e,σA',h'):=hr
   cases code <;> simp only [wFe,nH,nA] at hc
   exact wRx HE hr hc.1 hc.2 hrr S hE M hn
  | cond x a b =>
   have hr:wMM x a b (exec tb n r) σA h=some (e,σA',h'):=hr
   cases code <;> simp only [wFe,nH,nA] at hc
   have hx:=wAG hc.1 hE
   unfold wMM at hr
   split at hr
   ·rename_i hb;rw [hb] at hx
    exact CK.condT hx (HE _ _ _ _ _ _ hr _ N hc.2.1 rr μ σ w D n0 hrr S hE M hn)
   ·rename_i hb;rw [hb] at hx
    exact CK.condF hx (HE _ _ _ _ _ _ hr _ N hc.2.2 rr μ σ w D n0 hrr S hE M hn)
   ·cases hr
  | block i a =>
   have hr:wKQ i a (exec tb n r) σA h=some (e,σA',h'):=hr
   cases code <;> simp only [wFe,nH,nA] at hc
   rename_i j code
   have hij:=nB hc.1
   subst hij
   obtain ⟨⟨e1,σ1,h1⟩,ha,hb⟩:=wQy hr
   refine CK.block ((HE _ _ _ _ _ _ ha code N hc.2 rr μ σ w D n0 hrr S hE M hn).mono ?_)
   rintro D' e' σ' w' ⟨rfl,μ1,q1,q2,q3,q4,q5,q6⟩
   cases e1 with
   | nrm=>cases hb;exact ⟨rfl,μ1,q1,q2,q3,q4,q5,q6⟩
   | ret=>cases hb;exact ⟨rfl,μ1,q1,q2,q3,q4,q5,q6⟩
   | exit k =>
    have hb:Bool.rec (motive:=fun _=>R) (some (.exit k,σ1,h1)) (some (.nrm,σ1,h1)) (nM k i)=some (e,σA',h'):=hb
    cases hk:nM k i with
    | true =>
     rw [hk] at hb;cases hb
     have:=nB hk
     subst this
     exact wIA ⟨rfl,μ1,q1,q2,q3,q4,q5,q6⟩
    | false =>
     rw [hk] at hb;cases hb
     exact wOD ⟨rfl,μ1,q1,q2,q3,q4,q5,q6⟩ hk
  | loop a =>
   have hr':exec tb (n + 1) r (.loop a) σA h=some (e,σA',h'):=hr
   cases code <;> simp only [wFe,nH] at hc
   exact CK.ofRounds (n + 1) (loop _ _ _ _ _ _ hr' _ N hc rr μ σ w D n0 hrr S hE M hn)
  | rf g t asg body =>
   have hr:sRf (!r) g t asg body tb (exec tb n false) σA h=some (e,σA',h'):=hr
   cases r with
   | true=>unfold sRf at hr;simp at hr
   | false =>
    have hnone:rr=none:=by cases rr <;> first | rfl | cases hrr
    subst hnone
    cases code <;> first | (simp only [wFe,nH] at hc;done) | skip
    exact wOX HC hc hr S hE M hn
  | exit i =>
   have hr:some (Ex.exit i,σA,h)=some (e,σA',h'):=hr
   cases hr
   cases code <;> simp only [wFe,nH] at hc
   have:=nB hc
   subst this
   exact CK.exit ⟨rfl,μ,Ext.refl μ _ w,S,hE,M,rfl,fun _=>rfl⟩
  | scope a =>
   have hr:exec tb n r a σA h=some (e,σA',h'):=hr
   cases code <;> simp only [wFe,nH] at hc
   refine CK.scope ((HE _ _ _ _ _ _ hr _ N hc rr μ σ w D n0 hrr S hE M hn).mono ?_)
   rintro D' e' σ' w' ⟨rfl,q⟩
   cases e with
   | nrm=>exact ⟨rfl,q⟩
   | ret=>exact ⟨rfl,q⟩
   | exit k=>exact ⟨rfl,q⟩
  | ret =>
   have hr:some (Ex.ret,σA,h)=some (e,σA',h'):=hr
   cases hr
   cases code <;> simp only [wFe,nH] at hc
   exact CK.ret ⟨rfl,μ,Ext.refl μ _ w,S,hE,M,rfl,fun _=>rfl⟩
  | rl os =>
   have hr:sRl os tb (exec tb n false) (exec tb n true) σA h=some (e,σA',h'):=hr
   rw [wPA] at hr
   split at hr
   ·rename_i y hq
    cases hr
    obtain ⟨g1,g2⟩:=wJs _ _ _ _ hq
    cases code <;> simp only [wFe,nH,nA,nD] at hc
    rename_i id ops draw
    obtain ⟨rfl,c1,c2⟩:=hc
    have hop:ops=ops.toList.toArray:=by simp
    rw [hop]
    exact CK.lazy hm HC HY (wFM tb n false) (wFM tb n true) (wMw c1 c2) g2 g1 S hE fun μ' w' σ' q1 q2 q3 q4=>⟨rfl,μ',q1,q2,q3,M.ext q1,q4,fun _=>rfl⟩
   ·cases hr
theorem Sim.empty (C:Chk) (P:Program) (w:World):Sim C P (fun _=>none) ⟨.e,.H,.H⟩ w :=
 ⟨fun _ _=>rfl,fun _ _ h=>(by cases h),fun _ _ _ _ _ _ h=>(by rw [Tr.get_e] at h;cases h),fun _ _ h=>(by rw [Tr.get_e] at h;cases h)⟩
theorem wLP (hm:P.follows .mixedOrders=true) (T:wLM P tb) (n:Nat) (f:Pos) (args:List AV) (vs:List Value) (v:AV) (h:AH) (hv:∀ μ,RvL μ args vs) (hr:wIs tb (exec tb n false) f args ⟨.e,.H,.H⟩=some (v,h)) (w:World) :
  Gv P (f.nat - 1) vs w fun cv w'=>∃ μ,Rv μ v cv/\Keep w w' Non:=by
 obtain ⟨_,hg⟩:=wMy T (wQU hm T n false).1 f args _ v h hr
 refine (hg _ w vs (Sim.empty _ _ w) (hv _)).mono ?_
 rintro cv w' ⟨μ',h1,h2,h3,_⟩
 exact ⟨μ',h3,h1.keep.weak fun i _ ⟨p,d,hp,_⟩=>by cases hp⟩
noncomputable def okB (tb:Tr AF) (n:Nat) (f:Pos) (b:Bool):Bool:=match wIs tb (exec tb n false) f [] ⟨.e,.H,.H⟩ with
 | some (.bool b',_)=>b' == b
 | _=>false
theorem wOY (hm:P.follows .mixedOrders=true) (T:wLM P tb) (n:Nat) (f:Pos) (k:Nat) (hk:f.nat=k + 1) (b:Bool) (hr:okB tb n f b=true) (w:World):Gv P k [] w fun cv w'=>cv=.bool b/\Keep w w' Non:=by
 unfold okB at hr
 split at hr
 ·rename_i b' h hq
  have hb:=eq_of_beq hr
  subst hb
  have:=wLP hm T n f [] [] _ h (fun _=>rfl) hq w
  rw [hk] at this
  refine this.mono ?_
  rintro cv w' ⟨μ,h1,h2⟩
  exact ⟨h1,h2⟩
 ·cases hr
def wNK (f:Nat->AF->Prop):Tr AF->(Nat->Nat)->Prop
 | .e,_=>True
 | .n l v r,g=>(match v with | none=>True | some a=>f (g 1) a)/\wNK f l (fun n=>g (2 * n))/\wNK f r (fun n=>g (2 * n + 1))
theorem wHI {f:Nat->AF->Prop}:∀ {t:Tr AF} {g:Nat->Nat},wNK f t g->∀ p a,t.get p=some a->f (g p.nat) a
 | .e,g,_,p,a,hq=>by rw [Tr.get_e] at hq;cases hq
 | .n l v r,g,⟨h1,h2,h3⟩,.H,a,hq=>by
  rw [Tr.get_H] at hq;subst hq;exact h1
 | .n l v r,g,⟨h1,h2,h3⟩,.O p,a,hq=>wHI h2 p a hq
 | .n l v r,g,⟨h1,h2,h3⟩,.I p,a,hq=>wHI h3 p a hq
theorem wRy (h:wNK (fun n a=>chkF P (n - 1) a=true) tb fun n=>n):wLM P tb:=fun p af hq=>wHI h p af hq
end
end Go.KX
namespace Go.KL
variable {S S' B B' α:Type}
theorem wKh {body:Nat->S->Option (S ⊕ B)} (I:Nat->S->Prop) (Z:B->Prop):∀ (m k:Nat) (s:S),I k s ->
  (∀ i s,k <= i->i < k + m->I i s->(∃ s',body i s=some (.inl s')/\I (i + 1) s') \/ ∃ b,body i s=some (.inr b)/\Z b) ->
  (∃ s',forN body m k s=some (.inl s')/\I (k + m) s') \/ ∃ b,forN body m k s=some (.inr b)/\Z b
 | 0,k,s,h,_=>.inl ⟨s,rfl,h⟩
 | m + 1,k,s,h,hb=>by
  simp only [forN]
  rcases hb k s (nG _) (by omega) h with ⟨s',h1,h2⟩ | ⟨b,h1,h2⟩
  ·rw [h1]
   have:=wKh I Z m (k + 1) s' h2 fun i s h2 h3 h4=>hb i s (by omega) (by omega) h4
   rwa [show k + 1 + m=k + (m + 1) from by omega] at this
  ·rw [h1];exact .inr ⟨b,rfl,h2⟩
theorem wHN {body:Nat->S->Option S} (I:Nat->S->Prop):∀ (m k:Nat) (s:S),I k s ->
  (∀ i s,k <= i->i < k + m->I i s->∃ s',body i s=some s'/\I (i + 1) s')->∃ s',forN' body m k s=some s'/\I (k + m) s'
 | 0,k,s,h,_=>⟨s,rfl,h⟩
 | m + 1,k,s,h,hb=>by
  simp only [forN']
  obtain ⟨s',h1,h2⟩:=hb k s (nG _) (by omega) h
  rw [h1]
  have:=wHN I m (k + 1) s' h2 fun i s h2 h3 h4=>hb i s (by omega) (by omega) h4
  rwa [show k + 1 + m=k + (m + 1) from by omega] at this
theorem wEd {body:Nat->S->Option (S ⊕ B)} {n:Nat} {s:S} (hn:n <= 9223372036854775807):wDu 0 (n:Int) body s=forN body n 0 s:=by
 unfold wDu
 rw [if_pos (by omega),show ((n:Int) - 0).toNat=n from by omega]
theorem wFv {body:Nat->S->Option S} {n:Nat} {s:S} (hn:n <= 9223372036854775807):wEk 0 (n:Int) body s=forN' body n 0 s:=by
 unfold wEk
 rw [if_pos (by omega),show ((n:Int) - 0).toNat=n from by omega]
def first (p:α->Bool):List α->Nat->Int
 | [],_=>-1
 | a :: l,k=>if p a then (k:Int) else first p l (k + 1)
theorem wEe (p:α->Bool):∀ (l:List α) (k:Nat),decide (0 <= first p l k)=l.any p
 | [],k=>by simp [first]
 | a :: l,k=>by
  rw [first,kK]
  by_cases h:p a
  ·simp [h]
  ·simp [h,wEe p l (k + 1)]
theorem wEi {R:Type} {l:List α} {f:α->Option Bool} {p:α->Bool} (hf:∀ a ∈ l,f a=some (p a)) (hn:l.length <= 9223372036854775807) (z:Int->R) :
  (jn (wDu 0 (↑l.length:Int) (fun k2 (_:Unit)=>(idx l (↑k2:Int)).bind fun x=>(f x).bind fun y=>if y=true then esc (some (z (↑k2:Int))) else some (.inl ())) ()) fun _=>some (z (-1)))=some (z (first p l 0)):=by
 rw [wEd hn]
 have key:∀ (m k:Nat),k + m=l.length->(jn (forN (fun k2 (_:Unit)=>(idx l (↑k2:Int)).bind fun x=>(f x).bind fun y=>if y=true then esc (some (z (↑k2:Int))) else some (.inl ())) m k ()) fun _=>some (z (-1)))=some (z (first p (l.drop k) k)):=by
  intro m
  induction m with
  | zero=>intro k hk;rw [nk (by omega)];rfl
  | succ m ih =>
   intro k hk
   have hlt:k < l.length:=by omega
   rw [nh hlt,first,forN,wID,nc hlt]
   simp only [hH,hf _ (List.getElem_mem hlt)]
   by_cases h:p l[k]=true
   ·simp [h]
   ·simp only [h,if_false,nH]
    exact ih (k + 1) (by omega)
 exact key l.length 0 (by omega)
theorem wLR [DecidableEq α] {l m:List α} (hn:l.length <= 9223372036854775807) :
  (if (↑l.length:Int)=(↑m.length:Int) then jn (wDu 0 (↑l.length:Int) (fun k4 (_:Unit)=>(idx l (↑k4:Int)).bind fun x26=>(idx m (↑k4:Int)).bind fun x34=>if x26=x34 then some (.inl ()) else esc (some false)) ()) fun _=>some true else some false)=some (decide (l=m)):=by
 by_cases hl:l.length=m.length
 ·rw [if_pos (by omega),wEd hn]
  have key:∀ (n k:Nat),k + n=l.length->(jn (forN (fun k4 (_:Unit)=>(idx l (↑k4:Int)).bind fun x26=>(idx m (↑k4:Int)).bind fun x34=>if x26=x34 then some (.inl ()) else esc (some false)) n k ()) fun _=>some true)=some (decide (l.drop k=m.drop k)):=by
   intro n
   induction n with
   | zero=>intro k hk;rw [nk (by omega),nk (by omega)];simp [forN]
   | succ n ih =>
    intro k hk
    have h1:k < l.length:=by omega
    have h2:k < m.length:=by omega
    rw [nh h1,nh h2,forN,wID,wID,nc h1,nc h2]
    simp only [hH]
    by_cases h:l[k]=m[k]
    ·rw [if_pos h]
     simp only
     rw [ih (k + 1) (by omega)]
     congr 1
     exact decide_eq_decide.2 ⟨fun e=>by rw [e,h],fun e=>(kg e).2⟩
    ·rw [if_neg h]
     have:¬ l[k] :: l.drop (k + 1)=m[k] :: m.drop (k + 1):=fun e=>h (kg e).1
     simp only [wOF,wJR,this,decide_false]
  have:=key l.length 0 (by omega)
  simpa using this
 ·rw [if_neg (by omega)]
  have:l ≠ m:=fun e=>hl (by rw [e])
  simp [this]
theorem wHO {bytes:Nat} {l m:List α} (h:(l.length + m.length) * bytes <= 140737488355328):app bytes l m=some (l ++ m):=if_pos h
end Go.KL
namespace Go.KL
variable {S B R α β:Type}
theorem wKi {body:Nat->S->Option (S ⊕ B)} (s:Nat->S):∀ (m k:Nat),(∀ i,k <= i->i < k + m->body i (s i)=some (.inl (s (i + 1))))->forN body m k (s k)=some (.inl (s (k + m)))
 | 0,_,_=>rfl
 | m + 1,k,h=>by
  rw [forN,h k (nG _) (by omega)]
  have:=wKi s m (k + 1) fun i h1 h2=>h i (by omega) (by omega)
  rw [show k + 1 + m=k + (m + 1) by omega] at this
  exact this
theorem wJF {body:Nat->S->Option S} (s:Nat->S):∀ (m k:Nat),(∀ i,k <= i->i < k + m->body i (s i)=some (s (i + 1)))->forN' body m k (s k)=some (s (k + m))
 | 0,_,_=>rfl
 | m + 1,k,h=>by
  rw [forN',h k (nG _) (by omega)]
  have:=wJF s m (k + 1) fun i h1 h2=>h i (by omega) (by omega)
  rw [show k + 1 + m=k + (m + 1) by omega] at this
  exact this
theorem wDU {body:Nat->S->Option S} {n:Nat} {s0:S} (s:Nat->S) (h0:s 0=s0) (hn:n <= 9223372036854775807) (h:∀ i,i < n->body i (s i)=some (s (i + 1))):wEk 0 (n:Int) body s0=some (s n):=by
 rw [wFv hn,<- h0]
 have:=wJF s n 0 fun i _ hi=>h i (by omega)
 rwa [nw] at this
theorem wOc {body:Nat->S->Option (S ⊕ B)} {n:Nat} {s0:S} (s:Nat->S) (h0:s 0=s0) (hn:n <= 9223372036854775807) (h:∀ i,i < n->body i (s i)=some (.inl (s (i + 1)))):wDu 0 (n:Int) body s0=some (.inl (s n)):=by
 rw [wEd hn,<- h0]
 have:=wKi s n 0 fun i _ hi=>h i (by omega)
 rwa [nw] at this
theorem wNM {body:Nat->Unit->Option (Unit ⊕ B)} {n:Nat} (hn:n <= 9223372036854775807) (h:∀ i,i < n->body i ()=some (.inl ())):wDu 0 (n:Int) body ()=some (.inl ()):=wOc (fun _=>()) rfl hn h
theorem wAo [Inhabited α] {l:List α} {k:Nat} (h:k < l.length):idx l (k:Int)=some (gd l k):=by
 rw [wID]
 exact wEO h
theorem wCp [Inhabited α] {l:List α} {k:Nat} (h:k < l.length):gd l k ∈ l:=List.mem_of_getElem? (wEO h)
theorem wFP [Inhabited α] {l:List α} {k:Nat} (h:k < l.length):l.take (k + 1)=l.take k ++ [gd l k]:=by
 rw [List.take_add_one,wEO h]
 rfl
theorem wQW [Inhabited α] {l:List α} {k:Nat} (h:k < l.length):l.drop k=gd l k :: l.drop (k + 1):=by
 have:=wEO h
 rw [nc h] at this
 rw [nh h,nL this]
theorem wKA [Inhabited α] [Inhabited β] (f:α->β) {l:List α} {k:Nat} (h:k < l.length):gd (l.map f) k=f (gd l k):=by
 have h1:=wEO (xs:=l.map f) (k:=k) (by simpa using h)
 rw [List.getElem?_map,wEO h] at h1
 exact (nL h1).symm
end Go.KL
namespace Go.KL
def wBW (f:Nat->Int):Nat->Int
 | 0=>0
 | k + 1=>wBW f k + f k
theorem wBb {f g:Nat->Int}:∀ n,(∀ i,i < n->f i=g i)->wBW f n=wBW g n
 | 0,_=>rfl
 | n + 1,h=>by rw [wBW,wBW,wBb n fun i hi=>h i (by omega),h n (by omega)]
theorem wHP {f g:Nat->Int}:∀ n,(∀ i,i < n->f i <= g i)->wBW f n <= wBW g n
 | 0,_=>ny _
 | n + 1,h=>by
  have a:=wHP n fun i hi=>h i (by omega)
  have b:=h n (by omega)
  rw [wBW,wBW];omega
theorem wCq {f:Nat->Int}:∀ n,(∀ i,i < n->f i=0)->wBW f n=0
 | 0,_=>rfl
 | n + 1,h=>by rw [wBW,wCq n fun i hi=>h i (by omega),h n (by omega)];rfl
theorem wNN {f:Nat->Int} (n:Nat) (h:∀ i,i < n->0 <= f i):0 <= wBW f n:=by
 have:=wHP (f:=fun _=>0) n h
 rwa [wCq n fun _ _=>rfl] at this
theorem wHQ {f:Nat->Int}:∀ {n:Nat},(∀ i,i < n->0 <= f i)->∀ {k:Nat},k < n->f k <= wBW f n
 | 0,_,k,hk=>by omega
 | n + 1,h,k,hk=>by
  have a:=wNN n fun i hi=>h i (by omega)
  have b:=h n (by omega)
  rw [wBW]
  by_cases e:k=n
  ·rw [e];omega
  ·have:=wHQ (fun i hi=>h i (by omega)) (show k < n by omega);omega
theorem wED {f g:Nat->Int}:∀ n,wBW (fun i=>f i + g i) n=wBW f n + wBW g n
 | 0=>rfl
 | n + 1=>by rw [wBW,wBW,wBW,wED n];omega
theorem wHR {f:Nat->Nat->Int} {m:Nat}:∀ n,wBW (fun i=>wBW (f i) m) n=wBW (fun j=>wBW (fun i=>f i j) n) m
 | 0=>by
  show (0:Int)=_
  exact (wCq m fun _ _=>rfl).symm
 | n + 1=>by
  rw [wBW,wHR n,<- wED]
  rfl
theorem wFi {k:Nat} {v:Int}:∀ {n:Nat},k < n->wBW (fun i=>if i=k then v else 0) n=v
 | 0,h=>by omega
 | n + 1,h=>by
  rw [wBW]
  by_cases e:k=n
  ·subst e
   rw [if_pos rfl,wCq k fun i hi=>if_neg (by omega)]
   omega
  ·rw [if_neg (by omega),wFi (by omega)]
   omega
theorem wIZ {f g:Nat->Int} {k n:Nat} (hk:k < n) (h:∀ i,i < n->i ≠ k->g i=f i):wBW g n=wBW f n + (g k - f k):=by
 have:wBW g n=wBW (fun i=>f i + if i=k then g k - f k else 0) n:=wBb n fun i hi=>by
  by_cases e:i=k
  ·subst e;rw [if_pos rfl];omega
  ·rw [if_neg e,h i hi e];omega
 rw [this,wED,wFi hk]
theorem wNO {p:Bool} {f:Nat->Int} {n:Nat}:wBW (fun i=>if p=true then f i else 0) n=if p=true then wBW f n else 0:=by
 cases p
 ·simp only [nH,if_false];exact wCq n fun _ _=>rfl
 ·simp only [if_true]
structure Asg (n:Nat) (can:Nat->Nat->Bool) (sh dn:Nat->Int) (x:Nat->Nat->Int):Prop where
 nn:∀ s l,s < n->l < n->0 <= x s l
 pos:∀ s l,s < n->l < n->0 < x s l->can s l=true
 row:∀ s,s < n->wBW (x s) n <= sh s
 col:∀ l,l < n->wBW (fun s=>x s l) n=dn l
def adj (n:Nat) (can:Nat->Nat->Bool) (L:Nat->Bool) (s:Nat):Bool:=(nj n).any fun l=>L l && can s l
theorem wFw {n:Nat} {can:Nat->Nat->Bool} {L:Nat->Bool} {s:Nat}:adj n can L s=true ↔ ∃ l,l < n/\L l=true/\can s l=true:=by
 unfold adj
 rw [nz]
 constructor
 ·rintro ⟨l,h1,h2⟩
  rw [nA] at h2
  exact ⟨l,nl.1 h1,h2⟩
 ·rintro ⟨l,h1,h2,h3⟩
  exact ⟨l,nl.2 h1,by rw [h2,h3];rfl⟩
def dnL (n:Nat) (dn:Nat->Int) (L:Nat->Bool):Int:=wBW (fun l=>if L l=true then dn l else 0) n
def shL (n:Nat) (can:Nat->Nat->Bool) (sh:Nat->Int) (L:Nat->Bool):Int:=wBW (fun s=>if adj n can L s=true then sh s else 0) n
theorem Asg.hall {n:Nat} {can:Nat->Nat->Bool} {sh dn:Nat->Int} {x:Nat->Nat->Int} (h:Asg n can sh dn x) (L:Nat->Bool):dnL n dn L <= shL n can sh L:=by
 have e:dnL n dn L=wBW (fun s=>wBW (fun l=>if L l=true then x s l else 0) n) n:=by
  unfold dnL
  rw [wHR]
  refine wBb n fun l hl=>?_
  rw [wNO,h.col l hl]
 rw [e]
 refine wHP n fun s hs=>?_
 by_cases a:adj n can L s=true
 ·rw [if_pos a]
  refine Int.le_trans (wHP n fun l hl=>?_) (h.row s hs)
  by_cases b:L l=true
  ·rw [if_pos b];exact ny _
  ·rw [if_neg b];exact h.nn s l hs hl
 ·rw [if_neg a,wCq n fun l hl=>?_]
  ·exact ny _
  ·by_cases b:L l=true
   ·rw [if_pos b]
    have h0:=h.nn s l hs hl
    have h1:¬ 0 < x s l:=fun q=>a (wFw.2 ⟨l,hl,b,h.pos s l hs hl q⟩)
    omega
   ·rw [if_neg b]
theorem wCM {α:Type} [Inhabited α] {n:Nat} (a:Arr α n) {i j:Nat} (hi:i < n) (v:α):(a.set i v).get j=if j=i then v else a.get j:=by
 unfold Arr.set Arr.get
 simp only [nE]
 by_cases e:j=i
 ·rw [if_pos e,e,List.getElem?_set_self (by rw [a.h];exact hi)]
  rfl
 ·rw [if_neg e,List.getElem?_set_ne (Ne.symm e)]
theorem wEj {S B:Type} {body:Nat->S->Option (S ⊕ B)} {n:Nat} {s0:S} (I:Nat->S->Prop) (Z:B->Prop) (hn:n <= 1000) (h0:I 0 s0) (h:∀ i s,i < n->I i s->(∃ s',body i s=some (.inl s')/\I (i + 1) s') \/ ∃ b,body i s=some (.inr b)/\Z b):(∃ s,wDu 0 (n:Int) body s0=some (.inl s)/\I n s) \/ ∃ b,wDu 0 (n:Int) body s0=some (.inr b)/\Z b:=by
 rw [wEd (by omega)]
 have:=wKh (body:=body) I Z n 0 s0 h0 fun i s _ h2 h3=>h i s (by omega) h3
 rwa [nw] at this
end Go.KL
namespace Go.Proofs.YtfcmijinklojbaaGreat
open Go.KL
structure Fl (n:Nat) (can:Nat->Nat->Bool) (sh c:Nat->Int) (h:Arr Int 64) (u:Arr Int 8):Prop where
 nn:∀ s l,s < n->l < n->0 <= h.get (s * 8 + l)
 pos:∀ s l,s < n->l < n->0 < h.get (s * 8 + l)->can s l=true
 row:∀ s,s < n->wBW (fun l=>h.get (s * 8 + l)) n=u.get s
 cap:∀ s,s < n->u.get s <= sh s
 col:∀ l,l < n->wBW (fun s=>h.get (s * 8 + l)) n=c l
def one (l:Nat) (i:Nat):Int:=if i=l then 1 else 0
structure Ext (n:Nat) (m m':Arr Bool 16):Prop where
 s:∀ s,s < n->m.get s=true->m'.get s=true
 l:∀ l,l < n->m.get (8 + l)=true->m'.get (8 + l)=true
theorem Ext.rfl {n:Nat} {m:Arr Bool 16}:Ext n m m:=⟨fun _ _ h=>h,fun _ _ h=>h⟩
theorem Ext.trans {n:Nat} {a b c:Arr Bool 16} (h:Ext n a b) (k:Ext n b c):Ext n a c:=⟨fun s hs q=>k.s s hs (h.s s hs q),fun l hl q=>k.l l hl (h.l l hl q)⟩
structure Clo (n:Nat) (can:Nat->Nat->Bool) (sh:Nat->Int) (h:Arr Int 64) (u:Arr Int 8) (p:Nat->Prop) (m m':Arr Bool 16) (lane:Nat):Prop where
 ext:Ext n m m'
 lanes:∀ l,l < n->m'.get (8 + l)=true->m.get (8 + l)=false->l ≠ lane->∀ s,s < n->can s l=true->m'.get s=true
 skiers:∀ s,p s->s < n->m'.get s=true->m.get s=false->sh s <= u.get s/\(∀ l,l < n->0 < h.get (s * 8 + l)->m'.get (8 + l)=true)/\∃ l,l < n/\can s l=true/\m'.get (8 + l)=true
 me:m'.get (8 + lane)=true
def unm (m:Arr Bool 16):Nat->Nat
 | 0=>0
 | k + 1=>unm m k + if m.get k=true then 0 else 1
theorem wNP {n:Nat} {m m':Arr Bool 16} (h:∀ s,s < n->m.get s=true->m'.get s=true):∀ k,k <= n->unm m' k <= unm m k
 | 0,_=>nG _
 | k + 1,hk=>by
  have a:=wNP h k (by omega)
  rw [unm,unm]
  by_cases e:m.get k=true
  ·rw [if_pos e,if_pos (h k (by omega) e)];omega
  ·rw [if_neg e];split <;> omega
theorem wNQ {m:Arr Bool 16} {s:Nat} (h16:s < 16) (hs:m.get s=false):∀ k,s < k->unm (m.set s true) k + 1=unm m k
 | 0,h=>by omega
 | k + 1,h=>by
  rw [unm,unm]
  by_cases e:s=k
  ·subst e
   have:unm (m.set s true) s=unm m s:=by
    have key:∀ j,j <= s->unm (m.set s true) j=unm m j:=by
     intro j
     induction j with
     | zero=>intro _;rfl
     | succ j ih=>intro hj;rw [unm,unm,ih (by omega),wCM _ h16,if_neg (show ¬ j=s by omega)]
    exact key s (nG _)
   rw [this,wCM _ h16,if_pos rfl,hs]
   rfl
  ·have:=wNQ h16 hs k (by omega)
   rw [wCM _ h16,if_neg (show ¬ k=s by omega)]
   omega
structure Desk (n:Nat) (can:Nat->Nat->Bool) (sh:Nat->Int) (b:wAB) (may:List (wAC × Bool)):Prop where
 n8:n <= 8
 ns:b.Shots.length=n
 nd:b.Down.length=n
 sh:∀ s,s < n->gd b.Shots s=sh s/\sh s <= 1000
 can:∀ s l,s < n->l < n->wEP may ⟨(s:Int),(l:Int)⟩ false=can s l
section
variable {n:Nat} {can:Nat->Nat->Bool} {sh:Nat->Int} {b:wAB} {may:List (wAC × Bool)}
theorem Desk.can_is (K:Desk n can sh b may) {s l:Nat} (hs:s < n) (hl:l < n) (h:Arr Int 64) (u:Arr Int 8) (m:Arr Bool 16):wAj ⟨b,may,h,u,m⟩ (s:Int) (l:Int)=some (can s l):=by
 unfold wAj
 exact congrArg some (K.can s l hs hl)
theorem Fl.bd {c:Nat->Int} {h:Arr Int 64} {u:Arr Int 8} (K:Desk n can sh b may) (F:Fl n can sh c h u) {s l:Nat} (hs:s < n) (hl:l < n):0 <= h.get (s * 8 + l)/\h.get (s * 8 + l) <= u.get s/\u.get s <= 1000:=by
 have h0:=F.nn s l hs hl
 have h1:=wHQ (f:=fun l=>h.get (s * 8 + l)) (fun i hi=>F.nn s i hs hi) hl
 have h2:=F.cap s hs
 have h3:=(K.sh s hs).2
 rw [F.row s hs] at h1
 omega
theorem Fl.more {c:Nat->Int} {h:Arr Int 64} {u:Arr Int 8} (n8:n <= 8) (F:Fl n can sh c h u) {k lane:Nat} (hk:k < n) (hl:lane < n) (hc:can k lane=true) (hu:u.get k < sh k) :
  Fl n can sh (fun l=>c l + one lane l) (h.set (k * 8 + lane) (h.get (k * 8 + lane) + 1)) (u.set k (u.get k + 1)):=by
 have g:∀ s l,s < n->l < n->(h.set (k * 8 + lane) (h.get (k * 8 + lane) + 1)).get (s * 8 + l)=if s=k/\l=lane then h.get (k * 8 + lane) + 1 else h.get (s * 8 + l):=fun s l hs hl'=>by
  rw [wCM _ (by omega)]
  by_cases e:s=k/\l=lane
  ·rw [if_pos e,if_pos (by rw [e.1,e.2])]
  ·rw [if_neg e,if_neg (by omega)]
 have n0:=F.nn k lane hk hl
 refine ⟨fun s l hs hl'=>?_,fun s l hs hl'=>?_,fun s hs=>?_,fun s hs=>?_,fun l hl'=>?_⟩
 ·rw [g s l hs hl']
  split
  ·omega
  ·exact F.nn s l hs hl'
 ·rw [g s l hs hl']
  split
  ·rename_i e;intro _;rw [e.1,e.2];exact hc
  ·exact F.pos s l hs hl'
 ·rw [wCM _ (by omega)]
  by_cases e:s=k
  ·subst e
   rw [if_pos rfl,<- F.row s hs,wIZ (f:=fun l=>h.get (s * 8 + l)) hl fun i hi hne=>by rw [g s i hs hi,if_neg fun q=>hne q.2],g s lane hs hl,if_pos ⟨rfl,rfl⟩]
   omega
  ·rw [if_neg e,<- F.row s hs]
   exact wBb n fun i hi=>by rw [g s i hs hi,if_neg fun q=>e q.1]
 ·rw [wCM _ (by omega)]
  by_cases e:s=k
  ·rw [if_pos e,e];omega
  ·rw [if_neg e];exact F.cap s hs
 ·unfold one
  by_cases e:l=lane
  ·subst e
   rw [if_pos rfl,<- F.col l hl',wIZ (f:=fun s=>h.get (s * 8 + l)) hk fun i hi hne=>by rw [g i l hi hl',if_neg fun q=>hne q.1],g k l hk hl',if_pos ⟨rfl,rfl⟩]
   omega
  ·rw [if_neg e,<- F.col l hl',kM]
   exact wBb n fun i hi=>by rw [g i l hi hl',if_neg fun q=>e q.2]
theorem Fl.turn {c:Nat->Int} {h:Arr Int 64} {u:Arr Int 8} (n8:n <= 8) {k j lane:Nat} (F:Fl n can sh (fun l=>c l + one j l) h u) (hk:k < n) (hj:j < n) (hl:lane < n) (hc:can k lane=true) (hne:j ≠ lane) (hp:0 < h.get (k * 8 + j)) :
  Fl n can sh (fun l=>c l + one lane l) ((h.set (k * 8 + j) (h.get (k * 8 + j) - 1)).set (k * 8 + lane) ((h.set (k * 8 + j) (h.get (k * 8 + j) - 1)).get (k * 8 + lane) + 1)) u:=by
 have g:∀ s l,s < n->l < n->((h.set (k * 8 + j) (h.get (k * 8 + j) - 1)).set (k * 8 + lane) ((h.set (k * 8 + j) (h.get (k * 8 + j) - 1)).get (k * 8 + lane) + 1)).get (s * 8 + l)=h.get (s * 8 + l) + if s=k then one lane l - one j l else 0:=fun s l hs hl'=>by
  unfold one
  rw [wCM _ (by omega),wCM _ (by omega),wCM _ (by omega),if_neg (show ¬ k * 8 + lane=k * 8 + j by omega)]
  by_cases e:s=k
  ·subst e
   rw [if_pos rfl]
   by_cases e1:l=lane
   ·subst e1;rw [if_pos rfl,if_pos rfl,if_neg (by omega)];omega
   ·rw [if_neg (by omega),if_neg e1]
    by_cases e2:l=j
    ·subst e2;rw [if_pos rfl,if_pos rfl];omega
    ·rw [if_neg (by omega),if_neg e2];omega
  ·rw [if_neg (by omega),if_neg (by omega),if_neg e];omega
 have n0:=F.nn k lane hk hl
 have o1:∀ a:Nat,a < n->wBW (fun l=>one a l) n=1:=fun a ha=>wFi ha
 refine ⟨fun s l hs hl'=>?_,fun s l hs hl'=>?_,fun s hs=>?_,F.cap,fun l hl'=>?_⟩
 ·rw [g s l hs hl']
  have:=F.nn s l hs hl'
  unfold one
  split
  ·rename_i e;subst e
   split <;> split <;> first | omega | (rename_i e1 e2;subst e2;omega)
  ·omega
 ·rw [g s l hs hl']
  intro q
  by_cases e:s=k/\l=lane
  ·rw [e.1,e.2];exact hc
  ·refine F.pos s l hs hl' ?_
   unfold one at q
   split at q
   ·rename_i e2
    rw [if_neg fun e3=>e ⟨e2,e3⟩] at q
    split at q <;> omega
   ·omega
 ·rw [<- F.row s hs,wBb n fun i hi=>g s i hs hi]
  by_cases e:s=k
  ·simp only [if_pos e]
   rw [wED,show (fun l=>one lane l - one j l)=fun l=>one lane l + (-1) * one j l from funext fun l=>by omega,wED,o1 lane hl]
   have:wBW (fun l=>(-1) * one j l) n=-1:=by
    unfold one
    rw [show (fun l=>(-1:Int) * if l=j then 1 else 0)=fun l=>if l=j then (-1:Int) else 0 from funext fun l=>by split <;> rfl]
    exact wFi hj
   omega
  ·simp only [if_neg e,kM]
 ·have:=F.col l hl'
  rw [wBb n fun i hi=>g i l hi hl',wED,this]
  have:wBW (fun s=>if s=k then one lane l - one j l else 0) n=one lane l - one j l:=wFi hk
  omega
end
end Go.Proofs.YtfcmijinklojbaaGreat
namespace Go.Proofs.YtfcmijinklojbaaGreat
open Go.KL
section
variable {n:Nat} {can:Nat->Nat->Bool} {sh:Nat->Int} {b:wAB} {may:List (wAC × Bool)}
abbrev HUM:=Arr Int 64 × Arr Int 8 × Arr Bool 16
def Out (n:Nat) (can:Nat->Nat->Bool) (sh c:Nat->Int) (h:Arr Int 64) (u:Arr Int 8) (m:Arr Bool 16) (lane:Nat) (ok:Bool) (h':Arr Int 64) (u':Arr Int 8) (m':Arr Bool 16):Prop :=
 (ok=true/\Fl n can sh (fun l=>c l + one lane l) h' u'/\∀ s,s < n->m.get s=true->∀ l,l < n->h'.get (s * 8 + l)=h.get (s * 8 + l)) \/
 (ok=false/\h'=h/\u'=u/\Clo n can sh h u (fun _=>True) m m' lane/\∀ s,s < n->can s lane=true->m'.get s=true)
theorem wOd {S E:Type} (K:Desk n can sh b may) (f:S->Int->Option (S ⊕ E)) (s0:S) (h:Arr Int 64) (u:Arr Int 8) (m:Arr Bool 16) {k:Nat} (hk:k < n) (I:Nat->S->Prop) (Z:E->Prop) (h0:I 0 s0)
  (hs:∀ j s,j < n->I j s->(can k j=false->I (j + 1) s)/\(can k j=true->(∃ s',f s (j:Int)=some (.inl s')/\I (j + 1) s') \/ ∃ e,f s (j:Int)=some (.inr e)/\Z e)) :
  (∃ s',wAr f s0 ⟨b,may,h,u,m⟩ () (k:Int)=some (.inl s')/\I n s') \/ ∃ e,wAr f s0 ⟨b,may,h,u,m⟩ () (k:Int)=some (.inr e)/\Z e:=by
 unfold wAr
 have n8:=K.n8
 simp only [K.nd]
 rcases wEj (S:=S) (B:=S ⊕ E) (n:=n) (s0:=s0) (body:=fun (k19:Nat) (s17:S) =>
  (wAj ⟨b,may,h,u,m⟩ (k:Int) (↑k19:Int)).bind fun x55 =>
  if x55=true then
   (f s17 (↑k19:Int)).bind fun yr64 =>
   match yr64 with
   | .inl s74 =>
    some (.inl s74)
   | .inr s74 =>
    esc (some (.inr s74))
  else
   some (.inl s17)) I (fun x=>∃ e,x=.inr e/\Z e) (by omega) h0 (fun j s hj hI=>by
  rw [K.can_is hk hj,hH]
  have q:=hs j s hj hI
  by_cases e:can k j=true
  ·rw [if_pos e]
   rcases q.2 e with ⟨s',e1,e2⟩ | ⟨x,e1,e2⟩
   ·exact .inl ⟨s',by rw [e1];rfl,e2⟩
   ·exact .inr ⟨.inr x,by rw [e1];rfl,x,rfl,e2⟩
  ·rw [if_neg e]
   exact .inl ⟨s,rfl,q.1 (by simpa using e)⟩) with ⟨s',e1,e2⟩ | ⟨x,e1,e,rfl,hz⟩
 ·exact .inl ⟨s',by erw [e1];rfl,e2⟩
 ·exact .inr ⟨e,by erw [e1];rfl,hz⟩
theorem orT {p:Prop} [Decidable p] {x:Bool} (h:x=true):(if p then true else x)=true:=by
 split
 ·rfl
 ·exact h
theorem wQX (K:Desk n can sh b may):∀ (f:Nat) (lane:Nat) (h:Arr Int 64) (u:Arr Int 8) (m:Arr Bool 16) (c:Nat->Int),unm m n < f->lane < n->Fl n can sh c h u ->
    ∃ ok h' u' m',wAS f (lane:Int) ⟨b,may,h,u,m⟩ ()=some (ok,h',u',m')/\Out n can sh c h u m lane ok h' u' m':=by
  have n8:=K.n8
  intro f
  induction f with
  | zero=>intro lane h u m c hu;omega
  | succ f ih =>
    intro lane h u m c hu hl F
    show ∃ ok h' u' m',wBT (wAS f) (lane:Int) ⟨b,may,h,u,m⟩ ()=_/\_
    unfold wBT
    rw [wGf (by omega) (by omega),hH]
    simp only [K.ns,Int.toNat_natCast]
    have m1s:∀ s,s < n->(m.set (8 + lane) true).get s=m.get s:=fun s hs=>by rw [wCM _ (by omega),if_neg (by omega)]
    have m1n:∀ l,l < n->l ≠ lane->(m.set (8 + lane) true).get (8 + l)=m.get (8 + l):=fun l hl' hne=>by rw [wCM _ (by omega),if_neg (by omega)]
    have m1m:(m.set (8 + lane) true).get (8 + lane)=true:=by rw [wCM _ (by omega),if_pos rfl]
    have m1l:∀ l,l < n->m.get (8 + l)=true->(m.set (8 + lane) true).get (8 + l)=true:=fun l _ q=>by rw [wCM _ (by omega)];exact orT q
    rcases wEj (S:=HUM) (B:=Bool × HUM) (n:=n) (s0:=(h,u,m.set (8 + lane) true)) (body:=fun (k39:Nat) ((a36,a37,a38):HUM) =>
    (chk (↑k39:Int) 8).bind fun _ =>
    if (a38.get k39)=true then
      some (.inl (a36,a37,a38))
    else
      (wAj (⟨b,may,a36,a37,a38⟩:wAF) (↑k39:Int) (lane:Int)).bind fun x84 =>
      if x84=true then
        (idx b.Shots (↑k39:Int)).bind fun x107 =>
        if (a37.get k39) < x107 then
          esc (some (true,((a36.set (k39 * 8 + lane) (w64 ((a36.get (k39 * 8 + lane)) + 1))),(a37.set k39 (w64 ((a37.get k39) + 1))),(a38.set k39 true))))
        else
          (wBw () (↑k39:Int)).bind fun _ =>
          (wAr (S:=(Arr Int 64) × (Arr Int 8) × (Arr Bool 16)) (E:=(Arr Int 64) × (Arr Int 8) × (Arr Bool 16) × Bool) (fun (a303,a304,a305) x332 =>
            if x332=(lane:Int) then
              some (.inl (a303,a304,a305))
            else
              (chk x332 8).bind fun _ =>
              if 0 < (a303.get (k39 * 8 + x332.toNat)) then
                (wAS f x332 (⟨b,may,a303,a304,a305⟩:wAF) ()).bind fun (x383,x384) =>
                if x383=true then
                  some (.inr (((x384.1.set (k39 * 8 + x332.toNat) (w64 ((x384.1.get (k39 * 8 + x332.toNat)) - 1))).set (k39 * 8 + lane) (w64 (((x384.1.set (k39 * 8 + x332.toNat) (w64 ((x384.1.get (k39 * 8 + x332.toNat)) - 1))).get (k39 * 8 + lane)) + 1))),x384.2.1,x384.2.2,true))
                else
                  some (.inl (x384.1,x384.2.1,x384.2.2))
              else
                some (.inl (a303,a304,a305))) (a36,a37,(a38.set k39 true)) (⟨b,may,a36,a37,(a38.set k39 true)⟩:wAF) () (↑k39:Int)).bind fun rr321 =>
          match rr321 with
          | .inl (y439,y440,y441) =>
            some (.inl (y439,y440,y441))
          | .inr (y442,y443,y444,y445) =>
            esc (some (y445,(y442,y443,y444)))
      else
        some (.inl (a36,a37,a38)))
      (fun k st=>st.1=h/\st.2.1=u/\Clo n can sh h u (fun _=>True) m st.2.2 lane/\∀ s,s < k->can s lane=true->st.2.2.get s=true)
      (fun r=>Out n can sh c h u m lane r.1 r.2.1 r.2.2.1 r.2.2.2) (by omega) ⟨rfl,rfl,⟨⟨fun s hs q=>(m1s s hs).trans q,fun l hl' q=>m1l l hl' q⟩,fun l hl' q1 q2 hne=>(by have q3:=(m1n l hl' hne).symm.trans q1;rw [q2] at q3;cases q3),fun s _ hs q1 q2=>(by have q3:=(m1s s hs).symm.trans q1;rw [q2] at q3;cases q3),m1m⟩,fun s hs=>absurd hs (Nat.not_lt_zero s)⟩
      (by
      rintro k ⟨h',u',mk⟩ hk ⟨rfl,rfl,J1,J2⟩
      simp only at J1 J2 ⊢
      rw [wGf (by omega) (by omega),hH]
      by_cases c1:mk.get k=true
      · rw [if_pos c1]
        refine .inl ⟨_,rfl,rfl,rfl,J1,fun s hs q=>?_⟩
        by_cases e:s=k
        · rw [e];exact c1
        · exact J2 s (by omega) q
      rw [if_neg c1,K.can_is hk hl,hH]
      by_cases c2:can k lane=true
      case neg =>
        rw [if_neg c2]
        refine .inl ⟨_,rfl,rfl,rfl,J1,fun s hs q=>?_⟩
        by_cases e:s=k
        · rw [e] at q;exact absurd q c2
        · exact J2 s (by omega) q
      rw [if_pos c2,wAo (by rw [K.ns];exact hk),hH,(K.sh k hk).1]
      have bd:=F.bd K hk hl
      simp only at bd
      have hmk:mk.get k=false:=by simpa using c1
      have hm0:m.get k=false:=by
        cases e:m.get k with
        | false=>rfl
        | true=>rw [J1.ext.s k hk e] at hmk;cases hmk
      by_cases c3:u'.get k < sh k
      · rw [if_pos c3,wAO (by omega) (by omega),wAO (by omega) (by omega)]
        refine .inr ⟨_,rfl,.inl ⟨rfl,F.more n8 hk hl c2 c3,fun s hs q l hl'=>?_⟩⟩
        simp only
        rw [wCM _ (by omega),if_neg]
        intro e
        have:s=k:=by omega
        rw [this,hm0] at q
        cases q
      rw [if_neg c3]
      unfold wBw
      rw [hH]
      have hset:∀ s,s < n->(mk.set k true).get s=if s=k then true else mk.get s:=fun s hs=>wCM _ (by omega) _
      have hsetl:∀ l,l < n->(mk.set k true).get (8 + l)=mk.get (8 + l):=fun l hl'=>by rw [wCM _ (by omega),if_neg (by omega)]
      have hX1:Ext n mk (mk.set k true):=⟨fun s hs q=>by rw [hset s hs];exact orT q,fun l hl' q=>by rw [hsetl l hl'];exact q⟩
      rcases wOd (S:=HUM) (E:=(Arr Int 64) × (Arr Int 8) × (Arr Bool 16) × Bool) K (fun ((a303,a304,a305):HUM) x332 =>
            if x332=(lane:Int) then
              some (.inl (a303,a304,a305))
            else
              (chk x332 8).bind fun _ =>
              if 0 < (a303.get (k * 8 + x332.toNat)) then
                (wAS f x332 (⟨b,may,a303,a304,a305⟩:wAF) ()).bind fun (x383,x384) =>
                if x383=true then
                  some (.inr (((x384.1.set (k * 8 + x332.toNat) (w64 ((x384.1.get (k * 8 + x332.toNat)) - 1))).set (k * 8 + lane) (w64 (((x384.1.set (k * 8 + x332.toNat) (w64 ((x384.1.get (k * 8 + x332.toNat)) - 1))).get (k * 8 + lane)) + 1))),x384.2.1,x384.2.2,true))
                else
                  some (.inl (x384.1,x384.2.1,x384.2.2))
              else
                some (.inl (a303,a304,a305))) (h',u',mk.set k true) h' u' (mk.set k true) hk
        (fun j st=>st.1=h'/\st.2.1=u'/\Ext n (mk.set k true) st.2.2/\Clo n can sh h' u' (fun s=>s ≠ k) m st.2.2 lane/\∀ l,l < j->0 < h'.get (k * 8 + l)->st.2.2.get (8 + l)=true)
        (fun e=>Out n can sh c h' u' m lane e.2.2.2 e.1 e.2.1 e.2.2.1) ⟨rfl,rfl,Ext.rfl,⟨J1.ext.trans hX1,fun l hl' q1 q2 hne s hs q=>hX1.s s hs (J1.lanes l hl' (by rw [<- hsetl l hl'];exact q1) q2 hne s hs q),fun s hne hs q1 q2=>by
            rw [hset s hs,if_neg hne] at q1
            obtain ⟨g1,g2,l,g3,g4,g5⟩:=J1.skiers s trivial hs q1 q2
            exact ⟨g1,fun l hl' q=>by rw [hsetl l hl'];exact g2 l hl' q,l,g3,g4,by rw [hsetl l g3];exact g5⟩,hX1.l lane hl J1.me⟩,fun l hl'=>by omega⟩
        (by
        rintro j ⟨h2,u2,mj⟩ hj ⟨rfl,rfl,X1,Cj,Lj⟩
        simp only at X1 Cj Lj
        constructor
        · intro q
          refine ⟨rfl,rfl,X1,Cj,fun l hl' p=>?_⟩
          by_cases e:l=j
          · subst e;rw [F.pos k l hk hj p] at q;cases q
          · exact Lj l (by omega) p
        intro q
        simp only
        by_cases c4:(j:Int)=lane
        · rw [if_pos c4]
          refine .inl ⟨_,rfl,rfl,rfl,X1,Cj,fun l hl' p=>?_⟩
          by_cases e:l=j
          · rw [e,show j=lane by omega];exact Cj.me
          · exact Lj l (by omega) p
        rw [if_neg c4,wGf (by omega) (by omega),hH,Int.toNat_natCast]
        by_cases c5:0 < h2.get (k * 8 + j)
        case neg =>
          rw [if_neg c5]
          refine .inl ⟨_,rfl,rfl,rfl,X1,Cj,fun l hl' p=>?_⟩
          by_cases e:l=j
          · rw [e] at p;exact absurd p c5
          · exact Lj l (by omega) p
        rw [if_pos c5]
        have hun:unm mj n < f:=by
          have a1:=wNP X1.s n (nG _)
          have a2:=wNQ (show k < 16 by omega) hmk n hk
          have a3:=wNP J1.ext.s n (nG _)
          omega
        obtain ⟨ok,h3,u3,m3,e3,o3⟩:=ih j h2 u2 mj c hun hj F
        rw [e3,hH]
        simp only
        rcases o3 with ⟨rfl,F3,R3⟩ | ⟨rfl,rfl,rfl,C3,A3⟩
        · rw [if_pos rfl]
          have kj:mj.get k=true:=X1.s k hk (by rw [hset k hk,if_pos rfl])
          have r1:h3.get (k * 8 + j)=h2.get (k * 8 + j):=R3 k hk kj j hj
          have b3:=F3.bd K hk hj
          have b4:=F3.bd K hk hl
          have T:=F3.turn n8 hk hj hl c2 (show j ≠ lane by omega) (by rw [r1];exact c5)
          have w1:w64 (h3.get (k * 8 + j) - 1)=h3.get (k * 8 + j) - 1:=wAO (by omega) (by omega)
          rw [w1]
          have g2:(h3.set (k * 8 + j) (h3.get (k * 8 + j) - 1)).get (k * 8 + lane)=h3.get (k * 8 + lane):=by rw [wCM _ (by omega),if_neg (by omega)]
          have w2:w64 ((h3.set (k * 8 + j) (h3.get (k * 8 + j) - 1)).get (k * 8 + lane) + 1)=(h3.set (k * 8 + j) (h3.get (k * 8 + j) - 1)).get (k * 8 + lane) + 1:=by rw [g2];exact wAO (by omega) (by omega)
          rw [w2]
          refine .inr ⟨_,rfl,.inl ⟨rfl,T,fun s hs p l hl'=>?_⟩⟩
          have hne:s ≠ k:=fun e=>by rw [e,hm0] at p;cases p
          simp only
          rw [wCM _ (by omega),if_neg (by omega),wCM _ (by omega),if_neg (by omega)]
          exact R3 s hs (Cj.ext.s s hs p) l hl'
        · rw [if_neg (by decide)]
          refine .inl ⟨_,rfl,rfl,rfl,X1.trans C3.ext,⟨Cj.ext.trans C3.ext,fun l hl' q1 q2 hne s hs p=>?_,fun s hne hs q1 q2=>?_,C3.ext.l lane hl Cj.me⟩,fun l hl' p=>?_⟩
          · cases e:mj.get (8 + l) with
            | true=>exact C3.ext.s s hs (Cj.lanes l hl' e q2 hne s hs p)
            | false =>
              by_cases e2:l=j
              · subst e2;exact A3 s hs p
              · exact C3.lanes l hl' q1 e e2 s hs p
          · cases e:mj.get s with
            | true =>
              obtain ⟨g1,g2,l,g3,g4,g5⟩:=Cj.skiers s hne hs e q2
              exact ⟨g1,fun l hl' p=>C3.ext.l l hl' (g2 l hl' p),l,g3,g4,C3.ext.l l g3 g5⟩
            | false=>exact C3.skiers s trivial hs q1 e
          · by_cases e:l=j
            · rw [e];exact C3.me
            · exact C3.ext.l l (by omega) (Lj l (by omega) p)) with ⟨⟨h2,u2,m2⟩,e2,I1,I2,I3,I4,I5⟩ | ⟨⟨h2,u2,m2,ok⟩,e2,hz⟩
      · simp only at I1 I2
        subst I1 I2
        erw [e2]
        rw [hH]
        refine .inl ⟨_,rfl,rfl,rfl,⟨I4.ext,I4.lanes,fun s _ hs q1 q2=>?_,I4.me⟩,fun s hs p=>?_⟩
        · by_cases e:s=k
          · subst e
            exact ⟨by omega,I5,lane,hl,c2,I4.me⟩
          · exact I4.skiers s e hs q1 q2
        · by_cases e:s=k
          · rw [e];exact I3.s k hk (by rw [hset k hk,if_pos rfl])
          · exact I3.s s (by omega) (hX1.s s (by omega) (J2 s (by omega) p))
      · erw [e2]
        rw [hH]
        exact .inr ⟨_,rfl,hz⟩) with ⟨⟨h',u',m'⟩,e,rfl,rfl,J1,J2⟩ | ⟨⟨ok,h',u',m'⟩,e,hz⟩
    · erw [e]
      exact ⟨false,_,_,_,rfl,.inr ⟨rfl,rfl,rfl,J1,J2⟩⟩
    · erw [e]
      exact ⟨ok,_,_,_,rfl,hz⟩
end
end Go.Proofs.YtfcmijinklojbaaGreat
namespace Go.Proofs.YtfcmijinklojbaaGreat
open Go.KL
section
variable {n:Nat} {can:Nat->Nat->Bool} {sh:Nat->Int} {b:wAB} {may:List (wAC × Bool)}
theorem wFj {α:Type} [Inhabited α] {n:Nat} {x:α} {i:Nat} (h:i < n):(Arr.fill n x).get i=x:=by
 unfold Arr.fill Arr.get
 simp [nE,List.getElem?_replicate,h]
theorem wOe {c dn:Nat->Int} {h:Arr Int 64} {u:Arr Int 8} {m:Arr Bool 16} {lane:Nat} (F:Fl n can sh c h u) (n8:n <= 8) (hl:lane < n) (C:Clo n can sh h u (fun _=>True) (Arr.fill 16 false) m lane) (A:∀ s,s < n->can s lane=true->m.get s=true)
  (hc:∀ l,l < n->c l <= dn l) (hlt:c lane < dn lane):shL n can sh (fun l=>m.get (8 + l)) < dnL n dn (fun l=>m.get (8 + l)):=by
 have ad:∀ s,s < n->(adj n can (fun l=>m.get (8 + l)) s=true ↔ m.get s=true):=fun s hs=>by
  rw [wFw]
  constructor
  ·rintro ⟨l,h1,h2,h3⟩
   by_cases e:l=lane
   ·rw [e] at h3;exact A s hs h3
   ·exact C.lanes l h1 h2 (wFj (by omega)) e s hs h3
  ·intro q
   obtain ⟨_,_,l,h1,h2,h3⟩:=C.skiers s trivial hs q (wFj (by omega))
   exact ⟨l,h1,h3,h2⟩
 have e1:wBW (fun l=>if m.get (8 + l)=true then c l else 0) n=wBW (fun s=>wBW (fun l=>if m.get (8 + l)=true then h.get (s * 8 + l) else 0) n) n:=by
  rw [wHR]
  refine wBb n fun l hl=>?_
  rw [wNO,F.col l hl]
 have e2:shL n can sh (fun l=>m.get (8 + l)) <= wBW (fun l=>if m.get (8 + l)=true then c l else 0) n:=by
  rw [e1]
  refine wHP n fun s hs=>?_
  by_cases q:m.get s=true
  ·rw [if_pos ((ad s hs).2 q)]
   obtain ⟨g1,g2,_⟩:=C.skiers s trivial hs q (wFj (by omega))
   refine Int.le_trans g1 (Int.le_of_eq ?_)
   rw [<- F.row s hs]
   refine wBb n fun l hl'=>?_
   by_cases p:m.get (8 + l)=true
   ·rw [if_pos p]
   ·rw [if_neg p]
    have:=F.nn s l hs hl'
    have:¬ 0 < h.get (s * 8 + l):=fun r=>p (g2 l hl' r)
    omega
  ·rw [if_neg fun r=>q ((ad s hs).1 r)]
   refine wNN n fun l hl'=>?_
   split
   ·exact F.nn s l hs hl'
   ·exact ny _
 have e3:dnL n dn (fun l=>m.get (8 + l))=wBW (fun l=>if m.get (8 + l)=true then c l else 0) n + wBW (fun l=>if m.get (8 + l)=true then dn l - c l else 0) n:=by
  unfold dnL
  rw [<- wED]
  refine wBb n fun l _=>?_
  split <;> omega
 have e4:=wHQ (f:=fun l=>if m.get (8 + l)=true then dn l - c l else 0) (fun l hl'=>by
  split
  ·have:=hc l hl';omega
  ·exact ny _) hl
 simp only [if_pos C.me] at e4
 omega
def wFQ (m:Arr Bool 16) (n:Nat):List Int:=((nj n).filter fun l=>m.get (8 + l)).map fun l:Nat=>(l:Int)
theorem wNR (K:Desk n can sh b may) (h:Arr Int 64) (u:Arr Int 8) (m:Arr Bool 16):wAx ⟨b,may,h,u,m⟩=some (wFQ m n):=by
 have n8:=K.n8
 unfold wAx
 simp only [K.nd]
 rw [wDU (S:=List Int) (n:=n) (fun k=>wFQ m k) (s0:=[]) rfl (by omega) fun k hk=>?_]
 ·rfl
 ·rw [wGf (by omega) (by omega),hH]
  have ml:(wFQ m k).length <= k:=by
   unfold wFQ
   rw [nu]
   exact kC (List.length_filter_le _ _) (by simp)
  have st:wFQ m (k + 1)=wFQ m k ++ if m.get (8 + k)=true then [(k:Int)] else []:=by
   unfold wFQ
   rw [List.range_succ,List.filter_append,kR]
   by_cases e:m.get (8 + k)=true
   ·rw [if_pos e,show [k].filter (fun l=>m.get (8 + l))=[k] by simp [e]];rfl
   ·rw [if_neg e,show [k].filter (fun l=>m.get (8 + l))=[] by simp [e]];rfl
  rw [st]
  by_cases e:m.get (8 + k)=true
  ·rw [if_pos e,if_pos e,wHO (by simp only [List.length_cons,nv];omega),hH]
  ·rw [if_neg e,if_neg e,nt]
def Sol (n:Nat) (can:Nat->Nat->Bool) (sh dn:Nat->Int) (r:List Int × HUM):Prop :=
 (r.1=[]/\Fl n can sh dn r.2.1 r.2.2.1) \/ (r.1 ≠ []/\r.1=wFQ r.2.2.2 n/\shL n can sh (fun l=>r.2.2.2.get (8 + l)) < dnL n dn (fun l=>r.2.2.2.get (8 + l)))
theorem wOf {dn:Nat->Int} (K:Desk n can sh b may) (hd:∀ l,l < n->gd b.Down l=dn l/\0 <= dn l/\dn l <= 1000) {h:Arr Int 64} {u:Arr Int 8} (m:Arr Bool 16) (F:Fl n can sh (fun _=>0) h u) :
  ∃ r,wBJ ⟨b,may,h,u,m⟩=some r/\Sol n can sh dn r:=by
 have n8:=K.n8
 unfold wBJ
 simp only [K.nd]
 rcases wEj (S:=HUM) (B:=List Int × HUM) (n:=n) (s0:=(h,u,m)) (body:=fun (k39:Nat) ((a36,a37,a38):HUM) =>
  (idx b.Down (↑k39:Int)).bind fun x60 =>
  jn (wDu 0 x60 (fun (k84:Nat) ((a81,a82,a83):HUM) =>
   (wAS 1000 (↑k39:Int) (⟨b,may,a81,a82,(Arr.fill 16 false)⟩:wAF) ()).bind fun (x125,x126) =>
   if x125=true then
    some (.inl (x126.1,x126.2.1,x126.2.2))
   else
    (wAx (⟨b,may,x126.1,x126.2.1,x126.2.2⟩:wAF)).bind fun x146 =>
    esc (esc ((wMR x146).bind fun x165 =>
    some (x146,(x126.1,x126.2.1,x126.2.2))))) (a36,a37,a38)) fun (y175,y176,y177) =>
  some (.inl (y175,y176,y177)))
  (fun k st=>Fl n can sh (fun l=>if l < k then dn l else 0) st.1 st.2.1) (Sol n can sh dn) (by omega)
  (by
   have:(fun l=>if l < 0 then dn l else 0)=fun _=>(0:Int):=funext fun l=>if_neg (by omega)
   rw [this];exact F)
  (by
   rintro k ⟨h1,u1,m1⟩ hk J
   simp only at J ⊢
   obtain ⟨d1,d2,d3⟩:=hd k hk
   rw [wAo (by rw [K.nd];exact hk),hH,d1]
   obtain ⟨q,hq⟩:∃ q:Nat,dn k=q:=⟨(dn k).toNat,by omega⟩
   rw [hq]
   rcases wEj (S:=HUM) (B:=HUM ⊕ (List Int × HUM)) (n:=q) (s0:=(h1,u1,m1)) (body:=fun (k84:Nat) ((a81,a82,a83):HUM) =>
   (wAS 1000 (↑k:Int) (⟨b,may,a81,a82,(Arr.fill 16 false)⟩:wAF) ()).bind fun (x125,x126) =>
   if x125=true then
    some (.inl (x126.1,x126.2.1,x126.2.2))
   else
    (wAx (⟨b,may,x126.1,x126.2.1,x126.2.2⟩:wAF)).bind fun x146 =>
    esc (esc ((wMR x146).bind fun x165 =>
    some (x146,(x126.1,x126.2.1,x126.2.2)))))
    (fun r st=>Fl n can sh (fun l=>if l < k then dn l else if l=k then (r:Int) else 0) st.1 st.2.1) (fun x=>∃ r,x=.inr r/\Sol n can sh dn r) (by omega)
    (by
     have:(fun l=>if l < k then dn l else if l=k then ((0:Nat):Int) else 0)=fun l=>if l < k then dn l else 0:=funext fun l=>by
      by_cases e:l < k
      ·rw [if_pos e,if_pos e]
      ·rw [if_neg e,if_neg e];split <;> rfl
     rw [this];exact J)
    (by
     rintro r ⟨h2,u2,m2⟩ hr J2
     simp only at J2 ⊢
     have hun:unm (Arr.fill 16 false) n < 1000:=by
      have:∀ j,unm (Arr.fill 16 false) j <= j:=by
       intro j
       induction j with
       | zero=>exact nG _
       | succ j ih=>rw [unm];split <;> omega
      have:=this n
      omega
     obtain ⟨ok,h3,u3,m3,e3,o3⟩:=wQX K 1000 k h2 u2 (Arr.fill 16 false) _ hun hk J2
     rw [e3,hH]
     simp only
     rcases o3 with ⟨rfl,F3,_⟩ | ⟨rfl,rfl,rfl,C3,A3⟩
     ·rw [if_pos rfl]
      refine .inl ⟨_,rfl,?_⟩
      have:(fun l=>(if l < k then dn l else if l=k then (r:Int) else 0) + one k l)=fun l=>if l < k then dn l else if l=k then ((r + 1:Nat):Int) else 0:=funext fun l=>by
       unfold one
       split
       ·rw [if_neg (by omega)];omega
       ·split <;> omega
      rw [<- this]
      exact F3
     ·rw [if_neg (by decide),wNR K,hH]
      have sh1:=wOe (dn:=dn) J2 n8 hk C3 A3 (fun l hl=>by
       split
       ·omega
       ·split
        ·rename_i e;rw [e];omega
        ·exact (hd l hl).2.1) (by rw [if_neg (by omega),if_pos rfl];omega)
      have ne:wFQ m3 n ≠ []:=fun e=>by
       have:(k:Int) ∈ wFQ m3 n:=by
        unfold wFQ
        exact kO.2 ⟨k,kE.2 ⟨nl.2 hk,C3.me⟩,rfl⟩
       rw [e] at this
       cases this
      rw [wLD ne,hH]
      exact .inr ⟨_,rfl,_,rfl,.inr ⟨ne,rfl,sh1⟩⟩) with ⟨⟨h2,u2,m2⟩,e,J2⟩ | ⟨x,e,r,rfl,hz⟩
   ·erw [e]
    refine .inl ⟨_,rfl,?_⟩
    have:(fun l=>if l < k then dn l else if l=k then (q:Int) else 0)=fun l=>if l < k + 1 then dn l else 0:=funext fun l=>by
     by_cases e1:l < k
     ·rw [if_pos e1,if_pos (by omega)]
     ·rw [if_neg e1]
      by_cases e2:l=k
      ·rw [if_pos e2,if_pos (by omega),e2,hq]
      ·rw [if_neg e2,if_neg (by omega)]
    rw [<- this]
    exact J2
   ·erw [e]
    exact .inr ⟨_,rfl,hz⟩) with ⟨⟨h',u',m'⟩,e,J⟩ | ⟨r,e,hz⟩
 ·erw [e]
  refine ⟨_,rfl,.inl ⟨rfl,?_⟩⟩
  simp only at J
  exact ⟨J.nn,J.pos,J.row,J.cap,fun l hl=>by have:=J.col l hl;rw [if_pos hl] at this;exact this⟩
 ·erw [e]
  exact ⟨r,rfl,hz⟩
theorem Fl.asg {dn:Nat->Int} {h:Arr Int 64} {u:Arr Int 8} (F:Fl n can sh dn h u):Asg n can sh dn (fun s l=>h.get (s * 8 + l)) :=
 ⟨F.nn,F.pos,fun s hs=>by have:=F.row s hs;have:=F.cap s hs;omega,F.col⟩
def Can (n:Nat) (can:Nat->Nat->Bool) (sh dn:Nat->Int):Prop:=∃ x,Asg n can sh dn x
theorem Sol.none_iff {dn:Nat->Int} {r:List Int × HUM} (S:Sol n can sh dn r):r.1=[] ↔ Can n can sh dn:=by
 rcases S with ⟨e,F⟩ | ⟨e,_,lt⟩
 ·exact ⟨fun _=>⟨_,F.asg⟩,fun _=>e⟩
 ·refine ⟨fun q=>absurd q e,fun ⟨x,hx⟩=>?_⟩
  have:=hx.hall (fun l=>r.2.2.2.get (8 + l))
  omega
end
end Go.Proofs.YtfcmijinklojbaaGreat
namespace Go.KL
variable {S B α:Type}
theorem wNS {body:S->Option (S ⊕ B)} (F:Nat):∀ (m:Nat) (s:Nat->S),(∀ i,i < m->body (s i)=some (.inl (s (i + 1))))->iter body (m + F) (s 0)=iter body F (s m)
 | 0,s,_=>by rw [nw]
 | m + 1,s,h=>by
  rw [show m + 1 + F=(m + F) + 1 by omega,iter,h 0 (by omega)]
  exact wNS F m (fun i=>s (i + 1)) fun i hi=>h (i + 1) (by omega)
theorem wEE {body:S->Option (S ⊕ B)} {m:Nat} (s:Nat->S) (h:∀ i,i < m->body (s i)=some (.inl (s (i + 1)))) {b:B} (hb:body (s m)=some (.inr b)) {s0:S} (h0:s 0=s0) (hm:m < 1000000):iter body big s0=some b:=by
 subst h0
 have:=wNS (big - m - 1 + 1) m s h
 rw [show m + (big - m - 1 + 1)=big by unfold big;omega] at this
 rw [this,iter,hb]
theorem wOg {body:S->Option (S ⊕ B)} (I:Nat->S->Prop) (Z:B->Prop) (m:Nat) (step:∀ i s,i <= m->I i s->(i < m/\∃ s',body s=some (.inl s')/\I (i + 1) s') \/ ∃ b,body s=some (.inr b)/\Z b) {s0:S} (h0:I 0 s0) (hm:m < 1000000):∃ b,iter body big s0=some b/\Z b:=by
 have key:∀ (d i:Nat) (s:S),i + d=m->I i s->∀ F,d < F->∃ b,iter body F s=some b/\Z b:=by
  intro d
  induction d with
  | zero =>
   intro i s hi hI F hF
   obtain ⟨F,rfl⟩:∃ G,F=G + 1:=⟨F - 1,by omega⟩
   rcases step i s (by omega) hI with ⟨h,_⟩ | ⟨b,h1,h2⟩
   ·omega
   ·exact ⟨b,by rw [iter,h1],h2⟩
  | succ d ih =>
   intro i s hi hI F hF
   obtain ⟨F,rfl⟩:∃ G,F=G + 1:=⟨F - 1,by omega⟩
   rcases step i s (by omega) hI with ⟨_,s',h1,h2⟩ | ⟨b,h1,h2⟩
   ·obtain ⟨b,h3,h4⟩:=ih (i + 1) s' (by omega) h2 F (by omega)
    exact ⟨b,by rw [iter,h1];exact h3,h4⟩
   ·exact ⟨b,by rw [iter,h1],h2⟩
 exact key m 0 s0 (by omega) h0 big (by unfold big;omega)
theorem wKB {body:S->Option (S ⊕ B)} (I:Nat->S->Prop) {b:B} (m:Nat) {s0:S} (h0:I 0 s0) (hm:m < 1000000) (step:∀ i s,i <= m->I i s->(i < m/\∃ s',body s=some (.inl s')/\I (i + 1) s') \/ body s=some (.inr b)):iter body big s0=some b:=by
 obtain ⟨c,h1,h2⟩:=wOg (body:=body) I (fun c=>c=b) m (fun i s hi hI=>by
  rcases step i s hi hI with h | h
  ·exact .inl h
  ·exact .inr ⟨b,h,rfl⟩) h0 hm
 rw [h1,h2]
theorem wPN [Inhabited α] {l:List α} {i k:Nat} {x:α} (hi:i < l.length) (hk:k < l.length):gd (l.set i x) k=if k=i then x else gd l k:=by
 have h1:=wEO (xs:=l.set i x) (k:=k) (by rw [List.length_set];exact hk)
 rw [List.getElem?_set] at h1
 by_cases e:i=k
 ·subst e
  rw [if_pos rfl,if_pos hi] at h1
  rw [if_pos rfl]
  exact (nL h1).symm
 ·rw [if_neg e,wEO hk] at h1
  rw [if_neg (fun h=>e h.symm)]
  exact (nL h1).symm
theorem wFk [Inhabited α] {l:List α} {k:Nat} (h:k < l.length):gd l k=l[k]:=by
 have:=wEO h
 rw [nc h] at this
 exact (nL this).symm
theorem wHt [DecidableEq α] {l:List α} (hn:l.length <= 9223372036854775807) :
  (if (↑l.length:Int)=(↑l.length:Int) then jn (wDu 0 (↑l.length:Int) (fun k4 (_:Unit)=>(idx l (↑k4:Int)).bind fun x26=>(idx l (↑k4:Int)).bind fun x34=>if x26=x34 then some (.inl ()) else esc (some false)) ()) fun _=>some true else some false)=some true:=by
 rw [wLR hn]
 simp
end Go.KL
namespace Go.Proofs.YtfcmijinklojbaaGreat
open Go.KL
section
variable {K V:Type} [DecidableEq K]
theorem wJG {m:List (K × V)} {x y:K} {v:V}:wGC (mput m x v) y=if y=x then some v else wGC m y:=by
 induction m with
 | nil=>simp only [mput,wGC]
 | cons p m ih =>
  obtain ⟨a,u⟩:=p
  rw [mput]
  by_cases h:x=a
  ·subst h
   rw [if_pos rfl,wGC,wGC]
   split <;> rfl
  ·rw [if_neg h,wGC,wGC,ih]
   by_cases e:y=a
   ·rw [if_pos e,if_pos e,if_neg (by rw [e];exact Ne.symm h)]
   ·rw [if_neg e,if_neg e]
theorem wQY {m:List (K × V)} {x a:K} {v:V} (h:a ∈ (mput m x v).map (·.1)):a=x \/ a ∈ m.map (·.1):=by
 induction m with
 | nil=>exact .inl (by simpa [mput] using h)
 | cons p m ih =>
  obtain ⟨b,u⟩:=p
  rw [mput] at h
  split at h
  ·rename_i e
   rw [nW,nJ] at h
   rcases h with h | h
   ·exact .inl h
   ·exact .inr (by rw [nW];exact kV _ h)
  ·rw [nW,nJ] at h
   rcases h with h | h
   ·exact .inr (by rw [nW,h];exact List.mem_cons_self)
   ·rcases ih h with h | h
    ·exact .inl h
    ·exact .inr (by rw [nW];exact kV _ h)
theorem wJH {m:List (K × V)} {x:K} {v:V} (h:(m.map (·.1)).Nodup):((mput m x v).map (·.1)).Nodup:=by
 induction m with
 | nil=>simp [mput]
 | cons p m ih =>
  obtain ⟨b,u⟩:=p
  rw [nW,kD] at h
  rw [mput]
  split
  ·rename_i e
   rw [nW,kD,e]
   exact h
  ·rename_i e
   rw [nW,kD]
   refine ⟨fun q=>?_,ih h.2⟩
   rcases wQY q with q | q
   ·exact e q.symm
   ·exact h.1 q
end
theorem wDV (x a b:Int):wBD x a b=some (decide (a <= x/\x <= b)):=by
 unfold wBD
 by_cases h:a <= x
 ·rw [if_pos h];simp [h]
 ·rw [if_neg h];simp [h]
theorem wRB {l:List Int} {f:Int->Option Bool} {p:Int->Bool} (hf:∀ a,f a=some (p a)) (hn:l.length <= 9223372036854775807):wAd l f=some (l.all p):=by
 unfold wAd wAR wAt wBg
 have:=wEi (R:=Int) (l:=l) (f:=fun x=>(f x).bind fun x5=>some (!x5)) (p:=fun a=>!p a) (fun a _=>by rw [hf];rfl) hn id
 simp only [id] at this
 rw [this]
 simp only [hH,wEe]
 congr 1
 clear this hn
 induction l with
 | nil=>rfl
 | cons a l ih=>rw [kK,kX,<- ih];cases p a <;> simp
theorem allP {l:List wAC} {f:wAC->Option Bool} {p:wAC->Bool} (hf:∀ a,f a=some (p a)) (hn:l.length <= 9223372036854775807):wBM l f=some (l.all p):=by
 unfold wBM wAP wAT wAh
 have:=wEi (R:=Int) (l:=l) (f:=fun x=>(f x).bind fun x5=>some (!x5)) (p:=fun a=>!p a) (fun a _=>by rw [hf];rfl) hn id
 simp only [id] at this
 rw [this]
 simp only [hH,wEe]
 congr 1
 clear this hn
 induction l with
 | nil=>rfl
 | cons a l ih=>rw [kK,kX,<- ih];cases p a <;> simp
def Lt (p q:wAC):Prop:=p.Skier < q.Skier \/ (p.Skier=q.Skier/\p.Lane < q.Lane)
theorem wQZ {p q:wAC} (h:Lt p q):wCB p q=some true:=by
 unfold wCB
 rcases h with h | ⟨h1,h2⟩
 ·rw [if_pos h]
 ·rw [if_neg (by omega),if_pos h1,decide_eq_true h2]
structure wPO (n:Nat) (p:wAC):Prop where
 s:0 <= p.Skier/\p.Skier < n
 l:0 <= p.Lane/\p.Lane < n
 ne:p.Skier ≠ p.Lane
structure GoodB (n:Nat) (b:wAB):Prop where
 nb:1 <= n/\n <= 8
 ns:b.Shots.length=n
 nd:b.Down.length=n
 sh:∀ s,s < n->0 <= gd b.Shots s/\gd b.Shots s <= 8
 dn:∀ l,l < n->0 <= gd b.Down l/\gd b.Down l <= 5
 ac:∀ p ∈ b.Across,wPO n p
 so:b.Across.Pairwise Lt
 al:b.Across.length <= 1000
theorem wPP {α:Type} [Inhabited α] {l:List α} {a:α} (h:a ∈ l):∃ i,i < l.length/\gd l i=a:=by
 obtain ⟨i,hi,e⟩:=kY h
 exact ⟨i,hi,by rw [wFk hi];exact e⟩
theorem wOh {n:Nat} {b:wAB} (G:GoodB n b):wBs b=some 0:=by
 have hn:=G.nb
 unfold wBs
 rw [wDV,hH,if_pos (decide_eq_true (by rw [G.ns];omega)),if_pos (by rw [G.ns,G.nd]),wRB (f:=wBF) (p:=fun x=>decide (0 <= x/\x <= 8)) (fun a=>by unfold wBF;rw [wDV];rfl) (by rw [G.ns];omega),hH,if_pos (by
  rw [nD]
  intro x hx
  obtain ⟨i,hi,rfl⟩:=wPP hx
  exact decide_eq_true (G.sh i (by rw [<- G.ns];exact hi))),wRB (f:=wBG) (p:=fun x=>decide (0 <= x/\x <= 5)) (fun a=>by unfold wBG;rw [wDV];rfl) (by rw [G.nd];omega),hH,if_pos (by
  rw [nD]
  intro x hx
  obtain ⟨i,hi,rfl⟩:=wPP hx
  exact decide_eq_true (G.dn i (by rw [<- G.nd];exact hi))),
  allP (f:=fun x=>wBH x (↑b.Shots.length:Int)) (p:=fun p=>decide (0 <= p.Skier/\p.Skier <= (n:Int) - 1) && (decide (0 <= p.Lane/\p.Lane <= (n:Int) - 1) && decide (¬ p.Skier=p.Lane))) (fun p=>by
   unfold wBH
   rw [G.ns,wAO (by omega) (by omega),wDV,hH]
   by_cases h1:0 <= p.Skier/\p.Skier <= (n:Int) - 1
   ·rw [if_pos (decide_eq_true h1),wDV,hH,decide_eq_true h1,nO]
    by_cases h2:0 <= p.Lane/\p.Lane <= (n:Int) - 1
    ·rw [if_pos (decide_eq_true h2),decide_eq_true h2,nO]
    ·rw [if_neg (by simpa using h2),decide_eq_false h2,nQ]
   ·rw [if_neg (by simpa using h1),decide_eq_false h1,nQ]) (by have:=G.al;omega),hH,if_pos (by
  rw [nD]
  intro p hp
  have h:=G.ac p hp
  have h1:=h.s;have h2:=h.l
  rw [nA,nA]
  exact ⟨decide_eq_true (by omega),decide_eq_true (by omega),decide_eq_true h.ne⟩)]
 by_cases e:b.Across.length=0
 ·refine wEE (S:=Int) (m:=0) (fun i=>(i:Int) + 1) (fun i hi=>by omega) ?_ rfl (by omega)
  rw [if_neg (by omega)]
  rfl
 refine wEE (S:=Int) (m:=b.Across.length - 1) (fun i=>(i:Int) + 1) (fun i hi=>?_) ?_ rfl (by have:=G.al;omega)
 ·have al:=G.al
  have h1:i < b.Across.length:=by omega
  have h2:i + 1 < b.Across.length:=by omega
  rw [if_pos (by omega),show w64 ((i:Int) + 1 - 1)=(i:Int) by rw [Int.add_sub_cancel];exact wAO (by omega) (by omega),wAo h1,hH,show ((i:Int) + 1)=((i + 1:Nat):Int) by omega,wAo h2,hH,wQZ (by
   have:=nP.1 G.so i (i + 1) h1 h2 (by omega)
   rw [wFk h1,wFk h2]
   exact this),hH,if_pos rfl,wAO (by omega) (by omega)]
 ·rw [if_neg (by omega)]
  rfl
def wDb (b:wAB) (s l:Nat):Bool:=decide (s=l) || decide ((⟨(s:Int),(l:Int)⟩:wAC) ∈ b.Across)
def shB (b:wAB) (s:Nat):Int:=gd b.Shots s
def dnB (b:wAB) (l:Nat):Int:=gd b.Down l
theorem wNT {n:Nat} {b:wAB} (n8:n <= 8) (ns:b.Shots.length=n) (al:b.Across.length <= 1000):∃ may m,wCX b=some ⟨b,may,Arr.fill 64 0,Arr.fill 8 0,m⟩/\(may.map (·.1)).Nodup/\∀ s l:Nat,s < n->wEP may ⟨(s:Int),(l:Int)⟩ false=wDb b s l:=by
 unfold wCX
 obtain ⟨m1,e1,u1,g1⟩:∃ m1,(wEk 0 (↑b.Shots.length:Int) (fun (k28:Nat) l25 =>
  some (mput l25 (⟨(↑k28:Int),(↑k28:Int)⟩:wAC) true)) ([]:List (wAC × Bool)))=some m1/\(m1.map (·.1)).Nodup/\∀ q,wGC m1 q=if 0 <= q.Skier/\q.Skier < n/\q.Lane=q.Skier then some true else none:=by
  rw [ns,wFv (by omega)]
  obtain ⟨m1,e,h1,h2⟩:=wHN (S:=List (wAC × Bool)) (body:=fun (k28:Nat) l25=>some (mput l25 (⟨(↑k28:Int),(↑k28:Int)⟩:wAC) true)) (fun k m=>(m.map (·.1)).Nodup/\∀ q,wGC m q=if 0 <= q.Skier/\q.Skier < k/\q.Lane=q.Skier then some true else none) n 0 [] ⟨List.nodup_nil,fun q=>by rw [if_neg (by omega)];rfl⟩ (fun i m _ hi ⟨h1,h2⟩=>⟨_,rfl,wJH h1,fun q=>by
   rw [wJG,h2]
   by_cases e:q=⟨(i:Int),(i:Int)⟩
   ·rw [if_pos e,if_pos (show 0 <= q.Skier/\q.Skier < ((i + 1:Nat):Int)/\q.Lane=q.Skier by
     subst e
     refine ⟨Int.natCast_nonneg i,?_,rfl⟩
     show (i:Int) < ((i + 1:Nat):Int)
     omega)]
   ·rw [if_neg e]
    have ne:¬ (q.Skier=i/\q.Lane=i):=fun h=>e (by obtain ⟨a,c⟩:=q;simp only at h;rw [h.1,h.2])
    by_cases c:0 <= q.Skier/\q.Skier < i/\q.Lane=q.Skier
    ·rw [if_pos c,if_pos (by omega)]
    ·rw [if_neg c,if_neg (by omega)]⟩)
  rw [nw] at h2
  exact ⟨m1,e,h1,h2⟩
 rw [e1,hH]
 obtain ⟨m2,e2,u2,g2⟩:∃ m2,(wEk 0 (↑b.Across.length:Int) (fun (k90:Nat) l87 =>
  (idx b.Across (↑k90:Int)).bind fun x112 =>
  some (mput l87 x112 true)) m1)=some m2/\(m2.map (·.1)).Nodup/\∀ q,wGC m2 q=if q ∈ b.Across.take b.Across.length then some true else wGC m1 q:=by
  rw [wFv (by omega)]
  obtain ⟨m2,e,h1,h2⟩:=wHN (S:=List (wAC × Bool)) (body:=fun (k90:Nat) l87 =>
  (idx b.Across (↑k90:Int)).bind fun x112 =>
  some (mput l87 x112 true)) (fun k m=>(m.map (·.1)).Nodup/\∀ q,wGC m q=if q ∈ b.Across.take k then some true else wGC m1 q) b.Across.length 0 m1 ⟨u1,fun q=>by rw [List.take_zero,if_neg (by simp)]⟩ (by
   rintro i m _ hi ⟨h1,h2⟩
   have hi:i < b.Across.length:=by omega
   refine ⟨_,by rw [wAo hi,hH],wJH h1,fun q=>?_⟩
   rw [wJG,h2,wFP hi]
   by_cases e:q=gd b.Across i
   ·rw [if_pos e,if_pos (by rw [e];simp)]
   ·rw [if_neg e]
    by_cases c:q ∈ b.Across.take i
    ·rw [if_pos c,if_pos (ng _ c)]
    ·rw [if_neg c,if_neg fun h=>(nI.1 h).elim c fun h=>e (nV.1 h)])
  rw [nw] at h2
  exact ⟨m2,e,h1,h2⟩
 rw [e2,hH]
 refine ⟨m2,_,rfl,u2,fun s l hs=>?_⟩
 unfold wEP
 rw [g2,kA,g1]
 unfold wDb
 by_cases c:(⟨(s:Int),(l:Int)⟩:wAC) ∈ b.Across
 ·rw [if_pos c,decide_eq_true c,Bool.or_true];rfl
 ·rw [if_neg c,decide_eq_false c,Bool.or_false]
  by_cases e:s=l
  ·rw [if_pos (by simp only;omega),decide_eq_true e];rfl
  ·rw [if_neg (by simp only;omega),decide_eq_false e];rfl
theorem wQa {n:Nat} {can:Nat->Nat->Bool} {sh:Nat->Int} (n8:n <= 8) (h:∀ s,s < n->0 <= sh s):Fl n can sh (fun _=>0) (Arr.fill 64 0) (Arr.fill 8 0):=by
 have g:∀ s l,s < n->l < n->(Arr.fill 64 (0:Int)).get (s * 8 + l)=0:=fun s l hs hl=>wFj (by omega)
 have g2:∀ s,s < n->(Arr.fill 8 (0:Int)).get s=0:=fun s hs=>wFj (by omega)
 exact ⟨fun s l hs hl=>by rw [g s l hs hl];exact ny _,fun s l hs hl q=>by rw [g s l hs hl] at q;omega,fun s hs=>by rw [g2 s hs];exact wCq n fun l hl=>g s l hs hl,fun s hs=>by rw [g2 s hs];exact h s hs,fun l hl=>wCq n fun s hs=>g s l hs hl⟩
theorem wFl {n:Nat} {b:wAB} (G:GoodB n b):∃ may m,wBQ b=some (some ⟨b,may,Arr.fill 64 0,Arr.fill 8 0,m⟩,0)/\(may.map (·.1)).Nodup/\Desk n (wDb b) (shB b) b may:=by
 obtain ⟨may,m,e,h1,h2⟩:=wNT (by have:=G.nb;omega) G.ns G.al
 refine ⟨may,m,?_,h1,⟨by have:=G.nb;omega,G.ns,G.nd,fun s hs=>⟨rfl,by have:=G.sh s hs;unfold shB;omega⟩,fun s l hs _=>h2 s l hs⟩⟩
 unfold wBQ
 rw [wOh G,hH,if_pos rfl,e,hH]
theorem GoodB.solve {n:Nat} {b:wAB} (G:GoodB n b) {may:List (wAC × Bool)} (K:Desk n (wDb b) (shB b) b may) (m:Arr Bool 16):∃ r,wBJ ⟨b,may,Arr.fill 64 0,Arr.fill 8 0,m⟩=some r/\Sol n (wDb b) (shB b) (dnB b) r :=
 wOf K (fun l hl=>⟨rfl,by have:=G.dn l hl;omega⟩) m (wQa K.n8 fun s hs=>(G.sh s hs).1)
end Go.Proofs.YtfcmijinklojbaaGreat
namespace Go.Proofs.YtfcmijinklojbaaGreat
open Go.KL
theorem wKC {x:List Int} (hx:x.length <= 1000):wAW x=some x:=by
 unfold wAW
 rw [wHO (by simp only [nv];omega)]
 rfl
theorem cut_B {x:List Int} {k:Nat} (h:k <= x.length):cut x 0 (k:Int)=some (x.take k):=by
 unfold cut
 rw [if_pos ⟨by omega,by omega,by omega⟩]
 simp
end Go.Proofs.YtfcmijinklojbaaGreat
namespace Go.KL
def wKD (q:Nat->Bool):Nat->Nat->Bool
 | 0,_=>true
 | m + 1,k=>q k && wKD q m (k + 1)
def fnd {B:Type} (f:Nat->Option B):Nat->Nat->Option B
 | 0,_=>none
 | m + 1,k=>match f k with
  | some c=>some c
  | none=>fnd f m (k + 1)
theorem wCU (q:Nat->Bool):∀ m k,wKD q m k=true ↔ ∀ i,k <= i->i < k + m->q i=true
 | 0,k=>⟨fun _ i h1 h2=>by omega,fun _=>rfl⟩
 | m + 1,k=>by
  rw [wKD,nA,wCU q m (k + 1)]
  constructor
  ·rintro ⟨h1,h2⟩ i h3 h4
   by_cases e:i=k
   ·exact e ▸ h1
   ·exact h2 i (by omega) (by omega)
  ·exact fun h=>⟨h k (by omega) (by omega),fun i h1 h2=>h i (by omega) (by omega)⟩
theorem wJI {B:Type} {f f':Nat->Option B}:∀ m k,(∀ i,k <= i->i < k + m->f i=f' i)->fnd f m k=fnd f' m k
 | 0,_,_=>rfl
 | m + 1,k,h=>by rw [fnd,fnd,h k (by omega) (by omega),wJI m (k + 1) fun i h1 h2=>h i (by omega) (by omega)]
theorem wHu {B:Type} (q:Nat->Bool) (c:B):∀ m k,fnd (fun i=>if q i=true then none else some c) m k=if wKD q m k=true then none else some c
 | 0,_=>rfl
 | m + 1,k=>by
  rw [fnd,wHu q c m (k + 1),wKD]
  cases q k <;> simp
def out {S B:Type} (s:S):Option B->S ⊕ B
 | none=>.inl s
 | some c=>.inr c
theorem wIa {B:Type} {body:Nat->Unit->Option (Unit ⊕ B)} {f:Nat->Option B}:∀ (m k:Nat),(∀ i,k <= i->i < k + m->body i ()=some (out () (f i)))->forN body m k ()=some (out () (fnd f m k))
 | 0,_,_=>rfl
 | m + 1,k,h=>by
  rw [forN,h k (by omega) (by omega),fnd]
  cases f k with
  | none=>exact wIa m (k + 1) fun i h1 h2=>h i (by omega) (by omega)
  | some c=>rfl
theorem wOi {B:Type} {body:Nat->Unit->Option (Unit ⊕ B)} {n:Nat} (f:Nat->Option B) (hn:n <= 1000) (h:∀ i,i < n->body i ()=some (out () (f i))):wDu 0 (n:Int) body ()=some (out () (fnd f n 0)):=by
 rw [wEd (by omega)]
 exact wIa n 0 fun i _ hi=>h i (by omega)
theorem wGX {B:Type} {body:Nat->Unit->Option (Unit ⊕ B)} {n:Nat} (q:Nat->Bool) (c:B) (hn:n <= 1000) (h:∀ i,i < n->body i ()=some (if q i=true then .inl () else .inr c)):wDu 0 (n:Int) body ()=some (if wKD q n 0=true then .inl () else .inr c):=by
 rw [wOi (fun i=>if q i=true then none else some c) hn fun i hi=>by rw [h i hi];split <;> rfl,wHu]
 split <;> rfl
theorem wFm {B:Type} {body:Int->Option (Int ⊕ B)} {f:Nat->Option B} {z:B} {n:Nat} (h:∀ i,i < n->body (i:Int)=some (out ((i:Int) + 1) (f i))) (hz:body (n:Int)=some (.inr z)):∀ (m k F:Nat),k + m=n->m < F->iter body F (k:Int)=some ((fnd f m k).getD z)
 | 0,k,F,hk,hF=>by
  obtain ⟨F,rfl⟩:∃ G,F=G + 1:=⟨F - 1,by omega⟩
  obtain rfl:k=n:=by omega
  rw [iter,hz]
  rfl
 | m + 1,k,F,hk,hF=>by
  obtain ⟨F,rfl⟩:∃ G,F=G + 1:=⟨F - 1,by omega⟩
  rw [iter,h k (by omega),fnd]
  cases f k with
  | none=>exact wFm h hz m (k + 1) F (by omega) (by omega)
  | some c=>rfl
theorem wKj {B:Type} {body:Int->Option (Int ⊕ B)} {n:Nat} (f:Nat->Option B) {z:B} (hn:n <= 1000) (h:∀ i,i < n->body (i:Int)=some (out ((i:Int) + 1) (f i))) (hz:body (n:Int)=some (.inr z)):iter body big 0=some ((fnd f n 0).getD z) :=
 wFm h hz n 0 big (by omega) (by unfold big;omega)
theorem wOj {B:Type} {body:Int->Option (Int ⊕ B)} {n:Nat} (q:Nat->Bool) (c:B) {z:B} (hn:n <= 1000) (h:∀ i,i < n->body (i:Int)=some (if q i=true then .inl ((i:Int) + 1) else .inr c)) (hz:body (n:Int)=some (.inr z)):iter body big 0=some (if wKD q n 0=true then z else c):=by
 rw [wKj (fun i=>if q i=true then none else some c) hn (fun i hi=>by rw [h i hi];split <;> rfl) hz,wHu]
 split <;> rfl
theorem wGY {α:Type} [Inhabited α] (p:α->Bool) (l:List α):l.all p=wKD (fun k=>p (gd l k)) l.length 0:=by
 rw [nf,wCU,nD]
 constructor
 ·exact fun h i _ hi=>h _ (wCp (by omega))
 ·intro h a ha
  obtain ⟨k,hk,e⟩:=kY ha
  have:=h k (by omega) (by omega)
  rw [wFk hk,e] at this
  exact this
end Go.KL
namespace Go.Proofs.YtfcmijinklojbaaGreat
open Go.KL
structure LanesOK (n:Nat) (L:List Int):Prop where
 rg:∀ l ∈ L,0 <= l/\l < n
 so:L.Pairwise (· < ·)
def inL (L:List Int) (l:Nat):Bool:=decide ((l:Int) ∈ L)
theorem wDW {L:List Int} {l:Nat}:inL L l=true ↔ (l:Int) ∈ L:=by unfold inL;simp
def wDr (n:Nat) (L:List Int):Int:=if L.all (fun l=>decide (0 <= l/\l <= (n:Int) - 1))=true then (if wKD (fun k=>decide (gd L k < gd L (k + 1))) (L.length - 1) 0=true then 0 else 4) else 1
theorem wNU {L:List Int} (h:∀ k,k + 1 < L.length->gd L k < gd L (k + 1)):L.Pairwise (· < ·):=by
 refine nP.2 fun i j hi hj hij=>?_
 rw [<- wFk hi,<- wFk hj]
 clear hi
 induction j with
 | zero=>omega
 | succ j ih =>
  have a:=h j hj
  by_cases e:i=j
  ·rw [e];exact a
  ·have:=ih (by omega) (by omega);omega
theorem LanesOK.of_code {n:Nat} {L:List Int} (h:wDr n L=0):LanesOK n L:=by
 unfold wDr at h
 split at h
 ·rename_i h1
  split at h
  ·rename_i h2
   rw [nD] at h1
   rw [wCU] at h2
   exact ⟨fun l hl=>by have:=of_decide_eq_true (h1 l hl);omega,wNU fun k hk=>of_decide_eq_true (h2 k (kS _) (by omega))⟩
  ·cases h
 ·cases h
theorem LanesOK.code {n:Nat} {L:List Int} (K:LanesOK n L):wDr n L=0:=by
 unfold wDr
 rw [if_pos (nD.2 fun l hl=>decide_eq_true (by have:=K.rg l hl;omega)),if_pos ((wCU _ _ _).2 fun k _ hk=>decide_eq_true (by
  have h1:k < L.length:=by omega
  have h2:k + 1 < L.length:=by omega
  rw [wFk h1,wFk h2]
  exact nP.1 K.so k (k + 1) h1 h2 (by omega)))]
theorem LanesOK.inj {n:Nat} {L:List Int} (K:LanesOK n L) {i j:Nat} (hi:i < L.length) (hj:j < L.length) (h:gd L i=gd L j):i=j:=by
 rw [wFk hi,wFk hj] at h
 rcases Nat.lt_trichotomy i j with c | c | c
 ·have:=nP.1 K.so i j hi hj c;omega
 ·exact c
 ·have:=nP.1 K.so j i hj hi c;omega
theorem LanesOK.len {n:Nat} {L:List Int} (K:LanesOK n L):L.length <= n:=by
 have key:∀ k,k < L.length->(k:Int) <= gd L k:=by
  intro k
  induction k with
  | zero=>intro h;exact (K.rg _ (wCp h)).1
  | succ k ih =>
   intro h
   have a:=ih (by omega)
   have h1:k < L.length:=by omega
   have:=nP.1 K.so k (k + 1) h1 h (by omega)
   rw [<- wFk h1,<- wFk h] at this
   omega
 by_cases e:L.length=0
 ·omega
 ·have h:L.length - 1 < L.length:=by omega
  have a:=key _ h
  have b:=(K.rg _ (wCp h)).2
  omega
section
variable {n:Nat} {can:Nat->Nat->Bool} {sh:Nat->Int} {b:wAB} {may:List (wAC × Bool)}
theorem wNV (K:Desk n can sh b may) (n1:1 <= n) (h:Arr Int 64) (u:Arr Int 8) (m:Arr Bool 16) {L:List Int} (hl:L.length <= 1000):wBm ⟨b,may,h,u,m⟩ L=some (wDr n L):=by
 have n8:=K.n8
 unfold wBm
 rw [wRB (f:=fun x=>wAl x ⟨b,may,h,u,m⟩) (p:=fun l=>decide (0 <= l/\l <= (n:Int) - 1)) (fun a=>by
  unfold wAl
  simp only [K.nd]
  rw [wAO (by omega) (by omega),wDV]
  rfl) (by omega),hH]
 unfold wDr
 by_cases c:L.all (fun l=>decide (0 <= l/\l <= (n:Int) - 1))=true
 ·rw [if_pos c,if_pos c]
  unfold wDu
  rw [if_pos (by omega),show ((L.length:Int) - 1).toNat=L.length - 1 by omega]
  rw [wIa (f:=fun k=>if decide (gd L k < gd L (k + 1))=true then none else some (4:Int)) (L.length - 1) 0 fun k _ hk=>?_]
  ·rw [wHu]
   split <;> rfl
  ·rw [show (1:Int) + (k:Int)=((k + 1:Nat):Int) by omega,wAo (by omega),hH,wAO (by omega) (by omega),show (((k + 1:Nat):Int) - 1)=(k:Int) by omega,wAo (by omega),hH]
   by_cases c2:gd L k < gd L (k + 1)
   ·rw [if_neg (by omega),if_pos (decide_eq_true c2)];rfl
   ·rw [if_pos (by omega),if_neg (by simpa using c2)];rfl
 ·rw [if_neg c,if_neg c]
theorem anyB {l:List Int} {f:Int->Option Bool} {p:Int->Bool} (hf:∀ a ∈ l,f a=some (p a)) (hn:l.length <= 9223372036854775807):wAR l f=some (l.any p):=by
 unfold wAR wAt
 have:=wEi (R:=Int) (l:=l) (f:=f) (p:=p) hf hn id
 simp only [id] at this
 rw [this]
 simp only [hH,wEe]
theorem wQb (K:Desk n can sh b may) (h:Arr Int 64) (u:Arr Int 8) (m:Arr Bool 16) {L:List Int} (hL:LanesOK n L) {s:Nat} (hs:s < n):wCC ⟨b,may,h,u,m⟩ (s:Int) L=some (adj n can (inL L) s):=by
 have n8:=K.n8;have ll:=hL.len
 unfold wCC
 rw [anyB (f:=fun x=>wAw x ⟨b,may,h,u,m⟩ (s:Int)) (p:=fun l=>can s l.toNat) (fun l hl=>by
  have:=hL.rg l hl
  unfold wAw wCE
  rw [hH]
  have e:=K.can s l.toNat hs (by omega)
  rw [kZ this.1] at e
  rw [<- e]) (by omega),hH]
 congr 1
 rw [nf,wFw,nz]
 constructor
 ·rintro ⟨l,h1,h2⟩
  have:=hL.rg l h1
  exact ⟨l.toNat,by omega,wDW.2 (by rw [kZ this.1];exact h1),h2⟩
 ·rintro ⟨l,h1,h2,h3⟩
  exact ⟨(l:Int),wDW.1 h2,by simpa using h3⟩
def wNW (n:Nat) (can:Nat->Nat->Bool) (sh dn:Nat->Int) (S:Nat->Bool) (but:Int):Int:=dnL n dn S - wBW (fun s=>if (s:Int) ≠ but/\adj n can S s=true then sh s else 0) n
theorem wLS (K:Desk n can sh b may) {dn:Nat->Int} (hd:∀ l,l < n->gd b.Down l=dn l/\0 <= dn l/\dn l <= 1000) (hs:∀ s,s < n->0 <= sh s) (h:Arr Int 64) (u:Arr Int 8) (m:Arr Bool 16) {L:List Int} (hL:LanesOK n L) (but:Int):wBf ⟨b,may,h,u,m⟩ L but=some (wNW n can sh dn (inL L) but):=by
 have n8:=K.n8;have ll:=hL.len
 unfold wBf
 simp only [K.ns]
 have dbd:∀ (S:Nat->Bool) (k:Nat),k <= n->0 <= wBW (fun l=>if S l=true then dn l else 0) k/\wBW (fun l=>if S l=true then dn l else 0) k <= 1000 * (k:Int):=by
  intro S k
  induction k with
  | zero=>intro _;simp only [wBW];omega
  | succ k ih =>
   intro hk
   have a:=ih (by omega);have c:=hd k (by omega)
   rw [wBW]
   split <;> omega
 rw [wDU (S:=Int) (n:=L.length) (fun k=>dnL n dn (inL (L.take k))) (s0:=0) (by
  unfold dnL
  exact wCq n fun l _=>if_neg (by simp [inL])) (by omega) fun k hk=>?_,kA,hH]
 ·rw [wDU (S:=Int) (n:=n) (fun k=>dnL n dn (inL L) - wBW (fun s=>if (s:Int) ≠ but/\adj n can (inL L) s=true then sh s else 0) k) (s0:=dnL n dn (inL L)) (by simp only [wBW];omega) (by omega) fun s hs'=>?_]
  ·rfl
  ·have sb:∀ k,k <= n->0 <= wBW (fun s=>if (s:Int) ≠ but/\adj n can (inL L) s=true then sh s else 0) k/\wBW (fun s=>if (s:Int) ≠ but/\adj n can (inL L) s=true then sh s else 0) k <= 1000 * (k:Int):=by
    intro k
    induction k with
    | zero=>intro _;simp only [wBW];omega
    | succ k ih =>
     intro hk
     have a:=ih (by omega);have c:=(K.sh k (by omega)).2;have d:=hs k (by omega)
     rw [wBW]
     split <;> omega
   have k1:=K.sh s hs';have k2:=hs s hs'
   have s1:=sb s (by omega)
   have d1:=dbd (inL L) n (nG _)
   unfold dnL
   rw [wAo (by rw [K.ns];exact hs'),hH,wBW]
   by_cases c:(s:Int)=but
   ·rw [if_pos c,if_neg (fun q=>q.1 c),kM]
   ·rw [if_neg c,wQb K h u m hL hs',hH]
    by_cases c2:adj n can (inL L) s=true
    ·rw [if_pos c2,if_pos ⟨c,c2⟩,wAO (by omega) (by omega),k1.1]
     congr 1
     omega
    ·rw [if_neg c2,if_neg (fun q=>c2 q.2),kM]
 ·have r:=hL.rg _ (wCp hk)
  obtain ⟨l,hl⟩:∃ l:Nat,gd L k=l:=⟨(gd L k).toNat,by omega⟩
  have ln:l < n:=by omega
  rw [wAo hk,hH,hl,wAo (by rw [K.nd];exact ln),hH,(hd l ln).1]
  have e:dnL n dn (inL (L.take (k + 1)))=dnL n dn (inL (L.take k)) + dn l:=by
   unfold dnL
   rw [wIZ (f:=fun i=>if inL (L.take k) i=true then dn i else 0) (g:=fun i=>if inL (L.take (k + 1)) i=true then dn i else 0) ln fun i hi hne=>?_]
   ·have h1:inL (L.take (k + 1)) l=true:=wDW.2 (by rw [wFP hk,nI,nV];exact .inr hl.symm)
    have h2:¬ inL (L.take k) l=true:=fun q=>by
     obtain ⟨j,hj,e⟩:=wPP (wDW.1 q)
     rw [nr] at hj
     have e2:gd (L.take k) j=gd L j:=by
      unfold gd
      rw [nE,nE,ni (by omega)]
     have:=hL.inj (i:=j) (j:=k) (by omega) hk (by rw [<- e2,e,hl])
     omega
    rw [if_pos h1,if_neg h2,kP]
   ·have:inL (L.take (k + 1)) i=inL (L.take k) i:=by
     rw [nf,wDW,wDW,wFP hk,nI,nV,hl]
     constructor
     ·rintro (q | q)
      ·exact q
      ·omega
     ·exact .inl
    simp only [this]
  rw [e]
  have d1:=dbd (inL (L.take k)) n (nG _)
  have d2:=hd l ln
  unfold dnL
  rw [wAO (by omega) (by omega)]
theorem wOk (m:Arr Bool 16) (n:Nat):LanesOK n (wFQ m n):=by
 unfold wFQ
 refine ⟨fun l hl=>?_,?_⟩
 ·obtain ⟨k,hk,rfl⟩:=kO.1 hl
  have:=nl.1 (kE.1 hk).1
  omega
 ·rw [List.pairwise_map]
  exact (List.pairwise_lt_range.filter _).imp fun h=>by omega
theorem wKk {m:Arr Bool 16} {n l:Nat} (hl:l < n):inL (wFQ m n) l=m.get (8 + l):=by
 rw [nf,wDW]
 unfold wFQ
 constructor
 ·intro h
  obtain ⟨k,hk,e⟩:=kO.1 h
  have:k=l:=by omega
  subst this
  exact (kE.1 hk).2
 ·intro h
  exact kO.2 ⟨l,kE.2 ⟨nl.2 hl,h⟩,rfl⟩
theorem wHS {dn:Nat->Int} {S T:Nat->Bool} (h:∀ l,l < n->S l=T l):dnL n dn S=dnL n dn T:=wBb n fun l hl=>by rw [h l hl]
theorem wNX {S T:Nat->Bool} (h:∀ l,l < n->S l=T l) (s:Nat):adj n can S s=adj n can T s:=by
 rw [nf,wFw,wFw]
 constructor
 ·rintro ⟨l,h1,h2,h3⟩;exact ⟨l,h1,by rw [<- h l h1];exact h2,h3⟩
 ·rintro ⟨l,h1,h2,h3⟩;exact ⟨l,h1,by rw [h l h1];exact h2,h3⟩
theorem wHT {S T:Nat->Bool} (h:∀ l,l < n->S l=T l):shL n can sh S=shL n can sh T:=wBb n fun s _=>by rw [wNX h]
theorem Sol.lanes {dn:Nat->Int} {r:List Int × HUM} (S:Sol n can sh dn r) (h:¬ Can n can sh dn):LanesOK n r.1/\shL n can sh (inL r.1) < dnL n dn (inL r.1):=by
 rcases S with ⟨e,F⟩ | ⟨e,e2,lt⟩
 ·exact absurd ⟨_,F.asg⟩ h
 ·rw [e2]
  refine ⟨wOk _ _,?_⟩
  rw [wHT (T:=fun l=>r.2.2.2.get (8 + l)) fun l hl=>wKk hl,wHS (T:=fun l=>r.2.2.2.get (8 + l)) fun l hl=>wKk hl]
  exact lt
theorem wGZ {dn:Nat->Int} (S:Nat->Bool):wNW n can sh dn S (-1)=dnL n dn S - shL n can sh S:=by
 unfold wNW shL
 congr 1
 exact wBb n fun s _=>by
  by_cases c:adj n can S s=true
  ·rw [if_pos c,if_pos ⟨by omega,c⟩]
  ·rw [if_neg c,if_neg fun q=>c q.2]
theorem wNY (G:GoodB n b) {L:List Int} (hl:L.length <= 1000):wBv b L=some (if wDr n L=0 then (if dnL n (dnB b) (inL L) - shL n (wDb b) (shB b) (inL L) <= 0 then (0,8) else (dnL n (dnB b) (inL L) - shL n (wDb b) (shB b) (inL L),0)) else (0,wDr n L)):=by
 obtain ⟨may,m,e1,_,K⟩:=wFl G
 have hn:=G.nb
 unfold wBv
 rw [e1,hH]
 simp only [if_true]
 rw [wNV K hn.1 _ _ _ hl,hH]
 by_cases c:wDr n L=0
 ·rw [if_pos c,if_pos c,wLS (dn:=dnB b) K (fun l hl=>⟨rfl,by have:=G.dn l hl;unfold dnB;omega⟩) (fun s hs=>(G.sh s hs).1) _ _ _ (.of_code c),hH,wGZ]
  by_cases c2:dnL n (dnB b) (inL L) - shL n (wDb b) (shB b) (inL L) <= 0
  ·rw [if_pos c2,if_pos c2]
  ·rw [if_neg c2,if_neg c2]
 ·rw [if_neg c,if_neg c]
theorem wGa (G:GoodB n b):(Can n (wDb b) (shB b) (dnB b)/\wBd b=some ([],6)) \/ (¬ Can n (wDb b) (shB b) (dnB b)/\∃ L,wBd b=some (L,0)/\LanesOK n L/\shL n (wDb b) (shB b) (inL L) < dnL n (dnB b) (inL L)):=by
 obtain ⟨may,m,e1,_,K⟩:=wFl G
 obtain ⟨r,e2,S⟩:=G.solve K m
 unfold wBd
 rw [e1,hH]
 simp only [if_true]
 rw [e2,hH]
 by_cases c:Can n (wDb b) (shB b) (dnB b)
 ·rw [if_pos (S.none_iff.2 c)]
  exact .inl ⟨c,rfl⟩
 ·rw [if_neg fun q=>c (S.none_iff.1 q)]
  exact .inr ⟨c,_,rfl,(S.lanes c).1,(S.lanes c).2⟩
end
end Go.Proofs.YtfcmijinklojbaaGreat
namespace Go.Proofs.YtfcmijinklojbaaGreat
open Go.KL
theorem wFx {B:Type} {body:Int->Option (Int ⊕ B)} {f:Nat->Option B} {z:B} {n k0:Nat} (h:∀ i,k0 <= i->i < n->body (i:Int)=some (out ((i:Int) + 1) (f i))) (hz:body (n:Int)=some (.inr z)):∀ (m k F:Nat),k0 <= k->k + m=n->m < F->iter body F (k:Int)=some ((fnd f m k).getD z)
 | 0,k,F,_,hk,hF=>by
  obtain ⟨F,rfl⟩:∃ G,F=G + 1:=⟨F - 1,by omega⟩
  obtain rfl:k=n:=by omega
  rw [iter,hz]
  rfl
 | m + 1,k,F,h0,hk,hF=>by
  obtain ⟨F,rfl⟩:∃ G,F=G + 1:=⟨F - 1,by omega⟩
  rw [iter,h k h0 (by omega),fnd]
  cases f k with
  | none=>exact wFx h hz m (k + 1) F (by omega) (by omega) (by omega)
  | some c=>rfl
def wHa (n:Nat) (p:wAC):Bool:=decide (0 <= p.Skier/\p.Skier <= (n:Int) - 1) && (decide (0 <= p.Lane/\p.Lane <= (n:Int) - 1) && decide (¬ p.Skier=p.Lane))
theorem wHU {n:Nat} {p:wAC}:wHa n p=true ↔ wPO n p:=by
 unfold wHa
 rw [nA,nA,decide_eq_true_iff,decide_eq_true_iff,decide_eq_true_iff]
 exact ⟨fun ⟨h1,h2,h3⟩=>⟨by omega,by omega,h3⟩,fun ⟨h1,h2,h3⟩=>⟨by omega,by omega,h3⟩⟩
def wPQ (p q:wAC):Bool:=decide (p.Skier < q.Skier \/ (p.Skier=q.Skier/\p.Lane < q.Lane))
theorem wQc (p q:wAC):wCB p q=some (wPQ p q):=by
 unfold wCB wPQ
 by_cases h:p.Skier < q.Skier
 ·rw [if_pos h,decide_eq_true (.inl h)]
 ·rw [if_neg h]
  by_cases h2:p.Skier=q.Skier
  ·rw [if_pos h2]
   congr 1
   exact decide_eq_decide.2 ⟨fun g=>.inr ⟨h2,g⟩,fun g=>g.elim (fun c=>absurd c h) fun c=>c.2⟩
  ·rw [if_neg h2,decide_eq_false]
   exact fun g=>g.elim h fun c=>h2 c.1
def rgB (b:wAB):Bool:=b.Shots.all (fun x=>decide (0 <= x/\x <= 8)) && b.Down.all (fun x=>decide (0 <= x/\x <= 5))
def wPR (A:List wAC):Bool:=wKD (fun k=>wPQ (gd A (k - 1)) (gd A k)) (A.length - 1) 1
def wFy (b:wAB):Int :=
 if 1 <= b.Shots.length/\b.Shots.length <= 8/\b.Down.length=b.Shots.length then
  (if rgB b=true then (if b.Across.all (wHa b.Shots.length)=true then (if wPR b.Across=true then 0 else 4) else 1) else 3)
 else 2
theorem wQd (b:wAB):wFy b=0 \/ wFy b=1 \/ wFy b=2 \/ wFy b=3 \/ wFy b=4:=by
 unfold wFy
 split
 ·split
  ·split
   ·split
    ·exact .inl rfl
    ·exact .inr (.inr (.inr (.inr rfl)))
   ·exact .inr (.inl rfl)
  ·exact .inr (.inr (.inr (.inl rfl)))
 ·exact .inr (.inr (.inl rfl))
theorem wNZ {b:wAB} (h:wFy b=0) (al:b.Across.length <= 1000):GoodB b.Shots.length b:=by
 unfold wFy at h
 split at h
 ·rename_i h1
  split at h
  ·rename_i h2
   split at h
   ·rename_i h3
    split at h
    ·rename_i h4
     unfold rgB at h2
     rw [nA,nD,nD] at h2
     rw [nD] at h3
     unfold wPR at h4
     rw [wCU] at h4
     refine ⟨⟨h1.1,h1.2.1⟩,rfl,h1.2.2,fun s hs=>of_decide_eq_true (h2.1 _ (wCp hs)),fun l hl=>of_decide_eq_true (h2.2 _ (wCp (by omega))),fun p hp=>wHU.1 (h3 p hp),?_,al⟩
     refine nP.2 fun i j hi hj hij=>?_
     rw [<- wFk hi,<- wFk hj]
     clear hi
     induction j with
     | zero=>omega
     | succ j ih =>
      have a:=h4 (j + 1) (by omega) (by omega)
      unfold wPQ at a
      have a:=of_decide_eq_true a
      rw [Nat.add_sub_cancel] at a
      by_cases e:i=j
      ·rw [e];exact a
      ·have c:=ih (by omega) (by omega)
       unfold Lt at c ⊢
       omega
    ·cases h
   ·cases h
  ·cases h
 ·cases h
theorem wHv {b:wAB} (sl:b.Shots.length <= 1000) (dl:b.Down.length <= 1000) (al:b.Across.length <= 1000):wBs b=some (wFy b):=by
  unfold wBs wFy
  rw [wDV,hH]
  by_cases h1:1 <= b.Shots.length/\b.Shots.length <= 8/\b.Down.length=b.Shots.length
  case neg =>
    rw [if_neg h1]
    by_cases h2:1 <= (b.Shots.length:Int)/\(b.Shots.length:Int) <= 8
    · rw [if_pos (decide_eq_true h2),if_neg (by omega)]
    · rw [if_neg (by simpa using h2)]
  rw [if_pos h1,if_pos (decide_eq_true (by omega)),if_pos (by omega),wRB (f:=wBF) (p:=fun x=>decide (0 <= x/\x <= 8)) (fun a=>by unfold wBF;rw [wDV];rfl) (by omega),hH,wRB (f:=wBG) (p:=fun x=>decide (0 <= x/\x <= 5)) (fun a=>by unfold wBG;rw [wDV];rfl) (by omega)]
  unfold rgB
  by_cases h2:b.Shots.all (fun x=>decide (0 <= x/\x <= 8))=true
  case neg =>
    rw [if_neg h2,if_neg fun q=>h2 (nA _ _ ▸ q).1]
  rw [if_pos h2,h2,nO,hH]
  by_cases h3:b.Down.all (fun x=>decide (0 <= x/\x <= 5))=true
  case neg=>rw [if_neg h3,if_neg h3]
  rw [if_pos h3,if_pos h3,allP (f:=fun x=>wBH x (↑b.Shots.length:Int)) (p:=wHa b.Shots.length) (fun p=>by
      unfold wBH wHa
      rw [wAO (by omega) (by omega),wDV,hH]
      by_cases h1:0 <= p.Skier/\p.Skier <= (b.Shots.length:Int) - 1
      · rw [if_pos (decide_eq_true h1),wDV,hH,decide_eq_true h1,nO]
        by_cases h2:0 <= p.Lane/\p.Lane <= (b.Shots.length:Int) - 1
        · rw [if_pos (decide_eq_true h2),decide_eq_true h2,nO]
        · rw [if_neg (by simpa using h2),decide_eq_false h2,nQ]
      · rw [if_neg (by simpa using h1),decide_eq_false h1,nQ]) (by omega),hH]
  by_cases h4:b.Across.all (wHa b.Shots.length)=true
  case neg=>rw [if_neg h4,if_neg h4]
  rw [if_pos h4,if_pos h4]
  by_cases e:b.Across.length=0
  · have:wPR b.Across=true:=by unfold wPR;rw [wCU];intro i _ _;omega
    rw [if_pos this]
    refine wEE (S:=Int) (m:=0) (fun i=>(i:Int) + 1) (fun i hi=>by omega) ?_ rfl (by omega)
    rw [if_neg (by omega)]
    rfl
  have:=wFx (B:=Int) (body:=fun x80 =>
              if x80 < (↑b.Across.length:Int) then
                (idx b.Across (w64 (x80 - 1))).bind fun x97 =>
                (idx b.Across x80).bind fun x106 =>
                (wCB x97 x106).bind fun x113 =>
                if x113=true then
                  some (.inl (w64 (x80 + 1)))
                else
                  esc (some 4)
              else
                esc (some 0)) (f:=fun k=>if wPQ (gd b.Across (k - 1)) (gd b.Across k)=true then none else some 4) (z:=0) (n:=b.Across.length) (k0:=1) (fun i h0 hi=>by
    rw [if_pos (by omega),wAO (by omega) (by omega),show ((i:Int) - 1)=((i - 1:Nat):Int) by omega,wAo (by omega),hH,wAo hi,hH,wQc,hH]
    by_cases c:wPQ (gd b.Across (i - 1)) (gd b.Across i)=true
    · rw [if_pos c,if_pos c,wAO (by omega) (by omega)];rfl
    · rw [if_neg c,if_neg c];rfl) (by rw [if_neg (by omega)];rfl) (b.Across.length - 1) 1 big (nG _) (by omega) (by unfold big;omega)
  rw [wHu] at this
  refine this.trans ?_
  unfold wPR
  split <;> rfl
def rpB (p:wAC):wAU:=⟨p.Skier,p.Lane⟩
def wEK (b:wAB):wAE:=⟨b.Shots,b.Down,b.Across.map rpB⟩
theorem wQe {b:wAB} (al:b.Across.length <= 1000):wBu b=some (wEK b):=by
 unfold wBu
 rw [wDU (S:=List wAU) (n:=b.Across.length) (fun k=>(b.Across.take k).map rpB) (s0:=[]) rfl (by omega) fun k hk=>?_]
 ·rw [hH,kA]
  rfl
 ·rw [wAo hk,hH,wHO (by rw [nu,nr,List.length_singleton];omega),hH,wFP hk,kR]
  rfl
theorem wFz (x a c:Int):wAL x a c=some (!decide (a <= x/\x <= c)):=by
 unfold wAL
 by_cases h:x < a
 ·rw [if_pos h,decide_eq_false (by omega)];rfl
 ·rw [if_neg h,<- decide_not]
  congr 1
  exact decide_eq_decide.2 (by omega)
theorem wOl {A:List wAC} {k:Nat} (h:k < A.length):gd (A.map rpB) k=rpB (gd A k):=wKA rpB h
theorem wDs {b:wAB} (sl:b.Shots.length <= 1000) (al:b.Across.length <= 1000):wAk (wEK b)=some (wFy b):=by
  unfold wAk wFy wEK
  simp only
  by_cases h1:1 <= b.Shots.length/\b.Shots.length <= 8/\b.Down.length=b.Shots.length
  case neg =>
    rw [if_neg h1]
    by_cases c1:(b.Shots.length:Int) < 1
    · rw [if_pos c1]
    · rw [if_neg c1]
      by_cases c2:8 < (b.Shots.length:Int)
      · rw [if_pos c2]
      · rw [if_neg c2,if_neg (by omega)]
  rw [if_pos h1,if_neg (by omega),if_neg (by omega),if_pos (by omega)]
  rw [wGX (n:=b.Shots.length) (fun k=>decide (0 <= gd b.Shots k/\gd b.Shots k <= 8) && decide (0 <= gd b.Down k/\gd b.Down k <= 5)) (3:Int) (by omega) fun k hk=>?_]
  · have e:rgB b=wKD (fun k=>decide (0 <= gd b.Shots k/\gd b.Shots k <= 8) && decide (0 <= gd b.Down k/\gd b.Down k <= 5)) b.Shots.length 0:=by
      unfold rgB
      rw [wGY,wGY,h1.2.2,nf,nA,wCU,wCU,wCU]
      constructor
      · rintro ⟨g1,g2⟩ i h2 h3
        rw [nA]
        exact ⟨g1 i h2 h3,g2 i h2 h3⟩
      · intro g
        exact ⟨fun i h2 h3=>(nA _ _ ▸ g i h2 h3).1,fun i h2 h3=>(nA _ _ ▸ g i h2 h3).2⟩
    rw [e]
    by_cases c:wKD (fun k=>decide (0 <= gd b.Shots k/\gd b.Shots k <= 8) && decide (0 <= gd b.Down k/\gd b.Down k <= 5)) b.Shots.length 0=true
    case neg=>rw [if_neg c,if_neg c];rfl
    rw [if_pos c,if_pos c]
    simp only [wEy]
    have ml:(b.Across.map rpB).length=b.Across.length:=nu _
    have inner:=wFx (B:=Int) (body:=fun x174 =>
              if x174 < (↑(b.Across.map rpB).length:Int) then
                (idx (b.Across.map rpB) x174).bind fun x191 =>
                (idx (b.Across.map rpB) (w64 (x174 - 1))).bind fun x205 =>
                if (w64 ((w64 (100 * x191.Skier)) + x191.Lane)) <= (w64 ((w64 (100 * x205.Skier)) + x205.Lane)) then
                  esc (some 4)
                else
                  some (.inl (w64 (x174 + 1)))
              else
                esc (some 0)) (f:=fun k=>if w64 (w64 (100 * (gd b.Across k).Skier) + (gd b.Across k).Lane) <= w64 (w64 (100 * (gd b.Across (k - 1)).Skier) + (gd b.Across (k - 1)).Lane) then some 4 else none) (z:=0) (n:=b.Across.length) (k0:=1) (fun i h0 hi=>by
      rw [if_pos (by omega),wAo (by omega),hH,wAO (by omega) (by omega),show ((i:Int) - 1)=((i - 1:Nat):Int) by omega,wAo (by omega),hH,wOl hi,wOl (by omega)]
      unfold rpB
      simp only
      by_cases c:w64 (w64 (100 * (gd b.Across i).Skier) + (gd b.Across i).Lane) <= w64 (w64 (100 * (gd b.Across (i - 1)).Skier) + (gd b.Across (i - 1)).Lane)
      · rw [if_pos c,if_pos c];rfl
      · rw [if_neg c,if_neg c,wAO (by omega) (by omega)];rfl) (by rw [if_neg (by omega)];rfl)
    have inn:∃ v:Int,iter (fun x174 =>
              if x174 < (↑(b.Across.map rpB).length:Int) then
                (idx (b.Across.map rpB) x174).bind fun x191 =>
                (idx (b.Across.map rpB) (w64 (x174 - 1))).bind fun x205 =>
                if (w64 ((w64 (100 * x191.Skier)) + x191.Lane)) <= (w64 ((w64 (100 * x205.Skier)) + x205.Lane)) then
                  esc (some 4)
                else
                  some (.inl (w64 (x174 + 1)))
              else
                esc (some 0)) big 1=some v/\(b.Across.all (wHa b.Shots.length)=true->v=if wPR b.Across=true then 0 else 4):=by
      by_cases e:b.Across.length=0
      · refine ⟨0,?_,fun _=>?_⟩
        · refine wEE (S:=Int) (m:=0) (fun i=>(i:Int) + 1) (fun i hi=>by omega) ?_ rfl (by omega)
          rw [if_neg (by omega)]
          rfl
        · rw [if_pos]
          unfold wPR;rw [wCU];intro i _ _;omega
      · refine ⟨_,inner (b.Across.length - 1) 1 big (nG _) (by omega) (by unfold big;omega),fun ok=>?_⟩
        rw [nD] at ok
        rw [wJI (f':=fun k=>if wPQ (gd b.Across (k - 1)) (gd b.Across k)=true then none else some 4) _ _ fun k h0 hk=>?_,wHu]
        · unfold wPR
          split <;> rfl
        · have P:=wHU.1 (ok _ (wCp (show k < b.Across.length by omega)))
          have Q:=wHU.1 (ok _ (wCp (show k - 1 < b.Across.length by omega)))
          have p1:=P.s;have p2:=P.l;have q1:=Q.s;have q2:=Q.l
          rw [wAO (x:=100 * (gd b.Across k).Skier) (by omega) (by omega),wAO (x:=100 * (gd b.Across (k - 1)).Skier) (by omega) (by omega),wAO (x:=100 * (gd b.Across k).Skier + _) (by omega) (by omega),wAO (by omega) (by omega)]
          unfold wPQ
          by_cases c:(gd b.Across (k - 1)).Skier < (gd b.Across k).Skier \/ ((gd b.Across (k - 1)).Skier=(gd b.Across k).Skier/\(gd b.Across (k - 1)).Lane < (gd b.Across k).Lane)
          · rw [if_neg (by omega),if_pos (decide_eq_true c)]
          · rw [if_pos (by omega),if_neg (by simpa using c)]
    obtain ⟨v,ev,hv⟩:=inn
    rw [wOj (n:=b.Across.length) (fun k=>wHa b.Shots.length (gd b.Across k)) (1:Int) (z:=v) (by omega) (fun k hk=>?g1) ?g2]
    · rw [<- wGY]
      by_cases h4:b.Across.all (wHa b.Shots.length)=true
      · rw [if_pos h4,if_pos h4,hv h4]
      · rw [if_neg h4,if_neg h4]
    case g1 =>
      rw [if_pos (by omega),wAo (by omega),hH,wOl hk,wFz,hH,wAO (by omega) (by omega)]
      unfold wHa rpB
      simp only
      by_cases c1:0 <= (gd b.Across k).Skier/\(gd b.Across k).Skier <= (b.Shots.length:Int) - 1
      · rw [decide_eq_true c1,nO,if_neg (by decide),wFz,hH]
        by_cases c2:0 <= (gd b.Across k).Lane/\(gd b.Across k).Lane <= (b.Shots.length:Int) - 1
        · rw [decide_eq_true c2,nO,if_neg (by decide)]
          by_cases c3:(gd b.Across k).Skier=(gd b.Across k).Lane
          · rw [if_pos c3,decide_eq_false (fun q=>q c3),if_neg (by decide)];rfl
          · rw [if_neg c3,decide_eq_true c3,if_pos rfl,wAO (by omega) (by omega)]
        · rw [decide_eq_false c2,nQ,if_pos (by decide),if_neg (by decide)];rfl
      · rw [decide_eq_false c1,nQ,if_pos (by decide),if_neg (by decide)];rfl
    case g2 =>
      rw [if_neg (by omega),ev]
      rfl
  · rw [wAo (by omega),hH,wFz,hH]
    by_cases c1:0 <= gd b.Shots k/\gd b.Shots k <= 8
    · rw [decide_eq_true c1,nO,if_neg (by decide),wAo (by omega),hH,wFz,hH]
      by_cases c2:0 <= gd b.Down k/\gd b.Down k <= 5
      · rw [decide_eq_true c2,if_neg (by decide),if_pos rfl]
      · rw [decide_eq_false c2,if_pos (by decide),if_neg (by decide)];rfl
    · rw [decide_eq_false c1,nQ,if_pos (by decide),if_neg (by decide)];rfl
end Go.Proofs.YtfcmijinklojbaaGreat
namespace Go.Proofs.YtfcmijinklojbaaGreat
open Go.KL
theorem wNa {b:wAB} (al:b.Across.length <= 1000) (s l:Nat):wAz (wEK b) (s:Int) (l:Int)=some (wDb b s l):=by
 unfold wAz wEK
 simp only
 have ml:(b.Across.map rpB).length=b.Across.length:=nu _
 rw [wKj (n:=b.Across.length) (fun k=>if gd b.Across k=(⟨(s:Int),(l:Int)⟩:wAC) then some true else none) (z:=decide ((s:Int)=(l:Int))) (by omega) (fun k hk=>?g1) ?g2]
 case g1 =>
  rw [if_pos (by omega),wAo (by omega),hH,wOl hk]
  by_cases c:gd b.Across k=(⟨(s:Int),(l:Int)⟩:wAC)
  ·rw [if_pos c,c]
   unfold rpB
   rw [if_pos rfl];rfl
  ·rw [if_neg c,if_neg,wAO (by omega) (by omega)]
   ·rfl
   ·intro q
    refine c ?_
    cases h:gd b.Across k with
    | mk x y =>
     rw [h] at q
     unfold rpB at q
     injection q with q1 q2
     simp only at q1 q2
     rw [q1,q2]
 case g2=>rw [if_neg (by omega)];rfl
 congr 1
 have key:∀ m k,k + m=b.Across.length->(fnd (fun k=>if gd b.Across k=(⟨(s:Int),(l:Int)⟩:wAC) then some true else none) m k).getD (decide ((s:Int)=(l:Int)))=(decide (s=l) || decide ((⟨(s:Int),(l:Int)⟩:wAC) ∈ b.Across.drop k)):=by
  intro m
  induction m with
  | zero =>
   intro k hk
   rw [nk (by omega),fnd]
   simp only [Option.getD_none,List.not_mem_nil,decide_false,Bool.or_false]
   exact decide_eq_decide.2 (by omega)
  | succ m ih =>
   intro k hk
   have hlt:k < b.Across.length:=by omega
   rw [fnd,wQW hlt]
   by_cases c:gd b.Across k=(⟨(s:Int),(l:Int)⟩:wAC)
   ·rw [if_pos c]
    simp [c]
   ·rw [if_neg c]
    simp only
    rw [ih (k + 1) (by omega)]
    congr 1
    refine decide_eq_decide.2 ⟨fun h=>.tail _ h,fun h=>?_⟩
    rcases nJ.1 h with q | q
    ·exact absurd q.symm c
    ·exact q
 rw [key b.Across.length 0 (by omega),List.drop_zero]
 rfl
def hlf (x k:Nat):Nat:=x / 2 ^ k
theorem hlf_s (x k:Nat):hlf x (k + 1)=hlf x k / 2:=by
 unfold hlf
 rw [kQ,<- Nat.div_div_eq_div_mul]
theorem wSC (x k:Nat):hlf x k <= x:=Nat.div_le_self _ _
theorem wNb {x l:Nat} (hx:x <= 100000) (hl:l <= 1000):wBA (x:Int) (l:Int)=some (x.testBit l):=by
 unfold wBA
 rw [wDU (S:=Int) (n:=l) (fun k=>(hlf x k:Int)) (s0:=(x:Int)) (by simp [hlf]) (by omega) fun k hk=>?_]
 ·rw [hH]
  unfold rem
  rw [if_neg (by omega),hH,Int.tmod_eq_emod_of_nonneg (by omega),Nat.testBit_eq_decide_div_mod_eq]
  congr 1
  have:x / 2 ^ l=hlf x l:=rfl
  rw [this]
  exact decide_eq_decide.2 (by omega)
 ·have h:=wSC x k
  unfold quo
  rw [if_neg (by omega),hH,Int.tdiv_eq_ediv_of_nonneg (by omega),hlf_s,wAO (by omega) (by omega)]
  congr 1
def wHw (b:wAB) (p q:Int) (s l:Nat):Bool:=wDb b s l && !(decide ((s:Int)=p) && decide ((l:Int)=q))
theorem wKl {f g:Nat->Int}:∀ n,wBW (fun i=>f i - g i) n=wBW f n - wBW g n
 | 0=>rfl
 | n + 1=>by rw [wBW,wBW,wBW,wKl n];omega
def wOm (f:Nat->Bool):Nat->Bool
 | 0=>false
 | k + 1=>wOm f k || f k
theorem wKm (f:Nat->Bool):∀ n,wOm f n=true ↔ ∃ l,l < n/\f l=true
 | 0=>by simp [wOm]
 | n + 1=>by
  rw [wOm,nR,wKm f n]
  constructor
  ·rintro (⟨l,h1,h2⟩ | h)
   ·exact ⟨l,by omega,h2⟩
   ·exact ⟨n,by omega,h⟩
  ·rintro ⟨l,h1,h2⟩
   by_cases e:l=n
   ·rw [e] at h2;exact .inr h2
   ·exact .inl ⟨l,by omega,h2⟩
structure Near (n:Nat) (b:wAB):Prop where
 n8:n <= 8
 ns:b.Shots.length=n
 nd:b.Down.length=n
 sh:∀ s,s < n->-1000 <= gd b.Shots s/\gd b.Shots s <= 1000
 dn:∀ l,l < n->-1000 <= gd b.Down l/\gd b.Down l <= 1000
 al:b.Across.length <= 1000
theorem wQf {f:Nat->Int} {M:Int} (hM:0 <= M):∀ {n:Nat},n <= 8->(∀ i,i < n->-M <= f i/\f i <= M)->-(8 * M) <= wBW f n/\wBW f n <= 8 * M:=by
 have key:∀ (n:Nat),(∀ i,i < n->-M <= f i/\f i <= M)->-((n:Int) * M) <= wBW f n/\wBW f n <= (n:Int) * M:=by
  intro n
  induction n with
  | zero=>intro _;simp [wBW]
  | succ n ih =>
   intro h
   have a:=ih fun i hi=>h i (by omega)
   have c:=h n (by omega)
   rw [wBW,show ((n + 1:Nat):Int) * M=(n:Int) * M + M by rw [Int.natCast_add,Int.add_mul];simp]
   omega
 intro n n8 h
 have a:=key n h
 have:(n:Int) * M <= 8 * M:=Int.mul_le_mul_of_nonneg_right (by omega) hM
 omega
theorem wIb {n:Nat} {b:wAB} (N:Near n b) {x:Nat} (hx:x <= 100000) (but p q:Int):wBB (wEK b) (x:Int) but p q=some (wNW n (wHw b p q) (shB b) (dnB b) (fun l=>x.testBit l) but):=by
  have n8:=N.n8;have al:=N.al
  have inn:∀ (s:Nat) {B:Type} (K:Bool->Option B) (r:B),s < n->K (adj n (wHw b p q) (fun l=>x.testBit l) s)=some r->iter (fun (b63,x64) =>
          if x64 < (↑(wEK b).Down.length:Int) then
            (if b63=true then
              some true
            else
              (wBA (x:Int) x64).bind fun x94 =>
              if x94=true then
                (wAz (wEK b) (s:Int) x64).bind fun x116 =>
                if x116=true then
                  if (s:Int)=p then
                    some (decide (¬ (x64=q)))
                  else
                    some true
                else
                  some false
              else
                some false).bind fun b86 =>
            some (.inl (b86,w64 (x64 + 1)))
          else
            esc (K b63)) big (false,(0:Int))=some r:=by
    intro s B K r hs hK
    have dl:(wEK b).Down.length=n:=N.nd
    refine wEE (m:=n) (fun k=>(wOm (fun l=>x.testBit l && wHw b p q s l) k,(k:Int))) (fun k hk=>?_) ?_ rfl (by omega)
    · simp only
      rw [if_pos (by omega),wAO (by omega) (by omega),wOm]
      by_cases c:wOm (fun l=>x.testBit l && wHw b p q s l) k=true
      · rw [if_pos c,hH,c,Bool.true_or]
        rfl
      · rw [if_neg c,wNb hx (by omega),hH]
        have c':wOm (fun l=>x.testBit l && wHw b p q s l) k=false:=by simpa using c
        rw [c',Bool.false_or]
        by_cases c1:x.testBit k=true
        · rw [if_pos c1,wNa al,hH,c1,nO]
          unfold wHw
          by_cases c2:wDb b s k=true
          · rw [if_pos c2,c2,nO]
            by_cases c3:(s:Int)=p
            · rw [if_pos c3,decide_eq_true c3,nO,hH,decide_not]
              rfl
            · rw [if_neg c3,decide_eq_false c3,nQ,hH]
              rfl
          · rw [if_neg c2,hH]
            have:wDb b s k=false:=by simpa using c2
            rw [this,nQ]
            rfl
        · rw [if_neg c1,hH]
          have:x.testBit k=false:=by simpa using c1
          rw [this,nQ]
          rfl
    · simp only
      rw [if_neg (by omega)]
      have e:wOm (fun l=>x.testBit l && wHw b p q s l) n=adj n (wHw b p q) (fun l=>x.testBit l) s:=by
        rw [nf,wKm,wFw]
        simp only [nA]
      rw [e,hK]
      rfl
  generalize hD:(fun s:Nat=>(if x.testBit s=true then dnB b s else 0) - (if (s:Int) ≠ but/\adj n (wHw b p q) (fun l=>x.testBit l) s=true then shB b s else 0))=D
  have Dv:∀ s,(if x.testBit s=true then dnB b s else 0) - (if (s:Int) ≠ but/\adj n (wHw b p q) (fun l=>x.testBit l) s=true then shB b s else 0)=D s:=fun s=>by rw [<- hD]
  have Db:∀ s,s < n->-2000 <= D s/\D s <= 2000:=fun s hs=>by
    have a:=N.sh s hs;have c:=N.dn s hs
    have:=Dv s
    unfold shB dnB at this
    split at this <;> split at this <;> omega
  have tot:wNW n (wHw b p q) (shB b) (dnB b) (fun l=>x.testBit l) but=wBW D n:=by
    rw [<- hD,wKl]
    rfl
  unfold wBB
  rw [tot]
  refine wEE (m:=n) (fun k=>(wBW D k,(k:Int))) (fun s hs=>?_) ?_ rfl (by omega)
  · have hsl:(wEK b).Shots.length=n:=N.ns
    have bd:=wQf (f:=D) (M:=2000) (by omega) (n:=s) (by omega) fun i hi=>Db i (by omega)
    have d0:=Db s hs
    have a:=N.sh s hs;have c:=N.dn s hs
    simp only
    rw [if_pos (by omega),wNb hx (by omega),hH,wBW,wAO (x:=(s:Int) + 1) (by omega) (by omega)]
    have dv:=Dv s
    unfold shB dnB at dv
    have iS:idx (wEK b).Shots (s:Int)=some (gd b.Shots s):=wAo (l:=b.Shots) (by rw [N.ns];exact hs)
    have iD:idx (wEK b).Down (s:Int)=some (gd b.Down s):=wAo (l:=b.Down) (by rw [N.nd];exact hs)
    by_cases c1:x.testBit s=true
    · rw [if_pos c1,iD,hH]
      rw [if_pos c1] at dv
      have:=inn s (fun b63=>if b63=true then
              if (s:Int)=but then
                some (w64 (wBW D s + gd b.Down s))
              else
                (idx (wEK b).Shots (s:Int)).bind fun x163 =>
                some (w64 ((w64 (wBW D s + gd b.Down s)) - x163))
            else
              some (w64 (wBW D s + gd b.Down s))) (wBW D s + D s) hs (by
        rw [iS,hH,wAO (x:=wBW D s + gd b.Down s) (by omega) (by omega)]
        by_cases c2:adj n (wHw b p q) (fun l=>x.testBit l) s=true
        · rw [if_pos c2]
          by_cases c3:(s:Int)=but
          · rw [if_pos c3]
            rw [if_neg (fun g=>g.1 c3)] at dv
            congr 1;omega
          · rw [if_neg c3]
            rw [if_pos ⟨c3,c2⟩] at dv
            rw [wAO (by omega) (by omega)]
            congr 1;omega
        · rw [if_neg c2]
          rw [if_neg (fun g=>c2 g.2)] at dv
          congr 1;omega)
      rw [this,hH]
      rfl
    · rw [if_neg c1]
      rw [if_neg c1] at dv
      have:=inn s (fun b183=>if b183=true then
              if (s:Int)=but then
                some (wBW D s)
              else
                (idx (wEK b).Shots (s:Int)).bind fun x285 =>
                some (w64 (wBW D s - x285))
            else
              some (wBW D s)) (wBW D s + D s) hs (by
        rw [iS,hH]
        by_cases c2:adj n (wHw b p q) (fun l=>x.testBit l) s=true
        · rw [if_pos c2]
          by_cases c3:(s:Int)=but
          · rw [if_pos c3]
            rw [if_neg (fun g=>g.1 c3)] at dv
            congr 1;omega
          · rw [if_neg c3]
            rw [if_pos ⟨c3,c2⟩] at dv
            rw [wAO (by omega) (by omega)]
            congr 1;omega
        · rw [if_neg c2]
          rw [if_neg (fun g=>c2 g.2)] at dv
          congr 1;omega)
      rw [this,hH]
      rfl
  · simp only
    have hsl:(wEK b).Shots.length=n:=N.ns
    rw [if_neg (by omega)]
    rfl
def cdS (S:Nat->Bool):Nat->Nat
 | 0=>0
 | k + 1=>cdS S k + if S k=true then 2 ^ k else 0
theorem wJJ (S:Nat->Bool):∀ k,cdS S k < 2 ^ k
 | 0=>by simp [cdS]
 | k + 1=>by
  have:=wJJ S k
  rw [cdS,kQ]
  split <;> omega
theorem wGA (S:Nat->Bool):∀ k l,l < k->(cdS S k).testBit l=S l
 | 0,l,h=>by omega
 | k + 1,l,h=>by
  have lt:=wJJ S k
  rw [cdS]
  by_cases c:S k=true
  ·rw [if_pos c,Nat.add_comm]
   by_cases e:l=k
   ·subst e
    rw [Nat.testBit_two_pow_add_eq,kU lt,c]
    rfl
   ·rw [Nat.testBit_two_pow_add_gt (by omega)]
    exact wGA S k l (by omega)
  ·rw [if_neg c,Nat.add_zero]
   by_cases e:l=k
   ·subst e
    rw [kU lt]
    simpa using c
   ·exact wGA S k l (by omega)
theorem wOn {n:Nat} {b:wAB} (N:Near n b):wBy (wEK b)=some ((2 ^ n:Nat):Int):=by
 have n8:=N.n8
 have dl:(wEK b).Down.length=n:=N.nd
 have pw:∀ k,k <= 8->2 ^ k <= 256:=fun k hk=>kG (n:=2) (by omega) hk
 unfold wBy
 refine wEE (m:=n) (fun k=>(((2 ^ k:Nat):Int),(k:Int))) (fun k hk=>?_) ?_ rfl (by omega)
 ·simp only
  have:=pw k (by omega)
  rw [if_pos (by omega),wAO (x:=(k:Int) + 1) (by omega) (by omega),kQ]
  generalize 2 ^ k=P at this ⊢
  rw [wAO (by omega) (by omega)]
  congr 3
  omega
 ·simp only
  rw [if_neg (by omega)]
  rfl
theorem wOo {n:Nat} {b:wAB} (N:Near n b) (p q:Int) (h:(∀ S:Nat->Bool,dnL n (dnB b) S <= shL n (wHw b p q) (shB b) S) \/ ∃ S:Nat->Bool,shL n (wHw b p q) (shB b) S < dnL n (dnB b) S):wBU (wEK b) p q=some (@decide (∀ S:Nat->Bool,dnL n (dnB b) S <= shL n (wHw b p q) (shB b) S) (nN _)):=by
 have n8:=N.n8
 have pw:2 ^ n <= 256:=kG (n:=2) (by omega) n8
 unfold wBU
 rw [wOn N]
 generalize hP:2 ^ n=P at pw
 rcases h with h | ⟨S,hS⟩
 ·rw [@decide_eq_true _ (nN _) h]
  refine wEE (m:=P) (fun k=>(k:Int)) (fun k hk=>?_) ?_ rfl (by omega)
  ·rw [hH,if_pos (by omega),wIb N (by omega),hH,wGZ,if_neg (by have:=h fun l=>k.testBit l;omega),wAO (by omega) (by omega)]
   rfl
  ·rw [hH,if_neg (by omega)]
   rfl
 ·rw [@decide_eq_false _ (nN _) fun g=>by have:=g S;omega]
  have c0:=wJJ S n
  rw [hP] at c0
  have bad:shL n (wHw b p q) (shB b) (fun l=>(cdS S n).testBit l) < dnL n (dnB b) (fun l=>(cdS S n).testBit l):=by
   rw [wHT (T:=S) fun l hl=>wGA S n l hl,wHS (T:=S) fun l hl=>wGA S n l hl]
   exact hS
  refine wKB (S:=Int) (fun k st=>st=(k:Int)/\k <= cdS S n) (cdS S n) ⟨rfl,by omega⟩ (by omega) fun k st hk ⟨e,le⟩=>?_
  subst e
  rw [hH,if_pos (by omega),wIb N (by omega),hH,wGZ]
  by_cases c:0 < dnL n (dnB b) (fun l=>k.testBit l) - shL n (wHw b p q) (shB b) (fun l=>k.testBit l)
  ·rw [if_pos c]
   exact .inr rfl
  ·rw [if_neg c,wAO (by omega) (by omega)]
   have:k ≠ cdS S n:=fun e=>by rw [e] at c;omega
   exact .inl ⟨by omega,_,rfl,by omega,by omega⟩
end Go.Proofs.YtfcmijinklojbaaGreat
namespace Go.Proofs.YtfcmijinklojbaaGreat
open Go.KL
theorem wSD {l:List Int} {f:Int->Option Bool} {p:Int->Bool} (hf:∀ a,f a=some (p a)) (hn:l.length <= 9223372036854775807):wAd l f=some (l.all p):=wRB hf hn
theorem wKn {l:List (List Int)} {f:List Int->Option Bool} {p:List Int->Bool} (hf:∀ a,f a=some (p a)) (hn:l.length <= 9223372036854775807):wBa l f=some (l.all p):=by
 unfold wBa wAq wAy wBN
 have:=wEi (R:=Int) (l:=l) (f:=fun x=>(f x).bind fun x5=>some (!x5)) (p:=fun a=>!p a) (fun a _=>by rw [hf];rfl) hn id
 simp only [id] at this
 rw [this]
 simp only [hH,wEe]
 congr 1
 clear this hn
 induction l with
 | nil=>rfl
 | cons a l ih=>rw [kK,kX,<- ih];cases p a <;> simp
structure FitI (n:Nat) (b:wAB) (x:Nat->Nat->Int) (s l:Nat) (a c:List Int):Prop where
 al:a.length=n
 cl:c.length=n
 av:∀ i,i < n->gd a i=shB b i - wBW (x i) (if i < s then n else if i=s then l else 0)
 cv:∀ j,j < n->gd c j=dnB b j - wBW (fun i=>x i j) (if j < l then s + 1 else s)
 ok:∀ i j,j < n->i < s \/ (i=s/\j < l)->(0 <= x i j/\x i j <= 5)/\(0 < x i j->wDb b i j=true)
theorem wKo {S B:Type} {body:Nat->S->Option (S ⊕ B)} {n:Nat} {s0:S} {k:S->Option B} {R:B->Prop} (I:Nat->S->Prop) (hn:n <= 1000) (h0:I 0 s0) (step:∀ i s,i < n->I i s->(∃ s',body i s=some (.inl s')/\I (i + 1) s') \/ ∃ r,body i s=some (.inr r)/\R r) (cont:∀ s,I n s->∃ r,k s=some r/\R r):∃ r,jn (wDu 0 (n:Int) body s0) k=some r/\R r:=by
 rcases wEj I R hn h0 step with ⟨s,e,h⟩ | ⟨r,e,h⟩
 ·rw [e];exact cont s h
 ·rw [e];exact ⟨r,rfl,h⟩
theorem wSE {S B S2:Type} {body:Nat->S->Option (S ⊕ (S2 ⊕ B))} {n:Nat} {s0:S} {k:S->Option (S2 ⊕ B)} {R:B->Prop} {J:S2->Prop} (I:Nat->S->Prop) (hn:n <= 1000) (h0:I 0 s0) (step:∀ i s,i < n->I i s->(∃ s',body i s=some (.inl s')/\I (i + 1) s') \/ ∃ r,body i s=some (.inr (.inr r))/\R r) (cont:∀ s,I n s->(∃ s',k s=some (.inl s')/\J s') \/ ∃ r,k s=some (.inr r)/\R r) :
  (∃ s',jn (wDu 0 (n:Int) body s0) k=some (.inl s')/\J s') \/ ∃ r,jn (wDu 0 (n:Int) body s0) k=some (.inr r)/\R r:=by
 rcases wEj I (fun r=>∃ q,r=.inr q/\R q) hn h0 (fun i s hi h=>(step i s hi h).imp id fun ⟨r,e,hr⟩=>⟨.inr r,e,r,rfl,hr⟩) with ⟨s,e,h⟩ | ⟨r,e,q,rfl,h⟩
 ·rw [e];exact cont s h
 ·rw [e];exact .inr ⟨q,rfl,h⟩
theorem wQg {n:Nat} {b:wAB} (G:GoodB n b) {t:List (List Int)} (tl:t.length=n) (rl:∀ s,s < n->(gd t s).length=n):∃ r,wBc b t=some r/\r.2=0/\(r.1=true ↔ Asg n (wDb b) (shB b) (dnB b) (fun s l=>gd (gd t s) l)):=by
 have hn:=G.nb
 obtain ⟨may,m,e1,_,K⟩:=wFl G
 unfold wBc
 rw [e1,hH]
 simp only [if_true]
 rw [if_pos (by rw [tl,G.ns]),wKn (f:=fun x=>wBE x (↑b.Shots.length:Int)) (p:=fun r=>decide ((r.length:Int)=(b.Shots.length:Int))) (fun r=>rfl) (by omega),hH,if_pos (by
  rw [nD]
  intro r hr
  obtain ⟨i,hi,rfl⟩:=wPP hr
  exact decide_eq_true (by rw [rl i (by omega),G.ns])),wKC (by rw [G.ns];omega),hH,wKC (by rw [G.nd];omega),hH,tl]
 generalize hx:(fun s l=>gd (gd t s) l)=x
 have xv:∀ s l,gd (gd t s) l=x s l:=fun s l=>by rw [<- hx]
 refine wKo (fun s st=>FitI n b x s 0 st.1 st.2) (by omega) ⟨G.ns,G.nd,fun i hi=>?_,fun j hj=>?_,fun i j hj h=>?_⟩ ?_ ?_
 ·simp only
  rw [if_neg (by omega)]
  by_cases e:i=0
  ·rw [if_pos e,wBW,kP];rfl
  ·rw [if_neg e,wBW,kP];rfl
 ·simp only
  rw [if_neg (by omega),wBW,kP];rfl
 ·omega
 ·rintro s ⟨a,c⟩ hs I
  simp only at I ⊢
  rw [wAo (by omega),hH,rl s hs]
  refine wSE (fun l st=>FitI n b x s l st.1 st.2) (by omega) I ?_ ?_
  ·rintro l ⟨a,c⟩ hl I
   simp only at I ⊢
   have al:=I.al;have cl:=I.cl
   rw [wAo (by rw [rl s hs];exact hl),hH,xv]
   have hb:(if x s l < 0 then some true else if 5 < x s l then some true else if 0 < x s l then (wAj ⟨b,may,Arr.fill 64 0,Arr.fill 8 0,m⟩ (s:Int) (l:Int)).bind fun x514=>some (!x514) else some false)=some (!(decide (0 <= x s l/\x s l <= 5) && (decide (x s l <= 0) || wDb b s l))):=by
    by_cases h1:x s l < 0
    ·rw [if_pos h1,decide_eq_false (show ¬ (0 <= x s l/\x s l <= 5) by omega)];rfl
    rw [if_neg h1]
    by_cases h2:5 < x s l
    ·rw [if_pos h2,decide_eq_false (show ¬ (0 <= x s l/\x s l <= 5) by omega)];rfl
    rw [if_neg h2,decide_eq_true (show 0 <= x s l/\x s l <= 5 by omega),nO]
    by_cases h3:0 < x s l
    ·rw [if_pos h3,K.can_is hs hl,hH,decide_eq_false (show ¬ x s l <= 0 by omega),Bool.false_or]
    ·rw [if_neg h3,decide_eq_true (show x s l <= 0 by omega),Bool.true_or];rfl
   rw [hb,hH]
   by_cases h:(decide (0 <= x s l/\x s l <= 5) && (decide (x s l <= 0) || wDb b s l))=true
   ·rw [h,if_neg (by decide)]
    rw [nA,decide_eq_true_iff,nR,decide_eq_true_iff] at h
    rw [wGf (by omega) (by omega),hH,wGf (by omega) (by omega),hH]
    have a1:=I.av s hs
    rw [if_neg (by omega),if_pos rfl] at a1
    have c1:=I.cv l hl
    rw [if_neg (by omega)] at c1
    have b1:=G.sh s hs;have b2:=G.dn l hl
    have s1:0 <= wBW (x s) l/\wBW (x s) l <= 5 * (l:Int):=by
     have g:∀ j,j < l->0 <= x s j/\x s j <= 5:=fun j hj=>(I.ok s j (by omega) (.inr ⟨rfl,hj⟩)).1
     have:∀ k,k <= l->0 <= wBW (x s) k/\wBW (x s) k <= 5 * (k:Int):=by
      intro k
      induction k with
      | zero=>intro _;simp only [wBW];omega
      | succ k ih=>intro hk;have:=ih (by omega);have:=g k (by omega);rw [wBW];omega
     exact this l (nG _)
    have s2:0 <= wBW (fun i=>x i l) s/\wBW (fun i=>x i l) s <= 5 * (s:Int):=by
     have g:∀ i,i < s->0 <= x i l/\x i l <= 5:=fun i hi=>(I.ok i l hl (.inl hi)).1
     have:∀ k,k <= s->0 <= wBW (fun i=>x i l) k/\wBW (fun i=>x i l) k <= 5 * (k:Int):=by
      intro k
      induction k with
      | zero=>intro _;simp only [wBW];omega
      | succ k ih=>intro hk;have:=ih (by omega);have:=g k (by omega);rw [wBW];omega
     exact this s (nG _)
    unfold shB at a1;unfold dnB at c1
    rw [wAO (by omega) (by omega),wAO (by omega) (by omega)]
    refine .inl ⟨_,rfl,by simp [al],by simp [cl],fun i hi=>?_,fun j hj=>?_,fun i j hj q=>?_⟩
    ·simp only
     rw [wPN (by omega) (by omega)]
     by_cases e:i=s
     ·subst e
      rw [if_pos rfl,if_neg (by omega),if_pos rfl,wBW,a1]
      unfold shB;omega
     ·rw [if_neg e,I.av i hi]
      by_cases e2:i < s
      ·rw [if_pos e2,if_pos e2]
      ·rw [if_neg e2,if_neg e2,if_neg e,if_neg e]
    ·simp only
     rw [wPN (by omega) (by omega)]
     by_cases e:j=l
     ·subst e
      rw [if_pos rfl,if_pos (by omega),wBW,c1]
      unfold dnB;omega
     ·rw [if_neg e,I.cv j hj]
      by_cases e2:j < l
      ·rw [if_pos e2,if_pos (by omega)]
      ·rw [if_neg e2,if_neg (by omega)]
    ·by_cases e:i=s/\j=l
     ·rw [e.1,e.2]
      exact ⟨h.1,fun p=>h.2.elim (fun q=>by omega) id⟩
     ·exact I.ok i j hj (by omega)
   ·have hf:(decide (0 <= x s l/\x s l <= 5) && (decide (x s l <= 0) || wDb b s l))=false:=by simpa using h
    rw [hf,Bool.not_false,if_pos rfl]
    refine .inr ⟨_,rfl,rfl,⟨fun q=>(by cases q),fun A=>absurd ?_ h⟩⟩
    have a1:=A.nn s l hs hl
    have a2:=wHQ (f:=fun i=>x i l) (fun i hi=>A.nn i l hi hl) hs
    have a3:=A.col l hl
    have b2:=G.dn l hl
    unfold dnB at a3
    rw [nA,decide_eq_true_iff,nR,decide_eq_true_iff]
    refine ⟨by omega,?_⟩
    by_cases p:0 < x s l
    ·exact .inr (A.pos s l hs hl p)
    ·exact .inl (by omega)
  ·rintro ⟨a,c⟩ I
   refine .inl ⟨_,rfl,I.al,I.cl,fun i hi=>?_,fun j hj=>?_,fun i j hj q=>I.ok i j hj (by omega)⟩
   ·have:=I.av i hi
    simp only at this ⊢
    rw [this]
    by_cases e:i < s
    ·rw [if_pos e,if_pos (by omega)]
    ·rw [if_neg e]
     by_cases e2:i=s
     ·rw [if_pos e2,if_pos (by omega)]
     ·rw [if_neg e2,if_neg (by omega)]
      split <;> rfl
   ·have:=I.cv j hj
    simp only at this ⊢
    rw [this,if_pos hj,if_neg (by omega)]
 ·rintro ⟨a,c⟩ I
  simp only at I ⊢
  have av:∀ i,i < n->gd a i=shB b i - wBW (x i) n:=fun i hi=>by have:=I.av i hi;rwa [if_pos hi] at this
  have cv:∀ j,j < n->gd c j=dnB b j - wBW (fun i=>x i j) n:=fun j hj=>by have:=I.cv j hj;rwa [if_neg (by omega)] at this
  have base:(∀ i,i < n->0 <= gd a i)->(∀ j,j < n->gd c j=0)->Asg n (wDb b) (shB b) (dnB b) x:=fun h1 h2 =>
   ⟨fun i j hi hj=>(I.ok i j hj (.inl hi)).1.1,fun i j hi hj q=>(I.ok i j hj (.inl hi)).2 q,fun i hi=>by have:=h1 i hi;have:=av i hi;omega,fun j hj=>by have:=h2 j hj;have:=cv j hj;omega⟩
  rw [wSD (f:=wBR) (p:=fun q=>decide (0 <= q)) (fun q=>rfl) (by rw [I.al];omega),hH]
  have i1:a.all (fun q=>decide (0 <= q))=true ↔ ∀ i,i < n->0 <= gd a i:=by
   rw [nD]
   constructor
   ·intro h i hi;exact of_decide_eq_true (h _ (wCp (by rw [I.al];exact hi)))
   ·intro h q hq;obtain ⟨i,hi,rfl⟩:=wPP hq;exact decide_eq_true (h i (by rw [<- I.al];exact hi))
  have i2:c.all (fun q=>decide (q=0))=true ↔ ∀ j,j < n->gd c j=0:=by
   rw [nD]
   constructor
   ·intro h i hi;exact of_decide_eq_true (h _ (wCp (by rw [I.cl];exact hi)))
   ·intro h q hq;obtain ⟨i,hi,rfl⟩:=wPP hq;exact decide_eq_true (h i (by rw [<- I.cl];exact hi))
  by_cases h1:a.all (fun q=>decide (0 <= q))=true
  ·rw [if_pos h1,wSD (f:=wBS) (p:=fun q=>decide (q=0)) (fun q=>rfl) (by rw [I.cl];omega),hH]
   refine ⟨_,rfl,rfl,fun q=>base (i1.1 h1) (i2.1 q),fun A=>i2.2 fun j hj=>?_⟩
   rw [cv j hj,A.col j hj];omega
  ·rw [if_neg h1]
   refine ⟨_,rfl,rfl,fun q=>(by cases q),fun A=>absurd (i1.2 fun i hi=>?_) h1⟩
   rw [av i hi]
   have:=A.row i hi
   omega
end Go.Proofs.YtfcmijinklojbaaGreat
namespace Go.Proofs.YtfcmijinklojbaaGreat
open Go.KL
theorem wKE (b:wAB):wHw b (-1) (-1)=wDb b:=by
 funext s l
 unfold wHw
 rw [decide_eq_false (show ¬ (s:Int)=-1 by omega),nQ,Bool.not_false,Bool.and_true]
theorem GoodB.near {n:Nat} {b:wAB} (G:GoodB n b):Near n b :=
 ⟨G.nb.2,G.ns,G.nd,fun s hs=>by have:=G.sh s hs;omega,fun l hl=>by have:=G.dn l hl;omega,G.al⟩
def wRC (n:Nat) (b:wAB) (x:Nat->Nat->Int) (i k:Nat):Prop:=(0 <= x i k/\x i k <= 5)/\(0 <= x k i/\x k i <= 5)/\(0 < x i k->wDb b i k=true)
theorem wKp {n:Nat} {b:wAB} (G:GoodB n b) (hc:wFy b=0) {t:List (List Int)} (tl:t.length=n) (rl:∀ s,s < n->(gd t s).length=n):∃ r,wAV (wEK b) t=some r/\r.2=0/\(r.1=true ↔ Asg n (wDb b) (shB b) (dnB b) (fun s l=>gd (gd t s) l)):=by
 have hn:=G.nb;have ns:=G.ns;have nd:=G.nd
 have hS:(wEK b).Shots=b.Shots:=rfl
 have hD:(wEK b).Down=b.Down:=rfl
 unfold wAV
 rw [wDs (by omega) G.al,hc,hH,if_pos rfl,hS,hD,ns,if_pos (by omega)]
 generalize hx:(fun s l=>gd (gd t s) l)=x
 have xv:∀ s l,gd (gd t s) l=x s l:=fun s l=>by rw [<- hx]
 refine wKo (fun _ _=>True) (by omega) trivial (fun i _ hi _=>.inl ⟨(),?_,trivial⟩) (fun _ _=>?_)
 ·rw [wAo (by omega),hH,if_pos (by rw [rl i hi])]
 refine wKo (fun i _=>∀ i',i' < i->(∀ k,k < n->wRC n b x i' k)/\wBW (x i') n <= shB b i'/\wBW (fun k=>x k i') n=dnB b i') (by omega) (fun i' h=>by omega) ?_ ?_
 ·intro i _ hi I
  have no:∀ A:Asg n (wDb b) (shB b) (dnB b) x,∀ k,k < n->wRC n b x i k:=fun A k hk=>by
   have u:∀ i k,i < n->k < n->0 <= x i k/\x i k <= 5:=fun i k hi hk=>by
    have a1:=A.nn i k hi hk
    have a2:=wHQ (f:=fun i=>x i k) (fun i hi=>A.nn i k hi hk) hi
    have a3:=A.col k hk
    have b2:=G.dn k hk
    unfold dnB at a3
    omega
   exact ⟨u i k hi hk,u k i hk hi,A.pos i k hi hk⟩
  refine wSE (fun k st=>st=(wBW (x i) k,wBW (fun k=>x k i) k)/\∀ k',k' < k->wRC n b x i k') (by omega) ⟨rfl,fun k' h=>by omega⟩ ?_ ?_
  ·rintro k ⟨s1,s2⟩ hk ⟨e,ok⟩
   injection e with e1 e2
   subst e1 e2
   simp only
   have iT:∀ a,a < n->idx t (a:Int)=some (gd t a):=fun a ha=>wAo (by omega)
   have iR:∀ a c,a < n->c < n->idx (gd t a) (c:Int)=some (x a c):=fun a c ha hc=>by rw [wAo (by rw [rl a ha];exact hc),xv]
   simp only [iT i hi,iR i k hi hk,iT k hk,iR k i hk hi,hH,wFz,wNa G.al]
   have hb:(if (!decide (0 <= x i k/\x i k <= 5))=true then some true else if (!decide (0 <= x k i/\x k i <= 5))=true then some true else if 0 < x i k then some (!wDb b i k) else some false)=some (!@decide (wRC n b x i k) (nN _)):=by
    by_cases c:wRC n b x i k
    ·obtain ⟨c1,c2,c3⟩:=c
     rw [@decide_eq_true _ (nN _) ⟨c1,c2,c3⟩,decide_eq_true c1,decide_eq_true c2,if_neg (by decide),if_neg (by decide)]
     by_cases c4:0 < x i k
     ·rw [if_pos c4,c3 c4]
     ·rw [if_neg c4];rfl
    ·rw [@decide_eq_false _ (nN _) c]
     by_cases c1:0 <= x i k/\x i k <= 5
     ·rw [decide_eq_true c1,if_neg (by decide)]
      by_cases c2:0 <= x k i/\x k i <= 5
      ·rw [decide_eq_true c2,if_neg (by decide)]
       by_cases c4:0 < x i k
       ·rw [if_pos c4]
        cases c5:wDb b i k with
        | true=>exact absurd ⟨c1,c2,fun _=>c5⟩ c
        | false=>rfl
       ·exact absurd ⟨c1,c2,fun q=>absurd q c4⟩ c
      ·rw [decide_eq_false c2,if_pos (by decide)];rfl
     ·rw [decide_eq_false c1,if_pos (by decide)];rfl
   rw [hb,hH]
   by_cases c:wRC n b x i k
   ·rw [@decide_eq_true _ (nN _) c,if_neg (by decide)]
    have bd:∀ (f:Nat->Int),(∀ j,j < k->0 <= f j/\f j <= 5)->∀ m,m <= k->0 <= wBW f m/\wBW f m <= 5 * (m:Int):=by
     intro f hf m
     induction m with
     | zero=>intro _;simp only [wBW];omega
     | succ m ih=>intro hm;have:=ih (by omega);have:=hf m (by omega);rw [wBW];omega
    have b1:=bd (x i) (fun j hj=>(ok j hj).1) k (nG _)
    have b2:=bd (fun j=>x j i) (fun j hj=>(ok j hj).2.1) k (nG _)
    have c1:=c.1;have c2:=c.2.1
    rw [wAO (by omega) (by omega),wAO (by omega) (by omega)]
    refine .inl ⟨_,rfl,rfl,fun k' hk'=>?_⟩
    by_cases e:k'=k
    ·rw [e];exact c
    ·exact ok k' (by omega)
   ·rw [@decide_eq_false _ (nN _) c,if_pos (by decide)]
    exact .inr ⟨_,rfl,rfl,fun q=>(by cases q),fun A=>absurd (no A k hk) c⟩
  ·rintro ⟨s1,s2⟩ ⟨e,ok⟩
   injection e with e1 e2
   subst e1 e2
   simp only
   rw [wAo (by omega),hH]
   by_cases c1:gd b.Shots i < wBW (x i) n
   ·rw [if_pos c1]
    exact .inr ⟨_,rfl,rfl,fun q=>(by cases q),fun A=>absurd (A.row i hi) (by unfold shB;omega)⟩
   ·rw [if_neg c1,wAo (by omega),hH]
    by_cases c2:wBW (fun k=>x k i) n=gd b.Down i
    ·rw [if_pos c2]
     refine .inl ⟨_,rfl,fun i' h=>?_⟩
     by_cases e:i'=i
     ·rw [e];exact ⟨ok,by unfold shB;omega,c2⟩
     ·exact I i' (by omega)
    ·rw [if_neg c2]
     exact .inr ⟨_,rfl,rfl,fun q=>(by cases q),fun A=>absurd (A.col i hi) c2⟩
 ·intro _ I
  exact ⟨_,rfl,rfl,fun _=>⟨fun s l hs hl=>((I s hs).1 l hl).1.1,fun s l hs hl q=>((I s hs).1 l hl).2.2 q,fun s hs=>(I s hs).2.1,fun l hl=>(I l hl).2.2⟩,fun _=>rfl⟩
theorem wQh {S T:Nat->Bool} {l:Nat} (h1:S l=false) (h2:T l=true) (h:∀ i,i ≠ l->T i=S i):∀ n,l < n->cdS T n=cdS S n + 2 ^ l:=by
 have same:∀ n,n <= l->cdS T n=cdS S n:=by
  intro n
  induction n with
  | zero=>intro _;rfl
  | succ n ih=>intro hn;rw [cdS,cdS,ih (by omega),h n (by omega)]
 intro n
 induction n with
 | zero=>intro hl;omega
 | succ n ih =>
  intro hl
  rw [cdS,cdS]
  by_cases e:l=n
  ·subst e
   rw [same l (nG _),h1,h2,if_pos rfl,if_neg (by decide)]
   rfl
  ·rw [ih (by omega),h n (fun q=>e q.symm)]
   omega
theorem wJK {S T:Nat->Bool}:∀ n,(∀ l,l < n->S l=T l)->cdS S n=cdS T n
 | 0,_=>rfl
 | n + 1,h=>by rw [cdS,cdS,wJK n fun l hl=>h l (by omega),h n (by omega)]
theorem wKq:∀ n,cdS (fun _=>false) n=0
 | 0=>rfl
 | n + 1=>by rw [cdS,wKq n];rfl
theorem wNc {n:Nat} {b:wAB} (nd:b.Down.length=n) (n8:1 <= n/\n <= 8) {L:List Int} (hl:L.length <= 1000):∃ r,wBn (wEK b) L=some r/\r.2=wDr n L/\(wDr n L=0->r.1=(cdS (inL L) n:Int)):=by
 have hD:(wEK b).Down=b.Down:=rfl
 unfold wBn
 rw [hD,nd,wAO (by omega) (by omega)]
 rw [wGX (n:=L.length) (fun k=>decide (0 <= gd L k/\gd L k <= (n:Int) - 1)) ((0:Int),(1:Int)) (by omega) fun k hk=>?_,<- wGY (fun l=>decide (0 <= l/\l <= (n:Int) - 1))]
 ·by_cases c:L.all (fun l=>decide (0 <= l/\l <= (n:Int) - 1))=true
  case neg =>
   rw [if_neg c]
   have e:wDr n L=1:=by unfold wDr;rw [if_neg c]
   exact ⟨_,rfl,e.symm,fun q=>by omega⟩
  rw [if_pos c]
  simp only [wEy]
  have rg:∀ k,k < L.length->0 <= gd L k/\gd L k <= (n:Int) - 1:=fun k hk=>of_decide_eq_true (nD.1 c _ (wCp hk))
  have pw:∀ k,k <= 8->2 ^ k <= 256:=fun k hk=>kG (n:=2) (by omega) hk
  have lc:wDr n L=if wKD (fun k=>decide (gd L k < gd L (k + 1))) (L.length - 1) 0=true then 0 else 4:=by unfold wDr;rw [if_pos c]
  refine wKo (fun k st=>st=(cdS (inL (L.take k)) n:Int)/\∀ j,j + 1 < k->gd L j < gd L (j + 1)) hl ⟨?_,fun j h=>by omega⟩ ?_ ?_
  ·have:cdS (inL (L.take 0)) n=0:=by
    rw [wJK (T:=fun _=>false) n fun l _=>by simp [inL],wKq]
   rw [this];rfl
  ·rintro k st hk ⟨rfl,ok⟩
   have rk:=rg k hk
   obtain ⟨l,hlk⟩:∃ l:Nat,gd L k=l:=⟨(gd L k).toNat,by omega⟩
   have hb:(if 0 < (k:Int) then (idx L (k:Int)).bind fun x95=>(idx L (w64 ((k:Int) - 1))).bind fun x104=>some (decide (x95 <= x104)) else some false)=some (decide (0 < k) && decide (gd L k <= gd L (k - 1))):=by
    by_cases c0:0 < k
    ·rw [if_pos (by omega),wAo hk,hH,wAO (by omega) (by omega),show (k:Int) - 1=((k - 1:Nat):Int) by omega,wAo (by omega),hH,decide_eq_true c0,nO]
    ·rw [if_neg (by omega),decide_eq_false c0,nQ]
   rw [hb,hH]
   by_cases cb:0 < k/\gd L k <= gd L (k - 1)
   ·rw [decide_eq_true cb.1,decide_eq_true cb.2,if_pos (show (true && true)=true from rfl)]
    have e:wDr n L=4:=by
     rw [lc,if_neg]
     rw [wCU]
     intro q
     have:=of_decide_eq_true (q (k - 1) (kS _) (by omega))
     rw [show k - 1 + 1=k by omega] at this
     omega
    exact .inr ⟨_,rfl,e.symm,fun q=>by omega⟩
   ·have:(decide (0 < k) && decide (gd L k <= gd L (k - 1)))=false:=by
     rw [Bool.and_eq_false_iff,decide_eq_false_iff_not,decide_eq_false_iff_not]
     by_cases c0:0 < k
     ·exact .inr fun q=>cb ⟨c0,q⟩
     ·exact .inl c0
    rw [this,if_neg (by decide)]
    have ok':∀ j,j + 1 < k + 1->gd L j < gd L (j + 1):=fun j hj=>by
     by_cases e:j + 1=k
     ·have:k - 1=j:=by omega
      rw [this] at cb
      rw [e]
      omega
     ·exact ok j (by omega)
    have inc:∀ i,i < k->gd L i < gd L k:=by
     have key:∀ j,j <= k->∀ i,i < j->gd L i < gd L j:=by
      intro j
      induction j with
      | zero=>intro _ i hi;omega
      | succ j ih =>
       intro hj i hi
       have a:=ok' j (by omega)
       by_cases e:i=j
       ·rw [e];exact a
       ·have:=ih (by omega) i (by omega);omega
     exact key k (nG _)
    have lt:=wJJ (inL (L.take k)) n
    have p1:=pw n n8.2
    have p2:=pw l (by omega)
    have add:cdS (inL (L.take (k + 1))) n=cdS (inL (L.take k)) n + 2 ^ l:=by
     refine wQh ?_ ?_ (fun i hi=>?_) n (by omega)
     ·rw [Bool.eq_false_iff]
      intro q
      obtain ⟨j,hj,e⟩:=wPP (wDW.1 q)
      rw [nr] at hj
      have e2:gd (L.take k) j=gd L j:=by
       unfold gd
       rw [nE,nE,ni (by omega)]
      have:=inc j (by omega)
      rw [<- e2,e] at this
      omega
     ·exact wDW.2 (by rw [wFP hk,nI,nV];exact .inr hlk.symm)
     ·rw [nf,wDW,wDW,wFP hk,nI,nV,hlk]
      constructor
      ·rintro (q | q)
       ·exact q
       ·omega
      ·exact .inl
    refine .inl ⟨((cdS (inL (L.take k)) n + 2 ^ l:Nat):Int),?_,by rw [add],ok'⟩
    refine wEE (m:=l) (fun i=>(((2 ^ i:Nat):Int),(i:Int))) (fun i hi=>?_) ?_ rfl (by omega)
    ·have p3:=pw i (by omega)
     simp only
     rw [wAo hk,hH,hlk,if_pos (by omega),wAO (x:=(i:Int) + 1) (by omega) (by omega),kQ]
     generalize 2 ^ i=P at p3 ⊢
     rw [wAO (by omega) (by omega)]
     congr 3
     omega
    ·simp only
     rw [wAo hk,hH,hlk,if_neg (by omega)]
     generalize 2 ^ l=P at p2 ⊢
     rw [wAO (by omega) (by omega)]
     rfl
  ·rintro st ⟨rfl,ok⟩
   rw [kA]
   have e:wDr n L=0:=by
    rw [lc,if_pos]
    rw [wCU]
    intro j _ hj
    exact decide_eq_true (ok j (by omega))
   exact ⟨_,rfl,e.symm,fun _=>rfl⟩
 ·rw [wAo hk,hH,wFz,hH]
  by_cases c:0 <= gd L k/\gd L k <= (n:Int) - 1
  ·rw [decide_eq_true c,if_neg (by decide),if_pos rfl]
  ·rw [decide_eq_false c,if_pos (by decide),if_neg (by decide)];rfl
end Go.Proofs.YtfcmijinklojbaaGreat
namespace Go.Proofs.YtfcmijinklojbaaGreat
open Go.KL
section
variable {n:Nat} {b:wAB}
def wQi (h:Arr Int 64) (n k:Nat):List (List Int):=(nj k).map fun s=>((h.l.drop (s * 8)).take 8).take n
def tab (h:Arr Int 64) (n:Nat):List (List Int):=wQi h n n
theorem wKr {h:Arr Int 64} {n s l:Nat} (n8:n <= 8) (hs:s < n) (hl:l < n):gd (gd (tab h n) s) l=h.get (s * 8 + l):=by
 have e1:gd (tab h n) s=((h.l.drop (s * 8)).take 8).take n:=by
  unfold tab wQi
  rw [wKA _ (by simpa using hs)]
  have:gd (nj n) s=s:=by
   unfold gd
   rw [nE,List.getElem?_range hs]
   rfl
  rw [this]
 rw [e1]
 unfold gd Arr.get
 rw [nE,nE,ni hl,ni (by omega),List.getElem?_drop]
theorem wNd (G:GoodB n b):∃ t c,wBx b=some (t,c)/\((Can n (wDb b) (shB b) (dnB b)/\c=0/\∃ h u,Fl n (wDb b) (shB b) (dnB b) h u/\t=tab h n) \/ (¬ Can n (wDb b) (shB b) (dnB b)/\t=[]/\c=7)):=by
 have hn:=G.nb
 obtain ⟨may,m,e1,_,K⟩:=wFl G
 obtain ⟨⟨L,h,u,m2⟩,e2,S⟩:=G.solve K m
 unfold wBx wCY
 rw [e1,hH]
 simp only [if_true]
 rw [e2,hH]
 simp only
 by_cases c:L=[]
 ·have C:Can n (wDb b) (shB b) (dnB b):=S.none_iff.1 c
  rw [if_pos c,hH]
  simp only [if_true]
  rw [G.ns,G.nd]
  rw [wDU (S:=List (List Int)) (n:=n) (fun k=>wQi h n k) (s0:=[]) rfl (by omega) fun k hk=>?_]
  ·have F:Fl n (wDb b) (shB b) (dnB b) h u:=by
    rcases S with ⟨_,F⟩ | ⟨q,_⟩
    ·exact F
    ·exact absurd c q
   exact ⟨_,_,rfl,.inl ⟨C,rfl,h,u,F,rfl⟩⟩
  ·have hh:=h.h
   have hlen:((h.l.drop (k * 8)).take 8).length=8:=by rw [nr,List.length_drop];omega
   rw [wGf (by omega) (by omega),hH,cut_B (by rw [hlen];omega),hH,wKC (by rw [nr];omega),hH,wHO (by unfold wQi;simp only [nu,List.length_range,List.length_cons,nv];omega),hH]
   unfold wQi
   rw [List.range_succ,kR]
   rfl
 ·have nC:¬ Can n (wDb b) (shB b) (dnB b):=fun q=>c (S.none_iff.2 q)
  rw [if_neg c,hH]
  simp only
  rw [if_neg (by decide)]
  exact ⟨_,_,rfl,.inr ⟨nC,rfl,rfl⟩⟩
end
end Go.Proofs.YtfcmijinklojbaaGreat
namespace Go.Proofs.YtfcmijinklojbaaGreat
open Go.KL
theorem wIc {x:List Int} (hx:x.length <= 1000):wAb x=some x:=by
 unfold wAb
 rw [wHO (by simp only [nv];omega)]
 rfl
theorem wQj {x:List wAC} (hx:x.length <= 1000):wAf x=some x:=by
 unfold wAf
 rw [wHO (by simp only [nv];omega)]
 rfl
end Go.Proofs.YtfcmijinklojbaaGreat
