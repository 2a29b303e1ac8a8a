import Derived.Test.YtfcmijinklojbaaU1
import Derived.Test.YtfcmijinklojbaaU0
set_option linter.all false
open Option renaming bind_some->hH
open Bool renaming and_eq_true->nA,false_eq_true->nG,true_and->nU,false_and->nV,or_eq_true->nY,eq_iff_iff->nh,not_eq_true'->kL
open Nat renaming eq_of_beq_eq_true->nB,le_refl->nH,beq->nN,blt_eq->nr,zero_add->kC,blt->kG,le_trans->kH,lt_of_lt_of_le->kK,testBit_lt_two_pow->kR,pow_le_pow_right->kU,lt_irrefl->kV,sub_self->kZ,pow_succ->kf,zero_le->kh,ble_eq->ki
open Classical renaming propDecidable->nD,byContradiction->kB
open List renaming all_eq_true->nE,mem_cons->nI,cons_append->nK,mem_append->nL,getD_eq_getElem?_getD->nM,pairwise_iff_getElem->nO,map_cons->nR,nil_append->nS,append_of_mem->nT,append_assoc->nX,pairwise_cons->nZ,mem_append_right->na,getElem?_eq_some_iff->nc,getElem?_eq_getElem->nf,mem_singleton->ng,mem_append_left->nj,drop_eq_getElem_cons->nk,drop_eq_nil_of_le->nl,mem_range->nq,pairwise_append->nt,getElem?_append_right->nu,append_nil->nw,nodup_cons->ny,length_nil->nz,mem_filter->kA,range->kD,any_eq_true->kE,length_map->kJ,getElem?_append_left->kM,mem_map->kP,take_length->kQ,mem_cons_of_mem->kS,any_cons->kW,getElem_of_mem->kX,mem_filterMap->kc
open Option.some renaming inj->nJ,injEq->kg
open List.cons renaming injEq->nW,inj->kk
open Int renaming toNat_natCast->ni,le_refl->nv,add_zero->kO,toNat_of_nonneg->kY,le_trans->ke
namespace Go.KX
noncomputable section
open Go.RowKit Go.KL
def wDI:List AOd->List Pos
 | []=>[]
 | .t p :: l=>p :: wDI l
 | .c _ :: l=>wDI l
def wMW:AOp->Bool
 | .new _ _ | .box _ _ | .mkm | .mks _ _ _ _ _ _ | .blds _ _ _ _=>true
 | _=>false
def wCo (a:AO):List Pos:=wDI (wBz a.op) ++ (match a.grd with | some (p,_)=>[p] | none=>[])
def Sub (a:AOp) (o:Oper):Prop:=∀ t,Operand.tmp t ∈ o.op.operands->∃ p ∈ wDI (wBz a),p.nat - 1=t
def wLJ (l:List Oper) (x i:Nat):Prop:=∀ S:Nat->Bool,(∀ k,k < l.length->S k=true->∀ j ∈ prI l k,S j=true)->(∀ j ∈ prI l i,S j=true)->S x=true
def wHk (acc:List Nat):List Nat->Nat
 | []=>0
 | p :: ps=>wHk acc ps ||| (2 ^ p ||| acc.getD p 0)
def wQI (acc:List Nat):List Oper->List Nat
 | []=>acc
 | o :: r=>wQI (acc ++ [wHk acc (wLj o)]) r
theorem wIV {acc:List Nat} {x:Nat}:∀ {ps:List Nat},(wHk acc ps).testBit x=true->∃ p ∈ ps,x=p \/ (acc.getD p 0).testBit x=true
 | [],h=>by simp [wHk] at h
 | p :: ps,h=>by
  simp only [wHk,Nat.testBit_or,nY,Nat.testBit_two_pow,decide_eq_true_eq] at h
  rcases h with h | h | h
  ·obtain ⟨q,h1,h2⟩:=wIV h
   exact ⟨q,by simp [h1],h2⟩
  ·exact ⟨p,by simp,.inl h.symm⟩
  ·exact ⟨p,by simp,.inr h⟩
theorem wKX {l:List Oper} (hpr:∀ i,i < l.length->∀ j ∈ prI l i,j < i):∀ (rest done:List Oper) (acc:List Nat),l=done ++ rest->acc.length=done.length->(∀ i x,(acc.getD i 0).testBit x=true->wLJ l x i) ->
  ∀ i x,((wQI acc rest).getD i 0).testBit x=true->wLJ l x i
 | [],done,acc,_,_,h,i,x,hx=>h i x hx
 | o :: r,done,acc,hl,hlen,h,i,x,hx=>by
  refine wKX hpr r (done ++ [o]) (acc ++ [wHk acc (wLj o)]) (by rw [hl];simp) (by simp [hlen]) ?_ i x hx
  intro i x hx
  rcases Nat.lt_trichotomy i acc.length with hi | hi | hi
  ·rw [nM,kM hi,<- nM] at hx
   exact h i x hx
  ·rw [nM,hi,nu (nH _),kZ] at hx
   have hx:(wHk acc (wLj o)).testBit x=true:=hx
   have hlt:done.length < l.length:=by rw [hl];simp
   have hp:prI l done.length=wLj o:=by
    unfold prI
    rw [hl,nu (nH _),kZ]
    rfl
   obtain ⟨p,h1,h2⟩:=wIV hx
   intro S hdc hS
   rw [hi,hlen] at hS
   have hSp:S p=true:=hS p (by rw [hp];exact h1)
   rcases h2 with rfl | h2
   ·exact hSp
   ·have:=hpr _ hlt p (by rw [hp];exact h1)
    exact h p x h2 S hdc (hdc p (by omega) hSp)
  ·rw [nM,List.getElem?_eq_none (by simp;omega)] at hx
   simp at hx
def dne (b:AO) (p:Pos):Bool:=match b.dst with
 | none=>true
 | some q=>!Pos.beq q p
def subB (a:AOp) (o:Oper):Bool:=o.op.operands.toList.all fun
 | .tmp t=>(wDI (wBz a)).any fun p=>nN p.nat (t + 1)
 | _=>true
def kdOK (a:AO):Bool:=wCh a.kd || (a.dst.isSome && (nN a.kd 1 || (nN a.kd 3 || ((nN a.kd 6 && nN (kdA a.op) 3) || ((nN a.kd 4 && wMW a.op) || (Nat.ble 8 a.kd && nN (kdA a.op) 1))))))
def zld (m kd:Nat):Nat->List AO->Bool
 | _,[]=>true
 | n,b :: d=>(!Nat.beq b.kd 0 || (m.testBit b.ix || kG (n + 8) kd)) && zld m kd (match wCh b.kd with | true=>n + 1 | false=>n) d
def zop (m:Nat) (l:List Oper) (d:List AO) (a:AO) (t:List AO):Bool :=
 (!wCh a.kd || d.all fun b=>m.testBit b.ix) &&
 ((match a.dst with | none=>true | some p=>d.all (fun b=>dne b p) && t.all (fun b=>dne b p)) &&
 ((wCo a).all (fun p=>dne a p && (t.all (fun b=>dne b p) && d.all (fun b=>dne b p || (m.testBit b.ix && (!(nN a.kd 1 || (nN a.kd 3 || Nat.ble 8 a.kd)) || !(nN b.kd 4 || nN b.kd 6)))))) &&
 ((!Nat.beq a.kd 1 || d.all fun b=>!Nat.beq b.kd 0 || m.testBit b.ix) && (!Nat.ble 8 a.kd || zld m a.kd 0 d) &&
 (t.all (fun b=>!Nat.beq b.ix a.ix) &&
 (kdOK a && (match l[a.ix]? with | none=>false | some o=>!wCI o && subB a.op o))))))
def zgo (an:List Nat) (l:List Oper) (d:List AO):List AO->Bool
 | []=>true
 | a :: t=>zop (an.getD a.ix 0) l d a t && zgo an l (a :: d) t
def wRO (a:AO):Bool:=nN a.kd 0 && (match a.op with | .mv _=>true | _=>false)
def wRP:List AO->List AO
 | []=>[]
 | a :: t=>match wRO a with
  | true=>[]
  | false=>a :: wRP t
def wPR:List AO->List AO
 | []=>[]
 | a :: t=>match wRO a with
  | true=>a :: t
  | false=>wPR t
theorem wQJ:∀ os:List AO,os=wRP os ++ wPR os
 | []=>rfl
 | a :: t=>by
  unfold wRP wPR
  cases wRO a with
  | true=>rfl
  | false=>exact congrArg (a :: ·) (wQJ t)
def ztl (an:List Nat) (l:List Oper) (os:List AO):Bool :=
 ((wPR os).all (fun a=>kG a.kd 8) && (wRP os).all fun a=>kG a.kd 8 || ((wCo a).all (fun p=>(wPR os).all fun b=>dne b p) && (match a.dst with | some p=>(wPR os).all fun b=>dne b p | none=>true))) && (zgo an l [] (wRP os) && (zgo an l [] (wPR os) && (wPR os).all fun b=>(wRP os).all fun a=>!Nat.beq a.ix b.ix && (an.getD b.ix 0).testBit a.ix))
def chkZ (l:List Oper) (os:List AO):Bool :=
 (kD l.length).all (fun i=>(prI l i).all (kG · i)) && ((kD l.length).all (fun i=>os.any fun a=>nN a.ix i) && (zgo (wQI [] l) l [] os || ztl (wQI [] l) l os))
def wPC (l:List AO):Nat:=l.countP fun b=>wCh b.kd
structure ZOK (P:Program) (N:Nat) (l:List Oper) (os:List AO):Prop where
 ao:∀ a ∈ os,wHj P N l a=true
 one:os.Pairwise fun a b=>a.ix ≠ b.ix
 pr:∀ i,i < l.length->∀ j ∈ prI l i,j < i
 anc:∀ s a t,os=s ++ a :: t->wCh a.kd=true->∀ b ∈ s,wLJ l b.ix a.ix
 wr:∀ s a t,os=s ++ a :: t->∀ p,a.dst=some p->∀ b ∈ s ++ t,b.dst ≠ some p
 rd:∀ s a t,os=s ++ a :: t->∀ p ∈ wCo a,∀ b ∈ a :: t,b.dst ≠ some p
 rdS:∀ a ∈ os,∀ p ∈ wCo a,∀ b ∈ os,b.dst=some p->wLJ l b.ix a.ix
 kd:∀ a ∈ os,wCh a.kd=true \/ (a.dst ≠ none/\(a.kd=1 \/ a.kd=3 \/ (a.kd=6/\kdA a.op=3) \/ (a.kd=4/\wMW a.op=true) \/ (8 <= a.kd/\kdA a.op=1)))
 cl:∀ a ∈ os,a.kd=1 \/ a.kd=3 \/ 8 <= a.kd->∀ p ∈ wCo a,∀ b ∈ os,b.dst=some p->b.kd ≠ 4/\b.kd ≠ 6
 sel:∀ a ∈ os,∀ o,l[a.ix]?=some o->wCI o=false
 sub:∀ a ∈ os,∀ o,l[a.ix]?=some o->Sub a.op o
 ld:∀ s a t,os=s ++ a :: t->a.kd=1->∀ b ∈ s,b.kd=0->wLJ l b.ix a.ix
 ld8:∀ s a t,os=s ++ a :: t->8 <= a.kd->∀ s1 b s2,s=s1 ++ b :: s2->b.kd=0->wLJ l b.ix a.ix \/ wPC s2 + 8 < a.kd
theorem wQK {m kd:Nat}:∀ (x:List AO) (b:AO) (y:List AO) (n:Nat),zld m kd n (x ++ b :: y)=true->b.kd=0->m.testBit b.ix=true \/ n + wPC x + 8 < kd
 | [],b,y,n,h,h0=>by
  rw [nS,zld,h0] at h
  simp only [nA,nY,nr] at h
  rcases h.1 with g | g | g
  ·exact absurd g (by decide)
  ·exact .inl g
  ·exact .inr g
 | c :: x,b,y,n,h,h0=>by
  rw [nK,zld] at h
  simp only [nA] at h
  have:=wQK x b y _ h.2 h0
  refine this.imp id fun h=>?_
  unfold wPC at h ⊢
  rw [List.countP_cons]
  cases hf:wCh c.kd <;> rw [hf] at h <;> simp only [if_true,if_false,nG] at h ⊢ <;> omega
theorem Pos.beq_self:∀ p:Pos,p.beq p=true
 | .H=>rfl
 | .O p=>Pos.beq_self p
 | .I p=>Pos.beq_self p
theorem wHl {b:AO} {p:Pos} (h:dne b p=true):b.dst ≠ some p:=by
 intro e
 unfold dne at h
 rw [e] at h
 simp [Pos.beq_self] at h
theorem wQL {an:List Nat} {l:List Oper}:∀ (os d:List AO),zgo an l d os=true->∀ s a t,os=s ++ a :: t->zop (an.getD a.ix 0) l (s.reverse ++ d) a t=true
 | [],d,_,s,a,t,e=>by simp at e
 | b :: os,d,h,[],a,t,e=>by
  simp only [nS,nW] at e
  obtain ⟨rfl,rfl⟩:=e
  simp only [zgo,nA] at h
  exact h.1
 | b :: os,d,h,c :: s,a,t,e=>by
  simp only [nK,nW] at e
  obtain ⟨rfl,rfl⟩:=e
  simp only [zgo,nA] at h
  have:=wQL (s ++ a :: t) (b :: d) h.2 s a t rfl
  simpa using this
theorem pw_of {α:Type} {R:α->α->Prop}:∀ (l:List α),(∀ s a t,l=s ++ a :: t->∀ b ∈ t,R a b)->l.Pairwise R
 | [],_=>List.Pairwise.nil
 | a :: l,h=>nZ.2 ⟨fun b hb=>h [] a l rfl b hb,pw_of l fun s b t e=>h (a :: s) b t (by rw [e];rfl)⟩
theorem wLK {P:Program} {N:Nat} {l:List Oper} {os:List AO} (hao:∀ a ∈ os,wHj P N l a=true) (hpr:∀ i,i < l.length->∀ j ∈ prI l i,j < i) (hz:zgo (wQI [] l) l [] os=true):ZOK P N l os:=by
 have han:∀ i x,((wQI [] l).getD i 0).testBit x=true->wLJ l x i:=wKX hpr l [] [] rfl rfl fun i x h=>by simp at h
 have key:∀ s a t,os=s ++ a :: t->zop ((wQI [] l).getD a.ix 0) l s.reverse a t=true:=fun s a t e=>by
  have:=wQL os [] hz s a t e
  rwa [nw] at this
 have wLx:∀ s a t,os=s ++ a :: t ->
   (wCh a.kd=true->∀ b ∈ s,wLJ l b.ix a.ix)/\(∀ p,a.dst=some p->∀ b ∈ s ++ t,b.dst ≠ some p) /\
   (∀ p ∈ wCo a,(∀ b ∈ a :: t,b.dst ≠ some p)/\∀ b ∈ s,b.dst=some p->wLJ l b.ix a.ix/\(a.kd=1 \/ a.kd=3 \/ 8 <= a.kd->b.kd ≠ 4/\b.kd ≠ 6)) /\
   ((a.kd=1->∀ b ∈ s,b.kd=0->wLJ l b.ix a.ix)/\(8 <= a.kd->∀ s1 b s2,s=s1 ++ b :: s2->b.kd=0->wLJ l b.ix a.ix \/ wPC s2 + 8 < a.kd))/\(∀ b ∈ t,a.ix ≠ b.ix)/\kdOK a=true/\(∀ o,l[a.ix]?=some o->wCI o=false/\subB a.op o=true):=by
  intro s a t e
  have hk:=key s a t e
  unfold zop at hk
  simp only [nA,nE,List.mem_reverse,nY,kL] at hk
  obtain ⟨k1,k2,k3,⟨k4,k8⟩,k5,k6,k7⟩:=hk
  refine ⟨fun hf b hb=>?_,fun p hp b hb=>?_,fun p hp=>⟨fun b hb=>?_,fun b hb hd=>?_⟩,⟨fun h1 b hb h0=>?_,fun h8 s1 b s2 es h0=>?_⟩,fun b hb he=>?_,k6,fun o ho=>?_⟩
  ·rcases k1 with k1 | k1
   ·rw [hf] at k1;cases k1
   ·exact han _ _ (k1 b hb)
  ·rw [hp] at k2
   simp only [nA,nE,List.mem_reverse] at k2
   rcases nL.1 hb with hb | hb
   ·exact wHl (k2.1 b hb)
   ·exact wHl (k2.2 b hb)
  ·obtain ⟨g1,g2,g3⟩:=k3 p hp
   rcases nI.1 hb with rfl | hb
   ·exact wHl g1
   ·exact wHl (g2 b hb)
  ·obtain ⟨g1,g2,g3⟩:=k3 p hp
   rcases g3 b hb with g | ⟨g,g'⟩
   ·exact absurd hd (wHl g)
   ·refine ⟨han _ _ g,fun hk=>?_⟩
    rcases g' with g' | g'
    ·rcases hk with hk | hk | hk
     ·rw [hk] at g';exact absurd g' (by decide)
     ·rw [hk] at g';exact absurd g' (by decide)
     ·simp only [Bool.or_eq_false_iff] at g'
      have h8:Nat.ble 8 a.kd=true:=by rw [ki];exact hk
      rw [g'.2.2] at h8
      cases h8
    ·constructor <;> intro h4 <;> rw [h4] at g' <;> exact absurd g' (by decide)
  ·rcases k4 with k4 | k4
   ·rw [h1] at k4;exact absurd k4 (by decide)
   ·rcases k4 b hb with g | g
    ·rw [h0] at g;exact absurd g (by decide)
    ·exact han _ _ g
  ·rcases k8 with k8 | k8
   ·rw [<- Bool.not_eq_true,ki] at k8
    exact absurd h8 k8
   ·rw [es,List.reverse_append,List.reverse_cons,nX] at k8
    rcases wQK s2.reverse b (s1.reverse) 0 (by simpa using k8) h0 with g | g
    ·exact .inl (han _ _ g)
    ·refine .inr ?_
     unfold wPC at g ⊢
     rw [List.countP_reverse] at g
     omega
  ·have:=k5 b hb
   rw [he] at this
   simp at this
  ·rw [ho] at k7
   simpa using k7
 have mem:∀ a ∈ os,∃ s t,os=s ++ a :: t:=fun a ha=>nT ha
 refine ⟨hao,pw_of os fun s a t e=>(wLx s a t e).2.2.2.2.1,hpr,fun s a t e=>(wLx s a t e).1,fun s a t e=>(wLx s a t e).2.1,fun s a t e p hp=>((wLx s a t e).2.2.1 p hp).1,fun a ha p hp b hb hd=>?_,fun a ha=>?_,fun a ha hk p hp b hb hd=>?_,fun a ha o ho=>?_,fun a ha o ho=>?_,fun s a t e=>(wLx s a t e).2.2.2.1.1,fun s a t e=>(wLx s a t e).2.2.2.1.2⟩
 ·obtain ⟨s,t,e⟩:=mem a ha
  obtain ⟨g1,g2⟩:=(wLx s a t e).2.2.1 p hp
  rw [e] at hb
  rcases nL.1 hb with hb | hb
  ·exact (g2 b hb hd).1
  ·exact absurd hd (g1 b hb)
 ·obtain ⟨s,t,e⟩:=mem a ha
  have hk:=(wLx s a t e).2.2.2.2.2.1
  unfold kdOK at hk
  simp only [nY,nA] at hk
  rcases hk with hk | ⟨h1,hk⟩
  ·exact .inl hk
  ·refine .inr ⟨fun e=>(by rw [e] at h1;cases h1),?_⟩
   rcases hk with hk | hk | ⟨hk,h2⟩ | ⟨hk,h2⟩ | ⟨hk,h2⟩
   ·exact .inl (nB hk)
   ·exact .inr (.inl (nB hk))
   ·exact .inr (.inr (.inl ⟨nB hk,nB h2⟩))
   ·exact .inr (.inr (.inr (.inl ⟨nB hk,h2⟩)))
   ·exact .inr (.inr (.inr (.inr ⟨by rwa [ki] at hk,nB h2⟩)))
 ·obtain ⟨s,t,e⟩:=mem a ha
  obtain ⟨g1,g2⟩:=(wLx s a t e).2.2.1 p hp
  rw [e] at hb
  rcases nL.1 hb with hb | hb
  ·exact (g2 b hb hd).2 hk
  ·exact absurd hd (g1 b hb)
 ·obtain ⟨s,t,e⟩:=mem a ha
  exact ((wLx s a t e).2.2.2.2.2.2 o ho).1
 ·obtain ⟨s,t,e⟩:=mem a ha
  have h1:=((wLx s a t e).2.2.2.2.2.2 o ho).2
  unfold subB at h1
  rw [nE] at h1
  intro x hx
  have:=h1 (.tmp x) (by simpa using hx)
  simp only [kE] at this
  obtain ⟨p,g1,g2⟩:=this
  exact ⟨p,g1,by rw [nB g2];rfl⟩
structure ZAll (P:Program) (N:Nat) (l:List Oper) (os A B:List AO):Prop where
 eq:os=A ++ B
 za:ZOK P N l A
 zb:ZOK P N l B
 cross:∀ b ∈ B,∀ a ∈ A,a.ix ≠ b.ix/\wLJ l a.ix b.ix
 low:∀ b ∈ B,b.kd < 8
 far:∀ a ∈ A,8 <= a.kd->∀ p,p ∈ wCo a \/ a.dst=some p->∀ b ∈ B,b.dst ≠ some p
 all:∀ i,i < l.length->∃ a ∈ os,a.ix=i
theorem wNp {P:Program} {N:Nat} {l:List Oper} {os:List AO} (hao:∀ a ∈ os,wHj P N l a=true) (h:chkZ l os=true):∃ A B,ZAll P N l os A B:=by
 unfold chkZ at h
 rw [nA,nA,nY] at h
 obtain ⟨hpr0,hall0,hz⟩:=h
 simp only [nE,nq,nr,kE] at hpr0 hall0
 have hpr:∀ i,i < l.length->∀ j ∈ prI l i,j < i:=hpr0
 have hall:∀ i,i < l.length->∃ a ∈ os,a.ix=i:=fun i hi=>by
  obtain ⟨a,h1,h2⟩:=hall0 i hi
  exact ⟨a,h1,nB h2⟩
 have han:∀ i x,((wQI [] l).getD i 0).testBit x=true->wLJ l x i:=wKX hpr l [] [] rfl rfl fun i x h=>by simp at h
 rcases hz with hz | hz
 ·exact ⟨os,[],by simp,wLK hao hpr hz,wLK (fun a ha=>by simp at ha) hpr rfl,fun b hb=>by simp at hb,fun b hb=>by simp at hb,fun a _ _ p _ b hb=>by simp at hb,hall⟩
 ·unfold ztl at hz
  simp only [nA,nE,nr,kL] at hz
  obtain ⟨⟨h1,h5⟩,h2,h3,h4⟩:=hz
  have e:=wQJ os
  refine ⟨wRP os,wPR os,e,wLK (fun a ha=>hao a (by rw [e];simp [ha])) hpr h2,wLK (fun a ha=>hao a (by rw [e];simp [ha])) hpr h3,fun b hb a ha=>⟨fun e=>?_,han _ _ (h4 b hb a ha).2⟩,h1,fun a ha h8 p hp b hb=>?_,hall⟩
  ·have:=(h4 b hb a ha).1
   rw [e] at this
   simp at this
  ·have h6:=h5 a ha
   simp only [nY,nA,nE,nr] at h6
   rcases h6 with h6 | ⟨h6,h7⟩
   ·omega
   ·rcases hp with hp | hp
    ·exact wHl (h6 p hp b hb)
    ·rw [hp] at h7
     simp only [nE] at h7
     exact wHl (h7 b hb)
theorem wIs {tb:Tr AF} {ex exY:Run} {σf:Tr AV} {h:AH}:∀ (x y:List AO) (n:Nat),wJv tb ex exY σf h n (x ++ y)=true->wJv tb ex exY σf h n x=true
 | [],_,_,_=>rfl
 | a :: x,y,n,hl=>by
  rw [nK,wEz] at hl
  rw [wEz]
  cases hf:wCh a.kd with
  | true =>
   rw [hf] at hl
   exact wIs x y _ hl
  | false =>
   rw [hf] at hl
   simp only [nA] at hl ⊢
   exact ⟨hl.1,wIs x y _ hl.2⟩
theorem wKY {tb:Tr AF} {ex exY:Run} {σf:Tr AV} {h:AH}:∀ (x:List AO) (a:AO) (y:List AO) (n:Nat),wJv tb ex exY σf h n (x ++ a :: y)=true->wCh a.kd=false->n + wPC x + 8 < a.kd->wIP tb ex exY σf h a=true
 | [],a,y,n,hl,hf,hn=>by
  rw [nS,wEz,hf] at hl
  simp only [nA] at hl
  have hb:kG (n + 8) a.kd=true:=by rw [nr];exact hn
  rw [hb] at hl
  exact hl.1
 | c :: x,a,y,n,hl,hf,hn=>by
  rw [nK,wEz] at hl
  unfold wPC at hn
  rw [List.countP_cons] at hn
  cases hc:wCh c.kd with
  | true =>
   rw [hc] at hl hn
   exact wKY x a y _ hl hf (by unfold wPC;simp only [if_true] at hn;omega)
  | false =>
   rw [hc] at hl hn
   simp only [nA] at hl
   exact wKY x a y _ hl.2 hf (by unfold wPC;simp only [if_false,nG] at hn;omega)
def LCK (tb:Tr AF) (ex exY:Run) (os:List AO) (σ0:Tr AV) (h0:AH) (σf:Tr AV):Prop :=
 ∀ s b t,os=s ++ b :: t->b.kd=0->∀ σ1 h1,wAr tb ex exY s σ0 h0=some (σ1,h1)->wJv tb ex exY σf h1 0 t=true
theorem wKZ {tb:Tr AF} {ex exY:Run}:∀ (os:List AO) (σ:Tr AV) (h:AH) (r:Tr AV × AH),wNF tb ex exY os σ h=some r->wAr tb ex exY os σ h=some r/\LCK tb ex exY os σ h r.1
 | [],σ,h,r,hr=>by
  rw [wPJ] at hr
  exact ⟨by rw [wBO];exact hr,fun s b t e=>by simp at e⟩
 | o :: os,σ,h,r,hr=>by
  rw [wNG] at hr
  split at hr
  ·cases hr
  ·rename_i q hq
   split at hr
   ·cases hr
   ·rename_i r' hr'
    have e:r'=r:=by
     split at hr
     ·split at hr
      ·cases hr;rfl
      ·cases hr
     ·cases hr;rfl
    subst e
    obtain ⟨g1,g2⟩:=wKZ os _ _ _ hr'
    have g0:∀ s,wAr tb ex exY (o :: s) σ h=wAr tb ex exY s q.1 q.2:=by
     intro s
     rw [wBS]
     unfold wQm at hq
     cases hw:wDN σ o.grd with
     | true =>
      rw [hw] at hq
      simp only at hq ⊢
      split at hq
      ·rename_i y hy
       cases hq
       rfl
      ·cases hq
     | false =>
      rw [hw] at hq
      cases hq
      rfl
    refine ⟨by rw [g0];exact g1,fun s b t e h0 σ1 h1 hs=>?_⟩
    cases s with
    | nil =>
     simp only [nS,nW] at e
     obtain ⟨rfl,rfl⟩:=e
     rw [wBO] at hs
     cases hs
     have hb:nN o.kd 0=true:=by rw [h0];rfl
     rw [hb] at hr
     simp only at hr
     split at hr
     ·assumption
     ·cases hr
    | cons c s =>
     simp only [nK,nW] at e
     obtain ⟨rfl,rfl⟩:=e
     rw [g0] at hs
     exact g2 s b t rfl h0 σ1 h1 hs
theorem wLL {tb:Tr AF} {ex exY:Run} {os:List AO} {σ:Tr AV} {h:AH} {σf:Tr AV} (hk:∀ a ∈ os,a.kd < 8):LCK tb ex exY os σ h σf:=by
 intro s b t e _ σ1 h1 _
 have:∀ (l:List AO) (n:Nat),(∀ a ∈ l,a.kd < 8)->wJv tb ex exY σf h1 n l=true:=by
  intro l
  induction l with
  | nil=>intro n _;rfl
  | cons a l ih =>
   intro n hl
   rw [wEz]
   have ha:=hl a (by simp)
   have hb:kG (n + 8) a.kd=false:=by rw [<- Bool.not_eq_true,nr];omega
   cases wCh a.kd with
   | true=>exact ih _ fun b hb=>hl b (by simp [hb])
   | false =>
    simp only [hb,nU]
    exact ih _ fun b hb=>hl b (by simp [hb])
 exact this t 0 fun a ha=>hk a (by rw [e];simp [ha])
end
end Go.KX
namespace Go.KX
noncomputable section
open Go.RowKit Go.KL
def kdAt (i:Nat):List AO->Nat
 | []=>0
 | a :: os=>match nN a.ix i with
  | true=>a.kd
  | false=>kdAt i os
def lazyA (os:List AO):Bool:=os.any fun a=>kG 3 a.kd
def chkR (P:Program) (N:Nat) (os:List AO) (l:List Oper) (draw:Bool):Bool :=
 let ks:=(kD l.length).map fun i=>kdAt i os
 os.all (fun a=>wHj P N l a && nN (kOf ks a.ix) a.kd) && (match draw with
  | true=>(match lazyA os with
   | true=>os.all (fun a=>kG a.kd 8) && chkZ l os
   | false=>wMb l ks (wJd os))
  | false=>inOrder 0 (wJd os) l.length)
def wLz (N:Nat):List Pos->List Nat->Bool
 | [],[]=>true
 | t :: ts,p :: ps=>(nN t.nat (p + 1) && kG p N) && wLz N ts ps
 | _,_=>false
theorem wLM {N:Nat}:∀ {ts:List Pos} {ps:List Nat},wLz N ts ps=true->ts.map Pos.nat=ps.map (· + 1)/\∀ x ∈ ps,x < N
 | [],[],_=>by simp
 | t :: ts,p :: ps,h=>by
  simp only [wLz,nA,nr] at h
  obtain ⟨⟨h1,h2⟩,h3⟩:=h
  obtain ⟨h4,h5⟩:=wLM h3
  refine ⟨by simp [h4,nB h1],?_⟩
  intro x hx
  rcases nI.1 hx with rfl | hx
  ·exact h2
  ·exact h5 x hx
 | [],_ :: _,h=>by simp [wLz] at h
 | _ :: _,[],h=>by simp [wLz] at h
theorem wLN {μ:Mu}:∀ {ts:List Pos} {ns:List Nat} {σA σB:Tr AV} {σ:Env} {as:List AV} {vs:List Value},wQl σA ts as=some σB->ts.map Pos.nat=ns.map (· + 1)->RvL μ as vs->EnvR μ σA σ->EnvR μ σB (wNJ σ ns vs)/\ns.length=vs.length
 | [],ns,σA,σB,σ,as,vs,hs,hn,hv,hE=>by
  cases ns with
  | cons _ _=>simp at hn
  | nil =>
   cases as with
   | cons _ _=>simp [wQl] at hs
   | nil=>cases hv;simp only [wQl,kg] at hs;subst hs;exact ⟨hE,rfl⟩
 | t :: ts,ns,σA,σB,σ,as,vs,hs,hn,hv,hE=>by
  cases ns with
  | nil=>simp at hn
  | cons n ns =>
   cases as with
   | nil=>simp [wQl] at hs
   | cons a as =>
    obtain ⟨v,ws,h1,h2,rfl⟩:=hv
    simp only [nR,nW] at hn
    have hp:=hE.put (p:=t) h1
    have e:t.nat - 1=n:=by omega
    rw [e] at hp
    obtain ⟨g1,g2⟩:=wLN (ts:=ts) (ns:=ns) (σA:=σA.set t a) (σ:=upd σ n v) (by simpa [wQl] using hs) hn.2 h2 hp
    exact ⟨g1,by simp [g2]⟩
def wGN (P:Program) (N:Nat):AC->Code->Bool
 | .skip,.skip=>true
 | .skip,.label _=>true
 | .rg os,.region _ ops draw=>chkR P N os ops.toList draw
 | .rl os,.region _ ops draw=>draw && (os.all (fun a=>wHj P N ops.toList a) && chkZ ops.toList os)
 | .seq a b,.seq c d=>wGN P N a c && wGN P N b d
 | .cond x a b,.cond y c d=>wCc x y && (wGN P N a c && wGN P N b d)
 | .block i a,.block j c=>nN i j && wGN P N a c
 | .loop a,.loop c=>wGN P N a c
 | .scope a,.scope c=>wGN P N a c
 | .rf g t asg body,.rangeFunc g' ps asg' body'=>wCc g g' && (wLz N t ps.toList && (wGN P N asg asg' && wGN P N body body'))
 | .exit i,.exit j=>nN i j
 | .ret,.ret=>true
 | _,_=>false
def CC (P:Program):Chk:=fun a c N=>wGN P N a c=true
section
variable {P:Program} {tb:Tr AF} {μ μ' μ'':Mu} {w w' w'':World} {h h' h'':AH} {σ:Env} {σA:Tr AV}
def Mk (μ:Mu) (w:World) (n0:Nat) (D:List Deferred):Prop:=∃ rbs:List Nat,D=rbs.map mark/\rbs.Nodup/\∀ rb ∈ rbs,Dfr w rb/\n0 <= rb/\∀ p c,μ p=some c->c.1 ≠ rb
theorem Mk.nil (μ:Mu) (w:World) (n0:Nat):Mk μ w n0 []:=⟨[],rfl,by simp,by simp⟩
theorem Mk.ext {n0 fl:Nat} {D:List Deferred} (M:Mk μ w n0 D) (E:Ext μ fl w μ' w'):Mk μ' w' n0 D:=by
 obtain ⟨rbs,h1,h2,h3⟩:=M
 refine ⟨rbs,h1,h2,fun rb hrb=>?_⟩
 obtain ⟨g1,g2,g3⟩:=h3 rb hrb
 refine ⟨g1.keep E.keep fun ⟨p,d,q1,q2,_⟩=>g3 p d q1 q2,g2,fun p c hp=>?_⟩
 rcases E.new p c hp with q | ⟨p',d,q1,q2,_⟩ | q
 ·exact g3 p c q
 ·rw [<- q2];exact g3 p' d q1
 ·have:=g1.lt;omega
def PostX (P:Program) (μ:Mu) (fl:Pos) (w:World) (n0:Nat) (rr:Option Nat) (D:List Deferred) (e:Ex) (σA':Tr AV) (h':AH):wDc:=fun D' e' σ' w' =>
 e'=exC e/\∃ μ',Ext μ fl.nat w μ' w'/\Sim (CC P) P μ' h' w'/\EnvR μ' σA' σ'/\Mk μ' w' n0 D'/\h'.fl=fl/\(rr.isSome=true->D'=D)
def wJf (P:Program) (ex:Run) (r:Bool):Prop:=∀ c σA h e σA' h',ex c σA h=some (e,σA',h')->∀ code N,wGN P N c code=true->∀ (rr:Option Nat) (μ:Mu) (σ:Env) (w:World) (D:List Deferred) (n0:Nat),
 rr.isSome=r->Sim (CC P) P μ h w->EnvR μ σA σ->Mk μ w n0 D->n0 <= w.heap.size->CK rr N P code (PostX P μ h.fl w n0 rr D e σA' h') D σ w
def wNq (P:Program) (ex:Run) (r:Bool) (m:Nat):Prop:=∀ c σA h e σA' h',ex (.loop c) σA h=some (e,σA',h')->∀ code N,wGN P N c code=true->∀ (rr:Option Nat) (μ:Mu) (σ:Env) (w:World) (D:List Deferred) (n0:Nat),
 rr.isSome=r->Sim (CC P) P μ h w->EnvR μ σA σ->Mk μ w n0 D->n0 <= w.heap.size->∀ a,Rep N D a σ->Code.roundsIn (WF rr) 0 P code (wIA N (PostX P μ h.fl w n0 rr D e σA' h')) m a w
theorem PostX.trans {fl:Pos} {n0:Nat} {rr:Option Nat} {D D1 D':List Deferred} {e:Ex} {e':Exit} {σA':Tr AV} {σ':Env} (E:Ext μ fl.nat w μ' w') (hD:rr.isSome=true->D1=D) (hP:PostX P μ' fl w' n0 rr D1 e σA' h' D' e' σ' w''):PostX P μ fl w n0 rr D e σA' h' D' e' σ' w'':=by
 obtain ⟨h1,μ2,h2,h3,h4,h5,h6,h7⟩:=hP
 exact ⟨h1,μ2,E.trans h2,h3,h4,h5,h6,fun hr=>(h7 hr).trans (hD hr)⟩
theorem wHm {F:Fence} {n:Nat} {c:Code} {Q Q':Exit->Act->World->Prop} (hQ:∀ e a w,Q e a w->Q' e a w):∀ (m:Nat) (a:Act) (w:World),Code.roundsIn F n P c Q m a w->Code.roundsIn F n P c Q' m a w
 | 0,_,_,h=>h.elim
 | m + 1,a,w,h=>by
  rw [roundsIn_succ] at h ⊢
  refine wpIn_mono h fun e a w q=>?_
  cases e with
  | normal=>exact wHm hQ m a w q
  | _=>exact hQ _ _ _ q
theorem Ext.drew (μ:Mu) (fl:Nat) (w:World):Ext μ fl w μ { w with drawn:=w.drawn + 1 }:=⟨Mu.Le.refl μ,fun _ _ h=>.inl h,(Keep.drew w).weak fun _ _ h=>h.elim⟩
theorem Sim.keepX {C:Chk} {X:Nat->Prop} (S:Sim C P μ h w) (K:Keep w w' X) (hX:∀ p c,μ p=some c->¬ X c.1):Sim C P μ h w' :=
 ⟨S.nx,fun p c hp=>kK (S.lt p c hp) K.size,S.inj,fun p b hb=>let ⟨c,h1,h2⟩:=S.at_ p b hb;⟨c,h1,h2.keep K (hX p c h1)⟩⟩
def wEo (P:Program):List AR->List ResultVar->Bool
 | [],[]=>true
 | .t p :: l,.tmp t :: k=>nN p.nat (t + 1) && wEo P l k
 | .c p n :: l,.cell a t :: k=>nN p.nat (a + 1) && ((match n with | none=>wPM P t false | some n=>wPM P t true && szT P t n) && wEo P l k)
 | _,_=>false
def chkF (P:Program) (k:Nat) (af:AF):Bool:=match P.funcs[k]? with
 | none=>false
 | some fn=>match fn.body with
  | none=>false
  | some c => nN fn.ntmps af.n && (wEo P af.res fn.results.toList && (!(fn.name == "runtime.NumGoroutine") && wGN P fn.ntmps af.body c))
theorem wKa {C:Chk} (hE:EnvR μ σA σ) (S:Sim C P μ h w):∀ {l:List AR} {k:List ResultVar} {vs:List AV},wEo P l k=true->wSD σA h l=some vs->∃ VS,RvL μ vs VS/\wSB P w σ k VS
 | [],[],vs,_,hr=>by simp only [wSD] at hr;cases hr;exact ⟨[],rfl,trivial⟩
 | .t p :: l,.tmp t :: k,vs,hc,hr=>by
  simp only [wEo,nA] at hc
  simp only [wSD,res1] at hr
  split at hr
  ·rename_i vs' hvs
   cases hr
   obtain ⟨VS,g1,g2⟩:=wKa hE S hc.2 hvs
   have e:=nB hc.1
   have g:=hE p
   rw [e] at g
   exact ⟨_,wBu g g1,rfl,g2⟩
  ·cases hr
 | .c p n :: l,.cell a t :: k,vs,hc,hr=>by
  simp only [wEo,nA] at hc
  obtain ⟨c1,c2,c3⟩:=hc
  have e:=nB c1
  have g:=hE p
  rw [e] at g
  rw [wSD] at hr
  split at hr
  ·rename_i v hv
   split at hr
   ·rename_i vs' hvs
    cases hr
    obtain ⟨VS,g1,g2⟩:=wKa hE S c3 hvs
    simp only [res1] at hv
    split at hv
    ·rename_i b off hb
     split at hv
     ·rename_i cl hcl
      obtain ⟨c,ws,q1,q2,q3⟩:=wFO hcl S
      rw [hb] at g
      obtain ⟨c',k1,k2⟩:=g
      rw [q1] at k1;cases k1
      have k2:σ a=.pointer (some ⟨c.1,off,none⟩):=k2
      split at hv
      ·rw [wGo] at hv
       obtain ⟨cv,r1,r2⟩:=wFj q2 hv
       refine ⟨_,wBu r2 g1,⟨_,k2,?_⟩,g2⟩
       simp [loadVar,wFB c2,load,Sem.run,q3 w (Keep.refl w _) _ _ r1]
      ·rename_i n
       simp only [nA] at c2
       obtain ⟨r,hr3,rfl⟩:=wDs hv
       obtain ⟨r1,r2⟩:=wFk hr3 q2
       refine ⟨_,wBu ⟨_,r1,rfl⟩ g1,⟨_,k2,?_⟩,g2⟩
       have:=KL.run_loadCells (P:=P) (w:=w) (b:=c.1) (off:=off) (n:=n) ((ws.drop off).take n) (by simp;omega) fun j u hu=>q3 w (Keep.refl w _) _ _ (wEw rfl j u hu)
       simp [loadVar,wFB c2.1,wEE c2.2,this]
     ·cases hv
    ·cases hv
   ·cases hr
  ·cases hr
 | [],_ :: _,_,hc,_=>by simp [wEo] at hc
 | .t _ :: _,[],_,hc,_=>by simp [wEo] at hc
 | .c _ _ :: _,[],_,hc,_=>by simp [wEo] at hc
 | .t _ :: _,.cell _ _ :: _,_,hc,_=>by simp [wEo] at hc
 | .c _ _ :: _,.tmp _ :: _,_,hc,_=>by simp [wEo] at hc
theorem wRQ {C:Chk} {l:List AR} {rs:Array ResultVar} {v:AV} (hE:EnvR μ σA σ) (S:Sim C P μ h w) (hc:wEo P l rs.toList=true) (hr:wQk σA h l=some (v,h')):h'=h/\∃ cv,Rv μ v cv/\(wCs rs σ).run P w=.ok cv w:=by
 unfold wQk at hr
 split at hr
 ·rename_i vs hvs
  cases hr
  refine ⟨rfl,?_⟩
  obtain ⟨VS,g1,g2⟩:=wKa hE S hc hvs
  have hrs:rs=rs.toList.toArray:=by simp
  unfold tupA
  split
  ·rename_i v
   obtain ⟨cv,ws,q1,q2,q3⟩:=g1
   cases q2
   subst q3
   refine ⟨cv,q1,?_⟩
   have hl:∃ r,rs=#[r]:=by
    cases hq:rs.toList with
    | nil=>rw [hq] at g2;exact g2.elim
    | cons r k =>
     cases k with
     | nil=>exact ⟨r,Array.ext' (by simpa using hq)⟩
     | cons r' k=>rw [hq] at g2;cases r <;> cases r' <;> exact g2.2.elim
   obtain ⟨r,rfl⟩:=hl
   exact wIh g2
  ·rename_i hne
   refine ⟨_,⟨VS,g1,rfl⟩,?_⟩
   rw [hrs]
   refine wCZ g2 ?_
   have hl:=wDX g1
   cases hb:VS.length == 1 with
   | false=>rfl
   | true =>
    have:vs.length=1:=by rw [<- hl];exact eq_of_beq hb
    obtain ⟨v,hv⟩:=List.length_eq_one_iff.1 this
    exact absurd hv (hne v)
 ·cases hr
def wMA (P:Program) (tb:Tr AF):Prop:=∀ p af,tb.get p=some af->chkF P (p.nat - 1) af=true
theorem wNr (T:wMA P tb) {ex:Run} (HE:wJf P ex false):wGp (CC P) P tb ex:=by
 intro f args h v h' hr
 unfold wJT at hr
 split at hr
 ·rename_i af haf
  have hcf:=T f af haf
  unfold chkF at hcf
  split at hcf
  ·cases hcf
  ·rename_i fn hfn
   split at hcf
   ·cases hcf
   ·rename_i c hbody
    simp only [nA,kL] at hcf
    obtain ⟨c1,c2,c3,c4⟩:=hcf
    refine ⟨fun a w=>?_,fun μ w vs S hv=>?_⟩
    ·have c3' : ¬ fn.name = "runtime.NumGoroutine" := by simpa using c3
     simp [callFunc,program,Sem.run,hfn,hbody,c3']
    ·split at hr
     ·rename_i hle
      have hle:=Nat.le_of_ble_eq_true hle
      have e1:=nB c1
      have key:∀ e σA' h1,ex af.body (wNC args .H .e) h=some (e,σA',h1)->(e=.nrm \/ e=.ret)->wQk σA' h1 af.res=some (v,h')->Gv P (f.nat - 1) vs w fun cv w'=>∃ μ',Ext μ h.fl.nat w μ' w'/\Sim (CC P) P μ' h' w'/\Rv μ' v cv/\h'.fl=h.fl:=by
       intro e σA' h1 hx he hres
       refine Gv.ofM hfn hbody rfl rfl (by rw [wDX hv,<- wFA,e1];exact hle) ?_
       refine (HE _ _ _ _ _ _ hx c fn.ntmps c4 none μ (wPt vs) w [] w.heap.size rfl S (wQn hv) (Mk.nil μ w _) (nH _)).mono ?_
       rintro D' e' σ' w' ⟨rfl,μ',q1,q2,q3,q4,q5,_⟩
       obtain ⟨rbs,m1,m2,m3⟩:=q4
       have fin:∃ rbs:List Nat,D'=rbs.map mark/\rbs.Nodup/\(∀ rb ∈ rbs,Dfr w' rb)/\∀ w2,Keep w' w2 (· ∈ rbs)->w2.heap.size=w'.heap.size->∃ cv,(wCs fn.results σ').run P w2=.ok cv w2/\∃ μ',Ext μ h.fl.nat w μ' w2/\Sim (CC P) P μ' h' w2/\Rv μ' v cv/\h'.fl=h.fl:=by
        refine ⟨rbs,m1,m2,fun rb hrb=>(m3 rb hrb).1,fun w2 K hs=>?_⟩
        have S2:=q2.keepX K fun p c hp hm=>(m3 _ hm).2.2 p c hp rfl
        obtain ⟨rfl,cv,r1,r2⟩:=wRQ q3 S2 c2 hres
        refine ⟨cv,r2,μ',⟨q1.mono,q1.new,?_⟩,S2,r1,q5⟩
        exact q1.keep.step K fun i hi hm=>absurd (m3 i hm).2.1 (Nat.not_le.2 hi)
       rcases he with rfl | rfl
       ·exact fin
       ·exact fin
      split at hr
      ·exact key _ _ _ (by assumption) (.inl rfl) hr
      ·exact key _ _ _ (by assumption) (.inr rfl) hr
      ·cases hr
     ·cases hr
 ·cases hr
theorem wPS {ex:Run} (HE:wJf P ex true):wFo (CC P) P ex:=by
 intro b args h v h' hr
 unfold wJU at hr
 split at hr
 ·rename_i σA t asg body hB
  intro μ w xv c S hx hc
  split at hr <;> first | (cases hr;done) | skip
  rename_i σS hset
  split at hr <;> first | (cases hr;done) | skip
  rename_i σ1 h1 hasg
  split at hr <;> first | (cases hr;done) | skip
  rename_i σx tx ax bx hB1
  split at hr <;> first | (cases hr;done) | skip
  rename_i h2 hput2
  split at hr <;> first | (cases hr;done) | skip
  rename_i e σ3 h3 hbody
  split at hr <;> first | (cases hr;done) | skip
  rename_i σy ty ay by_ hB3
  split at hr <;> first | (cases hr;done) | skip
  rename_i h4 hput4
  cases hr
  obtain ⟨c',g1,g2⟩:=S.at_ b _ hB
  rw [hc] at g1;cases g1
  have L:wLs (CC P) μ w c σA t asg body .ready:=g2
  obtain ⟨hSE,hSl⟩:=wLN hset L.ht hx L.env
  refine Yd.of L.at_ L.tN hSl fun σ0 hσ0=>?_
  have hE0:EnvR μ σS σ0:=by
   intro p
   rw [hσ0];exact hSE p
  refine (HE _ _ _ _ _ _ hasg c.g.ac c.g.N L.asg (some c.1) μ σ0 w [] 0 rfl S hE0 (Mk.nil μ w _) (kh _)).mono ?_
  rintro D' e' σ' w1 ⟨rfl,μ1,q1,q2,q3,q4,q5,q6⟩
  have hc1:=q1.mono b c hc
  obtain ⟨c',r1,r2⟩:=q2.at_ b _ hB1
  rw [hc1] at r1;cases r1
  have L1:wLs (CC P) μ1 w1 c σx tx ax bx .ready:=r2
  refine ⟨rfl,q6 rfl,L1.at_,fun w2 hl2 K hs=>?_⟩
  obtain ⟨s1,s2,s3⟩:=q2.put hput2 hB1 trivial hc1 K (B':=.loop σA t asg body .busy) ⟨hl2,L.env.mono q1.mono,L.ht,L.tN,L.asg,L.body⟩
  rw [q5] at s2 s3
  refine (HE _ _ _ _ _ _ hbody c.g.bc c.g.N L.body (some c.1) μ1 σ' w2 [] 0 rfl s1 q3 (Mk.nil μ1 w2 _) (kh _)).mono ?_
  rintro D'' e'' σ'' w3 ⟨rfl,μ3,t1,t2,t3,t4,t5,t6⟩
  rw [s3] at t1 t5
  have hc3:=t1.mono b c hc1
  obtain ⟨c',u1,u2⟩:=t2.at_ b _ hB3
  rw [hc3] at u1;cases u1
  have L3:wLs (CC P) μ3 w3 c σy ty ay by_ .busy:=u2
  have fin:∀ w4,LoopAt w4 c.1 c.g.N c.g.σ c.g.t c.g.ac c.g.bc c.g.rb c.g.fn (lsC e.done).1 (lsC e.done).2->Keep w3 w4 (·=c.1)->∃ μ',Ext μ h.fl.nat w μ' w4/\Sim (CC P) P μ' h' w4/\AV.bool e.go=.bool e.go/\h'.fl=h.fl:=by
   intro w4 hl4 K4
   obtain ⟨v1,v2,v3⟩:=t2.put hput4 hB3 trivial hc3 K4 (B':=.loop σA t asg body e.done) ⟨hl4,(L.env.mono q1.mono).mono t1.mono,L.ht,L.tN,L.asg,L.body⟩
   rw [t5] at v2 v3
   exact ⟨μ3,(q1.trans s2).trans (t1.trans v2),v1,rfl,v3⟩
  cases e with
  | nrm=>exact ⟨L3.at_,fun w4 hl K4 _=>fin w4 hl K4⟩
  | ret=>exact ⟨L3.at_,fun w4 hl K4 _=>fin w4 hl K4⟩
  | exit i=>exact ⟨L3.at_,fun w4 hl K4 _=>fin w4 hl K4⟩
 ·cases hr
end
end
end Go.KX
namespace Go.KX
open Go.RowKit Go.KL
theorem wKb (b:AC) (exR:Run) (e:Ex) (σ:Tr AV) (h:AH):seqK b exR (e,σ,h)=(match e with | .nrm=>exR b σ h | e=>some (e,σ,h)):=by cases e <;> rfl
theorem wSG {x:R} {k:Ex × Tr AV × AH->R} {r:Ex × Tr AV × AH} (hr:Option.rec (motive:=fun _=>R) none k x=some r):∃ y,x=some y/\k y=some r:=by
 cases x with
 | none=>cases hr
 | some y=>exact ⟨y,rfl,hr⟩
structure Fr (h h':AH):Prop where
 nx:h.nx.nat <= h'.nx.nat
 fl:h'.fl=h.fl
 get:∀ p,p.nat < h.fl.nat->p.nat < h.nx.nat->h'.m.get p=h.m.get p
theorem Fr.refl (h:AH):Fr h h:=⟨nH _,rfl,fun _ _ _=>rfl⟩
theorem Fr.trans {a b c:AH} (h:Fr a b) (k:Fr b c):Fr a c :=
 ⟨kH h.nx k.nx,k.fl.trans h.fl,fun p h1 h2=>(k.get p (by rw [h.fl];exact h1) (kK h2 h.nx)).trans (h.get p h1 h2)⟩
theorem Fr.push (h:AH) (B:AB):Fr h (h.push B):=by
 refine ⟨?_,rfl,fun p _ h2=>?_⟩
 ·show h.nx.nat <= h.nx.succ.nat
  rw [Pos.nat_succ];omega
 ·show (h.m.set h.nx B).get p=_
  rw [Tr.get_set,if_neg (fun e=>by subst e;omega)]
theorem Fr.put {h h':AH} {p:Pos} {B:AB} (hp:h.put p B=some h'):Fr h h':=by
 obtain ⟨h1,rfl⟩:=wIo hp
 refine ⟨nH _,rfl,fun q h2 _=>?_⟩
 show (h.m.set p B).get q=_
 rw [Tr.get_set,if_neg (fun e=>by subst e;omega)]
theorem Fr.setAt {h h':AH} {b:Pos} {off:Nat} {vs:List AV} (hs:KX.setAt h b off vs=some h'):Fr h h':=by
 unfold KX.setAt at hs
 split at hs
 ·split at hs
  ·exact Fr.put hs
  ·cases hs
 ·split at hs
  ·exact Fr.put hs
  ·cases hs
 ·cases hs
theorem wRR {h h':AH} {o:Option AV} {v:AV} (hr:okV h o=some (v,h')):h'=h:=by
 cases o with
 | none=>cases hr
 | some x=>cases hr;rfl
theorem wIE {α:Type} {b:Bool} {x:Option α} {y:α} (hr:ifO b x=some y):x=some y:=by
 cases b with
 | true=>exact hr
 | false=>cases hr
section
variable {tb:Tr AF} {ex exY:Run} {σ:Tr AV} {h h':AH} {v:AV}
theorem wSw {T sz by_ m:Nat} {news:List AV} {x:AV} (hr:app h T sz by_ m news x=some (v,h')):Fr h h':=by
 unfold app at hr
 split at hr
 ·split at hr <;> first | (cases hr;exact Fr.refl _) | (cases hr;done)
 ·split at hr
  ·have hr:=wIE hr;cases hr;exact Fr.push _ _
  ·split at hr
   ·split at hr
    ·rename_i hs;cases hr;exact Fr.setAt hs
    ·cases hr
   ·have hr:=wIE hr
    split at hr
    ·cases hr;exact Fr.push _ _
    ·cases hr
  ·split at hr
   ·split at hr
    ·split at hr
     ·rename_i hs;cases hr;exact Fr.setAt hs
     ·cases hr
    ·have hr:=wIE hr
     split at hr
     ·rename_i hs;cases hr;exact (Fr.put hs).trans (Fr.push _ _)
     ·cases hr
   ·cases hr
  ·cases hr
theorem wQM {z:List AV} {b:Pos} {off n:Nat} (hr:clr h z b off n=some (v,h')):Fr h h':=by
 unfold clr at hr
 split at hr
 ·cases hr;exact Fr.refl _
 ·have hr:=wIE hr
  split at hr
  ·rename_i hs;cases hr;exact Fr.setAt hs
  ·cases hr
def FrX (ex:Run):Prop:=∀ c σ h e σ' h',ex c σ h=some (e,σ',h')->Fr h h'
theorem wQN {l:List AR} (hr:wQk σ h l=some (v,h')):Fr h h':=by
 unfold wQk at hr
 split at hr
 ·cases hr;exact Fr.refl _
 ·cases hr
theorem wNs (HE:FrX ex) {f:Pos} {args:List AV} (hr:wJT tb ex f args h=some (v,h')):Fr h h':=by
 unfold wJT at hr
 split at hr
 ·split at hr
  ·split at hr
   ·rename_i h1;exact (HE _ _ _ _ _ _ h1).trans (wQN hr)
   ·rename_i h1;exact (HE _ _ _ _ _ _ h1).trans (wQN hr)
   ·cases hr
  ·cases hr
 ·cases hr
theorem wPT (HY:FrX ex) {b:Pos} {args:List AV} (hr:wJU ex b args h=some (v,h')):Fr h h':=by
 unfold wJU at hr
 split at hr
 ·split at hr
  ·cases hr
  ·split at hr
   ·rename_i h1
    split at hr
    ·split at hr
     ·rename_i h2
      split at hr
      ·rename_i h3
       split at hr
       ·split at hr
        ·rename_i h4
         cases hr
         exact (HY _ _ _ _ _ _ h1).trans ((Fr.put h2).trans ((HY _ _ _ _ _ _ h3).trans (Fr.put h4)))
        ·cases hr
       ·cases hr
      ·cases hr
     ·cases hr
    ·cases hr
   ·cases hr
 ·cases hr
theorem wNt (HE:FrX ex) (HY:FrX exY) (op:AOp) (hr:opY op tb ex exY σ h=some (v,h')):Fr h h':=by
  cases op with
  | call x l =>
    have hr:wGn x l tb ex exY σ h=some (v,h'):=hr
    unfold wGn at hr
    split at hr
    · exact wNs HE hr
    · exact wPT HY hr
    · cases hr
  | new T z=>cases hr;exact Fr.push _ _
  | box T x=>cases hr;exact Fr.push _ _
  | mkm=>cases hr;exact Fr.push _ _
  | mks T sz b z x y =>
    have hr:wHV T sz b z x y σ h=some (v,h'):=hr
    unfold wHV at hr
    split at hr
    · have hr:=wIE hr;cases hr;exact Fr.push _ _
    · cases hr
  | blds T n z ps =>
    have hr:wEy T n z ps σ h=some (v,h'):=hr
    unfold wEy at hr
    split at hr
    · cases hr;exact Fr.push _ _
    · cases hr
  | st n x y =>
    have hr:wQA n x y σ h=some (v,h'):=hr
    unfold wQA at hr
    split at hr
    · split at hr
      · split at hr
        · rename_i hs;cases hr;exact Fr.setAt hs
        · cases hr
      · cases hr
    · cases hr
  | mput two k x y z =>
    have hr:wGl two k x y z σ h=some (v,h'):=hr
    unfold wGl at hr
    split at hr
    · split at hr
      · split at hr
        · split at hr
          · rename_i hs;cases hr;exact Fr.put hs
          · cases hr
        · cases hr
      · cases hr
    · cases hr
  | mdel two k x y =>
    have hr:wGm two k x y σ h=some (v,h'):=hr
    unfold wGm at hr
    split at hr
    · split at hr
      · split at hr
        · split at hr
          · rename_i hs;cases hr;exact Fr.put hs
          · cases hr
        · cases hr
      · cases hr
    · cases hr
  | app T sz b x y =>
    have hr:wJQ T sz b x y σ h=some (v,h'):=hr
    unfold wJQ at hr
    split at hr
    · exact wSw (wIE hr)
    · cases hr
  | cpy sz x y =>
    have hr:wJR sz x y σ h=some (v,h'):=hr
    unfold wJR at hr
    split at hr
    · split at hr
      · have hr:=wIE hr
        split at hr
        · rename_i hs;cases hr;exact Fr.setAt hs
        · cases hr
      · cases hr
    · cases hr
  | clr z x =>
    have hr:wJS z x σ h=some (v,h'):=hr
    unfold wJS at hr
    split at hr
    · exact wQM hr
    · exact wQM hr
    · cases hr;exact Fr.refl _
    · cases hr;exact Fr.refl _
    · cases hr
  | bad=>cases hr
  | apz T sz b z x y =>
    have hr:wJV T sz b z x y σ h=some (v,h'):=hr
    unfold wJV at hr
    split at hr
    · split at hr
      · cases hr;exact Fr.refl _
      · have hr:=wIE hr;cases hr;exact Fr.push _ _
    · cases hr
  | _ =>
    have e:h'=h:=by
      dsimp only [opY] at hr
      first
        | exact wRR hr
        | (simp only [wSC,wHT,wOz,wID,wHU,wKD,wKE,wKF,wKG,wKH,wLp,wKI,wHW,wKJ,wKK,wHX,wKL,wHY,wQj,wKM,wPA,wKN,wKO,wFa,wKP,wKQ] at hr
           repeat' (split at hr)
           all_goals first
             | exact wRR hr
             | (cases hr;rfl)
             | (cases hr;done)
             | exact wRR (wIE hr)
             | (have hr2:=wIE hr;cases hr2;rfl))
    subst e
    exact Fr.refl _
theorem wQO (HE:FrX ex) (HY:FrX exY) (k:Nat) (op:AOp) (hr:opK k op tb ex exY σ h=some (v,h')):Fr h h':=by
 by_cases k2:nN k 2=true
 ·have hr:wQB op tb ex exY σ h=some (v,h'):=by
   have e:opK k op=wQB op:=by unfold opK;rw [k2]
   rw [e] at hr;exact hr
  unfold wQB at hr
  split at hr
  ·rename_i v0 h0 hq
   cases hr
   have F:=wNt HE HY op hq
   exact ⟨F.nx,rfl,fun p _ h2=>F.get p h2 h2⟩
  ·cases hr
 ·have e:opK k op=opY op:=by
   unfold opK
   cases hb:nN k 2 with
   | true=>exact absurd hb k2
   | false=>rfl
  rw [e] at hr
  exact wNt HE HY op hr
theorem wSx (HE:FrX ex) (HY:FrX exY) (op:AOp) (hr:wQB op tb ex exY σ h=some (v,h')):∀ p,p.nat < h.nx.nat->h'.m.get p=h.m.get p:=by
 unfold wQB at hr
 split at hr
 ·rename_i v0 h0 hq
  cases hr
  have F:=wNt HE HY op hq
  exact fun p h2=>F.get p h2 h2
 ·cases hr
theorem wIW (HE:FrX ex) (HY:FrX exY):∀ (l:List AO) (σ:Tr AV) (h:AH) (σ':Tr AV) (h':AH),wAr tb ex exY l σ h=some (σ',h')->Fr h h'
 | [],σ,h,σ',h',hr=>by
  rw [wBO] at hr;cases hr;exact Fr.refl _
 | o :: os,σ,h,σ',h',hr=>by
  rw [wBS] at hr
  split at hr
  ·split at hr
   ·rename_i r hq
    exact (wQO HE HY _ _ hq).trans (wIW HE HY os _ _ _ _ hr)
   ·cases hr
  ·exact wIW HE HY os _ _ _ _ hr
theorem wNu {exR:Run} (HR:FrX exR) {b:AC} {r:Ex × Tr AV × AH} {e:Ex} {σ':Tr AV} (hr:seqK b exR r=some (e,σ',h')):Fr r.2.2 h':=by
 obtain ⟨e0,σ0,h0⟩:=r
 rw [wKb] at hr
 cases e0 with
 | nrm=>exact HR _ _ _ _ _ _ hr
 | exit i=>cases hr;exact Fr.refl _
 | ret=>cases hr;exact Fr.refl _
theorem wRS {exR:Run} (HE:FrX ex) (HY:FrX exY) (HR:FrX exR) (c:AC) (f:Bool) {e:Ex} {σ':Tr AV} (hr:step c f tb ex exY exR σ h=some (e,σ',h')):Fr h h':=by
 cases c with
 | skip=>cases hr;exact Fr.refl _
 | rg l =>
  have hr:sRg l tb ex exY exR σ h=some (e,σ',h'):=hr
  unfold sRg at hr
  cases hq:wAr tb ex exY l σ h with
  | none=>rw [hq] at hr;cases hr
  | some y =>
   rw [hq] at hr
   cases hr
   exact wIW HE HY l _ _ _ _ hq
 | seq a b =>
  have hr:wSZ a b exR σ h=some (e,σ',h'):=hr
  unfold wSZ at hr
  obtain ⟨y,h1,h2⟩:=wSG hr
  exact (HR _ _ _ _ _ _ h1).trans (wNu HR h2)
 | cond c a b =>
  have hr:wNH c a b exR σ h=some (e,σ',h'):=hr
  unfold wNH at hr
  split at hr
  ·exact HR _ _ _ _ _ _ hr
  ·exact HR _ _ _ _ _ _ hr
  ·cases hr
 | block i a =>
  have hr:wLA i a exR σ h=some (e,σ',h'):=hr
  unfold wLA at hr
  obtain ⟨y,h1,h2⟩:=wSG hr
  obtain ⟨e0,σ0,h0⟩:=y
  refine (HR _ _ _ _ _ _ h1).trans ?_
  unfold wQD at h2
  cases e0 with
  | nrm=>cases h2;exact Fr.refl _
  | ret=>cases h2;exact Fr.refl _
  | exit j =>
   simp only at h2
   cases hb:nN j i with
   | true=>rw [hb] at h2;cases h2;exact Fr.refl _
   | false=>rw [hb] at h2;cases h2;exact Fr.refl _
 | loop a =>
  have hr:wNI a exR σ h=some (e,σ',h'):=hr
  unfold wNI at hr
  obtain ⟨y,h1,h2⟩:=wSG hr
  exact (HR _ _ _ _ _ _ h1).trans (wNu HR h2)
 | rf g t asg body =>
  have hr:sRf f g t asg body tb ex σ h=some (e,σ',h'):=hr
  unfold sRf at hr
  split at hr
  ·split at hr
   ·rename_i h1
    have F:=(Fr.push h (.loop σ t asg body .ready)).trans (wNs HE h1)
    split at hr
    ·split at hr
     ·rename_i h2;cases hr;exact F.trans (Fr.put h2)
     ·cases hr
    ·split at hr
     ·rename_i h2;cases hr;exact F.trans (Fr.put h2)
     ·cases hr
    ·cases hr
   ·cases hr
  ·cases hr
 | exit i=>cases hr;exact Fr.refl _
 | scope a=>exact HR _ _ _ _ _ _ hr
 | ret=>cases hr;exact Fr.refl _
 | rl l =>
  have hr:sRl l tb ex exY σ h=some (e,σ',h'):=hr
  rw [wQC] at hr
  split at hr
  ·rename_i y hq
   cases hr
   exact wIW HE HY l _ _ _ _ (wKZ _ _ _ _ hq).1
  ·cases hr
theorem wFq (tb:Tr AF):∀ (n:Nat) (r:Bool),FrX (exec tb n r)
 | 0,r=>fun c σ h e σ' h' hr=>by cases hr
 | n + 1,r=>fun c σ h e σ' h' hr=>by
  rw [wJW] at hr
  exact wRS (wFq tb n false) (wFq tb n true) (wFq tb n r) c _ hr
end
end Go.KX
namespace Go.KX
open Go.RowKit Go.KL
theorem wRT {a b:IntKind} (h:keq a b=true):a=b:=by
 cases a <;> cases b <;> first | rfl | (simp [keq] at h)
theorem wRU {a b:Int} (h:zeq a b=true):a=b:=by
 cases a with
 | ofNat a=>cases b with
  | ofNat b=>simp only [zeq] at h;rw [nB h]
  | negSucc b=>simp [zeq] at h
 | negSucc a=>cases b with
  | ofNat b=>simp [zeq] at h
  | negSucc b=>simp only [zeq] at h;rw [nB h]
mutual
theorem wNv:∀ {a b:AV},same a b=true->a=b
 | .int k n,.int k' n',h=>by simp only [same,nA] at h;rw [wRT h.1,wRU h.2]
 | .bool a,.bool b,h=>by simp only [same,beq_iff_eq] at h;rw [h]
 | .ptr b o,.ptr b' o',h=>by simp only [same,nA] at h;rw [Pos.beq_eq h.1,nB h.2]
 | .pnil,.pnil,_=>rfl
 | .sl b o n c,.sl b' o' n' c',h=>by simp only [same,nA] at h;rw [Pos.beq_eq h.1,nB h.2.1,nB h.2.2.1,nB h.2.2.2]
 | .rw b o n c,.rw b' o' n' c',h=>by simp only [same,nA] at h;rw [Pos.beq_eq h.1,nB h.2.1,nB h.2.2.1,nB h.2.2.2]
 | .snil,.snil,_=>rfl
 | .map b,.map b',h=>by simp only [same] at h;rw [Pos.beq_eq h]
 | .mnil,.mnil,_=>rfl
 | .fn f fi ca,.fn f' fi' ca',h=>by simp only [same,nA] at h;rw [Pos.beq_eq h.1,wGO h.2.1,wGO h.2.2]
 | .fnil,.fnil,_=>rfl
 | .agg l,.agg l',h=>by simp only [same] at h;rw [wGO h]
 | .tup l,.tup l',h=>by simp only [same] at h;rw [wGO h]
theorem wGO:∀ {a b:List AV},wIk a b=true->a=b
 | [],[],_=>rfl
 | a :: l,b :: k,h=>by simp only [wIk,nA] at h;rw [wNv h.1,wGO h.2]
 | [],_ :: _,h=>by simp [wIk] at h
 | _ :: _,[],h=>by simp [wIk] at h
end
section
variable {tb:Tr AF} {ex exY:Run} {σ:Tr AV} {h h':AH} {v:AV}
theorem wNw {o:Option AV} (hr:okV h o=some (v,h')) (h2:AH):okV h2 o=some (v,h2):=by
 cases o with
 | none=>cases hr
 | some x=>cases hr;rfl
end
section
variable {P:Program} {l:List Oper} {σ σ':Env} {o:Oper} {w:World}
def Agr (l:List Oper) (o:Oper) (σ σ':Env):Prop:=∀ d ∈ wEv l o,σ d=σ' d
theorem wSy (h:Agr l o σ σ'):∀ y ∈ o.op.operands,ev σ y=ev σ' y:=by
 intro y hy
 cases y with
 | tmp t=>exact h t (nj _ (kc.2 ⟨.tmp t,by simpa using hy,rfl⟩))
 | _=>rfl
theorem wCl (h:Agr l o σ σ'):wanted l σ o=wanted l σ' o:=by
 unfold wanted
 cases hg:o.guard with
 | none=>rfl
 | some g =>
  obtain ⟨j,b⟩:=g
  simp only
  cases hd:(l[j]?).bind (·.dst) with
  | none=>rfl
  | some t =>
   simp only
   rw [h t (by unfold wEv;rw [hg];simp only [hd];simp)]
theorem wNx (hs:wCI o=false) (h:Agr l o σ σ'):execOp (ev σ) o=execOp (ev σ') o:=execOp_congr o (wMa hs) (wSy h)
theorem Runs.agr (hs:wCI o=false) (h:Agr l o σ σ') {v:Value} {w':World}:Runs P σ w o v w' ↔ Runs P σ' w o v w':=by
 unfold Runs;rw [wNx hs h]
theorem Runs.det {v v':Value} {w1 w2:World} (h:Runs P σ w o v w1) (h':Runs P σ w o v' w2):v=v'/\w1=w2:=by
 have:=h.2.symm.trans h'.2
 simp only [Result.ok.injEq] at this
 obtain ⟨e,e2⟩:=this
 exact ⟨by simpa using e,e2⟩
theorem Step1.agr (hs:wCI o=false) (h:Agr l o σ σ') {R:Value->World->Prop} (hh:Step1 P l o σ w R):Step1 P l o σ' w R:=by
 have e:=wNx hs h
 have ew:=wCl h
 rcases hh with ⟨h1,⟨h2,w',h3,h4⟩ | ⟨v,w',h3,h4⟩ | ⟨f,args,R',h3,h4,h5⟩ | hy⟩ | ⟨h1,h2⟩
 ·exact .inl ⟨ew ▸ h1,.inl ⟨h2,w',by unfold Does at h3 ⊢;rw [<- e];exact h3,h4⟩⟩
 ·exact .inl ⟨ew ▸ h1,.inr (.inl ⟨v,w',by unfold Runs at h3 ⊢;rw [<- e];exact h3,h4⟩)⟩
 ·exact .inl ⟨ew ▸ h1,.inr (.inr (.inl ⟨f,args,R',by unfold Enters at h3 ⊢;rw [<- e];exact h3,h4,h5⟩))⟩
 ·exact .inl ⟨ew ▸ h1,.inr (.inr (.inr (by unfold Rounds at hy ⊢;rw [<- e];exact hy)))⟩
 ·exact .inr ⟨ew ▸ h1,h2⟩
end
end Go.KX
namespace Go.KX
open Go.RowKit Go.KL
section
variable {tb:Tr AF} {ex exY:Run} {C:Chk} {P:Program}
theorem wEG:∀ (l1 l2:List AO) (σ:Tr AV) (h:AH) (r:Tr AV × AH),wAr tb ex exY (l1 ++ l2) σ h=some r->∃ σ1 h1,wAr tb ex exY l1 σ h=some (σ1,h1)/\wAr tb ex exY l2 σ1 h1=some r
 | [],l2,σ,h,r,hr=>⟨σ,h,wBO _ _ _ _ _,hr⟩
 | a :: l1,l2,σ,h,r,hr=>by
  rw [nK,wBS] at hr
  rw [wBS]
  cases hw:wDN σ a.grd with
  | true =>
   rw [hw] at hr
   simp only at hr ⊢
   cases hq:opK a.kd a.op tb ex exY σ h with
   | none=>rw [hq] at hr;cases hr
   | some q =>
    rw [hq] at hr
    exact wEG l1 l2 _ _ r hr
  | false =>
   rw [hw] at hr
   exact wEG l1 l2 _ _ r hr
theorem wIt {d:Option Pos} {σ:Tr AV} {v:AV} {p:Pos}:evA (wGr d σ v) (.t p)=if d=some p then v else evA σ (.t p):=by
 cases d with
 | none =>
  rw [if_neg (by simp)]
  rfl
 | some q =>
  show evA (σ.set q v) (.t p)=_
  rw [wKT,Tr.get_set]
  by_cases e:p=q
  ·subst e
   rw [if_pos rfl,if_pos rfl]
   rfl
  ·rw [if_neg e,if_neg (fun h=>e (by cases h;rfl)),wKT]
theorem wDY:∀ (l:List AO) (σ:Tr AV) (h:AH) (σ':Tr AV) (h':AH),wAr tb ex exY l σ h=some (σ',h')->∀ p,(∀ a ∈ l,a.dst ≠ some p)->evA σ' (.t p)=evA σ (.t p)
 | [],σ,h,σ',h',hr,p,_=>by
  rw [wBO] at hr
  cases hr
  rfl
 | a :: l,σ,h,σ',h',hr,p,hp=>by
  have hn:a.dst ≠ some p:=hp a (by simp)
  rw [wBS] at hr
  cases hw:wDN σ a.grd with
  | true =>
   rw [hw] at hr
   simp only at hr
   cases hq:opK a.kd a.op tb ex exY σ h with
   | none=>rw [hq] at hr;cases hr
   | some q =>
    rw [hq] at hr
    rw [wDY l _ _ _ _ hr p fun b hb=>hp b (by simp [hb]),wIt,if_neg hn]
  | false =>
   rw [hw] at hr
   rw [wDY l _ _ _ _ hr p fun b hb=>hp b (by simp [hb]),wIt,if_neg hn]
variable {μ μ':Mu} {h:AH} {w:World}
theorem Sim.adopt {c:Cl} {B:AB} (S:Sim C P μ h w) (hlt:c.1 < w.heap.size) (hn:∀ p d,μ p=some d->d.1 ≠ c.1) (hB:AbR C P (μ.add h.nx c) w c B):Sim C P (μ.add h.nx c) (h.push B) w:=by
 have hn0:=S.nx h.nx (nH _)
 have hle:=Mu.add_le (c:=c) hn0
 refine ⟨?_,?_,?_,?_⟩
 ·intro p hp
  have hp:h.nx.succ.nat <= p.nat:=hp
  rw [Pos.nat_succ] at hp
  unfold Mu.add
  rw [if_neg (fun e=>by subst e;omega)]
  exact S.nx p (by omega)
 ·intro p d hd
  unfold Mu.add at hd
  split at hd
  ·cases hd;exact hlt
  ·exact S.lt p d hd
 ·intro p q a b d e hp hq la lb hd he hde
  simp only [AH.push,Tr.get_set] at hp hq
  unfold Mu.add at hd he
  split at hd <;> split at he
  ·rename_i h1 h2;rw [h1,h2]
  ·cases hd;exact absurd hde.symm (hn _ _ he)
  ·cases he;exact absurd hde (hn _ _ hd)
  ·rename_i h1 h2
   rw [if_neg h1] at hp
   rw [if_neg h2] at hq
   exact S.inj p q a b d e hp hq la lb hd he hde
 ·intro p b hb
  simp only [AH.push,Tr.get_set] at hb
  split at hb
  ·rename_i e
   subst e
   cases hb
   exact ⟨c,Mu.add_same _ _ _,hB⟩
  ·rename_i e
   obtain ⟨d,h1,h2⟩:=S.at_ p b hb
   exact ⟨d,hle _ _ h1,h2.mono hle⟩
end
end Go.KX
namespace Go.KX
open Go.RowKit Go.KL
theorem wGf:∀ {l:List AOd} {p:Pos},AOd.t p ∈ l->p ∈ wDI l
 | .t q :: l,p,h=>by
  rcases nI.1 h with h | h
  ·cases h;simp [wDI]
  ·simp only [wDI,nI];exact .inr (wGf h)
 | .c v :: l,p,h=>by
  rcases nI.1 h with h | h
  ·cases h
  ·show p ∈ wDI l
   exact wGf h
noncomputable def rst (σ:Tr AV):List Pos->Tr AV
 | []=>.e
 | p :: ps=>(rst σ ps).set p (evA σ (.t p))
theorem wHn (σ:Tr AV):∀ (ps:List Pos) (p:Pos),evA (rst σ ps) (.t p)=if p ∈ ps then evA σ (.t p) else u
 | [],p=>by rw [if_neg (by simp)];rfl
 | q :: ps,p=>by
  show evA ((rst σ ps).set q (evA σ (.t q))) (.t p)=_
  rw [wKT,Tr.get_set]
  by_cases e:p=q
  ·subst e
   rw [if_pos rfl,if_pos (by simp)]
   rfl
  ·rw [if_neg e,<- wKT,wHn σ ps p]
   simp [e]
open Classical in
noncomputable def rsl (σ:Env) (ps:List Pos):Env:=fun d=>if ∃ p ∈ ps,p.nat - 1=d then σ d else undef
theorem wHo {μ:Mu} {σA:Tr AV} {σ:Env} {ps:List Pos} (h:∀ p ∈ ps,Rv μ (evA σA (.t p)) (σ (p.nat - 1))):EnvR μ (rst σA ps) (rsl σ ps):=by
 intro p
 rw [wHn]
 unfold rsl
 by_cases hp:p ∈ ps
 ·rw [if_pos hp,if_pos ⟨p,hp,rfl⟩]
  exact h p hp
 ·rw [if_neg hp,if_neg]
  ·exact wNO μ
  ·rintro ⟨q,hq,e⟩
   have h1:=q.nat_pos
   have h2:=p.nat_pos
   have:q=p:=Pos.nat_inj (by omega)
   exact hp (this ▸ hq)
section
variable {tb:Tr AF} {ex exY:Run} {C:Chk} {P:Program} {μ:Mu} {σA:Tr AV} {σ:Env} {h h':AH} {v:AV} {o:Oper} {a:AOp} {w:World}
theorem wLO (hr:opY a tb ex exY σA h=some (v,h')):opY a tb ex exY (rst σA (wDI (wBz a))) h=some (v,h'):=by
 rw [<- hr]
 refine wNo a (fun x hx=>?_) h
 cases x with
 | t p=>rw [wHn,if_pos (wGf hx)]
 | c v=>rfl
theorem wRV (hs:wCI o=false) (hb:Sub a o):execOp (ev (rsl σ (wDI (wBz a)))) o=execOp (ev σ) o:=by
 refine execOp_congr o (wMa hs) fun y hy=>?_
 cases y with
 | tmp t =>
  show rsl σ (wDI (wBz a)) t=σ t
  unfold rsl
  rw [if_pos (hb t hy)]
 | _=>rfl
theorem wIu (hs:wCI o=false) (hb:Sub a o) {v:Value} {w':World}:Runs P (rsl σ (wDI (wBz a))) w o v w' ↔ Runs P σ w o v w':=by
 unfold Runs;rw [wRV hs hb]
theorem wHp (hs:wCI o=false) (hb:Sub a o) (hk:kdA a=3) (hc:wHi P a o.op=true) (hr:opY a tb ex exY σA h=some (v,h')) (hv:∀ p ∈ wDI (wBz a),Rv μ (evA σA (.t p)) (σ (p.nat - 1))) :
  ∃ cv,Rv μ v cv/\∀ w,Runs P σ w o cv w:=by
 obtain ⟨_,h2⟩:=wIS (tb:=tb) (ex:=ex) (exY:=exY) hk hc _ _ _ _ (wLO hr)
 obtain ⟨cv,g1,g2⟩:=h2 μ _ (wHo hv)
 exact ⟨cv,g1,fun w=>(wIu hs hb).1 (g2 o w rfl)⟩
theorem wNy (hs:wCI o=false) (hb:Sub a o) (hk:kdA a=1 \/ kdA a=3) (hc:wHi P a o.op=true) (hr:opY a tb ex exY σA h=some (v,h')) (S:Sim C P μ h w) (hv:∀ p ∈ wDI (wBz a),Rv μ (evA σA (.t p)) (σ (p.nat - 1))) :
  ∃ cv,Rv μ v cv/\Runs P σ w o cv w:=by
 obtain ⟨_,h2⟩:=wIT (C:=C) (tb:=tb) (ex:=ex) (exY:=exY) hk hc _ _ _ _ (wLO hr)
 obtain ⟨cv,g1,g2⟩:=h2 μ _ w (wHo hv) S
 exact ⟨cv,g1,(wIu hs hb).1 (g2 o rfl w (Keep.refl w _))⟩
theorem wLP {op:Op} (hk:wMW a=true) (hc:wHi P a op=true):OkA C P op (opY a tb ex exY):=by
 cases a <;> first
  | (simp [wMW] at hk;done)
  | exact a_new hc | exact a_box hc | exact a_mkm hc | exact a_mks hc | exact wSv hc
theorem wMB (hs:wCI o=false) (hb:Sub a o) (hk:wMW a=true) (hc:wHi P a o.op=true) (hr:opY a tb ex exY σA h=some (v,h')) (hv:∀ p ∈ wDI (wBz a),Rv μ (evA σA (.t p)) (σ (p.nat - 1))) :
  ∃ (B:AB) (vf:Pos->AV) (ob:Obj) (val:Nat->Value),h'=h.push B/\v=vf h.nx/\wLt B/\(∀ w:World,Runs P σ w o (val w.heap.size) (w.alloc ob)) /\
   (∀ μ' (w:World) b,μ.Le μ'->w.heap[b]?=some ob->AbR C P μ' w ⟨b,0,g0⟩ B)/\∀ μ' p b,μ' p=some ⟨b,0,g0⟩->Rv μ' (vf p) (val b):=by
 obtain ⟨B,vf,e1,e2,_,e4,e5⟩:=wLP (C:=C) (tb:=tb) (ex:=ex) (exY:=exY) hk hc _ _ _ _ (wLO hr)
 obtain ⟨ob,val,g1,g2,g3⟩:=e5 μ _ (wHo hv) o rfl
 exact ⟨B,vf,ob,val,e1,e2,e4,fun w=>(wIu hs hb).1 (g1 w),g2,g3⟩
end
end Go.KX
namespace Go.KX
open Go.RowKit Go.KL
section
variable {tb:Tr AF} {ex exY:Run} {P:Program}
theorem wLQ {s t:List AO} {a:AO} {σ0:Tr AV} {h0:AH} {r:Tr AV × AH} (hr:wAr tb ex exY (s ++ a :: t) σ0 h0=some r) :
  ∃ σ1 h1,wAr tb ex exY s σ0 h0=some (σ1,h1) /\
   ((wDN σ1 a.grd=true/\∃ v h2,opK a.kd a.op tb ex exY σ1 h1=some (v,h2)/\wAr tb ex exY t (wGr a.dst σ1 v) h2=some r) \/
    (wDN σ1 a.grd=false/\wAr tb ex exY t (wGr a.dst σ1 u) h1=some r)):=by
 obtain ⟨σ1,h1,e1,e2⟩:=wEG s (a :: t) σ0 h0 r hr
 refine ⟨σ1,h1,e1,?_⟩
 rw [wBS] at e2
 cases hw:wDN σ1 a.grd with
 | true =>
  rw [hw] at e2
  simp only at e2
  cases hq:opK a.kd a.op tb ex exY σ1 h1 with
  | none=>rw [hq] at e2;cases e2
  | some q =>
   rw [hq] at e2
   exact .inl ⟨rfl,q.1,q.2,rfl,e2⟩
 | false =>
  rw [hw] at e2
  exact .inr ⟨rfl,e2⟩
theorem wEg {l:List Oper} {S:Nat->Bool} (hdc:∀ k,k < l.length->S k=true->∀ j ∈ prI l k,S j=true) {x i:Nat} (hp:∀ j ∈ prI l i,S j=true) (h:wLJ l x i):S x=true:=h S hdc hp
variable {N:Nat} {l:List Oper} {os s t:List AO} {a:AO} {σ0 σ1 σf:Tr AV} {h0 h1 hf:AH}
theorem wKc (Z:ZOK P N l os) (e:os=s ++ a :: t) {v:AV} {σ2:Tr AV} {h2:AH} (hr:wAr tb ex exY t (wGr a.dst σ2 v) h2=some (σf,hf)) {p:Pos} (hp:a.dst=some p):evA σf (.t p)=v:=by
 rw [wDY t _ _ _ _ hr p fun b hb=>Z.wr s a t e p hp b (na _ hb),wIt,if_pos hp]
theorem wSz (Z:ZOK P N l os) (e:os=s ++ a :: t) (hr:wAr tb ex exY (a :: t) σ1 h1=some (σf,hf)) {p:Pos} (hp:p ∈ wCo a):evA σf (.t p)=evA σ1 (.t p) :=
 wDY (a :: t) _ _ _ _ hr p fun b hb=>Z.rd s a t e p hp b hb
end
end Go.KX
namespace Go.KX
open Go.RowKit Go.KL
section
variable {tb:Tr AF} {ex exY:Run} {P:Program} {N:Nat} {l:List Oper} {os s t:List AO} {a:AO} {σ0 σ1 σA σf:Tr AV} {h0 h h1 hf:AH} {μ μS:Mu} {σ σ':Env} {w:World} {o:Oper}
theorem wDZ:∀ {s s' t t':List AO} {a:AO},(s ++ a :: t).Pairwise (fun a b=>a.ix ≠ b.ix)->s ++ a :: t=s' ++ a :: t'->s=s'/\t=t'
 | [],[],t,t',a,_,e=>by
  simp only [nS,nW,true_and] at e
  exact ⟨rfl,e⟩
 | [],b :: s',t,t',a,hp,e=>by
  simp only [nS,nK,nW] at e
  obtain ⟨rfl,rfl⟩:=e
  rw [nS] at hp
  exact absurd rfl ((nZ.1 hp).1 a (by simp))
 | b :: s,[],t,t',a,hp,e=>by
  simp only [nS,nK,nW] at e
  obtain ⟨rfl,rfl⟩:=e
  rw [nK] at hp
  exact absurd rfl ((nZ.1 hp).1 b (by simp))
 | b :: s,b' :: s',t,t',a,hp,e=>by
  simp only [nK,nW] at e
  rw [nK] at hp
  obtain ⟨h1,h2⟩:=wDZ (nZ.1 hp).2 e.2
  exact ⟨by rw [e.1,h1],h2⟩
theorem wFP (A:AOK P N l a o) (hs:Sub a.op o):∀ d ∈ wEv l o,∃ p ∈ wCo a,p.nat - 1=d:=by
 intro d hd
 unfold wEv at hd
 rcases nL.1 hd with hd | hd
 ·obtain ⟨y,h1,h2⟩:=kc.1 hd
  cases y with
  | tmp t =>
   simp only [kg] at h2
   subst h2
   obtain ⟨p,h3,h4⟩:=hs t (by simpa using h1)
   exact ⟨p,nj _ h3,h4⟩
  | _=>simp at h2
 ·rcases A.grd with ⟨_,h2⟩ | ⟨p,b,j,d',h1,h2,h3,h4⟩
  ·rw [h2] at hd;simp at hd
  ·rw [h2] at hd
   simp only [h3,Option.toList_some,ng] at hd
   subst hd
   exact ⟨p,na _ (by rw [h1];simp),h4.symm⟩
structure Pend (tb:Tr AF) (ex exY:Run) (P:Program) (l:List Oper) (os:List AO) (σ0:Tr AV) (h0:AH) (σf:Tr AV) (w0:World) (μ μS:Mu) (σ:Env) (w:World) (a:AO) (o:Oper) (p:Pos):Prop where
 get:l[a.ix]?=some o
 dst:a.dst=some p
 fact:(wanted l σ o=false/\σ (p.nat - 1)=undef/\evA σf (.t p)=u) \/ (wanted l σ o=true /\
  (((a.kd=1 \/ a.kd=3 \/ 8 <= a.kd)/\Rv μ (evA σf (.t p)) (σ (p.nat - 1))) \/
   (a.kd=6/\Rv μS (evA σf (.t p)) (σ (p.nat - 1))/\∃ w1 w2,Runs P σ w1 o (σ (p.nat - 1)) w2) \/
   (a.kd=4/\Rv μS (evA σf (.t p)) (σ (p.nat - 1))/\∃ w1 ob s1 t1 σ1 h1,Runs P σ w1 o (σ (p.nat - 1)) (w1.alloc ob)/\w.heap[w1.heap.size]?=some ob/\w0.heap.size <= w1.heap.size /\
    os=s1 ++ a :: t1/\wAr tb ex exY s1 σ0 h0=some (σ1,h1)/\μS h1.nx=some ⟨w1.heap.size,0,g0⟩/\∀ q c,μS q=some c->c.1=w1.heap.size->q=h1.nx)))
theorem wNz {tb:Tr AF} {ex exY:Run} {k:Nat} {op:AOp} {σ:Tr AV} {h h':AH} {v:AV} (hk:k ≠ 2) (hr:opK k op tb ex exY σ h=some (v,h')):opY op tb ex exY σ h=some (v,h'):=by
 have hb:nN k 2=false:=by
  cases hb:nN k 2 with
  | false=>rfl
  | true=>exact absurd (nB hb) hk
 have:opK k op=opY op:=by unfold opK;rw [hb]
 rwa [this] at hr
theorem wMC {k:Nat} (h:8 <= k):¬ wCh k=true:=by
 unfold wCh
 simp only [nY,not_or]
 exact ⟨fun e=>by have:=nB e;omega,fun e=>by have:=nB e;omega⟩
theorem wOA {w:World} {a b:Obj} (h:w.alloc a=w.alloc b):a=b:=by
 have h1:=heap_alloc_new w a
 rw [h,heap_alloc_new] at h1
 exact (nJ h1).symm
theorem wTA (Z:ZOK P N l os) (e:os=s ++ a :: t) {μ0:Mu} {w0:World} {fl:Nat} (hs:wAr tb ex exY s σ0 h0=some (σA,h)) (hr:wAr tb ex exY (a :: t) σA h=some (σf,hf))
  (E:Ext μ0 fl w0 μ w) (S:Sim (CC P) P μ h w) (hE:EnvR μ σA σ') (hle:μ.Le μS) {p:Pos} (Pd:Pend tb ex exY P l os σ0 h0 σf w0 μ μS σ w a o p) (hag:∀ q ∈ wCo a,σ (q.nat - 1)=σ' (q.nat - 1)) :
  ∃ σB hB μB,wAr tb ex exY (s ++ [a]) σ0 h0=some (σB,hB)/\wAr tb ex exY t σB hB=some (σf,hf)/\μ.Le μB/\μB.Le μS/\Ext μ0 fl w0 μB w/\Sim (CC P) P μB hB w/\hB.fl=h.fl/\EnvR μB σB (upd σ' (p.nat - 1) (σ (p.nat - 1)))/\(a.kd=4->wanted l σ o=true->μB h.nx ≠ none):=by
 have ha:a ∈ os:=by rw [e];simp
 obtain ⟨o',A⟩:=wDb (Z.ao a ha)
 have eo:o'=o:=by have:=A.get;rw [Pd.get] at this;exact (nJ this).symm
 subst eo
 have hsel:=Z.sel a ha _ A.get
 have hsub:=Z.sub a ha _ A.get
 have hagr:Agr l o' σ σ':=fun d hd=>by
  obtain ⟨q,h1,rfl⟩:=wFP A hsub d hd
  exact hag q h1
 have hw:=wIr A hE
 have hwσ:wanted l σ o'=wDN σA a.grd:=(wCl hagr).trans hw
 obtain ⟨pd,dd,d1,d2,d3,_⟩:∃ p d,a.dst=some p/\o'.dst=some d/\d=p.nat - 1/\d < N:=by
  rcases A.dst with ⟨h1,_⟩ | h
  ·rw [Pd.dst] at h1;cases h1
  ·exact h
 have ep:pd=p:=by rw [Pd.dst] at d1;exact (nJ d1).symm
 subst ep
 have eput:∀ cv,put' σ' o' cv=upd σ' (pd.nat - 1) cv:=fun cv=>by unfold put';rw [d2,d3]
 obtain ⟨σx,hx,q1,q2⟩:=wLQ (s:=[]) (a:=a) (t:=t) (σ0:=σA) (h0:=h) (by rw [nS];exact hr)
 rw [wBO] at q1
 cases q1
 have split1:∀ {σB hB},(match wDN σA a.grd with | true=>(match opK a.kd a.op tb ex exY σA h with | some r=>some (wGr a.dst σA r.1,r.2) | none=>none) | false=>some (wGr a.dst σA u,h))=some (σB,hB)->wAr tb ex exY (s ++ [a]) σ0 h0=some (σB,hB):=by
  intro σB hB hq
  have app:∀ (l1 l2:List AO) (x:Tr AV) (y:AH) (x1:Tr AV) (y1:AH),wAr tb ex exY l1 x y=some (x1,y1)->wAr tb ex exY (l1 ++ l2) x y=wAr tb ex exY l2 x1 y1:=by
   intro l1
   induction l1 with
   | nil=>intro l2 x y x1 y1 h;rw [wBO] at h;cases h;rfl
   | cons b l1 ih =>
    intro l2 x y x1 y1 h
    rw [nK,wBS]
    rw [wBS] at h
    cases hb:wDN x b.grd with
    | true =>
     rw [hb] at h
     simp only at h ⊢
     cases hq:opK b.kd b.op tb ex exY x y with
     | none=>rw [hq] at h;cases h
     | some r=>rw [hq] at h;exact ih l2 _ _ _ _ h
    | false =>
     rw [hb] at h
     exact ih l2 _ _ _ _ h
  rw [app s [a] _ _ _ _ hs,wBS]
  cases hb:wDN σA a.grd with
  | true =>
   rw [hb] at hq
   simp only at hq ⊢
   cases hk:opK a.kd a.op tb ex exY σA h with
   | none=>rw [hk] at hq;cases hq
   | some r =>
    rw [hk] at hq
    cases hq
    exact wBO _ _ _ _ _
  | false =>
   rw [hb] at hq
   cases hq
   rw [wBO]
 rcases q2 with ⟨g1,v,h2,g2,g3⟩ | ⟨g1,g3⟩
 ·have hv:evA σf (.t pd)=v:=wKc Z e g3 Pd.dst
  have hrun:=split1 (σB:=wGr a.dst σA v) (hB:=h2) (by rw [g1];simp only;rw [g2])
  rcases Pd.fact with ⟨f1,_⟩ | ⟨_,⟨fk,f1⟩ | ⟨fk,f1,w1,w2,f2⟩ | ⟨fk,f1,w1,ob,s1,t1,σ1,h1,f2,f3,f4,f5,f6,f7,f8⟩⟩
  ·rw [hwσ,g1] at f1;cases f1
  ·have gY:opY a.op tb ex exY σA h=some (v,h2):=wNz (by omega) g2
   have hk:kdA a.op=1 \/ kdA a.op=3:=by
    rcases fk with fk | fk | fk
    ·exact A.k1 fk
    ·exact .inr (A.k3 fk)
    ·rcases Z.kd a ha with hh | ⟨_,hh | hh | hh | hh | hh⟩
     ·exact absurd hh (wMC fk)
     ·omega
     ·omega
     ·omega
     ·omega
     ·exact .inl hh.2
   obtain ⟨e1,_⟩:=wIT (C:=CC P) hk A.op _ _ _ _ gY
   subst e1
   rw [hv] at f1
   exact ⟨_,_,μ,hrun,g3,Mu.Le.refl μ,hle,E,S,rfl,by rw [<- eput];exact wEn A hE f1,fun h4 _=>by omega⟩
  ·have gY:opY a.op tb ex exY σA h=some (v,h2):=by rw [fk] at g2;exact g2
   have hk:kdA a.op=3:=by
    rcases Z.kd a ha with hh | ⟨_,hh | hh | hh | hh | hh⟩
    ·rw [fk] at hh;exact absurd hh (by decide)
    ·omega
    ·omega
    ·exact hh.2
    ·omega
    ·omega
   obtain ⟨e1,e2⟩:=wIS hk A.op _ _ _ _ gY
   subst e1
   obtain ⟨cv,c1,c2⟩:=e2 μ σ' hE
   have:=Runs.det ((Runs.agr hsel hagr).2 (c2 o' w1 rfl)) f2
   rw [<- eput,<- this.1]
   exact ⟨_,_,μ,hrun,g3,Mu.Le.refl μ,hle,E,S,rfl,wEn A hE c1,fun h4 _=>by omega⟩
  ·have gY:opY a.op tb ex exY σA h=some (v,h2):=by rw [fk] at g2;exact g2
   have hk:wMW a.op=true:=by
    rcases Z.kd a ha with hh | ⟨_,hh | hh | hh | hh | hh⟩
    ·rw [fk] at hh;exact absurd hh (by decide)
    ·omega
    ·omega
    ·omega
    ·exact hh.2
    ·omega
   obtain ⟨B,vf,e1,e2,_,_,e5⟩:=wLP (C:=CC P) hk A.op _ _ _ _ gY
   obtain ⟨ob',val,c1,c2,c3⟩:=e5 μ σ' hE o' rfl
   obtain ⟨k1,k2⟩:=Runs.det ((Runs.agr hsel hagr).2 (c1 w1)) f2
   have k2:=wOA k2
   subst k2
   have es:s1=s:=(wDZ (f5 ▸ Z.one) (f5.symm.trans e)).1
   subst es
   rw [hs] at f6
   cases f6
   have hn0:=S.nx h.nx (nH _)
   have hadd:=Mu.add_le (c:=(⟨w1.heap.size,0,g0⟩:Cl)) hn0
   have hlt:w1.heap.size < w.heap.size:=wAY f3
   subst e1 e2
   have hv':Rv (μ.add h.nx ⟨w1.heap.size,0,g0⟩) (vf h.nx) (σ (pd.nat - 1)):=by
    rw [<- k1]
    exact c3 _ _ _ (Mu.add_same _ _ _)
   refine ⟨_,_,μ.add h.nx ⟨w1.heap.size,0,g0⟩,hrun,g3,hadd,?_,⟨E.mono.trans hadd,?_,E.keep⟩,S.adopt hlt ?_ (c2 _ w _ hadd f3),rfl,?_,fun _ _=>by rw [Mu.add_same];simp⟩
   ·intro q d hq
    unfold Mu.add at hq
    split at hq
    ·rename_i eq
     subst eq
     cases hq
     exact f7
    ·exact hle q d hq
   ·intro q c hq
    unfold Mu.add at hq
    split at hq
    ·cases hq
     exact .inr (.inr f4)
    ·exact E.new q c hq
   ·intro q d hq hd
    have:=f8 q d (hle q d hq) hd
    subst this
    rw [hn0] at hq
    cases hq
   ·rw [<- eput]
    exact wEn A (hE.mono hadd) hv'
 ·have hrun:=split1 (σB:=wGr a.dst σA u) (hB:=h) (by rw [g1])
  rcases Pd.fact with ⟨_,f2,_⟩ | ⟨f1,_⟩
  ·refine ⟨_,_,μ,hrun,g3,Mu.Le.refl μ,hle,E,S,rfl,?_,fun _ hw'=>by rw [hwσ,g1] at hw';cases hw'⟩
   rw [f2,<- eput]
   exact wEn A hE (wNO μ)
  ·rw [hwσ,g1] at f1;cases f1
structure JS (tb:Tr AF) (ex exY:Run) (P:Program) (l:List Oper) (os:List AO) (σ0:Tr AV) (h0:AH) (σf:Tr AV) (hf:AH) (μ0:Mu) (w0:World) (S:Nat->Bool) (σ:Env) (w:World) (s t:List AO) (σA:Tr AV) (h:AH) (σ':Env) (μ μS:Mu):Prop where
 e:os=s ++ t
 hs:wAr tb ex exY s σ0 h0=some (σA,h)
 hr:wAr tb ex exY t σA h=some (σf,hf)
 inS:∀ a ∈ s,S a.ix=true
 free:∀ a ∈ t,S a.ix=true->wCh a.kd=false
 E:Ext μ0 h0.fl.nat w0 μ w
 sim:Sim (CC P) P μ h w
 fl:h.fl=h0.fl
 env:EnvR μ σA σ'
 ag:∀ q:Pos,(∀ a ∈ t,S a.ix=true->a.dst ≠ some q)->σ (q.nat - 1)=σ' (q.nat - 1)
 le:μ.Le μS
 nm:∀ q c,μS q=some c->μ q=some c \/ ∃ a o s1 t1 σ1 h1,a ∈ t/\S a.ix=true/\l[a.ix]?=some o/\wanted l σ o=true/\a.kd=4/\os=s1 ++ a :: t1/\wAr tb ex exY s1 σ0 h0=some (σ1,h1)/\q=h1.nx
 pd:∀ a ∈ t,S a.ix=true->∃ o p,Pend tb ex exY P l os σ0 h0 σf w0 μ μS σ w a o p
theorem Pend.mono {μB:Mu} {w0:World} {p:Pos} (h:Pend tb ex exY P l os σ0 h0 σf w0 μ μS σ w a o p) (hm:μ.Le μB):Pend tb ex exY P l os σ0 h0 σf w0 μB μS σ w a o p:=by
 refine ⟨h.get,h.dst,?_⟩
 rcases h.fact with f | ⟨f,⟨f1,f2⟩ | f1 | f1⟩
 ·exact .inl f
 ·exact .inr ⟨f,.inl ⟨f1,f2.mono hm⟩⟩
 ·exact .inr ⟨f,.inr (.inl f1)⟩
 ·exact .inr ⟨f,.inr (.inr f1)⟩
theorem JS.catch1 (Z:ZOK P N l os) {μ0:Mu} {w0:World} {S:Nat->Bool} (J:JS tb ex exY P l os σ0 h0 σf hf μ0 w0 S σ w s (a :: t) σA h σ' μ μS) (ha:S a.ix=true) :
  ∃ σB hB σ'' μB,JS tb ex exY P l os σ0 h0 σf hf μ0 w0 S σ w (s ++ [a]) t σB hB σ'' μB μS:=by
 obtain ⟨o,p,Pd⟩:=J.pd a (by simp) ha
 have hag:∀ q ∈ wCo a,σ (q.nat - 1)=σ' (q.nat - 1):=fun q hq=>J.ag q fun b hb _=>Z.rd s a t J.e q hq b hb
 obtain ⟨σB,hB,μB,c1,c2,c3,c4,c5,c6,c7,c8,c9⟩:=wTA Z J.e J.hs J.hr J.E J.sim J.env J.le Pd hag
 have hne:∀ b ∈ t,b.ix ≠ a.ix:=fun b hb e=>by
  have:=Z.one
  rw [J.e] at this
  exact (nZ.1 (nt.1 this).2.1).1 b hb e.symm
 refine ⟨σB,hB,_,μB,by rw [J.e];simp,c1,c2,fun b hb=>?_,fun b hb=>J.free b (by simp [hb]),c5,c6,c7.trans J.fl,c8,fun q hq=>?_,c4,fun q c hq=>?_,fun b hb hS=>?_⟩
 ·rcases nL.1 hb with hb | hb
  ·exact J.inS b hb
  ·rw [ng.1 hb];exact ha
 ·by_cases e:q=p
  ·subst e
   rw [wDB]
  ·rw [wCV _ _ (fun h=>e (Pos.nat_inj (by have:=q.nat_pos;have:=p.nat_pos;omega)))]
   refine J.ag q fun b hb hS=>?_
   rcases nI.1 hb with rfl | hb
   ·rw [Pd.dst]
    intro h
    cases h
    exact e rfl
   ·exact hq b hb hS
 ·rcases J.nm q c hq with h1 | ⟨b,ob,s1,t1,σ1,h1,k1,k2,k3,k4,k5,k6,k7,k8⟩
  ·exact .inl (c3 _ _ h1)
  ·rcases nI.1 k1 with rfl | k1
   ·left
    have hs1:s1=s:=(wDZ (k6 ▸ Z.one) (k6.symm.trans J.e)).1
    subst hs1
    rw [J.hs] at k7
    cases k7
    subst k8
    rw [Pd.get] at k3
    cases k3
    have:=c9 k5 k4
    cases hm:μB h.nx with
    | none=>exact absurd hm this
    | some c' =>
     have:=c4 _ _ hm
     rw [hq] at this
     exact this.symm
   ·exact .inr ⟨b,ob,s1,t1,σ1,h1,k1,k2,k3,k4,k5,k6,k7,k8⟩
 ·obtain ⟨o',p',h'⟩:=J.pd b (by simp [hb]) hS
  exact ⟨o',p',h'.mono c3⟩
end
end Go.KX
namespace Go.KX
open Go.RowKit Go.KL
section
variable {tb:Tr AF} {ex exY:Run} {P:Program} {N:Nat} {l:List Oper} {os s t:List AO} {a:AO} {σ0 σA σf:Tr AV} {h0 h hf:AH} {μ μS:Mu} {σ σ':Env} {w:World} {o:Oper}
theorem wEM:∀ (l1 l2:List AO) (x:Tr AV) (y:AH) (x1:Tr AV) (y1:AH),wAr tb ex exY l1 x y=some (x1,y1)->wAr tb ex exY (l1 ++ l2) x y=wAr tb ex exY l2 x1 y1
 | [],l2,x,y,x1,y1,h=>by rw [wBO] at h;cases h;rfl
 | b :: l1,l2,x,y,x1,y1,h=>by
  rw [nK,wBS]
  rw [wBS] at h
  cases hb:wDN x b.grd with
  | true =>
   rw [hb] at h
   simp only at h ⊢
   cases hq:opK b.kd b.op tb ex exY x y with
   | none=>rw [hq] at h;cases h
   | some r=>rw [hq] at h;exact wEM l1 l2 _ _ _ _ h
  | false =>
   rw [hb] at h
   exact wEM l1 l2 _ _ _ _ h
theorem wRW (HE:FrX ex) (HY:FrX exY) (Z:ZOK P N l os) (e:os=s ++ t) (hs:wAr tb ex exY s σ0 h0=some (σA,h)) {b:AO} (hb:b ∈ t) {s1 t1:List AO} {σ1:Tr AV} {h1:AH} (e1:os=s1 ++ b :: t1) (hr:wAr tb ex exY s1 σ0 h0=some (σ1,h1)):h.nx.nat <= h1.nx.nat:=by
 obtain ⟨r,r',rfl⟩:=nT hb
 have es:s1=s ++ r:=(wDZ (e1 ▸ Z.one) (e1.symm.trans (e.trans (nX _ _ _).symm))).1
 subst es
 rw [wEM s r _ _ _ _ hs] at hr
 exact (wIW HE HY _ _ _ _ _ hr).nx
theorem wHD (Z:ZOK P N l os) {S:Nat->Bool} (hdc:∀ k,k < l.length->S k=true->∀ j ∈ prI l k,S j=true) (ha:a ∈ os) (hS:S a.ix=false) {b:AO} (hb:b ∈ os) (hbS:S b.ix=true) (A:AOK P N l a o) {ob:Oper} (hob:l[b.ix]?=some ob) (v:Value):Agr l ob σ (put' σ o v):=by
 obtain ⟨ob',B⟩:=wDb (Z.ao b hb)
 have eo:ob'=ob:=by have:=B.get;rw [hob] at this;exact (nJ this).symm
 subst eo
 intro d hd
 obtain ⟨p,hp,rfl⟩:=wFP B (Z.sub b hb _ B.get) d hd
 symm
 refine wHI fun dd hdd e=>?_
 rcases A.dst with ⟨_,h2⟩ | ⟨q,d',h1,h2,h3,_⟩
 ·rw [h2] at hdd;cases hdd
 ·rw [h2] at hdd
  have hdd:=nJ hdd
  have eq:q=p:=Pos.nat_inj (by have:=q.nat_pos;have:=p.nat_pos;have:q.nat - 1=p.nat - 1:=h3.symm.trans (hdd.trans e);omega)
  subst eq
  have:=Z.rdS b hb q hp a ha h1
  have hlt:b.ix < l.length:=(nc.1 hob).1
  have:=wEg hdc (hdc _ hlt hbS) this
  rw [hS] at this
  cases this
theorem JS.fixed (HC:wGp (CC P) P tb ex) (HY':wFo (CC P) P exY) (HE:FrX ex) (HY:FrX exY) (Z:ZOK P N l os) {μ0:Mu} {w0:World} {S:Nat->Bool} (J:JS tb ex exY P l os σ0 h0 σf hf μ0 w0 S σ w s (a :: t) σA h σ' μ μS) (hfix:wCh a.kd=true) (hS:S a.ix=false)
  (hdc:∀ k,k < l.length->S k=true->∀ j ∈ prI l k,S j=true) (A:AOK P N l a o) :
  Step1 P l o σ w fun v w'=>∃ σB hB σ'' μB μT,JS tb ex exY P l os σ0 h0 σf hf μ0 w0 (fun k=>k == a.ix || S k) (put' σ o v) w' (s ++ [a]) t σB hB σ'' μB μT:=by
 have ha:a ∈ os:=by rw [J.e];simp
 have hsel:=Z.sel a ha _ A.get
 have hag:∀ q ∈ wCo a,σ (q.nat - 1)=σ' (q.nat - 1):=fun q hq=>J.ag q fun b hb _=>Z.rd s a t J.e q hq b hb
 have hagr:Agr l o σ σ':=fun d hd=>by
  obtain ⟨q,h1,rfl⟩:=wFP A (Z.sub a ha _ A.get) d hd
  exact hag q h1
 have hw:=wIr A J.env
 have main:∀ (v:AV) (cv:Value) (hB:AH) (w':World) (μB:Mu),wAr tb ex exY (s ++ [a]) σ0 h0=some (wGr a.dst σA v,hB)->wAr tb ex exY t (wGr a.dst σA v) hB=some (σf,hf) ->
   Ext μ h.fl.nat w μB w'->Sim (CC P) P μB hB w'->EnvR μB (wGr a.dst σA v) (put' σ' o cv)->hB.fl=h.fl ->
   ∃ σB hB σ'' μB μT,JS tb ex exY P l os σ0 h0 σf hf μ0 w0 (fun k=>k == a.ix || S k) (put' σ o cv) w' (s ++ [a]) t σB hB σ'' μB μT:=by
  intro v cv hB w' μB r1 r2 E' S' hE' hfl
  have hne:∀ b ∈ t,b.ix ≠ a.ix:=fun b hb e=>by
   have:=Z.one
   rw [J.e] at this
   exact (nZ.1 (nt.1 this).2.1).1 b hb e.symm
  have hSb:∀ b ∈ t,(b.ix == a.ix || S b.ix)=true->S b.ix=true:=fun b hb h=>by
   have:=hne b hb
   simpa [this] using h
  have hbo:∀ b ∈ t,b ∈ os:=fun b hb=>by rw [J.e];simp [hb]
  have eB:os=(s ++ [a]) ++ t:=by rw [J.e];simp
  have hnm:∀ b ∈ t,∀ s1 t1 σ1 h1,os=s1 ++ b :: t1->wAr tb ex exY s1 σ0 h0=some (σ1,h1)->μB h1.nx=none/\μ h1.nx=none:=fun b hb s1 t1 σ1 h1 e1 hr=>by
   have g1:=wRW HE HY Z eB r1 hb e1 hr
   have g2:=wRW HE HY Z J.e J.hs (b:=b) (by simp [hb]) e1 hr
   exact ⟨S'.nx _ g1,J.sim.nx _ g2⟩
  let μT:Mu:=fun q=>match μB q with | some c=>some c | none=>μS q
  have hT:μB.Le μT:=fun q c hq=>by show (match μB q with | some c=>some c | none=>μS q)=_;rw [hq]
  have hST:μS.Le μT:=fun q c hq=>by
   show (match μB q with | some c=>some c | none=>μS q)=_
   cases hB:μB q with
   | none=>exact hq
   | some c' =>
    rcases J.nm q c hq with h1 | ⟨b,ob,s1,t1,σ1,h1,k1,k2,k3,k4,k5,k6,k7,k8⟩
    ·rw [E'.mono _ _ h1] at hB
     exact hB.symm ▸ rfl
    ·rcases nI.1 k1 with rfl | k1
     ·rw [hS] at k2;cases k2
     ·have:=(hnm b k1 s1 t1 σ1 h1 k6 k7).1
      rw [<- k8,hB] at this
      cases this
  refine ⟨_,hB,_,μB,μT,eB,r1,r2,fun b hb=>?_,fun b hb hh=>J.free b (by simp [hb]) (hSb b hb hh),?_,S',hfl.trans J.fl,hE',fun q hq=>?_,hT,fun q c hq=>?_,fun b hb hh=>?_⟩
  ·rcases nL.1 hb with hb | hb
   ·simp [J.inS b hb]
   ·rw [ng.1 hb];simp
  ·have:=J.E
   refine this.trans ?_
   rw [<- J.fl]
   exact E'
  ·have old:σ (q.nat - 1)=σ' (q.nat - 1) \/ a.dst=some q:=by
    by_cases hq':a.dst=some q
    ·exact .inr hq'
    ·exact .inl (J.ag q fun b hb h=>by
      rcases nI.1 hb with rfl | hb
      ·exact hq'
      ·exact hq b hb (by simp [h]))
   rcases A.dst with ⟨h1,h2⟩ | ⟨p,d,h1,h2,h3,_⟩
   ·unfold put'
    rw [h2]
    rcases old with old | old
    ·exact old
    ·rw [h1] at old;cases old
   ·unfold put'
    rw [h2]
    by_cases e:q.nat - 1=d
    ·simp only [e,wDB]
    ·simp only
     rw [wCV _ _ e,wCV _ _ e]
     rcases old with old | old
     ·exact old
     ·rw [h1] at old
      cases old
      exact absurd h3.symm e
  ·have hq:(match μB q with | some c=>some c | none=>μS q)=some c:=hq
   cases hB':μB q with
   | some c' =>
    rw [hB'] at hq
    exact .inl hq
   | none =>
    rw [hB'] at hq
    rcases J.nm q c hq with h1 | ⟨b,ob,s1,t1,σ1,h1,k1,k2,k3,k4,k5,k6,k7,k8⟩
    ·rw [E'.mono _ _ h1] at hB'
     cases hB'
    ·rcases nI.1 k1 with rfl | k1
     ·rw [hS] at k2;cases k2
     ·exact .inr ⟨b,ob,s1,t1,σ1,h1,k1,by simp [k2],k3,(wCl (wHD Z hdc ha hS (hbo b k1) k2 A k3 cv)).symm.trans k4,k5,k6,k7,k8⟩
  ·have hbS:=hSb b hb hh
   obtain ⟨ob,p,Pd⟩:=J.pd b (by simp [hb]) hbS
   have hA:=wHD (σ:=σ) Z hdc ha hS (hbo b hb) hbS A Pd.get cv
   have hp:put' σ o cv (p.nat - 1)=σ (p.nat - 1):=wHI fun d hd e=>by
    rcases A.dst with ⟨_,h2⟩ | ⟨q,d',h1,h2,h3,_⟩
    ·rw [h2] at hd;cases hd
    ·rw [h2] at hd
     have hd:=nJ hd
     have eq:q=p:=Pos.nat_inj (by have:=q.nat_pos;have:=p.nat_pos;have:q.nat - 1=p.nat - 1:=h3.symm.trans (hd.trans e);omega)
     subst eq
     exact Z.wr s a t J.e q h1 b (na _ hb) Pd.dst
   have hsb:=Z.sel b (hbo b hb) _ Pd.get
   refine ⟨ob,p,Pd.get,Pd.dst,?_⟩
   rw [hp,<- wCl hA]
   rcases Pd.fact with f | ⟨f,⟨f1,f2⟩ | ⟨f1,f2,w1,w2,f3⟩ | ⟨f1,f2,w1,o1,s1,t1,σ1,h1,f3,f4,f5,f6,f7,f8,f9⟩⟩
   ·exact .inl f
   ·exact .inr ⟨f,.inl ⟨f1,f2.mono E'.mono⟩⟩
   ·exact .inr ⟨f,.inr (.inl ⟨f1,f2.mono hST,w1,w2,(Runs.agr hsb hA).1 f3⟩)⟩
   ·obtain ⟨n1,n2⟩:=hnm b hb s1 t1 σ1 h1 f6 f7
    have nimg:¬ img μ h.fl.nat w1.heap.size:=by
     rintro ⟨q,d,g1,g2,_⟩
     have:=f9 q d (J.le _ _ g1) g2
     rw [this,n2] at g1
     cases g1
    refine .inr ⟨f,.inr (.inr ⟨f1,f2.mono hST,w1,o1,s1,t1,σ1,h1,(Runs.agr hsb hA).1 f3,(E'.keep.block _ (wAY f4) nimg).trans f4,f5,f6,f7,hST _ _ f8,fun q c hq hc=>?_⟩)⟩
    have hq:(match μB q with | some c=>some c | none=>μS q)=some c:=hq
    cases hB':μB q with
    | none=>rw [hB'] at hq;exact f9 q c hq hc
    | some c' =>
     rw [hB'] at hq
     cases hq
     rcases E'.new q c hB' with g | g | g
     ·exact f9 q c (J.le _ _ g) hc
     ·rw [hc] at g;exact absurd g nimg
     ·have:=wAY f4;omega
 obtain ⟨σx,hx,q1,q2⟩:=wLQ (s:=[]) (a:=a) (t:=t) (σ0:=σA) (h0:=h) (by rw [nS];exact J.hr)
 rw [wBO] at q1
 cases q1
 refine Step1.agr hsel (fun d hd=>(hagr d hd).symm) ?_
 rcases q2 with ⟨g1,v,h2,g2,g3⟩ | ⟨g1,g3⟩
 ·refine (wSu HC HY' A (hw.trans g1) g2 J.env J.sim).mono ?_
  rintro cv w' ⟨_,μB,e1,e2,e3,e4⟩
  refine main v cv h2 w' μB ?_ g3 e1 e2 e3 e4
  rw [wEM s [a] _ _ _ _ J.hs,wBS,g1]
  simp only
  rw [g2]
  exact wBO _ _ _ _ _
 ·refine .inr ⟨hw.trans g1,?_⟩
  refine main u undef h w μ ?_ g3 (Ext.refl μ _ w) J.sim (wEn A J.env (wNO μ)) rfl
  rw [wEM s [a] _ _ _ _ J.hs,wBS,g1]
  exact wBO _ _ _ _ _
theorem JS.opnd (Z:ZOK P N l os) {μ0:Mu} {w0:World} {S:Nat->Bool} (J:JS tb ex exY P l os σ0 h0 σf hf μ0 w0 S σ w s t σA h σ' μ μS) (ha:a ∈ os) (hl:a.ix < l.length) (hp:∀ j ∈ prI l a.ix,S j=true)
  (hdc:∀ k,k < l.length->S k=true->∀ j ∈ prI l k,S j=true) {p:Pos} (hr:p ∈ wCo a):Rv μS (evA σf (.t p)) (σ (p.nat - 1))/\(a.kd=1 \/ a.kd=3 \/ 8 <= a.kd->Rv μ (evA σf (.t p)) (σ (p.nat - 1))):=by
 have base:(∀ b ∈ t,b.dst ≠ some p)->Rv μ (evA σf (.t p)) (σ (p.nat - 1)):=fun hn=>by
  rw [wDY t _ _ _ _ J.hr p hn,J.ag p fun b hb _=>hn b hb]
  exact J.env p
 by_cases hw:∃ b ∈ t,b.dst=some p
 ·obtain ⟨b,hb,hd⟩:=hw
  have hbo:b ∈ os:=by rw [J.e];simp [hb]
  have hanc:=Z.rdS a ha p hr b hbo hd
  have hS:=wEg hdc hp hanc
  obtain ⟨ob,p',Pd⟩:=J.pd b hb hS
  have ep:p'=p:=by have:=Pd.dst;rw [hd] at this;exact (nJ this).symm
  subst ep
  rcases Pd.fact with ⟨_,f1,f2⟩ | ⟨_,⟨_,f1⟩ | ⟨f0,f1,_⟩ | ⟨f0,f1,_⟩⟩
  ·rw [f1,f2]
   exact ⟨wNO _,fun _=>wNO _⟩
  ·exact ⟨f1.mono J.le,fun _=>f1⟩
  ·exact ⟨f1,fun hk=>absurd f0 (Z.cl a ha hk p' hr b hbo hd).2⟩
  ·exact ⟨f1,fun hk=>absurd f0 (Z.cl a ha hk p' hr b hbo hd).1⟩
 ·have:=base fun b hb hd=>hw ⟨b,hb,hd⟩
  exact ⟨this.mono J.le,fun _=>this⟩
end
end Go.KX
namespace Go.KX
open Go.RowKit Go.KL
section
variable {tb:Tr AF} {ex exY:Run} {P:Program} {N:Nat} {l:List Oper} {os s t:List AO} {a:AO} {σ0 σA σf:Tr AV} {h0 h h1 h' hf:AH} {μ μS:Mu} {σ σ':Env} {w:World} {o:Oper} {v:AV}
theorem wPU {a:AOp} {op:Op} (hk:kdA a=1) (hc:wHi P a op=true) (hE:EnvR μ σA σ) (hm:∀ b c,μ b=some c->h.m.get b=h1.m.get b) (hr:opY a tb ex exY σA h1=some (v,h')):opY a tb ex exY σA h=some (v,h):=by
 have cel:∀ b c,μ b=some c->wDr h b=wDr h1 b:=fun b c hb=>by unfold wDr;rw [hm b c hb]
 cases a <;> first | (simp [kdA] at hk;done) | skip
 case ld x =>
  have hr:wOz x σA h1=some (v,h'):=hr
  show wOz x σA h=some (v,h)
  have hc:wSj P x op=true:=hc
  unfold wSj at hc
  split at hc
  ·simp only [nA] at hc
   have g:=wAK hc.2 hE
   unfold wOz at hr ⊢
   split at hr
   ·rename_i b off hb
    rw [hb] at g
    obtain ⟨c,g1,_⟩:=g
    simp only [hb,cel b c g1]
    split at hr
    ·exact wNw hr h
    ·cases hr
   ·cases hr
  ·cases hc
 case ldA n x =>
  have hr:wID n x σA h1=some (v,h'):=hr
  show wID n x σA h=some (v,h)
  have hc:wNd P n x op=true:=hc
  unfold wNd at hc
  split at hc
  ·simp only [nA] at hc
   have g:=wAK hc.2 hE
   unfold wID at hr ⊢
   split at hr
   ·rename_i b off hb
    rw [hb] at g
    obtain ⟨c,g1,_⟩:=g
    simp only [hb,cel b c g1]
    split at hr
    ·exact wNw hr h
    ·cases hr
   ·cases hr
  ·cases hc
 case lk two k ok z x y =>
  have hr:wPA two k ok z x y σA h1=some (v,h'):=hr
  show wPA two k ok z x y σA h=some (v,h)
  have hc:wSn P two k ok z x y op=true:=hc
  unfold wSn at hc
  split at hc
  ·simp only [nA] at hc
   have g:=wAK hc.2.2.1 hE
   unfold wPA at hr ⊢
   split at hr
   ·rename_i b hb
    rw [hb] at g
    obtain ⟨c,g1,_⟩:=g
    simp only [hb,hm b c g1]
    repeat' (split at hr)
    all_goals first | (cases hr;done) | (cases hr;rfl)
   ·cases hr
  ·cases hc
 case lenM x =>
  have hr:wFa x σA h1=some (v,h'):=hr
  show wFa x σA h=some (v,h)
  have hc:wJc P x op=true:=hc
  unfold wJc at hc
  split at hc
  ·split at hc
   ·simp only [nA] at hc
    obtain ⟨_,hc⟩:=hc
    split at hc
    ·simp only [nA] at hc
     have g:=wAK hc.2 hE
     unfold wFa at hr ⊢
     split at hr
     ·rename_i hb
      cases hr
      simp_all
     ·rename_i b hb
      rw [hb] at g
      obtain ⟨c,g1,_⟩:=g
      simp only [hb,hm b c g1]
      repeat' (split at hr)
      all_goals first | (cases hr;done) | (cases hr;rfl)
     ·cases hr
    ·cases hc
   ·cases hc
  ·cases hc
theorem wIv (HE:FrX ex) (HY:FrX exY):∀ (r:List AO) (σ1:Tr AV) (h1:AH) (σ2:Tr AV) (h2:AH),wAr tb ex exY r σ1 h1=some (σ2,h2)->(∀ b ∈ r,wHj P N l b=true) ->
  (∀ b ∈ r,b.kd=2 \/ (b.kd=1 \/ b.kd=3 \/ (b.kd=6/\kdA b.op=3) \/ (b.kd=4/\wMW b.op=true) \/ (8 <= b.kd/\kdA b.op=1)))->h1.nx.nat <= h2.nx.nat/\∀ p:Pos,p.nat < h1.nx.nat->h2.m.get p=h1.m.get p
 | [],σ1,h1,σ2,h2,hr,_,_=>by
  rw [wBO] at hr
  cases hr
  exact ⟨nH _,fun _ _=>rfl⟩
 | b :: r,σ1,h1,σ2,h2,hr,hc,hk=>by
  rw [wBS] at hr
  cases hw:wDN σ1 b.grd with
  | false =>
   rw [hw] at hr
   exact wIv HE HY r _ _ _ _ hr (fun c hcc=>hc c (by simp [hcc])) (fun c hcc=>hk c (by simp [hcc]))
  | true =>
   rw [hw] at hr
   simp only at hr
   cases hq:opK b.kd b.op tb ex exY σ1 h1 with
   | none=>rw [hq] at hr;cases hr
   | some q =>
    rw [hq] at hr
    obtain ⟨v,h3⟩:=q
    obtain ⟨g1,g2⟩:=wIv HE HY r _ _ _ _ hr (fun c hcc=>hc c (by simp [hcc])) (fun c hcc=>hk c (by simp [hcc]))
    obtain ⟨o,A⟩:=wDb (hc b (by simp))
    have one:h1.nx.nat <= h3.nx.nat/\∀ p:Pos,p.nat < h1.nx.nat->h3.m.get p=h1.m.get p:=by
     have same:h3=h1->h1.nx.nat <= h3.nx.nat/\∀ p:Pos,p.nat < h1.nx.nat->h3.m.get p=h1.m.get p:=fun e=>by subst e;exact ⟨nH _,fun _ _=>rfl⟩
     rcases hk b (by simp) with k | k | k | ⟨k,k'⟩ | ⟨k,k'⟩ | ⟨k,k'⟩
     ·exact ⟨(wQO HE HY _ _ hq).nx,wSx HE HY b.op (by rw [k] at hq;exact hq)⟩
     ·rw [k] at hq
      exact same (wIT (C:=CC P) (A.k1 k) A.op _ _ _ _ hq).1
     ·rw [k] at hq
      exact same (wIS (A.k3 k) A.op _ _ _ _ hq).1
     ·rw [k] at hq
      exact same (wIS k' A.op _ _ _ _ hq).1
     ·rw [k] at hq
      obtain ⟨B,vf,e1,_⟩:=wLP (C:=CC P) k' A.op _ _ _ _ hq
      subst e1
      refine ⟨(Fr.push h1 B).nx,fun p hp=>?_⟩
      show (h1.m.set h1.nx B).get p=_
      rw [Tr.get_set,if_neg (fun e=>by subst e;omega)]
     ·exact same (wIT (C:=CC P) (.inl k') A.op _ _ _ _ (wNz (by omega) hq)).1
    exact ⟨kH one.1 g1,fun p hp=>(g2 p (kK hp one.1)).trans (one.2 p hp)⟩
theorem JS.full {μ0:Mu} {w0:World} {S:Nat->Bool} (J:JS tb ex exY P l os σ0 h0 σf hf μ0 w0 S σ w s t σA h σ' μ μS):wAr tb ex exY os σ0 h0=some (σf,hf):=by
 rw [J.e,wEM s t _ _ _ _ J.hs]
 exact J.hr
theorem JS.frm (Z:ZOK P N l os) {μ0:Mu} {w0:World} {S:Nat->Bool} (J:JS tb ex exY P l os σ0 h0 σf hf μ0 w0 S σ w s t σA h σ' μ μS) (ha:a ∈ os) (hl:a.ix < l.length) (hp:∀ j ∈ prI l a.ix,S j=true)
  (hdc:∀ k,k < l.length->S k=true->∀ j ∈ prI l k,S j=true) (A:AOK P N l a o) {s1 t1:List AO} {σ1:Tr AV} (e1:os=s1 ++ a :: t1) (hr1:wAr tb ex exY s1 σ0 h0=some (σ1,h1)) :
  wanted l σ o=wDN σ1 a.grd/\∀ p ∈ wCo a,evA σf (.t p)=evA σ1 (.t p):=by
 have hf:=J.full
 have hrd:∀ p ∈ wCo a,evA σf (.t p)=evA σ1 (.t p):=fun p hp=>by
  rw [e1,wEM s1 _ _ _ _ _ hr1] at hf
  exact wSz Z e1 hf hp
 refine ⟨?_,hrd⟩
 have hE:EnvR μS (rst σf (wCo a)) (rsl σ (wCo a)):=wHo fun p hpr=>(J.opnd Z ha hl hp hdc hpr).1
 have hw:=wIr A hE
 have hag:Agr l o (rsl σ (wCo a)) σ:=fun d hd=>by
  obtain ⟨p,h1,h2⟩:=wFP A (Z.sub a ha _ A.get) d hd
  unfold rsl
  rw [if_pos ⟨p,h1,h2⟩]
 rw [<- wCl hag,hw]
 cases hg:a.grd with
 | none=>rfl
 | some q =>
  obtain ⟨p,b⟩:=q
  show isB b (evA _ (.t p))=isB b (evA _ (.t p))
  have hpr:p ∈ wCo a:=na _ (by rw [hg];simp)
  rw [wHn,if_pos hpr,hrd p hpr]
theorem wTB (HE:FrX ex) (HY:FrX exY) (Z:ZOK P N l os) {a b:AO} {s1 t1 s2 t2:List AO} {σ1 σ2:Tr AV} {h1 h2:AH} (e1:os=s1 ++ a :: t1) (e2:os=s2 ++ b :: t2) (r1:wAr tb ex exY s1 σ0 h0=some (σ1,h1)) (r2:wAr tb ex exY s2 σ0 h0=some (σ2,h2))
  (w1:wDN σ1 a.grd=true) (ka:a.kd=4) (la:wMW a.op=true) (hin:a ∈ s2):h1.nx.nat < h2.nx.nat:=by
 obtain ⟨o,A⟩:=wDb (Z.ao a (by rw [e1];simp))
 obtain ⟨r,r',rfl⟩:=nT hin
 have es:s1=r:=(wDZ (e1 ▸ Z.one) (e1.symm.trans (e2.trans (by rw [nX,nK])))).1
 subst es
 rw [wEM s1 _ _ _ _ _ r1,wBS,w1] at r2
 simp only at r2
 cases hq:opK a.kd a.op tb ex exY σ1 h1 with
 | none=>rw [hq] at r2;cases r2
 | some q =>
  rw [hq] at r2
  obtain ⟨v,h3⟩:=q
  rw [ka] at hq
  obtain ⟨B,vf,q1,_⟩:=wLP (C:=CC P) la A.op _ _ _ _ hq
  subst q1
  have:=(wIW HE HY _ _ _ _ _ r2).nx
  have h3:(h1.push B).nx.nat=h1.nx.nat + 1:=Pos.nat_succ _
  simp only at this
  omega
theorem nm_ne (HE:FrX ex) (HY:FrX exY) (Z:ZOK P N l os) {a b:AO} {s1 t1 s2 t2:List AO} {σ1 σ2:Tr AV} {h1 h2:AH} (e1:os=s1 ++ a :: t1) (e2:os=s2 ++ b :: t2) (r1:wAr tb ex exY s1 σ0 h0=some (σ1,h1)) (r2:wAr tb ex exY s2 σ0 h0=some (σ2,h2))
  (w1:wDN σ1 a.grd=true) (w2:wDN σ2 b.grd=true) (ka:a.kd=4) (la:wMW a.op=true) (kb:b.kd=4) (lb:wMW b.op=true) (hne:a ≠ b):h1.nx ≠ h2.nx:=by
 have ha:a ∈ s2 ++ b :: t2:=by rw [<- e2,e1];simp
 rcases nL.1 ha with h | h
 ·intro e
  have:=wTB HE HY Z e1 e2 r1 r2 w1 ka la h
  rw [e] at this
  exact absurd this (kV _)
 ·rcases nI.1 h with h | h
  ·exact absurd h hne
  ·obtain ⟨r,r',rfl⟩:=nT h
   have es:s1=s2 ++ b :: r:=(wDZ (e1 ▸ Z.one) (e1.symm.trans (e2.trans (by rw [nX,nK])))).1
   intro e
   have:=wTB HE HY Z e2 e1 r2 r1 w2 kb lb (by rw [es];simp)
   rw [e] at this
   exact absurd this (kV _)
end
end Go.KX
namespace Go.KX
open Go.RowKit Go.KL
section
variable {tb:Tr AF} {ex exY:Run} {P:Program} {N:Nat} {l:List Oper} {os s t:List AO} {a:AO} {σ0 σA σf:Tr AV} {h0 h h1 h' hf:AH} {μ μS:Mu} {σ σ':Env} {w:World} {o:Oper} {v:AV}
theorem wOB (Z:ZOK P N l os) {a b:AO} (ha:a ∈ os) (hb:b ∈ os) (e:b.ix=a.ix):b=a:=by
 obtain ⟨s,t,hs⟩:=nT ha
 have one:=Z.one
 rw [hs] at hb one
 rcases nL.1 hb with h | h
 ·exact absurd e ((nt.1 one).2.2 b h a (by simp))
 ·rcases nI.1 h with h | h
  ·exact h
  ·exact absurd e.symm ((nZ.1 (nt.1 one).2.1).1 b h)
theorem wHE (A:AOK P N l a o) {q:Pos} (hn:a.dst ≠ some q) (cv:Value):put' σ o cv (q.nat - 1)=σ (q.nat - 1):=by
 refine wHI fun d hd e=>?_
 rcases A.dst with ⟨_,h2⟩ | ⟨p,d',h1,h2,h3,_⟩
 ·rw [h2] at hd;cases hd
 ·rw [h2] at hd
  have hd:=nJ hd
  have:p=q:=Pos.nat_inj (by have:=q.nat_pos;have:=p.nat_pos;have:p.nat - 1=q.nat - 1:=h3.symm.trans (hd.trans e);omega)
  subst this
  exact hn h1
theorem JS.add (Z:ZOK P N l os) {μ0:Mu} {w0:World} {S:Nat->Bool} (J:JS tb ex exY P l os σ0 h0 σf hf μ0 w0 S σ w s t σA h σ' μ μS) (ha:a ∈ t) (hS:S a.ix=false) (hfree:wCh a.kd=false)
  (hdc:∀ k,k < l.length->S k=true->∀ j ∈ prI l k,S j=true) (A:AOK P N l a o) {cv:Value} {w':World} {μT:Mu} (K:Keep w w' Non) (hle:μS.Le μT)
  (hnew:∀ q c,μT q=some c->μS q=some c \/ (c.1=w.heap.size/\wanted l σ o=true/\a.kd=4/\∃ s1 t1 σ1 h1,os=s1 ++ a :: t1/\wAr tb ex exY s1 σ0 h0=some (σ1,h1)/\q=h1.nx))
  (hpa:∃ p,Pend tb ex exY P l os σ0 h0 σf w0 μ μT (put' σ o cv) w' a o p) :
  JS tb ex exY P l os σ0 h0 σf hf μ0 w0 (fun k=>k == a.ix || S k) (put' σ o cv) w' s t σA h σ' μ μT:=by
 have hao:a ∈ os:=by rw [J.e];simp [ha]
 have hbo:∀ b ∈ t,b ∈ os:=fun b hb=>by rw [J.e];simp [hb]
 obtain ⟨sa,ta,ea⟩:=nT hao
 have hself:Agr l o σ (put' σ o cv):=by
  intro d hd
  obtain ⟨p,hp,rfl⟩:=wFP A (Z.sub a hao _ A.get) d hd
  exact (wHE A (Z.rd sa a ta ea p hp a (by simp)) cv).symm
 refine ⟨J.e,J.hs,J.hr,fun b hb=>by simp [J.inS b hb],fun b hb hh=>?_,⟨J.E.mono,J.E.new,J.E.keep.step K fun _ _ hn=>hn.elim⟩,J.sim.keep K,J.fl,J.env,fun q hq=>?_,J.le.trans hle,fun q c hq=>?_,fun b hb hh=>?_⟩
 ·by_cases e:b.ix=a.ix
  ·rw [wOB Z hao (hbo b hb) e];exact hfree
  ·exact J.free b hb (by simpa [e] using hh)
 ·rw [wHE A (hq a ha (by simp))]
  exact J.ag q fun b hb hs=>hq b hb (by simp [hs])
 ·rcases hnew q c hq with h1 | ⟨_,h2,h3,s1,t1,σ1,h1,e1,e2,e3⟩
  ·rcases J.nm q c h1 with g | ⟨b,ob,s1,t1,σ1,h1,k1,k2,k3,k4,k5,k6,k7,k8⟩
   ·exact .inl g
   ·exact .inr ⟨b,ob,s1,t1,σ1,h1,k1,by simp [k2],k3,(wCl (wHD Z hdc hao hS (hbo b k1) k2 A k3 cv)).symm.trans k4,k5,k6,k7,k8⟩
  ·exact .inr ⟨a,o,s1,t1,σ1,h1,ha,by simp,A.get,(wCl hself).symm.trans h2,h3,e1,e2,e3⟩
 ·by_cases e:b.ix=a.ix
  ·have:=wOB Z hao (hbo b hb) e
   subst this
   exact ⟨o,hpa⟩
  ·have hbS:S b.ix=true:=by simpa [e] using hh
   obtain ⟨ob,p,Pd⟩:=J.pd b hb hbS
   have hA:=wHD (σ:=σ) Z hdc hao hS (hbo b hb) hbS A Pd.get cv
   have hp:put' σ o cv (p.nat - 1)=σ (p.nat - 1):=by
    refine wHE A (fun hd=>?_) cv
    have hb':=hbo b hb
    rw [ea] at hb'
    have hb'':b ∈ sa ++ ta:=by
     rcases nL.1 hb' with h | h
     ·exact nj _ h
     ·rcases nI.1 h with h | h
      ·exact absurd (by rw [h]) e
      ·exact na _ h
    exact Z.wr sa a ta ea p hd b hb'' Pd.dst
   have hsb:=Z.sel b (hbo b hb) _ Pd.get
   refine ⟨ob,p,Pd.get,Pd.dst,?_⟩
   rw [hp,<- wCl hA]
   rcases Pd.fact with f | ⟨f,⟨f1,f2⟩ | ⟨f1,f2,w1,w2,f3⟩ | ⟨f1,f2,w1,o1,s1,t1,σ1,h1,f3,f4,f5,f6,f7,f8,f9⟩⟩
   ·exact .inl f
   ·exact .inr ⟨f,.inl ⟨f1,f2⟩⟩
   ·exact .inr ⟨f,.inr (.inl ⟨f1,f2.mono hle,w1,w2,(Runs.agr hsb hA).1 f3⟩)⟩
   ·refine .inr ⟨f,.inr (.inr ⟨f1,f2.mono hle,w1,o1,s1,t1,σ1,h1,(Runs.agr hsb hA).1 f3,(K.block _ (wAY f4) id).trans f4,f5,f6,f7,hle _ _ f8,fun q c hq hc=>?_⟩)⟩
    rcases hnew q c hq with h1 | ⟨h1,_⟩
    ·exact f9 q c h1 hc
    ·have:=wAY f4
     omega
theorem wIX:∀ (r:List AO),(∀ b ∈ r,b.kd ≠ 0) \/ ∃ x b y,r=x ++ b :: y/\b.kd=0/\∀ c ∈ x,c.kd ≠ 0
 | []=>.inl fun b hb=>by simp at hb
 | a :: r=>by
  by_cases h0:a.kd=0
  ·exact .inr ⟨[],a,r,rfl,h0,fun c hc=>by simp at hc⟩
  ·rcases wIX r with h | ⟨x,b,y,h1,h2,h3⟩
   ·refine .inl fun b hb=>?_
    rcases nI.1 hb with rfl | hb
    ·exact h0
    ·exact h b hb
   ·refine .inr ⟨a :: x,b,y,by rw [h1];rfl,h2,fun c hc=>?_⟩
    rcases nI.1 hc with rfl | hc
    ·exact h0
    ·exact h3 c hc
theorem JS.freeOp {σg:Tr AV} (HE:FrX ex) (HY:FrX exY) (Z:ZOK P N l os) (HL:LCK tb ex exY os σ0 h0 σg) (Hg:∀ a ∈ os,8 <= a.kd->∀ p,p ∈ wCo a \/ a.dst=some p->evA σf (.t p)=evA σg (.t p)) {μ0:Mu} {w0:World} {S:Nat->Bool} (J:JS tb ex exY P l os σ0 h0 σf hf μ0 w0 S σ w s t σA h σ' μ μS) (ha:a ∈ t) (hS:S a.ix=false) (hfree:wCh a.kd=false)
  (hp:∀ j ∈ prI l a.ix,S j=true) (hdc:∀ k,k < l.length->S k=true->∀ j ∈ prI l k,S j=true) (A:AOK P N l a o) :
  Step1 P l o σ w fun cv w'=>∃ μT,JS tb ex exY P l os σ0 h0 σf hf μ0 w0 (fun k=>k == a.ix || S k) (put' σ o cv) w' s t σA h σ' μ μT:=by
 have hao:a ∈ os:=by rw [J.e];simp [ha]
 have hl:a.ix < l.length:=(nc.1 A.get).1
 obtain ⟨r,r',et⟩:=nT ha
 have e1:os=(s ++ r) ++ a :: r':=by rw [J.e,et,nX]
 have hsel:=Z.sel a hao _ A.get
 have hsub:=Z.sub a hao _ A.get
 have hfull:=J.full
 rw [e1] at hfull
 obtain ⟨σ1,h1,r1,r2⟩:=wLQ hfull
 obtain ⟨hw,hrd⟩:=J.frm Z hao hl hp hdc A e1 r1
 have hrr:wAr tb ex exY r σA h=some (σ1,h1):=by rw [<- wEM s r _ _ _ _ J.hs];exact r1
 have hself:∀ cv,Agr l o σ (put' σ o cv):=by
  intro cv d hd
  obtain ⟨p,hp,rfl⟩:=wFP A hsub d hd
  exact (wHE A (Z.rd _ a _ e1 p hp a (by simp)) cv).symm
 obtain ⟨hdn,hkd⟩:a.dst ≠ none/\(a.kd=1 \/ a.kd=3 \/ (a.kd=6/\kdA a.op=3) \/ (a.kd=4/\wMW a.op=true) \/ (8 <= a.kd/\kdA a.op=1)):=by
  rcases Z.kd a hao with h | h
  ·rw [hfree] at h;cases h
  ·exact h
 obtain ⟨p,d,d1,d2,d3,_⟩:∃ p d,a.dst=some p/\o.dst=some d/\d=p.nat - 1/\d < N:=by
  rcases A.dst with ⟨h1,_⟩ | h
  ·exact absurd h1 hdn
  ·exact h
 have eput:∀ cv,put' σ o cv (p.nat - 1)=cv:=fun cv=>by unfold put';rw [d2,d3];exact wDB _ _ _
 have hslot:∀ q ∈ wDI (wBz a.op),q ∈ wCo a:=fun q hq=>nj _ hq
 rcases r2 with ⟨g1,v,h2,g2,g3⟩ | ⟨g1,g3⟩
 ·have hv:evA σf (.t p)=v:=wKc Z e1 g3 d1
  have hw':wanted l σ o=true:=hw.trans g1
  have hwn:∀ cv,wanted l (put' σ o cv) o=true:=fun cv=>(wCl (hself cv)).symm.trans hw'
  have hvS:∀ q ∈ wDI (wBz a.op),Rv μS (evA σ1 (.t q)) (σ (q.nat - 1)):=fun q hq=>by
   rw [<- hrd q (hslot q hq)]
   exact (J.opnd Z hao hl hp hdc (hslot q hq)).1
  have clean:(a.kd=1 \/ a.kd=3 \/ 8 <= a.kd)->(∃ cv,Rv μ v cv/\Runs P σ w o cv w)->Step1 P l o σ w fun cv w'=>∃ μT,JS tb ex exY P l os σ0 h0 σf hf μ0 w0 (fun k=>k == a.ix || S k) (put' σ o cv) w' s t σA h σ' μ μT:=by
   rintro hk ⟨cv,c1,c2⟩
   refine .inl ⟨hw',.inr (.inl ⟨cv,w,c2,μS,J.add Z ha hS hfree hdc A (Keep.refl w _) (Mu.Le.refl _) (fun q c hq=>.inl hq) ⟨p,A.get,d1,.inr ⟨hwn cv,.inl ⟨hk,?_⟩⟩⟩⟩)⟩
   rw [hv,eput]
   exact c1
  have hvC:(a.kd=1 \/ a.kd=3 \/ 8 <= a.kd)->∀ q ∈ wDI (wBz a.op),Rv μ (evA σ1 (.t q)) (σ (q.nat - 1)):=fun hk q hq=>by
   rw [<- hrd q (hslot q hq)]
   exact (J.opnd Z hao hl hp hdc (hslot q hq)).2 hk
  have loadC:(a.kd=1 \/ a.kd=3 \/ 8 <= a.kd)->kdA a.op=1->∀ (x:List AO),(∀ b ∈ x,b ∈ t)->∀ {σ2:Tr AV} {h3 h4:AH} {σ3:Tr AV},wAr tb ex exY x σA h=some (σ2,h3)->opY a.op tb ex exY σ3 h3=some (v,h4)->(∀ b ∈ x,b.kd=0->False)->(∀ q ∈ wCo a,evA σf (.t q)=evA σ3 (.t q))->∃ cv,Rv μ v cv/\Runs P σ w o cv w:=by
   intro hk k x hx σ2 h3 h4 σ3 hrx gY hx0 hrd3
   have hv3:∀ q ∈ wDI (wBz a.op),Rv μ (evA σ3 (.t q)) (σ (q.nat - 1)):=fun q hq=>by
    rw [<- hrd3 q (hslot q hq)]
    exact (J.opnd Z hao hl hp hdc (hslot q hq)).2 hk
   have hrs:=wLO gY
   have henv:=wHo hv3
   obtain ⟨_,hold⟩:=wIv HE HY x _ _ _ _ hrx (fun b hb=>Z.ao b (by rw [J.e];simp [hx b hb])) (fun b hb=>by
    rcases Z.kd b (by rw [J.e];simp [hx b hb]) with h | h
    ·unfold wCh at h
     simp only [nY] at h
     rcases h with h | h
     ·exact absurd (nB h) (hx0 b hb)
     ·exact .inl (nB h)
    ·exact .inr h.2)
   have hm:∀ b c,μ b=some c->h.m.get b=h3.m.get b:=fun b c hb=>by
    refine (hold b ?_).symm
    rcases Nat.lt_or_ge b.nat h.nx.nat with hlt | hge
    ·exact hlt
    ·rw [J.sim.nx b hge] at hb;cases hb
   have hld:=wPU k A.op henv hm hrs
   obtain ⟨cv,c1,c2⟩:=wNy (C:=CC P) hsel hsub (.inl k) A.op hld J.sim (fun q hq=>by rw [wHn,if_pos hq];exact hv3 q hq)
   exact ⟨cv,c1,c2⟩
  rcases hkd with hk | hk | ⟨hk,hk2⟩ | ⟨hk,hk2⟩ | ⟨hk,hk2⟩
  ·have gY:opY a.op tb ex exY σ1 h1=some (v,h2):=by rw [hk] at g2;exact g2
   refine clean (.inl hk) ?_
   rcases A.k1 hk with k | k
   ·exact loadC (.inl hk) k r (fun b hb=>by rw [et];simp [hb]) hrr gY (fun b hb h0=>by
     have:=wEg hdc hp (Z.ld _ a _ e1 hk b (by simp [hb]) h0)
     have:=J.free b (by rw [et];simp [hb]) this
     rw [h0] at this
     cases this) hrd
   ·obtain ⟨cv,c1,c2⟩:=wHp hsel hsub k A.op gY (hvC (.inl hk))
    exact ⟨cv,c1,c2 w⟩
  ·have gY:opY a.op tb ex exY σ1 h1=some (v,h2):=by rw [hk] at g2;exact g2
   obtain ⟨cv,c1,c2⟩:=wHp hsel hsub (A.k3 hk) A.op gY (hvC (.inr (.inl hk)))
   exact clean (.inr (.inl hk)) ⟨cv,c1,c2 w⟩
  ·have gY:opY a.op tb ex exY σ1 h1=some (v,h2):=by rw [hk] at g2;exact g2
   obtain ⟨cv,c1,c2⟩:=wHp hsel hsub hk2 A.op gY hvS
   refine .inl ⟨hw',.inr (.inl ⟨cv,w,c2 w,μS,J.add Z ha hS hfree hdc A (Keep.refl w _) (Mu.Le.refl _) (fun q c hq=>.inl hq) ⟨p,A.get,d1,.inr ⟨hwn cv,.inr (.inl ⟨hk,?_,w,w,?_⟩)⟩⟩⟩)⟩
   ·rw [hv,eput]
    exact c1
   ·rw [eput]
    exact (Runs.agr hsel (hself cv)).1 (c2 w)
  ·have gY:opY a.op tb ex exY σ1 h1=some (v,h2):=by rw [hk] at g2;exact g2
   obtain ⟨B,vf,ob,val,_,ev',_,c1,c2,c3⟩:=wMB (C:=CC P) hsel hsub hk2 A.op gY hvS
   have hno:μS h1.nx=none:=by
    cases hq:μS h1.nx with
    | none=>rfl
    | some c =>
     rcases J.nm _ c hq with g | ⟨b,ob',s2,t2,σ2,h3,k1,k2,k3,k4,k5,k6,k7,k8⟩
     ·have:=wRW HE HY Z J.e J.hs ha e1 r1
      rw [J.sim.nx _ this] at g
      cases g
     ·have hbo:b ∈ os:=by rw [J.e];simp [k1]
      have hne:a ≠ b:=fun e=>by subst e;rw [hS] at k2;cases k2
      obtain ⟨ob2,B2⟩:=wDb (Z.ao b hbo)
      have hb2:wMW b.op=true:=by
       rcases Z.kd b hbo with hh | ⟨_,hh | hh | hh | hh | hh⟩
       ·rw [k5] at hh;exact absurd hh (by decide)
       ·omega
       ·omega
       ·omega
       ·exact hh.2
       ·omega
      have hwb:wDN σ2 b.grd=true:=by
       have hlb:b.ix < l.length:=(nc.1 k3).1
       have eo:ob2=ob':=by have:=B2.get;rw [k3] at this;exact (nJ this).symm
       subst eo
       have:=(J.frm Z hbo hlb (hdc _ hlb k2) hdc B2 k6 k7).1
       rw [<- this]
       exact k4
      exact absurd k8 (nm_ne HE HY Z e1 k6 r1 k7 g1 hwb hk hk2 k5 hb2 hne)
   have hadd:=Mu.add_le (c:=(⟨w.heap.size,0,g0⟩:Cl)) hno
   have hsz:∀ q c,μS q=some c->c.1 < w.heap.size:=fun q c hq=>by
    rcases J.nm q c hq with g | ⟨b,ob',s2,t2,σ2,h3,k1,k2,k3,k4,k5,k6,k7,k8⟩
    ·exact J.sim.lt q c g
    ·obtain ⟨ob2,p2,Pd⟩:=J.pd b k1 k2
     have eo:ob2=ob':=by have:=Pd.get;rw [k3] at this;exact (nJ this).symm
     subst eo
     rcases Pd.fact with ⟨f,_⟩ | ⟨_,⟨f,_⟩ | ⟨f,_⟩ | ⟨_,_,w1,o1,s3,t3,σ3,h4,_,f4,_,f6,f7,f8,_⟩⟩
     ·rw [k4] at f;cases f
     ·omega
     ·omega
     ·have es:s3=s2:=(wDZ (f6 ▸ Z.one) (f6.symm.trans k6)).1
      subst es
      rw [k7] at f7
      cases f7
      subst k8
      rw [hq] at f8
      cases f8
      exact wAY f4
   refine .inl ⟨hw',.inr (.inl ⟨val w.heap.size,w.alloc ob,c1 w,μS.add h1.nx ⟨w.heap.size,0,g0⟩,J.add Z ha hS hfree hdc A (wBY w ob) hadd (fun q c hq=>?_) ⟨p,A.get,d1,.inr ⟨hwn _,.inr (.inr ⟨hk,?_,w,ob,s ++ r,r',σ1,h1,?_,heap_alloc_new w ob,J.E.keep.size,e1,r1,Mu.add_same _ _ _,fun q c hq hc=>?_⟩)⟩⟩⟩)⟩
   ·unfold Mu.add at hq
    split at hq
    ·rename_i eq
     cases hq
     exact .inr ⟨rfl,hw',hk,s ++ r,r',σ1,h1,e1,r1,eq⟩
    ·exact .inl hq
   ·rw [hv,eput,ev']
    exact c3 _ _ _ (Mu.add_same _ _ _)
   ·rw [eput]
    exact (Runs.agr hsel (hself _)).1 (c1 w)
   ·unfold Mu.add at hq
    split at hq
    ·rename_i eq
     exact eq
    ·have:=hsz q c hq
     omega
  ·have gY:opY a.op tb ex exY σ1 h1=some (v,h2):=wNz (by omega) g2
   refine clean (.inr (.inr hk)) ?_
   rcases wIX r with hz | ⟨x,b,y,er,hb0,hx0⟩
   ·exact loadC (.inr (.inr hk)) hk2 r (fun b hb=>by rw [et];simp [hb]) hrr gY (fun b hb h0=>hz b hb h0) hrd
   ·have e2:os=(s ++ x) ++ b :: (y ++ a :: r'):=by rw [J.e,et,er];simp
    have hfull2:=J.full
    rw [e2] at hfull2
    obtain ⟨σ2,h3,r3,_⟩:=wLQ hfull2
    have hbt:b ∈ t:=by rw [et,er];simp
    have hanc:wPC y + 8 < a.kd:=by
     rcases Z.ld8 _ a _ e1 hk (s ++ x) b y (by rw [er];simp) hb0 with g | g
     ·have:=J.free b hbt (wEg hdc hp g)
      rw [hb0] at this
      cases this
     ·exact g
    have hlk:=HL _ b _ e2 hb0 _ _ r3
    have hsame:=wKY y a r' 0 hlk hfree (by omega)
    have hgf:wDN σg a.grd=true:=by
     rw [<- g1]
     cases hg:a.grd with
     | none=>rfl
     | some q =>
      obtain ⟨q,c⟩:=q
      show isB c (evA _ (.t q))=isB c (evA _ (.t q))
      have hqr:q ∈ wCo a:=na _ (by rw [hg];simp)
      rw [<- Hg a hao hk q (.inl hqr),hrd q hqr]
    unfold wIP at hsame
    rw [d1] at hsame
    simp only [hgf] at hsame
    split at hsame
    ·rename_i v' h5 hq
     have hvv:=wNv hsame
     rw [<- Hg a hao hk p (.inr d1),hv] at hvv
     subst hvv
     have hrx:wAr tb ex exY x σA h=some (σ2,h3):=by rw [<- wEM s x _ _ _ _ J.hs];exact r3
     exact loadC (.inr (.inr hk)) hk2 x (fun b hb=>by rw [et,er];simp [hb]) hrx hq (fun b hb h0=>hx0 b hb h0) (fun q hq=>Hg a hao hk q (.inl hq))
    ·cases hsame
 ·refine .inr ⟨hw.trans g1,μS,J.add Z ha hS hfree hdc A (Keep.refl w _) (Mu.Le.refl _) (fun q c hq=>.inl hq) ⟨p,A.get,d1,.inl ⟨(wCl (hself _)).symm.trans (hw.trans g1),eput _,?_⟩⟩⟩
  exact wKc Z e1 (v:=u) g3 d1
theorem JS.catch (Z:ZOK P N l os) {μ0:Mu} {w0:World} {S:Nat->Bool}:∀ (r:List AO) {s t:List AO} {σA:Tr AV} {h:AH} {σ':Env} {μ:Mu},JS tb ex exY P l os σ0 h0 σf hf μ0 w0 S σ w s (r ++ t) σA h σ' μ μS->(∀ a ∈ r,S a.ix=true) ->
  ∃ σB hB σ'' μB,JS tb ex exY P l os σ0 h0 σf hf μ0 w0 S σ w (s ++ r) t σB hB σ'' μB μS
 | [],s,t,σA,h,σ',μ,J,_=>⟨σA,h,σ',μ,by rw [nw];exact J⟩
 | a :: r,s,t,σA,h,σ',μ,J,hS=>by
  obtain ⟨σB,hB,σ'',μB,J1⟩:=JS.catch1 (t:=r ++ t) Z J (hS a (by simp))
  obtain ⟨σC,hC,σ3,μC,J2⟩:=JS.catch Z r J1 fun b hb=>hS b (by simp [hb])
  exact ⟨σC,hC,σ3,μC,by rw [show s ++ a :: r=s ++ [a] ++ r by simp];exact J2⟩
theorem JS.anew {A B:List AO} {σm:Tr AV} {h2:AH} {μ0:Mu} {w0:World} {S:Nat->Bool} (J:JS tb ex exY P l A σ0 h0 σm h2 μ0 w0 S σ w s [] σA h σ' μ μS) (hr:wAr tb ex exY B σm h2=some (σf,hf)) (hB:∀ b ∈ B,S b.ix=false) :
  Ext μ0 h0.fl.nat w0 μ w/\h2.fl=h0.fl/\JS tb ex exY P l B σm h2 σf hf μ w S σ w [] B σm h2 σ' μ μ:=by
 have hr1:=J.hr
 rw [wBO] at hr1
 cases hr1
 exact ⟨J.E,J.fl,rfl,wBO _ _ _ _ _,hr,fun b hb=>(by simp at hb),fun b hb hS=>(by rw [hB b hb] at hS;cases hS),Ext.refl μ _ w,J.sim,rfl,J.env,fun q _=>J.ag q fun b hb=>(by simp at hb),Mu.Le.refl _,fun q c hq=>.inl hq,fun b hb hS=>(by rw [hB b hb] at hS;cases hS)⟩
theorem CK.lazy {rr:Option Nat} {Q:wDc} {D:List Deferred} {id:Nat} (hm:P.follows .mixedOrders=true) (HC:wGp (CC P) P tb ex) (HY':wFo (CC P) P exY) (HE:FrX ex) (HY:FrX exY) (ZZ:∃ A B,ZAll P N l os A B) (HL0:LCK tb ex exY os σ0 h0 σf)
  (hr:wAr tb ex exY os σ0 h0=some (σf,hf)) (S:Sim (CC P) P μ h0 w) (hE:EnvR μ σ0 σ)
  (hQ:∀ μ' w' σ',Ext μ h0.fl.nat w μ' w'->Sim (CC P) P μ' hf w'->EnvR μ' σf σ'->hf.fl=h0.fl->Q D .normal σ' w'):CK rr N P (.region id l.toArray true) Q D σ w:=by
 obtain ⟨A,B,ZZ⟩:=ZZ
 obtain ⟨σm,h2,hrA,hrB⟩:=wEG A B σ0 h0 _ (ZZ.eq ▸ hr)
 have HL:LCK tb ex exY A σ0 h0 σf/\LCK tb ex exY B σm h2 σf:=by
  refine ⟨fun s b t e k0 σ1 h1 hs=>?_,wLL ZZ.low⟩
  have:=HL0 s b (t ++ B) (by rw [ZZ.eq,e];simp) k0 σ1 h1 hs
  exact wIs t B 0 this
 have Hg:∀ a ∈ A,8 <= a.kd->∀ p,p ∈ wCo a \/ a.dst=some p->evA σm (.t p)=evA σf (.t p):=fun a ha h8 p hp=>(wDY B _ _ _ _ hrB p fun b hb=>ZZ.far a ha h8 p hp b hb).symm
 have lt:∀ b ∈ os,b.ix < l.length:=fun b hb=>by
  rw [ZZ.eq] at hb
  rcases nL.1 hb with hb | hb
  ·obtain ⟨o,A⟩:=wDb (ZZ.za.ao b hb)
   exact (nc.1 A.get).1
  ·obtain ⟨o,A⟩:=wDb (ZZ.zb.ao b hb)
   exact (nc.1 A.get).1
 have stepB:∀ (S1:Nat->Bool) (a:AO) (σ1:Env) (w1:World) (μm:Mu) (wm:World) (s t:List AO) (σA:Tr AV) (h:AH) (σ':Env) (μ1 μS:Mu) (o:Oper),a ∈ B->S1 a.ix=false->(∀ j ∈ prI l a.ix,S1 j=true)->(∀ k,k < l.length->S1 k=true->∀ j ∈ prI l k,S1 j=true)->AOK P N l a o ->
   JS tb ex exY P l B σm h2 σf hf μm wm S1 σ1 w1 s t σA h σ' μ1 μS->Step1 P l o σ1 w1 fun v w'=>∃ s t σA h σ' μ1 μS,JS tb ex exY P l B σm h2 σf hf μm wm (fun k=>k == a.ix || S1 k) (put' σ1 o v) w' s t σA h σ' μ1 μS:=by
  intro S1 a σ1 w1 μm wm s t σA h σ' μ1 μS o ha hSi hpi hdc A J
  have hat:a ∈ t:=by
   have:=ha
   rw [J.e] at this
   rcases nL.1 this with h | h
   ·rw [J.inS a h] at hSi;cases hSi
   ·exact h
  cases hf:wCh a.kd with
  | true =>
   obtain ⟨r,r',et⟩:=nT hat
   rw [et] at J
   obtain ⟨σB,hB,σ'',μB,J1⟩:=JS.catch ZZ.zb r J fun b hb=>wEg hdc hpi (ZZ.zb.anc (s ++ r) a r' (by rw [J.e,nX]) hf b (by simp [hb]))
   refine (J1.fixed HC HY' HE HY ZZ.zb hf hSi hdc A).mono ?_
   rintro v w' ⟨σC,hC,σ3,μC,μT,J2⟩
   exact ⟨_,_,_,_,_,_,_,J2⟩
  | false =>
   refine (J.freeOp HE HY ZZ.zb HL.2 (fun _ _ _ _ _=>rfl) hat hSi hf hpi hdc A).mono ?_
   rintro v w' ⟨μT,J2⟩
   exact ⟨_,_,_,_,_,_,_,J2⟩
 have toB:∀ (S1:Nat->Bool) (σ1:Env) (w1:World) (s t:List AO) (σA:Tr AV) (h:AH) (σ':Env) (μ1 μS:Mu),(∀ a ∈ A,S1 a.ix=true)->(∀ b ∈ B,S1 b.ix=false)->JS tb ex exY P l A σ0 h0 σm h2 μ w S1 σ1 w1 s t σA h σ' μ1 μS ->
   ∃ μm σ',Ext μ h0.fl.nat w μm w1/\h2.fl=h0.fl/\JS tb ex exY P l B σm h2 σf hf μm w1 S1 σ1 w1 [] B σm h2 σ' μm μm:=by
  intro S1 σ1 w1 s t σA h σ' μ1 μS hA hB J
  have J0:JS tb ex exY P l A σ0 h0 σm h2 μ w S1 σ1 w1 s (t ++ []) σA h σ' μ1 μS:=by rw [nw];exact J
  obtain ⟨σB,hB',σ'',μB,J1⟩:=JS.catch ZZ.za t J0 fun b hb=>hA b (by rw [J.e];simp [hb])
  obtain ⟨g1,g2,g3⟩:=J1.anew hrB hB
  exact ⟨μB,σ'',g1,g2,g3⟩
 refine CK.anyRel hm ZZ.za.pr (fun S σ w1=>((∀ b ∈ B,S b.ix=false)/\∃ s t σA h σ' μ1 μS,JS tb ex exY P l A σ0 h0 σm h2 μ w S σ w1 s t σA h σ' μ1 μS) \/
  ((∀ a ∈ A,S a.ix=true)/\∃ μm wm,Ext μ h0.fl.nat w μm wm/\h2.fl=h0.fl/\∃ s t σA h σ' μ1 μS,JS tb ex exY P l B σm h2 σf hf μm wm S σ w1 s t σA h σ' μ1 μS)) ?_ ?_ ?_
 ·exact .inl ⟨fun b _=>rfl,[],A,σ0,h0,σ,μ,μ,rfl,wBO _ _ _ _ _,hrA,fun b hb=>(by simp at hb),fun b _ hb=>(by cases hb),Ext.drew μ _ w,S.keep (Keep.drew w),rfl,hE,fun _ _=>rfl,Mu.Le.refl _,fun q c hq=>.inl hq,fun b _ hb=>(by cases hb)⟩
 ·rintro S1 i σ1 w1 hi hSi hpi hdc hlt hI
  obtain ⟨a,ha,rfl⟩:=ZZ.all i hi
  rw [ZZ.eq] at ha
  rcases nL.1 ha with ha | ha
  ·obtain ⟨o,AK⟩:=wDb (ZZ.za.ao a ha)
   refine ⟨o,AK.get,wIU AK,?_⟩
   rcases hI with ⟨hB,s,t,σA,h,σ',μ1,μS,J⟩ | ⟨hA,_⟩
   ·have hB':∀ b ∈ B,(fun k=>k == a.ix || S1 k) b.ix=false:=fun b hb=>by
     have:=(ZZ.cross b hb a ha).1
     simp [hB b hb,Ne.symm this]
    have hat:a ∈ t:=by
     have:=ha
     rw [J.e] at this
     rcases nL.1 this with h | h
     ·rw [J.inS a h] at hSi;cases hSi
     ·exact h
    cases hf:wCh a.kd with
    | true =>
     obtain ⟨r,r',et⟩:=nT hat
     rw [et] at J
     obtain ⟨σB,hB2,σ'',μB,J1⟩:=JS.catch ZZ.za r J fun b hb=>wEg hdc hpi (ZZ.za.anc (s ++ r) a r' (by rw [J.e,nX]) hf b (by simp [hb]))
     refine (J1.fixed HC HY' HE HY ZZ.za hf hSi hdc AK).mono ?_
     rintro v w' ⟨σC,hC,σ3,μC,μT,J2⟩
     exact .inl ⟨hB',_,_,_,_,_,_,_,J2⟩
    | false =>
     refine (J.freeOp HE HY ZZ.za HL.1 Hg hat hSi hf hpi hdc AK).mono ?_
     rintro v w' ⟨μT,J2⟩
     exact .inl ⟨hB',_,_,_,_,_,_,_,J2⟩
   ·rw [hA a ha] at hSi
    cases hSi
  ·obtain ⟨o,AK⟩:=wDb (ZZ.zb.ao a ha)
   refine ⟨o,AK.get,wIU AK,?_⟩
   have hA:∀ c ∈ A,S1 c.ix=true:=fun c hc=>wEg hdc hpi (ZZ.cross a ha c hc).2
   rcases hI with ⟨hB,s,t,σA,h,σ',μ1,μS,J⟩ | ⟨_,μm,wm,g1,g2,s,t,σA,h,σ',μ1,μS,J⟩
   ·obtain ⟨μm,σ2,g1,g2,J1⟩:=toB S1 σ1 w1 s t σA h σ' μ1 μS hA hB J
    refine (stepB S1 a σ1 w1 _ _ _ _ _ _ _ _ _ o ha hSi hpi hdc AK J1).mono ?_
    rintro v w' ⟨s,t,σA,h,σ',μ1,μS,J2⟩
    exact .inr ⟨fun c hc=>by simp [hA c hc],_,_,g1,g2,_,_,_,_,_,_,_,J2⟩
   ·refine (stepB S1 a σ1 w1 _ _ _ _ _ _ _ _ _ o ha hSi hpi hdc AK J).mono ?_
    rintro v w' ⟨s,t,σA,h,σ',μ1,μS,J2⟩
    exact .inr ⟨fun c hc=>by simp [hA c hc],_,_,g1,g2,_,_,_,_,_,_,_,J2⟩
 ·rintro S1 σ1 w1 hall hI
  have hI2:∃ μm wm,Ext μ h0.fl.nat w μm wm/\h2.fl=h0.fl/\∃ s t σA h σ' μ1 μS,JS tb ex exY P l B σm h2 σf hf μm wm S1 σ1 w1 s t σA h σ' μ1 μS:=by
   rcases hI with ⟨hB,s,t,σA,h,σ',μ1,μS,J⟩ | ⟨_,hI⟩
   ·obtain ⟨μm,σ2,g1,g2,J1⟩:=toB S1 σ1 w1 s t σA h σ' μ1 μS (fun a ha=>hall _ (lt a (by rw [ZZ.eq];simp [ha]))) hB J
    exact ⟨_,_,g1,g2,_,_,_,_,_,_,_,J1⟩
   ·exact hI
  obtain ⟨μm,wm,g1,g2,s,t,σA,h,σ',μ1,μS,J⟩:=hI2
  have J0:JS tb ex exY P l B σm h2 σf hf μm wm S1 σ1 w1 s (t ++ []) σA h σ' μ1 μS:=by rw [nw];exact J
  obtain ⟨σB,hB,σ'',μB,J1⟩:=JS.catch ZZ.zb t J0 fun b hb=>hall _ (lt b (by rw [ZZ.eq,J.e];simp [hb]))
  have hr1:=J1.hr
  rw [wBO] at hr1
  cases hr1
  refine hQ μB w1 σ1 (g1.trans (g2 ▸ J1.E)) J1.sim (fun q=>?_) (J1.fl.trans g2)
  rw [J1.ag q fun b hb=>by simp at hb]
  exact J1.env q
end
end Go.KX
namespace Go.KX
open Go.RowKit Go.KL
section
variable {P:Program} {tb:Tr AF}
theorem wOC (hm:P.follows .mixedOrders=true) {ex exY:Run} (HC:wGp (CC P) P tb ex) (HY:wFo (CC P) P exY) (FE:FrX ex) (FY:FrX exY) {os:List AO} {σA σA':Tr AV} {h h':AH} (hr:wAr tb ex exY os σA h=some (σA',h')) {id N:Nat} {ops:Array Oper} {draw:Bool} (hc:chkR P N os ops.toList draw=true)
  {rr:Option Nat} {μ:Mu} {σ:Env} {w:World} {D:List Deferred} {n0:Nat} (S:Sim (CC P) P μ h w) (hE:EnvR μ σA σ) (M:Mk μ w n0 D):CK rr N P (.region id ops draw) (PostX P μ h.fl w n0 rr D .nrm σA' h') D σ w:=by
 unfold chkR at hc
 simp only [nA,nE] at hc
 obtain ⟨c1,c2⟩:=hc
 have hop:ops=ops.toList.toArray:=by simp
 have hcs:∀ a ∈ os,wHj P N ops.toList a=true/\kOf ((kD ops.toList.length).map fun i=>kdAt i os) a.ix=a.kd:=fun a ha=>⟨(c1 a ha).1,nB (c1 a ha).2⟩
 have post:∀ {w0:World},Ext μ h.fl.nat w μ w0->Sim (CC P) P μ h w0->OKS N P ops.toList (PostX P μ h.fl w n0 rr D .nrm σA' h') D ((kD ops.toList.length).map fun i=>kdAt i os) (wJd os) σ w0:=by
  intro w0 E0 S0
  refine wJe HC HY os σA h σA' h' hr hcs μ σ w0 S0 hE fun μ' w' σ' q1 q2 q3 q4=>?_
  have E:=E0.trans q1
  exact ⟨rfl,μ',E,q2,q3,M.ext E,q4,fun _=>rfl⟩
 rw [hop]
 cases draw with
 | true =>
  simp only at c2
  split at c2
  ·simp only [nA,nE,nr] at c2
   exact CK.lazy hm HC HY FE FY (wNp (fun a ha=>(c1 a ha).1) c2.2) (wLL c2.1) hr S hE fun μ' w' σ' q1 q2 q3 q4=>⟨rfl,μ',q1,q2,q3,M.ext q1,q4,fun _=>rfl⟩
  ·exact CK.anyOrd hm _ _ c2 (post (Ext.drew μ _ w) (S.keep (Keep.drew w)))
 | false=>exact CK.reg _ c2 (post (Ext.refl μ _ w) S)
theorem wPV {ex:Run} (HC:wGp (CC P) P tb ex) {g:AOd} {t:List Pos} {asg body:AC} {g':Operand} {ps:Array Tmp} {asg' body':Code} {N:Nat} (hc:wGN P N (.rf g t asg body) (.rangeFunc g' ps asg' body')=true)
  {σA σA':Tr AV} {h h':AH} {e:Ex} (hr:sRf true g t asg body tb ex σA h=some (e,σA',h')) {μ:Mu} {σ:Env} {w:World} {D:List Deferred} {n0:Nat} (S:Sim (CC P) P μ h w) (hE:EnvR μ σA σ) (M:Mk μ w n0 D) (hn:n0 <= w.heap.size) :
  CK none N P (.rangeFunc g' ps asg' body') (PostX P μ h.fl w n0 none D e σA' h') D σ w:=by
 simp only [wGN,nA] at hc
 obtain ⟨c1,c2,c3,c4⟩:=hc
 obtain ⟨p,rfl⟩:∃ p:List Nat,ps=p.toArray:=⟨ps.toList,by simp⟩
 ·obtain ⟨ht,c6⟩:=wLM (by simpa using c2)
  unfold sRf at hr
  split at hr
  ·rename_i f fi ca hg
   have hx:=wAK c1 hE
   rw [hg] at hx
   obtain ⟨fv,cv,g1,g2,g3⟩:=hx
   split at hr <;> first | (cases hr;done) | skip
   rename_i rv h2 hcall
   obtain ⟨hcf,hgv⟩:=HC _ _ _ _ _ hcall
   refine CK.rangeFunc (t:=p) g3 hcf fun fn l rb w1 e1 e2 hl hd K hs=>?_
   subst e1 e2
   have hle:=Mu.add_le (c:=(⟨w.heap.size + 1,0,⟨N,σ,p,asg',body',w.heap.size,fn⟩⟩:Cl)) (S.nx h.nx (nH _))
   obtain ⟨s1,s2,s3,s4⟩:=S.push (w':=w1) (c:=⟨w.heap.size + 1,0,⟨N,σ,p,asg',body',w.heap.size,fn⟩⟩) (B:=.loop σA t asg body .ready) K (Nat.le_succ _) (by show w.heap.size + 1 < _;omega) ⟨hl,hE.mono hle,ht,c6,c3,c4⟩
   generalize hμ1:μ.add h.nx (⟨w.heap.size + 1,0,⟨N,σ,p,asg',body',w.heap.size,fn⟩⟩:Cl)=μ1 at *
   have M1:Mk μ1 w1 n0 (mark w.heap.size :: D):=by
    have M':=M.ext s2
    obtain ⟨rbs,m1,m2,m3⟩:=M'
    have hold:∀ rb ∈ rbs,rb < w.heap.size:=by
     obtain ⟨rbs0,k1,k2,k3⟩:=M
     intro rb hrb
     have hmm:rbs.map mark=rbs0.map mark:=by rw [<- m1,<- k1]
     have hinj:rbs=rbs0:=by
      have:∀ (a b:List Nat),a.map mark=b.map mark->a=b:=by
       intro a
       induction a with
       | nil=>intro b hb;cases b with
        | nil=>rfl
        | cons _ _=>simp at hb
       | cons x a ih=>intro b hb;cases b with
        | nil=>simp at hb
        | cons y b =>
         simp only [nR,nW] at hb
         have hxy:x=y:=by have:=hb.1;simp [mark] at this;exact this
         rw [hxy,ih b hb.2]
      exact this _ _ hmm
     exact (k3 rb (hinj ▸ hrb)).1.lt
    refine ⟨w.heap.size :: rbs,by rw [nR,<- m1],ny.2 ⟨fun hm=>absurd (hold _ hm) (kV _),m2⟩,fun rb hrb=>?_⟩
    rcases nI.1 hrb with rfl | hrb
    ·refine ⟨hd,hn,fun q c hq=>?_⟩
     rw [<- hμ1] at hq
     unfold Mu.add at hq
     split at hq
     ·cases hq;show w.heap.size + 1 ≠ _;omega
     ·have:=S.lt q c hq;omega
    ·exact m3 rb hrb
   have G:=hgv μ1 w1 (fv ++ (.func (.yield (w.heap.size + 1)) #[] #[] :: cv)) s1 (wEd (g1.mono s2.mono) (wBu ⟨_,s4,rfl⟩ (g2.mono s2.mono)))
   rw [nX]
   refine G.mono ?_
   rintro v3 w3 ⟨μ3,q1,q2,q3,q4⟩
   rw [s3] at q1 q4
   have E13:=s2.trans q1
   have hc3:=q1.mono _ _ s4
   have fin:∀ {B:AB} {h3:AH} (w4:World),h2.m.get h.nx=some B->wLt B->h2.put h.nx .dead=some h3->Keep w3 w4 (·=w.heap.size + 1)->w4.heap.size=w3.heap.size->∃ μ',Ext μ h.fl.nat w μ' w4/\Sim (CC P) P μ' h3 w4/\EnvR μ' σA σ/\Mk μ' w4 n0 (mark w.heap.size :: D)/\h3.fl=h.fl:=by
    intro B h3 w4 hB hlv hput K4 _
    obtain ⟨v1,v2,v3⟩:=q2.put hput hB hlv hc3 K4 (B':=.dead) trivial
    rw [q4] at v2 v3
    exact ⟨μ3,E13.trans v2,v1,hE.mono E13.mono,(M1.ext q1).ext v2,v3⟩
   split at hr
   ·rename_i sx tx ax bx hB
    split at hr <;> first | (cases hr;done) | skip
    rename_i h3 hput
    cases hr
    obtain ⟨c',u1,u2⟩:=q2.at_ _ _ hB
    rw [hc3] at u1;cases u1
    have L3:wLs (CC P) μ3 w3 ⟨w.heap.size + 1,0,⟨N,σ,p,asg',body',w.heap.size,fn⟩⟩ sx tx ax bx .ready:=u2
    refine .inl ⟨L3.at_,fun w4 K4 hs4=>?_⟩
    obtain ⟨μ',a1,a2,a3,a4,a5⟩:=fin w4 hB trivial hput K4 hs4
    exact ⟨rfl,μ',a1,a2,a3,a4,a5,fun hq=>by cases hq⟩
   ·rename_i sx tx ax bx ee hB
    split at hr <;> first | (cases hr;done) | skip
    rename_i h3 hput
    cases hr
    obtain ⟨c',u1,u2⟩:=q2.at_ _ _ hB
    rw [hc3] at u1;cases u1
    have L3:wLs (CC P) μ3 w3 ⟨w.heap.size + 1,0,⟨N,σ,p,asg',body',w.heap.size,fn⟩⟩ sx tx ax bx (.done e):=u2
    cases e with
    | nrm =>
     refine .inl ⟨L3.at_,fun w4 K4 hs4=>?_⟩
     obtain ⟨μ',a1,a2,a3,a4,a5⟩:=fin w4 hB trivial hput K4 hs4
     exact ⟨rfl,μ',a1,a2,a3,a4,a5,fun hq=>by cases hq⟩
    | ret =>
     refine .inr ⟨.ret,.inl rfl,L3.at_,fun w4 K4 hs4=>?_⟩
     obtain ⟨μ',a1,a2,a3,a4,a5⟩:=fin w4 hB trivial hput K4 hs4
     exact ⟨rfl,μ',a1,a2,a3,a4,a5,fun hq=>by cases hq⟩
    | exit i =>
     refine .inr ⟨.exit i,.inr ⟨i,rfl⟩,L3.at_,fun w4 K4 hs4=>?_⟩
     obtain ⟨μ',a1,a2,a3,a4,a5⟩:=fin w4 hB trivial hput K4 hs4
     exact ⟨rfl,μ',a1,a2,a3,a4,a5,fun hq=>by cases hq⟩
   ·cases hr
  ·cases hr
theorem CK.ofRounds {rr:Option Nat} {N:Nat} {c:Code} {Q:wDc} {D:List Deferred} {σ:Env} {w:World} (m:Nat) (hh:∀ a,Rep N D a σ->Code.roundsIn (WF rr) 0 P c (wIA N Q) m a w):CK rr N P (.loop c) Q D σ w :=
 fun a ha=>wpIn_loop_rounds m (hh a ha)
theorem wTC {exR:Run} {r:Bool} (HE:wJf P exR r) {a b:AC} {σA σA':Tr AV} {h h':AH} {e:Ex} (hr:wSZ a b exR σA h=some (e,σA',h')) {c d:Code} {N:Nat} (hc1:wGN P N a c=true) (hc2:wGN P N b d=true)
  {rr:Option Nat} {μ:Mu} {σ:Env} {w:World} {D:List Deferred} {n0:Nat} (hrr:rr.isSome=r) (S:Sim (CC P) P μ h w) (hE:EnvR μ σA σ) (M:Mk μ w n0 D) (hn:n0 <= w.heap.size):CK rr N P (.seq c d) (PostX P μ h.fl w n0 rr D e σA' h') D σ w:=by
 obtain ⟨⟨e1,σ1,h1⟩,ha,hb⟩:=wSG hr
 rw [wKb] at hb
 refine CK.seq ((HE _ _ _ _ _ _ ha c N hc1 rr μ σ w D n0 hrr S hE M hn).mono ?_)
 intro D' e' σ' w' hp
 obtain ⟨rfl,μ1,q1,q2,q3,q4,q5,q6⟩:=hp
 cases e1 with
 | nrm =>
  refine (HE _ _ _ _ _ _ hb d N hc2 rr μ1 σ' w' D' n0 hrr q2 q3 q4 (kH hn q1.keep.size)).mono ?_
  intro D'' e'' σ'' w'' hp
  rw [q5] at hp
  exact PostX.trans q1 q6 hp
 | ret=>cases hb;exact ⟨rfl,μ1,q1,q2,q3,q4,q5,q6⟩
 | exit i=>cases hb;exact ⟨rfl,μ1,q1,q2,q3,q4,q5,q6⟩
theorem wRX {exR:Run} {r:Bool} {m:Nat} (HE:wJf P exR r) (HL:wNq P exR r m) {a:AC} {σA σA':Tr AV} {h h':AH} {e:Ex} (hr:wNI a exR σA h=some (e,σA',h')) {c:Code} {N:Nat} (hc:wGN P N a c=true)
  {rr:Option Nat} {μ:Mu} {σ:Env} {w:World} {D:List Deferred} {n0:Nat} (hrr:rr.isSome=r) (S:Sim (CC P) P μ h w) (hE:EnvR μ σA σ) (M:Mk μ w n0 D) (hn:n0 <= w.heap.size):∀ act,Rep N D act σ->Code.roundsIn (WF rr) 0 P c (wIA N (PostX P μ h.fl w n0 rr D e σA' h')) (m + 1) act w:=by
 obtain ⟨⟨e1,σ1,h1⟩,ha,hb⟩:=wSG hr
 rw [wKb] at hb
 intro act hact
 rw [roundsIn_succ]
 refine wpIn_mono (HE _ _ _ _ _ _ ha c N hc rr μ σ w D n0 hrr S hE M hn act hact) ?_
 rintro e' act' w' ⟨σ',D',hrep,hp⟩
 obtain ⟨rfl,μ1,q1,q2,q3,q4,q5,q6⟩:=hp
 cases e1 with
 | nrm =>
  refine wHm ?_ m act' w' (HL _ _ _ _ _ _ hb c N hc rr μ1 σ' w' D' n0 hrr q2 q3 q4 (kH hn q1.keep.size) act' hrep)
  rintro e'' act'' w'' ⟨σ'',D'',hrep',hp⟩
  rw [q5] at hp
  exact ⟨σ'',D'',hrep',PostX.trans q1 q6 hp⟩
 | ret=>cases hb;exact ⟨σ',D',hrep,rfl,μ1,q1,q2,q3,q4,q5,q6⟩
 | exit i=>cases hb;exact ⟨σ',D',hrep,rfl,μ1,q1,q2,q3,q4,q5,q6⟩
theorem wRY (hm:P.follows .mixedOrders=true) (T:wMA P tb):∀ (n:Nat) (r:Bool),wJf P (exec tb n r) r/\wNq P (exec tb n r) r n:=by
 intro n
 induction n with
 | zero=>intro r;exact ⟨fun c σA h e σA' h' hr=>(by cases hr),fun c σA h e σA' h' hr=>(by cases hr)⟩
 | succ n ih =>
  intro r
  have HC:=wNr T (ih false).1
  have HY:=wPS (P:=P) (ih true).1
  obtain ⟨HE,HL⟩:=ih r
  have loop:wNq P (exec tb (n + 1) r) r (n + 1):=by
   intro c σA h e σA' h' hr code N hc rr μ σ w D n0 hrr S hE M hn
   have hr:wNI c (exec tb n r) σA h=some (e,σA',h'):=hr
   exact wRX HE HL hr hc hrr S hE M hn
  refine ⟨?_,loop⟩
  intro c σA h e σA' h' hr code N hc rr μ σ w D n0 hrr S hE M hn
  rw [wJW] at hr
  cases c with
  | skip =>
   have hr:sNrm σA h=some (e,σA',h'):=hr
   cases hr
   have fin:PostX P μ h.fl w n0 rr D .nrm σA h D .normal σ w:=⟨rfl,μ,Ext.refl μ _ w,S,hE,M,rfl,fun _=>rfl⟩
   cases code <;> simp only [wGN,nG] at hc
   ·exact CK.skip fin
   ·exact CK.label fin
  | rg os =>
   have hr:sRg os tb (exec tb n false) (exec tb n true) (exec tb n r) σA h=some (e,σA',h'):=hr
   unfold sRg at hr
   have:∃ y,wAr tb (exec tb n false) (exec tb n true) os σA h=some y/\some (Ex.nrm,y.1,y.2)=some (e,σA',h'):=by
    cases hq:wAr tb (exec tb n false) (exec tb n true) os σA h with
    | none=>rw [hq] at hr;cases hr
    | some y=>rw [hq] at hr;exact ⟨y,rfl,hr⟩
   obtain ⟨y,h1,h2⟩:=this
   cases h2
   cases code <;> simp only [wGN,nG] at hc
   exact wOC hm HC HY (wFq tb n false) (wFq tb n true) h1 hc S hE M
  | seq a b =>
   have hr:wSZ a b (exec tb n r) σA h=some (e,σA',h'):=hr
   cases code <;> simp only [wGN,nG,nA] at hc
   exact wTC HE hr hc.1 hc.2 hrr S hE M hn
  | cond x a b =>
   have hr:wNH x a b (exec tb n r) σA h=some (e,σA',h'):=hr
   cases code <;> simp only [wGN,nG,nA] at hc
   have hx:=wAK hc.1 hE
   unfold wNH at hr
   split at hr
   ·rename_i hb;rw [hb] at hx
    exact CK.condT hx (HE _ _ _ _ _ _ hr _ N hc.2.1 rr μ σ w D n0 hrr S hE M hn)
   ·rename_i hb;rw [hb] at hx
    exact CK.condF hx (HE _ _ _ _ _ _ hr _ N hc.2.2 rr μ σ w D n0 hrr S hE M hn)
   ·cases hr
  | block i a =>
   have hr:wLA i a (exec tb n r) σA h=some (e,σA',h'):=hr
   cases code <;> simp only [wGN,nG,nA] at hc
   rename_i j code
   have hij:=nB hc.1
   subst hij
   obtain ⟨⟨e1,σ1,h1⟩,ha,hb⟩:=wSG hr
   refine CK.block ((HE _ _ _ _ _ _ ha code N hc.2 rr μ σ w D n0 hrr S hE M hn).mono ?_)
   rintro D' e' σ' w' ⟨rfl,μ1,q1,q2,q3,q4,q5,q6⟩
   cases e1 with
   | nrm=>cases hb;exact ⟨rfl,μ1,q1,q2,q3,q4,q5,q6⟩
   | ret=>cases hb;exact ⟨rfl,μ1,q1,q2,q3,q4,q5,q6⟩
   | exit k =>
    have hb:Bool.rec (motive:=fun _=>R) (some (.exit k,σ1,h1)) (some (.nrm,σ1,h1)) (nN k i)=some (e,σA',h'):=hb
    cases hk:nN k i with
    | true =>
     rw [hk] at hb;cases hb
     have:=nB hk
     subst this
     exact wIc ⟨rfl,μ1,q1,q2,q3,q4,q5,q6⟩
    | false =>
     rw [hk] at hb;cases hb
     exact wKu ⟨rfl,μ1,q1,q2,q3,q4,q5,q6⟩ hk
  | loop a =>
   have hr':exec tb (n + 1) r (.loop a) σA h=some (e,σA',h'):=hr
   cases code <;> simp only [wGN,nG] at hc
   exact CK.ofRounds (n + 1) (loop _ _ _ _ _ _ hr' _ N hc rr μ σ w D n0 hrr S hE M hn)
  | rf g t asg body =>
   have hr:sRf (!r) g t asg body tb (exec tb n false) σA h=some (e,σA',h'):=hr
   cases r with
   | true=>unfold sRf at hr;simp at hr
   | false =>
    have hnone:rr=none:=by cases rr <;> first | rfl | cases hrr
    subst hnone
    cases code <;> first | (simp only [wGN,nG] at hc;done) | skip
    exact wPV HC hc hr S hE M hn
  | exit i =>
   have hr:some (Ex.exit i,σA,h)=some (e,σA',h'):=hr
   cases hr
   cases code <;> simp only [wGN,nG] at hc
   have:=nB hc
   subst this
   exact CK.exit ⟨rfl,μ,Ext.refl μ _ w,S,hE,M,rfl,fun _=>rfl⟩
  | scope a =>
   have hr:exec tb n r a σA h=some (e,σA',h'):=hr
   cases code <;> simp only [wGN,nG] at hc
   refine CK.scope ((HE _ _ _ _ _ _ hr _ N hc rr μ σ w D n0 hrr S hE M hn).mono ?_)
   rintro D' e' σ' w' ⟨rfl,q⟩
   cases e with
   | nrm=>exact ⟨rfl,q⟩
   | ret=>exact ⟨rfl,q⟩
   | exit k=>exact ⟨rfl,q⟩
  | ret =>
   have hr:some (Ex.ret,σA,h)=some (e,σA',h'):=hr
   cases hr
   cases code <;> simp only [wGN,nG] at hc
   exact CK.ret ⟨rfl,μ,Ext.refl μ _ w,S,hE,M,rfl,fun _=>rfl⟩
  | rl os =>
   have hr:sRl os tb (exec tb n false) (exec tb n true) σA h=some (e,σA',h'):=hr
   rw [wQC] at hr
   split at hr
   ·rename_i y hq
    cases hr
    obtain ⟨g1,g2⟩:=wKZ _ _ _ _ hq
    cases code <;> simp only [wGN,nG,nA,nE] at hc
    rename_i id ops draw
    obtain ⟨rfl,c1,c2⟩:=hc
    have hop:ops=ops.toList.toArray:=by simp
    rw [hop]
    exact CK.lazy hm HC HY (wFq tb n false) (wFq tb n true) (wNp c1 c2) g2 g1 S hE fun μ' w' σ' q1 q2 q3 q4=>⟨rfl,μ',q1,q2,q3,M.ext q1,q4,fun _=>rfl⟩
   ·cases hr
theorem Sim.empty (C:Chk) (P:Program) (w:World):Sim C P (fun _=>none) ⟨.e,.H,.H⟩ w :=
 ⟨fun _ _=>rfl,fun _ _ h=>(by cases h),fun _ _ _ _ _ _ h=>(by rw [Tr.get_e] at h;cases h),fun _ _ h=>(by rw [Tr.get_e] at h;cases h)⟩
theorem wMD (hm:P.follows .mixedOrders=true) (T:wMA P tb) (n:Nat) (f:Pos) (args:List AV) (vs:List Value) (v:AV) (h:AH) (hv:∀ μ,RvL μ args vs) (hr:wJT tb (exec tb n false) f args ⟨.e,.H,.H⟩=some (v,h)) (w:World) :
  Gv P (f.nat - 1) vs w fun cv w'=>∃ μ,Rv μ v cv/\Keep w w' Non:=by
 obtain ⟨_,hg⟩:=wNr T (wRY hm T n false).1 f args _ v h hr
 refine (hg _ w vs (Sim.empty _ _ w) (hv _)).mono ?_
 rintro cv w' ⟨μ',h1,h2,h3,_⟩
 exact ⟨μ',h3,h1.keep.weak fun i _ ⟨p,d,hp,_⟩=>by cases hp⟩
noncomputable def okB (tb:Tr AF) (n:Nat) (f:Pos) (b:Bool):Bool:=match wJT tb (exec tb n false) f [] ⟨.e,.H,.H⟩ with
 | some (.bool b',_)=>b' == b
 | _=>false
theorem wPW (hm:P.follows .mixedOrders=true) (T:wMA P tb) (n:Nat) (f:Pos) (k:Nat) (hk:f.nat=k + 1) (b:Bool) (hr:okB tb n f b=true) (w:World):Gv P k [] w fun cv w'=>cv=.bool b/\Keep w w' Non:=by
 unfold okB at hr
 split at hr
 ·rename_i b' h hq
  have hb:=eq_of_beq hr
  subst hb
  have:=wMD hm T n f [] [] _ h (fun _=>rfl) hq w
  rw [hk] at this
  refine this.mono ?_
  rintro cv w' ⟨μ,h1,h2⟩
  exact ⟨h1,h2⟩
 ·cases hr
def wOD (f:Nat->AF->Prop):Tr AF->(Nat->Nat)->Prop
 | .e,_=>True
 | .n l v r,g=>(match v with | none=>True | some a=>f (g 1) a)/\wOD f l (fun n=>g (2 * n))/\wOD f r (fun n=>g (2 * n + 1))
theorem wHq {f:Nat->AF->Prop}:∀ {t:Tr AF} {g:Nat->Nat},wOD f t g->∀ p a,t.get p=some a->f (g p.nat) a
 | .e,g,_,p,a,hq=>by rw [Tr.get_e] at hq;cases hq
 | .n l v r,g,⟨h1,h2,h3⟩,.H,a,hq=>by
  rw [Tr.get_H] at hq;subst hq;exact h1
 | .n l v r,g,⟨h1,h2,h3⟩,.O p,a,hq=>wHq h2 p a hq
 | .n l v r,g,⟨h1,h2,h3⟩,.I p,a,hq=>wHq h3 p a hq
theorem wTD (h:wOD (fun n a=>chkF P (n - 1) a=true) tb fun n=>n):wMA P tb:=fun p af hq=>wHq h p af hq
end
end Go.KX
namespace Go.KL
variable {S S' B B' α:Type}
theorem wLT {body:Nat->S->Option (S ⊕ B)} (I:Nat->S->Prop) (Z:B->Prop):∀ (m k:Nat) (s:S),I k s ->
  (∀ i s,k <= i->i < k + m->I i s->(∃ s',body i s=some (.inl s')/\I (i + 1) s') \/ ∃ b,body i s=some (.inr b)/\Z b) ->
  (∃ s',forN body m k s=some (.inl s')/\I (k + m) s') \/ ∃ b,forN body m k s=some (.inr b)/\Z b
 | 0,k,s,h,_=>.inl ⟨s,rfl,h⟩
 | m + 1,k,s,h,hb=>by
  simp only [forN]
  rcases hb k s (nH _) (by omega) h with ⟨s',h1,h2⟩ | ⟨b,h1,h2⟩
  ·rw [h1]
   have:=wLT I Z m (k + 1) s' h2 fun i s h2 h3 h4=>hb i s (by omega) (by omega) h4
   rwa [show k + 1 + m=k + (m + 1) from by omega] at this
  ·rw [h1];exact .inr ⟨b,rfl,h2⟩
theorem wEU {body:Nat->S->Option S} (I:Nat->S->Prop):∀ (m k:Nat) (s:S),I k s ->
  (∀ i s,k <= i->i < k + m->I i s->∃ s',body i s=some s'/\I (i + 1) s')->∃ s',forN' body m k s=some s'/\I (k + m) s'
 | 0,k,s,h,_=>⟨s,rfl,h⟩
 | m + 1,k,s,h,hb=>by
  simp only [forN']
  obtain ⟨s',h1,h2⟩:=hb k s (nH _) (by omega) h
  rw [h1]
  have:=wEU I m (k + 1) s' h2 fun i s h2 h3 h4=>hb i s (by omega) (by omega) h4
  rwa [show k + 1 + m=k + (m + 1) from by omega] at this
theorem wGS {body:Nat->S->Option (S ⊕ B)} {n:Nat} {s:S} (hn:n <= 9223372036854775807):wFy 0 (n:Int) body s=forN body n 0 s:=by
 unfold wFy
 rw [if_pos (by omega),show ((n:Int) - 0).toNat=n from by omega]
theorem wDp {body:Nat->S->Option S} {n:Nat} {s:S} (hn:n <= 9223372036854775807):wDJ 0 (n:Int) body s=forN' body n 0 s:=by
 unfold wDJ
 rw [if_pos (by omega),show ((n:Int) - 0).toNat=n from by omega]
def first (p:α->Bool):List α->Nat->Int
 | [],_=>-1
 | a :: l,k=>if p a then (k:Int) else first p l (k + 1)
theorem wGT (p:α->Bool):∀ (l:List α) (k:Nat),decide (0 <= first p l k)=l.any p
 | [],k=>by simp [first]
 | a :: l,k=>by
  rw [first,kW]
  by_cases h:p a
  ·simp [h]
  ·simp [h,wGT p l (k + 1)]
theorem wFQ {R:Type} {l:List α} {f:α->Option Bool} {p:α->Bool} (hf:∀ a ∈ l,f a=some (p a)) (hn:l.length <= 9223372036854775807) (z:Int->R) :
  (jn (wFy 0 (↑l.length:Int) (fun k2 (_:Unit)=>(idx l (↑k2:Int)).bind fun x=>(f x).bind fun y=>if y=true then esc (some (z (↑k2:Int))) else some (.inl ())) ()) fun _=>some (z (-1)))=some (z (first p l 0)):=by
 rw [wGS hn]
 have key:∀ (m k:Nat),k + m=l.length->(jn (forN (fun k2 (_:Unit)=>(idx l (↑k2:Int)).bind fun x=>(f x).bind fun y=>if y=true then esc (some (z (↑k2:Int))) else some (.inl ())) m k ()) fun _=>some (z (-1)))=some (z (first p (l.drop k) k)):=by
  intro m
  induction m with
  | zero=>intro k hk;rw [nl (by omega)];rfl
  | succ m ih =>
   intro k hk
   have hlt:k < l.length:=by omega
   rw [nk hlt,first,forN,wIf,nf hlt]
   simp only [hH,hf _ (List.getElem_mem hlt)]
   by_cases h:p l[k]=true
   ·simp [h]
   ·simp only [h,if_false,nG]
    exact ih (k + 1) (by omega)
 exact key l.length 0 (by omega)
theorem wME [DecidableEq α] {l m:List α} (hn:l.length <= 9223372036854775807) :
  (if (↑l.length:Int)=(↑m.length:Int) then jn (wFy 0 (↑l.length:Int) (fun k4 (_:Unit)=>(idx l (↑k4:Int)).bind fun x26=>(idx m (↑k4:Int)).bind fun x34=>if x26=x34 then some (.inl ()) else esc (some false)) ()) fun _=>some true else some false)=some (decide (l=m)):=by
 by_cases hl:l.length=m.length
 ·rw [if_pos (by omega),wGS hn]
  have key:∀ (n k:Nat),k + n=l.length->(jn (forN (fun k4 (_:Unit)=>(idx l (↑k4:Int)).bind fun x26=>(idx m (↑k4:Int)).bind fun x34=>if x26=x34 then some (.inl ()) else esc (some false)) n k ()) fun _=>some true)=some (decide (l.drop k=m.drop k)):=by
   intro n
   induction n with
   | zero=>intro k hk;rw [nl (by omega),nl (by omega)];simp [forN]
   | succ n ih =>
    intro k hk
    have h1:k < l.length:=by omega
    have h2:k < m.length:=by omega
    rw [nk h1,nk h2,forN,wIf,wIf,nf h1,nf h2]
    simp only [hH]
    by_cases h:l[k]=m[k]
    ·rw [if_pos h]
     simp only
     rw [ih (k + 1) (by omega)]
     congr 1
     exact decide_eq_decide.2 ⟨fun e=>by rw [e,h],fun e=>(kk e).2⟩
    ·rw [if_neg h]
     have:¬ l[k] :: l.drop (k + 1)=m[k] :: m.drop (k + 1):=fun e=>h (kk e).1
     simp only [wPE,wJz,this,decide_false]
  have:=key l.length 0 (by omega)
  simpa using this
 ·rw [if_neg (by omega)]
  have:l ≠ m:=fun e=>hl (by rw [e])
  simp [this]
theorem wEV {bytes:Nat} {l m:List α} (h:(l.length + m.length) * bytes <= 140737488355328):app bytes l m=some (l ++ m):=if_pos h
end Go.KL
namespace Go.KL
variable {S B R α β:Type}
theorem wJh {body:Nat->S->Option S} (s:Nat->S):∀ (m k:Nat),(∀ i,k <= i->i < k + m->body i (s i)=some (s (i + 1)))->forN' body m k (s k)=some (s (k + m))
 | 0,_,_=>rfl
 | m + 1,k,h=>by
  rw [forN',h k (nH _) (by omega)]
  have:=wJh s m (k + 1) fun i h1 h2=>h i (by omega) (by omega)
  rw [show k + 1 + m=k + (m + 1) by omega] at this
  exact this
theorem wDS {body:Nat->S->Option S} {n:Nat} {s0:S} (s:Nat->S) (h0:s 0=s0) (hn:n <= 9223372036854775807) (h:∀ i,i < n->body i (s i)=some (s (i + 1))):wDJ 0 (n:Int) body s0=some (s n):=by
 rw [wDp hn,<- h0]
 have:=wJh s n 0 fun i _ hi=>h i (by omega)
 rwa [kC] at this
theorem wAu [Inhabited α] {l:List α} {k:Nat} (h:k < l.length):idx l (k:Int)=some (gd l k):=by
 rw [wIf]
 exact wDV h
theorem wDi [Inhabited α] {l:List α} {k:Nat} (h:k < l.length):gd l k ∈ l:=List.mem_of_getElem? (wDV h)
theorem wDj [Inhabited α] {l:List α} {k:Nat} (h:k < l.length):l.take (k + 1)=l.take k ++ [gd l k]:=by
 rw [List.take_add_one,wDV h]
 rfl
theorem wRa [Inhabited α] {l:List α} {k:Nat} (h:k < l.length):l.drop k=gd l k :: l.drop (k + 1):=by
 have:=wDV h
 rw [nf h] at this
 rw [nk h,nJ this]
theorem wPY [Inhabited α] {l m:List α} {k:Nat} (h:k < l.length):gd (l ++ m) k=gd l k:=by
 have h1:=wDV (xs:=l ++ m) (k:=k) (by rw [List.length_append];omega)
 rw [kM h,wDV h] at h1
 exact (nJ h1).symm
theorem wPZ [Inhabited α] (l m:List α) (x:α):gd (l ++ x :: m) l.length=x:=by
 have h1:=wDV (xs:=l ++ x :: m) (k:=l.length) (by simp)
 rw [nu (nH _),kZ] at h1
 exact (nJ h1).symm
theorem wRb [Inhabited α] [Inhabited β] (f:α->β) {l:List α} {k:Nat} (h:k < l.length):gd (l.map f) k=f (gd l k):=by
 have h1:=wDV (xs:=l.map f) (k:=k) (by simpa using h)
 rw [List.getElem?_map,wDV h] at h1
 exact (nJ h1).symm
end Go.KL
namespace Go.KL
def wAy (f:Nat->Int):Nat->Int
 | 0=>0
 | k + 1=>wAy f k + f k
theorem wAn {f g:Nat->Int}:∀ n,(∀ i,i < n->f i=g i)->wAy f n=wAy g n
 | 0,_=>rfl
 | n + 1,h=>by rw [wAy,wAy,wAn n fun i hi=>h i (by omega),h n (by omega)]
theorem wFt {f g:Nat->Int}:∀ n,(∀ i,i < n->f i <= g i)->wAy f n <= wAy g n
 | 0,_=>nv _
 | n + 1,h=>by
  have a:=wFt n fun i hi=>h i (by omega)
  have b:=h n (by omega)
  rw [wAy,wAy];omega
theorem wCz {f:Nat->Int}:∀ n,(∀ i,i < n->f i=0)->wAy f n=0
 | 0,_=>rfl
 | n + 1,h=>by rw [wAy,wCz n fun i hi=>h i (by omega),h n (by omega)];rfl
theorem wKe {f:Nat->Int} (n:Nat) (h:∀ i,i < n->0 <= f i):0 <= wAy f n:=by
 have:=wFt (f:=fun _=>0) n h
 rwa [wCz n fun _ _=>rfl] at this
theorem wEP {f:Nat->Int}:∀ {n:Nat},(∀ i,i < n->0 <= f i)->∀ {k:Nat},k < n->f k <= wAy f n
 | 0,_,k,hk=>by omega
 | n + 1,h,k,hk=>by
  have a:=wKe n fun i hi=>h i (by omega)
  have b:=h n (by omega)
  rw [wAy]
  by_cases e:k=n
  ·rw [e];omega
  ·have:=wEP (fun i hi=>h i (by omega)) (show k < n by omega);omega
theorem wEh {f g:Nat->Int}:∀ n,wAy (fun i=>f i + g i) n=wAy f n + wAy g n
 | 0=>rfl
 | n + 1=>by rw [wAy,wAy,wAy,wEh n];omega
theorem wHr {f:Nat->Nat->Int} {m:Nat}:∀ n,wAy (fun i=>wAy (f i) m) n=wAy (fun j=>wAy (fun i=>f i j) n) m
 | 0=>by
  show (0:Int)=_
  exact (wCz m fun _ _=>rfl).symm
 | n + 1=>by
  rw [wAy,wHr n,<- wEh]
  rfl
theorem wFR {k:Nat} {v:Int}:∀ {n:Nat},k < n->wAy (fun i=>if i=k then v else 0) n=v
 | 0,h=>by omega
 | n + 1,h=>by
  rw [wAy]
  by_cases e:k=n
  ·subst e
   rw [if_pos rfl,wCz k fun i hi=>if_neg (by omega)]
   omega
  ·rw [if_neg (by omega),wFR (by omega)]
   omega
theorem wDT {f g:Nat->Int} {k n:Nat} (hk:k < n) (h:∀ i,i < n->i ≠ k->g i=f i):wAy g n=wAy f n + (g k - f k):=by
 have:wAy g n=wAy (fun i=>f i + if i=k then g k - f k else 0) n:=wAn n fun i hi=>by
  by_cases e:i=k
  ·subst e;rw [if_pos rfl];omega
  ·rw [if_neg e,h i hi e];omega
 rw [this,wEh,wFR hk]
theorem wOI {p:Bool} {f:Nat->Int} {n:Nat}:wAy (fun i=>if p=true then f i else 0) n=if p=true then wAy f n else 0:=by
 cases p
 ·simp only [nG,if_false];exact wCz n fun _ _=>rfl
 ·simp only [if_true]
structure Asg (n:Nat) (can:Nat->Nat->Bool) (sh dn:Nat->Int) (x:Nat->Nat->Int):Prop where
 nn:∀ s l,s < n->l < n->0 <= x s l
 pos:∀ s l,s < n->l < n->0 < x s l->can s l=true
 row:∀ s,s < n->wAy (x s) n <= sh s
 col:∀ l,l < n->wAy (fun s=>x s l) n=dn l
def adj (n:Nat) (can:Nat->Nat->Bool) (L:Nat->Bool) (s:Nat):Bool:=(kD n).any fun l=>L l && can s l
theorem wFu {n:Nat} {can:Nat->Nat->Bool} {L:Nat->Bool} {s:Nat}:adj n can L s=true ↔ ∃ l,l < n/\L l=true/\can s l=true:=by
 unfold adj
 rw [kE]
 constructor
 ·rintro ⟨l,h1,h2⟩
  rw [nA] at h2
  exact ⟨l,nq.1 h1,h2⟩
 ·rintro ⟨l,h1,h2,h3⟩
  exact ⟨l,nq.2 h1,by rw [h2,h3];rfl⟩
def dnL (n:Nat) (dn:Nat->Int) (L:Nat->Bool):Int:=wAy (fun l=>if L l=true then dn l else 0) n
def shL (n:Nat) (can:Nat->Nat->Bool) (sh:Nat->Int) (L:Nat->Bool):Int:=wAy (fun s=>if adj n can L s=true then sh s else 0) n
theorem Asg.hall {n:Nat} {can:Nat->Nat->Bool} {sh dn:Nat->Int} {x:Nat->Nat->Int} (h:Asg n can sh dn x) (L:Nat->Bool):dnL n dn L <= shL n can sh L:=by
 have e:dnL n dn L=wAy (fun s=>wAy (fun l=>if L l=true then x s l else 0) n) n:=by
  unfold dnL
  rw [wHr]
  refine wAn n fun l hl=>?_
  rw [wOI,h.col l hl]
 rw [e]
 refine wFt n fun s hs=>?_
 by_cases a:adj n can L s=true
 ·rw [if_pos a]
  refine ke (wFt n fun l hl=>?_) (h.row s hs)
  by_cases b:L l=true
  ·rw [if_pos b];exact nv _
  ·rw [if_neg b];exact h.nn s l hs hl
 ·rw [if_neg a,wCz n fun l hl=>?_]
  ·exact nv _
  ·by_cases b:L l=true
   ·rw [if_pos b]
    have h0:=h.nn s l hs hl
    have h1:¬ 0 < x s l:=fun q=>a (wFu.2 ⟨l,hl,b,h.pos s l hs hl q⟩)
    omega
   ·rw [if_neg b]
theorem wCg {α:Type} [Inhabited α] {n:Nat} (a:Arr α n) {i j:Nat} (hi:i < n) (v:α):(a.set i v).get j=if j=i then v else a.get j:=by
 unfold Arr.set Arr.get
 simp only [nM]
 by_cases e:j=i
 ·rw [if_pos e,e,List.getElem?_set_self (by rw [a.h];exact hi)]
  rfl
 ·rw [if_neg e,List.getElem?_set_ne (Ne.symm e)]
theorem wFS {S B:Type} {body:Nat->S->Option (S ⊕ B)} {n:Nat} {s0:S} (I:Nat->S->Prop) (Z:B->Prop) (hn:n <= 1000) (h0:I 0 s0) (h:∀ i s,i < n->I i s->(∃ s',body i s=some (.inl s')/\I (i + 1) s') \/ ∃ b,body i s=some (.inr b)/\Z b):(∃ s,wFy 0 (n:Int) body s0=some (.inl s)/\I n s) \/ ∃ b,wFy 0 (n:Int) body s0=some (.inr b)/\Z b:=by
 rw [wGS (by omega)]
 have:=wLT (body:=body) I Z n 0 s0 h0 fun i s _ h2 h3=>h i s (by omega) h3
 rwa [kC] at this
end Go.KL
namespace Go.Proofs.Ytfcmijinklojbaa
open Go.KL
structure Fl (n:Nat) (can:Nat->Nat->Bool) (sh c:Nat->Int) (h:Arr Int 64) (u:Arr Int 8):Prop where
 nn:∀ s l,s < n->l < n->0 <= h.get (s * 8 + l)
 pos:∀ s l,s < n->l < n->0 < h.get (s * 8 + l)->can s l=true
 row:∀ s,s < n->wAy (fun l=>h.get (s * 8 + l)) n=u.get s
 cap:∀ s,s < n->u.get s <= sh s
 col:∀ l,l < n->wAy (fun s=>h.get (s * 8 + l)) n=c l
def one (l:Nat) (i:Nat):Int:=if i=l then 1 else 0
structure Ext (n:Nat) (m m':Arr Bool 16):Prop where
 s:∀ s,s < n->m.get s=true->m'.get s=true
 l:∀ l,l < n->m.get (8 + l)=true->m'.get (8 + l)=true
theorem Ext.rfl {n:Nat} {m:Arr Bool 16}:Ext n m m:=⟨fun _ _ h=>h,fun _ _ h=>h⟩
theorem Ext.trans {n:Nat} {a b c:Arr Bool 16} (h:Ext n a b) (k:Ext n b c):Ext n a c:=⟨fun s hs q=>k.s s hs (h.s s hs q),fun l hl q=>k.l l hl (h.l l hl q)⟩
structure Clo (n:Nat) (can:Nat->Nat->Bool) (sh:Nat->Int) (h:Arr Int 64) (u:Arr Int 8) (p:Nat->Prop) (m m':Arr Bool 16) (lane:Nat):Prop where
 ext:Ext n m m'
 lanes:∀ l,l < n->m'.get (8 + l)=true->m.get (8 + l)=false->l ≠ lane->∀ s,s < n->can s l=true->m'.get s=true
 skiers:∀ s,p s->s < n->m'.get s=true->m.get s=false->sh s <= u.get s/\(∀ l,l < n->0 < h.get (s * 8 + l)->m'.get (8 + l)=true)/\∃ l,l < n/\can s l=true/\m'.get (8 + l)=true
 me:m'.get (8 + lane)=true
def unm (m:Arr Bool 16):Nat->Nat
 | 0=>0
 | k + 1=>unm m k + if m.get k=true then 0 else 1
theorem wOJ {n:Nat} {m m':Arr Bool 16} (h:∀ s,s < n->m.get s=true->m'.get s=true):∀ k,k <= n->unm m' k <= unm m k
 | 0,_=>nH _
 | k + 1,hk=>by
  have a:=wOJ h k (by omega)
  rw [unm,unm]
  by_cases e:m.get k=true
  ·rw [if_pos e,if_pos (h k (by omega) e)];omega
  ·rw [if_neg e];split <;> omega
theorem wOK {m:Arr Bool 16} {s:Nat} (h16:s < 16) (hs:m.get s=false):∀ k,s < k->unm (m.set s true) k + 1=unm m k
 | 0,h=>by omega
 | k + 1,h=>by
  rw [unm,unm]
  by_cases e:s=k
  ·subst e
   have:unm (m.set s true) s=unm m s:=by
    have key:∀ j,j <= s->unm (m.set s true) j=unm m j:=by
     intro j
     induction j with
     | zero=>intro _;rfl
     | succ j ih=>intro hj;rw [unm,unm,ih (by omega),wCg _ h16,if_neg (show ¬ j=s by omega)]
    exact key s (nH _)
   rw [this,wCg _ h16,if_pos rfl,hs]
   rfl
  ·have:=wOK h16 hs k (by omega)
   rw [wCg _ h16,if_neg (show ¬ k=s by omega)]
   omega
structure Desk (n:Nat) (can:Nat->Nat->Bool) (sh:Nat->Int) (b:wAB) (may:List (wAD × Bool)):Prop where
 n8:n <= 8
 ns:b.Shots.length=n
 nd:b.Down.length=n
 sh:∀ s,s < n->gd b.Shots s=sh s/\sh s <= 1000
 can:∀ s l,s < n->l < n->wEr may ⟨(s:Int),(l:Int)⟩ false=can s l
section
variable {n:Nat} {can:Nat->Nat->Bool} {sh:Nat->Int} {b:wAB} {may:List (wAD × Bool)}
theorem Desk.can_is (K:Desk n can sh b may) {s l:Nat} (hs:s < n) (hl:l < n) (h:Arr Int 64) (u:Arr Int 8) (m:Arr Bool 16):wBP ⟨b,may,h,u,m⟩ (s:Int) (l:Int)=some (can s l):=by
 unfold wBP
 exact congrArg some (K.can s l hs hl)
theorem Fl.bd {c:Nat->Int} {h:Arr Int 64} {u:Arr Int 8} (K:Desk n can sh b may) (F:Fl n can sh c h u) {s l:Nat} (hs:s < n) (hl:l < n):0 <= h.get (s * 8 + l)/\h.get (s * 8 + l) <= u.get s/\u.get s <= 1000:=by
 have h0:=F.nn s l hs hl
 have h1:=wEP (f:=fun l=>h.get (s * 8 + l)) (fun i hi=>F.nn s i hs hi) hl
 have h2:=F.cap s hs
 have h3:=(K.sh s hs).2
 rw [F.row s hs] at h1
 omega
theorem Fl.more {c:Nat->Int} {h:Arr Int 64} {u:Arr Int 8} (n8:n <= 8) (F:Fl n can sh c h u) {k lane:Nat} (hk:k < n) (hl:lane < n) (hc:can k lane=true) (hu:u.get k < sh k) :
  Fl n can sh (fun l=>c l + one lane l) (h.set (k * 8 + lane) (h.get (k * 8 + lane) + 1)) (u.set k (u.get k + 1)):=by
 have g:∀ s l,s < n->l < n->(h.set (k * 8 + lane) (h.get (k * 8 + lane) + 1)).get (s * 8 + l)=if s=k/\l=lane then h.get (k * 8 + lane) + 1 else h.get (s * 8 + l):=fun s l hs hl'=>by
  rw [wCg _ (by omega)]
  by_cases e:s=k/\l=lane
  ·rw [if_pos e,if_pos (by rw [e.1,e.2])]
  ·rw [if_neg e,if_neg (by omega)]
 have n0:=F.nn k lane hk hl
 refine ⟨fun s l hs hl'=>?_,fun s l hs hl'=>?_,fun s hs=>?_,fun s hs=>?_,fun l hl'=>?_⟩
 ·rw [g s l hs hl']
  split
  ·omega
  ·exact F.nn s l hs hl'
 ·rw [g s l hs hl']
  split
  ·rename_i e;intro _;rw [e.1,e.2];exact hc
  ·exact F.pos s l hs hl'
 ·rw [wCg _ (by omega)]
  by_cases e:s=k
  ·subst e
   rw [if_pos rfl,<- F.row s hs,wDT (f:=fun l=>h.get (s * 8 + l)) hl fun i hi hne=>by rw [g s i hs hi,if_neg fun q=>hne q.2],g s lane hs hl,if_pos ⟨rfl,rfl⟩]
   omega
  ·rw [if_neg e,<- F.row s hs]
   exact wAn n fun i hi=>by rw [g s i hs hi,if_neg fun q=>e q.1]
 ·rw [wCg _ (by omega)]
  by_cases e:s=k
  ·rw [if_pos e,e];omega
  ·rw [if_neg e];exact F.cap s hs
 ·unfold one
  by_cases e:l=lane
  ·subst e
   rw [if_pos rfl,<- F.col l hl',wDT (f:=fun s=>h.get (s * 8 + l)) hk fun i hi hne=>by rw [g i l hi hl',if_neg fun q=>hne q.1],g k l hk hl',if_pos ⟨rfl,rfl⟩]
   omega
  ·rw [if_neg e,<- F.col l hl',kO]
   exact wAn n fun i hi=>by rw [g i l hi hl',if_neg fun q=>e q.2]
theorem Fl.turn {c:Nat->Int} {h:Arr Int 64} {u:Arr Int 8} (n8:n <= 8) {k j lane:Nat} (F:Fl n can sh (fun l=>c l + one j l) h u) (hk:k < n) (hj:j < n) (hl:lane < n) (hc:can k lane=true) (hne:j ≠ lane) (hp:0 < h.get (k * 8 + j)) :
  Fl n can sh (fun l=>c l + one lane l) ((h.set (k * 8 + j) (h.get (k * 8 + j) - 1)).set (k * 8 + lane) ((h.set (k * 8 + j) (h.get (k * 8 + j) - 1)).get (k * 8 + lane) + 1)) u:=by
 have g:∀ s l,s < n->l < n->((h.set (k * 8 + j) (h.get (k * 8 + j) - 1)).set (k * 8 + lane) ((h.set (k * 8 + j) (h.get (k * 8 + j) - 1)).get (k * 8 + lane) + 1)).get (s * 8 + l)=h.get (s * 8 + l) + if s=k then one lane l - one j l else 0:=fun s l hs hl'=>by
  unfold one
  rw [wCg _ (by omega),wCg _ (by omega),wCg _ (by omega),if_neg (show ¬ k * 8 + lane=k * 8 + j by omega)]
  by_cases e:s=k
  ·subst e
   rw [if_pos rfl]
   by_cases e1:l=lane
   ·subst e1;rw [if_pos rfl,if_pos rfl,if_neg (by omega)];omega
   ·rw [if_neg (by omega),if_neg e1]
    by_cases e2:l=j
    ·subst e2;rw [if_pos rfl,if_pos rfl];omega
    ·rw [if_neg (by omega),if_neg e2];omega
  ·rw [if_neg (by omega),if_neg (by omega),if_neg e];omega
 have n0:=F.nn k lane hk hl
 have o1:∀ a:Nat,a < n->wAy (fun l=>one a l) n=1:=fun a ha=>wFR ha
 refine ⟨fun s l hs hl'=>?_,fun s l hs hl'=>?_,fun s hs=>?_,F.cap,fun l hl'=>?_⟩
 ·rw [g s l hs hl']
  have:=F.nn s l hs hl'
  unfold one
  split
  ·rename_i e;subst e
   split <;> split <;> first | omega | (rename_i e1 e2;subst e2;omega)
  ·omega
 ·rw [g s l hs hl']
  intro q
  by_cases e:s=k/\l=lane
  ·rw [e.1,e.2];exact hc
  ·refine F.pos s l hs hl' ?_
   unfold one at q
   split at q
   ·rename_i e2
    rw [if_neg fun e3=>e ⟨e2,e3⟩] at q
    split at q <;> omega
   ·omega
 ·rw [<- F.row s hs,wAn n fun i hi=>g s i hs hi]
  by_cases e:s=k
  ·simp only [if_pos e]
   rw [wEh,show (fun l=>one lane l - one j l)=fun l=>one lane l + (-1) * one j l from funext fun l=>by omega,wEh,o1 lane hl]
   have:wAy (fun l=>(-1) * one j l) n=-1:=by
    unfold one
    rw [show (fun l=>(-1:Int) * if l=j then 1 else 0)=fun l=>if l=j then (-1:Int) else 0 from funext fun l=>by split <;> rfl]
    exact wFR hj
   omega
  ·simp only [if_neg e,kO]
 ·have:=F.col l hl'
  rw [wAn n fun i hi=>g i l hi hl',wEh,this]
  have:wAy (fun s=>if s=k then one lane l - one j l else 0) n=one lane l - one j l:=wFR hk
  omega
end
end Go.Proofs.Ytfcmijinklojbaa
namespace Go.Proofs.Ytfcmijinklojbaa
open Go.KL
section
variable {n:Nat} {can:Nat->Nat->Bool} {sh:Nat->Int} {b:wAB} {may:List (wAD × Bool)}
abbrev HUM:=Arr Int 64 × Arr Int 8 × Arr Bool 16
def Out (n:Nat) (can:Nat->Nat->Bool) (sh c:Nat->Int) (h:Arr Int 64) (u:Arr Int 8) (m:Arr Bool 16) (lane:Nat) (ok:Bool) (h':Arr Int 64) (u':Arr Int 8) (m':Arr Bool 16):Prop :=
 (ok=true/\Fl n can sh (fun l=>c l + one lane l) h' u'/\∀ s,s < n->m.get s=true->∀ l,l < n->h'.get (s * 8 + l)=h.get (s * 8 + l)) \/
 (ok=false/\h'=h/\u'=u/\Clo n can sh h u (fun _=>True) m m' lane/\∀ s,s < n->can s lane=true->m'.get s=true)
theorem wLU {S E:Type} (K:Desk n can sh b may) (f:S->Int->Option (S ⊕ E)) (s0:S) (h:Arr Int 64) (u:Arr Int 8) (m:Arr Bool 16) {k:Nat} (hk:k < n) (I:Nat->S->Prop) (Z:E->Prop) (h0:I 0 s0)
  (hs:∀ j s,j < n->I j s->(can k j=false->I (j + 1) s)/\(can k j=true->(∃ s',f s (j:Int)=some (.inl s')/\I (j + 1) s') \/ ∃ e,f s (j:Int)=some (.inr e)/\Z e)) :
  (∃ s',wAp f s0 ⟨b,may,h,u,m⟩ () (k:Int)=some (.inl s')/\I n s') \/ ∃ e,wAp f s0 ⟨b,may,h,u,m⟩ () (k:Int)=some (.inr e)/\Z e:=by
 unfold wAp
 have n8:=K.n8
 simp only [K.nd]
 rcases wFS (S:=S) (B:=S ⊕ E) (n:=n) (s0:=s0) (body:=fun (k19:Nat) (s17:S) =>
  (wBP ⟨b,may,h,u,m⟩ (k:Int) (↑k19:Int)).bind fun x55 =>
  if x55=true then
   (f s17 (↑k19:Int)).bind fun yr64 =>
   match yr64 with
   | .inl s74 =>
    some (.inl s74)
   | .inr s74 =>
    esc (some (.inr s74))
  else
   some (.inl s17)) I (fun x=>∃ e,x=.inr e/\Z e) (by omega) h0 (fun j s hj hI=>by
  rw [K.can_is hk hj,hH]
  have q:=hs j s hj hI
  by_cases e:can k j=true
  ·rw [if_pos e]
   rcases q.2 e with ⟨s',e1,e2⟩ | ⟨x,e1,e2⟩
   ·exact .inl ⟨s',by rw [e1];rfl,e2⟩
   ·exact .inr ⟨.inr x,by rw [e1];rfl,x,rfl,e2⟩
  ·rw [if_neg e]
   exact .inl ⟨s,rfl,q.1 (by simpa using e)⟩) with ⟨s',e1,e2⟩ | ⟨x,e1,e,rfl,hz⟩
 ·exact .inl ⟨s',by erw [e1];rfl,e2⟩
 ·exact .inr ⟨e,by erw [e1];rfl,hz⟩
theorem orT {p:Prop} [Decidable p] {x:Bool} (h:x=true):(if p then true else x)=true:=by
 split
 ·rfl
 ·exact h
theorem wRc (K:Desk n can sh b may):∀ (f:Nat) (lane:Nat) (h:Arr Int 64) (u:Arr Int 8) (m:Arr Bool 16) (c:Nat->Int),unm m n < f->lane < n->Fl n can sh c h u ->
    ∃ ok h' u' m',wAi f (lane:Int) ⟨b,may,h,u,m⟩ ()=some (ok,h',u',m')/\Out n can sh c h u m lane ok h' u' m':=by
  have n8:=K.n8
  intro f
  induction f with
  | zero=>intro lane h u m c hu;omega
  | succ f ih =>
    intro lane h u m c hu hl F
    show ∃ ok h' u' m',wBj (wAi f) (lane:Int) ⟨b,may,h,u,m⟩ ()=_/\_
    unfold wBj
    rw [wDz (by omega) (by omega),hH]
    simp only [K.ns,ni]
    have m1s:∀ s,s < n->(m.set (8 + lane) true).get s=m.get s:=fun s hs=>by rw [wCg _ (by omega),if_neg (by omega)]
    have m1n:∀ l,l < n->l ≠ lane->(m.set (8 + lane) true).get (8 + l)=m.get (8 + l):=fun l hl' hne=>by rw [wCg _ (by omega),if_neg (by omega)]
    have m1m:(m.set (8 + lane) true).get (8 + lane)=true:=by rw [wCg _ (by omega),if_pos rfl]
    have m1l:∀ l,l < n->m.get (8 + l)=true->(m.set (8 + lane) true).get (8 + l)=true:=fun l _ q=>by rw [wCg _ (by omega)];exact orT q
    rcases wFS (S:=HUM) (B:=Bool × HUM) (n:=n) (s0:=(h,u,m.set (8 + lane) true)) (body:=fun (k39:Nat) ((a36,a37,a38):HUM) =>
    (chk (↑k39:Int) 8).bind fun _ =>
    if (a38.get k39)=true then
      some (.inl (a36,a37,a38))
    else
      (wBP (⟨b,may,a36,a37,a38⟩:wAF) (↑k39:Int) (lane:Int)).bind fun x84 =>
      if x84=true then
        (idx b.Shots (↑k39:Int)).bind fun x107 =>
        if (a37.get k39) < x107 then
          esc (some (true,((a36.set (k39 * 8 + lane) (w64 ((a36.get (k39 * 8 + lane)) + 1))),(a37.set k39 (w64 ((a37.get k39) + 1))),(a38.set k39 true))))
        else
          (wBH () (↑k39:Int)).bind fun _ =>
          (wAp (S:=(Arr Int 64) × (Arr Int 8) × (Arr Bool 16)) (E:=(Arr Int 64) × (Arr Int 8) × (Arr Bool 16) × Bool) (fun (a303,a304,a305) x332 =>
            if x332=(lane:Int) then
              some (.inl (a303,a304,a305))
            else
              (chk x332 8).bind fun _ =>
              if 0 < (a303.get (k39 * 8 + x332.toNat)) then
                (wAi f x332 (⟨b,may,a303,a304,a305⟩:wAF) ()).bind fun (x383,x384) =>
                if x383=true then
                  some (.inr (((x384.1.set (k39 * 8 + x332.toNat) (w64 ((x384.1.get (k39 * 8 + x332.toNat)) - 1))).set (k39 * 8 + lane) (w64 (((x384.1.set (k39 * 8 + x332.toNat) (w64 ((x384.1.get (k39 * 8 + x332.toNat)) - 1))).get (k39 * 8 + lane)) + 1))),x384.2.1,x384.2.2,true))
                else
                  some (.inl (x384.1,x384.2.1,x384.2.2))
              else
                some (.inl (a303,a304,a305))) (a36,a37,(a38.set k39 true)) (⟨b,may,a36,a37,(a38.set k39 true)⟩:wAF) () (↑k39:Int)).bind fun rr321 =>
          match rr321 with
          | .inl (y439,y440,y441) =>
            some (.inl (y439,y440,y441))
          | .inr (y442,y443,y444,y445) =>
            esc (some (y445,(y442,y443,y444)))
      else
        some (.inl (a36,a37,a38)))
      (fun k st=>st.1=h/\st.2.1=u/\Clo n can sh h u (fun _=>True) m st.2.2 lane/\∀ s,s < k->can s lane=true->st.2.2.get s=true)
      (fun r=>Out n can sh c h u m lane r.1 r.2.1 r.2.2.1 r.2.2.2) (by omega) ⟨rfl,rfl,⟨⟨fun s hs q=>(m1s s hs).trans q,fun l hl' q=>m1l l hl' q⟩,fun l hl' q1 q2 hne=>(by have q3:=(m1n l hl' hne).symm.trans q1;rw [q2] at q3;cases q3),fun s _ hs q1 q2=>(by have q3:=(m1s s hs).symm.trans q1;rw [q2] at q3;cases q3),m1m⟩,fun s hs=>absurd hs (Nat.not_lt_zero s)⟩
      (by
      rintro k ⟨h',u',mk⟩ hk ⟨rfl,rfl,J1,J2⟩
      simp only at J1 J2 ⊢
      rw [wDz (by omega) (by omega),hH]
      by_cases c1:mk.get k=true
      · rw [if_pos c1]
        refine .inl ⟨_,rfl,rfl,rfl,J1,fun s hs q=>?_⟩
        by_cases e:s=k
        · rw [e];exact c1
        · exact J2 s (by omega) q
      rw [if_neg c1,K.can_is hk hl,hH]
      by_cases c2:can k lane=true
      case neg =>
        rw [if_neg c2]
        refine .inl ⟨_,rfl,rfl,rfl,J1,fun s hs q=>?_⟩
        by_cases e:s=k
        · rw [e] at q;exact absurd q c2
        · exact J2 s (by omega) q
      rw [if_pos c2,wAu (by rw [K.ns];exact hk),hH,(K.sh k hk).1]
      have bd:=F.bd K hk hl
      simp only at bd
      have hmk:mk.get k=false:=by simpa using c1
      have hm0:m.get k=false:=by
        cases e:m.get k with
        | false=>rfl
        | true=>rw [J1.ext.s k hk e] at hmk;cases hmk
      by_cases c3:u'.get k < sh k
      · rw [if_pos c3,wAM (by omega) (by omega),wAM (by omega) (by omega)]
        refine .inr ⟨_,rfl,.inl ⟨rfl,F.more n8 hk hl c2 c3,fun s hs q l hl'=>?_⟩⟩
        simp only
        rw [wCg _ (by omega),if_neg]
        intro e
        have:s=k:=by omega
        rw [this,hm0] at q
        cases q
      rw [if_neg c3]
      unfold wBH
      rw [hH]
      have hset:∀ s,s < n->(mk.set k true).get s=if s=k then true else mk.get s:=fun s hs=>wCg _ (by omega) _
      have hsetl:∀ l,l < n->(mk.set k true).get (8 + l)=mk.get (8 + l):=fun l hl'=>by rw [wCg _ (by omega),if_neg (by omega)]
      have hX1:Ext n mk (mk.set k true):=⟨fun s hs q=>by rw [hset s hs];exact orT q,fun l hl' q=>by rw [hsetl l hl'];exact q⟩
      rcases wLU (S:=HUM) (E:=(Arr Int 64) × (Arr Int 8) × (Arr Bool 16) × Bool) K (fun ((a303,a304,a305):HUM) x332 =>
            if x332=(lane:Int) then
              some (.inl (a303,a304,a305))
            else
              (chk x332 8).bind fun _ =>
              if 0 < (a303.get (k * 8 + x332.toNat)) then
                (wAi f x332 (⟨b,may,a303,a304,a305⟩:wAF) ()).bind fun (x383,x384) =>
                if x383=true then
                  some (.inr (((x384.1.set (k * 8 + x332.toNat) (w64 ((x384.1.get (k * 8 + x332.toNat)) - 1))).set (k * 8 + lane) (w64 (((x384.1.set (k * 8 + x332.toNat) (w64 ((x384.1.get (k * 8 + x332.toNat)) - 1))).get (k * 8 + lane)) + 1))),x384.2.1,x384.2.2,true))
                else
                  some (.inl (x384.1,x384.2.1,x384.2.2))
              else
                some (.inl (a303,a304,a305))) (h',u',mk.set k true) h' u' (mk.set k true) hk
        (fun j st=>st.1=h'/\st.2.1=u'/\Ext n (mk.set k true) st.2.2/\Clo n can sh h' u' (fun s=>s ≠ k) m st.2.2 lane/\∀ l,l < j->0 < h'.get (k * 8 + l)->st.2.2.get (8 + l)=true)
        (fun e=>Out n can sh c h' u' m lane e.2.2.2 e.1 e.2.1 e.2.2.1) ⟨rfl,rfl,Ext.rfl,⟨J1.ext.trans hX1,fun l hl' q1 q2 hne s hs q=>hX1.s s hs (J1.lanes l hl' (by rw [<- hsetl l hl'];exact q1) q2 hne s hs q),fun s hne hs q1 q2=>by
            rw [hset s hs,if_neg hne] at q1
            obtain ⟨g1,g2,l,g3,g4,g5⟩:=J1.skiers s trivial hs q1 q2
            exact ⟨g1,fun l hl' q=>by rw [hsetl l hl'];exact g2 l hl' q,l,g3,g4,by rw [hsetl l g3];exact g5⟩,hX1.l lane hl J1.me⟩,fun l hl'=>by omega⟩
        (by
        rintro j ⟨h2,u2,mj⟩ hj ⟨rfl,rfl,X1,Cj,Lj⟩
        simp only at X1 Cj Lj
        constructor
        · intro q
          refine ⟨rfl,rfl,X1,Cj,fun l hl' p=>?_⟩
          by_cases e:l=j
          · subst e;rw [F.pos k l hk hj p] at q;cases q
          · exact Lj l (by omega) p
        intro q
        simp only
        by_cases c4:(j:Int)=lane
        · rw [if_pos c4]
          refine .inl ⟨_,rfl,rfl,rfl,X1,Cj,fun l hl' p=>?_⟩
          by_cases e:l=j
          · rw [e,show j=lane by omega];exact Cj.me
          · exact Lj l (by omega) p
        rw [if_neg c4,wDz (by omega) (by omega),hH,ni]
        by_cases c5:0 < h2.get (k * 8 + j)
        case neg =>
          rw [if_neg c5]
          refine .inl ⟨_,rfl,rfl,rfl,X1,Cj,fun l hl' p=>?_⟩
          by_cases e:l=j
          · rw [e] at p;exact absurd p c5
          · exact Lj l (by omega) p
        rw [if_pos c5]
        have hun:unm mj n < f:=by
          have a1:=wOJ X1.s n (nH _)
          have a2:=wOK (show k < 16 by omega) hmk n hk
          have a3:=wOJ J1.ext.s n (nH _)
          omega
        obtain ⟨ok,h3,u3,m3,e3,o3⟩:=ih j h2 u2 mj c hun hj F
        rw [e3,hH]
        simp only
        rcases o3 with ⟨rfl,F3,R3⟩ | ⟨rfl,rfl,rfl,C3,A3⟩
        · rw [if_pos rfl]
          have kj:mj.get k=true:=X1.s k hk (by rw [hset k hk,if_pos rfl])
          have r1:h3.get (k * 8 + j)=h2.get (k * 8 + j):=R3 k hk kj j hj
          have b3:=F3.bd K hk hj
          have b4:=F3.bd K hk hl
          have T:=F3.turn n8 hk hj hl c2 (show j ≠ lane by omega) (by rw [r1];exact c5)
          have w1:w64 (h3.get (k * 8 + j) - 1)=h3.get (k * 8 + j) - 1:=wAM (by omega) (by omega)
          rw [w1]
          have g2:(h3.set (k * 8 + j) (h3.get (k * 8 + j) - 1)).get (k * 8 + lane)=h3.get (k * 8 + lane):=by rw [wCg _ (by omega),if_neg (by omega)]
          have w2:w64 ((h3.set (k * 8 + j) (h3.get (k * 8 + j) - 1)).get (k * 8 + lane) + 1)=(h3.set (k * 8 + j) (h3.get (k * 8 + j) - 1)).get (k * 8 + lane) + 1:=by rw [g2];exact wAM (by omega) (by omega)
          rw [w2]
          refine .inr ⟨_,rfl,.inl ⟨rfl,T,fun s hs p l hl'=>?_⟩⟩
          have hne:s ≠ k:=fun e=>by rw [e,hm0] at p;cases p
          simp only
          rw [wCg _ (by omega),if_neg (by omega),wCg _ (by omega),if_neg (by omega)]
          exact R3 s hs (Cj.ext.s s hs p) l hl'
        · rw [if_neg (by decide)]
          refine .inl ⟨_,rfl,rfl,rfl,X1.trans C3.ext,⟨Cj.ext.trans C3.ext,fun l hl' q1 q2 hne s hs p=>?_,fun s hne hs q1 q2=>?_,C3.ext.l lane hl Cj.me⟩,fun l hl' p=>?_⟩
          · cases e:mj.get (8 + l) with
            | true=>exact C3.ext.s s hs (Cj.lanes l hl' e q2 hne s hs p)
            | false =>
              by_cases e2:l=j
              · subst e2;exact A3 s hs p
              · exact C3.lanes l hl' q1 e e2 s hs p
          · cases e:mj.get s with
            | true =>
              obtain ⟨g1,g2,l,g3,g4,g5⟩:=Cj.skiers s hne hs e q2
              exact ⟨g1,fun l hl' p=>C3.ext.l l hl' (g2 l hl' p),l,g3,g4,C3.ext.l l g3 g5⟩
            | false=>exact C3.skiers s trivial hs q1 e
          · by_cases e:l=j
            · rw [e];exact C3.me
            · exact C3.ext.l l (by omega) (Lj l (by omega) p)) with ⟨⟨h2,u2,m2⟩,e2,I1,I2,I3,I4,I5⟩ | ⟨⟨h2,u2,m2,ok⟩,e2,hz⟩
      · simp only at I1 I2
        subst I1 I2
        erw [e2]
        rw [hH]
        refine .inl ⟨_,rfl,rfl,rfl,⟨I4.ext,I4.lanes,fun s _ hs q1 q2=>?_,I4.me⟩,fun s hs p=>?_⟩
        · by_cases e:s=k
          · subst e
            exact ⟨by omega,I5,lane,hl,c2,I4.me⟩
          · exact I4.skiers s e hs q1 q2
        · by_cases e:s=k
          · rw [e];exact I3.s k hk (by rw [hset k hk,if_pos rfl])
          · exact I3.s s (by omega) (hX1.s s (by omega) (J2 s (by omega) p))
      · erw [e2]
        rw [hH]
        exact .inr ⟨_,rfl,hz⟩) with ⟨⟨h',u',m'⟩,e,rfl,rfl,J1,J2⟩ | ⟨⟨ok,h',u',m'⟩,e,hz⟩
    · erw [e]
      exact ⟨false,_,_,_,rfl,.inr ⟨rfl,rfl,rfl,J1,J2⟩⟩
    · erw [e]
      exact ⟨ok,_,_,_,rfl,hz⟩
end
end Go.Proofs.Ytfcmijinklojbaa
namespace Go.Proofs.Ytfcmijinklojbaa
open Go.KL
section
variable {n:Nat} {can:Nat->Nat->Bool} {sh:Nat->Int} {b:wAB} {may:List (wAD × Bool)}
theorem wGU {α:Type} [Inhabited α] {n:Nat} {x:α} {i:Nat} (h:i < n):(Arr.fill n x).get i=x:=by
 unfold Arr.fill Arr.get
 simp [nM,List.getElem?_replicate,h]
theorem wPa {c dn:Nat->Int} {h:Arr Int 64} {u:Arr Int 8} {m:Arr Bool 16} {lane:Nat} (F:Fl n can sh c h u) (n8:n <= 8) (hl:lane < n) (C:Clo n can sh h u (fun _=>True) (Arr.fill 16 false) m lane) (A:∀ s,s < n->can s lane=true->m.get s=true)
  (hc:∀ l,l < n->c l <= dn l) (hlt:c lane < dn lane):shL n can sh (fun l=>m.get (8 + l)) < dnL n dn (fun l=>m.get (8 + l)):=by
 have ad:∀ s,s < n->(adj n can (fun l=>m.get (8 + l)) s=true ↔ m.get s=true):=fun s hs=>by
  rw [wFu]
  constructor
  ·rintro ⟨l,h1,h2,h3⟩
   by_cases e:l=lane
   ·rw [e] at h3;exact A s hs h3
   ·exact C.lanes l h1 h2 (wGU (by omega)) e s hs h3
  ·intro q
   obtain ⟨_,_,l,h1,h2,h3⟩:=C.skiers s trivial hs q (wGU (by omega))
   exact ⟨l,h1,h3,h2⟩
 have e1:wAy (fun l=>if m.get (8 + l)=true then c l else 0) n=wAy (fun s=>wAy (fun l=>if m.get (8 + l)=true then h.get (s * 8 + l) else 0) n) n:=by
  rw [wHr]
  refine wAn n fun l hl=>?_
  rw [wOI,F.col l hl]
 have e2:shL n can sh (fun l=>m.get (8 + l)) <= wAy (fun l=>if m.get (8 + l)=true then c l else 0) n:=by
  rw [e1]
  refine wFt n fun s hs=>?_
  by_cases q:m.get s=true
  ·rw [if_pos ((ad s hs).2 q)]
   obtain ⟨g1,g2,_⟩:=C.skiers s trivial hs q (wGU (by omega))
   refine ke g1 (Int.le_of_eq ?_)
   rw [<- F.row s hs]
   refine wAn n fun l hl'=>?_
   by_cases p:m.get (8 + l)=true
   ·rw [if_pos p]
   ·rw [if_neg p]
    have:=F.nn s l hs hl'
    have:¬ 0 < h.get (s * 8 + l):=fun r=>p (g2 l hl' r)
    omega
  ·rw [if_neg fun r=>q ((ad s hs).1 r)]
   refine wKe n fun l hl'=>?_
   split
   ·exact F.nn s l hs hl'
   ·exact nv _
 have e3:dnL n dn (fun l=>m.get (8 + l))=wAy (fun l=>if m.get (8 + l)=true then c l else 0) n + wAy (fun l=>if m.get (8 + l)=true then dn l - c l else 0) n:=by
  unfold dnL
  rw [<- wEh]
  refine wAn n fun l _=>?_
  split <;> omega
 have e4:=wEP (f:=fun l=>if m.get (8 + l)=true then dn l - c l else 0) (fun l hl'=>by
  split
  ·have:=hc l hl';omega
  ·exact nv _) hl
 simp only [if_pos C.me] at e4
 omega
def wFv (m:Arr Bool 16) (n:Nat):List Int:=((kD n).filter fun l=>m.get (8 + l)).map fun l:Nat=>(l:Int)
theorem wOL (K:Desk n can sh b may) (h:Arr Int 64) (u:Arr Int 8) (m:Arr Bool 16):wBU ⟨b,may,h,u,m⟩=some (wFv m n):=by
 have n8:=K.n8
 unfold wBU
 simp only [K.nd]
 rw [wDS (S:=List Int) (n:=n) (fun k=>wFv m k) (s0:=[]) rfl (by omega) fun k hk=>?_]
 ·rfl
 ·rw [wDz (by omega) (by omega),hH]
  have ml:(wFv m k).length <= k:=by
   unfold wFv
   rw [kJ]
   exact kH (List.length_filter_le _ _) (by simp)
  have st:wFv m (k + 1)=wFv m k ++ if m.get (8 + k)=true then [(k:Int)] else []:=by
   unfold wFv
   rw [List.range_succ,List.filter_append,List.map_append]
   by_cases e:m.get (8 + k)=true
   ·rw [if_pos e,show [k].filter (fun l=>m.get (8 + l))=[k] by simp [e]];rfl
   ·rw [if_neg e,show [k].filter (fun l=>m.get (8 + l))=[] by simp [e]];rfl
  rw [st]
  by_cases e:m.get (8 + k)=true
  ·rw [if_pos e,if_pos e,wEV (by simp only [List.length_cons,nz];omega),hH]
  ·rw [if_neg e,if_neg e,nw]
def Sol (n:Nat) (can:Nat->Nat->Bool) (sh dn:Nat->Int) (r:List Int × HUM):Prop :=
 (r.1=[]/\Fl n can sh dn r.2.1 r.2.2.1) \/ (r.1 ≠ []/\r.1=wFv r.2.2.2 n/\shL n can sh (fun l=>r.2.2.2.get (8 + l)) < dnL n dn (fun l=>r.2.2.2.get (8 + l)))
theorem wEi {dn:Nat->Int} (K:Desk n can sh b may) (hd:∀ l,l < n->gd b.Down l=dn l/\0 <= dn l/\dn l <= 1000) {h:Arr Int 64} {u:Arr Int 8} (m:Arr Bool 16) (F:Fl n can sh (fun _=>0) h u) :
  ∃ r,wAL ⟨b,may,h,u,m⟩=some r/\Sol n can sh dn r:=by
 have n8:=K.n8
 unfold wAL
 simp only [K.nd]
 rcases wFS (S:=HUM) (B:=List Int × HUM) (n:=n) (s0:=(h,u,m)) (body:=fun (k39:Nat) ((a36,a37,a38):HUM) =>
  (idx b.Down (↑k39:Int)).bind fun x60 =>
  jn (wFy 0 x60 (fun (k84:Nat) ((a81,a82,a83):HUM) =>
   (wAi 1000 (↑k39:Int) (⟨b,may,a81,a82,(Arr.fill 16 false)⟩:wAF) ()).bind fun (x125,x126) =>
   if x125=true then
    some (.inl (x126.1,x126.2.1,x126.2.2))
   else
    (wBU (⟨b,may,x126.1,x126.2.1,x126.2.2⟩:wAF)).bind fun x146 =>
    esc (esc ((wNM x146).bind fun x165 =>
    some (x146,(x126.1,x126.2.1,x126.2.2))))) (a36,a37,a38)) fun (y175,y176,y177) =>
  some (.inl (y175,y176,y177)))
  (fun k st=>Fl n can sh (fun l=>if l < k then dn l else 0) st.1 st.2.1) (Sol n can sh dn) (by omega)
  (by
   have:(fun l=>if l < 0 then dn l else 0)=fun _=>(0:Int):=funext fun l=>if_neg (by omega)
   rw [this];exact F)
  (by
   rintro k ⟨h1,u1,m1⟩ hk J
   simp only at J ⊢
   obtain ⟨d1,d2,d3⟩:=hd k hk
   rw [wAu (by rw [K.nd];exact hk),hH,d1]
   obtain ⟨q,hq⟩:∃ q:Nat,dn k=q:=⟨(dn k).toNat,by omega⟩
   rw [hq]
   rcases wFS (S:=HUM) (B:=HUM ⊕ (List Int × HUM)) (n:=q) (s0:=(h1,u1,m1)) (body:=fun (k84:Nat) ((a81,a82,a83):HUM) =>
   (wAi 1000 (↑k:Int) (⟨b,may,a81,a82,(Arr.fill 16 false)⟩:wAF) ()).bind fun (x125,x126) =>
   if x125=true then
    some (.inl (x126.1,x126.2.1,x126.2.2))
   else
    (wBU (⟨b,may,x126.1,x126.2.1,x126.2.2⟩:wAF)).bind fun x146 =>
    esc (esc ((wNM x146).bind fun x165 =>
    some (x146,(x126.1,x126.2.1,x126.2.2)))))
    (fun r st=>Fl n can sh (fun l=>if l < k then dn l else if l=k then (r:Int) else 0) st.1 st.2.1) (fun x=>∃ r,x=.inr r/\Sol n can sh dn r) (by omega)
    (by
     have:(fun l=>if l < k then dn l else if l=k then ((0:Nat):Int) else 0)=fun l=>if l < k then dn l else 0:=funext fun l=>by
      by_cases e:l < k
      ·rw [if_pos e,if_pos e]
      ·rw [if_neg e,if_neg e];split <;> rfl
     rw [this];exact J)
    (by
     rintro r ⟨h2,u2,m2⟩ hr J2
     simp only at J2 ⊢
     have hun:unm (Arr.fill 16 false) n < 1000:=by
      have:∀ j,unm (Arr.fill 16 false) j <= j:=by
       intro j
       induction j with
       | zero=>exact nH _
       | succ j ih=>rw [unm];split <;> omega
      have:=this n
      omega
     obtain ⟨ok,h3,u3,m3,e3,o3⟩:=wRc K 1000 k h2 u2 (Arr.fill 16 false) _ hun hk J2
     rw [e3,hH]
     simp only
     rcases o3 with ⟨rfl,F3,_⟩ | ⟨rfl,rfl,rfl,C3,A3⟩
     ·rw [if_pos rfl]
      refine .inl ⟨_,rfl,?_⟩
      have:(fun l=>(if l < k then dn l else if l=k then (r:Int) else 0) + one k l)=fun l=>if l < k then dn l else if l=k then ((r + 1:Nat):Int) else 0:=funext fun l=>by
       unfold one
       split
       ·rw [if_neg (by omega)];omega
       ·split <;> omega
      rw [<- this]
      exact F3
     ·rw [if_neg (by decide),wOL K,hH]
      have sh1:=wPa (dn:=dn) J2 n8 hk C3 A3 (fun l hl=>by
       split
       ·omega
       ·split
        ·rename_i e;rw [e];omega
        ·exact (hd l hl).2.1) (by rw [if_neg (by omega),if_pos rfl];omega)
      have ne:wFv m3 n ≠ []:=fun e=>by
       have:(k:Int) ∈ wFv m3 n:=by
        unfold wFv
        exact kP.2 ⟨k,kA.2 ⟨nq.2 hk,C3.me⟩,rfl⟩
       rw [e] at this
       cases this
      rw [wLq ne,hH]
      exact .inr ⟨_,rfl,_,rfl,.inr ⟨ne,rfl,sh1⟩⟩) with ⟨⟨h2,u2,m2⟩,e,J2⟩ | ⟨x,e,r,rfl,hz⟩
   ·erw [e]
    refine .inl ⟨_,rfl,?_⟩
    have:(fun l=>if l < k then dn l else if l=k then (q:Int) else 0)=fun l=>if l < k + 1 then dn l else 0:=funext fun l=>by
     by_cases e1:l < k
     ·rw [if_pos e1,if_pos (by omega)]
     ·rw [if_neg e1]
      by_cases e2:l=k
      ·rw [if_pos e2,if_pos (by omega),e2,hq]
      ·rw [if_neg e2,if_neg (by omega)]
    rw [<- this]
    exact J2
   ·erw [e]
    exact .inr ⟨_,rfl,hz⟩) with ⟨⟨h',u',m'⟩,e,J⟩ | ⟨r,e,hz⟩
 ·erw [e]
  refine ⟨_,rfl,.inl ⟨rfl,?_⟩⟩
  simp only at J
  exact ⟨J.nn,J.pos,J.row,J.cap,fun l hl=>by have:=J.col l hl;rw [if_pos hl] at this;exact this⟩
 ·erw [e]
  exact ⟨r,rfl,hz⟩
theorem Fl.asg {dn:Nat->Int} {h:Arr Int 64} {u:Arr Int 8} (F:Fl n can sh dn h u):Asg n can sh dn (fun s l=>h.get (s * 8 + l)) :=
 ⟨F.nn,F.pos,fun s hs=>by have:=F.row s hs;have:=F.cap s hs;omega,F.col⟩
def Can (n:Nat) (can:Nat->Nat->Bool) (sh dn:Nat->Int):Prop:=∃ x,Asg n can sh dn x
theorem Sol.none_iff {dn:Nat->Int} {r:List Int × HUM} (S:Sol n can sh dn r):r.1=[] ↔ Can n can sh dn:=by
 rcases S with ⟨e,F⟩ | ⟨e,_,lt⟩
 ·exact ⟨fun _=>⟨_,F.asg⟩,fun _=>e⟩
 ·refine ⟨fun q=>absurd q e,fun ⟨x,hx⟩=>?_⟩
  have:=hx.hall (fun l=>r.2.2.2.get (8 + l))
  omega
theorem Sol.short {dn:Nat->Int} {r:List Int × HUM} (S:Sol n can sh dn r) (h:¬ Can n can sh dn):∃ L:Nat->Bool,shL n can sh L < dnL n dn L:=by
 rcases S with ⟨e,F⟩ | ⟨e,_,lt⟩
 ·exact absurd ⟨_,F.asg⟩ h
 ·exact ⟨_,lt⟩
end
end Go.Proofs.Ytfcmijinklojbaa
namespace Go.KL
variable {S B α:Type}
theorem wOM {body:S->Option (S ⊕ B)} (F:Nat):∀ (m:Nat) (s:Nat->S),(∀ i,i < m->body (s i)=some (.inl (s (i + 1))))->iter body (m + F) (s 0)=iter body F (s m)
 | 0,s,_=>by rw [kC]
 | m + 1,s,h=>by
  rw [show m + 1 + F=(m + F) + 1 by omega,iter,h 0 (by omega)]
  exact wOM F m (fun i=>s (i + 1)) fun i hi=>h (i + 1) (by omega)
theorem wEj {body:S->Option (S ⊕ B)} {m:Nat} (s:Nat->S) (h:∀ i,i < m->body (s i)=some (.inl (s (i + 1)))) {b:B} (hb:body (s m)=some (.inr b)) {s0:S} (h0:s 0=s0) (hm:m < 1000000):iter body big s0=some b:=by
 subst h0
 have:=wOM (big - m - 1 + 1) m s h
 rw [show m + (big - m - 1 + 1)=big by unfold big;omega] at this
 rw [this,iter,hb]
theorem wLV {body:S->Option (S ⊕ B)} (I:Nat->S->Prop) (Z:B->Prop) (m:Nat) (step:∀ i s,i <= m->I i s->(i < m/\∃ s',body s=some (.inl s')/\I (i + 1) s') \/ ∃ b,body s=some (.inr b)/\Z b) {s0:S} (h0:I 0 s0) (hm:m < 1000000):∃ b,iter body big s0=some b/\Z b:=by
 have key:∀ (d i:Nat) (s:S),i + d=m->I i s->∀ F,d < F->∃ b,iter body F s=some b/\Z b:=by
  intro d
  induction d with
  | zero =>
   intro i s hi hI F hF
   obtain ⟨F,rfl⟩:∃ G,F=G + 1:=⟨F - 1,by omega⟩
   rcases step i s (by omega) hI with ⟨h,_⟩ | ⟨b,h1,h2⟩
   ·omega
   ·exact ⟨b,by rw [iter,h1],h2⟩
  | succ d ih =>
   intro i s hi hI F hF
   obtain ⟨F,rfl⟩:∃ G,F=G + 1:=⟨F - 1,by omega⟩
   rcases step i s (by omega) hI with ⟨_,s',h1,h2⟩ | ⟨b,h1,h2⟩
   ·obtain ⟨b,h3,h4⟩:=ih (i + 1) s' (by omega) h2 F (by omega)
    exact ⟨b,by rw [iter,h1];exact h3,h4⟩
   ·exact ⟨b,by rw [iter,h1],h2⟩
 exact key m 0 s0 (by omega) h0 big (by unfold big;omega)
theorem wFw {body:S->Option (S ⊕ B)} (I:Nat->S->Prop) {b:B} (m:Nat) {s0:S} (h0:I 0 s0) (hm:m < 1000000) (step:∀ i s,i <= m->I i s->(i < m/\∃ s',body s=some (.inl s')/\I (i + 1) s') \/ body s=some (.inr b)):iter body big s0=some b:=by
 obtain ⟨c,h1,h2⟩:=wLV (body:=body) I (fun c=>c=b) m (fun i s hi hI=>by
  rcases step i s hi hI with h | h
  ·exact .inl h
  ·exact .inr ⟨b,h,rfl⟩) h0 hm
 rw [h1,h2]
theorem wFH [Inhabited α] {l:List α} {i k:Nat} {x:α} (hi:i < l.length) (hk:k < l.length):gd (l.set i x) k=if k=i then x else gd l k:=by
 have h1:=wDV (xs:=l.set i x) (k:=k) (by rw [List.length_set];exact hk)
 rw [List.getElem?_set] at h1
 by_cases e:i=k
 ·subst e
  rw [if_pos rfl,if_pos hi] at h1
  rw [if_pos rfl]
  exact (nJ h1).symm
 ·rw [if_neg e,wDV hk] at h1
  rw [if_neg (fun h=>e h.symm)]
  exact (nJ h1).symm
theorem wGV [Inhabited α] {l:List α} {k:Nat} (h:k < l.length):gd l k=l[k]:=by
 have:=wDV h
 rw [nf h] at this
 exact (nJ this).symm
theorem wGh [DecidableEq α] {l:List α} (hn:l.length <= 9223372036854775807) :
  (if (↑l.length:Int)=(↑l.length:Int) then jn (wFy 0 (↑l.length:Int) (fun k4 (_:Unit)=>(idx l (↑k4:Int)).bind fun x26=>(idx l (↑k4:Int)).bind fun x34=>if x26=x34 then some (.inl ()) else esc (some false)) ()) fun _=>some true else some false)=some true:=by
 rw [wME hn]
 simp
end Go.KL
namespace Go.Proofs.Ytfcmijinklojbaa
open Go.KL
section
variable {K V:Type} [DecidableEq K]
theorem wJi {m:List (K × V)} {x y:K} {v:V}:wFK (mput m x v) y=if y=x then some v else wFK m y:=by
 induction m with
 | nil=>simp only [mput,wFK]
 | cons p m ih =>
  obtain ⟨a,u⟩:=p
  rw [mput]
  by_cases h:x=a
  ·subst h
   rw [if_pos rfl,wFK,wFK]
   split <;> rfl
  ·rw [if_neg h,wFK,wFK,ih]
   by_cases e:y=a
   ·rw [if_pos e,if_pos e,if_neg (by rw [e];exact Ne.symm h)]
   ·rw [if_neg e,if_neg e]
theorem wRd {m:List (K × V)} {x a:K} {v:V} (h:a ∈ (mput m x v).map (·.1)):a=x \/ a ∈ m.map (·.1):=by
 induction m with
 | nil=>exact .inl (by simpa [mput] using h)
 | cons p m ih =>
  obtain ⟨b,u⟩:=p
  rw [mput] at h
  split at h
  ·rename_i e
   rw [nR,nI] at h
   rcases h with h | h
   ·exact .inl h
   ·exact .inr (by rw [nR];exact kS _ h)
  ·rw [nR,nI] at h
   rcases h with h | h
   ·exact .inr (by rw [nR,h];exact List.mem_cons_self)
   ·rcases ih h with h | h
    ·exact .inl h
    ·exact .inr (by rw [nR];exact kS _ h)
theorem wJj {m:List (K × V)} {x:K} {v:V} (h:(m.map (·.1)).Nodup):((mput m x v).map (·.1)).Nodup:=by
 induction m with
 | nil=>simp [mput]
 | cons p m ih =>
  obtain ⟨b,u⟩:=p
  rw [nR,ny] at h
  rw [mput]
  split
  ·rename_i e
   rw [nR,ny,e]
   exact h
  ·rename_i e
   rw [nR,ny]
   refine ⟨fun q=>?_,ih h.2⟩
   rcases wRd q with q | q
   ·exact e q.symm
   ·exact h.1 q
theorem wPb {m:List (K × V)} {x:K} (h:x ∉ m.map (·.1)):wFK m x=none:=by
 induction m with
 | nil=>rfl
 | cons p m ih =>
  obtain ⟨a,u⟩:=p
  rw [nR,nI] at h
  rw [wFK,if_neg fun e=>h (.inl e),ih fun q=>h (.inr q)]
theorem wPc {m:List (K × V)} (hn:(m.map (·.1)).Nodup) {x y:K}:wFK (mdel m x) y=if y=x then none else wFK m y:=by
 induction m with
 | nil=>simp only [mdel,wFK];split <;> rfl
 | cons p m ih =>
  obtain ⟨a,u⟩:=p
  rw [nR,ny] at hn
  rw [mdel]
  by_cases h:x=a
  ·subst h
   rw [if_pos rfl,wFK]
   by_cases e:y=x
   ·rw [if_pos e,e];exact wPb hn.1
   ·rw [if_neg e,if_neg e]
  ·rw [if_neg h,wFK,wFK,ih hn.2]
   by_cases e:y=a
   ·rw [if_pos e,if_pos e,if_neg (by rw [e];exact Ne.symm h)]
   ·rw [if_neg e,if_neg e]
end
theorem wCM (x a b:Int):wAb x a b=some (decide (a <= x/\x <= b)):=by
 unfold wAb
 by_cases h:a <= x
 ·rw [if_pos h];simp [h]
 ·rw [if_neg h];simp [h]
theorem wTJ {l:List Int} {f:Int->Option Bool} {p:Int->Bool} (hf:∀ a,f a=some (p a)) (hn:l.length <= 9223372036854775807):wBx l f=some (l.all p):=by
 unfold wBx wAf wAg wBt
 have:=wFQ (R:=Int) (l:=l) (f:=fun x=>(f x).bind fun x5=>some (!x5)) (p:=fun a=>!p a) (fun a _=>by rw [hf];rfl) hn id
 simp only [id] at this
 rw [this]
 simp only [hH,wGT]
 congr 1
 clear this hn
 induction l with
 | nil=>rfl
 | cons a l ih=>rw [kW,List.all_cons,<- ih];cases p a <;> simp
theorem allP {l:List wAD} {f:wAD->Option Bool} {p:wAD->Bool} (hf:∀ a,f a=some (p a)) (hn:l.length <= 9223372036854775807):wBh l f=some (l.all p):=by
 unfold wBh wAe wAk wAw
 have:=wFQ (R:=Int) (l:=l) (f:=fun x=>(f x).bind fun x5=>some (!x5)) (p:=fun a=>!p a) (fun a _=>by rw [hf];rfl) hn id
 simp only [id] at this
 rw [this]
 simp only [hH,wGT]
 congr 1
 clear this hn
 induction l with
 | nil=>rfl
 | cons a l ih=>rw [kW,List.all_cons,<- ih];cases p a <;> simp
def Lt (p q:wAD):Prop:=p.Skier < q.Skier \/ (p.Skier=q.Skier/\p.Lane < q.Lane)
theorem wRe {p q:wAD} (h:Lt p q):wCR p q=some true:=by
 unfold wCR
 rcases h with h | ⟨h1,h2⟩
 ·rw [if_pos h]
 ·rw [if_neg (by omega),if_pos h1,decide_eq_true h2]
structure wQP (n:Nat) (p:wAD):Prop where
 s:0 <= p.Skier/\p.Skier < n
 l:0 <= p.Lane/\p.Lane < n
 ne:p.Skier ≠ p.Lane
structure GoodB (n:Nat) (b:wAB):Prop where
 nb:1 <= n/\n <= 8
 ns:b.Shots.length=n
 nd:b.Down.length=n
 sh:∀ s,s < n->0 <= gd b.Shots s/\gd b.Shots s <= 8
 dn:∀ l,l < n->0 <= gd b.Down l/\gd b.Down l <= 5
 ac:∀ p ∈ b.Across,wQP n p
 so:b.Across.Pairwise Lt
 al:b.Across.length <= 1000
theorem memB {α:Type} [Inhabited α] {l:List α} {a:α} (h:a ∈ l):∃ i,i < l.length/\gd l i=a:=by
 obtain ⟨i,hi,e⟩:=kX h
 exact ⟨i,hi,by rw [wGV hi];exact e⟩
theorem wPd {n:Nat} {b:wAB} (G:GoodB n b):wCT b=some 0:=by
 have hn:=G.nb
 unfold wCT
 rw [wCM,hH,if_pos (decide_eq_true (by rw [G.ns];omega)),if_pos (by rw [G.ns,G.nd]),wTJ (f:=wBc) (p:=fun x=>decide (0 <= x/\x <= 8)) (fun a=>by unfold wBc;rw [wCM];rfl) (by rw [G.ns];omega),hH,if_pos (by
  rw [nE]
  intro x hx
  obtain ⟨i,hi,rfl⟩:=memB hx
  exact decide_eq_true (G.sh i (by rw [<- G.ns];exact hi))),wTJ (f:=wBd) (p:=fun x=>decide (0 <= x/\x <= 5)) (fun a=>by unfold wBd;rw [wCM];rfl) (by rw [G.nd];omega),hH,if_pos (by
  rw [nE]
  intro x hx
  obtain ⟨i,hi,rfl⟩:=memB hx
  exact decide_eq_true (G.dn i (by rw [<- G.nd];exact hi))),
  allP (f:=fun x=>wBe x (↑b.Shots.length:Int)) (p:=fun p=>decide (0 <= p.Skier/\p.Skier <= (n:Int) - 1) && (decide (0 <= p.Lane/\p.Lane <= (n:Int) - 1) && decide (¬ p.Skier=p.Lane))) (fun p=>by
   unfold wBe
   rw [G.ns,wAM (by omega) (by omega),wCM,hH]
   by_cases h1:0 <= p.Skier/\p.Skier <= (n:Int) - 1
   ·rw [if_pos (decide_eq_true h1),wCM,hH,decide_eq_true h1,nU]
    by_cases h2:0 <= p.Lane/\p.Lane <= (n:Int) - 1
    ·rw [if_pos (decide_eq_true h2),decide_eq_true h2,nU]
    ·rw [if_neg (by simpa using h2),decide_eq_false h2,nV]
   ·rw [if_neg (by simpa using h1),decide_eq_false h1,nV]) (by have:=G.al;omega),hH,if_pos (by
  rw [nE]
  intro p hp
  have h:=G.ac p hp
  have h1:=h.s;have h2:=h.l
  rw [nA,nA]
  exact ⟨decide_eq_true (by omega),decide_eq_true (by omega),decide_eq_true h.ne⟩)]
 by_cases e:b.Across.length=0
 ·refine wEj (S:=Int) (m:=0) (fun i=>(i:Int) + 1) (fun i hi=>by omega) ?_ rfl (by omega)
  rw [if_neg (by omega)]
  rfl
 refine wEj (S:=Int) (m:=b.Across.length - 1) (fun i=>(i:Int) + 1) (fun i hi=>?_) ?_ rfl (by have:=G.al;omega)
 ·have al:=G.al
  have h1:i < b.Across.length:=by omega
  have h2:i + 1 < b.Across.length:=by omega
  rw [if_pos (by omega),show w64 ((i:Int) + 1 - 1)=(i:Int) by rw [Int.add_sub_cancel];exact wAM (by omega) (by omega),wAu h1,hH,show ((i:Int) + 1)=((i + 1:Nat):Int) by omega,wAu h2,hH,wRe (by
   have:=nO.1 G.so i (i + 1) h1 h2 (by omega)
   rw [wGV h1,wGV h2]
   exact this),hH,if_pos rfl,wAM (by omega) (by omega)]
 ·rw [if_neg (by omega)]
  rfl
def wBf (b:wAB) (s l:Nat):Bool:=decide (s=l) || decide ((⟨(s:Int),(l:Int)⟩:wAD) ∈ b.Across)
def shB (b:wAB) (s:Nat):Int:=gd b.Shots s
def dnB (b:wAB) (l:Nat):Int:=gd b.Down l
theorem wFI {n:Nat} {b:wAB} (n8:n <= 8) (ns:b.Shots.length=n) (al:b.Across.length <= 1000):∃ may m,wBG b=some ⟨b,may,Arr.fill 64 0,Arr.fill 8 0,m⟩/\(may.map (·.1)).Nodup/\∀ s l:Nat,s < n->wEr may ⟨(s:Int),(l:Int)⟩ false=wBf b s l:=by
 unfold wBG
 obtain ⟨m1,e1,u1,g1⟩:∃ m1,(wDJ 0 (↑b.Shots.length:Int) (fun (k28:Nat) l25 =>
  some (mput l25 (⟨(↑k28:Int),(↑k28:Int)⟩:wAD) true)) ([]:List (wAD × Bool)))=some m1/\(m1.map (·.1)).Nodup/\∀ q,wFK m1 q=if 0 <= q.Skier/\q.Skier < n/\q.Lane=q.Skier then some true else none:=by
  rw [ns,wDp (by omega)]
  obtain ⟨m1,e,h1,h2⟩:=wEU (S:=List (wAD × Bool)) (body:=fun (k28:Nat) l25=>some (mput l25 (⟨(↑k28:Int),(↑k28:Int)⟩:wAD) true)) (fun k m=>(m.map (·.1)).Nodup/\∀ q,wFK m q=if 0 <= q.Skier/\q.Skier < k/\q.Lane=q.Skier then some true else none) n 0 [] ⟨List.nodup_nil,fun q=>by rw [if_neg (by omega)];rfl⟩ (fun i m _ hi ⟨h1,h2⟩=>⟨_,rfl,wJj h1,fun q=>by
   rw [wJi,h2]
   by_cases e:q=⟨(i:Int),(i:Int)⟩
   ·rw [if_pos e,if_pos (show 0 <= q.Skier/\q.Skier < ((i + 1:Nat):Int)/\q.Lane=q.Skier by
     subst e
     refine ⟨Int.natCast_nonneg i,?_,rfl⟩
     show (i:Int) < ((i + 1:Nat):Int)
     omega)]
   ·rw [if_neg e]
    have ne:¬ (q.Skier=i/\q.Lane=i):=fun h=>e (by obtain ⟨a,c⟩:=q;simp only at h;rw [h.1,h.2])
    by_cases c:0 <= q.Skier/\q.Skier < i/\q.Lane=q.Skier
    ·rw [if_pos c,if_pos (by omega)]
    ·rw [if_neg c,if_neg (by omega)]⟩)
  rw [kC] at h2
  exact ⟨m1,e,h1,h2⟩
 rw [e1,hH]
 obtain ⟨m2,e2,u2,g2⟩:∃ m2,(wDJ 0 (↑b.Across.length:Int) (fun (k90:Nat) l87 =>
  (idx b.Across (↑k90:Int)).bind fun x112 =>
  some (mput l87 x112 true)) m1)=some m2/\(m2.map (·.1)).Nodup/\∀ q,wFK m2 q=if q ∈ b.Across.take b.Across.length then some true else wFK m1 q:=by
  rw [wDp (by omega)]
  obtain ⟨m2,e,h1,h2⟩:=wEU (S:=List (wAD × Bool)) (body:=fun (k90:Nat) l87 =>
  (idx b.Across (↑k90:Int)).bind fun x112 =>
  some (mput l87 x112 true)) (fun k m=>(m.map (·.1)).Nodup/\∀ q,wFK m q=if q ∈ b.Across.take k then some true else wFK m1 q) b.Across.length 0 m1 ⟨u1,fun q=>by rw [List.take_zero,if_neg (by simp)]⟩ (by
   rintro i m _ hi ⟨h1,h2⟩
   have hi:i < b.Across.length:=by omega
   refine ⟨_,by rw [wAu hi,hH],wJj h1,fun q=>?_⟩
   rw [wJi,h2,wDj hi]
   by_cases e:q=gd b.Across i
   ·rw [if_pos e,if_pos (by rw [e];simp)]
   ·rw [if_neg e]
    by_cases c:q ∈ b.Across.take i
    ·rw [if_pos c,if_pos (nj _ c)]
    ·rw [if_neg c,if_neg fun h=>(nL.1 h).elim c fun h=>e (ng.1 h)])
  rw [kC] at h2
  exact ⟨m2,e,h1,h2⟩
 rw [e2,hH]
 refine ⟨m2,_,rfl,u2,fun s l hs=>?_⟩
 unfold wEr
 rw [g2,kQ,g1]
 unfold wBf
 by_cases c:(⟨(s:Int),(l:Int)⟩:wAD) ∈ b.Across
 ·rw [if_pos c,decide_eq_true c,Bool.or_true];rfl
 ·rw [if_neg c,decide_eq_false c,Bool.or_false]
  by_cases e:s=l
  ·rw [if_pos (by simp only;omega),decide_eq_true e];rfl
  ·rw [if_neg (by simp only;omega),decide_eq_false e];rfl
theorem wFx {n:Nat} {can:Nat->Nat->Bool} {sh:Nat->Int} (n8:n <= 8) (h:∀ s,s < n->0 <= sh s):Fl n can sh (fun _=>0) (Arr.fill 64 0) (Arr.fill 8 0):=by
 have g:∀ s l,s < n->l < n->(Arr.fill 64 (0:Int)).get (s * 8 + l)=0:=fun s l hs hl=>wGU (by omega)
 have g2:∀ s,s < n->(Arr.fill 8 (0:Int)).get s=0:=fun s hs=>wGU (by omega)
 exact ⟨fun s l hs hl=>by rw [g s l hs hl];exact nv _,fun s l hs hl q=>by rw [g s l hs hl] at q;omega,fun s hs=>by rw [g2 s hs];exact wCz n fun l hl=>g s l hs hl,fun s hs=>by rw [g2 s hs];exact h s hs,fun l hl=>wCz n fun s hs=>g s l hs hl⟩
theorem wDm {n:Nat} {b:wAB} (G:GoodB n b):∃ may m,wBo b=some (some ⟨b,may,Arr.fill 64 0,Arr.fill 8 0,m⟩,0)/\(may.map (·.1)).Nodup/\Desk n (wBf b) (shB b) b may:=by
 obtain ⟨may,m,e,h1,h2⟩:=wFI (by have:=G.nb;omega) G.ns G.al
 refine ⟨may,m,?_,h1,⟨by have:=G.nb;omega,G.ns,G.nd,fun s hs=>⟨rfl,by have:=G.sh s hs;unfold shB;omega⟩,fun s l hs _=>h2 s l hs⟩⟩
 unfold wBo
 rw [wPd G,hH,if_pos rfl,e,hH]
theorem GoodB.solve {n:Nat} {b:wAB} (G:GoodB n b) {may:List (wAD × Bool)} (K:Desk n (wBf b) (shB b) b may) (m:Arr Bool 16):∃ r,wAL ⟨b,may,Arr.fill 64 0,Arr.fill 8 0,m⟩=some r/\Sol n (wBf b) (shB b) (dnB b) r :=
 wEi K (fun l hl=>⟨rfl,by have:=G.dn l hl;omega⟩) m (wFx K.n8 fun s hs=>(G.sh s hs).1)
end Go.Proofs.Ytfcmijinklojbaa
namespace Go.Proofs.Ytfcmijinklojbaa
open Go.KL
theorem wON {x:List Int} (hx:x.length <= 1000):wAP x=some x:=by
 unfold wAP
 rw [wEV (by simp only [nz];omega)]
 rfl
end Go.Proofs.Ytfcmijinklojbaa
namespace Go.KL
def wMF (q:Nat->Bool):Nat->Nat->Bool
 | 0,_=>true
 | m + 1,k=>q k && wMF q m (k + 1)
def fnd {B:Type} (f:Nat->Option B):Nat->Nat->Option B
 | 0,_=>none
 | m + 1,k=>match f k with
  | some c=>some c
  | none=>fnd f m (k + 1)
theorem wDC (q:Nat->Bool):∀ m k,wMF q m k=true ↔ ∀ i,k <= i->i < k + m->q i=true
 | 0,k=>⟨fun _ i h1 h2=>by omega,fun _=>rfl⟩
 | m + 1,k=>by
  rw [wMF,nA,wDC q m (k + 1)]
  constructor
  ·rintro ⟨h1,h2⟩ i h3 h4
   by_cases e:i=k
   ·exact e ▸ h1
   ·exact h2 i (by omega) (by omega)
  ·exact fun h=>⟨h k (by omega) (by omega),fun i h1 h2=>h i (by omega) (by omega)⟩
theorem wJk {B:Type} {f f':Nat->Option B}:∀ m k,(∀ i,k <= i->i < k + m->f i=f' i)->fnd f m k=fnd f' m k
 | 0,_,_=>rfl
 | m + 1,k,h=>by rw [fnd,fnd,h k (by omega) (by omega),wJk m (k + 1) fun i h1 h2=>h i (by omega) (by omega)]
theorem wIY {B:Type} (q:Nat->Bool) (c:B):∀ m k,fnd (fun i=>if q i=true then none else some c) m k=if wMF q m k=true then none else some c
 | 0,_=>rfl
 | m + 1,k=>by
  rw [fnd,wIY q c m (k + 1),wMF]
  cases q k <;> simp
def out {S B:Type} (s:S):Option B->S ⊕ B
 | none=>.inl s
 | some c=>.inr c
theorem wIz {B:Type} {body:Nat->Unit->Option (Unit ⊕ B)} {f:Nat->Option B}:∀ (m k:Nat),(∀ i,k <= i->i < k + m->body i ()=some (out () (f i)))->forN body m k ()=some (out () (fnd f m k))
 | 0,_,_=>rfl
 | m + 1,k,h=>by
  rw [forN,h k (by omega) (by omega),fnd]
  cases f k with
  | none=>exact wIz m (k + 1) fun i h1 h2=>h i (by omega) (by omega)
  | some c=>rfl
theorem wPe {B:Type} {body:Nat->Unit->Option (Unit ⊕ B)} {n:Nat} (f:Nat->Option B) (hn:n <= 1000) (h:∀ i,i < n->body i ()=some (out () (f i))):wFy 0 (n:Int) body ()=some (out () (fnd f n 0)):=by
 rw [wGS (by omega)]
 exact wIz n 0 fun i _ hi=>h i (by omega)
theorem wLW {B:Type} {body:Nat->Unit->Option (Unit ⊕ B)} {n:Nat} (q:Nat->Bool) (c:B) (hn:n <= 1000) (h:∀ i,i < n->body i ()=some (if q i=true then .inl () else .inr c)):wFy 0 (n:Int) body ()=some (if wMF q n 0=true then .inl () else .inr c):=by
 rw [wPe (fun i=>if q i=true then none else some c) hn fun i hi=>by rw [h i hi];split <;> rfl,wIY]
 split <;> rfl
theorem wGW {B:Type} {body:Int->Option (Int ⊕ B)} {f:Nat->Option B} {z:B} {n:Nat} (h:∀ i,i < n->body (i:Int)=some (out ((i:Int) + 1) (f i))) (hz:body (n:Int)=some (.inr z)):∀ (m k F:Nat),k + m=n->m < F->iter body F (k:Int)=some ((fnd f m k).getD z)
 | 0,k,F,hk,hF=>by
  obtain ⟨F,rfl⟩:∃ G,F=G + 1:=⟨F - 1,by omega⟩
  obtain rfl:k=n:=by omega
  rw [iter,hz]
  rfl
 | m + 1,k,F,hk,hF=>by
  obtain ⟨F,rfl⟩:∃ G,F=G + 1:=⟨F - 1,by omega⟩
  rw [iter,h k (by omega),fnd]
  cases f k with
  | none=>exact wGW h hz m (k + 1) F (by omega) (by omega)
  | some c=>rfl
theorem wLX {B:Type} {body:Int->Option (Int ⊕ B)} {n:Nat} (f:Nat->Option B) {z:B} (hn:n <= 1000) (h:∀ i,i < n->body (i:Int)=some (out ((i:Int) + 1) (f i))) (hz:body (n:Int)=some (.inr z)):iter body big 0=some ((fnd f n 0).getD z) :=
 wGW h hz n 0 big (by omega) (by unfold big;omega)
theorem wPf {B:Type} {body:Int->Option (Int ⊕ B)} {n:Nat} (q:Nat->Bool) (c:B) {z:B} (hn:n <= 1000) (h:∀ i,i < n->body (i:Int)=some (if q i=true then .inl ((i:Int) + 1) else .inr c)) (hz:body (n:Int)=some (.inr z)):iter body big 0=some (if wMF q n 0=true then z else c):=by
 rw [wLX (fun i=>if q i=true then none else some c) hn (fun i hi=>by rw [h i hi];split <;> rfl) hz,wIY]
 split <;> rfl
theorem wHG {α:Type} [Inhabited α] (p:α->Bool) (l:List α):l.all p=wMF (fun k=>p (gd l k)) l.length 0:=by
 rw [nh,wDC,nE]
 constructor
 ·exact fun h i _ hi=>h _ (wDi (by omega))
 ·intro h a ha
  obtain ⟨k,hk,e⟩:=kX ha
  have:=h k (by omega) (by omega)
  rw [wGV hk,e] at this
  exact this
end Go.KL
namespace Go.Proofs.Ytfcmijinklojbaa
open Go.KL
structure LanesOK (n:Nat) (L:List Int):Prop where
 rg:∀ l ∈ L,0 <= l/\l < n
 so:L.Pairwise (· < ·)
def inL (L:List Int) (l:Nat):Bool:=decide ((l:Int) ∈ L)
theorem wCx {L:List Int} {l:Nat}:inL L l=true ↔ (l:Int) ∈ L:=by unfold inL;simp
def wEW (n:Nat) (L:List Int):Int:=if L.all (fun l=>decide (0 <= l/\l <= (n:Int) - 1))=true then (if wMF (fun k=>decide (gd L k < gd L (k + 1))) (L.length - 1) 0=true then 0 else 4) else 1
theorem wOO {L:List Int} (h:∀ k,k + 1 < L.length->gd L k < gd L (k + 1)):L.Pairwise (· < ·):=by
 refine nO.2 fun i j hi hj hij=>?_
 rw [<- wGV hi,<- wGV hj]
 clear hi
 induction j with
 | zero=>omega
 | succ j ih =>
  have a:=h j hj
  by_cases e:i=j
  ·rw [e];exact a
  ·have:=ih (by omega) (by omega);omega
theorem LanesOK.of_code {n:Nat} {L:List Int} (h:wEW n L=0):LanesOK n L:=by
 unfold wEW at h
 split at h
 ·rename_i h1
  split at h
  ·rename_i h2
   rw [nE] at h1
   rw [wDC] at h2
   exact ⟨fun l hl=>by have:=of_decide_eq_true (h1 l hl);omega,wOO fun k hk=>of_decide_eq_true (h2 k (kh _) (by omega))⟩
  ·cases h
 ·cases h
theorem LanesOK.code {n:Nat} {L:List Int} (K:LanesOK n L):wEW n L=0:=by
 unfold wEW
 rw [if_pos (nE.2 fun l hl=>decide_eq_true (by have:=K.rg l hl;omega)),if_pos ((wDC _ _ _).2 fun k _ hk=>decide_eq_true (by
  have h1:k < L.length:=by omega
  have h2:k + 1 < L.length:=by omega
  rw [wGV h1,wGV h2]
  exact nO.1 K.so k (k + 1) h1 h2 (by omega)))]
theorem LanesOK.inj {n:Nat} {L:List Int} (K:LanesOK n L) {i j:Nat} (hi:i < L.length) (hj:j < L.length) (h:gd L i=gd L j):i=j:=by
 rw [wGV hi,wGV hj] at h
 rcases Nat.lt_trichotomy i j with c | c | c
 ·have:=nO.1 K.so i j hi hj c;omega
 ·exact c
 ·have:=nO.1 K.so j i hj hi c;omega
theorem LanesOK.filter {n:Nat} {L:List Int} (K:LanesOK n L) (p:Int->Bool):LanesOK n (L.filter p):=⟨fun l hl=>K.rg l (kA.1 hl).1,K.so.filter p⟩
theorem LanesOK.len {n:Nat} {L:List Int} (K:LanesOK n L):L.length <= n:=by
 have key:∀ k,k < L.length->(k:Int) <= gd L k:=by
  intro k
  induction k with
  | zero=>intro h;exact (K.rg _ (wDi h)).1
  | succ k ih =>
   intro h
   have a:=ih (by omega)
   have h1:k < L.length:=by omega
   have:=nO.1 K.so k (k + 1) h1 h (by omega)
   rw [<- wGV h1,<- wGV h] at this
   omega
 by_cases e:L.length=0
 ·omega
 ·have h:L.length - 1 < L.length:=by omega
  have a:=key _ h
  have b:=(K.rg _ (wDi h)).2
  omega
section
variable {n:Nat} {can:Nat->Nat->Bool} {sh:Nat->Int} {b:wAB} {may:List (wAD × Bool)}
theorem wOP (K:Desk n can sh b may) (n1:1 <= n) (h:Arr Int 64) (u:Arr Int 8) (m:Arr Bool 16) {L:List Int} (hl:L.length <= 1000):wCE ⟨b,may,h,u,m⟩ L=some (wEW n L):=by
 have n8:=K.n8
 unfold wCE
 rw [wTJ (f:=fun x=>wBB x ⟨b,may,h,u,m⟩) (p:=fun l=>decide (0 <= l/\l <= (n:Int) - 1)) (fun a=>by
  unfold wBB
  simp only [K.nd]
  rw [wAM (by omega) (by omega),wCM]
  rfl) (by omega),hH]
 unfold wEW
 by_cases c:L.all (fun l=>decide (0 <= l/\l <= (n:Int) - 1))=true
 ·rw [if_pos c,if_pos c]
  unfold wFy
  rw [if_pos (by omega),show ((L.length:Int) - 1).toNat=L.length - 1 by omega]
  rw [wIz (f:=fun k=>if decide (gd L k < gd L (k + 1))=true then none else some (4:Int)) (L.length - 1) 0 fun k _ hk=>?_]
  ·rw [wIY]
   split <;> rfl
  ·rw [show (1:Int) + (k:Int)=((k + 1:Nat):Int) by omega,wAu (by omega),hH,wAM (by omega) (by omega),show (((k + 1:Nat):Int) - 1)=(k:Int) by omega,wAu (by omega),hH]
   by_cases c2:gd L k < gd L (k + 1)
   ·rw [if_neg (by omega),if_pos (decide_eq_true c2)];rfl
   ·rw [if_pos (by omega),if_neg (by simpa using c2)];rfl
 ·rw [if_neg c,if_neg c]
theorem anyB {l:List Int} {f:Int->Option Bool} {p:Int->Bool} (hf:∀ a ∈ l,f a=some (p a)) (hn:l.length <= 9223372036854775807):wAf l f=some (l.any p):=by
 unfold wAf wAg
 have:=wFQ (R:=Int) (l:=l) (f:=f) (p:=p) hf hn id
 simp only [id] at this
 rw [this]
 simp only [hH,wGT]
theorem wKf (K:Desk n can sh b may) (h:Arr Int 64) (u:Arr Int 8) (m:Arr Bool 16) {L:List Int} (hL:LanesOK n L) {s:Nat} (hs:s < n):wBk ⟨b,may,h,u,m⟩ (s:Int) L=some (adj n can (inL L) s):=by
 have n8:=K.n8;have ll:=hL.len
 unfold wBk
 rw [anyB (f:=fun x=>wBW x ⟨b,may,h,u,m⟩ (s:Int)) (p:=fun l=>can s l.toNat) (fun l hl=>by
  have:=hL.rg l hl
  unfold wBW wCW
  rw [hH]
  have e:=K.can s l.toNat hs (by omega)
  rw [kY this.1] at e
  rw [<- e]) (by omega),hH]
 congr 1
 rw [nh,wFu,kE]
 constructor
 ·rintro ⟨l,h1,h2⟩
  have:=hL.rg l h1
  exact ⟨l.toNat,by omega,wCx.2 (by rw [kY this.1];exact h1),h2⟩
 ·rintro ⟨l,h1,h2,h3⟩
  exact ⟨(l:Int),wCx.1 h2,by simpa using h3⟩
def wEu (n:Nat) (can:Nat->Nat->Bool) (sh dn:Nat->Int) (S:Nat->Bool) (but:Int):Int:=dnL n dn S - wAy (fun s=>if (s:Int) ≠ but/\adj n can S s=true then sh s else 0) n
theorem wMG (K:Desk n can sh b may) {dn:Nat->Int} (hd:∀ l,l < n->gd b.Down l=dn l/\0 <= dn l/\dn l <= 1000) (hs:∀ s,s < n->0 <= sh s) (h:Arr Int 64) (u:Arr Int 8) (m:Arr Bool 16) {L:List Int} (hL:LanesOK n L) (but:Int):wBq ⟨b,may,h,u,m⟩ L but=some (wEu n can sh dn (inL L) but):=by
 have n8:=K.n8;have ll:=hL.len
 unfold wBq
 simp only [K.ns]
 have dbd:∀ (S:Nat->Bool) (k:Nat),k <= n->0 <= wAy (fun l=>if S l=true then dn l else 0) k/\wAy (fun l=>if S l=true then dn l else 0) k <= 1000 * (k:Int):=by
  intro S k
  induction k with
  | zero=>intro _;simp only [wAy];omega
  | succ k ih =>
   intro hk
   have a:=ih (by omega);have c:=hd k (by omega)
   rw [wAy]
   split <;> omega
 rw [wDS (S:=Int) (n:=L.length) (fun k=>dnL n dn (inL (L.take k))) (s0:=0) (by
  unfold dnL
  exact wCz n fun l _=>if_neg (by simp [inL])) (by omega) fun k hk=>?_,kQ,hH]
 ·rw [wDS (S:=Int) (n:=n) (fun k=>dnL n dn (inL L) - wAy (fun s=>if (s:Int) ≠ but/\adj n can (inL L) s=true then sh s else 0) k) (s0:=dnL n dn (inL L)) (by simp only [wAy];omega) (by omega) fun s hs'=>?_]
  ·rfl
  ·have sb:∀ k,k <= n->0 <= wAy (fun s=>if (s:Int) ≠ but/\adj n can (inL L) s=true then sh s else 0) k/\wAy (fun s=>if (s:Int) ≠ but/\adj n can (inL L) s=true then sh s else 0) k <= 1000 * (k:Int):=by
    intro k
    induction k with
    | zero=>intro _;simp only [wAy];omega
    | succ k ih =>
     intro hk
     have a:=ih (by omega);have c:=(K.sh k (by omega)).2;have d:=hs k (by omega)
     rw [wAy]
     split <;> omega
   have k1:=K.sh s hs';have k2:=hs s hs'
   have s1:=sb s (by omega)
   have d1:=dbd (inL L) n (nH _)
   unfold dnL
   rw [wAu (by rw [K.ns];exact hs'),hH,wAy]
   by_cases c:(s:Int)=but
   ·rw [if_pos c,if_neg (fun q=>q.1 c),kO]
   ·rw [if_neg c,wKf K h u m hL hs',hH]
    by_cases c2:adj n can (inL L) s=true
    ·rw [if_pos c2,if_pos ⟨c,c2⟩,wAM (by omega) (by omega),k1.1]
     congr 1
     omega
    ·rw [if_neg c2,if_neg (fun q=>c2 q.2),kO]
 ·have r:=hL.rg _ (wDi hk)
  obtain ⟨l,hl⟩:∃ l:Nat,gd L k=l:=⟨(gd L k).toNat,by omega⟩
  have ln:l < n:=by omega
  rw [wAu hk,hH,hl,wAu (by rw [K.nd];exact ln),hH,(hd l ln).1]
  have e:dnL n dn (inL (L.take (k + 1)))=dnL n dn (inL (L.take k)) + dn l:=by
   unfold dnL
   rw [wDT (f:=fun i=>if inL (L.take k) i=true then dn i else 0) (g:=fun i=>if inL (L.take (k + 1)) i=true then dn i else 0) ln fun i hi hne=>?_]
   ·have h1:inL (L.take (k + 1)) l=true:=wCx.2 (by rw [wDj hk,nL,ng];exact .inr hl.symm)
    have h2:¬ inL (L.take k) l=true:=fun q=>by
     obtain ⟨j,hj,e⟩:=memB (wCx.1 q)
     rw [List.length_take] at hj
     have e2:gd (L.take k) j=gd L j:=by
      unfold gd
      rw [nM,nM,List.getElem?_take_of_lt (by omega)]
     have:=hL.inj (i:=j) (j:=k) (by omega) hk (by rw [<- e2,e,hl])
     omega
    rw [if_pos h1,if_neg h2,Int.sub_zero]
   ·have:inL (L.take (k + 1)) i=inL (L.take k) i:=by
     rw [nh,wCx,wCx,wDj hk,nL,ng,hl]
     constructor
     ·rintro (q | q)
      ·exact q
      ·omega
     ·exact .inl
    simp only [this]
  rw [e]
  have d1:=dbd (inL (L.take k)) n (nH _)
  have d2:=hd l ln
  unfold dnL
  rw [wAM (by omega) (by omega)]
theorem wPg (m:Arr Bool 16) (n:Nat):LanesOK n (wFv m n):=by
 unfold wFv
 refine ⟨fun l hl=>?_,?_⟩
 ·obtain ⟨k,hk,rfl⟩:=kP.1 hl
  have:=nq.1 (kA.1 hk).1
  omega
 ·rw [List.pairwise_map]
  exact (List.pairwise_lt_range.filter _).imp fun h=>by omega
theorem wLY {m:Arr Bool 16} {n l:Nat} (hl:l < n):inL (wFv m n) l=m.get (8 + l):=by
 rw [nh,wCx]
 unfold wFv
 constructor
 ·intro h
  obtain ⟨k,hk,e⟩:=kP.1 h
  have:k=l:=by omega
  subst this
  exact (kA.1 hk).2
 ·intro h
  exact kP.2 ⟨l,kA.2 ⟨nq.2 hl,h⟩,rfl⟩
theorem wHs {dn:Nat->Int} {S T:Nat->Bool} (h:∀ l,l < n->S l=T l):dnL n dn S=dnL n dn T:=wAn n fun l hl=>by rw [h l hl]
theorem wJl {S T:Nat->Bool} (h:∀ l,l < n->S l=T l) (s:Nat):adj n can S s=adj n can T s:=by
 rw [nh,wFu,wFu]
 constructor
 ·rintro ⟨l,h1,h2,h3⟩;exact ⟨l,h1,by rw [<- h l h1];exact h2,h3⟩
 ·rintro ⟨l,h1,h2,h3⟩;exact ⟨l,h1,by rw [h l h1];exact h2,h3⟩
theorem wJm {S T:Nat->Bool} (h:∀ l,l < n->S l=T l):shL n can sh S=shL n can sh T:=wAn n fun s _=>by rw [wJl h]
theorem Sol.lanes {dn:Nat->Int} {r:List Int × HUM} (S:Sol n can sh dn r) (h:¬ Can n can sh dn):LanesOK n r.1/\shL n can sh (inL r.1) < dnL n dn (inL r.1):=by
 rcases S with ⟨e,F⟩ | ⟨e,e2,lt⟩
 ·exact absurd ⟨_,F.asg⟩ h
 ·rw [e2]
  refine ⟨wPg _ _,?_⟩
  rw [wJm (T:=fun l=>r.2.2.2.get (8 + l)) fun l hl=>wLY hl,wHs (T:=fun l=>r.2.2.2.get (8 + l)) fun l hl=>wLY hl]
  exact lt
theorem wLZ {dn:Nat->Int} (S:Nat->Bool):wEu n can sh dn S (-1)=dnL n dn S - shL n can sh S:=by
 unfold wEu shL
 congr 1
 exact wAn n fun s _=>by
  by_cases c:adj n can S s=true
  ·rw [if_pos c,if_pos ⟨by omega,c⟩]
  ·rw [if_neg c,if_neg fun q=>c q.2]
end
end Go.Proofs.Ytfcmijinklojbaa
namespace Go.Proofs.Ytfcmijinklojbaa
open Go.KL
theorem wGi {B:Type} {body:Int->Option (Int ⊕ B)} {f:Nat->Option B} {z:B} {n k0:Nat} (h:∀ i,k0 <= i->i < n->body (i:Int)=some (out ((i:Int) + 1) (f i))) (hz:body (n:Int)=some (.inr z)):∀ (m k F:Nat),k0 <= k->k + m=n->m < F->iter body F (k:Int)=some ((fnd f m k).getD z)
 | 0,k,F,_,hk,hF=>by
  obtain ⟨F,rfl⟩:∃ G,F=G + 1:=⟨F - 1,by omega⟩
  obtain rfl:k=n:=by omega
  rw [iter,hz]
  rfl
 | m + 1,k,F,h0,hk,hF=>by
  obtain ⟨F,rfl⟩:∃ G,F=G + 1:=⟨F - 1,by omega⟩
  rw [iter,h k h0 (by omega),fnd]
  cases f k with
  | none=>exact wGi h hz m (k + 1) F (by omega) (by omega) (by omega)
  | some c=>rfl
def wIG (n:Nat) (p:wAD):Bool:=decide (0 <= p.Skier/\p.Skier <= (n:Int) - 1) && (decide (0 <= p.Lane/\p.Lane <= (n:Int) - 1) && decide (¬ p.Skier=p.Lane))
theorem wHt {n:Nat} {p:wAD}:wIG n p=true ↔ wQP n p:=by
 unfold wIG
 rw [nA,nA,decide_eq_true_iff,decide_eq_true_iff,decide_eq_true_iff]
 exact ⟨fun ⟨h1,h2,h3⟩=>⟨by omega,by omega,h3⟩,fun ⟨h1,h2,h3⟩=>⟨by omega,by omega,h3⟩⟩
def wQQ (p q:wAD):Bool:=decide (p.Skier < q.Skier \/ (p.Skier=q.Skier/\p.Lane < q.Lane))
theorem wRf (p q:wAD):wCR p q=some (wQQ p q):=by
 unfold wCR wQQ
 by_cases h:p.Skier < q.Skier
 ·rw [if_pos h,decide_eq_true (.inl h)]
 ·rw [if_neg h]
  by_cases h2:p.Skier=q.Skier
  ·rw [if_pos h2]
   congr 1
   exact decide_eq_decide.2 ⟨fun g=>.inr ⟨h2,g⟩,fun g=>g.elim (fun c=>absurd c h) fun c=>c.2⟩
  ·rw [if_neg h2,decide_eq_false]
   exact fun g=>g.elim h fun c=>h2 c.1
def rgB (b:wAB):Bool:=b.Shots.all (fun x=>decide (0 <= x/\x <= 8)) && b.Down.all (fun x=>decide (0 <= x/\x <= 5))
def wQR (A:List wAD):Bool:=wMF (fun k=>wQQ (gd A (k - 1)) (gd A k)) (A.length - 1) 1
def wGX (b:wAB):Int :=
 if 1 <= b.Shots.length/\b.Shots.length <= 8/\b.Down.length=b.Shots.length then
  (if rgB b=true then (if b.Across.all (wIG b.Shots.length)=true then (if wQR b.Across=true then 0 else 4) else 1) else 3)
 else 2
theorem wRg (b:wAB):wGX b=0 \/ wGX b=1 \/ wGX b=2 \/ wGX b=3 \/ wGX b=4:=by
 unfold wGX
 split
 ·split
  ·split
   ·split
    ·exact .inl rfl
    ·exact .inr (.inr (.inr (.inr rfl)))
   ·exact .inr (.inl rfl)
  ·exact .inr (.inr (.inr (.inl rfl)))
 ·exact .inr (.inr (.inl rfl))
theorem wJn {b:wAB} (h:wGX b=0) (al:b.Across.length <= 1000):GoodB b.Shots.length b:=by
 unfold wGX at h
 split at h
 ·rename_i h1
  split at h
  ·rename_i h2
   split at h
   ·rename_i h3
    split at h
    ·rename_i h4
     unfold rgB at h2
     rw [nA,nE,nE] at h2
     rw [nE] at h3
     unfold wQR at h4
     rw [wDC] at h4
     refine ⟨⟨h1.1,h1.2.1⟩,rfl,h1.2.2,fun s hs=>of_decide_eq_true (h2.1 _ (wDi hs)),fun l hl=>of_decide_eq_true (h2.2 _ (wDi (by omega))),fun p hp=>wHt.1 (h3 p hp),?_,al⟩
     refine nO.2 fun i j hi hj hij=>?_
     rw [<- wGV hi,<- wGV hj]
     clear hi
     induction j with
     | zero=>omega
     | succ j ih =>
      have a:=h4 (j + 1) (by omega) (by omega)
      unfold wQQ at a
      have a:=of_decide_eq_true a
      rw [Nat.add_sub_cancel] at a
      by_cases e:i=j
      ·rw [e];exact a
      ·have c:=ih (by omega) (by omega)
       unfold Lt at c ⊢
       omega
    ·cases h
   ·cases h
  ·cases h
 ·cases h
theorem wMH {b:wAB} (sl:b.Shots.length <= 1000) (dl:b.Down.length <= 1000) (al:b.Across.length <= 1000):wCT b=some (wGX b):=by
  unfold wCT wGX
  rw [wCM,hH]
  by_cases h1:1 <= b.Shots.length/\b.Shots.length <= 8/\b.Down.length=b.Shots.length
  case neg =>
    rw [if_neg h1]
    by_cases h2:1 <= (b.Shots.length:Int)/\(b.Shots.length:Int) <= 8
    · rw [if_pos (decide_eq_true h2),if_neg (by omega)]
    · rw [if_neg (by simpa using h2)]
  rw [if_pos h1,if_pos (decide_eq_true (by omega)),if_pos (by omega),wTJ (f:=wBc) (p:=fun x=>decide (0 <= x/\x <= 8)) (fun a=>by unfold wBc;rw [wCM];rfl) (by omega),hH,wTJ (f:=wBd) (p:=fun x=>decide (0 <= x/\x <= 5)) (fun a=>by unfold wBd;rw [wCM];rfl) (by omega)]
  unfold rgB
  by_cases h2:b.Shots.all (fun x=>decide (0 <= x/\x <= 8))=true
  case neg =>
    rw [if_neg h2,if_neg fun q=>h2 (nA _ _ ▸ q).1]
  rw [if_pos h2,h2,nU,hH]
  by_cases h3:b.Down.all (fun x=>decide (0 <= x/\x <= 5))=true
  case neg=>rw [if_neg h3,if_neg h3]
  rw [if_pos h3,if_pos h3,allP (f:=fun x=>wBe x (↑b.Shots.length:Int)) (p:=wIG b.Shots.length) (fun p=>by
      unfold wBe wIG
      rw [wAM (by omega) (by omega),wCM,hH]
      by_cases h1:0 <= p.Skier/\p.Skier <= (b.Shots.length:Int) - 1
      · rw [if_pos (decide_eq_true h1),wCM,hH,decide_eq_true h1,nU]
        by_cases h2:0 <= p.Lane/\p.Lane <= (b.Shots.length:Int) - 1
        · rw [if_pos (decide_eq_true h2),decide_eq_true h2,nU]
        · rw [if_neg (by simpa using h2),decide_eq_false h2,nV]
      · rw [if_neg (by simpa using h1),decide_eq_false h1,nV]) (by omega),hH]
  by_cases h4:b.Across.all (wIG b.Shots.length)=true
  case neg=>rw [if_neg h4,if_neg h4]
  rw [if_pos h4,if_pos h4]
  by_cases e:b.Across.length=0
  · have:wQR b.Across=true:=by unfold wQR;rw [wDC];intro i _ _;omega
    rw [if_pos this]
    refine wEj (S:=Int) (m:=0) (fun i=>(i:Int) + 1) (fun i hi=>by omega) ?_ rfl (by omega)
    rw [if_neg (by omega)]
    rfl
  have:=wGi (B:=Int) (body:=fun x80 =>
              if x80 < (↑b.Across.length:Int) then
                (idx b.Across (w64 (x80 - 1))).bind fun x97 =>
                (idx b.Across x80).bind fun x106 =>
                (wCR x97 x106).bind fun x113 =>
                if x113=true then
                  some (.inl (w64 (x80 + 1)))
                else
                  esc (some 4)
              else
                esc (some 0)) (f:=fun k=>if wQQ (gd b.Across (k - 1)) (gd b.Across k)=true then none else some 4) (z:=0) (n:=b.Across.length) (k0:=1) (fun i h0 hi=>by
    rw [if_pos (by omega),wAM (by omega) (by omega),show ((i:Int) - 1)=((i - 1:Nat):Int) by omega,wAu (by omega),hH,wAu hi,hH,wRf,hH]
    by_cases c:wQQ (gd b.Across (i - 1)) (gd b.Across i)=true
    · rw [if_pos c,if_pos c,wAM (by omega) (by omega)];rfl
    · rw [if_neg c,if_neg c];rfl) (by rw [if_neg (by omega)];rfl) (b.Across.length - 1) 1 big (nH _) (by omega) (by unfold big;omega)
  rw [wIY] at this
  refine this.trans ?_
  unfold wQR
  split <;> rfl
def rpB (p:wAD):wAl:=⟨p.Skier,p.Lane⟩
def wCv (b:wAB):wAC:=⟨b.Shots,b.Down,b.Across.map rpB⟩
theorem wRh {b:wAB} (al:b.Across.length <= 1000):wCK b=some (wCv b):=by
 unfold wCK
 rw [wDS (S:=List wAl) (n:=b.Across.length) (fun k=>(b.Across.take k).map rpB) (s0:=[]) rfl (by omega) fun k hk=>?_]
 ·rw [hH,kQ]
  rfl
 ·rw [wAu hk,hH,wEV (by rw [kJ,List.length_take,List.length_singleton];omega),hH,wDj hk,List.map_append]
  rfl
theorem wCr (x a c:Int):wAQ x a c=some (!decide (a <= x/\x <= c)):=by
 unfold wAQ
 by_cases h:x < a
 ·rw [if_pos h,decide_eq_false (by omega)];rfl
 ·rw [if_neg h,<- decide_not]
  congr 1
  exact decide_eq_decide.2 (by omega)
theorem wPh {A:List wAD} {k:Nat} (h:k < A.length):gd (A.map rpB) k=rpB (gd A k):=wRb rpB h
theorem wDA {b:wAB} (sl:b.Shots.length <= 1000) (al:b.Across.length <= 1000):wBV (wCv b)=some (wGX b):=by
  unfold wBV wGX wCv
  simp only
  by_cases h1:1 <= b.Shots.length/\b.Shots.length <= 8/\b.Down.length=b.Shots.length
  case neg =>
    rw [if_neg h1]
    by_cases c1:(b.Shots.length:Int) < 1
    · rw [if_pos c1]
    · rw [if_neg c1]
      by_cases c2:8 < (b.Shots.length:Int)
      · rw [if_pos c2]
      · rw [if_neg c2,if_neg (by omega)]
  rw [if_pos h1,if_neg (by omega),if_neg (by omega),if_pos (by omega)]
  rw [wLW (n:=b.Shots.length) (fun k=>decide (0 <= gd b.Shots k/\gd b.Shots k <= 8) && decide (0 <= gd b.Down k/\gd b.Down k <= 5)) (3:Int) (by omega) fun k hk=>?_]
  · have e:rgB b=wMF (fun k=>decide (0 <= gd b.Shots k/\gd b.Shots k <= 8) && decide (0 <= gd b.Down k/\gd b.Down k <= 5)) b.Shots.length 0:=by
      unfold rgB
      rw [wHG,wHG,h1.2.2,nh,nA,wDC,wDC,wDC]
      constructor
      · rintro ⟨g1,g2⟩ i h2 h3
        rw [nA]
        exact ⟨g1 i h2 h3,g2 i h2 h3⟩
      · intro g
        exact ⟨fun i h2 h3=>(nA _ _ ▸ g i h2 h3).1,fun i h2 h3=>(nA _ _ ▸ g i h2 h3).2⟩
    rw [e]
    by_cases c:wMF (fun k=>decide (0 <= gd b.Shots k/\gd b.Shots k <= 8) && decide (0 <= gd b.Down k/\gd b.Down k <= 5)) b.Shots.length 0=true
    case neg=>rw [if_neg c,if_neg c];rfl
    rw [if_pos c,if_pos c]
    simp only [wHM]
    have ml:(b.Across.map rpB).length=b.Across.length:=kJ _
    have inner:=wGi (B:=Int) (body:=fun x174 =>
              if x174 < (↑(b.Across.map rpB).length:Int) then
                (idx (b.Across.map rpB) x174).bind fun x191 =>
                (idx (b.Across.map rpB) (w64 (x174 - 1))).bind fun x205 =>
                if (w64 ((w64 (100 * x191.Skier)) + x191.Lane)) <= (w64 ((w64 (100 * x205.Skier)) + x205.Lane)) then
                  esc (some 4)
                else
                  some (.inl (w64 (x174 + 1)))
              else
                esc (some 0)) (f:=fun k=>if w64 (w64 (100 * (gd b.Across k).Skier) + (gd b.Across k).Lane) <= w64 (w64 (100 * (gd b.Across (k - 1)).Skier) + (gd b.Across (k - 1)).Lane) then some 4 else none) (z:=0) (n:=b.Across.length) (k0:=1) (fun i h0 hi=>by
      rw [if_pos (by omega),wAu (by omega),hH,wAM (by omega) (by omega),show ((i:Int) - 1)=((i - 1:Nat):Int) by omega,wAu (by omega),hH,wPh hi,wPh (by omega)]
      unfold rpB
      simp only
      by_cases c:w64 (w64 (100 * (gd b.Across i).Skier) + (gd b.Across i).Lane) <= w64 (w64 (100 * (gd b.Across (i - 1)).Skier) + (gd b.Across (i - 1)).Lane)
      · rw [if_pos c,if_pos c];rfl
      · rw [if_neg c,if_neg c,wAM (by omega) (by omega)];rfl) (by rw [if_neg (by omega)];rfl)
    have inn:∃ v:Int,iter (fun x174 =>
              if x174 < (↑(b.Across.map rpB).length:Int) then
                (idx (b.Across.map rpB) x174).bind fun x191 =>
                (idx (b.Across.map rpB) (w64 (x174 - 1))).bind fun x205 =>
                if (w64 ((w64 (100 * x191.Skier)) + x191.Lane)) <= (w64 ((w64 (100 * x205.Skier)) + x205.Lane)) then
                  esc (some 4)
                else
                  some (.inl (w64 (x174 + 1)))
              else
                esc (some 0)) big 1=some v/\(b.Across.all (wIG b.Shots.length)=true->v=if wQR b.Across=true then 0 else 4):=by
      by_cases e:b.Across.length=0
      · refine ⟨0,?_,fun _=>?_⟩
        · refine wEj (S:=Int) (m:=0) (fun i=>(i:Int) + 1) (fun i hi=>by omega) ?_ rfl (by omega)
          rw [if_neg (by omega)]
          rfl
        · rw [if_pos]
          unfold wQR;rw [wDC];intro i _ _;omega
      · refine ⟨_,inner (b.Across.length - 1) 1 big (nH _) (by omega) (by unfold big;omega),fun ok=>?_⟩
        rw [nE] at ok
        rw [wJk (f':=fun k=>if wQQ (gd b.Across (k - 1)) (gd b.Across k)=true then none else some 4) _ _ fun k h0 hk=>?_,wIY]
        · unfold wQR
          split <;> rfl
        · have P:=wHt.1 (ok _ (wDi (show k < b.Across.length by omega)))
          have Q:=wHt.1 (ok _ (wDi (show k - 1 < b.Across.length by omega)))
          have p1:=P.s;have p2:=P.l;have q1:=Q.s;have q2:=Q.l
          rw [wAM (x:=100 * (gd b.Across k).Skier) (by omega) (by omega),wAM (x:=100 * (gd b.Across (k - 1)).Skier) (by omega) (by omega),wAM (x:=100 * (gd b.Across k).Skier + _) (by omega) (by omega),wAM (by omega) (by omega)]
          unfold wQQ
          by_cases c:(gd b.Across (k - 1)).Skier < (gd b.Across k).Skier \/ ((gd b.Across (k - 1)).Skier=(gd b.Across k).Skier/\(gd b.Across (k - 1)).Lane < (gd b.Across k).Lane)
          · rw [if_neg (by omega),if_pos (decide_eq_true c)]
          · rw [if_pos (by omega),if_neg (by simpa using c)]
    obtain ⟨v,ev,hv⟩:=inn
    rw [wPf (n:=b.Across.length) (fun k=>wIG b.Shots.length (gd b.Across k)) (1:Int) (z:=v) (by omega) (fun k hk=>?g1) ?g2]
    · rw [<- wHG]
      by_cases h4:b.Across.all (wIG b.Shots.length)=true
      · rw [if_pos h4,if_pos h4,hv h4]
      · rw [if_neg h4,if_neg h4]
    case g1 =>
      rw [if_pos (by omega),wAu (by omega),hH,wPh hk,wCr,hH,wAM (by omega) (by omega)]
      unfold wIG rpB
      simp only
      by_cases c1:0 <= (gd b.Across k).Skier/\(gd b.Across k).Skier <= (b.Shots.length:Int) - 1
      · rw [decide_eq_true c1,nU,if_neg (by decide),wCr,hH]
        by_cases c2:0 <= (gd b.Across k).Lane/\(gd b.Across k).Lane <= (b.Shots.length:Int) - 1
        · rw [decide_eq_true c2,nU,if_neg (by decide)]
          by_cases c3:(gd b.Across k).Skier=(gd b.Across k).Lane
          · rw [if_pos c3,decide_eq_false (fun q=>q c3),if_neg (by decide)];rfl
          · rw [if_neg c3,decide_eq_true c3,if_pos rfl,wAM (by omega) (by omega)]
        · rw [decide_eq_false c2,nV,if_pos (by decide),if_neg (by decide)];rfl
      · rw [decide_eq_false c1,nV,if_pos (by decide),if_neg (by decide)];rfl
    case g2 =>
      rw [if_neg (by omega),ev]
      rfl
  · rw [wAu (by omega),hH,wCr,hH]
    by_cases c1:0 <= gd b.Shots k/\gd b.Shots k <= 8
    · rw [decide_eq_true c1,nU,if_neg (by decide),wAu (by omega),hH,wCr,hH]
      by_cases c2:0 <= gd b.Down k/\gd b.Down k <= 5
      · rw [decide_eq_true c2,if_neg (by decide),if_pos rfl]
      · rw [decide_eq_false c2,if_pos (by decide),if_neg (by decide)];rfl
    · rw [decide_eq_false c1,nV,if_pos (by decide),if_neg (by decide)];rfl
end Go.Proofs.Ytfcmijinklojbaa
namespace Go.Proofs.Ytfcmijinklojbaa
open Go.KL
theorem wHu {b:wAB} (al:b.Across.length <= 1000) (s l:Nat):wAS (wCv b) (s:Int) (l:Int)=some (wBf b s l):=by
 unfold wAS wCv
 simp only
 have ml:(b.Across.map rpB).length=b.Across.length:=kJ _
 rw [wLX (n:=b.Across.length) (fun k=>if gd b.Across k=(⟨(s:Int),(l:Int)⟩:wAD) then some true else none) (z:=decide ((s:Int)=(l:Int))) (by omega) (fun k hk=>?g1) ?g2]
 case g1 =>
  rw [if_pos (by omega),wAu (by omega),hH,wPh hk]
  by_cases c:gd b.Across k=(⟨(s:Int),(l:Int)⟩:wAD)
  ·rw [if_pos c,c]
   unfold rpB
   rw [if_pos rfl];rfl
  ·rw [if_neg c,if_neg,wAM (by omega) (by omega)]
   ·rfl
   ·intro q
    refine c ?_
    cases h:gd b.Across k with
    | mk x y =>
     rw [h] at q
     unfold rpB at q
     injection q with q1 q2
     simp only at q1 q2
     rw [q1,q2]
 case g2=>rw [if_neg (by omega)];rfl
 congr 1
 have key:∀ m k,k + m=b.Across.length->(fnd (fun k=>if gd b.Across k=(⟨(s:Int),(l:Int)⟩:wAD) then some true else none) m k).getD (decide ((s:Int)=(l:Int)))=(decide (s=l) || decide ((⟨(s:Int),(l:Int)⟩:wAD) ∈ b.Across.drop k)):=by
  intro m
  induction m with
  | zero =>
   intro k hk
   rw [nl (by omega),fnd]
   simp only [Option.getD_none,List.not_mem_nil,decide_false,Bool.or_false]
   exact decide_eq_decide.2 (by omega)
  | succ m ih =>
   intro k hk
   have hlt:k < b.Across.length:=by omega
   rw [fnd,wRa hlt]
   by_cases c:gd b.Across k=(⟨(s:Int),(l:Int)⟩:wAD)
   ·rw [if_pos c]
    simp [c]
   ·rw [if_neg c]
    simp only
    rw [ih (k + 1) (by omega)]
    congr 1
    refine decide_eq_decide.2 ⟨fun h=>.tail _ h,fun h=>?_⟩
    rcases nI.1 h with q | q
    ·exact absurd q.symm c
    ·exact q
 rw [key b.Across.length 0 (by omega),List.drop_zero]
 rfl
def hlf (x k:Nat):Nat:=x / 2 ^ k
theorem hlf_s (x k:Nat):hlf x (k + 1)=hlf x k / 2:=by
 unfold hlf
 rw [kf,<- Nat.div_div_eq_div_mul]
theorem wTK (x k:Nat):hlf x k <= x:=Nat.div_le_self _ _
theorem wKg {x l:Nat} (hx:x <= 100000) (hl:l <= 1000):wAW (x:Int) (l:Int)=some (x.testBit l):=by
 unfold wAW
 rw [wDS (S:=Int) (n:=l) (fun k=>(hlf x k:Int)) (s0:=(x:Int)) (by simp [hlf]) (by omega) fun k hk=>?_]
 ·rw [hH]
  unfold rem
  rw [if_neg (by omega),hH,Int.tmod_eq_emod_of_nonneg (by omega),Nat.testBit_eq_decide_div_mod_eq]
  congr 1
  have:x / 2 ^ l=hlf x l:=rfl
  rw [this]
  exact decide_eq_decide.2 (by omega)
 ·have h:=wTK x k
  unfold quo
  rw [if_neg (by omega),hH,Int.tdiv_eq_ediv_of_nonneg (by omega),hlf_s,wAM (by omega) (by omega)]
  congr 1
def wGx (b:wAB) (p q:Int) (s l:Nat):Bool:=wBf b s l && !(decide ((s:Int)=p) && decide ((l:Int)=q))
theorem wLa {f g:Nat->Int}:∀ n,wAy (fun i=>f i - g i) n=wAy f n - wAy g n
 | 0=>rfl
 | n + 1=>by rw [wAy,wAy,wAy,wLa n];omega
def wPi (f:Nat->Bool):Nat->Bool
 | 0=>false
 | k + 1=>wPi f k || f k
theorem wLb (f:Nat->Bool):∀ n,wPi f n=true ↔ ∃ l,l < n/\f l=true
 | 0=>by simp [wPi]
 | n + 1=>by
  rw [wPi,nY,wLb f n]
  constructor
  ·rintro (⟨l,h1,h2⟩ | h)
   ·exact ⟨l,by omega,h2⟩
   ·exact ⟨n,by omega,h⟩
  ·rintro ⟨l,h1,h2⟩
   by_cases e:l=n
   ·rw [e] at h2;exact .inr h2
   ·exact .inl ⟨l,by omega,h2⟩
structure wSJ (n:Nat) (b:wAB):Prop where
 n8:n <= 8
 ns:b.Shots.length=n
 nd:b.Down.length=n
 sh:∀ s,s < n->-1000 <= gd b.Shots s/\gd b.Shots s <= 1000
 dn:∀ l,l < n->-1000 <= gd b.Down l/\gd b.Down l <= 1000
 al:b.Across.length <= 1000
theorem wRi {f:Nat->Int} {M:Int} (hM:0 <= M):∀ {n:Nat},n <= 8->(∀ i,i < n->-M <= f i/\f i <= M)->-(8 * M) <= wAy f n/\wAy f n <= 8 * M:=by
 have key:∀ (n:Nat),(∀ i,i < n->-M <= f i/\f i <= M)->-((n:Int) * M) <= wAy f n/\wAy f n <= (n:Int) * M:=by
  intro n
  induction n with
  | zero=>intro _;simp [wAy]
  | succ n ih =>
   intro h
   have a:=ih fun i hi=>h i (by omega)
   have c:=h n (by omega)
   rw [wAy,show ((n + 1:Nat):Int) * M=(n:Int) * M + M by rw [Int.natCast_add,Int.add_mul];simp]
   omega
 intro n n8 h
 have a:=key n h
 have:(n:Int) * M <= 8 * M:=Int.mul_le_mul_of_nonneg_right (by omega) hM
 omega
theorem wJA {n:Nat} {b:wAB} (N:wSJ n b) {x:Nat} (hx:x <= 100000) (but p q:Int):wAt (wCv b) (x:Int) but p q=some (wEu n (wGx b p q) (shB b) (dnB b) (fun l=>x.testBit l) but):=by
  have n8:=N.n8;have al:=N.al
  have inn:∀ (s:Nat) {B:Type} (K:Bool->Option B) (r:B),s < n->K (adj n (wGx b p q) (fun l=>x.testBit l) s)=some r->iter (fun (b63,x64) =>
          if x64 < (↑(wCv b).Down.length:Int) then
            (if b63=true then
              some true
            else
              (wAW (x:Int) x64).bind fun x94 =>
              if x94=true then
                (wAS (wCv b) (s:Int) x64).bind fun x116 =>
                if x116=true then
                  if (s:Int)=p then
                    some (decide (¬ (x64=q)))
                  else
                    some true
                else
                  some false
              else
                some false).bind fun b86 =>
            some (.inl (b86,w64 (x64 + 1)))
          else
            esc (K b63)) big (false,(0:Int))=some r:=by
    intro s B K r hs hK
    have dl:(wCv b).Down.length=n:=N.nd
    refine wEj (m:=n) (fun k=>(wPi (fun l=>x.testBit l && wGx b p q s l) k,(k:Int))) (fun k hk=>?_) ?_ rfl (by omega)
    · simp only
      rw [if_pos (by omega),wAM (by omega) (by omega),wPi]
      by_cases c:wPi (fun l=>x.testBit l && wGx b p q s l) k=true
      · rw [if_pos c,hH,c,Bool.true_or]
        rfl
      · rw [if_neg c,wKg hx (by omega),hH]
        have c':wPi (fun l=>x.testBit l && wGx b p q s l) k=false:=by simpa using c
        rw [c',Bool.false_or]
        by_cases c1:x.testBit k=true
        · rw [if_pos c1,wHu al,hH,c1,nU]
          unfold wGx
          by_cases c2:wBf b s k=true
          · rw [if_pos c2,c2,nU]
            by_cases c3:(s:Int)=p
            · rw [if_pos c3,decide_eq_true c3,nU,hH,decide_not]
              rfl
            · rw [if_neg c3,decide_eq_false c3,nV,hH]
              rfl
          · rw [if_neg c2,hH]
            have:wBf b s k=false:=by simpa using c2
            rw [this,nV]
            rfl
        · rw [if_neg c1,hH]
          have:x.testBit k=false:=by simpa using c1
          rw [this,nV]
          rfl
    · simp only
      rw [if_neg (by omega)]
      have e:wPi (fun l=>x.testBit l && wGx b p q s l) n=adj n (wGx b p q) (fun l=>x.testBit l) s:=by
        rw [nh,wLb,wFu]
        simp only [nA]
      rw [e,hK]
      rfl
  generalize hD:(fun s:Nat=>(if x.testBit s=true then dnB b s else 0) - (if (s:Int) ≠ but/\adj n (wGx b p q) (fun l=>x.testBit l) s=true then shB b s else 0))=D
  have Dv:∀ s,(if x.testBit s=true then dnB b s else 0) - (if (s:Int) ≠ but/\adj n (wGx b p q) (fun l=>x.testBit l) s=true then shB b s else 0)=D s:=fun s=>by rw [<- hD]
  have Db:∀ s,s < n->-2000 <= D s/\D s <= 2000:=fun s hs=>by
    have a:=N.sh s hs;have c:=N.dn s hs
    have:=Dv s
    unfold shB dnB at this
    split at this <;> split at this <;> omega
  have tot:wEu n (wGx b p q) (shB b) (dnB b) (fun l=>x.testBit l) but=wAy D n:=by
    rw [<- hD,wLa]
    rfl
  unfold wAt
  rw [tot]
  refine wEj (m:=n) (fun k=>(wAy D k,(k:Int))) (fun s hs=>?_) ?_ rfl (by omega)
  · have hsl:(wCv b).Shots.length=n:=N.ns
    have bd:=wRi (f:=D) (M:=2000) (by omega) (n:=s) (by omega) fun i hi=>Db i (by omega)
    have d0:=Db s hs
    have a:=N.sh s hs;have c:=N.dn s hs
    simp only
    rw [if_pos (by omega),wKg hx (by omega),hH,wAy,wAM (x:=(s:Int) + 1) (by omega) (by omega)]
    have dv:=Dv s
    unfold shB dnB at dv
    have iS:idx (wCv b).Shots (s:Int)=some (gd b.Shots s):=wAu (l:=b.Shots) (by rw [N.ns];exact hs)
    have iD:idx (wCv b).Down (s:Int)=some (gd b.Down s):=wAu (l:=b.Down) (by rw [N.nd];exact hs)
    by_cases c1:x.testBit s=true
    · rw [if_pos c1,iD,hH]
      rw [if_pos c1] at dv
      have:=inn s (fun b63=>if b63=true then
              if (s:Int)=but then
                some (w64 (wAy D s + gd b.Down s))
              else
                (idx (wCv b).Shots (s:Int)).bind fun x163 =>
                some (w64 ((w64 (wAy D s + gd b.Down s)) - x163))
            else
              some (w64 (wAy D s + gd b.Down s))) (wAy D s + D s) hs (by
        rw [iS,hH,wAM (x:=wAy D s + gd b.Down s) (by omega) (by omega)]
        by_cases c2:adj n (wGx b p q) (fun l=>x.testBit l) s=true
        · rw [if_pos c2]
          by_cases c3:(s:Int)=but
          · rw [if_pos c3]
            rw [if_neg (fun g=>g.1 c3)] at dv
            congr 1;omega
          · rw [if_neg c3]
            rw [if_pos ⟨c3,c2⟩] at dv
            rw [wAM (by omega) (by omega)]
            congr 1;omega
        · rw [if_neg c2]
          rw [if_neg (fun g=>c2 g.2)] at dv
          congr 1;omega)
      rw [this,hH]
      rfl
    · rw [if_neg c1]
      rw [if_neg c1] at dv
      have:=inn s (fun b183=>if b183=true then
              if (s:Int)=but then
                some (wAy D s)
              else
                (idx (wCv b).Shots (s:Int)).bind fun x285 =>
                some (w64 (wAy D s - x285))
            else
              some (wAy D s)) (wAy D s + D s) hs (by
        rw [iS,hH]
        by_cases c2:adj n (wGx b p q) (fun l=>x.testBit l) s=true
        · rw [if_pos c2]
          by_cases c3:(s:Int)=but
          · rw [if_pos c3]
            rw [if_neg (fun g=>g.1 c3)] at dv
            congr 1;omega
          · rw [if_neg c3]
            rw [if_pos ⟨c3,c2⟩] at dv
            rw [wAM (by omega) (by omega)]
            congr 1;omega
        · rw [if_neg c2]
          rw [if_neg (fun g=>c2 g.2)] at dv
          congr 1;omega)
      rw [this,hH]
      rfl
  · simp only
    have hsl:(wCv b).Shots.length=n:=N.ns
    rw [if_neg (by omega)]
    rfl
def cdS (S:Nat->Bool):Nat->Nat
 | 0=>0
 | k + 1=>cdS S k + if S k=true then 2 ^ k else 0
theorem wJo (S:Nat->Bool):∀ k,cdS S k < 2 ^ k
 | 0=>by simp [cdS]
 | k + 1=>by
  have:=wJo S k
  rw [cdS,kf]
  split <;> omega
theorem wGj (S:Nat->Bool):∀ k l,l < k->(cdS S k).testBit l=S l
 | 0,l,h=>by omega
 | k + 1,l,h=>by
  have lt:=wJo S k
  rw [cdS]
  by_cases c:S k=true
  ·rw [if_pos c,Nat.add_comm]
   by_cases e:l=k
   ·subst e
    rw [Nat.testBit_two_pow_add_eq,kR lt,c]
    rfl
   ·rw [Nat.testBit_two_pow_add_gt (by omega)]
    exact wGj S k l (by omega)
  ·rw [if_neg c,Nat.add_zero]
   by_cases e:l=k
   ·subst e
    rw [kR lt]
    simpa using c
   ·exact wGj S k l (by omega)
theorem wPj {n:Nat} {b:wAB} (N:wSJ n b):wCL (wCv b)=some ((2 ^ n:Nat):Int):=by
 have n8:=N.n8
 have dl:(wCv b).Down.length=n:=N.nd
 have pw:∀ k,k <= 8->2 ^ k <= 256:=fun k hk=>kU (n:=2) (by omega) hk
 unfold wCL
 refine wEj (m:=n) (fun k=>(((2 ^ k:Nat):Int),(k:Int))) (fun k hk=>?_) ?_ rfl (by omega)
 ·simp only
  have:=pw k (by omega)
  rw [if_pos (by omega),wAM (x:=(k:Int) + 1) (by omega) (by omega),kf]
  generalize 2 ^ k=P at this ⊢
  rw [wAM (by omega) (by omega)]
  congr 3
  omega
 ·simp only
  rw [if_neg (by omega)]
  rfl
theorem wEk {n:Nat} {b:wAB} (N:wSJ n b) (p q:Int) (h:(∀ S:Nat->Bool,dnL n (dnB b) S <= shL n (wGx b p q) (shB b) S) \/ ∃ S:Nat->Bool,shL n (wGx b p q) (shB b) S < dnL n (dnB b) S):wAJ (wCv b) p q=some (@decide (∀ S:Nat->Bool,dnL n (dnB b) S <= shL n (wGx b p q) (shB b) S) (nD _)):=by
 have n8:=N.n8
 have pw:2 ^ n <= 256:=kU (n:=2) (by omega) n8
 unfold wAJ
 rw [wPj N]
 generalize hP:2 ^ n=P at pw
 rcases h with h | ⟨S,hS⟩
 ·rw [@decide_eq_true _ (nD _) h]
  refine wEj (m:=P) (fun k=>(k:Int)) (fun k hk=>?_) ?_ rfl (by omega)
  ·rw [hH,if_pos (by omega),wJA N (by omega),hH,wLZ,if_neg (by have:=h fun l=>k.testBit l;omega),wAM (by omega) (by omega)]
   rfl
  ·rw [hH,if_neg (by omega)]
   rfl
 ·rw [@decide_eq_false _ (nD _) fun g=>by have:=g S;omega]
  have c0:=wJo S n
  rw [hP] at c0
  have bad:shL n (wGx b p q) (shB b) (fun l=>(cdS S n).testBit l) < dnL n (dnB b) (fun l=>(cdS S n).testBit l):=by
   rw [wJm (T:=S) fun l hl=>wGj S n l hl,wHs (T:=S) fun l hl=>wGj S n l hl]
   exact hS
  refine wFw (S:=Int) (fun k st=>st=(k:Int)/\k <= cdS S n) (cdS S n) ⟨rfl,by omega⟩ (by omega) fun k st hk ⟨e,le⟩=>?_
  subst e
  rw [hH,if_pos (by omega),wJA N (by omega),hH,wLZ]
  by_cases c:0 < dnL n (dnB b) (fun l=>k.testBit l) - shL n (wGx b p q) (shB b) (fun l=>k.testBit l)
  ·rw [if_pos c]
   exact .inr rfl
  ·rw [if_neg c,wAM (by omega) (by omega)]
   have:k ≠ cdS S n:=fun e=>by rw [e] at c;omega
   exact .inl ⟨by omega,_,rfl,by omega,by omega⟩
theorem wDk (b:wAB):wGx b (-1) (-1)=wBf b:=by
 funext s l
 unfold wGx
 rw [decide_eq_false (show ¬ (s:Int)=-1 by omega),nV,Bool.not_false,Bool.and_true]
theorem GoodB.near {n:Nat} {b:wAB} (G:GoodB n b):wSJ n b :=
 ⟨G.nb.2,G.ns,G.nd,fun s hs=>by have:=G.sh s hs;omega,fun l hl=>by have:=G.dn l hl;omega,G.al⟩
end Go.Proofs.Ytfcmijinklojbaa
namespace Go.Proofs.Ytfcmijinklojbaa
open Go.KL
theorem GoodB.short {n:Nat} {b:wAB} (G:GoodB n b) (nC:¬ Can n (wBf b) (shB b) (dnB b)):∃ S:Nat->Bool,shL n (wBf b) (shB b) S < dnL n (dnB b) S:=by
 obtain ⟨may,m,e1,_,K⟩:=wDm G
 obtain ⟨r,e2,S⟩:=G.solve K m
 exact S.short nC
theorem wEH {n:Nat} {b:wAB} (G:GoodB n b):(∀ S:Nat->Bool,dnL n (dnB b) S <= shL n (wBf b) (shB b) S) ↔ Can n (wBf b) (shB b) (dnB b):=by
 constructor
 ·intro h
  apply kB
  intro nC
  obtain ⟨S,lt⟩:=G.short nC
  have:=h S;omega
 ·rintro ⟨x,A⟩ S
  exact A.hall S
theorem wGq {n:Nat} {b:wAB} (G:GoodB n b) (hc:wGX b=0):(Can n (wBf b) (shB b) (dnB b)/\wAc (wCv b)=some 0) \/ (¬ Can n (wBf b) (shB b) (dnB b)/\wAc (wCv b)=some 7):=by
 have hn:=G.nb;have ns:=G.ns
 have e:=wEk G.near (-1) (-1) (by
  rw [wDk]
  by_cases c:Can n (wBf b) (shB b) (dnB b)
  ·obtain ⟨x,A⟩:=c
   exact .inl fun S=>A.hall S
  ·exact .inr (G.short c))
 rw [wDk] at e
 unfold wAc
 rw [wDA (by omega) G.al,hc,hH,if_pos rfl,e,hH]
 by_cases c:Can n (wBf b) (shB b) (dnB b)
 ·rw [@decide_eq_true _ (nD _) ((wEH G).2 c),if_pos rfl]
  exact .inl ⟨c,rfl⟩
 ·rw [@decide_eq_false _ (nD _) fun q=>c ((wEH G).1 q),if_neg (by decide)]
  exact .inr ⟨c,rfl⟩
end Go.Proofs.Ytfcmijinklojbaa
namespace Go.Proofs.Ytfcmijinklojbaa
open Go.KL
def wIH (b:wAB) (s l s' l':Nat):Bool:=if s'=s/\l'=l then false else wBf b s' l'
def shW (b:wAB) (s k s':Nat):Int:=if s'=s then shB b s - k else shB b s'
def dnW (b:wAB) (l k l':Nat):Int:=if l'=l then dnB b l - k else dnB b l'
def PW (n:Nat) (b:wAB) (s l k:Nat):Prop:=Can n (wIH b s l) (shW b s k) (dnW b l k)
section
variable {n:Nat} {b:wAB} {may:List (wAD × Bool)}
theorem wOQ {s l k:Nat} (hl:l < n) (L:Nat->Bool):dnL n (dnW b l k) L=dnL n (dnB b) L - (if L l=true then (k:Int) else 0):=by
 unfold dnL
 rw [wDT (f:=fun i=>if L i=true then dnB b i else 0) (g:=fun i=>if L i=true then dnW b l k i else 0) hl fun i hi hne=>by unfold dnW;rw [if_neg hne]]
 unfold dnW
 simp only [if_true]
 split <;> omega
theorem wRj {s k:Nat} (hs:s < n) (can:Nat->Nat->Bool) (L:Nat->Bool):shL n can (shW b s k) L=shL n can (shB b) L - (if adj n can L s=true then (k:Int) else 0):=by
 unfold shL
 rw [wDT (f:=fun i=>if adj n can L i=true then shB b i else 0) (g:=fun i=>if adj n can L i=true then shW b s k i else 0) hs fun i hi hne=>by unfold shW;rw [if_neg hne]]
 unfold shW
 simp only [if_true]
 split <;> omega
theorem wRk {s l i j k:Nat} (hs:s < n) (hl:l < n) (h1:PW n b s l i) (h2:PW n b s l k) (hij:i <= j) (hjk:j <= k) (L:Nat->Bool):¬ shL n (wIH b s l) (shW b s j) L < dnL n (dnW b l j) L:=by
 obtain ⟨x,hx⟩:=h1
 obtain ⟨y,hy⟩:=h2
 have a:=hx.hall L
 have c:=hy.hall L
 rw [wOQ (s:=s) hl,wRj hs] at a c ⊢
 split at a <;> split at a <;> simp_all <;> omega
theorem wFT (G:GoodB n b) {s l k:Nat} (hs:s < n) (hl:l < n) (h1:(k:Int) <= shB b s) (h2:(k:Int) <= dnB b l) (h:Arr Int 64) (u:Arr Int 8) (m:Arr Bool 16):∃ b' may' m',wAT ⟨b,may,h,u,m⟩ (s:Int) (l:Int) (k:Int)=some ⟨b',may',Arr.fill 64 0,Arr.fill 8 0,m'⟩ /\
  Desk n (wIH b s l) (shW b s k) b' may'/\∀ j,j < n->gd b'.Down j=dnW b l k j/\0 <= dnW b l k j/\dnW b l k j <= 1000:=by
 have hn:=G.nb
 have hS:s < b.Shots.length:=by rw [G.ns];exact hs
 have hD:l < b.Down.length:=by rw [G.nd];exact hl
 have cl:∀ x:List Int,x.length <= 8->wAP x=some x:=fun x hx=>by
  unfold wAP
  rw [wEV (by simp only [nz];omega)]
  rfl
 have b1:=G.sh s hs;have b2:=G.dn l hl
 unfold shB at h1;unfold dnB at h2
 unfold wAT
 simp only
 rw [cl _ (by rw [G.ns];omega),hH,cl _ (by rw [G.nd];omega),hH,wDz (by omega) (by omega),hH,wDz (by omega) (by omega),hH,ni,ni,wAM (by omega) (by omega),wAM (by omega) (by omega)]
 obtain ⟨may',m',e,u1,g⟩:=wFI (b:=⟨b.Shots.set s (gd b.Shots s - k),b.Down.set l (gd b.Down l - k),b.Across⟩) (n:=n) (by omega) (by simp [G.ns]) G.al
 rw [e,hH]
 refine ⟨_,_,_,rfl,⟨by omega,by simp [G.ns],by simp [G.nd],fun i hi=>?_,fun i j hi hj=>?_⟩,fun j hj=>?_⟩
 ·simp only
  rw [wFH hS (by rw [G.ns];exact hi)]
  have:=G.sh i hi
  unfold shW shB
  split <;> simp <;> omega
 ·unfold wEr
  simp only
  rw [wPc u1]
  unfold wIH
  by_cases c:i=s/\j=l
  ·rw [if_pos (by rw [c.1,c.2]),if_pos c];rfl
  ·rw [if_neg (by
    intro q
    injection q with q1 q2
    exact c ⟨by omega,by omega⟩),if_neg c]
   exact g i j hi
 ·simp only
  rw [wFH hD (by rw [G.nd];exact hj)]
  have:=G.dn j hj
  unfold dnW dnB
  split <;> omega
def wCH (b:wAB) (s l:Nat):Int:=if wBf b s l=true then min (shB b s) (dnB b l) else 0
theorem wJB (G:GoodB n b) (K:Desk n (wBf b) (shB b) b may) {s l:Nat} (hs:s < n) (hl:l < n) (h:Arr Int 64) (u:Arr Int 8) (m:Arr Bool 16):wBX ⟨b,may,h,u,m⟩ (s:Int) (l:Int)=some (wCH b s l):=by
 unfold wBX
 rw [K.can_is hs hl,hH]
 unfold wCH
 by_cases c:wBf b s l=true
 ·rw [if_pos c,if_pos c]
  simp only
  rw [wAu (by rw [G.ns];exact hs),hH,wAu (by rw [G.nd];exact hl),hH]
  rfl
 ·rw [if_neg c,if_neg c]
theorem wKh (G:GoodB n b) (K:Desk n (wBf b) (shB b) b may) {s l:Nat} (hs:s < n) (hl:l < n) (h:Arr Int 64) (u:Arr Int 8) (m:Arr Bool 16):∃ lo hi,wBC ⟨b,may,h,u,m⟩ (s:Int) (l:Int)=some ⟨lo,hi⟩ /\
  (((∀ k:Nat,(k:Int) <= wCH b s l->¬ PW n b s l k)/\lo=-1/\hi=0) \/ ∃ a c:Nat,lo=a/\hi=c/\a <= c/\(c:Int) <= wCH b s l/\∀ k:Nat,(k:Int) <= wCH b s l->(PW n b s l k ↔ a <= k/\k <= c)):=by
 have hn:=G.nb
 have b1:=G.sh s hs;have b2:=G.dn l hl
 have hm:0 <= wCH b s l/\wCH b s l <= 5/\wCH b s l <= shB b s/\wCH b s l <= dnB b l:=by
  unfold wCH shB dnB
  split <;> omega
 unfold wBC
 rw [wJB G K hs hl,hH]
 obtain ⟨M,hM⟩:∃ M:Nat,wCH b s l=M:=⟨(wCH b s l).toNat,by omega⟩
 rw [hM] at hm ⊢
 rw [wAM (by omega) (by omega),show ((M:Int) + 1)=((M + 1:Nat):Int) by omega,wDp (by omega)]
 obtain ⟨⟨lo,hi⟩,e,I⟩:=wEU (S:=Int × Int) (body:=fun (k35:Nat) ((x33,x34):Int × Int) =>
  (wAT ⟨b,may,h,u,m⟩ (s:Int) (l:Int) (↑k35:Int)).bind fun x66 =>
  (wAL x66).bind fun (x92,x93) =>
  if x92=[] then
   if x33 < 0 then
    some ((↑k35:Int),(↑k35:Int))
   else
    some (x33,(↑k35:Int))
  else
   some (x33,x34)) (fun k st=>((∀ j,j < k->¬ PW n b s l j)/\st=(-1,0)) \/ ∃ a c:Nat,st=((a:Int),(c:Int))/\a <= c/\c < k/\PW n b s l a/\PW n b s l c/\∀ j,j < k->PW n b s l j->a <= j/\j <= c) (M + 1) 0 (-1,0) (.inl ⟨fun j hj=>by omega,rfl⟩)
  (by
   rintro k ⟨lo,hi⟩ _ hk I
   obtain ⟨b',may',m',e1,K',d'⟩:=wFT (may:=may) G hs hl (show (k:Int) <= shB b s by omega) (show (k:Int) <= dnB b l by omega) h u m
   obtain ⟨r,e2,S⟩:=wEi K' d' m' (wFx K'.n8 fun i hi=>by
    have:=G.sh i hi
    unfold shW
    split
    ·omega
    ·exact this.1)
   simp only
   rw [e1,hH,e2,hH]
   by_cases c:r.1=[]
   ·rw [if_pos c]
    have P:PW n b s l k:=S.none_iff.1 c
    rcases I with ⟨g,e⟩ | ⟨a,c',e,h1,h2,h3,h4,h5⟩
    ·injection e with e3 e4
     subst e3 e4
     rw [if_pos (by omega)]
     exact ⟨_,rfl,.inr ⟨k,k,rfl,nH _,by omega,P,P,fun j hj q=>by
      by_cases e:j=k
      ·omega
      ·exact absurd q (g j (by omega))⟩⟩
    ·injection e with e3 e4
     subst e3 e4
     rw [if_neg (by omega)]
     exact ⟨_,rfl,.inr ⟨a,k,rfl,by omega,by omega,h3,P,fun j hj q=>by
      by_cases e:j=k
      ·omega
      ·have:=h5 j (by omega) q;omega⟩⟩
   ·rw [if_neg c]
    have nP:¬ PW n b s l k:=fun q=>c (S.none_iff.2 q)
    refine ⟨_,rfl,?_⟩
    rcases I with ⟨g,e⟩ | ⟨a,c',e,h1,h2,h3,h4,h5⟩
    ·exact .inl ⟨fun j hj=>by
      by_cases e:j=k
      ·rw [e];exact nP
      ·exact g j (by omega),e⟩
    ·exact .inr ⟨a,c',e,h1,by omega,h3,h4,fun j hj q=>by
      by_cases e:j=k
      ·rw [e] at q;exact absurd q nP
      ·exact h5 j (by omega) q⟩)
 rw [e,hH]
 refine ⟨lo,hi,rfl,?_⟩
 rw [kC] at I
 rcases I with ⟨g,e⟩ | ⟨a,c,e,h1,h2,h3,h4,h5⟩
 ·injection e with e3 e4
  exact .inl ⟨fun k hk=>g k (by omega),e3,e4⟩
 ·injection e with e3 e4
  refine .inr ⟨a,c,e3,e4,h1,by omega,fun k hk=>⟨fun q=>h5 k (by omega) q,fun ⟨q1,q2⟩=>?_⟩⟩
  apply kB
  intro np
  obtain ⟨b',may',m',e1,K',d'⟩:=wFT (may:=may) G hs hl (show (k:Int) <= shB b s by omega) (show (k:Int) <= dnB b l by omega) h u m
  obtain ⟨r,e2,S⟩:=wEi K' d' m' (wFx K'.n8 fun i hi=>by
    have:=G.sh i hi
    unfold shW
    split
    ·omega
    ·exact this.1)
  obtain ⟨L,lt⟩:=S.short np
  exact wRk hs hl h3 h4 q1 q2 L lt
end
end Go.Proofs.Ytfcmijinklojbaa
namespace Go.Proofs.Ytfcmijinklojbaa
open Go.KL
section
variable {n:Nat} {b:wAB}
theorem wOR (G:GoodB n b) {s l:Nat} (hs:s < n) (hl:l < n):∃ r,wBD b (s:Int) (l:Int)=some r/\((¬ Can n (wBf b) (shB b) (dnB b)/\r=(⟨0,0⟩,7)) \/ (Can n (wBf b) (shB b) (dnB b)/\∃ lo hi,r=(⟨lo,hi⟩,0) /\
  (((∀ k:Nat,(k:Int) <= wCH b s l->¬ PW n b s l k)/\lo=-1/\hi=0) \/ ∃ a c:Nat,lo=a/\hi=c/\a <= c/\(c:Int) <= wCH b s l/\∀ k:Nat,(k:Int) <= wCH b s l->(PW n b s l k ↔ a <= k/\k <= c)))):=by
 have hn:=G.nb
 obtain ⟨may,m,e1,_,K⟩:=wDm G
 obtain ⟨⟨L,h,u,m2⟩,e2,S⟩:=G.solve K m
 unfold wBD wBM
 rw [e1,hH]
 simp only [if_true]
 rw [G.ns,wAM (by omega) (by omega),wCM,hH,if_pos (decide_eq_true (by omega)),G.nd,wAM (by omega) (by omega),wCM,hH,if_pos (decide_eq_true (by omega)),e2,hH]
 simp only
 by_cases c:L=[]
 ·have C:Can n (wBf b) (shB b) (dnB b):=S.none_iff.1 c
  obtain ⟨lo,hi,e3,q⟩:=wKh G K hs hl h u m2
  rw [if_pos c,hH]
  simp only [if_true]
  rw [e3,hH]
  exact ⟨_,rfl,.inr ⟨C,lo,hi,rfl,q⟩⟩
 ·have nC:¬ Can n (wBf b) (shB b) (dnB b):=fun q=>c (S.none_iff.2 q)
  rw [if_neg c,hH]
  simp only
  rw [if_neg (by decide)]
  exact ⟨_,rfl,.inl ⟨nC,rfl⟩⟩
end
end Go.Proofs.Ytfcmijinklojbaa
namespace Go.Proofs.Ytfcmijinklojbaa
open Go.KL
section
variable {n:Nat} {b:wAB}
theorem pw_of {x:Nat->Nat->Int} (A:Asg n (wBf b) (shB b) (dnB b) x) {s l k:Nat} (hs:s < n) (hl:l < n) (hk:x s l=k):PW n b s l k:=by
 refine ⟨fun s' l'=>if s'=s/\l'=l then 0 else x s' l',fun i j hi hj=>?_,fun i j hi hj q=>?_,fun i hi=>?_,fun j hj=>?_⟩
 ·split
  ·exact nv _
  ·exact A.nn i j hi hj
 ·unfold wIH
  split at q
  ·omega
  ·rename_i c;rw [if_neg c];exact A.pos i j hi hj q
 ·unfold shW
  by_cases e:i=s
  ·subst e
   rw [if_pos rfl,wDT (f:=x i) (g:=fun l'=>if i=i/\l'=l then 0 else x i l') hl fun j hj hne=>by rw [if_neg fun c=>hne c.2]]
   have:=A.row i hi
   rw [if_pos ⟨rfl,rfl⟩,hk]
   omega
  ·rw [if_neg e]
   refine ke (Int.le_of_eq (wAn n fun j hj=>?_)) (A.row i hi)
   rw [if_neg fun c=>e c.1]
 ·unfold dnW
  by_cases e:j=l
  ·subst e
   rw [if_pos rfl,wDT (f:=fun i=>x i j) (g:=fun i=>if i=s/\j=j then 0 else x i j) hs fun i hi hne=>by rw [if_neg fun c=>hne c.1],A.col j hj,if_pos ⟨rfl,rfl⟩,hk]
   omega
  ·rw [if_neg e,<- A.col j hj]
   exact wAn n fun i hi=>by rw [if_neg fun c=>e c.2]
end
end Go.Proofs.Ytfcmijinklojbaa
namespace Go.Proofs.Ytfcmijinklojbaa
open Go.KL
section
variable {n:Nat} {b:wAB}
theorem wPk {x:Nat->Nat->Int} (A:Asg n (wBf b) (shB b) (dnB b) x) {s l:Nat} (hs:s < n) (hl:l < n):0 <= x s l/\x s l <= wCH b s l:=by
 have x0:=A.nn s l hs hl
 have a1:=wEP (f:=x s) (fun j hj=>A.nn s j hs hj) hl
 have a2:=wEP (f:=fun i=>x i l) (fun i hi=>A.nn i l hi hl) hs
 have a3:=A.row s hs
 have a4:=A.col l hl
 refine ⟨x0,?_⟩
 unfold wCH
 by_cases c:wBf b s l=true
 ·rw [if_pos c];omega
 ·rw [if_neg c]
  have:¬ 0 < x s l:=fun h=>c (A.pos s l hs hl h)
  omega
theorem wKi (G:GoodB n b) (C:Can n (wBf b) (shB b) (dnB b)) {s l:Nat} (hs:s < n) (hl:l < n):∃ a c:Nat,wBD b (s:Int) (l:Int)=some (⟨(a:Int),(c:Int)⟩,0)/\a <= c/\(c:Int) <= wCH b s l/\∀ k:Nat,(k:Int) <= wCH b s l->(PW n b s l k ↔ a <= k/\k <= c):=by
 obtain ⟨r,e,q⟩:=wOR G hs hl
 rcases q with ⟨nC,_⟩ | ⟨_,lo,hi,rfl,q⟩
 ·exact absurd C nC
 rcases q with ⟨nP,_⟩ | ⟨a,c,rfl,rfl,h1,h2,h3⟩
 ·obtain ⟨x,A⟩:=C
  have m:=wPk A hs hl
  exact absurd (pw_of A hs hl (show x s l=((x s l).toNat:Int) by omega)) (nP _ (by omega))
 ·exact ⟨a,c,e,h1,h2,h3⟩
end
end Go.Proofs.Ytfcmijinklojbaa
namespace Go.Proofs.Ytfcmijinklojbaa
open Go.KL
section
variable {n:Nat} {b:wAB}
def wGY (b:wAB) (s l:Nat) (k:Int):wAB:=⟨b.Shots.set s (gd b.Shots s - k),b.Down.set l (gd b.Down l - k),b.Across⟩
theorem wPl (G:GoodB n b) {s l k:Nat} (hs:s < n) (hl:l < n) (hk:k <= 100):wBg (wCv b) (s:Int) (k:Int) (l:Int) (k:Int)=some (wCv (wGY b s l k)):=by
 have hn:=G.nb;have ns:=G.ns;have nd:=G.nd
 have b1:=G.sh s hs;have b2:=G.dn l hl
 have hS:(wCv b).Shots=b.Shots:=rfl
 have hD:(wCv b).Down=b.Down:=rfl
 unfold wBg
 rw [hS,hD,wEV (by simp only [nz];omega),hH,wEV (by simp only [nz];omega),hH,hH]
 simp only [nS]
 rw [wDz (by omega) (by omega),hH,wDz (by omega) (by omega),hH,ni,ni,wAM (by omega) (by omega),wAM (by omega) (by omega)]
 rfl
theorem wMI (G:GoodB n b) {s l k:Nat} (hs:s < n) (hl:l < n) (hk:k <= 100):wSJ n (wGY b s l k):=by
 have ns:=G.ns;have nd:=G.nd
 have b1:=G.sh s hs;have b2:=G.dn l hl
 refine ⟨G.nb.2,by simp [wGY,ns],by simp [wGY,nd],fun i hi=>?_,fun i hi=>?_,G.al⟩
 ·unfold wGY
  simp only
  rw [wFH (by omega) (by omega)]
  have:=G.sh i hi
  split <;> omega
 ·unfold wGY
  simp only
  rw [wFH (by omega) (by omega)]
  have:=G.dn i hi
  split <;> omega
theorem wKj {dn dn':Nat->Int} (h:∀ l,l < n->dn l=dn' l) (S:Nat->Bool):dnL n dn S=dnL n dn' S:=wAn n fun l hl=>by rw [h l hl]
theorem wKk {can:Nat->Nat->Bool} {sh sh':Nat->Int} (h:∀ l,l < n->sh l=sh' l) (S:Nat->Bool):shL n can sh S=shL n can sh' S:=wAn n fun l hl=>by rw [h l hl]
theorem wHv (s l:Nat) (k:Int):wGx (wGY b s l k) (s:Int) (l:Int)=wIH b s l:=by
 funext i j
 unfold wGx wIH
 have e:wBf (wGY b s l k) i j=wBf b i j:=rfl
 rw [e]
 by_cases c:i=s/\j=l
 ·rw [if_pos c,c.1,c.2,decide_eq_true rfl,decide_eq_true rfl];simp
 ·rw [if_neg c]
  have:(decide ((i:Int)=(s:Int)) && decide ((j:Int)=(l:Int)))=false:=by
   rw [Bool.and_eq_false_iff,decide_eq_false_iff_not,decide_eq_false_iff_not]
   omega
  rw [this,Bool.not_false,Bool.and_true]
theorem wTL (G:GoodB n b) {s l k:Nat} (hs:s < n) (hl:l < n) (h1:(k:Int) <= shB b s) (h2:(k:Int) <= dnB b l) (nP:¬ PW n b s l k):∃ S:Nat->Bool,shL n (wIH b s l) (shW b s k) S < dnL n (dnW b l k) S:=by
 obtain ⟨b',may',m',e1,K',d'⟩:=wFT (may:=[]) G hs hl h1 h2 (Arr.fill 64 0) (Arr.fill 8 0) (Arr.fill 16 false)
 obtain ⟨r,e2,S⟩:=wEi K' d' m' (wFx K'.n8 fun i hi=>by
  have:=G.sh i hi
  unfold shW
  split
  ·omega
  ·exact this.1)
 exact S.short nP
theorem wTM (G:GoodB n b) {s l k:Nat} (hs:s < n) (hl:l < n) (h1:(k:Int) <= shB b s) (h2:(k:Int) <= dnB b l):wAJ (wCv (wGY b s l k)) (s:Int) (l:Int)=some (@decide (PW n b s l k) (nD _)):=by
 have ns:=G.ns;have nd:=G.nd
 have b1:=G.sh s hs
 have k8:k <= 8:=by have:shB b s <= 8:=b1.2;omega
 have N:=wMI G hs hl (show k <= 100 by omega)
 have eS:∀ i,i < n->shB (wGY b s l k) i=shW b s k i:=fun i hi=>by
  show gd (b.Shots.set s (gd b.Shots s - k)) i=_
  rw [wFH (by omega) (by omega)]
  unfold shW shB
  rfl
 have eD:∀ i,i < n->dnB (wGY b s l k) i=dnW b l k i:=fun i hi=>by
  show gd (b.Down.set l (gd b.Down l - k)) i=_
  rw [wFH (by omega) (by omega)]
  unfold dnW dnB
  rfl
 have all:(∀ S:Nat->Bool,dnL n (dnB (wGY b s l k)) S <= shL n (wGx (wGY b s l k) (s:Int) (l:Int)) (shB (wGY b s l k)) S) ↔ PW n b s l k:=by
  constructor
  ·intro h
   apply kB
   intro nP
   obtain ⟨S,lt⟩:=wTL G hs hl h1 h2 nP
   have:=h S
   rw [wHv,wKj eD,wKk eS] at this
   omega
  ·rintro ⟨x,A⟩ S
   rw [wHv,wKj eD,wKk eS]
   exact A.hall S
 have e:=wEk N (s:Int) (l:Int) (by
  by_cases c:PW n b s l k
  ·exact .inl (all.2 c)
  ·obtain ⟨S,lt⟩:=wTL G hs hl h1 h2 c
   refine .inr ⟨S,?_⟩
   rw [wHv,wKj eD,wKk eS]
   exact lt)
 rw [e]
 congr 1
 by_cases c:PW n b s l k
 ·rw [@decide_eq_true _ (nD _) c,@decide_eq_true _ (nD _) (all.2 c)]
 ·rw [@decide_eq_false _ (nD _) c,@decide_eq_false _ (nD _) fun q=>c (all.1 q)]
theorem wHw (G:GoodB n b) (hc:wGX b=0) (C:Can n (wBf b) (shB b) (dnB b)) {s l:Nat} (hs:s < n) (hl:l < n) {a c:Nat} (hac:a <= c) (hcm:(c:Int) <= wCH b s l) (hP:∀ k:Nat,(k:Int) <= wCH b s l->(PW n b s l k ↔ a <= k/\k <= c)):wAX (wCv b) (s:Int) (l:Int)=some (⟨(a:Int),(c:Int)⟩,0):=by
  have hn:=G.nb;have ns:=G.ns;have nd:=G.nd
  have b1:=G.sh s hs;have b2:=G.dn l hl
  have hS:(wCv b).Shots=b.Shots:=rfl
  have hD:(wCv b).Down=b.Down:=rfl
  have pos:wAJ (wCv b) (-1) (-1)=some true:=by
    have e:=wEk G.near (-1) (-1) (by rw [wDk];exact .inl ((wEH G).2 C))
    rw [wDk,@decide_eq_true _ (nD _) ((wEH G).2 C)] at e
    exact e
  unfold wAX
  rw [wDA (by omega) G.al,hc,hH,if_pos rfl,hS,hD,ns,nd,wAM (by omega) (by omega),wCr,hH,decide_eq_true (by omega),if_neg (by decide),wCr,hH,decide_eq_true (by omega),if_neg (by decide),pos,hH,if_pos rfl]
  have mm:wCH b s l <= shB b s/\wCH b s l <= dnB b l:=by
    unfold wCH shB dnB
    split <;> omega
  have iS:idx b.Shots (s:Int)=some (gd b.Shots s):=wAu (by omega)
  have iD:idx b.Down (l:Int)=some (gd b.Down l):=wAu (by omega)
  unfold shB dnB at mm
  obtain ⟨M,hM⟩:∃ M:Nat,min (gd b.Shots s) (gd b.Down l)=M:=⟨(min (gd b.Shots s) (gd b.Down l)).toNat,by omega⟩
  refine wFw (S:=Int × Int × Int) (fun k st=>k <= M + 1/\st=(if k <= a then ((9:Int),(0:Int),(k:Int)) else ((a:Int),(min (k - 1) c:Nat),(k:Int)))) (M + 1) ⟨by omega,by rw [if_pos (by omega)];rfl⟩ (by omega) ?_
  rintro k st hk ⟨km,rfl⟩
  have step:∀ (f:Int × Int × Int->Option ((Int × Int × Int) ⊕ (wAH × Int))),True:=fun _=>trivial
  generalize hst:(if k <= a then ((9:Int),(0:Int),(k:Int)) else ((a:Int),((min (k - 1) c:Nat):Int),(k:Int)))=st
  obtain ⟨x,y,z⟩:=st
  have hz:z=k:=by
    by_cases q:k <= a
    · rw [if_pos q] at hst;injection hst with _ h;injection h with _ h;exact h.symm
    · rw [if_neg q] at hst;injection hst with _ h;injection h with _ h;exact h.symm
  subst hz
  simp only
  rw [iS,hH,iD,hH]
  by_cases c1:k <= M
  · left
    refine ⟨by omega,?_⟩
    rw [if_pos (by omega),if_pos (by omega)]
    have nxt:∀ p:Bool,(p=true ↔ (k:Int) <= wCH b s l/\PW n b s l k)->(if p=true then (min x (k:Int),(k:Int)) else (x,y))=(if k + 1 <= a then ((9:Int),(0:Int)) else ((a:Int),((min k c:Nat):Int))):=fun p hp=>by
      by_cases q:k <= a
      · rw [if_pos q] at hst
        injection hst with h1 h2
        injection h2 with h2 _
        subst h1 h2
        by_cases e:k=a
        · rw [if_pos (hp.2 ⟨by omega,(hP k (by omega)).2 ⟨by omega,by omega⟩⟩),if_neg (by omega)]
          have:min (9:Int) (k:Int)=a:=by omega
          rw [this,show min k c=k by omega]
        · rw [if_neg fun h=>by have g:=hp.1 h;have:=(hP k g.1).1 g.2;omega,if_pos (by omega)]
      · rw [if_neg q] at hst
        injection hst with h1 h2
        injection h2 with h2 _
        subst h1 h2
        rw [if_neg (show ¬ k + 1 <= a by omega)]
        by_cases e:k <= c
        · rw [if_pos (hp.2 ⟨by omega,(hP k (by omega)).2 ⟨by omega,by omega⟩⟩),show min (a:Int) (k:Int)=a by omega,show min k c=k by omega]
        · rw [if_neg fun h=>by have g:=hp.1 h;have:=(hP k g.1).1 g.2;omega,show min (k - 1) c=min k c by omega]
    have res:∀ v:Int × Int,v=(if k + 1 <= a then ((9:Int),(0:Int)) else ((a:Int),((min k c:Nat):Int)))->(v.1,v.2,w64 ((k:Int) + 1))=(if k + 1 <= a then ((9:Int),(0:Int),((k + 1:Nat):Int)) else ((a:Int),((min (k + 1 - 1) c:Nat):Int),((k + 1:Nat):Int))):=fun v hv=>by
      rw [hv,wAM (by omega) (by omega)]
      by_cases q:k + 1 <= a
      · rw [if_pos q,if_pos q];simp
      · rw [if_neg q,if_neg q];simp
    have k8:k <= 8:=by omega
    have inn:(wBg (wCv b) (s:Int) (k:Int) (l:Int) (k:Int)).bind (fun x159 =>
                    (wAJ x159 (s:Int) (l:Int)).bind fun x191 =>
                    if x191=true then
                      some (min x (k:Int),(k:Int))
                    else
                      some (x,y))=some (if @decide (PW n b s l k) (nD _)=true then (min x (k:Int),(k:Int)) else (x,y)):=by
      rw [wPl G hs hl (by omega),hH,wTM G hs hl (by unfold shB;omega) (by unfold dnB;omega),hH]
      split <;> rfl
    by_cases c0:0 < (k:Int)
    · rw [if_pos c0,wHu G.al,hH]
      by_cases cc:wBf b s l=true
      · rw [if_pos cc,inn,hH]
        have km:(k:Int) <= wCH b s l:=by
          unfold wCH shB dnB
          rw [if_pos cc];omega
        refine ⟨_,rfl,by omega,res _ (nxt _ ?_)⟩
        rw [@decide_eq_true_iff _ (nD _)]
        exact ⟨fun h=>⟨km,h⟩,fun h=>h.2⟩
      · rw [if_neg cc,hH]
        refine ⟨_,rfl,by omega,res (x,y) ?_⟩
        have:=nxt false ⟨fun h=>(by cases h),fun h=>?_⟩
        · rw [if_neg (by decide)] at this
          exact this
        · have e:wCH b s l=0:=by unfold wCH;rw [if_neg cc]
          omega
    · rw [if_neg c0,inn,hH]
      have km:(k:Int) <= wCH b s l:=by omega
      refine ⟨_,rfl,by omega,res _ (nxt _ ?_)⟩
      rw [@decide_eq_true_iff _ (nD _)]
      exact ⟨fun h=>⟨km,h⟩,fun h=>h.2⟩
  · right
    rw [if_neg (show ¬ k <= a by omega)] at hst
    injection hst with h1 h2
    injection h2 with h2 _
    subst h1 h2
    rw [show min (k - 1) c=c by omega]
    by_cases q:(k:Int) <= gd b.Shots s
    · rw [if_pos q,if_neg (by omega)];rfl
    · rw [if_neg q];rfl
theorem wOS (G:GoodB n b) (hc:wGX b=0) (p q:Int):∃ r,wBD b p q=some r/\wAX (wCv b) p q=some r/\(r.2=0->∃ s l:Nat,p=s/\q=l/\s < n/\l < n/\Can n (wBf b) (shB b) (dnB b))/\(r.2=0 \/ r.2=1 \/ r.2=7)/\(r.2 ≠ 0->r.1=⟨0,0⟩):=by
 have hn:=G.nb;have ns:=G.ns;have nd:=G.nd
 have hS:(wCv b).Shots=b.Shots:=rfl
 have hD:(wCv b).Down=b.Down:=rfl
 obtain ⟨may,m,e1,_,K⟩:=wDm G
 by_cases c1:0 <= p/\p <= (n:Int) - 1
 case neg =>
  refine ⟨(⟨0,0⟩,1),?_,?_,fun h=>(by cases h),.inr (.inl rfl),fun _=>rfl⟩
  ·unfold wBD wBM
   rw [e1,hH]
   simp only [if_true]
   rw [ns,wAM (by omega) (by omega),wCM,hH,decide_eq_false c1,if_neg (by decide),hH]
   rfl
  ·unfold wAX
   rw [wDA (by omega) G.al,hc,hH,if_pos rfl,hS,ns,wAM (by omega) (by omega),wCr,hH,decide_eq_false c1,if_pos (by decide)]
 by_cases c2:0 <= q/\q <= (n:Int) - 1
 case neg =>
  refine ⟨(⟨0,0⟩,1),?_,?_,fun h=>(by cases h),.inr (.inl rfl),fun _=>rfl⟩
  ·unfold wBD wBM
   rw [e1,hH]
   simp only [if_true]
   rw [ns,wAM (by omega) (by omega),wCM,hH,decide_eq_true c1,if_pos rfl,nd,wAM (by omega) (by omega),wCM,hH,decide_eq_false c2,if_neg (by decide),hH]
   rfl
  ·unfold wAX
   rw [wDA (by omega) G.al,hc,hH,if_pos rfl,hS,ns,wAM (by omega) (by omega),wCr,hH,decide_eq_true c1,if_neg (by decide),hD,nd,wAM (by omega) (by omega),wCr,hH,decide_eq_false c2,if_pos (by decide)]
 obtain ⟨s,hs⟩:∃ s:Nat,p=s:=⟨p.toNat,by omega⟩
 obtain ⟨l,hl⟩:∃ l:Nat,q=l:=⟨q.toNat,by omega⟩
 subst hs hl
 by_cases C:Can n (wBf b) (shB b) (dnB b)
 ·obtain ⟨a,c,e,h1,h2,h3⟩:=wKi G C (show s < n by omega) (show l < n by omega)
  exact ⟨_,e,wHw G hc C (by omega) (by omega) h1 h2 h3,fun _=>⟨s,l,rfl,rfl,by omega,by omega,C⟩,.inl rfl,fun h=>absurd rfl h⟩
 ·obtain ⟨r,e,h⟩:=wOR G (show s < n by omega) (show l < n by omega)
  rcases h with ⟨_,rfl⟩ | ⟨C',_⟩
  ·refine ⟨_,e,?_,fun h=>(by cases h),.inr (.inr rfl),fun _=>rfl⟩
   have pos:wAJ (wCv b) (-1) (-1)=some false:=by
    have e:=wEk G.near (-1) (-1) (by rw [wDk];exact .inr (G.short C))
    rw [wDk,@decide_eq_false _ (nD _) fun q=>C ((wEH G).1 q)] at e
    exact e
   unfold wAX
   rw [wDA (by omega) G.al,hc,hH,if_pos rfl,hS,ns,wAM (by omega) (by omega),wCr,hH,decide_eq_true c1,if_neg (by decide),hD,nd,wAM (by omega) (by omega),wCr,hH,decide_eq_true c2,if_neg (by decide),pos,hH,if_neg (by decide)]
  ·exact absurd C' C
end
end Go.Proofs.Ytfcmijinklojbaa
namespace Go.Proofs.Ytfcmijinklojbaa
open Go.KL
theorem wTN {S B:Type} {body:Nat->S->Option (S ⊕ B)} {n:Nat} {s0:S} {k:S->Option B} {R:B->Prop} (I:Nat->S->Prop) (hn:n <= 1000) (h0:I 0 s0) (step:∀ i s,i < n->I i s->(∃ s',body i s=some (.inl s')/\I (i + 1) s') \/ ∃ r,body i s=some (.inr r)/\R r) (cont:∀ s,I n s->∃ r,k s=some r/\R r):∃ r,jn (wFy 0 (n:Int) body s0) k=some r/\R r:=by
 rcases wFS I R hn h0 step with ⟨s,e,h⟩ | ⟨r,e,h⟩
 ·rw [e];exact cont s h
 ·rw [e];exact ⟨r,rfl,h⟩
end Go.Proofs.Ytfcmijinklojbaa
