import Derived.Test.YtjfffcjjlnmneaaGreatZ1
import Derived.Test.YtjfffcjjlnmneaaGreatZ0
namespace Go.KX
open Go.RowKit Go.KL
def slotsA:List AOd→List Pos
  | []=>[]
  | .t p :: l=>p :: slotsA l
  | .c _ :: l=>slotsA l
def isAl:AOp→Bool
  | .new _ _ | .box _ _ | .mkm | .mks _ _ _ _ _ _ | .blds _ _ _ _=>true
  | _=>false
def readsA (a:AO):List Pos:=slotsA (opsA a.op) ++ (match a.grd with | some (p,_)=>[p] | none=>[])
def Sub (a:AOp) (o:Oper):Prop:=∀ t,Operand.tmp t ∈ o.op.operands→∃ p ∈ slotsA (opsA a),p.nat - 1=t
def AncP (l:List Oper) (x i:Nat):Prop:=∀ S:Nat→Bool,(∀ k,k < l.length→S k=true→∀ j ∈ prI l k,S j=true)→(∀ j ∈ prI l i,S j=true)→S x=true
def maskOf (acc:List Nat):List Nat→Nat
  | []=>0
  | p :: ps=>maskOf acc ps ||| (2 ^ p ||| acc.getD p 0)
def ancs (acc:List Nat):List Oper→List Nat
  | []=>acc
  | o :: r=>ancs (acc ++ [maskOf acc (preds o)]) r
theorem maskOf_bit {acc:List Nat} {x:Nat}:∀ {ps:List Nat},(maskOf acc ps).testBit x=true→∃ p ∈ ps,x=p ∨ (acc.getD p 0).testBit x=true
  | [],h=>by simp [maskOf] at h
  | p :: ps,h=>by
    simp only [maskOf,Nat.testBit_or,Bool.or_eq_true,Nat.testBit_two_pow,decide_eq_true_eq] at h
    rcases h with h | h | h
    · obtain ⟨q,h1,h2⟩:=maskOf_bit h
      exact ⟨q,by simp [h1],h2⟩
    · exact ⟨p,by simp,.inl h.symm⟩
    · exact ⟨p,by simp,.inr h⟩
theorem ancs_ok {l:List Oper} (hpr:∀ i,i < l.length→∀ j ∈ prI l i,j < i):∀ (rest done:List Oper) (acc:List Nat),l=done ++ rest→acc.length=done.length→(∀ i x,(acc.getD i 0).testBit x=true→AncP l x i) →
    ∀ i x,((ancs acc rest).getD i 0).testBit x=true→AncP l x i
  | [],done,acc,_,_,h,i,x,hx=>h i x hx
  | o :: r,done,acc,hl,hlen,h,i,x,hx=>by
    refine ancs_ok hpr r (done ++ [o]) (acc ++ [maskOf acc (preds o)]) (by rw [hl];simp) (by simp [hlen]) ?_ i x hx
    intro i x hx
    rcases Nat.lt_trichotomy i acc.length with hi | hi | hi
    · rw [List.getD_eq_getElem?_getD,List.getElem?_append_left hi,← List.getD_eq_getElem?_getD] at hx
      exact h i x hx
    · rw [List.getD_eq_getElem?_getD,hi,List.getElem?_append_right (Nat.le_refl _),Nat.sub_self] at hx
      have hx:(maskOf acc (preds o)).testBit x=true:=hx
      have hlt:done.length < l.length:=by rw [hl];simp
      have hp:prI l done.length=preds o:=by
        unfold prI
        rw [hl,List.getElem?_append_right (Nat.le_refl _),Nat.sub_self]
        rfl
      obtain ⟨p,h1,h2⟩:=maskOf_bit hx
      intro S hdc hS
      rw [hi,hlen] at hS
      have hSp:S p=true:=hS p (by rw [hp];exact h1)
      rcases h2 with rfl | h2
      · exact hSp
      · have:=hpr _ hlt p (by rw [hp];exact h1)
        exact h p x h2 S hdc (hdc p (by omega) hSp)
    · rw [List.getD_eq_getElem?_getD,List.getElem?_eq_none (by simp;omega)] at hx
      simp at hx
noncomputable def dne (b:AO) (p:Pos):Bool:=match b.dst with
  | none=>true
  | some q=>!Pos.beq q p
noncomputable def subB (a:AOp) (o:Oper):Bool:=o.op.operands.toList.all fun
  | .tmp t=>(slotsA (opsA a)).any fun p=>Nat.beq p.nat (t + 1)
  | _=>true
noncomputable def kdOK (a:AO):Bool:=fixedK a.kd || (a.dst.isSome && (Nat.beq a.kd 1 || (Nat.beq a.kd 3 || ((Nat.beq a.kd 6 && Nat.beq (kdA a.op) 3) || ((Nat.beq a.kd 4 && isAl a.op) || (Nat.ble 8 a.kd && Nat.beq (kdA a.op) 1))))))
noncomputable def zld (m kd:Nat):Nat→List AO→Bool
  | _,[]=>true
  | n,b :: d=>(!Nat.beq b.kd 0 || (m.testBit b.ix || Nat.blt (n + 8) kd)) && zld m kd (match fixedK b.kd with | true=>n + 1 | false=>n) d
noncomputable def zop (m:Nat) (l:List Oper) (d:List AO) (a:AO) (t:List AO):Bool :=
  (!fixedK a.kd || d.all fun b=>m.testBit b.ix) &&
  ((match a.dst with | none=>true | some p=>d.all (fun b=>dne b p) && t.all (fun b=>dne b p)) &&
  ((readsA a).all (fun p=>dne a p && (t.all (fun b=>dne b p) && d.all (fun b=>dne b p || (m.testBit b.ix && (!(Nat.beq a.kd 1 || (Nat.beq a.kd 3 || Nat.ble 8 a.kd)) || !(Nat.beq b.kd 4 || Nat.beq b.kd 6)))))) &&
  ((!Nat.beq a.kd 1 || d.all fun b=>!Nat.beq b.kd 0 || m.testBit b.ix) && (!Nat.ble 8 a.kd || zld m a.kd 0 d) &&
  (t.all (fun b=>!Nat.beq b.ix a.ix) &&
  (kdOK a && (match l[a.ix]? with | none=>false | some o=>!selects o && subB a.op o))))))
noncomputable def zgo (an:List Nat) (l:List Oper) (d:List AO):List AO→Bool
  | []=>true
  | a :: t=>zop (an.getD a.ix 0) l d a t && zgo an l (a :: d) t
def tailA (a:AO):Bool:=Nat.beq a.kd 0 && (match a.op with | .mv _=>true | _=>false)
def splA:List AO→List AO
  | []=>[]
  | a :: t=>match tailA a with
    | true=>[]
    | false=>a :: splA t
def splB:List AO→List AO
  | []=>[]
  | a :: t=>match tailA a with
    | true=>a :: t
    | false=>splB t
theorem spl_eq:∀ os:List AO,os=splA os ++ splB os
  | []=>rfl
  | a :: t=>by
    unfold splA splB
    cases tailA a with
    | true=>rfl
    | false=>exact congrArg (a :: ·) (spl_eq t)
noncomputable def ztl (an:List Nat) (l:List Oper) (os:List AO):Bool :=
  ((splB os).all (fun a=>Nat.blt a.kd 8) && (splA os).all fun a=>Nat.blt a.kd 8 || ((readsA a).all (fun p=>(splB os).all fun b=>dne b p) && (match a.dst with | some p=>(splB os).all fun b=>dne b p | none=>true))) && (zgo an l [] (splA os) && (zgo an l [] (splB os) && (splB os).all fun b=>(splA os).all fun a=>!Nat.beq a.ix b.ix && (an.getD b.ix 0).testBit a.ix))
noncomputable def chkZ (l:List Oper) (os:List AO):Bool :=
  (List.range l.length).all (fun i=>(prI l i).all (Nat.blt · i)) && ((List.range l.length).all (fun i=>os.any fun a=>Nat.beq a.ix i) && (zgo (ancs [] l) l [] os || ztl (ancs [] l) l os))
def cntF (l:List AO):Nat:=l.countP fun b=>fixedK b.kd
structure ZOK (P:Program) (N:Nat) (l:List Oper) (os:List AO):Prop where
  ao:∀ a ∈ os,chkAO P N l a=true
  one:os.Pairwise fun a b=>a.ix ≠ b.ix
  pr:∀ i,i < l.length→∀ j ∈ prI l i,j < i
  anc:∀ s a t,os=s ++ a :: t→fixedK a.kd=true→∀ b ∈ s,AncP l b.ix a.ix
  wr:∀ s a t,os=s ++ a :: t→∀ p,a.dst=some p→∀ b ∈ s ++ t,b.dst ≠ some p
  rd:∀ s a t,os=s ++ a :: t→∀ p ∈ readsA a,∀ b ∈ a :: t,b.dst ≠ some p
  rdS:∀ a ∈ os,∀ p ∈ readsA a,∀ b ∈ os,b.dst=some p→AncP l b.ix a.ix
  kd:∀ a ∈ os,fixedK a.kd=true ∨ (a.dst ≠ none∧(a.kd=1 ∨ a.kd=3 ∨ (a.kd=6∧kdA a.op=3) ∨ (a.kd=4∧isAl a.op=true) ∨ (8 ≤ a.kd∧kdA a.op=1)))
  cl:∀ a ∈ os,a.kd=1 ∨ a.kd=3 ∨ 8 ≤ a.kd→∀ p ∈ readsA a,∀ b ∈ os,b.dst=some p→b.kd ≠ 4∧b.kd ≠ 6
  sel:∀ a ∈ os,∀ o,l[a.ix]?=some o→selects o=false
  sub:∀ a ∈ os,∀ o,l[a.ix]?=some o→Sub a.op o
  ld:∀ s a t,os=s ++ a :: t→a.kd=1→∀ b ∈ s,b.kd=0→AncP l b.ix a.ix
  ld8:∀ s a t,os=s ++ a :: t→8 ≤ a.kd→∀ s1 b s2,s=s1 ++ b :: s2→b.kd=0→AncP l b.ix a.ix ∨ cntF s2 + 8 < a.kd
theorem zld_at {m kd:Nat}:∀ (x:List AO) (b:AO) (y:List AO) (n:Nat),zld m kd n (x ++ b :: y)=true→b.kd=0→m.testBit b.ix=true ∨ n + cntF x + 8 < kd
  | [],b,y,n,h,h0=>by
    rw [List.nil_append,zld,h0] at h
    simp only [Bool.and_eq_true,Bool.or_eq_true,Nat.blt_eq] at h
    rcases h.1 with g | g | g
    · exact absurd g (by decide)
    · exact .inl g
    · exact .inr g
  | c :: x,b,y,n,h,h0=>by
    rw [List.cons_append,zld] at h
    simp only [Bool.and_eq_true] at h
    have:=zld_at x b y _ h.2 h0
    refine this.imp id fun h=>?_
    unfold cntF at h ⊢
    rw [List.countP_cons]
    cases hf:fixedK c.kd <;> rw [hf] at h <;> simp only [if_true,if_false,Bool.false_eq_true] at h ⊢ <;> omega
theorem Pos.beq_self:∀ p:Pos,p.beq p=true
  | .H=>rfl
  | .O p=>Pos.beq_self p
  | .I p=>Pos.beq_self p
theorem dne_ne {b:AO} {p:Pos} (h:dne b p=true):b.dst ≠ some p:=by
  intro e
  unfold dne at h
  rw [e] at h
  simp [Pos.beq_self] at h
theorem zgo_at {an:List Nat} {l:List Oper}:∀ (os d:List AO),zgo an l d os=true→∀ s a t,os=s ++ a :: t→zop (an.getD a.ix 0) l (s.reverse ++ d) a t=true
  | [],d,_,s,a,t,e=>by simp at e
  | b :: os,d,h,[],a,t,e=>by
    simp only [List.nil_append,List.cons.injEq] at e
    obtain ⟨rfl,rfl⟩:=e
    simp only [zgo,Bool.and_eq_true] at h
    exact h.1
  | b :: os,d,h,c :: s,a,t,e=>by
    simp only [List.cons_append,List.cons.injEq] at e
    obtain ⟨rfl,rfl⟩:=e
    simp only [zgo,Bool.and_eq_true] at h
    have:=zgo_at (s ++ a :: t) (b :: d) h.2 s a t rfl
    simpa using this
theorem pw_of {α:Type} {R:α→α→Prop}:∀ (l:List α),(∀ s a t,l=s ++ a :: t→∀ b ∈ t,R a b)→l.Pairwise R
  | [],_=>List.Pairwise.nil
  | a :: l,h=>List.pairwise_cons.2 ⟨fun b hb=>h [] a l rfl b hb,pw_of l fun s b t e=>h (a :: s) b t (by rw [e];rfl)⟩
theorem zok_of {P:Program} {N:Nat} {l:List Oper} {os:List AO} (hao:∀ a ∈ os,chkAO P N l a=true) (hpr:∀ i,i < l.length→∀ j ∈ prI l i,j < i) (hz:zgo (ancs [] l) l [] os=true):ZOK P N l os:=by
  have han:∀ i x,((ancs [] l).getD i 0).testBit x=true→AncP l x i:=ancs_ok hpr l [] [] rfl rfl fun i x h=>by simp at h
  have key:∀ s a t,os=s ++ a :: t→zop ((ancs [] l).getD a.ix 0) l s.reverse a t=true:=fun s a t e=>by
    have:=zgo_at os [] hz s a t e
    rwa [List.append_nil] at this
  have key2:∀ s a t,os=s ++ a :: t →
      (fixedK a.kd=true→∀ b ∈ s,AncP l b.ix a.ix)∧(∀ p,a.dst=some p→∀ b ∈ s ++ t,b.dst ≠ some p) ∧
      (∀ p ∈ readsA a,(∀ b ∈ a :: t,b.dst ≠ some p)∧∀ b ∈ s,b.dst=some p→AncP l b.ix a.ix∧(a.kd=1 ∨ a.kd=3 ∨ 8 ≤ a.kd→b.kd ≠ 4∧b.kd ≠ 6)) ∧
      ((a.kd=1→∀ b ∈ s,b.kd=0→AncP l b.ix a.ix)∧(8 ≤ a.kd→∀ s1 b s2,s=s1 ++ b :: s2→b.kd=0→AncP l b.ix a.ix ∨ cntF s2 + 8 < a.kd))∧(∀ b ∈ t,a.ix ≠ b.ix)∧kdOK a=true∧(∀ o,l[a.ix]?=some o→selects o=false∧subB a.op o=true):=by
    intro s a t e
    have hk:=key s a t e
    unfold zop at hk
    simp only [Bool.and_eq_true,List.all_eq_true,List.mem_reverse,Bool.or_eq_true,Bool.not_eq_true'] at hk
    obtain ⟨k1,k2,k3,⟨k4,k8⟩,k5,k6,k7⟩:=hk
    refine ⟨fun hf b hb=>?_,fun p hp b hb=>?_,fun p hp=>⟨fun b hb=>?_,fun b hb hd=>?_⟩,⟨fun h1 b hb h0=>?_,fun h8 s1 b s2 es h0=>?_⟩,fun b hb he=>?_,k6,fun o ho=>?_⟩
    · rcases k1 with k1 | k1
      · rw [hf] at k1;cases k1
      · exact han _ _ (k1 b hb)
    · rw [hp] at k2
      simp only [Bool.and_eq_true,List.all_eq_true,List.mem_reverse] at k2
      rcases List.mem_append.1 hb with hb | hb
      · exact dne_ne (k2.1 b hb)
      · exact dne_ne (k2.2 b hb)
    · obtain ⟨g1,g2,g3⟩:=k3 p hp
      rcases List.mem_cons.1 hb with rfl | hb
      · exact dne_ne g1
      · exact dne_ne (g2 b hb)
    · obtain ⟨g1,g2,g3⟩:=k3 p hp
      rcases g3 b hb with g | ⟨g,g'⟩
      · exact absurd hd (dne_ne g)
      · refine ⟨han _ _ g,fun hk=>?_⟩
        rcases g' with g' | g'
        · rcases hk with hk | hk | hk
          · rw [hk] at g';exact absurd g' (by decide)
          · rw [hk] at g';exact absurd g' (by decide)
          · simp only [Bool.or_eq_false_iff] at g'
            have h8:Nat.ble 8 a.kd=true:=by rw [Nat.ble_eq];exact hk
            rw [g'.2.2] at h8
            cases h8
        · constructor <;> intro h4 <;> rw [h4] at g' <;> exact absurd g' (by decide)
    · rcases k4 with k4 | k4
      · rw [h1] at k4;exact absurd k4 (by decide)
      · rcases k4 b hb with g | g
        · rw [h0] at g;exact absurd g (by decide)
        · exact han _ _ g
    · rcases k8 with k8 | k8
      · rw [← Bool.not_eq_true,Nat.ble_eq] at k8
        exact absurd h8 k8
      · rw [es,List.reverse_append,List.reverse_cons,List.append_assoc] at k8
        rcases zld_at s2.reverse b (s1.reverse) 0 (by simpa using k8) h0 with g | g
        · exact .inl (han _ _ g)
        · refine .inr ?_
          unfold cntF at g ⊢
          rw [List.countP_reverse] at g
          omega
    · have:=k5 b hb
      rw [he] at this
      simp at this
    · rw [ho] at k7
      simpa using k7
  have mem:∀ a ∈ os,∃ s t,os=s ++ a :: t:=fun a ha=>List.append_of_mem ha
  refine ⟨hao,pw_of os fun s a t e=>(key2 s a t e).2.2.2.2.1,hpr,fun s a t e=>(key2 s a t e).1,fun s a t e=>(key2 s a t e).2.1,fun s a t e p hp=>((key2 s a t e).2.2.1 p hp).1,fun a ha p hp b hb hd=>?_,fun a ha=>?_,fun a ha hk p hp b hb hd=>?_,fun a ha o ho=>?_,fun a ha o ho=>?_,fun s a t e=>(key2 s a t e).2.2.2.1.1,fun s a t e=>(key2 s a t e).2.2.2.1.2⟩
  · obtain ⟨s,t,e⟩:=mem a ha
    obtain ⟨g1,g2⟩:=(key2 s a t e).2.2.1 p hp
    rw [e] at hb
    rcases List.mem_append.1 hb with hb | hb
    · exact (g2 b hb hd).1
    · exact absurd hd (g1 b hb)
  · obtain ⟨s,t,e⟩:=mem a ha
    have hk:=(key2 s a t e).2.2.2.2.2.1
    unfold kdOK at hk
    simp only [Bool.or_eq_true,Bool.and_eq_true] at hk
    rcases hk with hk | ⟨h1,hk⟩
    · exact .inl hk
    · refine .inr ⟨fun e=>(by rw [e] at h1;cases h1),?_⟩
      rcases hk with hk | hk | ⟨hk,h2⟩ | ⟨hk,h2⟩ | ⟨hk,h2⟩
      · exact .inl (Nat.eq_of_beq_eq_true hk)
      · exact .inr (.inl (Nat.eq_of_beq_eq_true hk))
      · exact .inr (.inr (.inl ⟨Nat.eq_of_beq_eq_true hk,Nat.eq_of_beq_eq_true h2⟩))
      · exact .inr (.inr (.inr (.inl ⟨Nat.eq_of_beq_eq_true hk,h2⟩)))
      · exact .inr (.inr (.inr (.inr ⟨by rwa [Nat.ble_eq] at hk,Nat.eq_of_beq_eq_true h2⟩)))
  · obtain ⟨s,t,e⟩:=mem a ha
    obtain ⟨g1,g2⟩:=(key2 s a t e).2.2.1 p hp
    rw [e] at hb
    rcases List.mem_append.1 hb with hb | hb
    · exact (g2 b hb hd).2 hk
    · exact absurd hd (g1 b hb)
  · obtain ⟨s,t,e⟩:=mem a ha
    exact ((key2 s a t e).2.2.2.2.2.2 o ho).1
  · obtain ⟨s,t,e⟩:=mem a ha
    have h1:=((key2 s a t e).2.2.2.2.2.2 o ho).2
    unfold subB at h1
    rw [List.all_eq_true] at h1
    intro x hx
    have:=h1 (.tmp x) (by simpa using hx)
    simp only [List.any_eq_true] at this
    obtain ⟨p,g1,g2⟩:=this
    exact ⟨p,g1,by rw [Nat.eq_of_beq_eq_true g2];rfl⟩
structure ZAll (P:Program) (N:Nat) (l:List Oper) (os A B:List AO):Prop where
  eq:os=A ++ B
  za:ZOK P N l A
  zb:ZOK P N l B
  cross:∀ b ∈ B,∀ a ∈ A,a.ix ≠ b.ix∧AncP l a.ix b.ix
  low:∀ b ∈ B,b.kd < 8
  far:∀ a ∈ A,8 ≤ a.kd→∀ p,p ∈ readsA a ∨ a.dst=some p→∀ b ∈ B,b.dst ≠ some p
  all:∀ i,i < l.length→∃ a ∈ os,a.ix=i
theorem chkZ_ok {P:Program} {N:Nat} {l:List Oper} {os:List AO} (hao:∀ a ∈ os,chkAO P N l a=true) (h:chkZ l os=true):∃ A B,ZAll P N l os A B:=by
  unfold chkZ at h
  rw [Bool.and_eq_true,Bool.and_eq_true,Bool.or_eq_true] at h
  obtain ⟨hpr0,hall0,hz⟩:=h
  simp only [List.all_eq_true,List.mem_range,Nat.blt_eq,List.any_eq_true] at hpr0 hall0
  have hpr:∀ i,i < l.length→∀ j ∈ prI l i,j < i:=hpr0
  have hall:∀ i,i < l.length→∃ a ∈ os,a.ix=i:=fun i hi=>by
    obtain ⟨a,h1,h2⟩:=hall0 i hi
    exact ⟨a,h1,Nat.eq_of_beq_eq_true h2⟩
  have han:∀ i x,((ancs [] l).getD i 0).testBit x=true→AncP l x i:=ancs_ok hpr l [] [] rfl rfl fun i x h=>by simp at h
  rcases hz with hz | hz
  · exact ⟨os,[],by simp,zok_of hao hpr hz,zok_of (fun a ha=>by simp at ha) hpr rfl,fun b hb=>by simp at hb,fun b hb=>by simp at hb,fun a _ _ p _ b hb=>by simp at hb,hall⟩
  · unfold ztl at hz
    simp only [Bool.and_eq_true,List.all_eq_true,Nat.blt_eq,Bool.not_eq_true'] at hz
    obtain ⟨⟨h1,h5⟩,h2,h3,h4⟩:=hz
    have e:=spl_eq os
    refine ⟨splA os,splB os,e,zok_of (fun a ha=>hao a (by rw [e];simp [ha])) hpr h2,zok_of (fun a ha=>hao a (by rw [e];simp [ha])) hpr h3,fun b hb a ha=>⟨fun e=>?_,han _ _ (h4 b hb a ha).2⟩,h1,fun a ha h8 p hp b hb=>?_,hall⟩
    · have:=(h4 b hb a ha).1
      rw [e] at this
      simp at this
    · have h6:=h5 a ha
      simp only [Bool.or_eq_true,Bool.and_eq_true,List.all_eq_true,Nat.blt_eq] at h6
      rcases h6 with h6 | ⟨h6,h7⟩
      · omega
      · rcases hp with hp | hp
        · exact dne_ne (h6 p hp b hb)
        · rw [hp] at h7
          simp only [List.all_eq_true] at h7
          exact dne_ne (h7 b hb)
theorem lchk_pre {tb:Tr AF} {ex exY:Run} {σf:Tr AV} {h:AH}:∀ (x y:List AO) (n:Nat),lchk tb ex exY σf h n (x ++ y)=true→lchk tb ex exY σf h n x=true
  | [],_,_,_=>rfl
  | a :: x,y,n,hl=>by
    rw [List.cons_append,lchk_cons] at hl
    rw [lchk_cons]
    cases hf:fixedK a.kd with
    | true =>
      rw [hf] at hl
      exact lchk_pre x y _ hl
    | false =>
      rw [hf] at hl
      simp only [Bool.and_eq_true] at hl ⊢
      exact ⟨hl.1,lchk_pre x y _ hl.2⟩
theorem lchk_at {tb:Tr AF} {ex exY:Run} {σf:Tr AV} {h:AH}:∀ (x:List AO) (a:AO) (y:List AO) (n:Nat),lchk tb ex exY σf h n (x ++ a :: y)=true→fixedK a.kd=false→n + cntF x + 8 < a.kd→ldSame tb ex exY σf h a=true
  | [],a,y,n,hl,hf,hn=>by
    rw [List.nil_append,lchk_cons,hf] at hl
    simp only [Bool.and_eq_true] at hl
    have hb:Nat.blt (n + 8) a.kd=true:=by rw [Nat.blt_eq];exact hn
    rw [hb] at hl
    exact hl.1
  | c :: x,a,y,n,hl,hf,hn=>by
    rw [List.cons_append,lchk_cons] at hl
    unfold cntF at hn
    rw [List.countP_cons] at hn
    cases hc:fixedK c.kd with
    | true =>
      rw [hc] at hl hn
      exact lchk_at x a y _ hl hf (by unfold cntF;simp only [if_true] at hn;omega)
    | false =>
      rw [hc] at hl hn
      simp only [Bool.and_eq_true] at hl
      exact lchk_at x a y _ hl.2 hf (by unfold cntF;simp only [if_false,Bool.false_eq_true] at hn;omega)
def LCK (tb:Tr AF) (ex exY:Run) (os:List AO) (σ0:Tr AV) (h0:AH) (σf:Tr AV):Prop :=
  ∀ s b t,os=s ++ b :: t→b.kd=0→∀ σ1 h1,runOps tb ex exY s σ0 h0=some (σ1,h1)→lchk tb ex exY σf h1 0 t=true
theorem runL_ok {tb:Tr AF} {ex exY:Run}:∀ (os:List AO) (σ:Tr AV) (h:AH) (r:Tr AV × AH),runL tb ex exY os σ h=some r→runOps tb ex exY os σ h=some r∧LCK tb ex exY os σ h r.1
  | [],σ,h,r,hr=>by
    rw [runL_nil] at hr
    exact ⟨by rw [runOps_nil];exact hr,fun s b t e=>by simp at e⟩
  | o :: os,σ,h,r,hr=>by
    rw [runL_cons] at hr
    split at hr
    · cases hr
    · rename_i q hq
      split at hr
      · cases hr
      · rename_i r' hr'
        have e:r'=r:=by
          split at hr
          · split at hr
            · cases hr;rfl
            · cases hr
          · cases hr;rfl
        subst e
        obtain ⟨g1,g2⟩:=runL_ok os _ _ _ hr'
        have g0:∀ s,runOps tb ex exY (o :: s) σ h=runOps tb ex exY s q.1 q.2:=by
          intro s
          rw [runOps_cons]
          unfold stepL at hq
          cases hw:wantA σ o.grd with
          | true =>
            rw [hw] at hq
            simp only at hq ⊢
            split at hq
            · rename_i y hy
              cases hq
              rfl
            · cases hq
          | false =>
            rw [hw] at hq
            cases hq
            rfl
        refine ⟨by rw [g0];exact g1,fun s b t e h0 σ1 h1 hs=>?_⟩
        cases s with
        | nil =>
          simp only [List.nil_append,List.cons.injEq] at e
          obtain ⟨rfl,rfl⟩:=e
          rw [runOps_nil] at hs
          cases hs
          have hb:Nat.beq o.kd 0=true:=by rw [h0];rfl
          rw [hb] at hr
          simp only at hr
          split at hr
          · assumption
          · cases hr
        | cons c s =>
          simp only [List.cons_append,List.cons.injEq] at e
          obtain ⟨rfl,rfl⟩:=e
          rw [g0] at hs
          exact g2 s b t rfl h0 σ1 h1 hs
theorem lck_triv {tb:Tr AF} {ex exY:Run} {os:List AO} {σ:Tr AV} {h:AH} {σf:Tr AV} (hk:∀ a ∈ os,a.kd < 8):LCK tb ex exY os σ h σf:=by
  intro s b t e _ σ1 h1 _
  have:∀ (l:List AO) (n:Nat),(∀ a ∈ l,a.kd < 8)→lchk tb ex exY σf h1 n l=true:=by
    intro l
    induction l with
    | nil=>intro n _;rfl
    | cons a l ih =>
      intro n hl
      rw [lchk_cons]
      have ha:=hl a (by simp)
      have hb:Nat.blt (n + 8) a.kd=false:=by rw [← Bool.not_eq_true,Nat.blt_eq];omega
      cases fixedK a.kd with
      | true=>exact ih _ fun b hb=>hl b (by simp [hb])
      | false =>
        simp only [hb,Bool.true_and]
        exact ih _ fun b hb=>hl b (by simp [hb])
  exact this t 0 fun a ha=>hk a (by rw [e];simp [ha])
end Go.KX
namespace Go.KX
open Go.RowKit Go.KL
def kdAt (i:Nat):List AO→Nat
  | []=>0
  | a :: os=>match Nat.beq a.ix i with
    | true=>a.kd
    | false=>kdAt i os
def lazyA (os:List AO):Bool:=os.any fun a=>Nat.blt 3 a.kd
noncomputable def chkR (P:Program) (N:Nat) (os:List AO) (l:List Oper) (draw:Bool):Bool :=
  let ks:=(List.range l.length).map fun i=>kdAt i os
  os.all (fun a=>chkAO P N l a && Nat.beq (kOf ks a.ix) a.kd) && (match draw with
    | true=>(match lazyA os with
      | true=>os.all (fun a=>Nat.blt a.kd 8) && chkZ l os
      | false=>ordChk l ks (schOf os))
    | false=>inOrder 0 (schOf os) l.length)
noncomputable def chkTs (N:Nat):List Pos→List Nat→Bool
  | [],[]=>true
  | t :: ts,p :: ps=>(Nat.beq t.nat (p + 1) && Nat.blt p N) && chkTs N ts ps
  | _,_=>false
theorem chkTs_ok {N:Nat}:∀ {ts:List Pos} {ps:List Nat},chkTs N ts ps=true→ts.map Pos.nat=ps.map (· + 1)∧∀ x ∈ ps,x < N
  | [],[],_=>by simp
  | t :: ts,p :: ps,h=>by
    simp only [chkTs,Bool.and_eq_true,Nat.blt_eq] at h
    obtain ⟨⟨h1,h2⟩,h3⟩:=h
    obtain ⟨h4,h5⟩:=chkTs_ok h3
    refine ⟨by simp [h4,Nat.eq_of_beq_eq_true h1],?_⟩
    intro x hx
    rcases List.mem_cons.1 hx with rfl | hx
    · exact h2
    · exact h5 x hx
  | [],_ :: _,h=>by simp [chkTs] at h
  | _ :: _,[],h=>by simp [chkTs] at h
theorem setL_env {μ:Mu}:∀ {ts:List Pos} {ns:List Nat} {σA σB:Tr AV} {σ:Env} {as:List AV} {vs:List Value},setL σA ts as=some σB→ts.map Pos.nat=ns.map (· + 1)→RvL μ as vs→EnvR μ σA σ→EnvR μ σB (updL σ ns vs)∧ns.length=vs.length
  | [],ns,σA,σB,σ,as,vs,hs,hn,hv,hE=>by
    cases ns with
    | cons _ _=>simp at hn
    | nil =>
      cases as with
      | cons _ _=>simp [setL] at hs
      | nil=>cases hv;simp only [setL,Option.some.injEq] at hs;subst hs;exact ⟨hE,rfl⟩
  | t :: ts,ns,σA,σB,σ,as,vs,hs,hn,hv,hE=>by
    cases ns with
    | nil=>simp at hn
    | cons n ns =>
      cases as with
      | nil=>simp [setL] at hs
      | cons a as =>
        obtain ⟨v,ws,h1,h2,rfl⟩:=hv
        simp only [List.map_cons,List.cons.injEq] at hn
        have hp:=hE.put (p:=t) h1
        have e:t.nat - 1=n:=by omega
        rw [e] at hp
        obtain ⟨g1,g2⟩:=setL_env (ts:=ts) (ns:=ns) (σA:=σA.set t a) (σ:=upd σ n v) (by simpa [setL] using hs) hn.2 h2 hp
        exact ⟨g1,by simp [g2]⟩
noncomputable def chkC (P:Program) (N:Nat):AC→Code→Bool
  | .skip,.skip=>true
  | .skip,.label _=>true
  | .rg os,.region _ ops draw=>chkR P N os ops.toList draw
  | .rl os,.region _ ops draw=>draw && (os.all (fun a=>chkAO P N ops.toList a) && chkZ ops.toList os)
  | .seq a b,.seq c d=>chkC P N a c && chkC P N b d
  | .cond x a b,.cond y c d=>chkD x y && (chkC P N a c && chkC P N b d)
  | .block i a,.block j c=>Nat.beq i j && chkC P N a c
  | .loop a,.loop c=>chkC P N a c
  | .scope a,.scope c=>chkC P N a c
  | .rf g t asg body,.rangeFunc g' ps asg' body'=>chkD g g' && (chkTs N t ps.toList && (chkC P N asg asg' && chkC P N body body'))
  | .exit i,.exit j=>Nat.beq i j
  | .ret,.ret=>true
  | _,_=>false
def CC (P:Program):Chk:=fun a c N=>chkC P N a c=true
section
variable {P:Program} {tb:Tr AF} {μ μ' μ'':Mu} {w w' w'':World} {h h' h'':AH} {σ:Env} {σA:Tr AV}
def Mk (μ:Mu) (w:World) (n0:Nat) (D:List Deferred):Prop:=∃ rbs:List Nat,D=rbs.map mark∧rbs.Nodup∧∀ rb ∈ rbs,Dfr w rb∧n0 ≤ rb∧∀ p c,μ p=some c→c.1 ≠ rb
theorem Mk.nil (μ:Mu) (w:World) (n0:Nat):Mk μ w n0 []:=⟨[],rfl,by simp,by simp⟩
theorem Mk.ext {n0 fl:Nat} {D:List Deferred} (M:Mk μ w n0 D) (E:Ext μ fl w μ' w'):Mk μ' w' n0 D:=by
  obtain ⟨rbs,h1,h2,h3⟩:=M
  refine ⟨rbs,h1,h2,fun rb hrb=>?_⟩
  obtain ⟨g1,g2,g3⟩:=h3 rb hrb
  refine ⟨g1.keep E.keep fun ⟨p,d,q1,q2,_⟩=>g3 p d q1 q2,g2,fun p c hp=>?_⟩
  rcases E.new p c hp with q | ⟨p',d,q1,q2,_⟩ | q
  · exact g3 p c q
  · rw [← q2];exact g3 p' d q1
  · have:=g1.lt;omega
def PostX (P:Program) (μ:Mu) (fl:Pos) (w:World) (n0:Nat) (rr:Option Nat) (D:List Deferred) (e:Ex) (σA':Tr AV) (h':AH):Post:=fun D' e' σ' w' =>
  e'=exC e∧∃ μ',Ext μ fl.nat w μ' w'∧Sim (CC P) P μ' h' w'∧EnvR μ' σA' σ'∧Mk μ' w' n0 D'∧h'.fl=fl∧(rr.isSome=true→D'=D)
def ExecOK (P:Program) (ex:Run) (r:Bool):Prop:=∀ c σA h e σA' h',ex c σA h=some (e,σA',h')→∀ code N,chkC P N c code=true→∀ (rr:Option Nat) (μ:Mu) (σ:Env) (w:World) (D:List Deferred) (n0:Nat),
  rr.isSome=r→Sim (CC P) P μ h w→EnvR μ σA σ→Mk μ w n0 D→n0 ≤ w.heap.size→CK rr N P code (PostX P μ h.fl w n0 rr D e σA' h') D σ w
def LoopOK (P:Program) (ex:Run) (r:Bool) (m:Nat):Prop:=∀ c σA h e σA' h',ex (.loop c) σA h=some (e,σA',h')→∀ code N,chkC P N c code=true→∀ (rr:Option Nat) (μ:Mu) (σ:Env) (w:World) (D:List Deferred) (n0:Nat),
  rr.isSome=r→Sim (CC P) P μ h w→EnvR μ σA σ→Mk μ w n0 D→n0 ≤ w.heap.size→∀ a,Rep N D a σ→Code.roundsIn (WF rr) 0 P code (liftQ N (PostX P μ h.fl w n0 rr D e σA' h')) m a w
theorem PostX.trans {fl:Pos} {n0:Nat} {rr:Option Nat} {D D1 D':List Deferred} {e:Ex} {e':Exit} {σA':Tr AV} {σ':Env} (E:Ext μ fl.nat w μ' w') (hD:rr.isSome=true→D1=D) (hP:PostX P μ' fl w' n0 rr D1 e σA' h' D' e' σ' w''):PostX P μ fl w n0 rr D e σA' h' D' e' σ' w'':=by
  obtain ⟨h1,μ2,h2,h3,h4,h5,h6,h7⟩:=hP
  exact ⟨h1,μ2,E.trans h2,h3,h4,h5,h6,fun hr=>(h7 hr).trans (hD hr)⟩
theorem rounds_mono {F:Fence} {n:Nat} {c:Code} {Q Q':Exit→Act→World→Prop} (hQ:∀ e a w,Q e a w→Q' e a w):∀ (m:Nat) (a:Act) (w:World),Code.roundsIn F n P c Q m a w→Code.roundsIn F n P c Q' m a w
  | 0,_,_,h=>h.elim
  | m + 1,a,w,h=>by
    rw [roundsIn_succ] at h ⊢
    refine wpIn_mono h fun e a w q=>?_
    cases e with
    | normal=>exact rounds_mono hQ m a w q
    | _=>exact hQ _ _ _ q
theorem Ext.drew (μ:Mu) (fl:Nat) (w:World):Ext μ fl w μ { w with drawn:=w.drawn + 1 }:=⟨Mu.Le.refl μ,fun _ _ h=>.inl h,(Keep.drew w).weak fun _ _ h=>h.elim⟩
theorem Sim.keepX {C:Chk} {X:Nat→Prop} (S:Sim C P μ h w) (K:Keep w w' X) (hX:∀ p c,μ p=some c→¬ X c.1):Sim C P μ h w' :=
  ⟨S.nx,fun p c hp=>Nat.lt_of_lt_of_le (S.lt p c hp) K.size,S.inj,fun p b hb=>let ⟨c,h1,h2⟩:=S.at_ p b hb;⟨c,h1,h2.keep K (hX p c h1)⟩⟩
noncomputable def chkRes (P:Program):List AR→List ResultVar→Bool
  | [],[]=>true
  | .t p :: l,.tmp t :: k=>Nat.beq p.nat (t + 1) && chkRes P l k
  | .c p n :: l,.cell a t :: k=>Nat.beq p.nat (a + 1) && ((match n with | none=>aggT P t false | some n=>aggT P t true && szT P t n) && chkRes P l k)
  | _,_=>false
noncomputable def chkF (P:Program) (k:Nat) (af:AF):Bool:=match P.funcs[k]? with
  | none=>false
  | some fn=>match fn.body with
    | none=>false
    | some c => Nat.beq fn.ntmps af.n && (chkRes P af.res fn.results.toList && (!(fn.name == "runtime.NumGoroutine") && chkC P fn.ntmps af.body c))
theorem ress_ok {C:Chk} (hE:EnvR μ σA σ) (S:Sim C P μ h w):∀ {l:List AR} {k:List ResultVar} {vs:List AV},chkRes P l k=true→ress σA h l=some vs→∃ VS,RvL μ vs VS∧ResL P w σ k VS
  | [],[],vs,_,hr=>by simp only [ress] at hr;cases hr;exact ⟨[],rfl,trivial⟩
  | .t p :: l,.tmp t :: k,vs,hc,hr=>by
    simp only [chkRes,Bool.and_eq_true] at hc
    simp only [ress,res1] at hr
    split at hr
    · rename_i vs' hvs
      cases hr
      obtain ⟨VS,g1,g2⟩:=ress_ok hE S hc.2 hvs
      have e:=Nat.eq_of_beq_eq_true hc.1
      have g:=hE p
      rw [e] at g
      exact ⟨_,rvL_cons g g1,rfl,g2⟩
    · cases hr
  | .c p n :: l,.cell a t :: k,vs,hc,hr=>by
    simp only [chkRes,Bool.and_eq_true] at hc
    obtain ⟨c1,c2,c3⟩:=hc
    have e:=Nat.eq_of_beq_eq_true c1
    have g:=hE p
    rw [e] at g
    rw [ress] at hr
    split at hr
    · rename_i v hv
      split at hr
      · rename_i vs' hvs
        cases hr
        obtain ⟨VS,g1,g2⟩:=ress_ok hE S c3 hvs
        simp only [res1] at hv
        split at hv
        · rename_i b off hb
          split at hv
          · rename_i cl hcl
            obtain ⟨c,ws,q1,q2,q3⟩:=cellsAt_ok hcl S
            rw [hb] at g
            obtain ⟨c',k1,k2⟩:=g
            rw [q1] at k1;cases k1
            have k2:σ a=.pointer (some ⟨c.1,off,none⟩):=k2
            split at hv
            · rw [nth_eq] at hv
              obtain ⟨cv,r1,r2⟩:=rvL_get q2 hv
              refine ⟨_,rvL_cons r2 g1,⟨_,k2,?_⟩,g2⟩
              simp [loadVar,aggT_ok c2,load,Sem.run,q3 w (Keep.refl w _) _ _ r1]
            · rename_i n
              simp only [Bool.and_eq_true] at c2
              obtain ⟨r,hr3,rfl⟩:=optAgg_some hv
              obtain ⟨r1,r2⟩:=rvL_sub hr3 q2
              refine ⟨_,rvL_cons ⟨_,r1,rfl⟩ g1,⟨_,k2,?_⟩,g2⟩
              have:=KL.run_loadCells (P:=P) (w:=w) (b:=c.1) (off:=off) (n:=n) ((ws.drop off).take n) (by simp;omega) fun j u hu=>q3 w (Keep.refl w _) _ _ (sub_cells rfl j u hu)
              simp [loadVar,aggT_ok c2.1,szT_ok c2.2,this]
          · cases hv
        · cases hv
      · cases hr
    · cases hr
  | [],_ :: _,_,hc,_=>by simp [chkRes] at hc
  | .t _ :: _,[],_,hc,_=>by simp [chkRes] at hc
  | .c _ _ :: _,[],_,hc,_=>by simp [chkRes] at hc
  | .t _ :: _,.cell _ _ :: _,_,hc,_=>by simp [chkRes] at hc
  | .c _ _ :: _,.tmp _ :: _,_,hc,_=>by simp [chkRes] at hc
theorem resA_ok {C:Chk} {l:List AR} {rs:Array ResultVar} {v:AV} (hE:EnvR μ σA σ) (S:Sim C P μ h w) (hc:chkRes P l rs.toList=true) (hr:resA σA h l=some (v,h')):h'=h∧∃ cv,Rv μ v cv∧(resRun rs σ).run P w=.ok cv w:=by
  unfold resA at hr
  split at hr
  · rename_i vs hvs
    cases hr
    refine ⟨rfl,?_⟩
    obtain ⟨VS,g1,g2⟩:=ress_ok hE S hc hvs
    have hrs:rs=rs.toList.toArray:=by simp
    unfold tupA
    split
    · rename_i v
      obtain ⟨cv,ws,q1,q2,q3⟩:=g1
      cases q2
      subst q3
      refine ⟨cv,q1,?_⟩
      have hl:∃ r,rs=#[r]:=by
        cases hq:rs.toList with
        | nil=>rw [hq] at g2;exact g2.elim
        | cons r k =>
          cases k with
          | nil=>exact ⟨r,Array.ext' (by simpa using hq)⟩
          | cons r' k=>rw [hq] at g2;cases r <;> cases r' <;> exact g2.2.elim
      obtain ⟨r,rfl⟩:=hl
      exact resL1 g2
    · rename_i hne
      refine ⟨_,⟨VS,g1,rfl⟩,?_⟩
      rw [hrs]
      refine resLn g2 ?_
      have hl:=rvL_len g1
      cases hb:VS.length == 1 with
      | false=>rfl
      | true =>
        have:vs.length=1:=by rw [← hl];exact eq_of_beq hb
        obtain ⟨v,hv⟩:=List.length_eq_one_iff.1 this
        exact absurd hv (hne v)
  · cases hr
def TabOK (P:Program) (tb:Tr AF):Prop:=∀ p af,tb.get p=some af→chkF P (p.nat - 1) af=true
theorem call_of (T:TabOK P tb) {ex:Run} (HE:ExecOK P ex false):CallOK (CC P) P tb ex:=by
  intro f args h v h' hr
  unfold callW at hr
  split at hr
  · rename_i af haf
    have hcf:=T f af haf
    unfold chkF at hcf
    split at hcf
    · cases hcf
    · rename_i fn hfn
      split at hcf
      · cases hcf
      · rename_i c hbody
        simp only [Bool.and_eq_true,Bool.not_eq_true'] at hcf
        obtain ⟨c1,c2,c3,c4⟩:=hcf
        refine ⟨fun a w=>?_,fun μ w vs S hv=>?_⟩
        · have c3' : ¬ fn.name = "runtime.NumGoroutine" := by simpa using c3
          simp [callFunc,program,Sem.run,hfn,hbody,c3']
        · split at hr
          · rename_i hle
            have hle:=Nat.le_of_ble_eq_true hle
            have e1:=Nat.eq_of_beq_eq_true c1
            have key:∀ e σA' h1,ex af.body (initA args .H .e) h=some (e,σA',h1)→(e=.nrm ∨ e=.ret)→resA σA' h1 af.res=some (v,h')→Gv P (f.nat - 1) vs w fun cv w'=>∃ μ',Ext μ h.fl.nat w μ' w'∧Sim (CC P) P μ' h' w'∧Rv μ' v cv∧h'.fl=h.fl:=by
              intro e σA' h1 hx he hres
              refine Gv.ofM hfn hbody rfl rfl (by rw [rvL_len hv,← len_eq,e1];exact hle) ?_
              refine (HE _ _ _ _ _ _ hx c fn.ntmps c4 none μ (init vs) w [] w.heap.size rfl S (init_ok hv) (Mk.nil μ w _) (Nat.le_refl _)).mono ?_
              rintro D' e' σ' w' ⟨rfl,μ',q1,q2,q3,q4,q5,_⟩
              obtain ⟨rbs,m1,m2,m3⟩:=q4
              have fin:∃ rbs:List Nat,D'=rbs.map mark∧rbs.Nodup∧(∀ rb ∈ rbs,Dfr w' rb)∧∀ w2,Keep w' w2 (· ∈ rbs)→w2.heap.size=w'.heap.size→∃ cv,(resRun fn.results σ').run P w2=.ok cv w2∧∃ μ',Ext μ h.fl.nat w μ' w2∧Sim (CC P) P μ' h' w2∧Rv μ' v cv∧h'.fl=h.fl:=by
                refine ⟨rbs,m1,m2,fun rb hrb=>(m3 rb hrb).1,fun w2 K hs=>?_⟩
                have S2:=q2.keepX K fun p c hp hm=>(m3 _ hm).2.2 p c hp rfl
                obtain ⟨rfl,cv,r1,r2⟩:=resA_ok q3 S2 c2 hres
                refine ⟨cv,r2,μ',⟨q1.mono,q1.new,?_⟩,S2,r1,q5⟩
                exact q1.keep.step K fun i hi hm=>absurd (m3 i hm).2.1 (Nat.not_le.2 hi)
              rcases he with rfl | rfl
              · exact fin
              · exact fin
            split at hr
            · exact key _ _ _ (by assumption) (.inl rfl) hr
            · exact key _ _ _ (by assumption) (.inr rfl) hr
            · cases hr
          · cases hr
  · cases hr
theorem yield_of {ex:Run} (HE:ExecOK P ex true):YieldOK (CC P) P ex:=by
  intro b args h v h' hr
  unfold yieldW at hr
  split at hr
  · rename_i σA t asg body hB
    intro μ w xv c S hx hc
    split at hr <;> first | (cases hr;done) | skip
    rename_i σS hset
    split at hr <;> first | (cases hr;done) | skip
    rename_i σ1 h1 hasg
    split at hr <;> first | (cases hr;done) | skip
    rename_i σx tx ax bx hB1
    split at hr <;> first | (cases hr;done) | skip
    rename_i h2 hput2
    split at hr <;> first | (cases hr;done) | skip
    rename_i e σ3 h3 hbody
    split at hr <;> first | (cases hr;done) | skip
    rename_i σy ty ay by_ hB3
    split at hr <;> first | (cases hr;done) | skip
    rename_i h4 hput4
    cases hr
    obtain ⟨c',g1,g2⟩:=S.at_ b _ hB
    rw [hc] at g1;cases g1
    have L:LoopR (CC P) μ w c σA t asg body .ready:=g2
    obtain ⟨hSE,hSl⟩:=setL_env hset L.ht hx L.env
    refine Yd.of L.at_ L.tN hSl fun σ0 hσ0=>?_
    have hE0:EnvR μ σS σ0:=by
      intro p
      rw [hσ0];exact hSE p
    refine (HE _ _ _ _ _ _ hasg c.g.ac c.g.N L.asg (some c.1) μ σ0 w [] 0 rfl S hE0 (Mk.nil μ w _) (Nat.zero_le _)).mono ?_
    rintro D' e' σ' w1 ⟨rfl,μ1,q1,q2,q3,q4,q5,q6⟩
    have hc1:=q1.mono b c hc
    obtain ⟨c',r1,r2⟩:=q2.at_ b _ hB1
    rw [hc1] at r1;cases r1
    have L1:LoopR (CC P) μ1 w1 c σx tx ax bx .ready:=r2
    refine ⟨rfl,q6 rfl,L1.at_,fun w2 hl2 K hs=>?_⟩
    obtain ⟨s1,s2,s3⟩:=q2.put hput2 hB1 trivial hc1 K (B':=.loop σA t asg body .busy) ⟨hl2,L.env.mono q1.mono,L.ht,L.tN,L.asg,L.body⟩
    rw [q5] at s2 s3
    refine (HE _ _ _ _ _ _ hbody c.g.bc c.g.N L.body (some c.1) μ1 σ' w2 [] 0 rfl s1 q3 (Mk.nil μ1 w2 _) (Nat.zero_le _)).mono ?_
    rintro D'' e'' σ'' w3 ⟨rfl,μ3,t1,t2,t3,t4,t5,t6⟩
    rw [s3] at t1 t5
    have hc3:=t1.mono b c hc1
    obtain ⟨c',u1,u2⟩:=t2.at_ b _ hB3
    rw [hc3] at u1;cases u1
    have L3:LoopR (CC P) μ3 w3 c σy ty ay by_ .busy:=u2
    have fin:∀ w4,LoopAt w4 c.1 c.g.N c.g.σ c.g.t c.g.ac c.g.bc c.g.rb c.g.fn (lsC e.done).1 (lsC e.done).2→Keep w3 w4 (·=c.1)→∃ μ',Ext μ h.fl.nat w μ' w4∧Sim (CC P) P μ' h' w4∧AV.bool e.go=.bool e.go∧h'.fl=h.fl:=by
      intro w4 hl4 K4
      obtain ⟨v1,v2,v3⟩:=t2.put hput4 hB3 trivial hc3 K4 (B':=.loop σA t asg body e.done) ⟨hl4,(L.env.mono q1.mono).mono t1.mono,L.ht,L.tN,L.asg,L.body⟩
      rw [t5] at v2 v3
      exact ⟨μ3,(q1.trans s2).trans (t1.trans v2),v1,rfl,v3⟩
    cases e with
    | nrm=>exact ⟨L3.at_,fun w4 hl K4 _=>fin w4 hl K4⟩
    | ret=>exact ⟨L3.at_,fun w4 hl K4 _=>fin w4 hl K4⟩
    | exit i=>exact ⟨L3.at_,fun w4 hl K4 _=>fin w4 hl K4⟩
  · cases hr
end
end Go.KX
namespace Go.KX
open Go.RowKit Go.KL
theorem seqK_eq (b:AC) (exR:Run) (e:Ex) (σ:Tr AV) (h:AH):seqK b exR (e,σ,h)=(match e with | .nrm=>exR b σ h | e=>some (e,σ,h)):=by cases e <;> rfl
theorem optR {x:R} {k:Ex × Tr AV × AH→R} {r:Ex × Tr AV × AH} (hr:Option.rec (motive:=fun _=>R) none k x=some r):∃ y,x=some y∧k y=some r:=by
  cases x with
  | none=>cases hr
  | some y=>exact ⟨y,rfl,hr⟩
structure Fr (h h':AH):Prop where
  nx:h.nx.nat ≤ h'.nx.nat
  fl:h'.fl=h.fl
  get:∀ p,p.nat < h.fl.nat→p.nat < h.nx.nat→h'.m.get p=h.m.get p
theorem Fr.refl (h:AH):Fr h h:=⟨Nat.le_refl _,rfl,fun _ _ _=>rfl⟩
theorem Fr.trans {a b c:AH} (h:Fr a b) (k:Fr b c):Fr a c :=
  ⟨Nat.le_trans h.nx k.nx,k.fl.trans h.fl,fun p h1 h2=>(k.get p (by rw [h.fl];exact h1) (Nat.lt_of_lt_of_le h2 h.nx)).trans (h.get p h1 h2)⟩
theorem Fr.push (h:AH) (B:AB):Fr h (h.push B):=by
  refine ⟨?_,rfl,fun p _ h2=>?_⟩
  · show h.nx.nat ≤ h.nx.succ.nat
    rw [Pos.nat_succ];omega
  · show (h.m.set h.nx B).get p=_
    rw [Tr.get_set,if_neg (fun e=>by subst e;omega)]
theorem Fr.put {h h':AH} {p:Pos} {B:AB} (hp:h.put p B=some h'):Fr h h':=by
  obtain ⟨h1,rfl⟩:=put_some hp
  refine ⟨Nat.le_refl _,rfl,fun q h2 _=>?_⟩
  show (h.m.set p B).get q=_
  rw [Tr.get_set,if_neg (fun e=>by subst e;omega)]
theorem Fr.setAt {h h':AH} {b:Pos} {off:Nat} {vs:List AV} (hs:KX.setAt h b off vs=some h'):Fr h h':=by
  unfold KX.setAt at hs
  split at hs
  · split at hs
    · exact Fr.put hs
    · cases hs
  · split at hs
    · exact Fr.put hs
    · cases hs
  · cases hs
theorem okV_h {h h':AH} {o:Option AV} {v:AV} (hr:okV h o=some (v,h')):h'=h:=by
  cases o with
  | none=>cases hr
  | some x=>cases hr;rfl
theorem ifO_h {α:Type} {b:Bool} {x:Option α} {y:α} (hr:ifO b x=some y):x=some y:=by
  cases b with
  | true=>exact hr
  | false=>cases hr
section
variable {tb:Tr AF} {ex exY:Run} {σ:Tr AV} {h h':AH} {v:AV}
theorem fr_app {T sz by_ m:Nat} {news:List AV} {x:AV} (hr:app h T sz by_ m news x=some (v,h')):Fr h h':=by
  unfold app at hr
  split at hr
  · split at hr <;> first | (cases hr;exact Fr.refl _) | (cases hr;done)
  · split at hr
    · have hr:=ifO_h hr;cases hr;exact Fr.push _ _
    · split at hr
      · split at hr
        · rename_i hs;cases hr;exact Fr.setAt hs
        · cases hr
      · have hr:=ifO_h hr
        split at hr
        · cases hr;exact Fr.push _ _
        · cases hr
    · split at hr
      · split at hr
        · split at hr
          · rename_i hs;cases hr;exact Fr.setAt hs
          · cases hr
        · have hr:=ifO_h hr
          split at hr
          · rename_i hs;cases hr;exact (Fr.put hs).trans (Fr.push _ _)
          · cases hr
      · cases hr
    · cases hr
theorem fr_clr {z:List AV} {b:Pos} {off n:Nat} (hr:clr h z b off n=some (v,h')):Fr h h':=by
  unfold clr at hr
  split at hr
  · cases hr;exact Fr.refl _
  · have hr:=ifO_h hr
    split at hr
    · rename_i hs;cases hr;exact Fr.setAt hs
    · cases hr
def FrX (ex:Run):Prop:=∀ c σ h e σ' h',ex c σ h=some (e,σ',h')→Fr h h'
theorem fr_res {l:List AR} (hr:resA σ h l=some (v,h')):Fr h h':=by
  unfold resA at hr
  split at hr
  · cases hr;exact Fr.refl _
  · cases hr
theorem fr_call (HE:FrX ex) {f:Pos} {args:List AV} (hr:callW tb ex f args h=some (v,h')):Fr h h':=by
  unfold callW at hr
  split at hr
  · split at hr
    · split at hr
      · rename_i h1;exact (HE _ _ _ _ _ _ h1).trans (fr_res hr)
      · rename_i h1;exact (HE _ _ _ _ _ _ h1).trans (fr_res hr)
      · cases hr
    · cases hr
  · cases hr
theorem fr_yield (HY:FrX ex) {b:Pos} {args:List AV} (hr:yieldW ex b args h=some (v,h')):Fr h h':=by
  unfold yieldW at hr
  split at hr
  · split at hr
    · cases hr
    · split at hr
      · rename_i h1
        split at hr
        · split at hr
          · rename_i h2
            split at hr
            · rename_i h3
              split at hr
              · split at hr
                · rename_i h4
                  cases hr
                  exact (HY _ _ _ _ _ _ h1).trans ((Fr.put h2).trans ((HY _ _ _ _ _ _ h3).trans (Fr.put h4)))
                · cases hr
              · cases hr
            · cases hr
          · cases hr
        · cases hr
      · cases hr
  · cases hr
theorem fr_opY (HE:FrX ex) (HY:FrX exY) (op:AOp) (hr:opY op tb ex exY σ h=some (v,h')):Fr h h':=by
  cases op with
  | call x l =>
    have hr:o_call x l tb ex exY σ h=some (v,h'):=hr
    unfold o_call at hr
    split at hr
    · exact fr_call HE hr
    · exact fr_yield HY hr
    · cases hr
  | new T z=>cases hr;exact Fr.push _ _
  | box T x=>cases hr;exact Fr.push _ _
  | mkm=>cases hr;exact Fr.push _ _
  | mks T sz b z x y =>
    have hr:o_mks T sz b z x y σ h=some (v,h'):=hr
    unfold o_mks at hr
    split at hr
    · have hr:=ifO_h hr;cases hr;exact Fr.push _ _
    · cases hr
  | blds T n z ps =>
    have hr:o_blds T n z ps σ h=some (v,h'):=hr
    unfold o_blds at hr
    split at hr
    · cases hr;exact Fr.push _ _
    · cases hr
  | st n x y =>
    have hr:o_st n x y σ h=some (v,h'):=hr
    unfold o_st at hr
    split at hr
    · split at hr
      · split at hr
        · rename_i hs;cases hr;exact Fr.setAt hs
        · cases hr
      · cases hr
    · cases hr
  | mput two k x y z =>
    have hr:o_mput two k x y z σ h=some (v,h'):=hr
    unfold o_mput at hr
    split at hr
    · split at hr
      · split at hr
        · split at hr
          · rename_i hs;cases hr;exact Fr.put hs
          · cases hr
        · cases hr
      · cases hr
    · cases hr
  | mdel two k x y =>
    have hr:o_mdel two k x y σ h=some (v,h'):=hr
    unfold o_mdel at hr
    split at hr
    · split at hr
      · split at hr
        · split at hr
          · rename_i hs;cases hr;exact Fr.put hs
          · cases hr
        · cases hr
      · cases hr
    · cases hr
  | app T sz b x y =>
    have hr:o_app T sz b x y σ h=some (v,h'):=hr
    unfold o_app at hr
    split at hr
    · exact fr_app (ifO_h hr)
    · cases hr
  | cpy sz x y =>
    have hr:o_cpy sz x y σ h=some (v,h'):=hr
    unfold o_cpy at hr
    split at hr
    · split at hr
      · have hr:=ifO_h hr
        split at hr
        · rename_i hs;cases hr;exact Fr.setAt hs
        · cases hr
      · cases hr
    · cases hr
  | clr z x =>
    have hr:o_clr z x σ h=some (v,h'):=hr
    unfold o_clr at hr
    split at hr
    · exact fr_clr hr
    · exact fr_clr hr
    · cases hr;exact Fr.refl _
    · cases hr;exact Fr.refl _
    · cases hr
  | bad=>cases hr
  | apz T sz b z x y =>
    have hr:o_apz T sz b z x y σ h=some (v,h'):=hr
    unfold o_apz at hr
    split at hr
    · split at hr
      · cases hr;exact Fr.refl _
      · have hr:=ifO_h hr;cases hr;exact Fr.push _ _
    · cases hr
  | _ =>
    have e:h'=h:=by
      dsimp only [opY] at hr
      first
        | exact okV_h hr
        | (simp only [o_mv,o_pick,o_ld,o_ldA,o_nilc,o_eqb,o_eqn,o_eqs,o_not,o_cvt,o_mkf,o_slc,o_slcA,o_fad,o_fld,o_fldA,o_iad,o_iadA,o_ix,o_ixA,o_lk,o_ext,o_len,o_lenM,o_cap,o_ixs] at hr
           repeat' (split at hr)
           all_goals first
             | exact okV_h hr
             | (cases hr;rfl)
             | (cases hr;done)
             | exact okV_h (ifO_h hr)
             | (have hr2:=ifO_h hr;cases hr2;rfl))
    subst e
    exact Fr.refl _
theorem fr_opK (HE:FrX ex) (HY:FrX exY) (k:Nat) (op:AOp) (hr:opK k op tb ex exY σ h=some (v,h')):Fr h h':=by
  by_cases k2:Nat.beq k 2=true
  · have hr:opK2 op tb ex exY σ h=some (v,h'):=by
      have e:opK k op=opK2 op:=by unfold opK;rw [k2]
      rw [e] at hr;exact hr
    unfold opK2 at hr
    split at hr
    · rename_i v0 h0 hq
      cases hr
      have F:=fr_opY HE HY op hq
      exact ⟨F.nx,rfl,fun p _ h2=>F.get p h2 h2⟩
    · cases hr
  · have e:opK k op=opY op:=by
      unfold opK
      cases hb:Nat.beq k 2 with
      | true=>exact absurd hb k2
      | false=>rfl
    rw [e] at hr
    exact fr_opY HE HY op hr
theorem fr_two (HE:FrX ex) (HY:FrX exY) (op:AOp) (hr:opK2 op tb ex exY σ h=some (v,h')):∀ p,p.nat < h.nx.nat→h'.m.get p=h.m.get p:=by
  unfold opK2 at hr
  split at hr
  · rename_i v0 h0 hq
    cases hr
    have F:=fr_opY HE HY op hq
    exact fun p h2=>F.get p h2 h2
  · cases hr
theorem fr_ops (HE:FrX ex) (HY:FrX exY):∀ (l:List AO) (σ:Tr AV) (h:AH) (σ':Tr AV) (h':AH),runOps tb ex exY l σ h=some (σ',h')→Fr h h'
  | [],σ,h,σ',h',hr=>by
    rw [runOps_nil] at hr;cases hr;exact Fr.refl _
  | o :: os,σ,h,σ',h',hr=>by
    rw [runOps_cons] at hr
    split at hr
    · split at hr
      · rename_i r hq
        exact (fr_opK HE HY _ _ hq).trans (fr_ops HE HY os _ _ _ _ hr)
      · cases hr
    · exact fr_ops HE HY os _ _ _ _ hr
theorem fr_seqK {exR:Run} (HR:FrX exR) {b:AC} {r:Ex × Tr AV × AH} {e:Ex} {σ':Tr AV} (hr:seqK b exR r=some (e,σ',h')):Fr r.2.2 h':=by
  obtain ⟨e0,σ0,h0⟩:=r
  rw [seqK_eq] at hr
  cases e0 with
  | nrm=>exact HR _ _ _ _ _ _ hr
  | exit i=>cases hr;exact Fr.refl _
  | ret=>cases hr;exact Fr.refl _
theorem fr_step {exR:Run} (HE:FrX ex) (HY:FrX exY) (HR:FrX exR) (c:AC) (f:Bool) {e:Ex} {σ':Tr AV} (hr:step c f tb ex exY exR σ h=some (e,σ',h')):Fr h h':=by
  cases c with
  | skip=>cases hr;exact Fr.refl _
  | rg l =>
    have hr:sRg l tb ex exY exR σ h=some (e,σ',h'):=hr
    unfold sRg at hr
    cases hq:runOps tb ex exY l σ h with
    | none=>rw [hq] at hr;cases hr
    | some y =>
      rw [hq] at hr
      cases hr
      exact fr_ops HE HY l _ _ _ _ hq
  | seq a b =>
    have hr:sSeq a b exR σ h=some (e,σ',h'):=hr
    unfold sSeq at hr
    obtain ⟨y,h1,h2⟩:=optR hr
    exact (HR _ _ _ _ _ _ h1).trans (fr_seqK HR h2)
  | cond c a b =>
    have hr:sCond c a b exR σ h=some (e,σ',h'):=hr
    unfold sCond at hr
    split at hr
    · exact HR _ _ _ _ _ _ hr
    · exact HR _ _ _ _ _ _ hr
    · cases hr
  | block i a =>
    have hr:sBlock i a exR σ h=some (e,σ',h'):=hr
    unfold sBlock at hr
    obtain ⟨y,h1,h2⟩:=optR hr
    obtain ⟨e0,σ0,h0⟩:=y
    refine (HR _ _ _ _ _ _ h1).trans ?_
    unfold blockK at h2
    cases e0 with
    | nrm=>cases h2;exact Fr.refl _
    | ret=>cases h2;exact Fr.refl _
    | exit j =>
      simp only at h2
      cases hb:Nat.beq j i with
      | true=>rw [hb] at h2;cases h2;exact Fr.refl _
      | false=>rw [hb] at h2;cases h2;exact Fr.refl _
  | loop a =>
    have hr:sLoop a exR σ h=some (e,σ',h'):=hr
    unfold sLoop at hr
    obtain ⟨y,h1,h2⟩:=optR hr
    exact (HR _ _ _ _ _ _ h1).trans (fr_seqK HR h2)
  | rf g t asg body =>
    have hr:sRf f g t asg body tb ex σ h=some (e,σ',h'):=hr
    unfold sRf at hr
    split at hr
    · split at hr
      · rename_i h1
        have F:=(Fr.push h (.loop σ t asg body .ready)).trans (fr_call HE h1)
        split at hr
        · split at hr
          · rename_i h2;cases hr;exact F.trans (Fr.put h2)
          · cases hr
        · split at hr
          · rename_i h2;cases hr;exact F.trans (Fr.put h2)
          · cases hr
        · cases hr
      · cases hr
    · cases hr
  | exit i=>cases hr;exact Fr.refl _
  | scope a=>exact HR _ _ _ _ _ _ hr
  | ret=>cases hr;exact Fr.refl _
  | rl l =>
    have hr:sRl l tb ex exY σ h=some (e,σ',h'):=hr
    rw [sRl_eq] at hr
    split at hr
    · rename_i y hq
      cases hr
      exact fr_ops HE HY l _ _ _ _ (runL_ok _ _ _ _ hq).1
    · cases hr
theorem fr_exec (tb:Tr AF):∀ (n:Nat) (r:Bool),FrX (exec tb n r)
  | 0,r=>fun c σ h e σ' h' hr=>by cases hr
  | n + 1,r=>fun c σ h e σ' h' hr=>by
    rw [exec_succ] at hr
    exact fr_step (fr_exec tb n false) (fr_exec tb n true) (fr_exec tb n r) c _ hr
end
end Go.KX
namespace Go.KX
open Go.RowKit Go.KL
theorem keq_eq' {a b:IntKind} (h:keq a b=true):a=b:=by
  cases a <;> cases b <;> first | rfl | (simp [keq] at h)
theorem zeq_eq' {a b:Int} (h:zeq a b=true):a=b:=by
  cases a with
  | ofNat a=>cases b with
    | ofNat b=>simp only [zeq] at h;rw [Nat.eq_of_beq_eq_true h]
    | negSucc b=>simp [zeq] at h
  | negSucc a=>cases b with
    | ofNat b=>simp [zeq] at h
    | negSucc b=>simp only [zeq] at h;rw [Nat.eq_of_beq_eq_true h]
mutual
theorem same_eq:∀ {a b:AV},same a b=true→a=b
  | .int k n,.int k' n',h=>by simp only [same,Bool.and_eq_true] at h;rw [keq_eq' h.1,zeq_eq' h.2]
  | .bool a,.bool b,h=>by simp only [same,beq_iff_eq] at h;rw [h]
  | .ptr b o,.ptr b' o',h=>by simp only [same,Bool.and_eq_true] at h;rw [Pos.beq_eq h.1,Nat.eq_of_beq_eq_true h.2]
  | .pnil,.pnil,_=>rfl
  | .sl b o n c,.sl b' o' n' c',h=>by simp only [same,Bool.and_eq_true] at h;rw [Pos.beq_eq h.1,Nat.eq_of_beq_eq_true h.2.1,Nat.eq_of_beq_eq_true h.2.2.1,Nat.eq_of_beq_eq_true h.2.2.2]
  | .rw b o n c,.rw b' o' n' c',h=>by simp only [same,Bool.and_eq_true] at h;rw [Pos.beq_eq h.1,Nat.eq_of_beq_eq_true h.2.1,Nat.eq_of_beq_eq_true h.2.2.1,Nat.eq_of_beq_eq_true h.2.2.2]
  | .snil,.snil,_=>rfl
  | .map b,.map b',h=>by simp only [same] at h;rw [Pos.beq_eq h]
  | .mnil,.mnil,_=>rfl
  | .fn f fi ca,.fn f' fi' ca',h=>by simp only [same,Bool.and_eq_true] at h;rw [Pos.beq_eq h.1,sameL_eq h.2.1,sameL_eq h.2.2]
  | .fnil,.fnil,_=>rfl
  | .agg l,.agg l',h=>by simp only [same] at h;rw [sameL_eq h]
  | .tup l,.tup l',h=>by simp only [same] at h;rw [sameL_eq h]
theorem sameL_eq:∀ {a b:List AV},sameL a b=true→a=b
  | [],[],_=>rfl
  | a :: l,b :: k,h=>by simp only [sameL,Bool.and_eq_true] at h;rw [same_eq h.1,sameL_eq h.2]
  | [],_ :: _,h=>by simp [sameL] at h
  | _ :: _,[],h=>by simp [sameL] at h
end
section
variable {tb:Tr AF} {ex exY:Run} {σ:Tr AV} {h h':AH} {v:AV}
theorem okV_all {o:Option AV} (hr:okV h o=some (v,h')) (h2:AH):okV h2 o=some (v,h2):=by
  cases o with
  | none=>cases hr
  | some x=>cases hr;rfl
end
section
variable {P:Program} {l:List Oper} {σ σ':Env} {o:Oper} {w:World}
def Agr (l:List Oper) (o:Oper) (σ σ':Env):Prop:=∀ d ∈ looks l o,σ d=σ' d
theorem ev_agr (h:Agr l o σ σ'):∀ y ∈ o.op.operands,ev σ y=ev σ' y:=by
  intro y hy
  cases y with
  | tmp t=>exact h t (List.mem_append_left _ (List.mem_filterMap.2 ⟨.tmp t,by simpa using hy,rfl⟩))
  | _=>rfl
theorem wanted_agr (h:Agr l o σ σ'):wanted l σ o=wanted l σ' o:=by
  unfold wanted
  cases hg:o.guard with
  | none=>rfl
  | some g =>
    obtain ⟨j,b⟩:=g
    simp only
    cases hd:(l[j]?).bind (·.dst) with
    | none=>rfl
    | some t =>
      simp only
      rw [h t (by unfold looks;rw [hg];simp only [hd];simp)]
theorem run_agr (hs:selects o=false) (h:Agr l o σ σ'):execOp (ev σ) o=execOp (ev σ') o:=execOp_congr o (sel_ne hs) (ev_agr h)
theorem Runs.agr (hs:selects o=false) (h:Agr l o σ σ') {v:Value} {w':World}:Runs P σ w o v w' ↔ Runs P σ' w o v w':=by
  unfold Runs;rw [run_agr hs h]
theorem Runs.det {v v':Value} {w1 w2:World} (h:Runs P σ w o v w1) (h':Runs P σ w o v' w2):v=v'∧w1=w2:=by
  have:=h.2.symm.trans h'.2
  simp only [Result.ok.injEq] at this
  obtain ⟨e,e2⟩:=this
  exact ⟨by simpa using e,e2⟩
theorem Step1.agr (hs:selects o=false) (h:Agr l o σ σ') {R:Value→World→Prop} (hh:Step1 P l o σ w R):Step1 P l o σ' w R:=by
  have e:=run_agr hs h
  have ew:=wanted_agr h
  rcases hh with ⟨h1,⟨h2,w',h3,h4⟩ | ⟨v,w',h3,h4⟩ | ⟨f,args,R',h3,h4,h5⟩ | hy⟩ | ⟨h1,h2⟩
  · exact .inl ⟨ew ▸ h1,.inl ⟨h2,w',by unfold Does at h3 ⊢;rw [← e];exact h3,h4⟩⟩
  · exact .inl ⟨ew ▸ h1,.inr (.inl ⟨v,w',by unfold Runs at h3 ⊢;rw [← e];exact h3,h4⟩)⟩
  · exact .inl ⟨ew ▸ h1,.inr (.inr (.inl ⟨f,args,R',by unfold Enters at h3 ⊢;rw [← e];exact h3,h4,h5⟩))⟩
  · exact .inl ⟨ew ▸ h1,.inr (.inr (.inr (by unfold Rounds at hy ⊢;rw [← e];exact hy)))⟩
  · exact .inr ⟨ew ▸ h1,h2⟩
end
end Go.KX
namespace Go.KX
open Go.RowKit Go.KL
section
variable {tb:Tr AF} {ex exY:Run} {C:Chk} {P:Program}
theorem runOps_split:∀ (l1 l2:List AO) (σ:Tr AV) (h:AH) (r:Tr AV × AH),runOps tb ex exY (l1 ++ l2) σ h=some r→∃ σ1 h1,runOps tb ex exY l1 σ h=some (σ1,h1)∧runOps tb ex exY l2 σ1 h1=some r
  | [],l2,σ,h,r,hr=>⟨σ,h,runOps_nil _ _ _ _ _,hr⟩
  | a :: l1,l2,σ,h,r,hr=>by
    rw [List.cons_append,runOps_cons] at hr
    rw [runOps_cons]
    cases hw:wantA σ a.grd with
    | true =>
      rw [hw] at hr
      simp only at hr ⊢
      cases hq:opK a.kd a.op tb ex exY σ h with
      | none=>rw [hq] at hr;cases hr
      | some q =>
        rw [hq] at hr
        exact runOps_split l1 l2 _ _ r hr
    | false =>
      rw [hw] at hr
      exact runOps_split l1 l2 _ _ r hr
theorem putD_get {d:Option Pos} {σ:Tr AV} {v:AV} {p:Pos}:evA (putD d σ v) (.t p)=if d=some p then v else evA σ (.t p):=by
  cases d with
  | none =>
    rw [if_neg (by simp)]
    rfl
  | some q =>
    show evA (σ.set q v) (.t p)=_
    rw [evA_t,Tr.get_set]
    by_cases e:p=q
    · subst e
      rw [if_pos rfl,if_pos rfl]
      rfl
    · rw [if_neg e,if_neg (fun h=>e (by cases h;rfl)),evA_t]
theorem runOps_slot:∀ (l:List AO) (σ:Tr AV) (h:AH) (σ':Tr AV) (h':AH),runOps tb ex exY l σ h=some (σ',h')→∀ p,(∀ a ∈ l,a.dst ≠ some p)→evA σ' (.t p)=evA σ (.t p)
  | [],σ,h,σ',h',hr,p,_=>by
    rw [runOps_nil] at hr
    cases hr
    rfl
  | a :: l,σ,h,σ',h',hr,p,hp=>by
    have hn:a.dst ≠ some p:=hp a (by simp)
    rw [runOps_cons] at hr
    cases hw:wantA σ a.grd with
    | true =>
      rw [hw] at hr
      simp only at hr
      cases hq:opK a.kd a.op tb ex exY σ h with
      | none=>rw [hq] at hr;cases hr
      | some q =>
        rw [hq] at hr
        rw [runOps_slot l _ _ _ _ hr p fun b hb=>hp b (by simp [hb]),putD_get,if_neg hn]
    | false =>
      rw [hw] at hr
      rw [runOps_slot l _ _ _ _ hr p fun b hb=>hp b (by simp [hb]),putD_get,if_neg hn]
variable {μ μ':Mu} {h:AH} {w:World}
theorem Sim.adopt {c:Cl} {B:AB} (S:Sim C P μ h w) (hlt:c.1 < w.heap.size) (hn:∀ p d,μ p=some d→d.1 ≠ c.1) (hB:AbR C P (μ.add h.nx c) w c B):Sim C P (μ.add h.nx c) (h.push B) w:=by
  have hn0:=S.nx h.nx (Nat.le_refl _)
  have hle:=Mu.add_le (c:=c) hn0
  refine ⟨?_,?_,?_,?_⟩
  · intro p hp
    have hp:h.nx.succ.nat ≤ p.nat:=hp
    rw [Pos.nat_succ] at hp
    unfold Mu.add
    rw [if_neg (fun e=>by subst e;omega)]
    exact S.nx p (by omega)
  · intro p d hd
    unfold Mu.add at hd
    split at hd
    · cases hd;exact hlt
    · exact S.lt p d hd
  · intro p q a b d e hp hq la lb hd he hde
    simp only [AH.push,Tr.get_set] at hp hq
    unfold Mu.add at hd he
    split at hd <;> split at he
    · rename_i h1 h2;rw [h1,h2]
    · cases hd;exact absurd hde.symm (hn _ _ he)
    · cases he;exact absurd hde (hn _ _ hd)
    · rename_i h1 h2
      rw [if_neg h1] at hp
      rw [if_neg h2] at hq
      exact S.inj p q a b d e hp hq la lb hd he hde
  · intro p b hb
    simp only [AH.push,Tr.get_set] at hb
    split at hb
    · rename_i e
      subst e
      cases hb
      exact ⟨c,Mu.add_same _ _ _,hB⟩
    · rename_i e
      obtain ⟨d,h1,h2⟩:=S.at_ p b hb
      exact ⟨d,hle _ _ h1,h2.mono hle⟩
end
end Go.KX
namespace Go.KX
open Go.RowKit Go.KL
theorem slotsA_mem:∀ {l:List AOd} {p:Pos},AOd.t p ∈ l→p ∈ slotsA l
  | .t q :: l,p,h=>by
    rcases List.mem_cons.1 h with h | h
    · cases h;simp [slotsA]
    · simp only [slotsA,List.mem_cons];exact .inr (slotsA_mem h)
  | .c v :: l,p,h=>by
    rcases List.mem_cons.1 h with h | h
    · cases h
    · show p ∈ slotsA l
      exact slotsA_mem h
noncomputable def rst (σ:Tr AV):List Pos→Tr AV
  | []=>.e
  | p :: ps=>(rst σ ps).set p (evA σ (.t p))
theorem rst_get (σ:Tr AV):∀ (ps:List Pos) (p:Pos),evA (rst σ ps) (.t p)=if p ∈ ps then evA σ (.t p) else u
  | [],p=>by rw [if_neg (by simp)];rfl
  | q :: ps,p=>by
    show evA ((rst σ ps).set q (evA σ (.t q))) (.t p)=_
    rw [evA_t,Tr.get_set]
    by_cases e:p=q
    · subst e
      rw [if_pos rfl,if_pos (by simp)]
      rfl
    · rw [if_neg e,← evA_t,rst_get σ ps p]
      simp [e]
open Classical in
noncomputable def rsl (σ:Env) (ps:List Pos):Env:=fun d=>if ∃ p ∈ ps,p.nat - 1=d then σ d else undef
theorem rst_env {μ:Mu} {σA:Tr AV} {σ:Env} {ps:List Pos} (h:∀ p ∈ ps,Rv μ (evA σA (.t p)) (σ (p.nat - 1))):EnvR μ (rst σA ps) (rsl σ ps):=by
  intro p
  rw [rst_get]
  unfold rsl
  by_cases hp:p ∈ ps
  · rw [if_pos hp,if_pos ⟨p,hp,rfl⟩]
    exact h p hp
  · rw [if_neg hp,if_neg]
    · exact rv_u μ
    · rintro ⟨q,hq,e⟩
      have h1:=q.nat_pos
      have h2:=p.nat_pos
      have:q=p:=Pos.nat_inj (by omega)
      exact hp (this ▸ hq)
section
variable {tb:Tr AF} {ex exY:Run} {C:Chk} {P:Program} {μ:Mu} {σA:Tr AV} {σ:Env} {h h':AH} {v:AV} {o:Oper} {a:AOp} {w:World}
theorem rst_op (hr:opY a tb ex exY σA h=some (v,h')):opY a tb ex exY (rst σA (slotsA (opsA a))) h=some (v,h'):=by
  rw [← hr]
  refine opY_congr a (fun x hx=>?_) h
  cases x with
  | t p=>rw [rst_get,if_pos (slotsA_mem hx)]
  | c v=>rfl
theorem rsl_run (hs:selects o=false) (hb:Sub a o):execOp (ev (rsl σ (slotsA (opsA a)))) o=execOp (ev σ) o:=by
  refine execOp_congr o (sel_ne hs) fun y hy=>?_
  cases y with
  | tmp t =>
    show rsl σ (slotsA (opsA a)) t=σ t
    unfold rsl
    rw [if_pos (hb t hy)]
  | _=>rfl
theorem rsl_runs (hs:selects o=false) (hb:Sub a o) {v:Value} {w':World}:Runs P (rsl σ (slotsA (opsA a))) w o v w' ↔ Runs P σ w o v w':=by
  unfold Runs;rw [rsl_run hs hb]
theorem free_pure (hs:selects o=false) (hb:Sub a o) (hk:kdA a=3) (hc:chkOp P a o.op=true) (hr:opY a tb ex exY σA h=some (v,h')) (hv:∀ p ∈ slotsA (opsA a),Rv μ (evA σA (.t p)) (σ (p.nat - 1))) :
    ∃ cv,Rv μ v cv∧∀ w,Runs P σ w o cv w:=by
  obtain ⟨_,h2⟩:=okP_of (tb:=tb) (ex:=ex) (exY:=exY) hk hc _ _ _ _ (rst_op hr)
  obtain ⟨cv,g1,g2⟩:=h2 μ _ (rst_env hv)
  exact ⟨cv,g1,fun w=>(rsl_runs hs hb).1 (g2 o w rfl)⟩
theorem free_load (hs:selects o=false) (hb:Sub a o) (hk:kdA a=1 ∨ kdA a=3) (hc:chkOp P a o.op=true) (hr:opY a tb ex exY σA h=some (v,h')) (S:Sim C P μ h w) (hv:∀ p ∈ slotsA (opsA a),Rv μ (evA σA (.t p)) (σ (p.nat - 1))) :
    ∃ cv,Rv μ v cv∧Runs P σ w o cv w:=by
  obtain ⟨_,h2⟩:=okL_of (C:=C) (tb:=tb) (ex:=ex) (exY:=exY) hk hc _ _ _ _ (rst_op hr)
  obtain ⟨cv,g1,g2⟩:=h2 μ _ w (rst_env hv) S
  exact ⟨cv,g1,(rsl_runs hs hb).1 (g2 o rfl w (Keep.refl w _))⟩
theorem okA_of {op:Op} (hk:isAl a=true) (hc:chkOp P a op=true):OkA C P op (opY a tb ex exY):=by
  cases a <;> first
    | (simp [isAl] at hk;done)
    | exact a_new hc | exact a_box hc | exact a_mkm hc | exact a_mks hc | exact a_blds hc
theorem free_alloc (hs:selects o=false) (hb:Sub a o) (hk:isAl a=true) (hc:chkOp P a o.op=true) (hr:opY a tb ex exY σA h=some (v,h')) (hv:∀ p ∈ slotsA (opsA a),Rv μ (evA σA (.t p)) (σ (p.nat - 1))) :
    ∃ (B:AB) (vf:Pos→AV) (ob:Obj) (val:Nat→Value),h'=h.push B∧v=vf h.nx∧live B∧(∀ w:World,Runs P σ w o (val w.heap.size) (w.alloc ob)) ∧
      (∀ μ' (w:World) b,μ.Le μ'→w.heap[b]?=some ob→AbR C P μ' w ⟨b,0,g0⟩ B)∧∀ μ' p b,μ' p=some ⟨b,0,g0⟩→Rv μ' (vf p) (val b):=by
  obtain ⟨B,vf,e1,e2,_,e4,e5⟩:=okA_of (C:=C) (tb:=tb) (ex:=ex) (exY:=exY) hk hc _ _ _ _ (rst_op hr)
  obtain ⟨ob,val,g1,g2,g3⟩:=e5 μ _ (rst_env hv) o rfl
  exact ⟨B,vf,ob,val,e1,e2,e4,fun w=>(rsl_runs hs hb).1 (g1 w),g2,g3⟩
end
end Go.KX
namespace Go.KX
open Go.RowKit Go.KL
section
variable {tb:Tr AF} {ex exY:Run} {P:Program}
theorem can_at {s t:List AO} {a:AO} {σ0:Tr AV} {h0:AH} {r:Tr AV × AH} (hr:runOps tb ex exY (s ++ a :: t) σ0 h0=some r) :
    ∃ σ1 h1,runOps tb ex exY s σ0 h0=some (σ1,h1) ∧
      ((wantA σ1 a.grd=true∧∃ v h2,opK a.kd a.op tb ex exY σ1 h1=some (v,h2)∧runOps tb ex exY t (putD a.dst σ1 v) h2=some r) ∨
        (wantA σ1 a.grd=false∧runOps tb ex exY t (putD a.dst σ1 u) h1=some r)):=by
  obtain ⟨σ1,h1,e1,e2⟩:=runOps_split s (a :: t) σ0 h0 r hr
  refine ⟨σ1,h1,e1,?_⟩
  rw [runOps_cons] at e2
  cases hw:wantA σ1 a.grd with
  | true =>
    rw [hw] at e2
    simp only at e2
    cases hq:opK a.kd a.op tb ex exY σ1 h1 with
    | none=>rw [hq] at e2;cases e2
    | some q =>
      rw [hq] at e2
      exact .inl ⟨rfl,q.1,q.2,rfl,e2⟩
  | false =>
    rw [hw] at e2
    exact .inr ⟨rfl,e2⟩
theorem anc_done {l:List Oper} {S:Nat→Bool} (hdc:∀ k,k < l.length→S k=true→∀ j ∈ prI l k,S j=true) {x i:Nat} (hp:∀ j ∈ prI l i,S j=true) (h:AncP l x i):S x=true:=h S hdc hp
variable {N:Nat} {l:List Oper} {os s t:List AO} {a:AO} {σ0 σ1 σf:Tr AV} {h0 h1 hf:AH}
theorem can_val (Z:ZOK P N l os) (e:os=s ++ a :: t) {v:AV} {σ2:Tr AV} {h2:AH} (hr:runOps tb ex exY t (putD a.dst σ2 v) h2=some (σf,hf)) {p:Pos} (hp:a.dst=some p):evA σf (.t p)=v:=by
  rw [runOps_slot t _ _ _ _ hr p fun b hb=>Z.wr s a t e p hp b (List.mem_append_right _ hb),putD_get,if_pos hp]
theorem can_rd (Z:ZOK P N l os) (e:os=s ++ a :: t) (hr:runOps tb ex exY (a :: t) σ1 h1=some (σf,hf)) {p:Pos} (hp:p ∈ readsA a):evA σf (.t p)=evA σ1 (.t p) :=
  runOps_slot (a :: t) _ _ _ _ hr p fun b hb=>Z.rd s a t e p hp b hb
end
end Go.KX
namespace Go.KX
open Go.RowKit Go.KL
section
variable {tb:Tr AF} {ex exY:Run} {P:Program} {N:Nat} {l:List Oper} {os s t:List AO} {a:AO} {σ0 σ1 σA σf:Tr AV} {h0 h h1 hf:AH} {μ μS:Mu} {σ σ':Env} {w:World} {o:Oper}
theorem split_uniq:∀ {s s' t t':List AO} {a:AO},(s ++ a :: t).Pairwise (fun a b=>a.ix ≠ b.ix)→s ++ a :: t=s' ++ a :: t'→s=s'∧t=t'
  | [],[],t,t',a,_,e=>by
    simp only [List.nil_append,List.cons.injEq,true_and] at e
    exact ⟨rfl,e⟩
  | [],b :: s',t,t',a,hp,e=>by
    simp only [List.nil_append,List.cons_append,List.cons.injEq] at e
    obtain ⟨rfl,rfl⟩:=e
    rw [List.nil_append] at hp
    exact absurd rfl ((List.pairwise_cons.1 hp).1 a (by simp))
  | b :: s,[],t,t',a,hp,e=>by
    simp only [List.nil_append,List.cons_append,List.cons.injEq] at e
    obtain ⟨rfl,rfl⟩:=e
    rw [List.cons_append] at hp
    exact absurd rfl ((List.pairwise_cons.1 hp).1 b (by simp))
  | b :: s,b' :: s',t,t',a,hp,e=>by
    simp only [List.cons_append,List.cons.injEq] at e
    rw [List.cons_append] at hp
    obtain ⟨h1,h2⟩:=split_uniq (List.pairwise_cons.1 hp).2 e.2
    exact ⟨by rw [e.1,h1],h2⟩
theorem looks_rd (A:AOK P N l a o) (hs:Sub a.op o):∀ d ∈ looks l o,∃ p ∈ readsA a,p.nat - 1=d:=by
  intro d hd
  unfold looks at hd
  rcases List.mem_append.1 hd with hd | hd
  · obtain ⟨y,h1,h2⟩:=List.mem_filterMap.1 hd
    cases y with
    | tmp t =>
      simp only [Option.some.injEq] at h2
      subst h2
      obtain ⟨p,h3,h4⟩:=hs t (by simpa using h1)
      exact ⟨p,List.mem_append_left _ h3,h4⟩
    | _=>simp at h2
  · rcases A.grd with ⟨_,h2⟩ | ⟨p,b,j,d',h1,h2,h3,h4⟩
    · rw [h2] at hd;simp at hd
    · rw [h2] at hd
      simp only [h3,Option.toList_some,List.mem_singleton] at hd
      subst hd
      exact ⟨p,List.mem_append_right _ (by rw [h1];simp),h4.symm⟩
structure Pend (tb:Tr AF) (ex exY:Run) (P:Program) (l:List Oper) (os:List AO) (σ0:Tr AV) (h0:AH) (σf:Tr AV) (w0:World) (μ μS:Mu) (σ:Env) (w:World) (a:AO) (o:Oper) (p:Pos):Prop where
  get:l[a.ix]?=some o
  dst:a.dst=some p
  fact:(wanted l σ o=false∧σ (p.nat - 1)=undef∧evA σf (.t p)=u) ∨ (wanted l σ o=true ∧
    (((a.kd=1 ∨ a.kd=3 ∨ 8 ≤ a.kd)∧Rv μ (evA σf (.t p)) (σ (p.nat - 1))) ∨
      (a.kd=6∧Rv μS (evA σf (.t p)) (σ (p.nat - 1))∧∃ w1 w2,Runs P σ w1 o (σ (p.nat - 1)) w2) ∨
      (a.kd=4∧Rv μS (evA σf (.t p)) (σ (p.nat - 1))∧∃ w1 ob s1 t1 σ1 h1,Runs P σ w1 o (σ (p.nat - 1)) (w1.alloc ob)∧w.heap[w1.heap.size]?=some ob∧w0.heap.size ≤ w1.heap.size ∧
        os=s1 ++ a :: t1∧runOps tb ex exY s1 σ0 h0=some (σ1,h1)∧μS h1.nx=some ⟨w1.heap.size,0,g0⟩∧∀ q c,μS q=some c→c.1=w1.heap.size→q=h1.nx)))
theorem opK_ne {tb:Tr AF} {ex exY:Run} {k:Nat} {op:AOp} {σ:Tr AV} {h h':AH} {v:AV} (hk:k ≠ 2) (hr:opK k op tb ex exY σ h=some (v,h')):opY op tb ex exY σ h=some (v,h'):=by
  have hb:Nat.beq k 2=false:=by
    cases hb:Nat.beq k 2 with
    | false=>rfl
    | true=>exact absurd (Nat.eq_of_beq_eq_true hb) hk
  have:opK k op=opY op:=by unfold opK;rw [hb]
  rwa [this] at hr
theorem fixedK_big {k:Nat} (h:8 ≤ k):¬ fixedK k=true:=by
  unfold fixedK
  simp only [Bool.or_eq_true,not_or]
  exact ⟨fun e=>by have:=Nat.eq_of_beq_eq_true e;omega,fun e=>by have:=Nat.eq_of_beq_eq_true e;omega⟩
theorem alloc_inj {w:World} {a b:Obj} (h:w.alloc a=w.alloc b):a=b:=by
  have h1:=heap_alloc_new w a
  rw [h,heap_alloc_new] at h1
  exact (Option.some.inj h1).symm
theorem commit (Z:ZOK P N l os) (e:os=s ++ a :: t) {μ0:Mu} {w0:World} {fl:Nat} (hs:runOps tb ex exY s σ0 h0=some (σA,h)) (hr:runOps tb ex exY (a :: t) σA h=some (σf,hf))
    (E:Ext μ0 fl w0 μ w) (S:Sim (CC P) P μ h w) (hE:EnvR μ σA σ') (hle:μ.Le μS) {p:Pos} (Pd:Pend tb ex exY P l os σ0 h0 σf w0 μ μS σ w a o p) (hag:∀ q ∈ readsA a,σ (q.nat - 1)=σ' (q.nat - 1)) :
    ∃ σB hB μB,runOps tb ex exY (s ++ [a]) σ0 h0=some (σB,hB)∧runOps tb ex exY t σB hB=some (σf,hf)∧μ.Le μB∧μB.Le μS∧Ext μ0 fl w0 μB w∧Sim (CC P) P μB hB w∧hB.fl=h.fl∧EnvR μB σB (upd σ' (p.nat - 1) (σ (p.nat - 1)))∧(a.kd=4→wanted l σ o=true→μB h.nx ≠ none):=by
  have ha:a ∈ os:=by rw [e];simp
  obtain ⟨o',A⟩:=chkAO_ok (Z.ao a ha)
  have eo:o'=o:=by have:=A.get;rw [Pd.get] at this;exact (Option.some.inj this).symm
  subst eo
  have hsel:=Z.sel a ha _ A.get
  have hsub:=Z.sub a ha _ A.get
  have hagr:Agr l o' σ σ':=fun d hd=>by
    obtain ⟨q,h1,rfl⟩:=looks_rd A hsub d hd
    exact hag q h1
  have hw:=want_ok A hE
  have hwσ:wanted l σ o'=wantA σA a.grd:=(wanted_agr hagr).trans hw
  obtain ⟨pd,dd,d1,d2,d3,_⟩:∃ p d,a.dst=some p∧o'.dst=some d∧d=p.nat - 1∧d < N:=by
    rcases A.dst with ⟨h1,_⟩ | h
    · rw [Pd.dst] at h1;cases h1
    · exact h
  have ep:pd=p:=by rw [Pd.dst] at d1;exact (Option.some.inj d1).symm
  subst ep
  have eput:∀ cv,put' σ' o' cv=upd σ' (pd.nat - 1) cv:=fun cv=>by unfold put';rw [d2,d3]
  obtain ⟨σx,hx,q1,q2⟩:=can_at (s:=[]) (a:=a) (t:=t) (σ0:=σA) (h0:=h) (by rw [List.nil_append];exact hr)
  rw [runOps_nil] at q1
  cases q1
  have split1:∀ {σB hB},(match wantA σA a.grd with | true=>(match opK a.kd a.op tb ex exY σA h with | some r=>some (putD a.dst σA r.1,r.2) | none=>none) | false=>some (putD a.dst σA u,h))=some (σB,hB)→runOps tb ex exY (s ++ [a]) σ0 h0=some (σB,hB):=by
    intro σB hB hq
    have app:∀ (l1 l2:List AO) (x:Tr AV) (y:AH) (x1:Tr AV) (y1:AH),runOps tb ex exY l1 x y=some (x1,y1)→runOps tb ex exY (l1 ++ l2) x y=runOps tb ex exY l2 x1 y1:=by
      intro l1
      induction l1 with
      | nil=>intro l2 x y x1 y1 h;rw [runOps_nil] at h;cases h;rfl
      | cons b l1 ih =>
        intro l2 x y x1 y1 h
        rw [List.cons_append,runOps_cons]
        rw [runOps_cons] at h
        cases hb:wantA x b.grd with
        | true =>
          rw [hb] at h
          simp only at h ⊢
          cases hq:opK b.kd b.op tb ex exY x y with
          | none=>rw [hq] at h;cases h
          | some r=>rw [hq] at h;exact ih l2 _ _ _ _ h
        | false =>
          rw [hb] at h
          exact ih l2 _ _ _ _ h
    rw [app s [a] _ _ _ _ hs,runOps_cons]
    cases hb:wantA σA a.grd with
    | true =>
      rw [hb] at hq
      simp only at hq ⊢
      cases hk:opK a.kd a.op tb ex exY σA h with
      | none=>rw [hk] at hq;cases hq
      | some r =>
        rw [hk] at hq
        cases hq
        exact runOps_nil _ _ _ _ _
    | false =>
      rw [hb] at hq
      cases hq
      rw [runOps_nil]
  rcases q2 with ⟨g1,v,h2,g2,g3⟩ | ⟨g1,g3⟩
  · have hv:evA σf (.t pd)=v:=can_val Z e g3 Pd.dst
    have hrun:=split1 (σB:=putD a.dst σA v) (hB:=h2) (by rw [g1];simp only;rw [g2])
    rcases Pd.fact with ⟨f1,_⟩ | ⟨_,⟨fk,f1⟩ | ⟨fk,f1,w1,w2,f2⟩ | ⟨fk,f1,w1,ob,s1,t1,σ1,h1,f2,f3,f4,f5,f6,f7,f8⟩⟩
    · rw [hwσ,g1] at f1;cases f1
    · have gY:opY a.op tb ex exY σA h=some (v,h2):=opK_ne (by omega) g2
      have hk:kdA a.op=1 ∨ kdA a.op=3:=by
        rcases fk with fk | fk | fk
        · exact A.k1 fk
        · exact .inr (A.k3 fk)
        · rcases Z.kd a ha with hh | ⟨_,hh | hh | hh | hh | hh⟩
          · exact absurd hh (fixedK_big fk)
          · omega
          · omega
          · omega
          · omega
          · exact .inl hh.2
      obtain ⟨e1,_⟩:=okL_of (C:=CC P) hk A.op _ _ _ _ gY
      subst e1
      rw [hv] at f1
      exact ⟨_,_,μ,hrun,g3,Mu.Le.refl μ,hle,E,S,rfl,by rw [← eput];exact put_ok A hE f1,fun h4 _=>by omega⟩
    · have gY:opY a.op tb ex exY σA h=some (v,h2):=by rw [fk] at g2;exact g2
      have hk:kdA a.op=3:=by
        rcases Z.kd a ha with hh | ⟨_,hh | hh | hh | hh | hh⟩
        · rw [fk] at hh;exact absurd hh (by decide)
        · omega
        · omega
        · exact hh.2
        · omega
        · omega
      obtain ⟨e1,e2⟩:=okP_of hk A.op _ _ _ _ gY
      subst e1
      obtain ⟨cv,c1,c2⟩:=e2 μ σ' hE
      have:=Runs.det ((Runs.agr hsel hagr).2 (c2 o' w1 rfl)) f2
      rw [← eput,← this.1]
      exact ⟨_,_,μ,hrun,g3,Mu.Le.refl μ,hle,E,S,rfl,put_ok A hE c1,fun h4 _=>by omega⟩
    · have gY:opY a.op tb ex exY σA h=some (v,h2):=by rw [fk] at g2;exact g2
      have hk:isAl a.op=true:=by
        rcases Z.kd a ha with hh | ⟨_,hh | hh | hh | hh | hh⟩
        · rw [fk] at hh;exact absurd hh (by decide)
        · omega
        · omega
        · omega
        · exact hh.2
        · omega
      obtain ⟨B,vf,e1,e2,_,_,e5⟩:=okA_of (C:=CC P) hk A.op _ _ _ _ gY
      obtain ⟨ob',val,c1,c2,c3⟩:=e5 μ σ' hE o' rfl
      obtain ⟨k1,k2⟩:=Runs.det ((Runs.agr hsel hagr).2 (c1 w1)) f2
      have k2:=alloc_inj k2
      subst k2
      have es:s1=s:=(split_uniq (f5 ▸ Z.one) (f5.symm.trans e)).1
      subst es
      rw [hs] at f6
      cases f6
      have hn0:=S.nx h.nx (Nat.le_refl _)
      have hadd:=Mu.add_le (c:=(⟨w1.heap.size,0,g0⟩:Cl)) hn0
      have hlt:w1.heap.size < w.heap.size:=lt_of_some f3
      subst e1 e2
      have hv':Rv (μ.add h.nx ⟨w1.heap.size,0,g0⟩) (vf h.nx) (σ (pd.nat - 1)):=by
        rw [← k1]
        exact c3 _ _ _ (Mu.add_same _ _ _)
      refine ⟨_,_,μ.add h.nx ⟨w1.heap.size,0,g0⟩,hrun,g3,hadd,?_,⟨E.mono.trans hadd,?_,E.keep⟩,S.adopt hlt ?_ (c2 _ w _ hadd f3),rfl,?_,fun _ _=>by rw [Mu.add_same];simp⟩
      · intro q d hq
        unfold Mu.add at hq
        split at hq
        · rename_i eq
          subst eq
          cases hq
          exact f7
        · exact hle q d hq
      · intro q c hq
        unfold Mu.add at hq
        split at hq
        · cases hq
          exact .inr (.inr f4)
        · exact E.new q c hq
      · intro q d hq hd
        have:=f8 q d (hle q d hq) hd
        subst this
        rw [hn0] at hq
        cases hq
      · rw [← eput]
        exact put_ok A (hE.mono hadd) hv'
  · have hrun:=split1 (σB:=putD a.dst σA u) (hB:=h) (by rw [g1])
    rcases Pd.fact with ⟨_,f2,_⟩ | ⟨f1,_⟩
    · refine ⟨_,_,μ,hrun,g3,Mu.Le.refl μ,hle,E,S,rfl,?_,fun _ hw'=>by rw [hwσ,g1] at hw';cases hw'⟩
      rw [f2,← eput]
      exact put_ok A hE (rv_u μ)
    · rw [hwσ,g1] at f1;cases f1
structure JS (tb:Tr AF) (ex exY:Run) (P:Program) (l:List Oper) (os:List AO) (σ0:Tr AV) (h0:AH) (σf:Tr AV) (hf:AH) (μ0:Mu) (w0:World) (S:Nat→Bool) (σ:Env) (w:World) (s t:List AO) (σA:Tr AV) (h:AH) (σ':Env) (μ μS:Mu):Prop where
  e:os=s ++ t
  hs:runOps tb ex exY s σ0 h0=some (σA,h)
  hr:runOps tb ex exY t σA h=some (σf,hf)
  inS:∀ a ∈ s,S a.ix=true
  free:∀ a ∈ t,S a.ix=true→fixedK a.kd=false
  E:Ext μ0 h0.fl.nat w0 μ w
  sim:Sim (CC P) P μ h w
  fl:h.fl=h0.fl
  env:EnvR μ σA σ'
  ag:∀ q:Pos,(∀ a ∈ t,S a.ix=true→a.dst ≠ some q)→σ (q.nat - 1)=σ' (q.nat - 1)
  le:μ.Le μS
  nm:∀ q c,μS q=some c→μ q=some c ∨ ∃ a o s1 t1 σ1 h1,a ∈ t∧S a.ix=true∧l[a.ix]?=some o∧wanted l σ o=true∧a.kd=4∧os=s1 ++ a :: t1∧runOps tb ex exY s1 σ0 h0=some (σ1,h1)∧q=h1.nx
  pd:∀ a ∈ t,S a.ix=true→∃ o p,Pend tb ex exY P l os σ0 h0 σf w0 μ μS σ w a o p
theorem Pend.mono {μB:Mu} {w0:World} {p:Pos} (h:Pend tb ex exY P l os σ0 h0 σf w0 μ μS σ w a o p) (hm:μ.Le μB):Pend tb ex exY P l os σ0 h0 σf w0 μB μS σ w a o p:=by
  refine ⟨h.get,h.dst,?_⟩
  rcases h.fact with f | ⟨f,⟨f1,f2⟩ | f1 | f1⟩
  · exact .inl f
  · exact .inr ⟨f,.inl ⟨f1,f2.mono hm⟩⟩
  · exact .inr ⟨f,.inr (.inl f1)⟩
  · exact .inr ⟨f,.inr (.inr f1)⟩
theorem JS.catch1 (Z:ZOK P N l os) {μ0:Mu} {w0:World} {S:Nat→Bool} (J:JS tb ex exY P l os σ0 h0 σf hf μ0 w0 S σ w s (a :: t) σA h σ' μ μS) (ha:S a.ix=true) :
    ∃ σB hB σ'' μB,JS tb ex exY P l os σ0 h0 σf hf μ0 w0 S σ w (s ++ [a]) t σB hB σ'' μB μS:=by
  obtain ⟨o,p,Pd⟩:=J.pd a (by simp) ha
  have hag:∀ q ∈ readsA a,σ (q.nat - 1)=σ' (q.nat - 1):=fun q hq=>J.ag q fun b hb _=>Z.rd s a t J.e q hq b hb
  obtain ⟨σB,hB,μB,c1,c2,c3,c4,c5,c6,c7,c8,c9⟩:=commit Z J.e J.hs J.hr J.E J.sim J.env J.le Pd hag
  have hne:∀ b ∈ t,b.ix ≠ a.ix:=fun b hb e=>by
    have:=Z.one
    rw [J.e] at this
    exact (List.pairwise_cons.1 (List.pairwise_append.1 this).2.1).1 b hb e.symm
  refine ⟨σB,hB,_,μB,by rw [J.e];simp,c1,c2,fun b hb=>?_,fun b hb=>J.free b (by simp [hb]),c5,c6,c7.trans J.fl,c8,fun q hq=>?_,c4,fun q c hq=>?_,fun b hb hS=>?_⟩
  · rcases List.mem_append.1 hb with hb | hb
    · exact J.inS b hb
    · rw [List.mem_singleton.1 hb];exact ha
  · by_cases e:q=p
    · subst e
      rw [upd_same]
    · rw [upd_ne _ _ (fun h=>e (Pos.nat_inj (by have:=q.nat_pos;have:=p.nat_pos;omega)))]
      refine J.ag q fun b hb hS=>?_
      rcases List.mem_cons.1 hb with rfl | hb
      · rw [Pd.dst]
        intro h
        cases h
        exact e rfl
      · exact hq b hb hS
  · rcases J.nm q c hq with h1 | ⟨b,ob,s1,t1,σ1,h1,k1,k2,k3,k4,k5,k6,k7,k8⟩
    · exact .inl (c3 _ _ h1)
    · rcases List.mem_cons.1 k1 with rfl | k1
      · left
        have hs1:s1=s:=(split_uniq (k6 ▸ Z.one) (k6.symm.trans J.e)).1
        subst hs1
        rw [J.hs] at k7
        cases k7
        subst k8
        rw [Pd.get] at k3
        cases k3
        have:=c9 k5 k4
        cases hm:μB h.nx with
        | none=>exact absurd hm this
        | some c' =>
          have:=c4 _ _ hm
          rw [hq] at this
          exact this.symm
      · exact .inr ⟨b,ob,s1,t1,σ1,h1,k1,k2,k3,k4,k5,k6,k7,k8⟩
  · obtain ⟨o',p',h'⟩:=J.pd b (by simp [hb]) hS
    exact ⟨o',p',h'.mono c3⟩
end
end Go.KX
namespace Go.KX
open Go.RowKit Go.KL
section
variable {tb:Tr AF} {ex exY:Run} {P:Program} {N:Nat} {l:List Oper} {os s t:List AO} {a:AO} {σ0 σA σf:Tr AV} {h0 h hf:AH} {μ μS:Mu} {σ σ':Env} {w:World} {o:Oper}
theorem ops_app:∀ (l1 l2:List AO) (x:Tr AV) (y:AH) (x1:Tr AV) (y1:AH),runOps tb ex exY l1 x y=some (x1,y1)→runOps tb ex exY (l1 ++ l2) x y=runOps tb ex exY l2 x1 y1
  | [],l2,x,y,x1,y1,h=>by rw [runOps_nil] at h;cases h;rfl
  | b :: l1,l2,x,y,x1,y1,h=>by
    rw [List.cons_append,runOps_cons]
    rw [runOps_cons] at h
    cases hb:wantA x b.grd with
    | true =>
      rw [hb] at h
      simp only at h ⊢
      cases hq:opK b.kd b.op tb ex exY x y with
      | none=>rw [hq] at h;cases h
      | some r=>rw [hq] at h;exact ops_app l1 l2 _ _ _ _ h
    | false =>
      rw [hb] at h
      exact ops_app l1 l2 _ _ _ _ h
theorem nm_ge (HE:FrX ex) (HY:FrX exY) (Z:ZOK P N l os) (e:os=s ++ t) (hs:runOps tb ex exY s σ0 h0=some (σA,h)) {b:AO} (hb:b ∈ t) {s1 t1:List AO} {σ1:Tr AV} {h1:AH} (e1:os=s1 ++ b :: t1) (hr:runOps tb ex exY s1 σ0 h0=some (σ1,h1)):h.nx.nat ≤ h1.nx.nat:=by
  obtain ⟨r,r',rfl⟩:=List.append_of_mem hb
  have es:s1=s ++ r:=(split_uniq (e1 ▸ Z.one) (e1.symm.trans (e.trans (List.append_assoc _ _ _).symm))).1
  subst es
  rw [ops_app s r _ _ _ _ hs] at hr
  exact (fr_ops HE HY _ _ _ _ _ hr).nx
theorem pend_agr (Z:ZOK P N l os) {S:Nat→Bool} (hdc:∀ k,k < l.length→S k=true→∀ j ∈ prI l k,S j=true) (ha:a ∈ os) (hS:S a.ix=false) {b:AO} (hb:b ∈ os) (hbS:S b.ix=true) (A:AOK P N l a o) {ob:Oper} (hob:l[b.ix]?=some ob) (v:Value):Agr l ob σ (put' σ o v):=by
  obtain ⟨ob',B⟩:=chkAO_ok (Z.ao b hb)
  have eo:ob'=ob:=by have:=B.get;rw [hob] at this;exact (Option.some.inj this).symm
  subst eo
  intro d hd
  obtain ⟨p,hp,rfl⟩:=looks_rd B (Z.sub b hb _ B.get) d hd
  symm
  refine put'_ne fun dd hdd e=>?_
  rcases A.dst with ⟨_,h2⟩ | ⟨q,d',h1,h2,h3,_⟩
  · rw [h2] at hdd;cases hdd
  · rw [h2] at hdd
    have hdd:=Option.some.inj hdd
    have eq:q=p:=Pos.nat_inj (by have:=q.nat_pos;have:=p.nat_pos;have:q.nat - 1=p.nat - 1:=h3.symm.trans (hdd.trans e);omega)
    subst eq
    have:=Z.rdS b hb q hp a ha h1
    have hlt:b.ix < l.length:=(List.getElem?_eq_some_iff.1 hob).1
    have:=anc_done hdc (hdc _ hlt hbS) this
    rw [hS] at this
    cases this
theorem JS.fixed (HC:CallOK (CC P) P tb ex) (HY':YieldOK (CC P) P exY) (HE:FrX ex) (HY:FrX exY) (Z:ZOK P N l os) {μ0:Mu} {w0:World} {S:Nat→Bool} (J:JS tb ex exY P l os σ0 h0 σf hf μ0 w0 S σ w s (a :: t) σA h σ' μ μS) (hfix:fixedK a.kd=true) (hS:S a.ix=false)
    (hdc:∀ k,k < l.length→S k=true→∀ j ∈ prI l k,S j=true) (A:AOK P N l a o) :
    Step1 P l o σ w fun v w'=>∃ σB hB σ'' μB μT,JS tb ex exY P l os σ0 h0 σf hf μ0 w0 (fun k=>k == a.ix || S k) (put' σ o v) w' (s ++ [a]) t σB hB σ'' μB μT:=by
  have ha:a ∈ os:=by rw [J.e];simp
  have hsel:=Z.sel a ha _ A.get
  have hag:∀ q ∈ readsA a,σ (q.nat - 1)=σ' (q.nat - 1):=fun q hq=>J.ag q fun b hb _=>Z.rd s a t J.e q hq b hb
  have hagr:Agr l o σ σ':=fun d hd=>by
    obtain ⟨q,h1,rfl⟩:=looks_rd A (Z.sub a ha _ A.get) d hd
    exact hag q h1
  have hw:=want_ok A J.env
  have main:∀ (v:AV) (cv:Value) (hB:AH) (w':World) (μB:Mu),runOps tb ex exY (s ++ [a]) σ0 h0=some (putD a.dst σA v,hB)→runOps tb ex exY t (putD a.dst σA v) hB=some (σf,hf) →
      Ext μ h.fl.nat w μB w'→Sim (CC P) P μB hB w'→EnvR μB (putD a.dst σA v) (put' σ' o cv)→hB.fl=h.fl →
      ∃ σB hB σ'' μB μT,JS tb ex exY P l os σ0 h0 σf hf μ0 w0 (fun k=>k == a.ix || S k) (put' σ o cv) w' (s ++ [a]) t σB hB σ'' μB μT:=by
    intro v cv hB w' μB r1 r2 E' S' hE' hfl
    have hne:∀ b ∈ t,b.ix ≠ a.ix:=fun b hb e=>by
      have:=Z.one
      rw [J.e] at this
      exact (List.pairwise_cons.1 (List.pairwise_append.1 this).2.1).1 b hb e.symm
    have hSb:∀ b ∈ t,(b.ix == a.ix || S b.ix)=true→S b.ix=true:=fun b hb h=>by
      have:=hne b hb
      simpa [this] using h
    have hbo:∀ b ∈ t,b ∈ os:=fun b hb=>by rw [J.e];simp [hb]
    have eB:os=(s ++ [a]) ++ t:=by rw [J.e];simp
    have hnm:∀ b ∈ t,∀ s1 t1 σ1 h1,os=s1 ++ b :: t1→runOps tb ex exY s1 σ0 h0=some (σ1,h1)→μB h1.nx=none∧μ h1.nx=none:=fun b hb s1 t1 σ1 h1 e1 hr=>by
      have g1:=nm_ge HE HY Z eB r1 hb e1 hr
      have g2:=nm_ge HE HY Z J.e J.hs (b:=b) (by simp [hb]) e1 hr
      exact ⟨S'.nx _ g1,J.sim.nx _ g2⟩
    let μT:Mu:=fun q=>match μB q with | some c=>some c | none=>μS q
    have hT:μB.Le μT:=fun q c hq=>by show (match μB q with | some c=>some c | none=>μS q)=_;rw [hq]
    have hST:μS.Le μT:=fun q c hq=>by
      show (match μB q with | some c=>some c | none=>μS q)=_
      cases hB:μB q with
      | none=>exact hq
      | some c' =>
        rcases J.nm q c hq with h1 | ⟨b,ob,s1,t1,σ1,h1,k1,k2,k3,k4,k5,k6,k7,k8⟩
        · rw [E'.mono _ _ h1] at hB
          exact hB.symm ▸ rfl
        · rcases List.mem_cons.1 k1 with rfl | k1
          · rw [hS] at k2;cases k2
          · have:=(hnm b k1 s1 t1 σ1 h1 k6 k7).1
            rw [← k8,hB] at this
            cases this
    refine ⟨_,hB,_,μB,μT,eB,r1,r2,fun b hb=>?_,fun b hb hh=>J.free b (by simp [hb]) (hSb b hb hh),?_,S',hfl.trans J.fl,hE',fun q hq=>?_,hT,fun q c hq=>?_,fun b hb hh=>?_⟩
    · rcases List.mem_append.1 hb with hb | hb
      · simp [J.inS b hb]
      · rw [List.mem_singleton.1 hb];simp
    · have:=J.E
      refine this.trans ?_
      rw [← J.fl]
      exact E'
    · have old:σ (q.nat - 1)=σ' (q.nat - 1) ∨ a.dst=some q:=by
        by_cases hq':a.dst=some q
        · exact .inr hq'
        · exact .inl (J.ag q fun b hb h=>by
            rcases List.mem_cons.1 hb with rfl | hb
            · exact hq'
            · exact hq b hb (by simp [h]))
      rcases A.dst with ⟨h1,h2⟩ | ⟨p,d,h1,h2,h3,_⟩
      · unfold put'
        rw [h2]
        rcases old with old | old
        · exact old
        · rw [h1] at old;cases old
      · unfold put'
        rw [h2]
        by_cases e:q.nat - 1=d
        · simp only [e,upd_same]
        · simp only
          rw [upd_ne _ _ e,upd_ne _ _ e]
          rcases old with old | old
          · exact old
          · rw [h1] at old
            cases old
            exact absurd h3.symm e
    · have hq:(match μB q with | some c=>some c | none=>μS q)=some c:=hq
      cases hB':μB q with
      | some c' =>
        rw [hB'] at hq
        exact .inl hq
      | none =>
        rw [hB'] at hq
        rcases J.nm q c hq with h1 | ⟨b,ob,s1,t1,σ1,h1,k1,k2,k3,k4,k5,k6,k7,k8⟩
        · rw [E'.mono _ _ h1] at hB'
          cases hB'
        · rcases List.mem_cons.1 k1 with rfl | k1
          · rw [hS] at k2;cases k2
          · exact .inr ⟨b,ob,s1,t1,σ1,h1,k1,by simp [k2],k3,(wanted_agr (pend_agr Z hdc ha hS (hbo b k1) k2 A k3 cv)).symm.trans k4,k5,k6,k7,k8⟩
    · have hbS:=hSb b hb hh
      obtain ⟨ob,p,Pd⟩:=J.pd b (by simp [hb]) hbS
      have hA:=pend_agr (σ:=σ) Z hdc ha hS (hbo b hb) hbS A Pd.get cv
      have hp:put' σ o cv (p.nat - 1)=σ (p.nat - 1):=put'_ne fun d hd e=>by
        rcases A.dst with ⟨_,h2⟩ | ⟨q,d',h1,h2,h3,_⟩
        · rw [h2] at hd;cases hd
        · rw [h2] at hd
          have hd:=Option.some.inj hd
          have eq:q=p:=Pos.nat_inj (by have:=q.nat_pos;have:=p.nat_pos;have:q.nat - 1=p.nat - 1:=h3.symm.trans (hd.trans e);omega)
          subst eq
          exact Z.wr s a t J.e q h1 b (List.mem_append_right _ hb) Pd.dst
      have hsb:=Z.sel b (hbo b hb) _ Pd.get
      refine ⟨ob,p,Pd.get,Pd.dst,?_⟩
      rw [hp,← wanted_agr hA]
      rcases Pd.fact with f | ⟨f,⟨f1,f2⟩ | ⟨f1,f2,w1,w2,f3⟩ | ⟨f1,f2,w1,o1,s1,t1,σ1,h1,f3,f4,f5,f6,f7,f8,f9⟩⟩
      · exact .inl f
      · exact .inr ⟨f,.inl ⟨f1,f2.mono E'.mono⟩⟩
      · exact .inr ⟨f,.inr (.inl ⟨f1,f2.mono hST,w1,w2,(Runs.agr hsb hA).1 f3⟩)⟩
      · obtain ⟨n1,n2⟩:=hnm b hb s1 t1 σ1 h1 f6 f7
        have nimg:¬ img μ h.fl.nat w1.heap.size:=by
          rintro ⟨q,d,g1,g2,_⟩
          have:=f9 q d (J.le _ _ g1) g2
          rw [this,n2] at g1
          cases g1
        refine .inr ⟨f,.inr (.inr ⟨f1,f2.mono hST,w1,o1,s1,t1,σ1,h1,(Runs.agr hsb hA).1 f3,(E'.keep.block _ (lt_of_some f4) nimg).trans f4,f5,f6,f7,hST _ _ f8,fun q c hq hc=>?_⟩)⟩
        have hq:(match μB q with | some c=>some c | none=>μS q)=some c:=hq
        cases hB':μB q with
        | none=>rw [hB'] at hq;exact f9 q c hq hc
        | some c' =>
          rw [hB'] at hq
          cases hq
          rcases E'.new q c hB' with g | g | g
          · exact f9 q c (J.le _ _ g) hc
          · rw [hc] at g;exact absurd g nimg
          · have:=lt_of_some f4;omega
  obtain ⟨σx,hx,q1,q2⟩:=can_at (s:=[]) (a:=a) (t:=t) (σ0:=σA) (h0:=h) (by rw [List.nil_append];exact J.hr)
  rw [runOps_nil] at q1
  cases q1
  refine Step1.agr hsel (fun d hd=>(hagr d hd).symm) ?_
  rcases q2 with ⟨g1,v,h2,g2,g3⟩ | ⟨g1,g3⟩
  · refine (stepK HC HY' A (hw.trans g1) g2 J.env J.sim).mono ?_
    rintro cv w' ⟨_,μB,e1,e2,e3,e4⟩
    refine main v cv h2 w' μB ?_ g3 e1 e2 e3 e4
    rw [ops_app s [a] _ _ _ _ J.hs,runOps_cons,g1]
    simp only
    rw [g2]
    exact runOps_nil _ _ _ _ _
  · refine .inr ⟨hw.trans g1,?_⟩
    refine main u undef h w μ ?_ g3 (Ext.refl μ _ w) J.sim (put_ok A J.env (rv_u μ)) rfl
    rw [ops_app s [a] _ _ _ _ J.hs,runOps_cons,g1]
    exact runOps_nil _ _ _ _ _
theorem JS.opnd (Z:ZOK P N l os) {μ0:Mu} {w0:World} {S:Nat→Bool} (J:JS tb ex exY P l os σ0 h0 σf hf μ0 w0 S σ w s t σA h σ' μ μS) (ha:a ∈ os) (hl:a.ix < l.length) (hp:∀ j ∈ prI l a.ix,S j=true)
    (hdc:∀ k,k < l.length→S k=true→∀ j ∈ prI l k,S j=true) {p:Pos} (hr:p ∈ readsA a):Rv μS (evA σf (.t p)) (σ (p.nat - 1))∧(a.kd=1 ∨ a.kd=3 ∨ 8 ≤ a.kd→Rv μ (evA σf (.t p)) (σ (p.nat - 1))):=by
  have base:(∀ b ∈ t,b.dst ≠ some p)→Rv μ (evA σf (.t p)) (σ (p.nat - 1)):=fun hn=>by
    rw [runOps_slot t _ _ _ _ J.hr p hn,J.ag p fun b hb _=>hn b hb]
    exact J.env p
  by_cases hw:∃ b ∈ t,b.dst=some p
  · obtain ⟨b,hb,hd⟩:=hw
    have hbo:b ∈ os:=by rw [J.e];simp [hb]
    have hanc:=Z.rdS a ha p hr b hbo hd
    have hS:=anc_done hdc hp hanc
    obtain ⟨ob,p',Pd⟩:=J.pd b hb hS
    have ep:p'=p:=by have:=Pd.dst;rw [hd] at this;exact (Option.some.inj this).symm
    subst ep
    rcases Pd.fact with ⟨_,f1,f2⟩ | ⟨_,⟨_,f1⟩ | ⟨f0,f1,_⟩ | ⟨f0,f1,_⟩⟩
    · rw [f1,f2]
      exact ⟨rv_u _,fun _=>rv_u _⟩
    · exact ⟨f1.mono J.le,fun _=>f1⟩
    · exact ⟨f1,fun hk=>absurd f0 (Z.cl a ha hk p' hr b hbo hd).2⟩
    · exact ⟨f1,fun hk=>absurd f0 (Z.cl a ha hk p' hr b hbo hd).1⟩
  · have:=base fun b hb hd=>hw ⟨b,hb,hd⟩
    exact ⟨this.mono J.le,fun _=>this⟩
end
end Go.KX
namespace Go.KX
open Go.RowKit Go.KL
section
variable {tb:Tr AF} {ex exY:Run} {P:Program} {N:Nat} {l:List Oper} {os s t:List AO} {a:AO} {σ0 σA σf:Tr AV} {h0 h h1 h' hf:AH} {μ μS:Mu} {σ σ':Env} {w:World} {o:Oper} {v:AV}
theorem load_old {a:AOp} {op:Op} (hk:kdA a=1) (hc:chkOp P a op=true) (hE:EnvR μ σA σ) (hm:∀ b c,μ b=some c→h.m.get b=h1.m.get b) (hr:opY a tb ex exY σA h1=some (v,h')):opY a tb ex exY σA h=some (v,h):=by
  have cel:∀ b c,μ b=some c→cellsAt h b=cellsAt h1 b:=fun b c hb=>by unfold cellsAt;rw [hm b c hb]
  cases a <;> first | (simp [kdA] at hk;done) | skip
  case ld x =>
    have hr:o_ld x σA h1=some (v,h'):=hr
    show o_ld x σA h=some (v,h)
    have hc:c_ld P x op=true:=hc
    unfold c_ld at hc
    split at hc
    · simp only [Bool.and_eq_true] at hc
      have g:=chkD_ok hc.2 hE
      unfold o_ld at hr ⊢
      split at hr
      · rename_i b off hb
        rw [hb] at g
        obtain ⟨c,g1,_⟩:=g
        simp only [hb,cel b c g1]
        split at hr
        · exact okV_all hr h
        · cases hr
      · cases hr
    · cases hc
  case ldA n x =>
    have hr:o_ldA n x σA h1=some (v,h'):=hr
    show o_ldA n x σA h=some (v,h)
    have hc:c_ldA P n x op=true:=hc
    unfold c_ldA at hc
    split at hc
    · simp only [Bool.and_eq_true] at hc
      have g:=chkD_ok hc.2 hE
      unfold o_ldA at hr ⊢
      split at hr
      · rename_i b off hb
        rw [hb] at g
        obtain ⟨c,g1,_⟩:=g
        simp only [hb,cel b c g1]
        split at hr
        · exact okV_all hr h
        · cases hr
      · cases hr
    · cases hc
  case lk two k ok z x y =>
    have hr:o_lk two k ok z x y σA h1=some (v,h'):=hr
    show o_lk two k ok z x y σA h=some (v,h)
    have hc:c_lk P two k ok z x y op=true:=hc
    unfold c_lk at hc
    split at hc
    · simp only [Bool.and_eq_true] at hc
      have g:=chkD_ok hc.2.2.1 hE
      unfold o_lk at hr ⊢
      split at hr
      · rename_i b hb
        rw [hb] at g
        obtain ⟨c,g1,_⟩:=g
        simp only [hb,hm b c g1]
        repeat' (split at hr)
        all_goals first | (cases hr;done) | (cases hr;rfl)
      · cases hr
    · cases hc
  case lenM x =>
    have hr:o_lenM x σA h1=some (v,h'):=hr
    show o_lenM x σA h=some (v,h)
    have hc:c_lenM P x op=true:=hc
    unfold c_lenM at hc
    split at hc
    · split at hc
      · simp only [Bool.and_eq_true] at hc
        obtain ⟨_,hc⟩:=hc
        split at hc
        · simp only [Bool.and_eq_true] at hc
          have g:=chkD_ok hc.2 hE
          unfold o_lenM at hr ⊢
          split at hr
          · rename_i hb
            cases hr
            simp_all
          · rename_i b hb
            rw [hb] at g
            obtain ⟨c,g1,_⟩:=g
            simp only [hb,hm b c g1]
            repeat' (split at hr)
            all_goals first | (cases hr;done) | (cases hr;rfl)
          · cases hr
        · cases hc
      · cases hc
    · cases hc
theorem old_keep (HE:FrX ex) (HY:FrX exY):∀ (r:List AO) (σ1:Tr AV) (h1:AH) (σ2:Tr AV) (h2:AH),runOps tb ex exY r σ1 h1=some (σ2,h2)→(∀ b ∈ r,chkAO P N l b=true) →
    (∀ b ∈ r,b.kd=2 ∨ (b.kd=1 ∨ b.kd=3 ∨ (b.kd=6∧kdA b.op=3) ∨ (b.kd=4∧isAl b.op=true) ∨ (8 ≤ b.kd∧kdA b.op=1)))→h1.nx.nat ≤ h2.nx.nat∧∀ p:Pos,p.nat < h1.nx.nat→h2.m.get p=h1.m.get p
  | [],σ1,h1,σ2,h2,hr,_,_=>by
    rw [runOps_nil] at hr
    cases hr
    exact ⟨Nat.le_refl _,fun _ _=>rfl⟩
  | b :: r,σ1,h1,σ2,h2,hr,hc,hk=>by
    rw [runOps_cons] at hr
    cases hw:wantA σ1 b.grd with
    | false =>
      rw [hw] at hr
      exact old_keep HE HY r _ _ _ _ hr (fun c hcc=>hc c (by simp [hcc])) (fun c hcc=>hk c (by simp [hcc]))
    | true =>
      rw [hw] at hr
      simp only at hr
      cases hq:opK b.kd b.op tb ex exY σ1 h1 with
      | none=>rw [hq] at hr;cases hr
      | some q =>
        rw [hq] at hr
        obtain ⟨v,h3⟩:=q
        obtain ⟨g1,g2⟩:=old_keep HE HY r _ _ _ _ hr (fun c hcc=>hc c (by simp [hcc])) (fun c hcc=>hk c (by simp [hcc]))
        obtain ⟨o,A⟩:=chkAO_ok (hc b (by simp))
        have one:h1.nx.nat ≤ h3.nx.nat∧∀ p:Pos,p.nat < h1.nx.nat→h3.m.get p=h1.m.get p:=by
          have same:h3=h1→h1.nx.nat ≤ h3.nx.nat∧∀ p:Pos,p.nat < h1.nx.nat→h3.m.get p=h1.m.get p:=fun e=>by subst e;exact ⟨Nat.le_refl _,fun _ _=>rfl⟩
          rcases hk b (by simp) with k | k | k | ⟨k,k'⟩ | ⟨k,k'⟩ | ⟨k,k'⟩
          · exact ⟨(fr_opK HE HY _ _ hq).nx,fr_two HE HY b.op (by rw [k] at hq;exact hq)⟩
          · rw [k] at hq
            exact same (okL_of (C:=CC P) (A.k1 k) A.op _ _ _ _ hq).1
          · rw [k] at hq
            exact same (okP_of (A.k3 k) A.op _ _ _ _ hq).1
          · rw [k] at hq
            exact same (okP_of k' A.op _ _ _ _ hq).1
          · rw [k] at hq
            obtain ⟨B,vf,e1,_⟩:=okA_of (C:=CC P) k' A.op _ _ _ _ hq
            subst e1
            refine ⟨(Fr.push h1 B).nx,fun p hp=>?_⟩
            show (h1.m.set h1.nx B).get p=_
            rw [Tr.get_set,if_neg (fun e=>by subst e;omega)]
          · exact same (okL_of (C:=CC P) (.inl k') A.op _ _ _ _ (opK_ne (by omega) hq)).1
        exact ⟨Nat.le_trans one.1 g1,fun p hp=>(g2 p (Nat.lt_of_lt_of_le hp one.1)).trans (one.2 p hp)⟩
theorem JS.full {μ0:Mu} {w0:World} {S:Nat→Bool} (J:JS tb ex exY P l os σ0 h0 σf hf μ0 w0 S σ w s t σA h σ' μ μS):runOps tb ex exY os σ0 h0=some (σf,hf):=by
  rw [J.e,ops_app s t _ _ _ _ J.hs]
  exact J.hr
theorem JS.frm (Z:ZOK P N l os) {μ0:Mu} {w0:World} {S:Nat→Bool} (J:JS tb ex exY P l os σ0 h0 σf hf μ0 w0 S σ w s t σA h σ' μ μS) (ha:a ∈ os) (hl:a.ix < l.length) (hp:∀ j ∈ prI l a.ix,S j=true)
    (hdc:∀ k,k < l.length→S k=true→∀ j ∈ prI l k,S j=true) (A:AOK P N l a o) {s1 t1:List AO} {σ1:Tr AV} (e1:os=s1 ++ a :: t1) (hr1:runOps tb ex exY s1 σ0 h0=some (σ1,h1)) :
    wanted l σ o=wantA σ1 a.grd∧∀ p ∈ readsA a,evA σf (.t p)=evA σ1 (.t p):=by
  have hf:=J.full
  have hrd:∀ p ∈ readsA a,evA σf (.t p)=evA σ1 (.t p):=fun p hp=>by
    rw [e1,ops_app s1 _ _ _ _ _ hr1] at hf
    exact can_rd Z e1 hf hp
  refine ⟨?_,hrd⟩
  have hE:EnvR μS (rst σf (readsA a)) (rsl σ (readsA a)):=rst_env fun p hpr=>(J.opnd Z ha hl hp hdc hpr).1
  have hw:=want_ok A hE
  have hag:Agr l o (rsl σ (readsA a)) σ:=fun d hd=>by
    obtain ⟨p,h1,h2⟩:=looks_rd A (Z.sub a ha _ A.get) d hd
    unfold rsl
    rw [if_pos ⟨p,h1,h2⟩]
  rw [← wanted_agr hag,hw]
  cases hg:a.grd with
  | none=>rfl
  | some q =>
    obtain ⟨p,b⟩:=q
    show isB b (evA _ (.t p))=isB b (evA _ (.t p))
    have hpr:p ∈ readsA a:=List.mem_append_right _ (by rw [hg];simp)
    rw [rst_get,if_pos hpr,hrd p hpr]
theorem nm_lt (HE:FrX ex) (HY:FrX exY) (Z:ZOK P N l os) {a b:AO} {s1 t1 s2 t2:List AO} {σ1 σ2:Tr AV} {h1 h2:AH} (e1:os=s1 ++ a :: t1) (e2:os=s2 ++ b :: t2) (r1:runOps tb ex exY s1 σ0 h0=some (σ1,h1)) (r2:runOps tb ex exY s2 σ0 h0=some (σ2,h2))
    (w1:wantA σ1 a.grd=true) (ka:a.kd=4) (la:isAl a.op=true) (hin:a ∈ s2):h1.nx.nat < h2.nx.nat:=by
  obtain ⟨o,A⟩:=chkAO_ok (Z.ao a (by rw [e1];simp))
  obtain ⟨r,r',rfl⟩:=List.append_of_mem hin
  have es:s1=r:=(split_uniq (e1 ▸ Z.one) (e1.symm.trans (e2.trans (by rw [List.append_assoc,List.cons_append])))).1
  subst es
  rw [ops_app s1 _ _ _ _ _ r1,runOps_cons,w1] at r2
  simp only at r2
  cases hq:opK a.kd a.op tb ex exY σ1 h1 with
  | none=>rw [hq] at r2;cases r2
  | some q =>
    rw [hq] at r2
    obtain ⟨v,h3⟩:=q
    rw [ka] at hq
    obtain ⟨B,vf,q1,_⟩:=okA_of (C:=CC P) la A.op _ _ _ _ hq
    subst q1
    have:=(fr_ops HE HY _ _ _ _ _ r2).nx
    have h3:(h1.push B).nx.nat=h1.nx.nat + 1:=Pos.nat_succ _
    simp only at this
    omega
theorem nm_ne (HE:FrX ex) (HY:FrX exY) (Z:ZOK P N l os) {a b:AO} {s1 t1 s2 t2:List AO} {σ1 σ2:Tr AV} {h1 h2:AH} (e1:os=s1 ++ a :: t1) (e2:os=s2 ++ b :: t2) (r1:runOps tb ex exY s1 σ0 h0=some (σ1,h1)) (r2:runOps tb ex exY s2 σ0 h0=some (σ2,h2))
    (w1:wantA σ1 a.grd=true) (w2:wantA σ2 b.grd=true) (ka:a.kd=4) (la:isAl a.op=true) (kb:b.kd=4) (lb:isAl b.op=true) (hne:a ≠ b):h1.nx ≠ h2.nx:=by
  have ha:a ∈ s2 ++ b :: t2:=by rw [← e2,e1];simp
  rcases List.mem_append.1 ha with h | h
  · intro e
    have:=nm_lt HE HY Z e1 e2 r1 r2 w1 ka la h
    rw [e] at this
    exact absurd this (Nat.lt_irrefl _)
  · rcases List.mem_cons.1 h with h | h
    · exact absurd h hne
    · obtain ⟨r,r',rfl⟩:=List.append_of_mem h
      have es:s1=s2 ++ b :: r:=(split_uniq (e1 ▸ Z.one) (e1.symm.trans (e2.trans (by rw [List.append_assoc,List.cons_append])))).1
      intro e
      have:=nm_lt HE HY Z e2 e1 r2 r1 w2 kb lb (by rw [es];simp)
      rw [e] at this
      exact absurd this (Nat.lt_irrefl _)
end
end Go.KX
namespace Go.KX
open Go.RowKit Go.KL
section
variable {tb:Tr AF} {ex exY:Run} {P:Program} {N:Nat} {l:List Oper} {os s t:List AO} {a:AO} {σ0 σA σf:Tr AV} {h0 h h1 h' hf:AH} {μ μS:Mu} {σ σ':Env} {w:World} {o:Oper} {v:AV}
theorem ix_uniq (Z:ZOK P N l os) {a b:AO} (ha:a ∈ os) (hb:b ∈ os) (e:b.ix=a.ix):b=a:=by
  obtain ⟨s,t,hs⟩:=List.append_of_mem ha
  have one:=Z.one
  rw [hs] at hb one
  rcases List.mem_append.1 hb with h | h
  · exact absurd e ((List.pairwise_append.1 one).2.2 b h a (by simp))
  · rcases List.mem_cons.1 h with h | h
    · exact h
    · exact absurd e.symm ((List.pairwise_cons.1 (List.pairwise_append.1 one).2.1).1 b h)
theorem put_slot (A:AOK P N l a o) {q:Pos} (hn:a.dst ≠ some q) (cv:Value):put' σ o cv (q.nat - 1)=σ (q.nat - 1):=by
  refine put'_ne fun d hd e=>?_
  rcases A.dst with ⟨_,h2⟩ | ⟨p,d',h1,h2,h3,_⟩
  · rw [h2] at hd;cases hd
  · rw [h2] at hd
    have hd:=Option.some.inj hd
    have:p=q:=Pos.nat_inj (by have:=q.nat_pos;have:=p.nat_pos;have:p.nat - 1=q.nat - 1:=h3.symm.trans (hd.trans e);omega)
    subst this
    exact hn h1
theorem JS.add (Z:ZOK P N l os) {μ0:Mu} {w0:World} {S:Nat→Bool} (J:JS tb ex exY P l os σ0 h0 σf hf μ0 w0 S σ w s t σA h σ' μ μS) (ha:a ∈ t) (hS:S a.ix=false) (hfree:fixedK a.kd=false)
    (hdc:∀ k,k < l.length→S k=true→∀ j ∈ prI l k,S j=true) (A:AOK P N l a o) {cv:Value} {w':World} {μT:Mu} (K:Keep w w' Non) (hle:μS.Le μT)
    (hnew:∀ q c,μT q=some c→μS q=some c ∨ (c.1=w.heap.size∧wanted l σ o=true∧a.kd=4∧∃ s1 t1 σ1 h1,os=s1 ++ a :: t1∧runOps tb ex exY s1 σ0 h0=some (σ1,h1)∧q=h1.nx))
    (hpa:∃ p,Pend tb ex exY P l os σ0 h0 σf w0 μ μT (put' σ o cv) w' a o p) :
    JS tb ex exY P l os σ0 h0 σf hf μ0 w0 (fun k=>k == a.ix || S k) (put' σ o cv) w' s t σA h σ' μ μT:=by
  have hao:a ∈ os:=by rw [J.e];simp [ha]
  have hbo:∀ b ∈ t,b ∈ os:=fun b hb=>by rw [J.e];simp [hb]
  obtain ⟨sa,ta,ea⟩:=List.append_of_mem hao
  have hself:Agr l o σ (put' σ o cv):=by
    intro d hd
    obtain ⟨p,hp,rfl⟩:=looks_rd A (Z.sub a hao _ A.get) d hd
    exact (put_slot A (Z.rd sa a ta ea p hp a (by simp)) cv).symm
  refine ⟨J.e,J.hs,J.hr,fun b hb=>by simp [J.inS b hb],fun b hb hh=>?_,⟨J.E.mono,J.E.new,J.E.keep.step K fun _ _ hn=>hn.elim⟩,J.sim.keep K,J.fl,J.env,fun q hq=>?_,J.le.trans hle,fun q c hq=>?_,fun b hb hh=>?_⟩
  · by_cases e:b.ix=a.ix
    · rw [ix_uniq Z hao (hbo b hb) e];exact hfree
    · exact J.free b hb (by simpa [e] using hh)
  · rw [put_slot A (hq a ha (by simp))]
    exact J.ag q fun b hb hs=>hq b hb (by simp [hs])
  · rcases hnew q c hq with h1 | ⟨_,h2,h3,s1,t1,σ1,h1,e1,e2,e3⟩
    · rcases J.nm q c h1 with g | ⟨b,ob,s1,t1,σ1,h1,k1,k2,k3,k4,k5,k6,k7,k8⟩
      · exact .inl g
      · exact .inr ⟨b,ob,s1,t1,σ1,h1,k1,by simp [k2],k3,(wanted_agr (pend_agr Z hdc hao hS (hbo b k1) k2 A k3 cv)).symm.trans k4,k5,k6,k7,k8⟩
    · exact .inr ⟨a,o,s1,t1,σ1,h1,ha,by simp,A.get,(wanted_agr hself).symm.trans h2,h3,e1,e2,e3⟩
  · by_cases e:b.ix=a.ix
    · have:=ix_uniq Z hao (hbo b hb) e
      subst this
      exact ⟨o,hpa⟩
    · have hbS:S b.ix=true:=by simpa [e] using hh
      obtain ⟨ob,p,Pd⟩:=J.pd b hb hbS
      have hA:=pend_agr (σ:=σ) Z hdc hao hS (hbo b hb) hbS A Pd.get cv
      have hp:put' σ o cv (p.nat - 1)=σ (p.nat - 1):=by
        refine put_slot A (fun hd=>?_) cv
        have hb':=hbo b hb
        rw [ea] at hb'
        have hb'':b ∈ sa ++ ta:=by
          rcases List.mem_append.1 hb' with h | h
          · exact List.mem_append_left _ h
          · rcases List.mem_cons.1 h with h | h
            · exact absurd (by rw [h]) e
            · exact List.mem_append_right _ h
        exact Z.wr sa a ta ea p hd b hb'' Pd.dst
      have hsb:=Z.sel b (hbo b hb) _ Pd.get
      refine ⟨ob,p,Pd.get,Pd.dst,?_⟩
      rw [hp,← wanted_agr hA]
      rcases Pd.fact with f | ⟨f,⟨f1,f2⟩ | ⟨f1,f2,w1,w2,f3⟩ | ⟨f1,f2,w1,o1,s1,t1,σ1,h1,f3,f4,f5,f6,f7,f8,f9⟩⟩
      · exact .inl f
      · exact .inr ⟨f,.inl ⟨f1,f2⟩⟩
      · exact .inr ⟨f,.inr (.inl ⟨f1,f2.mono hle,w1,w2,(Runs.agr hsb hA).1 f3⟩)⟩
      · refine .inr ⟨f,.inr (.inr ⟨f1,f2.mono hle,w1,o1,s1,t1,σ1,h1,(Runs.agr hsb hA).1 f3,(K.block _ (lt_of_some f4) id).trans f4,f5,f6,f7,hle _ _ f8,fun q c hq hc=>?_⟩)⟩
        rcases hnew q c hq with h1 | ⟨h1,_⟩
        · exact f9 q c h1 hc
        · have:=lt_of_some f4
          omega
theorem first_zero:∀ (r:List AO),(∀ b ∈ r,b.kd ≠ 0) ∨ ∃ x b y,r=x ++ b :: y∧b.kd=0∧∀ c ∈ x,c.kd ≠ 0
  | []=>.inl fun b hb=>by simp at hb
  | a :: r=>by
    by_cases h0:a.kd=0
    · exact .inr ⟨[],a,r,rfl,h0,fun c hc=>by simp at hc⟩
    · rcases first_zero r with h | ⟨x,b,y,h1,h2,h3⟩
      · refine .inl fun b hb=>?_
        rcases List.mem_cons.1 hb with rfl | hb
        · exact h0
        · exact h b hb
      · refine .inr ⟨a :: x,b,y,by rw [h1];rfl,h2,fun c hc=>?_⟩
        rcases List.mem_cons.1 hc with rfl | hc
        · exact h0
        · exact h3 c hc
theorem JS.freeOp {σg:Tr AV} (HE:FrX ex) (HY:FrX exY) (Z:ZOK P N l os) (HL:LCK tb ex exY os σ0 h0 σg) (Hg:∀ a ∈ os,8 ≤ a.kd→∀ p,p ∈ readsA a ∨ a.dst=some p→evA σf (.t p)=evA σg (.t p)) {μ0:Mu} {w0:World} {S:Nat→Bool} (J:JS tb ex exY P l os σ0 h0 σf hf μ0 w0 S σ w s t σA h σ' μ μS) (ha:a ∈ t) (hS:S a.ix=false) (hfree:fixedK a.kd=false)
    (hp:∀ j ∈ prI l a.ix,S j=true) (hdc:∀ k,k < l.length→S k=true→∀ j ∈ prI l k,S j=true) (A:AOK P N l a o) :
    Step1 P l o σ w fun cv w'=>∃ μT,JS tb ex exY P l os σ0 h0 σf hf μ0 w0 (fun k=>k == a.ix || S k) (put' σ o cv) w' s t σA h σ' μ μT:=by
  have hao:a ∈ os:=by rw [J.e];simp [ha]
  have hl:a.ix < l.length:=(List.getElem?_eq_some_iff.1 A.get).1
  obtain ⟨r,r',et⟩:=List.append_of_mem ha
  have e1:os=(s ++ r) ++ a :: r':=by rw [J.e,et,List.append_assoc]
  have hsel:=Z.sel a hao _ A.get
  have hsub:=Z.sub a hao _ A.get
  have hfull:=J.full
  rw [e1] at hfull
  obtain ⟨σ1,h1,r1,r2⟩:=can_at hfull
  obtain ⟨hw,hrd⟩:=J.frm Z hao hl hp hdc A e1 r1
  have hrr:runOps tb ex exY r σA h=some (σ1,h1):=by rw [← ops_app s r _ _ _ _ J.hs];exact r1
  have hself:∀ cv,Agr l o σ (put' σ o cv):=by
    intro cv d hd
    obtain ⟨p,hp,rfl⟩:=looks_rd A hsub d hd
    exact (put_slot A (Z.rd _ a _ e1 p hp a (by simp)) cv).symm
  obtain ⟨hdn,hkd⟩:a.dst ≠ none∧(a.kd=1 ∨ a.kd=3 ∨ (a.kd=6∧kdA a.op=3) ∨ (a.kd=4∧isAl a.op=true) ∨ (8 ≤ a.kd∧kdA a.op=1)):=by
    rcases Z.kd a hao with h | h
    · rw [hfree] at h;cases h
    · exact h
  obtain ⟨p,d,d1,d2,d3,_⟩:∃ p d,a.dst=some p∧o.dst=some d∧d=p.nat - 1∧d < N:=by
    rcases A.dst with ⟨h1,_⟩ | h
    · exact absurd h1 hdn
    · exact h
  have eput:∀ cv,put' σ o cv (p.nat - 1)=cv:=fun cv=>by unfold put';rw [d2,d3];exact upd_same _ _ _
  have hslot:∀ q ∈ slotsA (opsA a.op),q ∈ readsA a:=fun q hq=>List.mem_append_left _ hq
  rcases r2 with ⟨g1,v,h2,g2,g3⟩ | ⟨g1,g3⟩
  · have hv:evA σf (.t p)=v:=can_val Z e1 g3 d1
    have hw':wanted l σ o=true:=hw.trans g1
    have hwn:∀ cv,wanted l (put' σ o cv) o=true:=fun cv=>(wanted_agr (hself cv)).symm.trans hw'
    have hvS:∀ q ∈ slotsA (opsA a.op),Rv μS (evA σ1 (.t q)) (σ (q.nat - 1)):=fun q hq=>by
      rw [← hrd q (hslot q hq)]
      exact (J.opnd Z hao hl hp hdc (hslot q hq)).1
    have clean:(a.kd=1 ∨ a.kd=3 ∨ 8 ≤ a.kd)→(∃ cv,Rv μ v cv∧Runs P σ w o cv w)→Step1 P l o σ w fun cv w'=>∃ μT,JS tb ex exY P l os σ0 h0 σf hf μ0 w0 (fun k=>k == a.ix || S k) (put' σ o cv) w' s t σA h σ' μ μT:=by
      rintro hk ⟨cv,c1,c2⟩
      refine .inl ⟨hw',.inr (.inl ⟨cv,w,c2,μS,J.add Z ha hS hfree hdc A (Keep.refl w _) (Mu.Le.refl _) (fun q c hq=>.inl hq) ⟨p,A.get,d1,.inr ⟨hwn cv,.inl ⟨hk,?_⟩⟩⟩⟩)⟩
      rw [hv,eput]
      exact c1
    have hvC:(a.kd=1 ∨ a.kd=3 ∨ 8 ≤ a.kd)→∀ q ∈ slotsA (opsA a.op),Rv μ (evA σ1 (.t q)) (σ (q.nat - 1)):=fun hk q hq=>by
      rw [← hrd q (hslot q hq)]
      exact (J.opnd Z hao hl hp hdc (hslot q hq)).2 hk
    have loadC:(a.kd=1 ∨ a.kd=3 ∨ 8 ≤ a.kd)→kdA a.op=1→∀ (x:List AO),(∀ b ∈ x,b ∈ t)→∀ {σ2:Tr AV} {h3 h4:AH} {σ3:Tr AV},runOps tb ex exY x σA h=some (σ2,h3)→opY a.op tb ex exY σ3 h3=some (v,h4)→(∀ b ∈ x,b.kd=0→False)→(∀ q ∈ readsA a,evA σf (.t q)=evA σ3 (.t q))→∃ cv,Rv μ v cv∧Runs P σ w o cv w:=by
      intro hk k x hx σ2 h3 h4 σ3 hrx gY hx0 hrd3
      have hv3:∀ q ∈ slotsA (opsA a.op),Rv μ (evA σ3 (.t q)) (σ (q.nat - 1)):=fun q hq=>by
        rw [← hrd3 q (hslot q hq)]
        exact (J.opnd Z hao hl hp hdc (hslot q hq)).2 hk
      have hrs:=rst_op gY
      have henv:=rst_env hv3
      obtain ⟨_,hold⟩:=old_keep HE HY x _ _ _ _ hrx (fun b hb=>Z.ao b (by rw [J.e];simp [hx b hb])) (fun b hb=>by
        rcases Z.kd b (by rw [J.e];simp [hx b hb]) with h | h
        · unfold fixedK at h
          simp only [Bool.or_eq_true] at h
          rcases h with h | h
          · exact absurd (Nat.eq_of_beq_eq_true h) (hx0 b hb)
          · exact .inl (Nat.eq_of_beq_eq_true h)
        · exact .inr h.2)
      have hm:∀ b c,μ b=some c→h.m.get b=h3.m.get b:=fun b c hb=>by
        refine (hold b ?_).symm
        rcases Nat.lt_or_ge b.nat h.nx.nat with hlt | hge
        · exact hlt
        · rw [J.sim.nx b hge] at hb;cases hb
      have hld:=load_old k A.op henv hm hrs
      obtain ⟨cv,c1,c2⟩:=free_load (C:=CC P) hsel hsub (.inl k) A.op hld J.sim (fun q hq=>by rw [rst_get,if_pos hq];exact hv3 q hq)
      exact ⟨cv,c1,c2⟩
    rcases hkd with hk | hk | ⟨hk,hk2⟩ | ⟨hk,hk2⟩ | ⟨hk,hk2⟩
    · have gY:opY a.op tb ex exY σ1 h1=some (v,h2):=by rw [hk] at g2;exact g2
      refine clean (.inl hk) ?_
      rcases A.k1 hk with k | k
      · exact loadC (.inl hk) k r (fun b hb=>by rw [et];simp [hb]) hrr gY (fun b hb h0=>by
          have:=anc_done hdc hp (Z.ld _ a _ e1 hk b (by simp [hb]) h0)
          have:=J.free b (by rw [et];simp [hb]) this
          rw [h0] at this
          cases this) hrd
      · obtain ⟨cv,c1,c2⟩:=free_pure hsel hsub k A.op gY (hvC (.inl hk))
        exact ⟨cv,c1,c2 w⟩
    · have gY:opY a.op tb ex exY σ1 h1=some (v,h2):=by rw [hk] at g2;exact g2
      obtain ⟨cv,c1,c2⟩:=free_pure hsel hsub (A.k3 hk) A.op gY (hvC (.inr (.inl hk)))
      exact clean (.inr (.inl hk)) ⟨cv,c1,c2 w⟩
    · have gY:opY a.op tb ex exY σ1 h1=some (v,h2):=by rw [hk] at g2;exact g2
      obtain ⟨cv,c1,c2⟩:=free_pure hsel hsub hk2 A.op gY hvS
      refine .inl ⟨hw',.inr (.inl ⟨cv,w,c2 w,μS,J.add Z ha hS hfree hdc A (Keep.refl w _) (Mu.Le.refl _) (fun q c hq=>.inl hq) ⟨p,A.get,d1,.inr ⟨hwn cv,.inr (.inl ⟨hk,?_,w,w,?_⟩)⟩⟩⟩)⟩
      · rw [hv,eput]
        exact c1
      · rw [eput]
        exact (Runs.agr hsel (hself cv)).1 (c2 w)
    · have gY:opY a.op tb ex exY σ1 h1=some (v,h2):=by rw [hk] at g2;exact g2
      obtain ⟨B,vf,ob,val,_,ev',_,c1,c2,c3⟩:=free_alloc (C:=CC P) hsel hsub hk2 A.op gY hvS
      have hno:μS h1.nx=none:=by
        cases hq:μS h1.nx with
        | none=>rfl
        | some c =>
          rcases J.nm _ c hq with g | ⟨b,ob',s2,t2,σ2,h3,k1,k2,k3,k4,k5,k6,k7,k8⟩
          · have:=nm_ge HE HY Z J.e J.hs ha e1 r1
            rw [J.sim.nx _ this] at g
            cases g
          · have hbo:b ∈ os:=by rw [J.e];simp [k1]
            have hne:a ≠ b:=fun e=>by subst e;rw [hS] at k2;cases k2
            obtain ⟨ob2,B2⟩:=chkAO_ok (Z.ao b hbo)
            have hb2:isAl b.op=true:=by
              rcases Z.kd b hbo with hh | ⟨_,hh | hh | hh | hh | hh⟩
              · rw [k5] at hh;exact absurd hh (by decide)
              · omega
              · omega
              · omega
              · exact hh.2
              · omega
            have hwb:wantA σ2 b.grd=true:=by
              have hlb:b.ix < l.length:=(List.getElem?_eq_some_iff.1 k3).1
              have eo:ob2=ob':=by have:=B2.get;rw [k3] at this;exact (Option.some.inj this).symm
              subst eo
              have:=(J.frm Z hbo hlb (hdc _ hlb k2) hdc B2 k6 k7).1
              rw [← this]
              exact k4
            exact absurd k8 (nm_ne HE HY Z e1 k6 r1 k7 g1 hwb hk hk2 k5 hb2 hne)
      have hadd:=Mu.add_le (c:=(⟨w.heap.size,0,g0⟩:Cl)) hno
      have hsz:∀ q c,μS q=some c→c.1 < w.heap.size:=fun q c hq=>by
        rcases J.nm q c hq with g | ⟨b,ob',s2,t2,σ2,h3,k1,k2,k3,k4,k5,k6,k7,k8⟩
        · exact J.sim.lt q c g
        · obtain ⟨ob2,p2,Pd⟩:=J.pd b k1 k2
          have eo:ob2=ob':=by have:=Pd.get;rw [k3] at this;exact (Option.some.inj this).symm
          subst eo
          rcases Pd.fact with ⟨f,_⟩ | ⟨_,⟨f,_⟩ | ⟨f,_⟩ | ⟨_,_,w1,o1,s3,t3,σ3,h4,_,f4,_,f6,f7,f8,_⟩⟩
          · rw [k4] at f;cases f
          · omega
          · omega
          · have es:s3=s2:=(split_uniq (f6 ▸ Z.one) (f6.symm.trans k6)).1
            subst es
            rw [k7] at f7
            cases f7
            subst k8
            rw [hq] at f8
            cases f8
            exact lt_of_some f4
      refine .inl ⟨hw',.inr (.inl ⟨val w.heap.size,w.alloc ob,c1 w,μS.add h1.nx ⟨w.heap.size,0,g0⟩,J.add Z ha hS hfree hdc A (alloc_keep w ob) hadd (fun q c hq=>?_) ⟨p,A.get,d1,.inr ⟨hwn _,.inr (.inr ⟨hk,?_,w,ob,s ++ r,r',σ1,h1,?_,heap_alloc_new w ob,J.E.keep.size,e1,r1,Mu.add_same _ _ _,fun q c hq hc=>?_⟩)⟩⟩⟩)⟩
      · unfold Mu.add at hq
        split at hq
        · rename_i eq
          cases hq
          exact .inr ⟨rfl,hw',hk,s ++ r,r',σ1,h1,e1,r1,eq⟩
        · exact .inl hq
      · rw [hv,eput,ev']
        exact c3 _ _ _ (Mu.add_same _ _ _)
      · rw [eput]
        exact (Runs.agr hsel (hself _)).1 (c1 w)
      · unfold Mu.add at hq
        split at hq
        · rename_i eq
          exact eq
        · have:=hsz q c hq
          omega
    · have gY:opY a.op tb ex exY σ1 h1=some (v,h2):=opK_ne (by omega) g2
      refine clean (.inr (.inr hk)) ?_
      rcases first_zero r with hz | ⟨x,b,y,er,hb0,hx0⟩
      · exact loadC (.inr (.inr hk)) hk2 r (fun b hb=>by rw [et];simp [hb]) hrr gY (fun b hb h0=>hz b hb h0) hrd
      · have e2:os=(s ++ x) ++ b :: (y ++ a :: r'):=by rw [J.e,et,er];simp
        have hfull2:=J.full
        rw [e2] at hfull2
        obtain ⟨σ2,h3,r3,_⟩:=can_at hfull2
        have hbt:b ∈ t:=by rw [et,er];simp
        have hanc:cntF y + 8 < a.kd:=by
          rcases Z.ld8 _ a _ e1 hk (s ++ x) b y (by rw [er];simp) hb0 with g | g
          · have:=J.free b hbt (anc_done hdc hp g)
            rw [hb0] at this
            cases this
          · exact g
        have hlk:=HL _ b _ e2 hb0 _ _ r3
        have hsame:=lchk_at y a r' 0 hlk hfree (by omega)
        have hgf:wantA σg a.grd=true:=by
          rw [← g1]
          cases hg:a.grd with
          | none=>rfl
          | some q =>
            obtain ⟨q,c⟩:=q
            show isB c (evA _ (.t q))=isB c (evA _ (.t q))
            have hqr:q ∈ readsA a:=List.mem_append_right _ (by rw [hg];simp)
            rw [← Hg a hao hk q (.inl hqr),hrd q hqr]
        unfold ldSame at hsame
        rw [d1] at hsame
        simp only [hgf] at hsame
        split at hsame
        · rename_i v' h5 hq
          have hvv:=same_eq hsame
          rw [← Hg a hao hk p (.inr d1),hv] at hvv
          subst hvv
          have hrx:runOps tb ex exY x σA h=some (σ2,h3):=by rw [← ops_app s x _ _ _ _ J.hs];exact r3
          exact loadC (.inr (.inr hk)) hk2 x (fun b hb=>by rw [et,er];simp [hb]) hrx hq (fun b hb h0=>hx0 b hb h0) (fun q hq=>Hg a hao hk q (.inl hq))
        · cases hsame
  · refine .inr ⟨hw.trans g1,μS,J.add Z ha hS hfree hdc A (Keep.refl w _) (Mu.Le.refl _) (fun q c hq=>.inl hq) ⟨p,A.get,d1,.inl ⟨(wanted_agr (hself _)).symm.trans (hw.trans g1),eput _,?_⟩⟩⟩
    exact can_val Z e1 (v:=u) g3 d1
theorem JS.catch (Z:ZOK P N l os) {μ0:Mu} {w0:World} {S:Nat→Bool}:∀ (r:List AO) {s t:List AO} {σA:Tr AV} {h:AH} {σ':Env} {μ:Mu},JS tb ex exY P l os σ0 h0 σf hf μ0 w0 S σ w s (r ++ t) σA h σ' μ μS→(∀ a ∈ r,S a.ix=true) →
    ∃ σB hB σ'' μB,JS tb ex exY P l os σ0 h0 σf hf μ0 w0 S σ w (s ++ r) t σB hB σ'' μB μS
  | [],s,t,σA,h,σ',μ,J,_=>⟨σA,h,σ',μ,by rw [List.append_nil];exact J⟩
  | a :: r,s,t,σA,h,σ',μ,J,hS=>by
    obtain ⟨σB,hB,σ'',μB,J1⟩:=JS.catch1 (t:=r ++ t) Z J (hS a (by simp))
    obtain ⟨σC,hC,σ3,μC,J2⟩:=JS.catch Z r J1 fun b hb=>hS b (by simp [hb])
    exact ⟨σC,hC,σ3,μC,by rw [show s ++ a :: r=s ++ [a] ++ r by simp];exact J2⟩
theorem JS.anew {A B:List AO} {σm:Tr AV} {h2:AH} {μ0:Mu} {w0:World} {S:Nat→Bool} (J:JS tb ex exY P l A σ0 h0 σm h2 μ0 w0 S σ w s [] σA h σ' μ μS) (hr:runOps tb ex exY B σm h2=some (σf,hf)) (hB:∀ b ∈ B,S b.ix=false) :
    Ext μ0 h0.fl.nat w0 μ w∧h2.fl=h0.fl∧JS tb ex exY P l B σm h2 σf hf μ w S σ w [] B σm h2 σ' μ μ:=by
  have hr1:=J.hr
  rw [runOps_nil] at hr1
  cases hr1
  exact ⟨J.E,J.fl,rfl,runOps_nil _ _ _ _ _,hr,fun b hb=>(by simp at hb),fun b hb hS=>(by rw [hB b hb] at hS;cases hS),Ext.refl μ _ w,J.sim,rfl,J.env,fun q _=>J.ag q fun b hb=>(by simp at hb),Mu.Le.refl _,fun q c hq=>.inl hq,fun b hb hS=>(by rw [hB b hb] at hS;cases hS)⟩
theorem CK.lazy {rr:Option Nat} {Q:Post} {D:List Deferred} {id:Nat} (hm:P.follows .mixedOrders=true) (HC:CallOK (CC P) P tb ex) (HY':YieldOK (CC P) P exY) (HE:FrX ex) (HY:FrX exY) (ZZ:∃ A B,ZAll P N l os A B) (HL0:LCK tb ex exY os σ0 h0 σf)
    (hr:runOps tb ex exY os σ0 h0=some (σf,hf)) (S:Sim (CC P) P μ h0 w) (hE:EnvR μ σ0 σ)
    (hQ:∀ μ' w' σ',Ext μ h0.fl.nat w μ' w'→Sim (CC P) P μ' hf w'→EnvR μ' σf σ'→hf.fl=h0.fl→Q D .normal σ' w'):CK rr N P (.region id l.toArray true) Q D σ w:=by
  obtain ⟨A,B,ZZ⟩:=ZZ
  obtain ⟨σm,h2,hrA,hrB⟩:=runOps_split A B σ0 h0 _ (ZZ.eq ▸ hr)
  have HL:LCK tb ex exY A σ0 h0 σf∧LCK tb ex exY B σm h2 σf:=by
    refine ⟨fun s b t e k0 σ1 h1 hs=>?_,lck_triv ZZ.low⟩
    have:=HL0 s b (t ++ B) (by rw [ZZ.eq,e];simp) k0 σ1 h1 hs
    exact lchk_pre t B 0 this
  have Hg:∀ a ∈ A,8 ≤ a.kd→∀ p,p ∈ readsA a ∨ a.dst=some p→evA σm (.t p)=evA σf (.t p):=fun a ha h8 p hp=>(runOps_slot B _ _ _ _ hrB p fun b hb=>ZZ.far a ha h8 p hp b hb).symm
  have lt:∀ b ∈ os,b.ix < l.length:=fun b hb=>by
    rw [ZZ.eq] at hb
    rcases List.mem_append.1 hb with hb | hb
    · obtain ⟨o,A⟩:=chkAO_ok (ZZ.za.ao b hb)
      exact (List.getElem?_eq_some_iff.1 A.get).1
    · obtain ⟨o,A⟩:=chkAO_ok (ZZ.zb.ao b hb)
      exact (List.getElem?_eq_some_iff.1 A.get).1
  have stepB:∀ (S1:Nat→Bool) (a:AO) (σ1:Env) (w1:World) (μm:Mu) (wm:World) (s t:List AO) (σA:Tr AV) (h:AH) (σ':Env) (μ1 μS:Mu) (o:Oper),a ∈ B→S1 a.ix=false→(∀ j ∈ prI l a.ix,S1 j=true)→(∀ k,k < l.length→S1 k=true→∀ j ∈ prI l k,S1 j=true)→AOK P N l a o →
      JS tb ex exY P l B σm h2 σf hf μm wm S1 σ1 w1 s t σA h σ' μ1 μS→Step1 P l o σ1 w1 fun v w'=>∃ s t σA h σ' μ1 μS,JS tb ex exY P l B σm h2 σf hf μm wm (fun k=>k == a.ix || S1 k) (put' σ1 o v) w' s t σA h σ' μ1 μS:=by
    intro S1 a σ1 w1 μm wm s t σA h σ' μ1 μS o ha hSi hpi hdc A J
    have hat:a ∈ t:=by
      have:=ha
      rw [J.e] at this
      rcases List.mem_append.1 this with h | h
      · rw [J.inS a h] at hSi;cases hSi
      · exact h
    cases hf:fixedK a.kd with
    | true =>
      obtain ⟨r,r',et⟩:=List.append_of_mem hat
      rw [et] at J
      obtain ⟨σB,hB,σ'',μB,J1⟩:=JS.catch ZZ.zb r J fun b hb=>anc_done hdc hpi (ZZ.zb.anc (s ++ r) a r' (by rw [J.e,List.append_assoc]) hf b (by simp [hb]))
      refine (J1.fixed HC HY' HE HY ZZ.zb hf hSi hdc A).mono ?_
      rintro v w' ⟨σC,hC,σ3,μC,μT,J2⟩
      exact ⟨_,_,_,_,_,_,_,J2⟩
    | false =>
      refine (J.freeOp HE HY ZZ.zb HL.2 (fun _ _ _ _ _=>rfl) hat hSi hf hpi hdc A).mono ?_
      rintro v w' ⟨μT,J2⟩
      exact ⟨_,_,_,_,_,_,_,J2⟩
  have toB:∀ (S1:Nat→Bool) (σ1:Env) (w1:World) (s t:List AO) (σA:Tr AV) (h:AH) (σ':Env) (μ1 μS:Mu),(∀ a ∈ A,S1 a.ix=true)→(∀ b ∈ B,S1 b.ix=false)→JS tb ex exY P l A σ0 h0 σm h2 μ w S1 σ1 w1 s t σA h σ' μ1 μS →
      ∃ μm σ',Ext μ h0.fl.nat w μm w1∧h2.fl=h0.fl∧JS tb ex exY P l B σm h2 σf hf μm w1 S1 σ1 w1 [] B σm h2 σ' μm μm:=by
    intro S1 σ1 w1 s t σA h σ' μ1 μS hA hB J
    have J0:JS tb ex exY P l A σ0 h0 σm h2 μ w S1 σ1 w1 s (t ++ []) σA h σ' μ1 μS:=by rw [List.append_nil];exact J
    obtain ⟨σB,hB',σ'',μB,J1⟩:=JS.catch ZZ.za t J0 fun b hb=>hA b (by rw [J.e];simp [hb])
    obtain ⟨g1,g2,g3⟩:=J1.anew hrB hB
    exact ⟨μB,σ'',g1,g2,g3⟩
  refine CK.anyRel hm ZZ.za.pr (fun S σ w1=>((∀ b ∈ B,S b.ix=false)∧∃ s t σA h σ' μ1 μS,JS tb ex exY P l A σ0 h0 σm h2 μ w S σ w1 s t σA h σ' μ1 μS) ∨
    ((∀ a ∈ A,S a.ix=true)∧∃ μm wm,Ext μ h0.fl.nat w μm wm∧h2.fl=h0.fl∧∃ s t σA h σ' μ1 μS,JS tb ex exY P l B σm h2 σf hf μm wm S σ w1 s t σA h σ' μ1 μS)) ?_ ?_ ?_
  · exact .inl ⟨fun b _=>rfl,[],A,σ0,h0,σ,μ,μ,rfl,runOps_nil _ _ _ _ _,hrA,fun b hb=>(by simp at hb),fun b _ hb=>(by cases hb),Ext.drew μ _ w,S.keep (Keep.drew w),rfl,hE,fun _ _=>rfl,Mu.Le.refl _,fun q c hq=>.inl hq,fun b _ hb=>(by cases hb)⟩
  · rintro S1 i σ1 w1 hi hSi hpi hdc hlt hI
    obtain ⟨a,ha,rfl⟩:=ZZ.all i hi
    rw [ZZ.eq] at ha
    rcases List.mem_append.1 ha with ha | ha
    · obtain ⟨o,AK⟩:=chkAO_ok (ZZ.za.ao a ha)
      refine ⟨o,AK.get,dst_lt AK,?_⟩
      rcases hI with ⟨hB,s,t,σA,h,σ',μ1,μS,J⟩ | ⟨hA,_⟩
      · have hB':∀ b ∈ B,(fun k=>k == a.ix || S1 k) b.ix=false:=fun b hb=>by
          have:=(ZZ.cross b hb a ha).1
          simp [hB b hb,Ne.symm this]
        have hat:a ∈ t:=by
          have:=ha
          rw [J.e] at this
          rcases List.mem_append.1 this with h | h
          · rw [J.inS a h] at hSi;cases hSi
          · exact h
        cases hf:fixedK a.kd with
        | true =>
          obtain ⟨r,r',et⟩:=List.append_of_mem hat
          rw [et] at J
          obtain ⟨σB,hB2,σ'',μB,J1⟩:=JS.catch ZZ.za r J fun b hb=>anc_done hdc hpi (ZZ.za.anc (s ++ r) a r' (by rw [J.e,List.append_assoc]) hf b (by simp [hb]))
          refine (J1.fixed HC HY' HE HY ZZ.za hf hSi hdc AK).mono ?_
          rintro v w' ⟨σC,hC,σ3,μC,μT,J2⟩
          exact .inl ⟨hB',_,_,_,_,_,_,_,J2⟩
        | false =>
          refine (J.freeOp HE HY ZZ.za HL.1 Hg hat hSi hf hpi hdc AK).mono ?_
          rintro v w' ⟨μT,J2⟩
          exact .inl ⟨hB',_,_,_,_,_,_,_,J2⟩
      · rw [hA a ha] at hSi
        cases hSi
    · obtain ⟨o,AK⟩:=chkAO_ok (ZZ.zb.ao a ha)
      refine ⟨o,AK.get,dst_lt AK,?_⟩
      have hA:∀ c ∈ A,S1 c.ix=true:=fun c hc=>anc_done hdc hpi (ZZ.cross a ha c hc).2
      rcases hI with ⟨hB,s,t,σA,h,σ',μ1,μS,J⟩ | ⟨_,μm,wm,g1,g2,s,t,σA,h,σ',μ1,μS,J⟩
      · obtain ⟨μm,σ2,g1,g2,J1⟩:=toB S1 σ1 w1 s t σA h σ' μ1 μS hA hB J
        refine (stepB S1 a σ1 w1 _ _ _ _ _ _ _ _ _ o ha hSi hpi hdc AK J1).mono ?_
        rintro v w' ⟨s,t,σA,h,σ',μ1,μS,J2⟩
        exact .inr ⟨fun c hc=>by simp [hA c hc],_,_,g1,g2,_,_,_,_,_,_,_,J2⟩
      · refine (stepB S1 a σ1 w1 _ _ _ _ _ _ _ _ _ o ha hSi hpi hdc AK J).mono ?_
        rintro v w' ⟨s,t,σA,h,σ',μ1,μS,J2⟩
        exact .inr ⟨fun c hc=>by simp [hA c hc],_,_,g1,g2,_,_,_,_,_,_,_,J2⟩
  · rintro S1 σ1 w1 hall hI
    have hI2:∃ μm wm,Ext μ h0.fl.nat w μm wm∧h2.fl=h0.fl∧∃ s t σA h σ' μ1 μS,JS tb ex exY P l B σm h2 σf hf μm wm S1 σ1 w1 s t σA h σ' μ1 μS:=by
      rcases hI with ⟨hB,s,t,σA,h,σ',μ1,μS,J⟩ | ⟨_,hI⟩
      · obtain ⟨μm,σ2,g1,g2,J1⟩:=toB S1 σ1 w1 s t σA h σ' μ1 μS (fun a ha=>hall _ (lt a (by rw [ZZ.eq];simp [ha]))) hB J
        exact ⟨_,_,g1,g2,_,_,_,_,_,_,_,J1⟩
      · exact hI
    obtain ⟨μm,wm,g1,g2,s,t,σA,h,σ',μ1,μS,J⟩:=hI2
    have J0:JS tb ex exY P l B σm h2 σf hf μm wm S1 σ1 w1 s (t ++ []) σA h σ' μ1 μS:=by rw [List.append_nil];exact J
    obtain ⟨σB,hB,σ'',μB,J1⟩:=JS.catch ZZ.zb t J0 fun b hb=>hall _ (lt b (by rw [ZZ.eq,J.e];simp [hb]))
    have hr1:=J1.hr
    rw [runOps_nil] at hr1
    cases hr1
    refine hQ μB w1 σ1 (g1.trans (g2 ▸ J1.E)) J1.sim (fun q=>?_) (J1.fl.trans g2)
    rw [J1.ag q fun b hb=>by simp at hb]
    exact J1.env q
end
end Go.KX
namespace Go.KX
open Go.RowKit Go.KL
section
variable {P:Program} {tb:Tr AF}
theorem region_ok (hm:P.follows .mixedOrders=true) {ex exY:Run} (HC:CallOK (CC P) P tb ex) (HY:YieldOK (CC P) P exY) (FE:FrX ex) (FY:FrX exY) {os:List AO} {σA σA':Tr AV} {h h':AH} (hr:runOps tb ex exY os σA h=some (σA',h')) {id N:Nat} {ops:Array Oper} {draw:Bool} (hc:chkR P N os ops.toList draw=true)
    {rr:Option Nat} {μ:Mu} {σ:Env} {w:World} {D:List Deferred} {n0:Nat} (S:Sim (CC P) P μ h w) (hE:EnvR μ σA σ) (M:Mk μ w n0 D):CK rr N P (.region id ops draw) (PostX P μ h.fl w n0 rr D .nrm σA' h') D σ w:=by
  unfold chkR at hc
  simp only [Bool.and_eq_true,List.all_eq_true] at hc
  obtain ⟨c1,c2⟩:=hc
  have hop:ops=ops.toList.toArray:=by simp
  have hcs:∀ a ∈ os,chkAO P N ops.toList a=true∧kOf ((List.range ops.toList.length).map fun i=>kdAt i os) a.ix=a.kd:=fun a ha=>⟨(c1 a ha).1,Nat.eq_of_beq_eq_true (c1 a ha).2⟩
  have post:∀ {w0:World},Ext μ h.fl.nat w μ w0→Sim (CC P) P μ h w0→OKS N P ops.toList (PostX P μ h.fl w n0 rr D .nrm σA' h') D ((List.range ops.toList.length).map fun i=>kdAt i os) (schOf os) σ w0:=by
    intro w0 E0 S0
    refine ops_ok HC HY os σA h σA' h' hr hcs μ σ w0 S0 hE fun μ' w' σ' q1 q2 q3 q4=>?_
    have E:=E0.trans q1
    exact ⟨rfl,μ',E,q2,q3,M.ext E,q4,fun _=>rfl⟩
  rw [hop]
  cases draw with
  | true =>
    simp only at c2
    split at c2
    · simp only [Bool.and_eq_true,List.all_eq_true,Nat.blt_eq] at c2
      exact CK.lazy hm HC HY FE FY (chkZ_ok (fun a ha=>(c1 a ha).1) c2.2) (lck_triv c2.1) hr S hE fun μ' w' σ' q1 q2 q3 q4=>⟨rfl,μ',q1,q2,q3,M.ext q1,q4,fun _=>rfl⟩
    · exact CK.anyOrd hm _ _ c2 (post (Ext.drew μ _ w) (S.keep (Keep.drew w)))
  | false=>exact CK.reg _ c2 (post (Ext.refl μ _ w) S)
theorem range_ok {ex:Run} (HC:CallOK (CC P) P tb ex) {g:AOd} {t:List Pos} {asg body:AC} {g':Operand} {ps:Array Tmp} {asg' body':Code} {N:Nat} (hc:chkC P N (.rf g t asg body) (.rangeFunc g' ps asg' body')=true)
    {σA σA':Tr AV} {h h':AH} {e:Ex} (hr:sRf true g t asg body tb ex σA h=some (e,σA',h')) {μ:Mu} {σ:Env} {w:World} {D:List Deferred} {n0:Nat} (S:Sim (CC P) P μ h w) (hE:EnvR μ σA σ) (M:Mk μ w n0 D) (hn:n0 ≤ w.heap.size) :
    CK none N P (.rangeFunc g' ps asg' body') (PostX P μ h.fl w n0 none D e σA' h') D σ w:=by
  simp only [chkC,Bool.and_eq_true] at hc
  obtain ⟨c1,c2,c3,c4⟩:=hc
  obtain ⟨p,rfl⟩:∃ p:List Nat,ps=p.toArray:=⟨ps.toList,by simp⟩
  · obtain ⟨ht,c6⟩:=chkTs_ok (by simpa using c2)
    unfold sRf at hr
    split at hr
    · rename_i f fi ca hg
      have hx:=chkD_ok c1 hE
      rw [hg] at hx
      obtain ⟨fv,cv,g1,g2,g3⟩:=hx
      split at hr <;> first | (cases hr;done) | skip
      rename_i rv h2 hcall
      obtain ⟨hcf,hgv⟩:=HC _ _ _ _ _ hcall
      refine CK.rangeFunc (t:=p) g3 hcf fun fn l rb w1 e1 e2 hl hd K hs=>?_
      subst e1 e2
      have hle:=Mu.add_le (c:=(⟨w.heap.size + 1,0,⟨N,σ,p,asg',body',w.heap.size,fn⟩⟩:Cl)) (S.nx h.nx (Nat.le_refl _))
      obtain ⟨s1,s2,s3,s4⟩:=S.push (w':=w1) (c:=⟨w.heap.size + 1,0,⟨N,σ,p,asg',body',w.heap.size,fn⟩⟩) (B:=.loop σA t asg body .ready) K (Nat.le_succ _) (by show w.heap.size + 1 < _;omega) ⟨hl,hE.mono hle,ht,c6,c3,c4⟩
      generalize hμ1:μ.add h.nx (⟨w.heap.size + 1,0,⟨N,σ,p,asg',body',w.heap.size,fn⟩⟩:Cl)=μ1 at *
      have M1:Mk μ1 w1 n0 (mark w.heap.size :: D):=by
        have M':=M.ext s2
        obtain ⟨rbs,m1,m2,m3⟩:=M'
        have hold:∀ rb ∈ rbs,rb < w.heap.size:=by
          obtain ⟨rbs0,k1,k2,k3⟩:=M
          intro rb hrb
          have hmm:rbs.map mark=rbs0.map mark:=by rw [← m1,← k1]
          have hinj:rbs=rbs0:=by
            have:∀ (a b:List Nat),a.map mark=b.map mark→a=b:=by
              intro a
              induction a with
              | nil=>intro b hb;cases b with
                | nil=>rfl
                | cons _ _=>simp at hb
              | cons x a ih=>intro b hb;cases b with
                | nil=>simp at hb
                | cons y b =>
                  simp only [List.map_cons,List.cons.injEq] at hb
                  have hxy:x=y:=by have:=hb.1;simp [mark] at this;exact this
                  rw [hxy,ih b hb.2]
            exact this _ _ hmm
          exact (k3 rb (hinj ▸ hrb)).1.lt
        refine ⟨w.heap.size :: rbs,by rw [List.map_cons,← m1],List.nodup_cons.2 ⟨fun hm=>absurd (hold _ hm) (Nat.lt_irrefl _),m2⟩,fun rb hrb=>?_⟩
        rcases List.mem_cons.1 hrb with rfl | hrb
        · refine ⟨hd,hn,fun q c hq=>?_⟩
          rw [← hμ1] at hq
          unfold Mu.add at hq
          split at hq
          · cases hq;show w.heap.size + 1 ≠ _;omega
          · have:=S.lt q c hq;omega
        · exact m3 rb hrb
      have G:=hgv μ1 w1 (fv ++ (.func (.yield (w.heap.size + 1)) #[] #[] :: cv)) s1 (rvL_app (g1.mono s2.mono) (rvL_cons ⟨_,s4,rfl⟩ (g2.mono s2.mono)))
      rw [List.append_assoc]
      refine G.mono ?_
      rintro v3 w3 ⟨μ3,q1,q2,q3,q4⟩
      rw [s3] at q1 q4
      have E13:=s2.trans q1
      have hc3:=q1.mono _ _ s4
      have fin:∀ {B:AB} {h3:AH} (w4:World),h2.m.get h.nx=some B→live B→h2.put h.nx .dead=some h3→Keep w3 w4 (·=w.heap.size + 1)→w4.heap.size=w3.heap.size→∃ μ',Ext μ h.fl.nat w μ' w4∧Sim (CC P) P μ' h3 w4∧EnvR μ' σA σ∧Mk μ' w4 n0 (mark w.heap.size :: D)∧h3.fl=h.fl:=by
        intro B h3 w4 hB hlv hput K4 _
        obtain ⟨v1,v2,v3⟩:=q2.put hput hB hlv hc3 K4 (B':=.dead) trivial
        rw [q4] at v2 v3
        exact ⟨μ3,E13.trans v2,v1,hE.mono E13.mono,(M1.ext q1).ext v2,v3⟩
      split at hr
      · rename_i sx tx ax bx hB
        split at hr <;> first | (cases hr;done) | skip
        rename_i h3 hput
        cases hr
        obtain ⟨c',u1,u2⟩:=q2.at_ _ _ hB
        rw [hc3] at u1;cases u1
        have L3:LoopR (CC P) μ3 w3 ⟨w.heap.size + 1,0,⟨N,σ,p,asg',body',w.heap.size,fn⟩⟩ sx tx ax bx .ready:=u2
        refine .inl ⟨L3.at_,fun w4 K4 hs4=>?_⟩
        obtain ⟨μ',a1,a2,a3,a4,a5⟩:=fin w4 hB trivial hput K4 hs4
        exact ⟨rfl,μ',a1,a2,a3,a4,a5,fun hq=>by cases hq⟩
      · rename_i sx tx ax bx ee hB
        split at hr <;> first | (cases hr;done) | skip
        rename_i h3 hput
        cases hr
        obtain ⟨c',u1,u2⟩:=q2.at_ _ _ hB
        rw [hc3] at u1;cases u1
        have L3:LoopR (CC P) μ3 w3 ⟨w.heap.size + 1,0,⟨N,σ,p,asg',body',w.heap.size,fn⟩⟩ sx tx ax bx (.done e):=u2
        cases e with
        | nrm =>
          refine .inl ⟨L3.at_,fun w4 K4 hs4=>?_⟩
          obtain ⟨μ',a1,a2,a3,a4,a5⟩:=fin w4 hB trivial hput K4 hs4
          exact ⟨rfl,μ',a1,a2,a3,a4,a5,fun hq=>by cases hq⟩
        | ret =>
          refine .inr ⟨.ret,.inl rfl,L3.at_,fun w4 K4 hs4=>?_⟩
          obtain ⟨μ',a1,a2,a3,a4,a5⟩:=fin w4 hB trivial hput K4 hs4
          exact ⟨rfl,μ',a1,a2,a3,a4,a5,fun hq=>by cases hq⟩
        | exit i =>
          refine .inr ⟨.exit i,.inr ⟨i,rfl⟩,L3.at_,fun w4 K4 hs4=>?_⟩
          obtain ⟨μ',a1,a2,a3,a4,a5⟩:=fin w4 hB trivial hput K4 hs4
          exact ⟨rfl,μ',a1,a2,a3,a4,a5,fun hq=>by cases hq⟩
      · cases hr
    · cases hr
theorem CK.ofRounds {rr:Option Nat} {N:Nat} {c:Code} {Q:Post} {D:List Deferred} {σ:Env} {w:World} (m:Nat) (hh:∀ a,Rep N D a σ→Code.roundsIn (WF rr) 0 P c (liftQ N Q) m a w):CK rr N P (.loop c) Q D σ w :=
  fun a ha=>wpIn_loop_rounds m (hh a ha)
theorem seq_ok {exR:Run} {r:Bool} (HE:ExecOK P exR r) {a b:AC} {σA σA':Tr AV} {h h':AH} {e:Ex} (hr:sSeq a b exR σA h=some (e,σA',h')) {c d:Code} {N:Nat} (hc1:chkC P N a c=true) (hc2:chkC P N b d=true)
    {rr:Option Nat} {μ:Mu} {σ:Env} {w:World} {D:List Deferred} {n0:Nat} (hrr:rr.isSome=r) (S:Sim (CC P) P μ h w) (hE:EnvR μ σA σ) (M:Mk μ w n0 D) (hn:n0 ≤ w.heap.size):CK rr N P (.seq c d) (PostX P μ h.fl w n0 rr D e σA' h') D σ w:=by
  obtain ⟨⟨e1,σ1,h1⟩,ha,hb⟩:=optR hr
  rw [seqK_eq] at hb
  refine CK.seq ((HE _ _ _ _ _ _ ha c N hc1 rr μ σ w D n0 hrr S hE M hn).mono ?_)
  intro D' e' σ' w' hp
  obtain ⟨rfl,μ1,q1,q2,q3,q4,q5,q6⟩:=hp
  cases e1 with
  | nrm =>
    refine (HE _ _ _ _ _ _ hb d N hc2 rr μ1 σ' w' D' n0 hrr q2 q3 q4 (Nat.le_trans hn q1.keep.size)).mono ?_
    intro D'' e'' σ'' w'' hp
    rw [q5] at hp
    exact PostX.trans q1 q6 hp
  | ret=>cases hb;exact ⟨rfl,μ1,q1,q2,q3,q4,q5,q6⟩
  | exit i=>cases hb;exact ⟨rfl,μ1,q1,q2,q3,q4,q5,q6⟩
theorem loop_ok {exR:Run} {r:Bool} {m:Nat} (HE:ExecOK P exR r) (HL:LoopOK P exR r m) {a:AC} {σA σA':Tr AV} {h h':AH} {e:Ex} (hr:sLoop a exR σA h=some (e,σA',h')) {c:Code} {N:Nat} (hc:chkC P N a c=true)
    {rr:Option Nat} {μ:Mu} {σ:Env} {w:World} {D:List Deferred} {n0:Nat} (hrr:rr.isSome=r) (S:Sim (CC P) P μ h w) (hE:EnvR μ σA σ) (M:Mk μ w n0 D) (hn:n0 ≤ w.heap.size):∀ act,Rep N D act σ→Code.roundsIn (WF rr) 0 P c (liftQ N (PostX P μ h.fl w n0 rr D e σA' h')) (m + 1) act w:=by
  obtain ⟨⟨e1,σ1,h1⟩,ha,hb⟩:=optR hr
  rw [seqK_eq] at hb
  intro act hact
  rw [roundsIn_succ]
  refine wpIn_mono (HE _ _ _ _ _ _ ha c N hc rr μ σ w D n0 hrr S hE M hn act hact) ?_
  rintro e' act' w' ⟨σ',D',hrep,hp⟩
  obtain ⟨rfl,μ1,q1,q2,q3,q4,q5,q6⟩:=hp
  cases e1 with
  | nrm =>
    refine rounds_mono ?_ m act' w' (HL _ _ _ _ _ _ hb c N hc rr μ1 σ' w' D' n0 hrr q2 q3 q4 (Nat.le_trans hn q1.keep.size) act' hrep)
    rintro e'' act'' w'' ⟨σ'',D'',hrep',hp⟩
    rw [q5] at hp
    exact ⟨σ'',D'',hrep',PostX.trans q1 q6 hp⟩
  | ret=>cases hb;exact ⟨σ',D',hrep,rfl,μ1,q1,q2,q3,q4,q5,q6⟩
  | exit i=>cases hb;exact ⟨σ',D',hrep,rfl,μ1,q1,q2,q3,q4,q5,q6⟩
theorem exec_ok (hm:P.follows .mixedOrders=true) (T:TabOK P tb):∀ (n:Nat) (r:Bool),ExecOK P (exec tb n r) r∧LoopOK P (exec tb n r) r n:=by
  intro n
  induction n with
  | zero=>intro r;exact ⟨fun c σA h e σA' h' hr=>(by cases hr),fun c σA h e σA' h' hr=>(by cases hr)⟩
  | succ n ih =>
    intro r
    have HC:=call_of T (ih false).1
    have HY:=yield_of (P:=P) (ih true).1
    obtain ⟨HE,HL⟩:=ih r
    have loop:LoopOK P (exec tb (n + 1) r) r (n + 1):=by
      intro c σA h e σA' h' hr code N hc rr μ σ w D n0 hrr S hE M hn
      have hr:sLoop c (exec tb n r) σA h=some (e,σA',h'):=hr
      exact loop_ok HE HL hr hc hrr S hE M hn
    refine ⟨?_,loop⟩
    intro c σA h e σA' h' hr code N hc rr μ σ w D n0 hrr S hE M hn
    rw [exec_succ] at hr
    cases c with
    | skip =>
      have hr:sNrm σA h=some (e,σA',h'):=hr
      cases hr
      have fin:PostX P μ h.fl w n0 rr D .nrm σA h D .normal σ w:=⟨rfl,μ,Ext.refl μ _ w,S,hE,M,rfl,fun _=>rfl⟩
      cases code <;> simp only [chkC,Bool.false_eq_true] at hc
      · exact CK.skip fin
      · exact CK.label fin
    | rg os =>
      have hr:sRg os tb (exec tb n false) (exec tb n true) (exec tb n r) σA h=some (e,σA',h'):=hr
      unfold sRg at hr
      have:∃ y,runOps tb (exec tb n false) (exec tb n true) os σA h=some y∧some (Ex.nrm,y.1,y.2)=some (e,σA',h'):=by
        cases hq:runOps tb (exec tb n false) (exec tb n true) os σA h with
        | none=>rw [hq] at hr;cases hr
        | some y=>rw [hq] at hr;exact ⟨y,rfl,hr⟩
      obtain ⟨y,h1,h2⟩:=this
      cases h2
      cases code <;> simp only [chkC,Bool.false_eq_true] at hc
      exact region_ok hm HC HY (fr_exec tb n false) (fr_exec tb n true) h1 hc S hE M
    | seq a b =>
      have hr:sSeq a b (exec tb n r) σA h=some (e,σA',h'):=hr
      cases code <;> simp only [chkC,Bool.false_eq_true,Bool.and_eq_true] at hc
      exact seq_ok HE hr hc.1 hc.2 hrr S hE M hn
    | cond x a b =>
      have hr:sCond x a b (exec tb n r) σA h=some (e,σA',h'):=hr
      cases code <;> simp only [chkC,Bool.false_eq_true,Bool.and_eq_true] at hc
      have hx:=chkD_ok hc.1 hE
      unfold sCond at hr
      split at hr
      · rename_i hb;rw [hb] at hx
        exact CK.condT hx (HE _ _ _ _ _ _ hr _ N hc.2.1 rr μ σ w D n0 hrr S hE M hn)
      · rename_i hb;rw [hb] at hx
        exact CK.condF hx (HE _ _ _ _ _ _ hr _ N hc.2.2 rr μ σ w D n0 hrr S hE M hn)
      · cases hr
    | block i a =>
      have hr:sBlock i a (exec tb n r) σA h=some (e,σA',h'):=hr
      cases code <;> simp only [chkC,Bool.false_eq_true,Bool.and_eq_true] at hc
      rename_i j code
      have hij:=Nat.eq_of_beq_eq_true hc.1
      subst hij
      obtain ⟨⟨e1,σ1,h1⟩,ha,hb⟩:=optR hr
      refine CK.block ((HE _ _ _ _ _ _ ha code N hc.2 rr μ σ w D n0 hrr S hE M hn).mono ?_)
      rintro D' e' σ' w' ⟨rfl,μ1,q1,q2,q3,q4,q5,q6⟩
      cases e1 with
      | nrm=>cases hb;exact ⟨rfl,μ1,q1,q2,q3,q4,q5,q6⟩
      | ret=>cases hb;exact ⟨rfl,μ1,q1,q2,q3,q4,q5,q6⟩
      | exit k =>
        have hb:Bool.rec (motive:=fun _=>R) (some (.exit k,σ1,h1)) (some (.nrm,σ1,h1)) (Nat.beq k i)=some (e,σA',h'):=hb
        cases hk:Nat.beq k i with
        | true =>
          rw [hk] at hb;cases hb
          have:=Nat.eq_of_beq_eq_true hk
          subst this
          exact blockQ_h ⟨rfl,μ1,q1,q2,q3,q4,q5,q6⟩
        | false =>
          rw [hk] at hb;cases hb
          exact blockQ_m ⟨rfl,μ1,q1,q2,q3,q4,q5,q6⟩ hk
    | loop a =>
      have hr':exec tb (n + 1) r (.loop a) σA h=some (e,σA',h'):=hr
      cases code <;> simp only [chkC,Bool.false_eq_true] at hc
      exact CK.ofRounds (n + 1) (loop _ _ _ _ _ _ hr' _ N hc rr μ σ w D n0 hrr S hE M hn)
    | rf g t asg body =>
      have hr:sRf (!r) g t asg body tb (exec tb n false) σA h=some (e,σA',h'):=hr
      cases r with
      | true=>unfold sRf at hr;simp at hr
      | false =>
        have hnone:rr=none:=by cases rr <;> first | rfl | cases hrr
        subst hnone
        cases code <;> first | (simp only [chkC,Bool.false_eq_true] at hc;done) | skip
        exact range_ok HC hc hr S hE M hn
    | exit i =>
      have hr:some (Ex.exit i,σA,h)=some (e,σA',h'):=hr
      cases hr
      cases code <;> simp only [chkC,Bool.false_eq_true] at hc
      have:=Nat.eq_of_beq_eq_true hc
      subst this
      exact CK.exit ⟨rfl,μ,Ext.refl μ _ w,S,hE,M,rfl,fun _=>rfl⟩
    | scope a =>
      have hr:exec tb n r a σA h=some (e,σA',h'):=hr
      cases code <;> simp only [chkC,Bool.false_eq_true] at hc
      refine CK.scope ((HE _ _ _ _ _ _ hr _ N hc rr μ σ w D n0 hrr S hE M hn).mono ?_)
      rintro D' e' σ' w' ⟨rfl,q⟩
      cases e with
      | nrm=>exact ⟨rfl,q⟩
      | ret=>exact ⟨rfl,q⟩
      | exit k=>exact ⟨rfl,q⟩
    | ret =>
      have hr:some (Ex.ret,σA,h)=some (e,σA',h'):=hr
      cases hr
      cases code <;> simp only [chkC,Bool.false_eq_true] at hc
      exact CK.ret ⟨rfl,μ,Ext.refl μ _ w,S,hE,M,rfl,fun _=>rfl⟩
    | rl os =>
      have hr:sRl os tb (exec tb n false) (exec tb n true) σA h=some (e,σA',h'):=hr
      rw [sRl_eq] at hr
      split at hr
      · rename_i y hq
        cases hr
        obtain ⟨g1,g2⟩:=runL_ok _ _ _ _ hq
        cases code <;> simp only [chkC,Bool.false_eq_true,Bool.and_eq_true,List.all_eq_true] at hc
        rename_i id ops draw
        obtain ⟨rfl,c1,c2⟩:=hc
        have hop:ops=ops.toList.toArray:=by simp
        rw [hop]
        exact CK.lazy hm HC HY (fr_exec tb n false) (fr_exec tb n true) (chkZ_ok c1 c2) g2 g1 S hE fun μ' w' σ' q1 q2 q3 q4=>⟨rfl,μ',q1,q2,q3,M.ext q1,q4,fun _=>rfl⟩
      · cases hr
theorem Sim.empty (C:Chk) (P:Program) (w:World):Sim C P (fun _=>none) ⟨.e,.H,.H⟩ w :=
  ⟨fun _ _=>rfl,fun _ _ h=>(by cases h),fun _ _ _ _ _ _ h=>(by rw [Tr.get_e] at h;cases h),fun _ _ h=>(by rw [Tr.get_e] at h;cases h)⟩
def TrAll (f:Nat→AF→Prop):Tr AF→(Nat→Nat)→Prop
  | .e,_=>True
  | .n l v r,g=>(match v with | none=>True | some a=>f (g 1) a)∧TrAll f l (fun n=>g (2 * n))∧TrAll f r (fun n=>g (2 * n + 1))
theorem trAll_get {f:Nat→AF→Prop}:∀ {t:Tr AF} {g:Nat→Nat},TrAll f t g→∀ p a,t.get p=some a→f (g p.nat) a
  | .e,g,_,p,a,hq=>by rw [Tr.get_e] at hq;cases hq
  | .n l v r,g,⟨h1,h2,h3⟩,.H,a,hq=>by
    rw [Tr.get_H] at hq;subst hq;exact h1
  | .n l v r,g,⟨h1,h2,h3⟩,.O p,a,hq=>trAll_get h2 p a hq
  | .n l v r,g,⟨h1,h2,h3⟩,.I p,a,hq=>trAll_get h3 p a hq
theorem tab_of (h:TrAll (fun n a=>chkF P (n - 1) a=true) tb fun n=>n):TabOK P tb:=fun p af hq=>trAll_get h p af hq
end
end Go.KX
namespace Go.KX
open Go.RowKit Go.KL
section
variable {P:Program} {tb:Tr AF} {n:Nat} {σ σ1 σ':Tr AV} {h h1 h2 h':AH} {e:Ex} {c c1 c2:AC}
def RunOK (P:Program) (c:AC) (σA:Tr AV) (h:AH) (e:Ex) (σA':Tr AV) (h':AH):Prop:=∀ code N,chkC P N c code=true→∀ (μ:Mu) (σ:Env) (w:World) (D:List Deferred) (n0:Nat),
  Sim (CC P) P μ h w→EnvR μ σA σ→Mk μ w n0 D→n0 ≤ w.heap.size→CK none N P code (PostX P μ h.fl w n0 none D e σA' h') D σ w
theorem RunOK.exec (hm:P.follows .mixedOrders=true) (T:TabOK P tb) (hr:exec tb n false c σ h=some (e,σ',h')):RunOK P c σ h e σ' h' :=
  fun code N hc μ σ w D n0 S hE M hn=>(exec_ok hm T n false).1 _ _ _ _ _ _ hr code N hc none μ σ w D n0 rfl S hE M hn
theorem RunOK.seq (A:RunOK P c1 σ h .nrm σ1 h1) (B:RunOK P c2 σ1 h1 e σ' h'):RunOK P (.seq c1 c2) σ h e σ' h':=by
  intro code N hc μ σ w D n0 S hE M hn
  cases code <;> simp only [chkC,Bool.false_eq_true,Bool.and_eq_true] at hc
  refine CK.seq ((A _ N hc.1 μ σ w D n0 S hE M hn).mono ?_)
  rintro D' e' σ' w' ⟨rfl,μ1,q1,q2,q3,q4,q5,q6⟩
  refine (B _ N hc.2 μ1 σ' w' D' n0 q2 q3 q4 (Nat.le_trans hn q1.keep.size)).mono ?_
  intro D'' e'' σ'' w'' hp
  rw [q5] at hp
  exact PostX.trans q1 q6 hp
theorem RunOK.less (A:RunOK P c σ h2 e σ' h') (hs:∀ p b,h2.m.get p=some b→h.m.get p=some b) (hn:h2.nx=h.nx) (hf:h2.fl=h.fl):RunOK P c σ h e σ' h':=by
  intro code N hc μ σ w D n0 S hE M hn0
  rw [← hf]
  exact A code N hc μ σ w D n0 ⟨by rw [hn];exact S.nx,S.lt,fun p q a b c d hp hq=>S.inj p q a b c d (hs p a hp) (hs q b hq),fun p b hp=>S.at_ p b (hs p b hp)⟩ hE M hn0
noncomputable def dropN:Nat→AC→AC
  | k + 1,.seq _ b=>dropN k b
  | _,c=>c
noncomputable def execN (tb:Tr AF) (n:Nat):Nat→AC→Tr AV→AH→Option (Tr AV × AH)
  | 0,_,σ,h=>some (σ,h)
  | k + 1,.seq a b,σ,h=>match KX.exec tb n false a σ h with
    | some (.nrm,σ1,h1)=>execN tb n k b σ1 h1
    | _=>none
  | _ + 1,_,_,_=>none
theorem execN_ok (hm:P.follows .mixedOrders=true) (T:TabOK P tb):∀ (k:Nat) (c:AC) (σ:Tr AV) (h:AH),execN tb n k c σ h=some (σ1,h1)→RunOK P (dropN k c) σ1 h1 e σ' h'→RunOK P c σ h e σ' h'
  | 0,c,σ,h,hr,B=>by
    have hr:some (σ,h)=some (σ1,h1):=by simpa [execN] using hr
    cases hr
    have hd:dropN 0 c=c:=by cases c <;> rfl
    rwa [hd] at B
  | k + 1,c,σ,h,hr,B=>by
    cases c <;> first | (simp only [execN] at hr;cases hr;done) | skip
    rename_i a b
    rw [execN] at hr
    split at hr
    · rename_i σ2 h2 hq
      exact (RunOK.exec hm T hq).seq (execN_ok hm T k b σ2 h2 hr B)
    · cases hr
noncomputable def trSame:Tr AV→Tr AV→Bool
  | .e,.e=>true
  | .n l v r,.n l' v' r'=>(match v,v' with | none,none=>true | some a,some b=>same a b | _,_=>false) && (trSame l l' && trSame r r')
  | _,_=>false
theorem trSame_eq:∀ {s t:Tr AV},trSame s t=true→s=t
  | .e,.e,_=>rfl
  | .n l v r,.n l' v' r',hs=>by
    simp only [trSame,Bool.and_eq_true] at hs
    obtain ⟨h1,h2,h3⟩:=hs
    rw [trSame_eq h2,trSame_eq h3]
    cases v <;> cases v' <;> simp only [Bool.false_eq_true] at h1
    · rfl
    · rw [same_eq h1]
  | .e,.n _ _ _,hs=>by simp [trSame] at hs
  | .n _ _ _,.e,hs=>by simp [trSame] at hs
noncomputable def abSame:AB→AB→Bool
  | .cells T l,.cells T' l'=>Nat.beq T T' && sameL l l'
  | .row T s l,.row T' s' l'=>Nat.beq T T' && (Nat.beq s s' && sameL l l')
  | _,_=>false
theorem abSame_eq {a b:AB} (hs:abSame a b=true):a=b:=by
  unfold abSame at hs
  split at hs
  · simp only [Bool.and_eq_true] at hs
    rw [Nat.eq_of_beq_eq_true hs.1,sameL_eq hs.2]
  · simp only [Bool.and_eq_true] at hs
    rw [Nat.eq_of_beq_eq_true hs.1,Nat.eq_of_beq_eq_true hs.2.1,sameL_eq hs.2.2]
  · cases hs
noncomputable def subTr:Tr AB→Tr AB→Bool
  | .e,_=>true
  | .n l v r,.n l' v' r'=>(match v,v' with | none,_=>true | some a,some b=>abSame a b | _,_=>false) && (subTr l l' && subTr r r')
  | _,_=>false
theorem subTr_get:∀ {s t:Tr AB},subTr s t=true→∀ p b,s.get p=some b→t.get p=some b
  | .e,t,_,p,b,hg=>by rw [Tr.get_e] at hg;cases hg
  | .n l v r,.n l' v' r',hs,p,b,hg=>by
    simp only [subTr,Bool.and_eq_true] at hs
    obtain ⟨h1,h2,h3⟩:=hs
    cases p with
    | H =>
      rw [Tr.get_H] at hg ⊢
      subst hg
      cases v' <;> simp only [Bool.false_eq_true] at h1
      rw [abSame_eq h1]
    | O p=>rw [Tr.get_O] at hg ⊢;exact subTr_get h2 p b hg
    | I p=>rw [Tr.get_I] at hg ⊢;exact subTr_get h3 p b hg
  | .n _ _ _,.e,hs,_,_,_=>by simp [subTr] at hs
noncomputable def stg (tb:Tr AF) (n k:Nat) (c:AC) (σ:Tr AV) (h:AH) (σ1:Tr AV) (h2:AH):Bool:=match execN tb n k c σ h with
  | some (σ',h')=>trSame σ' σ1 && (h2.nx.beq h'.nx && (h2.fl.beq h'.fl && subTr h2.m h'.m))
  | none=>false
theorem stg_ok (hm:P.follows .mixedOrders=true) (T:TabOK P tb) (k:Nat) (hs:stg tb n k c σ h σ1 h2=true) (B:RunOK P (dropN k c) σ1 h2 e σ' h'):RunOK P c σ h e σ' h':=by
  unfold stg at hs
  split at hs
  · rename_i σ2 h3 hq
    simp only [Bool.and_eq_true] at hs
    obtain ⟨g1,g2,g3,g4⟩:=hs
    have:=trSame_eq g1
    subst this
    exact execN_ok hm T k c σ h hq (B.less (subTr_get g4) (Pos.beq_eq g2) (Pos.beq_eq g3))
  · cases hs
noncomputable def stgB (tb:Tr AF) (n:Nat) (c:AC) (σ:Tr AV) (h:AH) (rs:List AR) (b:Bool):Bool:=match KX.exec tb n false c σ h with
  | some (.ret,σ',h')=>(match resA σ' h' rs with
    | some (.bool b',_)=>b' == b
    | _=>false)
  | _=>false
theorem stgB_ok (hm:P.follows .mixedOrders=true) (T:TabOK P tb) {rs:List AR} {b:Bool} (hs:stgB tb n c σ h rs b=true):∃ σ' h' h3,RunOK P c σ h .ret σ' h'∧resA σ' h' rs=some (.bool b,h3):=by
  unfold stgB at hs
  split at hs
  · rename_i σ' h' hq
    split at hs
    · rename_i b' h3 hq2
      have:=eq_of_beq hs
      subst this
      exact ⟨σ',h',h3,RunOK.exec hm T hq,hq2⟩
    · cases hs
  · cases hs
open Classical in
noncomputable def oneRun (c0:AC) (σ0:Tr AV) (h0:AH) (r:Ex × Tr AV × AH):Run:=fun c σ h=>if c=c0∧σ=σ0∧h=h0 then some r else none
theorem run_stages (T:TabOK P tb) (f:Pos) (k:Nat) (hk:f.nat=k + 1) {af:AF} (hf:tb.get f=some af) {b:Bool} (hr:∃ σ' h' h3,RunOK P af.body .e ⟨.e,.H,.H⟩ .ret σ' h'∧resA σ' h' af.res=some (.bool b,h3)) (w:World) :
    Gv P k [] w fun cv w'=>cv=.bool b∧Keep w w' Non:=by
  obtain ⟨σ',h',h3,R,hres⟩:=hr
  have HE:ExecOK P (oneRun af.body .e ⟨.e,.H,.H⟩ (.ret,σ',h')) false:=by
    intro c σA h e σA' h1 hx code N hc rr μ σ w D n0 hrr S hE M hn
    unfold oneRun at hx
    split at hx
    · rename_i hq
      obtain ⟨rfl,rfl,rfl⟩:=hq
      cases hx
      have:rr=none:=by cases rr <;> first | rfl | cases hrr
      subst this
      exact R code N hc μ σ w D n0 S hE M hn
    · cases hx
  have hcall:callW tb (oneRun af.body .e ⟨.e,.H,.H⟩ (.ret,σ',h')) f [] ⟨.e,.H,.H⟩=some (.bool b,h3):=by
    unfold callW
    rw [hf]
    have hle:Nat.ble (len ([]:List AV)) af.n=true:=by rw [Nat.ble_eq];exact Nat.zero_le _
    simp only [hle]
    have hi:initA [] Pos.H .e=.e:=rfl
    rw [hi]
    unfold oneRun
    rw [if_pos ⟨rfl,rfl,rfl⟩]
    exact hres
  obtain ⟨_,hg⟩:=call_of T HE f [] _ _ _ hcall
  have:=hg _ w [] (Sim.empty _ _ w) rfl
  rw [hk] at this
  refine this.mono ?_
  rintro cv w' ⟨μ',h1,h2,h3,_⟩
  exact ⟨h3,h1.keep.weak fun i _ ⟨p,d,hp,_⟩=>by cases hp⟩
end
end Go.KX
namespace Go.KL
variable {S S' B B' α:Type}
theorem forN'_inv {body:Nat→S→Option S} (I:Nat→S→Prop):∀ (m k:Nat) (s:S),I k s →
    (∀ i s,k ≤ i→i < k + m→I i s→∃ s',body i s=some s'∧I (i + 1) s')→∃ s',forN' body m k s=some s'∧I (k + m) s'
  | 0,k,s,h,_=>⟨s,rfl,h⟩
  | m + 1,k,s,h,hb=>by
    simp only [forN']
    obtain ⟨s',h1,h2⟩:=hb k s (Nat.le_refl _) (by omega) h
    rw [h1]
    have:=forN'_inv I m (k + 1) s' h2 fun i s h2 h3 h4=>hb i s (by omega) (by omega) h4
    rwa [show k + 1 + m=k + (m + 1) from by omega] at this
theorem forR_list {body:Nat→S→Option (S ⊕ B)} {n:Nat} {s:S} (hn:n ≤ 9223372036854775807):forR 0 (n:Int) body s=forN body n 0 s:=by
  unfold forR
  rw [if_pos (by omega),show ((n:Int) - 0).toNat=n from by omega]
theorem forR'_list {body:Nat→S→Option S} {n:Nat} {s:S} (hn:n ≤ 9223372036854775807):forR' 0 (n:Int) body s=forN' body n 0 s:=by
  unfold forR'
  rw [if_pos (by omega),show ((n:Int) - 0).toNat=n from by omega]
def first (p:α→Bool):List α→Nat→Int
  | [],_=>-1
  | a :: l,k=>if p a then (k:Int) else first p l (k + 1)
theorem first_any (p:α→Bool):∀ (l:List α) (k:Nat),decide (0 ≤ first p l k)=l.any p
  | [],k=>by simp [first]
  | a :: l,k=>by
    rw [first,List.any_cons]
    by_cases h:p a
    · simp [h]
    · simp [h,first_any p l (k + 1)]
theorem loop_first {R:Type} {l:List α} {f:α→Option Bool} {p:α→Bool} (hf:∀ a ∈ l,f a=some (p a)) (hn:l.length ≤ 9223372036854775807) (z:Int→R) :
    (jn (forR 0 (↑l.length:Int) (fun k2 (_:Unit)=>(idx l (↑k2:Int)).bind fun x=>(f x).bind fun y=>if y=true then esc (some (z (↑k2:Int))) else some (.inl ())) ()) fun _=>some (z (-1)))=some (z (first p l 0)):=by
  rw [forR_list hn]
  have key:∀ (m k:Nat),k + m=l.length→(jn (forN (fun k2 (_:Unit)=>(idx l (↑k2:Int)).bind fun x=>(f x).bind fun y=>if y=true then esc (some (z (↑k2:Int))) else some (.inl ())) m k ()) fun _=>some (z (-1)))=some (z (first p (l.drop k) k)):=by
    intro m
    induction m with
    | zero=>intro k hk;rw [List.drop_eq_nil_of_le (by omega)];rfl
    | succ m ih =>
      intro k hk
      have hlt:k < l.length:=by omega
      rw [List.drop_eq_getElem_cons hlt,first,forN,idx_nat,List.getElem?_eq_getElem hlt]
      simp only [Option.bind_some,hf _ (List.getElem_mem hlt)]
      by_cases h:p l[k]=true
      · simp [h]
      · simp only [h,if_false,Bool.false_eq_true]
        exact ih (k + 1) (by omega)
  exact key l.length 0 (by omega)
theorem app_ok {bytes:Nat} {l m:List α} (h:(l.length + m.length) * bytes ≤ 140737488355328):app bytes l m=some (l ++ m):=if_pos h
end Go.KL
namespace Go.Proofs.YtjfffcjjlnmneaaGreat
open Go.KL
def inB (n lo hi:Int):Bool:=decide (lo ≤ n∧n ≤ hi)
theorem in_is (n lo hi:Int):m_relay_in n lo hi=some (inB n lo hi):=by
  unfold m_relay_in inB
  by_cases h:lo ≤ n
  · rw [if_pos h];simp [h]
  · rw [if_neg h];simp [h]
def hitsTo:List Bool→Nat→Option Nat
  | [],k=>some k
  | b :: l,k=>if k=5 then none else hitsTo l (k + if b=true then 1 else 0)
theorem hitsTo_le:∀ (l:List Bool) (k m:Nat),k ≤ 5→hitsTo l k=some m→k ≤ m∧m ≤ 5
  | [],k,m,hk,h=>by cases h;omega
  | b :: l,k,m,hk,h=>by
    rw [hitsTo] at h
    split at h
    · cases h
    · have:=hitsTo_le l _ m (by split <;> omega) h
      split at this <;> omega
theorem prog_loop {l:List Bool} {R:Type} (z:R) (K:Int→Option R):∀ (m k h:Nat),k + m=l.length→h ≤ 5 →
    jn (forN (fun k23 (x22:Int)=>(idx l (↑k23:Int)).bind fun x45=>if x22=0 then esc (some z) else if x45=true then some (.inl (w64 (x22 - 1))) else some (.inl x22)) m k (5 - (h:Int))) K =
      (match hitsTo (l.drop k) h with | none=>some z | some m=>K (5 - (m:Int)))
  | 0,k,h,hk,_=>by rw [List.drop_eq_nil_of_le (by omega)];rfl
  | m + 1,k,h,hk,h5=>by
    have hlt:k < l.length:=by omega
    rw [List.drop_eq_getElem_cons hlt,hitsTo,forN,idx_nat,List.getElem?_eq_getElem hlt]
    simp only [Option.bind_some]
    by_cases hz:h=5
    · rw [if_pos (by omega),if_pos hz];rfl
    · rw [if_neg (by omega),if_neg hz]
      by_cases hb:l[k]=true
      · rw [if_pos hb,if_pos hb,w64_in (by omega) (by omega)]
        have:=prog_loop (l:=l) z K m (k + 1) (h + 1) (by omega) (by omega)
        rw [show (5:Int) - ((h + 1:Nat):Int)=5 - (h:Int) - 1 by omega] at this
        exact this
      · rw [if_neg hb,if_neg hb]
        exact prog_loop (l:=l) z K m (k + 1) h (by omega) h5
def okB (b:List Bool):Prop:=5 ≤ b.length∧b.length ≤ 8∧∃ m,hitsTo b 0=some m
def hitsN (b:List Bool):Nat:=(hitsTo b 0).getD 0
theorem hitsN_le (b:List Bool):hitsN b ≤ 5:=by
  unfold hitsN
  cases h:hitsTo b 0 with
  | none=>exact Nat.zero_le _
  | some m=>exact (hitsTo_le b 0 m (by omega) h).2
theorem shot_ok {l:List Bool} (h:okB l):m_relay_Shot l=some (⟨(l.length:Int) - 5,5 - (hitsN l:Int),if hitsN l < 5 then 8 - (l.length:Int) else 0⟩,0):=by
  obtain ⟨h1,h2,m,hq⟩:=h
  have hn:hitsN l=m:=by unfold hitsN;rw [hq];rfl
  rw [hn]
  unfold m_relay_Shot
  have hi:inB l.length 5 8=true:=by unfold inB;simp;omega
  rw [in_is,Option.bind_some,hi,if_pos rfl,forR_list (by omega)]
  have:=prog_loop (l:=l) (R:=T_relay_Shooting × Int) ((⟨0,0,0⟩:T_relay_Shooting),8) (fun y72=>if 0 < y72 then
      some ((⟨w64 ((↑l.length:Int) - 5),y72,w64 (8 - (↑l.length:Int))⟩:T_relay_Shooting),0)
    else
      some ((⟨w64 ((↑l.length:Int) - 5),y72,0⟩:T_relay_Shooting),0)) l.length 0 0 (by omega) (by omega)
  rw [List.drop_zero] at this
  have e:(5:Int) - ((0:Nat):Int)=5:=by omega
  rw [e] at this
  rw [this,hq]
  have:=hitsTo_le l 0 m (by omega) hq
  simp only
  rw [w64_in (by omega) (by omega),w64_in (by omega) (by omega)]
  by_cases hm:m < 5
  · rw [if_pos (by omega),if_pos hm]
  · rw [if_neg (by omega),if_neg hm]
end Go.Proofs.YtjfffcjjlnmneaaGreat
namespace Go.KL
variable {S B R α β:Type}
theorem forN_fun {body:Nat→S→Option (S ⊕ B)} (s:Nat→S):∀ (m k:Nat),(∀ i,k ≤ i→i < k + m→body i (s i)=some (.inl (s (i + 1))))→forN body m k (s k)=some (.inl (s (k + m)))
  | 0,_,_=>rfl
  | m + 1,k,h=>by
    rw [forN,h k (Nat.le_refl _) (by omega)]
    have:=forN_fun s m (k + 1) fun i h1 h2=>h i (by omega) (by omega)
    rw [show k + 1 + m=k + (m + 1) by omega] at this
    exact this
theorem forN'_fun {body:Nat→S→Option S} (s:Nat→S):∀ (m k:Nat),(∀ i,k ≤ i→i < k + m→body i (s i)=some (s (i + 1)))→forN' body m k (s k)=some (s (k + m))
  | 0,_,_=>rfl
  | m + 1,k,h=>by
    rw [forN',h k (Nat.le_refl _) (by omega)]
    have:=forN'_fun s m (k + 1) fun i h1 h2=>h i (by omega) (by omega)
    rw [show k + 1 + m=k + (m + 1) by omega] at this
    exact this
theorem forR'_fun {body:Nat→S→Option S} {n:Nat} {s0:S} (s:Nat→S) (h0:s 0=s0) (hn:n ≤ 9223372036854775807) (h:∀ i,i < n→body i (s i)=some (s (i + 1))):forR' 0 (n:Int) body s0=some (s n):=by
  rw [forR'_list hn,← h0]
  have:=forN'_fun s n 0 fun i _ hi=>h i (by omega)
  rwa [Nat.zero_add] at this
theorem forR_fun {body:Nat→S→Option (S ⊕ B)} {n:Nat} {s0:S} (s:Nat→S) (h0:s 0=s0) (hn:n ≤ 9223372036854775807) (h:∀ i,i < n→body i (s i)=some (.inl (s (i + 1)))):forR 0 (n:Int) body s0=some (.inl (s n)):=by
  rw [forR_list hn,← h0]
  have:=forN_fun s n 0 fun i _ hi=>h i (by omega)
  rwa [Nat.zero_add] at this
theorem forR_unit {body:Nat→Unit→Option (Unit ⊕ B)} {n:Nat} (hn:n ≤ 9223372036854775807) (h:∀ i,i < n→body i ()=some (.inl ())):forR 0 (n:Int) body ()=some (.inl ()):=forR_fun (fun _=>()) rfl hn h
theorem idx_gd' [Inhabited α] {l:List α} {k:Nat} (h:k < l.length):idx l (k:Int)=some (gd l k):=by
  rw [idx_nat]
  exact gd_at h
theorem gd_mem' [Inhabited α] {l:List α} {k:Nat} (h:k < l.length):gd l k ∈ l:=List.mem_of_getElem? (gd_at h)
theorem take_gd [Inhabited α] {l:List α} {k:Nat} (h:k < l.length):l.take (k + 1)=l.take k ++ [gd l k]:=by
  rw [List.take_add_one,gd_at h]
  rfl
theorem drop_gd [Inhabited α] {l:List α} {k:Nat} (h:k < l.length):l.drop k=gd l k :: l.drop (k + 1):=by
  have:=gd_at h
  rw [List.getElem?_eq_getElem h] at this
  rw [List.drop_eq_getElem_cons h,Option.some.inj this]
theorem gd_app_l [Inhabited α] {l m:List α} {k:Nat} (h:k < l.length):gd (l ++ m) k=gd l k:=by
  have h1:=gd_at (xs:=l ++ m) (k:=k) (by rw [List.length_append];omega)
  rw [List.getElem?_append_left h,gd_at h] at h1
  exact (Option.some.inj h1).symm
theorem gd_app_m [Inhabited α] (l m:List α) (x:α):gd (l ++ x :: m) l.length=x:=by
  have h1:=gd_at (xs:=l ++ x :: m) (k:=l.length) (by simp)
  rw [List.getElem?_append_right (Nat.le_refl _),Nat.sub_self] at h1
  exact (Option.some.inj h1).symm
theorem gd_map' [Inhabited α] [Inhabited β] (f:α→β) {l:List α} {k:Nat} (h:k < l.length):gd (l.map f) k=f (gd l k):=by
  have h1:=gd_at (xs:=l.map f) (k:=k) (by simpa using h)
  rw [List.getElem?_map,gd_at h] at h1
  exact (Option.some.inj h1).symm
theorem ext_gd [Inhabited α] {l m:List α} (h:l.length=m.length) (hk:∀ k,k < l.length→gd l k=gd m k):l=m:=by
  apply List.ext_getElem?
  intro k
  rcases Nat.lt_or_ge k l.length with h1 | h1
  · rw [gd_at h1,gd_at (by omega),hk k h1]
  · rw [List.getElem?_eq_none h1,List.getElem?_eq_none (by omega)]
end Go.KL
namespace Go.Proofs.YtjfffcjjlnmneaaGreat
open Go.KL
structure GoodP (p:T_relay_Rules):Prop where
  n:1 ≤ p.Classes.length∧p.Classes.length ≤ 4
  cls:∀ c ∈ p.Classes,0 ≤ c∧c ≤ 3
  each:1 ≤ p.Each∧p.Each ≤ 4
  laps:1 ≤ p.Laps∧p.Laps ≤ 5
  spare:0 ≤ p.Spare∧p.Spare ≤ 600
  loop:0 ≤ p.Loop∧p.Loop ≤ 600
  unused:0 ≤ p.Unused∧p.Unused ≤ 6000
structure GoodL (p:T_relay_Rules) (t:T_relay_Team) (l:T_relay_Leg):Prop where
  le:(l.Loops.length:Int) ≤ p.Laps
  bouts:l.Bouts.length=l.Loops.length - 1
  loops:∀ n ∈ l.Loops,1 ≤ n∧n ≤ 9000
  skier:0 ≤ l.Skier∧l.Skier < t.Classes.length
  ok:∀ b ∈ l.Bouts,okB b
structure GoodT (p:T_relay_Rules) (t:T_relay_Team):Prop where
  bib:1 ≤ t.Bib∧t.Bib ≤ 999
  n:1 ≤ t.Classes.length∧t.Classes.length ≤ 8
  cls:∀ c ∈ t.Classes,0 ≤ c∧c ≤ 3
  legs:t.Legs.length ≤ p.Classes.length
  full:∀ k,k + 1 < t.Legs.length→((gd t.Legs k).Loops.length:Int)=p.Laps
  leg:∀ l ∈ t.Legs,GoodL p t l
structure GoodR (r:T_relay_Race):Prop where
  rules:GoodP r.Rules
  n:1 ≤ r.Teams.length∧r.Teams.length ≤ 12
  start:0 ≤ r.Start∧r.Start ≤ 36000
  team:∀ t ∈ r.Teams,GoodT r.Rules t
  bibs:(r.Teams.map (·.Bib)).Nodup
theorem inB_true {n lo hi:Int} (h1:lo ≤ n) (h2:n ≤ hi):inB n lo hi=true:=by unfold inB;simp [h1,h2]
theorem eachInt {l:List Int} {f:Int→Option Bool} {p:Int→Bool} (hf:∀ a,f a=some (p a)) (hn:l.length ≤ 9223372036854775807):m_relay_each_int l f=some (l.all p):=by
  unfold m_relay_each_int m_slices_ContainsFunc_int_int m_slices_IndexFunc_int_int m_relay_each_int_1
  have:=loop_first (R:=Int) (l:=l) (f:=fun x=>(f x).bind fun x5=>some (!x5)) (p:=fun a=>!p a) (fun a _=>by rw [hf];rfl) hn id
  simp only [id] at this
  rw [this]
  simp only [Option.bind_some,first_any]
  congr 1
  clear this hn
  induction l with
  | nil=>rfl
  | cons a l ih=>rw [List.any_cons,List.all_cons,← ih];cases p a <;> simp
theorem eachLim {l:List T_relay_limit} {f:T_relay_limit→Option Bool} {p:T_relay_limit→Bool} (hf:∀ a ∈ l,f a=some (p a)) (hn:l.length ≤ 9223372036854775807):m_relay_each_relay_limit l f=some (l.all p):=by
  unfold m_relay_each_relay_limit m_slices_ContainsFunc_relay_limit_relay_limit m_slices_IndexFunc_relay_limit_relay_limit m_relay_each_relay_limit_1
  have:=loop_first (R:=Int) (l:=l) (f:=fun x=>(f x).bind fun x5=>some (!x5)) (p:=fun a=>!p a) (fun a ha=>by rw [hf a ha];rfl) hn id
  simp only [id] at this
  rw [this]
  simp only [Option.bind_some,first_any]
  congr 1
  clear this hn hf
  induction l with
  | nil=>rfl
  | cons a l ih=>rw [List.any_cons,List.all_cons,← ih];cases p a <;> simp
theorem eachTeam {l:List T_relay_Team} {f:T_relay_Team→Option Bool} (hf:∀ a ∈ l,f a=some true) (hn:l.length ≤ 9223372036854775807):m_relay_each_relay_Team l f=some true:=by
  unfold m_relay_each_relay_Team m_slices_ContainsFunc_relay_Team_relay_Team m_slices_IndexFunc_relay_Team_relay_Team m_relay_each_relay_Team_1
  have:=loop_first (R:=Int) (l:=l) (f:=fun x=>(f x).bind fun x5=>some (!x5)) (p:=fun _=>false) (fun a ha=>by rw [hf a ha];rfl) hn id
  simp only [id] at this
  rw [this]
  simp only [Option.bind_some,first_any]
  simp
theorem rules_ok {p:T_relay_Rules} (g:GoodP p):m_relay_CheckRules p=some 0:=by
  unfold m_relay_CheckRules
  have h1:=g.n
  have h2:=g.each;have h3:=g.laps;have h4:=g.spare;have h5:=g.loop;have h6:=g.unused
  rw [in_is,Option.bind_some,inB_true (by omega) (by omega),if_pos rfl]
  have hc:m_relay_classed p.Classes=some true:=by
    unfold m_relay_classed
    rw [eachInt (f:=m_relay_classed_1) (p:=fun n=>inB n 0 3) (fun a=>by unfold m_relay_classed_1;rw [in_is];rfl) (by omega),Option.bind_some]
    exact congrArg some (List.all_eq_true.2 fun c hc=>inB_true (g.cls c hc).1 (g.cls c hc).2)
  rw [hc,Option.bind_some,if_pos rfl]
  unfold m_relay_limits
  rw [Option.bind_some,eachLim (p:=fun a=>match a.of p with | some x=>inB x a.lo a.hi | none=>true) (fun a ha=>by
    unfold m_relay_CheckRules_1
    simp only [List.mem_cons,List.not_mem_nil,or_false] at ha
    rcases ha with rfl | rfl | rfl | rfl | rfl <;> simp [m_relay_limits_1,m_relay_limits_2,m_relay_limits_3,m_relay_limits_4,m_relay_limits_5,in_is]) (by simp)]
  simp only [Option.bind_some,List.all_cons,List.all_nil,Bool.and_true,m_relay_limits_1,m_relay_limits_2,m_relay_limits_3,m_relay_limits_4,m_relay_limits_5]
  rw [inB_true h2.1 h2.2,inB_true h3.1 h3.2,inB_true h4.1 h4.2,inB_true h5.1 h5.2,inB_true h6.1 h6.2]
  rfl
theorem sized_ok {p:T_relay_Rules} (gp:GoodP p) {t:T_relay_Team} (g:GoodT p t):m_relay_Rules_sized p t=some true:=by
  unfold m_relay_Rules_sized
  have h1:=g.n;have h2:=g.legs;have h3:=gp.n;have h4:=gp.laps
  rw [in_is,Option.bind_some,inB_true (by omega) (by omega),if_pos rfl,if_neg (by omega)]
  rw [forR_unit (by omega) fun k hk=>?_]
  · rfl
  · have gl:=g.leg _ (gd_mem' hk)
    have b1:=gl.le;have b2:=gl.bouts
    rw [idx_gd' hk,Option.bind_some,if_neg (by omega)]
    have hb:((gd t.Legs k).Bouts.length:Int)=max 0 (w64 (((gd t.Legs k).Loops.length:Int) - 1)):=by
      rw [w64_in (by omega) (by omega)]
      omega
    rw [w64_in (x:=(t.Legs.length:Int) - 1) (by omega) (by omega)]
    by_cases hl:(k:Int) < (t.Legs.length:Int) - 1
    · rw [if_pos hl,if_neg (by have:=g.full k (by omega);omega),if_pos hb]
    · rw [if_neg hl,if_pos hb]
theorem legs_ok {E:Type} {f:Unit→(T_relay_Team × T_relay_Leg)→Option (Unit ⊕ E)} {r:T_relay_Race} (hn:r.Teams.length ≤ 1000) (hl:∀ t ∈ r.Teams,t.Legs.length ≤ 1000) (h:∀ t ∈ r.Teams,∀ l ∈ t.Legs,f () (t,l)=some (.inl ())):m_relay_Race_legs_1 f () r=some (.inl ()):=by
  unfold m_relay_Race_legs_1
  rw [forR_unit (by omega) fun k hk=>?_]
  · rfl
  · have ht:=gd_mem' hk
    rw [idx_gd' hk,Option.bind_some,forR_unit (by have:=hl _ ht;omega) fun j hj=>?_]
    · rfl
    · rw [idx_gd' hj,Option.bind_some,h _ ht _ (gd_mem' hj)]
      rfl
theorem mput_new {l:List (Int × Bool)} {x:Int} {v:Bool} (h:∀ q ∈ l,q.1 ≠ x):mput l x v=l ++ [(x,v)]:=by
  induction l with
  | nil=>rfl
  | cons a l ih =>
    obtain ⟨y,u⟩:=a
    have:=h (y,u) (by simp)
    rw [mput,if_neg (fun e=>this e.symm),ih fun q hq=>h q (by simp [hq])]
    rfl
theorem nodup_take {l:List Int} (h:l.Nodup) {k:Nat} (hk:k < l.length):∀ a ∈ l.take k,a ≠ gd l k:=by
  intro a ha e
  rw [← List.take_append_drop k l,drop_gd hk,List.nodup_append] at h
  exact h.2.2 a ha _ (List.mem_cons_self ..) e
theorem check_ok {r:T_relay_Race} (g:GoodR r):m_relay_Check r=some 0:=by
  unfold m_relay_Check
  have h1:=g.n;have h2:=g.start
  have hl:∀ t ∈ r.Teams,t.Legs.length ≤ 1000:=fun t ht=>by have:=(g.team t ht).legs;have:=g.rules.n;omega
  rw [rules_ok g.rules,Option.bind_some,if_pos rfl,in_is,Option.bind_some,inB_true (by omega) (by omega),if_pos rfl,eachTeam (fun t ht=>sized_ok g.rules (g.team t ht)) (by omega),Option.bind_some,if_pos rfl,
    in_is,Option.bind_some,inB_true h2.1 h2.2,if_pos rfl,eachTeam (fun t ht=>?_) (by omega),Option.bind_some,if_pos rfl]
  · unfold m_relay_Race_legs
    rw [Option.bind_some,legs_ok (by omega) hl fun t ht l hm=>?_,Option.bind_some]
    · simp only [Option.bind_some]
      rw [legs_ok (by omega) hl fun t ht l hm=>?_,Option.bind_some]
      · simp only [Option.bind_some]
        rw [legs_ok (by omega) hl fun t ht l hm=>?_,Option.bind_some]
        · simp only
          have:=forR'_fun (S:=List (Int × Bool)) (n:=r.Teams.length) (body:=fun k640 l637=>(idx r.Teams (↑k640:Int)).bind fun x664=>some (mput l637 x664.Bib true)) (fun k=>(r.Teams.take k).map fun t=>(t.Bib,true)) (s0:=[]) rfl (by omega) fun k hk=>by
            rw [idx_gd' hk,Option.bind_some,take_gd hk,List.map_append,mput_new fun q hq=>?_]
            · rfl
            · obtain ⟨t,ht,rfl⟩:=List.mem_map.1 hq
              have:=nodup_take g.bibs (k:=k) (by simpa using hk) t.Bib (by rw [← List.map_take];exact List.mem_map.2 ⟨t,ht,rfl⟩)
              rw [gd_map' _ hk] at this
              exact this
          rw [this,Option.bind_some,if_neg (by simp)]
        · have gl:=(g.team t ht).leg l hm
          have hb:=gl.bouts;have hle:=gl.le;have:=g.rules.laps
          simp only
          rw [forR_unit (by omega) fun k hk=>?_]
          · rfl
          · rw [idx_gd' hk,Option.bind_some,shot_ok (gl.ok _ (gd_mem' hk))]
            rfl
      · have gl:=(g.team t ht).leg l hm
        have:=gl.skier;have:=(g.team t ht).n
        simp only
        rw [in_is,Option.bind_some,w64_in (by omega) (by omega),inB_true (by omega) (by omega),if_pos rfl]
    · have gl:=(g.team t ht).leg l hm
      have hle:=gl.le;have:=g.rules.laps
      simp only
      rw [eachInt (f:=m_relay_Check_2) (p:=fun n=>inB n 1 9000) (fun a=>by unfold m_relay_Check_2;rw [in_is];rfl) (by omega),Option.bind_some,if_pos]
      exact List.all_eq_true.2 fun n hn=>inB_true (gl.loops n hn).1 (gl.loops n hn).2
  · have gt:=g.team t ht
    have:=gt.n
    unfold m_relay_Check_1
    rw [in_is,Option.bind_some,inB_true gt.bib.1 gt.bib.2,if_pos rfl]
    unfold m_relay_classed
    rw [eachInt (f:=m_relay_classed_1) (p:=fun n=>inB n 0 3) (fun a=>by unfold m_relay_classed_1;rw [in_is];rfl) (by omega),Option.bind_some,Option.bind_some]
    exact congrArg some (List.all_eq_true.2 fun c hc=>inB_true (gt.cls c hc).1 (gt.cls c hc).2)
def bc (p:T_relay_Rules) (b:List Bool):Int:=((b.length:Int) - 5) * p.Spare + (5 - (hitsN b:Int)) * p.Loop
def tAt (p:T_relay_Rules) (l:T_relay_Leg) (x:Int):Nat→Int
  | 0=>x
  | k + 1=>tAt p l x k + gd l.Loops k + if 0 < k then bc p (gd l.Bouts (k - 1)) else 0
def legL (p:T_relay_Rules) (l:T_relay_Leg) (x:Int):List Int:=(List.range l.Loops.length).map fun k=>tAt p l x (k + 1)
def legE (p:T_relay_Rules) (l:T_relay_Leg) (x:Int):Int:=tAt p l x l.Loops.length
def teamE (p:T_relay_Rules):List T_relay_Leg→Int→Int
  | [],x=>x
  | l :: r,x=>teamE p r (legE p l x)
def teamL (p:T_relay_Rules):List T_relay_Leg→Int→List Int
  | [],_=>[]
  | l :: r,x=>legL p l x ++ teamL p r (legE p l x)
def ends (p:T_relay_Rules):List T_relay_Leg→Int→List Int
  | [],_=>[]
  | l :: r,x=>if (l.Loops.length:Int)=p.Laps then legE p l x :: ends p r (legE p l x) else ends p r (legE p l x)
def diffs:List Int→Int→List Int
  | [],_=>[]
  | a :: r,b=>(a - b) :: diffs r a
theorem bc_parts {p:T_relay_Rules} (g:GoodP p) {b:List Bool} (h:okB b):0 ≤ ((b.length:Int) - 5) * p.Spare∧((b.length:Int) - 5) * p.Spare ≤ 1800∧0 ≤ (5 - (hitsN b:Int)) * p.Loop∧(5 - (hitsN b:Int)) * p.Loop ≤ 3000:=by
  obtain ⟨h1,h2,_⟩:=h
  have h3:=hitsN_le b
  have a1:=g.spare;have a2:=g.loop
  refine ⟨Int.mul_nonneg (by omega) a1.1,?_,Int.mul_nonneg (by omega) a2.1,?_⟩
  · exact Int.le_trans (Int.mul_le_mul (show (b.length:Int) - 5 ≤ 3 by omega) a1.2 a1.1 (by omega)) (by omega)
  · exact Int.le_trans (Int.mul_le_mul (show 5 - (hitsN b:Int) ≤ 5 by omega) a2.2 a2.1 (by omega)) (by omega)
theorem tAt_step {p:T_relay_Rules} (gp:GoodP p) {t:T_relay_Team} {l:T_relay_Leg} (g:GoodL p t l) (x:Int) {k:Nat} (hk:k < l.Loops.length):tAt p l x k + 1 ≤ tAt p l x (k + 1)∧tAt p l x (k + 1) ≤ tAt p l x k + 13800:=by
  have h1:=g.loops _ (gd_mem' hk)
  rw [tAt]
  by_cases h:0 < k
  · have hb:=g.bouts
    have:=bc_parts gp (g.ok _ (gd_mem' (k:=k - 1) (by omega)))
    rw [if_pos h]
    unfold bc
    omega
  · rw [if_neg h];omega
theorem tAt_range {p:T_relay_Rules} (gp:GoodP p) {t:T_relay_Team} {l:T_relay_Leg} (g:GoodL p t l) (x:Int):∀ k,k ≤ l.Loops.length→x + k ≤ tAt p l x k∧tAt p l x k ≤ x + 13800 * k
  | 0,_=>by simp [tAt]
  | k + 1,hk=>by
    have:=tAt_step gp g x (k:=k) (by omega)
    have:=tAt_range gp g x k (by omega)
    omega
theorem legE_range {p:T_relay_Rules} (gp:GoodP p) {t:T_relay_Team} {l:T_relay_Leg} (g:GoodL p t l) (x:Int):x ≤ legE p l x∧legE p l x ≤ x + 69000:=by
  have:=tAt_range gp g x l.Loops.length (Nat.le_refl _)
  have:=g.le;have:=gp.laps
  unfold legE
  omega
theorem tAt_lap {p:T_relay_Rules} (gp:GoodP p) {t:T_relay_Team} {l:T_relay_Leg} (g:GoodL p t l) {x:Int} (hx:0 ≤ x∧x ≤ 1000000) {k:Nat} (hk:k < l.Loops.length) :
    (0 < k→idx l.Bouts (w64 ((k:Int) - 1))=some (gd l.Bouts (k - 1))∧okB (gd l.Bouts (k - 1)) ∧
      w64 ((w64 (tAt p l x k + gd l.Loops k)) + (w64 ((w64 ((((gd l.Bouts (k - 1)).length:Int) - 5) * p.Spare)) + (w64 ((5 - (hitsN (gd l.Bouts (k - 1)):Int)) * p.Loop)))))=tAt p l x (k + 1)) ∧
    (¬ 0 < k→w64 (tAt p l x k + gd l.Loops k)=tAt p l x (k + 1)):=by
  have h1:=g.loops _ (gd_mem' hk)
  have h2:=tAt_range gp g x k (by omega)
  have h3:=g.le;have h4:=gp.laps;have hb:=g.bouts
  refine ⟨fun h=>?_,fun h=>?_⟩
  · have ho:=g.ok _ (gd_mem' (k:=k - 1) (by omega))
    have:=bc_parts gp ho
    refine ⟨?_,ho,?_⟩
    · rw [w64_in (by omega) (by omega),show (k:Int) - 1=((k - 1:Nat):Int) by omega]
      exact idx_gd' (by omega)
    · rw [tAt,if_pos h]
      unfold bc
      rw [w64_in (x:=tAt p l x k + gd l.Loops k) (by omega) (by omega),w64_in (x:=(((gd l.Bouts (k - 1)).length:Int) - 5) * p.Spare) (by omega) (by omega),w64_in (x:=(5 - (hitsN (gd l.Bouts (k - 1)):Int)) * p.Loop) (by omega) (by omega),w64_in (x:=(((gd l.Bouts (k - 1)).length:Int) - 5) * p.Spare + (5 - (hitsN (gd l.Bouts (k - 1)):Int)) * p.Loop) (by omega) (by omega),w64_in (by omega) (by omega)]
  · rw [tAt,if_neg h,w64_in (by omega) (by omega),Int.add_zero]
theorem legL_snoc (p:T_relay_Rules) (l:T_relay_Leg) (x:Int) (k:Nat):(List.range (k + 1)).map (fun i=>tAt p l x (i + 1))=(List.range k).map (fun i=>tAt p l x (i + 1)) ++ [tAt p l x (k + 1)]:=by
  rw [List.range_succ,List.map_append]
  rfl
theorem teamL_snoc (p:T_relay_Rules) (a:T_relay_Leg):∀ (l:List T_relay_Leg) (x:Int),teamL p (l ++ [a]) x=teamL p l x ++ legL p a (teamE p l x)∧teamE p (l ++ [a]) x=legE p a (teamE p l x)
  | [],x=>by simp [teamL,teamE]
  | b :: l,x=>by
    have:=teamL_snoc p a l (legE p b x)
    exact ⟨by rw [List.cons_append,teamL,teamL,this.1,List.append_assoc];rfl,this.2⟩
theorem teamE_range {p:T_relay_Rules} (gp:GoodP p) {t:T_relay_Team}:∀ (l:List T_relay_Leg) (x:Int),(∀ a ∈ l,GoodL p t a)→x ≤ teamE p l x∧teamE p l x ≤ x + 69000 * (l.length:Int)
  | [],x,_=>by simp [teamE]
  | a :: l,x,h=>by
    have h1:=legE_range gp (h a (by simp)) x
    have h2:=teamE_range gp l (legE p a x) fun b hb=>h b (by simp [hb])
    rw [teamE]
    simp only [List.length_cons]
    omega
def after (r:T_relay_Race):List (List Int):=r.Teams.map fun t=>teamL r.Rules t.Legs r.Start
theorem teamL_len {p:T_relay_Rules} (gp:GoodP p) {t:T_relay_Team}:∀ (l:List T_relay_Leg) (x:Int),(∀ a ∈ l,GoodL p t a)→(teamL p l x).length ≤ 5 * l.length
  | [],x,_=>by simp [teamL]
  | a :: l,x,h=>by
    have h1:=(h a (by simp)).le
    have h2:=teamL_len gp l (legE p a x) fun b hb=>h b (by simp [hb])
    have:=gp.laps
    rw [teamL,List.length_append]
    simp only [legL,List.length_map,List.length_range,List.length_cons]
    omega
theorem begun_ok {r:T_relay_Race} (g:GoodR r):m_relay_begun r=some (some ⟨r,after r⟩,0):=by
  unfold m_relay_begun
  rw [check_ok g,Option.bind_some,if_pos rfl]
  have hn:=g.n;have hs:=g.start
  rw [forR'_fun (S:=List (List Int)) (n:=r.Teams.length) (fun k=>(r.Teams.take k).map fun t=>teamL r.Rules t.Legs r.Start) (s0:=[]) rfl (by omega) fun k hk=>?_]
  · rw [Option.bind_some,List.take_length]
    rfl
  · have gt:=g.team _ (gd_mem' hk)
    have hleg:=gt.legs;have hc:=g.rules.n
    rw [idx_gd' hk,Option.bind_some]
    rw [forR'_fun (S:=Int × List Int) (n:=(gd r.Teams k).Legs.length) (fun j=>(teamE r.Rules ((gd r.Teams k).Legs.take j) r.Start,teamL r.Rules ((gd r.Teams k).Legs.take j) r.Start)) (s0:=(r.Start,[])) rfl (by omega) fun j hj=>?_]
    · simp only [Option.bind_some,List.take_length]
      have hlen:=teamL_len g.rules (gd r.Teams k).Legs r.Start gt.leg
      rw [app_ok (by simp;omega),Option.bind_some,take_gd hk,List.map_append]
      rfl
    · have gl:=gt.leg _ (gd_mem' hj)
      have hE:=teamE_range g.rules ((gd r.Teams k).Legs.take j) r.Start fun a ha=>gt.leg a (List.mem_of_mem_take ha)
      have hL:=teamL_len g.rules ((gd r.Teams k).Legs.take j) r.Start fun a ha=>gt.leg a (List.mem_of_mem_take ha)
      rw [List.length_take] at hE hL
      have hx:0 ≤ teamE r.Rules ((gd r.Teams k).Legs.take j) r.Start∧teamE r.Rules ((gd r.Teams k).Legs.take j) r.Start ≤ 1000000:=by omega
      generalize hX:teamE r.Rules ((gd r.Teams k).Legs.take j) r.Start=X at hx
      generalize hY:teamL r.Rules ((gd r.Teams k).Legs.take j) r.Start=Y at hL
      have hlap:=g.rules.laps;have hle:=gl.le
      simp only
      rw [idx_gd' hj,Option.bind_some]
      rw [forR'_fun (S:=Int × List Int) (n:=(gd (gd r.Teams k).Legs j).Loops.length) (fun i=>(tAt r.Rules (gd (gd r.Teams k).Legs j) X i,Y ++ (List.range i).map fun q=>tAt r.Rules (gd (gd r.Teams k).Legs j) X (q + 1))) (s0:=(X,Y)) (by simp [tAt]) (by omega) fun i hi=>?_]
      · simp only [Option.bind_some]
        rw [take_gd hj,(teamL_snoc _ _ _ _).1,(teamL_snoc _ _ _ _).2,hX,hY]
        rfl
      · obtain ⟨l1,l2⟩:=tAt_lap g.rules gl hx hi
        simp only
        rw [idx_gd' hi,Option.bind_some]
        by_cases h0:0 < i
        · obtain ⟨e1,e2,e3⟩:=l1 h0
          rw [if_pos (by omega),e1,Option.bind_some,shot_ok e2]
          simp only [Option.bind_some]
          rw [e3,app_ok (by simp;omega),Option.bind_some,legL_snoc,List.append_assoc]
        · rw [if_neg (by omega),l2 h0,app_ok (by simp;omega),Option.bind_some,legL_snoc,List.append_assoc]
def lapsR (r:T_relay_Race):T_start_Race:=⟨(r.Rules.Classes.length:Int) * r.Rules.Laps,r.Teams.map (·.Bib),after r⟩
theorem laps_ok {r:T_relay_Race} (g:GoodR r):m_relay_Laps r=some (lapsR r,0):=by
  unfold m_relay_Laps
  rw [begun_ok g]
  simp only [Option.bind_some,if_true]
  unfold m_relay_desk_laps
  have hn:=g.n
  simp only
  rw [forR'_fun (S:=List Int × List (List Int)) (n:=r.Teams.length) (fun k=>((r.Teams.take k).map (·.Bib),(r.Teams.take k).map fun t=>teamL r.Rules t.Legs r.Start)) (s0:=([],[])) rfl (by omega) fun k hk=>?_]
  · simp only [Option.bind_some,List.take_length]
    have h1:=g.rules.n;have h2:=g.rules.laps
    have h3:0 ≤ (r.Rules.Classes.length:Int) * r.Rules.Laps:=Int.mul_nonneg (by omega) (by omega)
    have h4:(r.Rules.Classes.length:Int) * r.Rules.Laps ≤ 4 * 5:=Int.mul_le_mul (by omega) h2.2 (by omega) (by omega)
    rw [w64_in (by omega) (by omega)]
    rfl
  · have gt:=g.team _ (gd_mem' hk)
    have hlen:=teamL_len g.rules (gd r.Teams k).Legs r.Start gt.leg
    have hc:=g.rules.n;have hleg:=gt.legs
    simp only
    rw [idx_gd' hk,Option.bind_some,app_ok (by simp;omega),Option.bind_some]
    unfold after
    rw [idx_gd' (by simpa using hk),Option.bind_some,gd_map' _ hk]
    unfold m_slices_Clone_int_int
    rw [app_ok (by simp;omega)]
    simp only [Option.bind_some,List.nil_append]
    rw [app_ok (by simp;omega),Option.bind_some,take_gd hk,List.map_append,List.map_append]
    rfl
def pick (L:Nat):List Int→Nat→List Int
  | [],_=>[]
  | a :: r,k=>if (k + 1) % L=0 then a :: pick L r (k + 1) else pick L r (k + 1)
theorem pick_app (L:Nat):∀ (a b:List Int) (k:Nat),pick L (a ++ b) k=pick L a k ++ pick L b (k + a.length)
  | [],b,k=>by simp [pick]
  | x :: a,b,k=>by
    have:=pick_app L a b (k + 1)
    rw [List.cons_append,pick,pick,this,show k + 1 + a.length=k + (x :: a).length by simp;omega]
    split <;> simp
theorem pick_none {L:Nat}:∀ (a:List Int) (k:Nat),k % L + a.length < L→pick L a k=[]
  | [],_,_=>rfl
  | x :: a,k,h=>by
    simp only [List.length_cons] at h
    have h1:(k + 1) % L=k % L + 1:=by
      rw [Nat.add_mod,Nat.mod_eq_of_lt (show 1 < L by omega),Nat.mod_eq_of_lt (by omega)]
    rw [pick,if_neg (by omega)]
    exact pick_none a (k + 1) (by omega)
theorem pick_leg {p:T_relay_Rules} {l:T_relay_Leg} {L:Nat} (hL:p.Laps=L) (h0:0 < L) (hle:l.Loops.length ≤ L) (x:Int) {k:Nat} (hk:k % L=0):pick L (legL p l x) k=if (l.Loops.length:Int)=p.Laps then [legE p l x] else []:=by
  unfold legL
  by_cases h:l.Loops.length=L
  · rw [if_pos (by omega)]
    obtain ⟨n,hn⟩:∃ n,l.Loops.length=n + 1:=⟨L - 1,by omega⟩
    rw [hn,legL_snoc,pick_app,pick_none _ _ (by simp;omega),List.nil_append]
    simp only [List.length_map,List.length_range,pick]
    rw [if_pos (by rw [show k + n + 1=k + L by omega,Nat.add_mod_right];exact hk)]
    unfold legE
    rw [hn]
  · rw [if_neg (by omega)]
    exact pick_none _ _ (by simp;omega)
def Fulls (p:T_relay_Rules):List T_relay_Leg→Prop
  | []=>True
  | l :: r=>((l.Loops.length:Int)=p.Laps ∨ r=[])∧Fulls p r
theorem fulls_of {p:T_relay_Rules}:∀ {l:List T_relay_Leg},(∀ k,k + 1 < l.length→((gd l k).Loops.length:Int)=p.Laps)→Fulls p l
  | [],_=>trivial
  | a :: l,h=>by
    refine ⟨?_,fulls_of fun k hk=>h (k + 1) (by simp at hk ⊢;omega)⟩
    cases l with
    | nil=>exact .inr rfl
    | cons b l=>exact .inl (h 0 (by simp))
theorem pick_team {p:T_relay_Rules} {L:Nat} (hL:p.Laps=L) (h0:0 < L):∀ (l:List T_relay_Leg) (x:Int) (k:Nat),Fulls p l→(∀ a ∈ l,a.Loops.length ≤ L)→k % L=0→pick L (teamL p l x) k=ends p l x
  | [],_,_,_,_,_=>rfl
  | a :: l,x,k,hf,hle,hk=>by
    rw [teamL,pick_app,pick_leg hL h0 (hle a (by simp)) x hk,ends]
    by_cases h:(a.Loops.length:Int)=p.Laps
    · have ha:(legL p a x).length=L:=by unfold legL;simp;omega
      rw [if_pos h,if_pos h,pick_team hL h0 l _ _ hf.2 (fun b hb=>hle b (by simp [hb])) (by rw [ha,Nat.add_mod_right];exact hk)]
      rfl
    · have hr:l=[]:=hf.1.resolve_left h
      subst hr
      rw [if_neg h,if_neg h]
      rfl
theorem ends_len (p:T_relay_Rules):∀ (l:List T_relay_Leg) (x:Int),(ends p l x).length ≤ l.length
  | [],_=>by simp [ends]
  | a :: l,x=>by
    have:=ends_len p l (legE p a x)
    rw [ends]
    split <;> simp <;> omega
theorem times_desk {r:T_relay_Race} (g:GoodR r) {k:Nat} (hk:k < r.Teams.length):m_relay_desk_times ⟨r,after r⟩ (k:Int)=some (ends r.Rules (gd r.Teams k).Legs r.Start):=by
  unfold m_relay_desk_times after
  have gt:=g.team _ (gd_mem' hk)
  have hlen:=teamL_len g.rules (gd r.Teams k).Legs r.Start gt.leg
  have hc:=g.rules.n;have hleg:=gt.legs;have hlap:=g.rules.laps
  obtain ⟨L,hL⟩:∃ L:Nat,r.Rules.Laps=L:=⟨r.Rules.Laps.toNat,by omega⟩
  simp only
  rw [idx_gd' (by simpa using hk),Option.bind_some,gd_map' _ hk]
  have hp:=pick_team hL (by omega) (gd r.Teams k).Legs r.Start 0 (fulls_of gt.full) (fun a ha=>by have:=(gt.leg a ha).le;omega) (by simp)
  rw [← hp]
  generalize teamL r.Rules (gd r.Teams k).Legs r.Start=X at hlen
  rw [hL]
  have key:∀ (m k:Nat) (o:List Int),k + m=X.length→o.length ≤ k→forN' (fun k31 l27 =>
    (idx X (↑k31:Int)).bind fun x55 =>
    (rem (↑(k31 + 1):Int) (L:Int)).bind fun x63 =>
    if x63=0 then
      (app 8 l27 [x55]).bind fun x73 =>
      some x73
    else
      some l27) m k o=some (o ++ pick L (X.drop k) k):=by
    intro m
    induction m with
    | zero=>intro k o hk _;rw [List.drop_eq_nil_of_le (by omega)];simp [forN',pick]
    | succ m ih =>
      intro k o hk ho
      have hlt:k < X.length:=by omega
      have hr:rem (↑(k + 1):Int) (L:Int)=some (((k + 1) % L:Nat):Int):=by
        unfold rem
        rw [if_neg (by omega)]
        rfl
      rw [drop_gd hlt,pick,forN',idx_gd' hlt,Option.bind_some,hr,Option.bind_some]
      by_cases h:(k + 1) % L=0
      · rw [if_pos (by omega),if_pos h,app_ok (by simp;omega),Option.bind_some]
        simp only
        rw [ih (k + 1) _ (by omega) (by simp;omega),List.append_assoc]
        rfl
      · rw [if_neg (by omega),if_neg h]
        simp only
        rw [ih (k + 1) _ (by omega) (by omega)]
  rw [forR'_list (by omega),key X.length 0 [] (by omega) (by simp),Option.bind_some]
  simp
def timesR (r:T_relay_Race):List (List Int):=r.Teams.map fun t=>ends r.Rules t.Legs r.Start
def legsR (r:T_relay_Race):List (List Int):=r.Teams.map fun t=>diffs (ends r.Rules t.Legs r.Start) r.Start
theorem times_ok {r:T_relay_Race} (g:GoodR r):m_relay_Times r=some (timesR r,0):=by
  unfold m_relay_Times
  rw [begun_ok g]
  simp only [Option.bind_some,if_true]
  have hn:=g.n
  rw [forR'_fun (S:=List (List Int)) (n:=r.Teams.length) (fun k=>(r.Teams.take k).map fun t=>ends r.Rules t.Legs r.Start) (s0:=[]) rfl (by omega) fun k hk=>?_]
  · rw [Option.bind_some,List.take_length]
    rfl
  · rw [times_desk g hk,Option.bind_some,app_ok (by simp;omega),Option.bind_some,take_gd hk,List.map_append]
    rfl
theorem diffs_len:∀ (l:List Int) (b:Int),(diffs l b).length=l.length
  | [],_=>rfl
  | a :: l,b=>by simp [diffs,diffs_len l a]
theorem ends_range {p:T_relay_Rules} (gp:GoodP p) {t:T_relay_Team}:∀ (l:List T_relay_Leg) (x:Int),(∀ a ∈ l,GoodL p t a)→∀ e ∈ ends p l x,x ≤ e∧e ≤ x + 69000 * (l.length:Int)
  | [],x,_,e,he=>by simp [ends] at he
  | a :: l,x,h,e,he=>by
    have h1:=legE_range gp (h a (by simp)) x
    have ih:=ends_range gp l (legE p a x) (fun b hb=>h b (by simp [hb])) e
    rw [ends] at he
    simp only [List.length_cons]
    split at he
    · rcases List.mem_cons.1 he with rfl | he
      · omega
      · have:=ih he
        omega
    · have:=ih he
      omega
theorem legs_is {r:T_relay_Race} (g:GoodR r):m_relay_Legs r=some (legsR r,0):=by
  unfold m_relay_Legs
  rw [begun_ok g]
  simp only [Option.bind_some,if_true]
  have hn:=g.n;have hs:=g.start
  rw [forR'_fun (S:=List (List Int)) (n:=r.Teams.length) (fun k=>(r.Teams.take k).map fun t=>diffs (ends r.Rules t.Legs r.Start) r.Start) (s0:=[]) rfl (by omega) fun k hk=>?_]
  · rw [Option.bind_some,List.take_length]
    rfl
  · have gt:=g.team _ (gd_mem' hk)
    have hc:=g.rules.n;have hleg:=gt.legs
    have hlen:=ends_len r.Rules (gd r.Teams k).Legs r.Start
    have hrg:=ends_range g.rules (gd r.Teams k).Legs r.Start gt.leg
    rw [times_desk g hk,Option.bind_some]
    generalize hX:ends r.Rules (gd r.Teams k).Legs r.Start=X at hlen hrg
    have key:∀ (m j:Nat) (b:Int) (o:List Int),j + m=X.length→o.length ≤ j→0 ≤ b→b ≤ 1000000→∃ b',forN' (fun k166 (x161,l162) =>
          (chk (↑k166:Int) X.length).bind fun _ =>
          (app 8 l162 [w64 ((gd X k166) - x161)]).bind fun x206 =>
          some ((gd X k166),x206)) m j (b,o)=some (b',o ++ diffs (X.drop j) b):=by
      intro m
      induction m with
      | zero=>intro j b o hj _ _ _;rw [List.drop_eq_nil_of_le (by omega)];exact ⟨b,by simp [forN',diffs]⟩
      | succ m ih =>
        intro j b o hj ho h0 h1
        have hlt:j < X.length:=by omega
        have hg:=hrg _ (gd_mem' hlt)
        obtain ⟨b',hb⟩:=ih (j + 1) (gd X j) (o ++ [gd X j - b]) (by omega) (by simp;omega) (by omega) (by omega)
        refine ⟨b',?_⟩
        rw [forN']
        simp only
        rw [chk_ok (by omega) (by omega),Option.bind_some,w64_in (by omega) (by omega),app_ok (by simp;omega),Option.bind_some]
        simp only
        rw [hb,drop_gd hlt,diffs,List.append_assoc]
        rfl
    obtain ⟨b',hb⟩:=key X.length 0 r.Start [] (by omega) (by simp) (by omega) (by omega)
    rw [forR'_list (by omega),hb,Option.bind_some]
    simp only [List.nil_append,List.drop_zero]
    rw [app_ok (by simp;omega),Option.bind_some,take_gd hk,List.map_append,← hX]
    rfl
end Go.Proofs.YtjfffcjjlnmneaaGreat
namespace Go.Proofs.YtjfffcjjlnmneaaGreat
open Go.KL
theorem rem_in {a b:Int} (h0:0 ≤ a) (hb:0 < b):∃ x,rem a b=some x∧0 ≤ x∧x < b:=by
  refine ⟨a.tmod b,if_neg (by omega),?_,?_⟩
  · rw [Int.tmod_eq_emod_of_nonneg h0];exact Int.emod_nonneg _ (by omega)
  · rw [Int.tmod_eq_emod_of_nonneg h0];exact Int.emod_lt_of_pos _ hb
theorem wu32_lo (x:Int):0 ≤ wu32 x:=by unfold wu32;omega
theorem wu32_hi (x:Int):wu32 x < 4294967296:=by unfold wu32;omega
theorem w64u (x:Int):w64 (wu32 x)=wu32 x:=by
  have:=wu32_lo x
  have:=wu32_hi x
  exact w64_in (by omega) (by omega)
theorem quo_some (a:Int) {b:Int} (hb:b ≠ 0):∃ x,quo a b=some x:=⟨_,if_neg hb⟩
theorem draw_ok (d:T_klisterkit_Deck) (n:Int) (h0:0 ≤ d.next) (h1:d.next ≤ 1000000):∃ x d',m_klisterkit_Deck_Draw d n=some (x,d')∧0 ≤ d'.next∧d'.next ≤ d.next + 1∧0 ≤ x∧(x < n ∨ (n ≤ 1∧x=0)):=by
  unfold m_klisterkit_Deck_Draw
  by_cases hn:n ≤ 1
  · exact ⟨0,d,by rw [if_pos hn],h0,by omega,by omega,.inr ⟨hn,rfl⟩⟩
  rw [if_neg hn]
  by_cases hl:(d.bytes.length:Int)=0
  · exact ⟨0,d,by rw [if_pos hl],h0,by omega,by omega,.inl (by omega)⟩
  rw [if_neg hl]
  obtain ⟨r,e1,r0,r1⟩:=rem_in h0 (show (0:Int) < d.bytes.length by omega)
  obtain ⟨b,e2⟩:∃ b,idx d.bytes r=some b:=by
    unfold idx
    rw [if_pos r0,List.getElem?_eq_getElem (by omega)]
    exact ⟨_,rfl⟩
  obtain ⟨q,e3⟩:=quo_some d.next (b:=d.bytes.length) hl
  obtain ⟨st,e4,_,_⟩:=rem_in (wu32_lo ((wu32 ((wu32 ((wu32 (d.state * 45)) + (wu32 b))) + (wu32 (77 * (wu32 q))))) + 1)) (b:=65519) (by decide)
  rw [e1,Option.bind_some,e2,Option.bind_some,e3,Option.bind_some,e4,Option.bind_some,w64_in (x:=d.next + 1) (by omega) (by omega)]
  have fin:∀ z:Int,∃ x d',((rem (w64 (wu32 z)) n).bind fun x=>some (x,(⟨d.bytes,d.next + 1,st⟩:T_klisterkit_Deck)))=some (x,d')∧0 ≤ d'.next∧d'.next ≤ d.next + 1∧0 ≤ x∧(x < n ∨ (n ≤ 1∧x=0)):=by
    intro z
    obtain ⟨x,e5,x0,x1⟩:=rem_in (a:=w64 (wu32 z)) (b:=n) (by rw [w64u];exact wu32_lo z) (by omega)
    exact ⟨x,_,by rw [e5];rfl,by show 0 ≤ d.next + 1;omega,by show d.next + 1 ≤ _;omega,x0,.inl x1⟩
  by_cases c1:wu32 q=0
  · rw [if_pos c1]
    by_cases c2:n ≤ 256
    · rw [if_pos c2];exact fin _
    · rw [if_neg c2];exact fin _
  · rw [if_neg c1];exact fin _
theorem deal_ok (d:T_klisterkit_Deck) (a b:Int) (h0:0 ≤ d.next) (h1:d.next ≤ 1000000) (ha:-1000000 ≤ a) (hab:a ≤ b) (hb:b ≤ 1000000):∃ x d',m_klisterkit_Deck_Between d a b=some (x,d')∧0 ≤ d'.next∧d'.next ≤ d.next + 1∧a ≤ x∧x ≤ b:=by
  unfold m_klisterkit_Deck_Between
  rw [w64_in (x:=b - a) (by omega) (by omega),w64_in (x:=b - a + 1) (by omega) (by omega)]
  obtain ⟨x,d',e,n0,n1,x0,x1⟩:=draw_ok d (b - a + 1) h0 h1
  refine ⟨a + x,d',?_,n0,n1,by omega,by omega⟩
  rw [e,Option.bind_some]
  simp only
  rw [w64_in (by omega) (by omega)]
end Go.Proofs.YtjfffcjjlnmneaaGreat
namespace Go.KL
variable {S B α:Type}
theorem iter_ind {body:S→Option (S ⊕ B)} (I:Nat→S→Prop) (Z:B→Prop) (m:Nat) (step:∀ i s,i ≤ m→I i s→(i < m∧∃ s',body s=some (.inl s')∧I (i + 1) s') ∨ ∃ b,body s=some (.inr b)∧Z b) {s0:S} (h0:I 0 s0) (hm:m < 1000000):∃ b,iter body big s0=some b∧Z b:=by
  have key:∀ (d i:Nat) (s:S),i + d=m→I i s→∀ F,d < F→∃ b,iter body F s=some b∧Z b:=by
    intro d
    induction d with
    | zero =>
      intro i s hi hI F hF
      obtain ⟨F,rfl⟩:∃ G,F=G + 1:=⟨F - 1,by omega⟩
      rcases step i s (by omega) hI with ⟨h,_⟩ | ⟨b,h1,h2⟩
      · omega
      · exact ⟨b,by rw [iter,h1],h2⟩
    | succ d ih =>
      intro i s hi hI F hF
      obtain ⟨F,rfl⟩:∃ G,F=G + 1:=⟨F - 1,by omega⟩
      rcases step i s (by omega) hI with ⟨_,s',h1,h2⟩ | ⟨b,h1,h2⟩
      · obtain ⟨b,h3,h4⟩:=ih (i + 1) s' (by omega) h2 F (by omega)
        exact ⟨b,by rw [iter,h1];exact h3,h4⟩
      · exact ⟨b,by rw [iter,h1],h2⟩
  exact key m 0 s0 (by omega) h0 big (by unfold big;omega)
theorem gd_put [Inhabited α] {l:List α} {i k:Nat} {x:α} (hi:i < l.length) (hk:k < l.length):gd (l.set i x) k=if k=i then x else gd l k:=by
  have h1:=gd_at (xs:=l.set i x) (k:=k) (by rw [List.length_set];exact hk)
  rw [List.getElem?_set] at h1
  by_cases e:i=k
  · subst e
    rw [if_pos rfl,if_pos hi] at h1
    rw [if_pos rfl]
    exact (Option.some.inj h1).symm
  · rw [if_neg e,gd_at hk] at h1
    rw [if_neg (fun h=>e h.symm)]
    exact (Option.some.inj h1).symm
theorem gd_is [Inhabited α] {l:List α} {k:Nat} (h:k < l.length):gd l k=l[k]:=by
  have:=gd_at h
  rw [List.getElem?_eq_getElem h] at this
  exact (Option.some.inj this).symm
end Go.KL
namespace Go.Proofs.YtjfffcjjlnmneaaGreat
open Go.KL
def DeckOK (d:T_klisterkit_Deck) (n:Int):Prop:=0 ≤ d.next∧d.next ≤ n
theorem draw_d {d:T_klisterkit_Deck} {N:Int} (h:DeckOK d N) (hN:N ≤ 1000000) (n:Int):∃ x d',m_klisterkit_Deck_Draw d n=some (x,d')∧DeckOK d' (N + 1)∧0 ≤ x∧(x < n ∨ (n ≤ 1∧x=0)):=by
  obtain ⟨x,d',e,a,b,c⟩:=draw_ok d n h.1 (by have:=h.2;omega)
  exact ⟨x,d',e,⟨a,by have:=h.2;omega⟩,c⟩
theorem deal_d {d:T_klisterkit_Deck} {N:Int} (h:DeckOK d N) (hN:N ≤ 1000000) {a b:Int} (ha:-1000000 ≤ a) (hab:a ≤ b) (hb:b ≤ 1000000):∃ x d',m_klisterkit_Deck_Between d a b=some (x,d')∧DeckOK d' (N + 1)∧a ≤ x∧x ≤ b:=by
  obtain ⟨x,d',e,c,c2,c3⟩:=deal_ok d a b h.1 (by have:=h.2;omega) ha hab hb
  exact ⟨x,d',e,⟨c,by have:=h.2;omega⟩,c3⟩
theorem coin_d {d:T_klisterkit_Deck} {N:Int} (h:DeckOK d N) (hN:N ≤ 1000000) (n:Int):∃ x d',m_klisterkit_Deck_Coin d n=some (x,d')∧DeckOK d' (N + 1):=by
  obtain ⟨x,d',e,c,_⟩:=draw_d h hN n
  exact ⟨decide (x=0),d',by unfold m_klisterkit_Deck_Coin;rw [e];rfl,c⟩
theorem hitsTo_snoc (b:Bool):∀ (l:List Bool) (k:Nat),hitsTo (l ++ [b]) k=(hitsTo l k).bind fun m=>if m=5 then none else some (m + if b=true then 1 else 0)
  | [],k=>rfl
  | c :: l,k=>by
    rw [List.cons_append,hitsTo,hitsTo]
    split
    · rfl
    · exact hitsTo_snoc b l _
theorem hitsTo_len:∀ (l:List Bool) (k m:Nat),hitsTo l k=some m→m ≤ k + l.length
  | [],k,m,h=>by cases h;simp
  | b :: l,k,m,h=>by
    rw [hitsTo] at h
    split at h
    · cases h
    · have:=hitsTo_len l _ m h
      simp only [List.length_cons]
      split at this <;> omega
theorem fired_ok {d:T_klisterkit_Deck} {N:Int} (h:DeckOK d N) (hN:N ≤ 900000):∃ l d',m_klisterlaw08_Fired d=some (l,d')∧DeckOK d' (N + 18)∧okB l:=by
  unfold m_klisterlaw08_Fired
  obtain ⟨⟨l,d'⟩,e,z1,z2⟩:=iter_ind (S:=List Int × Int × Int × List Bool × Int) (B:=List Bool × T_klisterkit_Deck) (body:=fun (l31,x34,x35,l36,x40) =>
    if x40 < 5 then
      if (↑l36.length:Int) < 5 then
        (m_klisterkit_Deck_Coin (⟨l31,x34,x35⟩:T_klisterkit_Deck) 4).bind fun (x61,x62) =>
        (app 1 l36 [!x61]).bind fun x80 =>
        if x61=true then
          some (.inl (x62.bytes,x62.next,x62.state,x80,x40))
        else
          some (.inl (x62.bytes,x62.next,x62.state,x80,w64 (x40 + 1)))
      else
        if (↑l36.length:Int) < 8 then
          (m_klisterkit_Deck_Coin (⟨l31,x34,x35⟩:T_klisterkit_Deck) 6).bind fun (x112,x113) =>
          if x112=true then
            esc (some (l36,x113))
          else
            (m_klisterkit_Deck_Coin x113 4).bind fun (x132,x133) =>
            (app 1 l36 [!x132]).bind fun x151 =>
            if x132=true then
              some (.inl (x133.bytes,x133.next,x133.state,x151,x40))
            else
              some (.inl (x133.bytes,x133.next,x133.state,x151,w64 (x40 + 1)))
        else
          esc (some (l36,(⟨l31,x34,x35⟩:T_klisterkit_Deck)))
    else
      esc (some (l36,(⟨l31,x34,x35⟩:T_klisterkit_Deck))))
    (fun i s=>DeckOK ⟨s.1,s.2.1,s.2.2.1⟩ (N + 2 * (i:Int))∧s.2.2.2.1.length=i∧∃ m:Nat,hitsTo s.2.2.2.1 0=some m∧s.2.2.2.2=m) (fun b=>DeckOK b.2 (N + 18)∧okB b.1) 8
    (by
      rintro i ⟨B,x,s,l,t⟩ hi ⟨h1,h2,m,h3,h4⟩
      simp only at h1 h2 h3 h4 ⊢
      subst h4
      have hm:=(hitsTo_le l 0 m (by omega) h3).2
      have hml:=hitsTo_len l 0 m h3
      have done:(5 ≤ l.length)→DeckOK ⟨B,x,s⟩ (N + 18)∧okB l:=fun h5=>⟨⟨h1.1,by have:=h1.2;omega⟩,h5,by omega,m,h3⟩
      have grow:∀ (c:Bool) (d2:T_klisterkit_Deck),DeckOK d2 (N + 2 * ((i + 1:Nat):Int))→m < 5→i < 8 →
          ∃ s',(if c=true then (some (.inl (d2.bytes,d2.next,d2.state,l ++ [!c],(m:Int))):Option ((List Int × Int × Int × List Bool × Int) ⊕ (List Bool × T_klisterkit_Deck))) else some (.inl (d2.bytes,d2.next,d2.state,l ++ [!c],w64 ((m:Int) + 1))))=some (.inl s')∧DeckOK ⟨s'.1,s'.2.1,s'.2.2.1⟩ (N + 2 * ((i + 1:Nat):Int))∧s'.2.2.2.1.length=i + 1∧∃ m':Nat,hitsTo s'.2.2.2.1 0=some m'∧s'.2.2.2.2=m':=by
        intro c d2 hd h5 h8
        cases c with
        | true=>exact ⟨_,if_pos rfl,hd,by simp [h2],m,by show hitsTo (l ++ _) 0=_;rw [hitsTo_snoc,h3,Option.bind_some,if_neg (by omega)];rfl,rfl⟩
        | false=>exact ⟨_,if_neg (by decide),hd,by simp [h2],m + 1,by show hitsTo (l ++ _) 0=_;rw [hitsTo_snoc,h3,Option.bind_some,if_neg (by omega)];rfl,by show w64 _=_;rw [w64_in (by omega) (by omega)];omega⟩
      by_cases c1:(m:Int) < 5
      · rw [if_pos c1]
        by_cases c2:(l.length:Int) < 5
        · rw [if_pos c2]
          left
          refine ⟨by omega,?_⟩
          obtain ⟨c,d2,e1,g1⟩:=coin_d h1 (by omega) 4
          rw [e1,Option.bind_some]
          simp only
          rw [app_ok (by simp;omega),Option.bind_some]
          exact grow c d2 ⟨g1.1,by have:=g1.2;omega⟩ (by omega) (by omega)
        · rw [if_neg c2]
          by_cases c3:(l.length:Int) < 8
          · rw [if_pos c3]
            obtain ⟨c,d2,e1,g1⟩:=coin_d h1 (by omega) 6
            rw [e1,Option.bind_some]
            simp only
            cases c with
            | true =>
              right
              rw [if_pos rfl]
              refine ⟨_,rfl,⟨g1.1,by have:=g1.2;simp only;omega⟩,(done (by omega)).2⟩
            | false =>
              left
              refine ⟨by omega,?_⟩
              rw [if_neg (by decide)]
              obtain ⟨c,d3,e2,g2⟩:=coin_d g1 (by omega) 4
              rw [e2,Option.bind_some]
              simp only
              rw [app_ok (by simp;omega),Option.bind_some]
              exact grow c d3 ⟨g2.1,by have:=g2.2;omega⟩ (by omega) (by omega)
          · rw [if_neg c3]
            right
            exact ⟨_,rfl,done (by omega)⟩
      · rw [if_neg c1]
        right
        exact ⟨_,rfl,done (by omega)⟩) (s0:=(d.bytes,d.next,d.state,[],0)) ⟨⟨h.1,by have:=h.2;simp only;omega⟩,rfl,0,rfl,rfl⟩ (by omega)
  exact ⟨l,d',e,z1,z2⟩
theorem leg_made {p:T_relay_Rules} {L:Nat} (hL:p.Laps=L) (h0:0 < L) (h3:L ≤ 3) {pace:Int} (hp:300 ≤ pace∧pace ≤ 900) {t:T_relay_Team} {sk:Int} (hsk:0 ≤ sk∧sk < t.Classes.length) {legs:List T_relay_Leg} (hlegs:legs.length ≤ 10) {d:T_klisterkit_Deck} {N:Int} (h:DeckOK d N) (hN:N ≤ 800000) {T:Nat} (hT:0 < T) (hT2:T ≤ 100) :
    ∃ (s':List Int × Int × Int × List T_relay_Leg × Int) (l:T_relay_Leg) (i:Nat),iter (S:=List Int × List (List Bool) × List Int × Int × Int × Int × Int) (B:=(List Int × Int × Int × List T_relay_Leg × Int) ⊕ (List Int × Int × Int × List T_relay_Leg)) (fun (l1152,l1156,l1161,x1164,x1165,x1166,x1167) =>
            if x1167 < p.Laps then
              if 0 < x1166 then
                (m_klisterkit_Deck_Draw (⟨l1161,x1164,x1165⟩:T_klisterkit_Deck) 200).bind fun (x1233,x1234) =>
                (app 8 l1152 [w64 (pace + x1233)]).bind fun x1253 =>
                if 0 < x1167 then
                  (m_klisterlaw08_Fired x1234).bind fun (x1315,x1316) =>
                  (app 24 l1156 [x1315]).bind fun x1344 =>
                  some (.inl (x1253,x1344,x1316.bytes,x1316.next,x1316.state,w64 (x1166 - 1),w64 (x1167 + 1)))
                else
                  some (.inl (x1253,l1156,x1234.bytes,x1234.next,x1234.state,w64 (x1166 - 1),w64 (x1167 + 1)))
              else
                esc ((app 56 legs [(⟨sk,l1152,l1156⟩:T_relay_Leg)]).bind fun x1413 =>
                some (.inl (l1161,x1164,x1165,x1413,x1166)))
            else
              esc ((app 56 legs [(⟨sk,l1152,l1156⟩:T_relay_Leg)]).bind fun x1464 =>
              some (.inl (l1161,x1164,x1165,x1464,x1166)))) big ([],[],d.bytes,d.next,d.state,(T:Int),0)=some (.inl s')∧DeckOK ⟨s'.1,s'.2.1,s'.2.2.1⟩ (N + 60)∧s'.2.2.2.1=legs ++ [l]∧GoodL p t l∧l.Loops.length=i∧i ≤ L∧0 < i∧i ≤ T∧s'.2.2.2.2=((T - i:Nat):Int)∧(i=L ∨ i=T):=by
  obtain ⟨b,e,s',l,i,rfl,z⟩:=iter_ind (S:=List Int × List (List Bool) × List Int × Int × Int × Int × Int) (B:=(List Int × Int × Int × List T_relay_Leg × Int) ⊕ (List Int × Int × Int × List T_relay_Leg)) (body:=fun (l1152,l1156,l1161,x1164,x1165,x1166,x1167) =>
            if x1167 < p.Laps then
              if 0 < x1166 then
                (m_klisterkit_Deck_Draw (⟨l1161,x1164,x1165⟩:T_klisterkit_Deck) 200).bind fun (x1233,x1234) =>
                (app 8 l1152 [w64 (pace + x1233)]).bind fun x1253 =>
                if 0 < x1167 then
                  (m_klisterlaw08_Fired x1234).bind fun (x1315,x1316) =>
                  (app 24 l1156 [x1315]).bind fun x1344 =>
                  some (.inl (x1253,x1344,x1316.bytes,x1316.next,x1316.state,w64 (x1166 - 1),w64 (x1167 + 1)))
                else
                  some (.inl (x1253,l1156,x1234.bytes,x1234.next,x1234.state,w64 (x1166 - 1),w64 (x1167 + 1)))
              else
                esc ((app 56 legs [(⟨sk,l1152,l1156⟩:T_relay_Leg)]).bind fun x1413 =>
                some (.inl (l1161,x1164,x1165,x1413,x1166)))
            else
              esc ((app 56 legs [(⟨sk,l1152,l1156⟩:T_relay_Leg)]).bind fun x1464 =>
              some (.inl (l1161,x1164,x1165,x1464,x1166))))
    (fun i s=>DeckOK ⟨s.2.2.1,s.2.2.2.1,s.2.2.2.2.1⟩ (N + 20 * (i:Int))∧s.1.length=i∧s.2.1.length=i - 1∧(∀ n ∈ s.1,1 ≤ n∧n ≤ 9000)∧(∀ b ∈ s.2.1,okB b)∧i ≤ T∧i ≤ L∧s.2.2.2.2.2.1=((T - i:Nat):Int)∧s.2.2.2.2.2.2=(i:Int))
    (fun b=>∃ s' l i,b=.inl s'∧DeckOK ⟨s'.1,s'.2.1,s'.2.2.1⟩ (N + 60)∧s'.2.2.2.1=legs ++ [l]∧GoodL p t l∧l.Loops.length=i∧i ≤ L∧0 < i∧i ≤ T∧s'.2.2.2.2=((T - i:Nat):Int)∧(i=L ∨ i=T)) L
    (by
      rintro i ⟨lo,bo,B,x,s,td,lp⟩ hi ⟨h1,h2,h4,h5,h6,h7,h8,h9,h10⟩
      simp only at h1 h2 h4 h5 h6 h9 h10 ⊢
      subst h9 h10
      have h1b:x ≤ N + 20 * (i:Int):=h1.2
      have done:0 < i→(i=L ∨ i=T)→∃ b,(esc ((app 56 legs [(⟨sk,lo,bo⟩:T_relay_Leg)]).bind fun x1413=>(some (.inl (B,x,s,x1413,((T - i:Nat):Int))):Option ((List Int × Int × Int × List T_relay_Leg × Int) ⊕ (List Int × Int × Int × List T_relay_Leg)))):Option ((List Int × List (List Bool) × List Int × Int × Int × Int × Int) ⊕ ((List Int × Int × Int × List T_relay_Leg × Int) ⊕ (List Int × Int × Int × List T_relay_Leg))))=some (.inr b)∧∃ s' l i,b=.inl s'∧DeckOK ⟨s'.1,s'.2.1,s'.2.2.1⟩ (N + 60)∧s'.2.2.2.1=legs ++ [l]∧GoodL p t l∧l.Loops.length=i∧i ≤ L∧0 < i∧i ≤ T∧s'.2.2.2.2=((T - i:Nat):Int)∧(i=L ∨ i=T):=by
        intro hi0 hiL
        rw [app_ok (by simp;omega),Option.bind_some]
        exact ⟨_,rfl,_,⟨sk,lo,bo⟩,i,rfl,⟨h1.1,by show x ≤ _;omega⟩,rfl,⟨by simp only;omega,by simp only;omega,h5,hsk,h6⟩,h2,h8,hi0,h7,rfl,hiL⟩
      rw [hL]
      by_cases c1:(i:Int) < (L:Int)
      · rw [if_pos c1]
        by_cases c2:(0:Int) < ((T - i:Nat):Int)
        · rw [if_pos c2]
          left
          refine ⟨by omega,?_⟩
          obtain ⟨n,d2,e1,g1,n0,n1⟩:=draw_d h1 (by omega) 200
          rw [e1,Option.bind_some]
          simp only
          rw [w64_in (x:=pace + n) (by omega) (by omega),app_ok (by simp;omega),Option.bind_some,w64_in (x:=((T - i:Nat):Int) - 1) (by omega) (by omega),w64_in (x:=(i:Int) + 1) (by omega) (by omega)]
          have hlo:∀ q ∈ lo ++ [pace + n],1 ≤ q∧q ≤ 9000:=fun q hq=>by
            rcases List.mem_append.1 hq with hq | hq
            · exact h5 q hq
            · simp at hq
              omega
          by_cases c3:(0:Int) < (i:Int)
          · rw [if_pos c3]
            obtain ⟨f,d3,e2,g2,g3⟩:=fired_ok g1 (by omega)
            rw [e2,Option.bind_some]
            simp only
            rw [app_ok (by simp;omega),Option.bind_some]
            refine ⟨_,rfl,⟨g2.1,by have:=g2.2;simp only;omega⟩,by simp [h2],by clear done;simp only [List.length_append,List.length_cons,List.length_nil];omega,hlo,fun b hb=>?_,by omega,by omega,by simp only;omega,by simp only;omega⟩
            rcases List.mem_append.1 hb with hb | hb
            · exact h6 b hb
            · simp at hb
              subst hb
              exact g3
          · rw [if_neg c3]
            exact ⟨_,rfl,⟨g1.1,by have:=g1.2;simp only;omega⟩,by simp [h2],by simp only;omega,hlo,h6,by omega,by omega,by simp only;omega,by simp only;omega⟩
        · rw [if_neg c2]
          right
          exact done (by omega) (by omega)
      · rw [if_neg c1]
        right
        exact done (by omega) (by omega)) (s0:=([],[],d.bytes,d.next,d.state,(T:Int),0)) ⟨⟨h.1,by have:=h.2;simp only;omega⟩,rfl,rfl,fun n hn=>by simp at hn,fun b hb=>by simp at hb,by omega,by omega,by simp,rfl⟩ (by omega)
  exact ⟨s',l,i,e,z⟩
theorem legs_made {p:T_relay_Rules} {L C:Nat} (hL:p.Laps=L) (h0:0 < L) (h3:L ≤ 3) (hC:C ≤ 4) {pace:Int} (hp:300 ≤ pace∧pace ≤ 900) {t:T_relay_Team} {n:Nat} (hn:t.Classes.length=n) (hn1:1 ≤ n) {d:T_klisterkit_Deck} {N:Int} (h:DeckOK d N) (hN:N ≤ 700000) {T:Nat} (hT:T ≤ C * L) :
    ∃ s':List Int × Int × Int × List T_relay_Leg,iter (S:=List Int × Int × Int × List T_relay_Leg × Int) (B:=List Int × Int × Int × List T_relay_Leg) (fun (l1029,x1032,x1033,l1034,x1039) =>
        if 0 < x1039 then
          (m_klisterkit_Deck_Draw (⟨l1029,x1032,x1033⟩:T_klisterkit_Deck) (n:Int)).bind fun (x1064,x1065) =>
          iter (fun (l1152,l1156,l1161,x1164,x1165,x1166,x1167) =>
            if x1167 < p.Laps then
              if 0 < x1166 then
                (m_klisterkit_Deck_Draw (⟨l1161,x1164,x1165⟩:T_klisterkit_Deck) 200).bind fun (x1233,x1234) =>
                (app 8 l1152 [w64 (pace + x1233)]).bind fun x1253 =>
                if 0 < x1167 then
                  (m_klisterlaw08_Fired x1234).bind fun (x1315,x1316) =>
                  (app 24 l1156 [x1315]).bind fun x1344 =>
                  some (.inl (x1253,x1344,x1316.bytes,x1316.next,x1316.state,w64 (x1166 - 1),w64 (x1167 + 1)))
                else
                  some (.inl (x1253,l1156,x1234.bytes,x1234.next,x1234.state,w64 (x1166 - 1),w64 (x1167 + 1)))
              else
                esc ((app 56 l1034 [(⟨x1064,l1152,l1156⟩:T_relay_Leg)]).bind fun x1413 =>
                some (.inl (l1161,x1164,x1165,x1413,x1166)))
            else
              esc ((app 56 l1034 [(⟨x1064,l1152,l1156⟩:T_relay_Leg)]).bind fun x1464 =>
              some (.inl (l1161,x1164,x1165,x1464,x1166)))) big ([],[],x1065.bytes,x1065.next,x1065.state,x1039,0)
        else
          esc (some (l1029,x1032,x1033,l1034))) big (d.bytes,d.next,d.state,[],(T:Int))=some s'∧DeckOK ⟨s'.1,s'.2.1,s'.2.2.1⟩ (N + 300)∧s'.2.2.2.length ≤ C∧(∀ k,k + 1 < s'.2.2.2.length→((gd s'.2.2.2 k).Loops.length:Int)=p.Laps)∧∀ l ∈ s'.2.2.2,GoodL p t l:=by
  have hT12:T ≤ 12:=Nat.le_trans hT (Nat.le_trans (Nat.mul_le_mul hC h3) (by omega))
  obtain ⟨b,e,z⟩:=iter_ind (S:=List Int × Int × Int × List T_relay_Leg × Int) (B:=List Int × Int × Int × List T_relay_Leg) (body:=fun (l1029,x1032,x1033,l1034,x1039) =>
        if 0 < x1039 then
          (m_klisterkit_Deck_Draw (⟨l1029,x1032,x1033⟩:T_klisterkit_Deck) (n:Int)).bind fun (x1064,x1065) =>
          iter (fun (l1152,l1156,l1161,x1164,x1165,x1166,x1167) =>
            if x1167 < p.Laps then
              if 0 < x1166 then
                (m_klisterkit_Deck_Draw (⟨l1161,x1164,x1165⟩:T_klisterkit_Deck) 200).bind fun (x1233,x1234) =>
                (app 8 l1152 [w64 (pace + x1233)]).bind fun x1253 =>
                if 0 < x1167 then
                  (m_klisterlaw08_Fired x1234).bind fun (x1315,x1316) =>
                  (app 24 l1156 [x1315]).bind fun x1344 =>
                  some (.inl (x1253,x1344,x1316.bytes,x1316.next,x1316.state,w64 (x1166 - 1),w64 (x1167 + 1)))
                else
                  some (.inl (x1253,l1156,x1234.bytes,x1234.next,x1234.state,w64 (x1166 - 1),w64 (x1167 + 1)))
              else
                esc ((app 56 l1034 [(⟨x1064,l1152,l1156⟩:T_relay_Leg)]).bind fun x1413 =>
                some (.inl (l1161,x1164,x1165,x1413,x1166)))
            else
              esc ((app 56 l1034 [(⟨x1064,l1152,l1156⟩:T_relay_Leg)]).bind fun x1464 =>
              some (.inl (l1161,x1164,x1165,x1464,x1166)))) big ([],[],x1065.bytes,x1065.next,x1065.state,x1039,0)
        else
          esc (some (l1029,x1032,x1033,l1034)))
    (fun j s=>DeckOK ⟨s.1,s.2.1,s.2.2.1⟩ (N + 61 * (j:Int))∧s.2.2.2.1.length=j∧j ≤ C∧(∀ l ∈ s.2.2.2.1,GoodL p t l)∧∃ td:Nat,s.2.2.2.2=(td:Int)∧td ≤ T∧(0 < td→j * L + td=T)∧(∀ k,k + 1 < j→((gd s.2.2.2.1 k).Loops.length:Int)=p.Laps)∧(0 < td→∀ k,k < j→((gd s.2.2.2.1 k).Loops.length:Int)=p.Laps))
    (fun s'=>DeckOK ⟨s'.1,s'.2.1,s'.2.2.1⟩ (N + 300)∧s'.2.2.2.length ≤ C∧(∀ k,k + 1 < s'.2.2.2.length→((gd s'.2.2.2 k).Loops.length:Int)=p.Laps)∧∀ l ∈ s'.2.2.2,GoodL p t l) C
    (by
      rintro j ⟨B,x,s,legs,td0⟩ hj ⟨h1,h2,h4,h5,td,h6,h7,h8,h9,h10⟩
      simp only at h1 h2 h5 h6 h9 h10 ⊢
      subst h6
      by_cases c1:(0:Int) < (td:Int)
      · rw [if_pos c1]
        left
        have c1':0 < td:=by omega
        have hjC:j < C:=by
          have:=h8 c1'
          exact Nat.lt_of_mul_lt_mul_right (a:=L) (by omega)
        refine ⟨hjC,?_⟩
        obtain ⟨sk,d2,e1,g1,k0,k1⟩:=draw_d h1 (by omega) (n:Int)
        rw [e1,Option.bind_some]
        simp only
        obtain ⟨s',l,i,f1,f2,f3,f4,f5,f6,f7,f8,f9,f10⟩:=leg_made (p:=p) hL h0 h3 hp (t:=t) (sk:=sk) ⟨k0,by omega⟩ (legs:=legs) (by omega) g1 (by omega) c1' (by omega)
        refine ⟨s',f1,⟨f2.1,by have:=f2.2;omega⟩,by rw [f3];simp [h2],by omega,fun a ha=>?_,td - i,f9,by omega,fun hq=>?_,fun k hk=>?_,fun hq k hk=>?_⟩
        · rw [f3] at ha
          rcases List.mem_append.1 ha with ha | ha
          · exact h5 a ha
          · simp at ha
            subst ha
            exact f4
        · have:=h8 c1'
          have hiL:i=L:=by omega
          rw [Nat.add_mul]
          omega
        · rw [f3,gd_app_l (by omega)]
          exact h10 c1' k (by omega)
        · have hiL:i=L:=by omega
          rw [f3]
          rcases Nat.lt_or_ge k j with hk2 | hk2
          · rw [gd_app_l (by omega)]
            exact h10 c1' k hk2
          · have:k=legs.length:=by omega
            subst this
            rw [gd_app_m]
            omega
      · rw [if_neg c1]
        right
        have h1b:x ≤ N + 61 * (j:Int):=h1.2
        exact ⟨_,rfl,⟨h1.1,by show x ≤ _;omega⟩,by simp only;omega,fun k hk=>h9 k (by simp only at hk;omega),h5⟩) (s0:=(d.bytes,d.next,d.state,[],(T:Int))) ⟨⟨h.1,by have:=h.2;simp only;omega⟩,rfl,by omega,fun l hl=>by simp at hl,T,rfl,Nat.le_refl _,fun _=>by omega,fun k hk=>by omega,fun _ k hk=>by omega⟩ (by omega)
  exact ⟨b,e,z⟩
end Go.Proofs.YtjfffcjjlnmneaaGreat
namespace Go.Proofs.YtjfffcjjlnmneaaGreat
open Go.KL
theorem cls_loop {N:Int} {n:Nat} (hn:n ≤ 10) {d:T_klisterkit_Deck} (h:DeckOK d N) (hN:N ≤ 900000):∃ s':List Int × Int × Int × List Int,(forR' 0 (n:Int) (fun (k204:Nat) ((l195,x198,x199,l200):List Int × Int × Int × List Int) =>
      (m_klisterkit_Deck_Draw (⟨l195,x198,x199⟩:T_klisterkit_Deck) 2).bind fun (x269,x270) =>
      (app 8 l200 [x269]).bind fun x288 =>
      some (x270.bytes,x270.next,x270.state,x288)) (d.bytes,d.next,d.state,[]))=some s'∧DeckOK ⟨s'.1,s'.2.1,s'.2.2.1⟩ (N + 10)∧s'.2.2.2.length=n∧∀ c ∈ s'.2.2.2,0 ≤ c∧c ≤ 3:=by
  rw [forR'_list (by omega)]
  obtain ⟨s',e,i1,i2,i3⟩:=forN'_inv (S:=List Int × Int × Int × List Int) (body:=fun (k204:Nat) ((l195,x198,x199,l200):List Int × Int × Int × List Int) =>
      (m_klisterkit_Deck_Draw (⟨l195,x198,x199⟩:T_klisterkit_Deck) 2).bind fun (x269,x270) =>
      (app 8 l200 [x269]).bind fun x288 =>
      some (x270.bytes,x270.next,x270.state,x288)) (fun k s=>DeckOK ⟨s.1,s.2.1,s.2.2.1⟩ (N + (k:Int))∧s.2.2.2.length=k∧∀ c ∈ s.2.2.2,0 ≤ c∧c ≤ 3) n 0 (d.bytes,d.next,d.state,[]) ⟨⟨h.1,by have:=h.2;simp only;omega⟩,rfl,fun c hc=>by simp at hc⟩
    (by
      rintro k ⟨B,x,s,l⟩ _ hk ⟨i1,i2,i3⟩
      simp only at i1 i2 i3 ⊢
      obtain ⟨c,d2,e1,g1,c0,c1⟩:=draw_d i1 (by omega) 2
      rw [e1,Option.bind_some]
      simp only
      rw [app_ok (by simp;omega),Option.bind_some]
      refine ⟨_,rfl,⟨g1.1,by have:=g1.2;simp only;omega⟩,by simp [i2],fun a ha=>?_⟩
      rcases List.mem_append.1 ha with ha | ha
      · exact i3 a ha
      · simp at ha
        omega)
  rw [Nat.zero_add] at i1 i2
  exact ⟨s',e,⟨i1.1,by have:=i1.2;omega⟩,i2,i3⟩
theorem ruled_ok {d:T_klisterkit_Deck} {N:Int} (h:DeckOK d N) (hN:N ≤ 800000) {m:Int} (hm:1 ≤ m∧m ≤ 4):∃ p d',m_klisterlaw08_Ruled d m=some (p,d')∧DeckOK d' (N + 16)∧GoodP p∧p.Laps ≤ 3∧(p.Classes.length:Int) ≤ m:=by
  unfold m_klisterlaw08_Ruled
  obtain ⟨a1,d1,e1,g1,u1,v1⟩:=deal_d h (by omega) (a:=1) (b:=2) (by omega) (by omega) (by omega)
  rw [e1,Option.bind_some];simp only
  obtain ⟨a2,d2,e2,g2,u2,v2⟩:=deal_d g1 (by omega) (a:=1) (b:=3) (by omega) (by omega) (by omega)
  rw [e2,Option.bind_some];simp only
  obtain ⟨a3,d3,e3,g3,u3,v3⟩:=draw_d g2 (by omega) 100
  rw [e3,Option.bind_some];simp only
  obtain ⟨a4,d4,e4,g4,u4,v4⟩:=draw_d g3 (by omega) 100
  rw [e4,Option.bind_some];simp only
  obtain ⟨a5,d5,e5,g5,u5,v5⟩:=draw_d g4 (by omega) 13
  rw [e5,Option.bind_some];simp only
  obtain ⟨a6,d6,e6,g6,u6,v6⟩:=deal_d g5 (by omega) (a:=1) (b:=m) (by omega) (by omega) (by omega)
  rw [e6,Option.bind_some];simp only
  obtain ⟨n,rfl⟩:∃ n:Nat,a6=n:=⟨a6.toNat,by omega⟩
  obtain ⟨⟨sB,sx,ss,sl⟩,e7,g7,i2,i3⟩:=cls_loop (n:=n) (by omega) g6 (by omega)
  simp only at g7 i2 i3
  rw [e7,Option.bind_some];simp only
  rw [w64_in (x:=200 + a4) (by omega) (by omega),w64_in (x:=100 * a5) (by omega) (by omega)]
  refine ⟨_,_,rfl,⟨g7.1,by have:=g7.2;omega⟩,⟨by simp only;omega,i3,by simp only;omega,by simp only;omega,by simp only;omega,by simp only;omega,by simp only;omega⟩,by simp only;omega,by simp only;omega⟩
theorem made_ok {d:T_klisterkit_Deck} {N:Int} (h:DeckOK d N) (hN:N ≤ 1000) {m q:Int} (hm:1 ≤ m∧m ≤ 8) (hq:1 ≤ q∧q ≤ 4):∃ r d',m_klisterlaw08_Made d m q=some (r,d')∧GoodR r∧r.Rules.Laps ≤ 3∧(r.Teams.length:Int) ≤ m:=by
  unfold m_klisterlaw08_Made
  obtain ⟨p,d1,e1,g1,gp,hl3,_⟩:=ruled_ok h (by omega) hq
  rw [e1,Option.bind_some];simp only
  obtain ⟨st,d2,e2,g2,u2,v2⟩:=draw_d g1 (by omega) 50
  rw [e2,Option.bind_some];simp only
  obtain ⟨nt,d3,e3,g3,u3,v3⟩:=deal_d g2 (by omega) (a:=1) (b:=m) (by omega) (by omega) (by omega)
  rw [e3,Option.bind_some];simp only
  obtain ⟨n,rfl⟩:∃ n:Nat,nt=n:=⟨nt.toNat,by omega⟩
  have hlap:=gp.laps;have hcl:=gp.n
  obtain ⟨L,hL⟩:∃ L:Nat,p.Laps=L:=⟨p.Laps.toNat,by omega⟩
  rw [forR'_list (by omega)]
  obtain ⟨s',e,i1,i2,i3,i4,i5⟩:=forN'_inv (S:=List Int × Int × Int × List T_relay_Team) (body:=fun k102 (l92,x95,x96,l97) =>
    (m_klisterkit_Deck_Between (⟨l92,x95,x96⟩:T_klisterkit_Deck) 1 9).bind fun (x131,x132) =>
    (m_klisterkit_Deck_Between x132 1 5).bind fun (x152,x153) =>
    (forR' 0 x152 (fun k204 (l195,x198,x199,l200) =>
      (m_klisterkit_Deck_Draw (⟨l195,x198,x199⟩:T_klisterkit_Deck) 2).bind fun (x269,x270) =>
      (app 8 l200 [x269]).bind fun x288 =>
      some (x270.bytes,x270.next,x270.state,x288)) (x153.bytes,x153.next,x153.state,[])).bind fun (y209,y210,y211,y212) =>
    (m_klisterkit_Deck_Between (⟨y209,y210,y211⟩:T_klisterkit_Deck) 300 900).bind fun (x355,x356) =>
    (m_klisterkit_Deck_Coin x356 4).bind fun (x369,x370) =>
    if x369=true then
      (m_klisterkit_Deck_Draw x370 (w64 ((w64 ((↑p.Classes.length:Int) * p.Laps)) + 1))).bind fun (x385,x386) =>
      (iter (fun (l443,x446,x447,l448,x453) =>
        if 0 < x453 then
          (m_klisterkit_Deck_Draw (⟨l443,x446,x447⟩:T_klisterkit_Deck) (↑y212.length:Int)).bind fun (x478,x479) =>
          iter (fun (l566,l570,l575,x578,x579,x580,x581) =>
            if x581 < p.Laps then
              if 0 < x580 then
                (m_klisterkit_Deck_Draw (⟨l575,x578,x579⟩:T_klisterkit_Deck) 200).bind fun (x647,x648) =>
                (app 8 l566 [w64 (x355 + x647)]).bind fun x667 =>
                if 0 < x581 then
                  (m_klisterlaw08_Fired x648).bind fun (x729,x730) =>
                  (app 24 l570 [x729]).bind fun x758 =>
                  some (.inl (x667,x758,x730.bytes,x730.next,x730.state,w64 (x580 - 1),w64 (x581 + 1)))
                else
                  some (.inl (x667,l570,x648.bytes,x648.next,x648.state,w64 (x580 - 1),w64 (x581 + 1)))
              else
                esc ((app 56 l448 [(⟨x478,l566,l570⟩:T_relay_Leg)]).bind fun x827 =>
                some (.inl (l575,x578,x579,x827,x580)))
            else
              esc ((app 56 l448 [(⟨x478,l566,l570⟩:T_relay_Leg)]).bind fun x878 =>
              some (.inl (l575,x578,x579,x878,x580)))) big ([],[],x479.bytes,x479.next,x479.state,x453,0)
        else
          esc (some (l443,x446,x447,l448))) big (x386.bytes,x386.next,x386.state,[],x385)).bind fun (l399,x402,x403,l404) =>
      (app 56 l97 [(⟨w64 ((w64 (9 * (↑k102:Int))) + x131),y212,l404⟩:T_relay_Team)]).bind fun x951 =>
      some (l399,x402,x403,x951)
    else
      (iter (fun (l1029,x1032,x1033,l1034,x1039) =>
        if 0 < x1039 then
          (m_klisterkit_Deck_Draw (⟨l1029,x1032,x1033⟩:T_klisterkit_Deck) (↑y212.length:Int)).bind fun (x1064,x1065) =>
          iter (fun (l1152,l1156,l1161,x1164,x1165,x1166,x1167) =>
            if x1167 < p.Laps then
              if 0 < x1166 then
                (m_klisterkit_Deck_Draw (⟨l1161,x1164,x1165⟩:T_klisterkit_Deck) 200).bind fun (x1233,x1234) =>
                (app 8 l1152 [w64 (x355 + x1233)]).bind fun x1253 =>
                if 0 < x1167 then
                  (m_klisterlaw08_Fired x1234).bind fun (x1315,x1316) =>
                  (app 24 l1156 [x1315]).bind fun x1344 =>
                  some (.inl (x1253,x1344,x1316.bytes,x1316.next,x1316.state,w64 (x1166 - 1),w64 (x1167 + 1)))
                else
                  some (.inl (x1253,l1156,x1234.bytes,x1234.next,x1234.state,w64 (x1166 - 1),w64 (x1167 + 1)))
              else
                esc ((app 56 l1034 [(⟨x1064,l1152,l1156⟩:T_relay_Leg)]).bind fun x1413 =>
                some (.inl (l1161,x1164,x1165,x1413,x1166)))
            else
              esc ((app 56 l1034 [(⟨x1064,l1152,l1156⟩:T_relay_Leg)]).bind fun x1464 =>
              some (.inl (l1161,x1164,x1165,x1464,x1166)))) big ([],[],x1065.bytes,x1065.next,x1065.state,x1039,0)
        else
          esc (some (l1029,x1032,x1033,l1034))) big (x370.bytes,x370.next,x370.state,[],w64 ((↑p.Classes.length:Int) * p.Laps))).bind fun (l985,x988,x989,l990) =>
      (app 56 l97 [(⟨w64 ((w64 (9 * (↑k102:Int))) + x131),y212,l990⟩:T_relay_Team)]).bind fun x1537 =>
      some (l985,x988,x989,x1537)) (fun k s=>DeckOK ⟨s.1,s.2.1,s.2.2.1⟩ (N + 20 + 400 * (k:Int))∧s.2.2.2.length=k∧(∀ t ∈ s.2.2.2,GoodT p t)∧(s.2.2.2.map (·.Bib)).Nodup∧∀ t ∈ s.2.2.2,t.Bib ≤ 9 * (k:Int)) n 0 (d3.bytes,d3.next,d3.state,[]) ⟨⟨g3.1,by have:=g3.2;simp only;omega⟩,rfl,fun t ht=>by simp at ht,by simp,fun t ht=>by simp at ht⟩
    (by
      rintro k ⟨B,x,s,tm⟩ _ hk ⟨i1,i2,i3,i4,i5⟩
      simp only at i1 i2 i3 i4 i5 ⊢
      obtain ⟨b,f1,q1,y1,y2,y3⟩:=deal_d i1 (by omega) (a:=1) (b:=9) (by omega) (by omega) (by omega)
      rw [q1,Option.bind_some];simp only
      obtain ⟨nc,f2,q2,y4,y5,y6⟩:=deal_d y1 (by omega) (a:=1) (b:=5) (by omega) (by omega) (by omega)
      rw [q2,Option.bind_some];simp only
      obtain ⟨nn,rfl⟩:∃ n:Nat,nc=n:=⟨nc.toNat,by omega⟩
      obtain ⟨cs,q3,y7,y8,y9⟩:=cls_loop (n:=nn) (by omega) y4 (by omega)
      obtain ⟨cB,cx,cst,cl⟩:=cs
      simp only at y7 y8 y9
      rw [q3,Option.bind_some];simp only
      obtain ⟨pace,f4,q4,z1,z2,z3⟩:=deal_d y7 (by omega) (a:=300) (b:=900) (by omega) (by omega) (by omega)
      rw [q4,Option.bind_some];simp only
      obtain ⟨coin,f5,q5,z4⟩:=coin_d z1 (by omega) 4
      rw [q5,Option.bind_some];simp only
      rw [y8]
      have hCL:w64 ((p.Classes.length:Int) * p.Laps)=((p.Classes.length * L:Nat):Int)∧p.Classes.length * L ≤ 12:=by
        have:p.Classes.length * L ≤ 4 * 3:=Nat.mul_le_mul hcl.2 (by omega)
        rw [hL,show (p.Classes.length:Int) * (L:Int)=((p.Classes.length * L:Nat):Int) by rw [Int.natCast_mul],w64_in (by omega) (by omega)]
        exact ⟨rfl,by omega⟩
      have fin:∀ (lg:List T_relay_Leg) (d6:T_klisterkit_Deck),DeckOK d6 (N + 20 + 400 * ((k + 1:Nat):Int))→lg.length ≤ p.Classes.length→(∀ q,q + 1 < lg.length→((gd lg q).Loops.length:Int)=p.Laps)→(∀ l ∈ lg,GoodL p ⟨9 * (k:Int) + b,cl,lg⟩ l) →
          ∃ s',((app 56 tm [(⟨w64 ((w64 (9 * (↑k:Int))) + b),cl,lg⟩:T_relay_Team)]).bind fun x951=>some (d6.bytes,d6.next,d6.state,x951))=some s'∧DeckOK ⟨s'.1,s'.2.1,s'.2.2.1⟩ (N + 20 + 400 * ((k + 1:Nat):Int))∧s'.2.2.2.length=k + 1∧(∀ t ∈ s'.2.2.2,GoodT p t)∧(s'.2.2.2.map (·.Bib)).Nodup∧∀ t ∈ s'.2.2.2,t.Bib ≤ 9 * ((k + 1:Nat):Int):=by
        intro lg d6 hd hlen hfull hgood
        rw [w64_in (x:=9 * (k:Int)) (by omega) (by omega),w64_in (by omega) (by omega),app_ok (by simp;omega),Option.bind_some]
        refine ⟨_,rfl,hd,by simp [i2],fun t ht=>?_,?_,fun t ht=>?_⟩
        · rcases List.mem_append.1 ht with ht | ht
          · exact i3 t ht
          · simp only [List.mem_cons,List.not_mem_nil,or_false] at ht
            subst ht
            exact ⟨by simp only;omega,by simp only;omega,y9,hlen,hfull,hgood⟩
        · simp only [List.map_append,List.map_cons,List.map_nil]
          rw [List.nodup_append]
          refine ⟨i4,by simp,fun a ha c hc=>?_⟩
          obtain ⟨t,ht,rfl⟩:=List.mem_map.1 ha
          simp only [List.mem_cons,List.not_mem_nil,or_false] at hc
          have:=i5 t ht
          omega
        · rcases List.mem_append.1 ht with ht | ht
          · have:=i5 t ht
            omega
          · simp only [List.mem_cons,List.not_mem_nil,or_false] at ht
            subst ht
            simp only
            omega
      cases coin with
      | true =>
        rw [if_pos rfl,hCL.1,w64_in (by omega) (by omega)]
        obtain ⟨td,f6,q6,z5,t0,t1⟩:=draw_d z4 (by omega) (((p.Classes.length * L:Nat):Int) + 1)
        rw [q6,Option.bind_some];simp only
        obtain ⟨T,rfl⟩:∃ T:Nat,td=T:=⟨td.toNat,by omega⟩
        obtain ⟨⟨wB,wx,ws,lg⟩,q7,w1,w2,w3,w4⟩:=legs_made (p:=p) (C:=p.Classes.length) hL (by omega) (by omega) hcl.2 (pace:=pace) ⟨z2,z3⟩ (t:=⟨9 * (k:Int) + b,cl,[]⟩) (n:=nn) y8 (by omega) z5 (by omega) (T:=T) (by omega)
        rw [q7,Option.bind_some];simp only at w1 w2 w3 w4 ⊢
        exact fin lg ⟨wB,wx,ws⟩ ⟨w1.1,by have:=w1.2;simp only at this ⊢;omega⟩ w2 w3 fun l hl=>⟨(w4 l hl).le,(w4 l hl).bouts,(w4 l hl).loops,(w4 l hl).skier,(w4 l hl).ok⟩
      | false =>
        rw [if_neg (by decide),hCL.1]
        obtain ⟨⟨wB,wx,ws,lg⟩,q7,w1,w2,w3,w4⟩:=legs_made (p:=p) (C:=p.Classes.length) hL (by omega) (by omega) hcl.2 (pace:=pace) ⟨z2,z3⟩ (t:=⟨9 * (k:Int) + b,cl,[]⟩) (n:=nn) y8 (by omega) z4 (by omega) (T:=p.Classes.length * L) (Nat.le_refl _)
        rw [q7,Option.bind_some];simp only at w1 w2 w3 w4 ⊢
        exact fin lg ⟨wB,wx,ws⟩ ⟨w1.1,by have:=w1.2;simp only at this ⊢;omega⟩ w2 w3 fun l hl=>⟨(w4 l hl).le,(w4 l hl).bouts,(w4 l hl).loops,(w4 l hl).skier,(w4 l hl).ok⟩)
  obtain ⟨sB,sx,ss,tm⟩:=s'
  rw [e,Option.bind_some];simp only at i1 i2 i3 i4 i5 ⊢
  exact ⟨_,_,rfl,⟨gp,by simp only;omega,by simp only;omega,i3,i4⟩,hl3,by simp only;omega⟩
end Go.Proofs.YtjfffcjjlnmneaaGreat
namespace Go.Proofs.YtjfffcjjlnmneaaGreat
open Go.KL
theorem gd_app_r {α:Type} [Inhabited α] (a b:List α) {q:Nat} (h:q < b.length):gd (a ++ b) (a.length + q)=gd b q:=by
  have h1:=gd_at (xs:=a ++ b) (k:=a.length + q) (by rw [List.length_append];omega)
  rw [List.getElem?_append_right (by omega),show a.length + q - a.length=q by omega,gd_at h] at h1
  exact (Option.some.inj h1).symm
theorem gd_range {n k:Nat} (f:Nat→Int) (h:k < n):gd ((List.range n).map f) k=f k:=by
  have h1:=gd_at (xs:=(List.range n).map f) (k:=k) (by simpa using h)
  rw [List.getElem?_map,List.getElem?_range h] at h1
  exact (Option.some.inj h1).symm
theorem fold_ok (v:Int) {n:Nat} (h:1 ≤ n) (h2:n ≤ 1000):∃ x:Nat,m_klisterkit_Fold v (n:Int)=some (x:Int)∧x < n:=by
  unfold m_klisterkit_Fold rem
  rw [if_neg (by omega),if_neg (by omega),Option.bind_some,if_neg (by omega),Option.bind_some]
  have hb:-(n:Int) < v.tmod n∧v.tmod n < n:=by
    rcases Int.le_total 0 v with hv | hv
    · rw [Int.tmod_eq_emod_of_nonneg hv]
      have:=Int.emod_nonneg v (show (n:Int) ≠ 0 by omega)
      have:=Int.emod_lt_of_pos v (show (0:Int) < n by omega)
      omega
    · obtain ⟨u,rfl⟩:∃ u,v=-u:=⟨-v,by omega⟩
      rw [Int.neg_tmod,Int.tmod_eq_emod_of_nonneg (by omega)]
      have:=Int.emod_nonneg u (show (n:Int) ≠ 0 by omega)
      have:=Int.emod_lt_of_pos u (show (0:Int) < n by omega)
      omega
  rw [w64_in (by omega) (by omega),Int.tmod_eq_emod_of_nonneg (by omega)]
  have h3:=Int.emod_nonneg (v.tmod n + n) (show (n:Int) ≠ 0 by omega)
  have h4:=Int.emod_lt_of_pos (v.tmod n + n) (show (0:Int) < n by omega)
  exact ⟨((v.tmod n + n) % n).toNat,by rw [Int.toNat_of_nonneg h3],by omega⟩
theorem start_in_true {n lo hi:Int} (h1:lo ≤ n) (h2:n ≤ hi):m_start_in n lo hi=some true:=by
  unfold m_start_in
  rw [if_pos h1]
  simp [h2]
theorem all_rows {l:List (List Int)} {f:List Int→Option Bool} (hn:l.length ≤ 1000) (h:∀ a ∈ l,f a=some true):m_start_all_int l f=some true:=by
  unfold m_start_all_int
  rw [forR_unit (by omega) fun k hk=>?_]
  · rfl
  · rw [idx_gd' hk,Option.bind_some,h _ (gd_mem' hk)]
    rfl
theorem all_ints {l:List Int} {f:Int→Option Bool} (hn:l.length ≤ 1000) (h:∀ a ∈ l,f a=some true):m_start_all_int_122 l f=some true:=by
  unfold m_start_all_int_122
  rw [forR_unit (by omega) fun k hk=>?_]
  · rfl
  · rw [idx_gd' hk,Option.bind_some,h _ (gd_mem' hk)]
    rfl
theorem mgetD_new {l:List (Int × Bool)} {x:Int} (h:∀ q ∈ l,q.1 ≠ x):mgetD l x false=false:=by
  unfold mgetD
  induction l with
  | nil=>rfl
  | cons a l ih =>
    obtain ⟨y,u⟩:=a
    have:=h (y,u) (by simp)
    rw [mget,if_neg (fun e=>this e.symm)]
    exact ih fun q hq=>h q (by simp [hq])
theorem twice_no {l:List Int} (hn:l.length ≤ 1000) (h:l.Nodup):m_start_twice l=some false:=by
  unfold m_start_twice
  rw [forR_fun (fun k=>(l.take k).map fun b=>(b,true)) (s0:=[]) rfl (by omega) fun k hk=>?_]
  · rfl
  · have hne:∀ q ∈ (l.take k).map (fun b=>(b,true)),q.1 ≠ gd l k:=fun q hq=>by
      obtain ⟨b,hb,rfl⟩:=List.mem_map.1 hq
      exact nodup_take h hk b hb
    rw [idx_gd' hk,Option.bind_some,mgetD_new hne,if_neg (by decide),mput_new hne,take_gd hk,List.map_append]
    rfl
theorem tAt_mono {p:T_relay_Rules} (gp:GoodP p) {t:T_relay_Team} {l:T_relay_Leg} (g:GoodL p t l) (x:Int) {i:Nat}:∀ (j:Nat),i < j→j ≤ l.Loops.length→tAt p l x i < tAt p l x j
  | 0,h,_=>by omega
  | j + 1,h,hj=>by
    have h1:=tAt_step gp g x (k:=j) (by omega)
    rcases Nat.lt_or_ge i j with hi | hi
    · have:=tAt_mono gp g x j hi (by omega)
      omega
    · have:i=j:=by omega
      subst this
      omega
theorem legL_pw {p:T_relay_Rules} (gp:GoodP p) {t:T_relay_Team} {l:T_relay_Leg} (g:GoodL p t l) (x:Int):(legL p l x).Pairwise (· < ·)∧∀ a ∈ legL p l x,x < a∧a ≤ legE p l x:=by
  unfold legL
  refine ⟨?_,fun a ha=>?_⟩
  · rw [List.pairwise_map]
    refine List.Pairwise.imp_of_mem ?_ List.pairwise_lt_range
    intro i j hi hj hij
    exact tAt_mono gp g x _ (by omega) (by have:=List.mem_range.1 hj;omega)
  · obtain ⟨i,hi,rfl⟩:=List.mem_map.1 ha
    have hi:=List.mem_range.1 hi
    have:=tAt_mono gp g x (i:=0) (i + 1) (by omega) (by omega)
    refine ⟨this,?_⟩
    unfold legE
    rcases Nat.lt_or_ge (i + 1) l.Loops.length with h | h
    · have:=tAt_mono gp g x (i:=i + 1) l.Loops.length h (Nat.le_refl _)
      omega
    · have:i + 1=l.Loops.length:=by omega
      rw [this]
      exact Int.le_refl _
theorem teamL_pw {p:T_relay_Rules} (gp:GoodP p) {t:T_relay_Team}:∀ (l:List T_relay_Leg) (x:Int),(∀ a ∈ l,GoodL p t a)→(teamL p l x).Pairwise (· < ·)∧∀ a ∈ teamL p l x,x < a∧a ≤ x + 69000 * (l.length:Int)
  | [],x,_=>by simp [teamL]
  | b :: l,x,h=>by
    obtain ⟨h1,h2⟩:=legL_pw gp (h b (by simp)) x
    obtain ⟨h3,h4⟩:=teamL_pw gp l (legE p b x) fun c hc=>h c (by simp [hc])
    have h5:=legE_range gp (h b (by simp)) x
    rw [teamL]
    refine ⟨List.pairwise_append.2 ⟨h1,h3,fun a ha c hc=>?_⟩,fun a ha=>?_⟩
    · have:=(h2 a ha).2
      have:=(h4 c hc).1
      omega
    · simp only [List.length_cons]
      rcases List.mem_append.1 ha with ha | ha
      · have:=h2 a ha
        omega
      · have:=h4 a ha
        omega
theorem teamL_len2 {p:T_relay_Rules} {L:Nat} (hL:p.Laps=L) {t:T_relay_Team}:∀ (l:List T_relay_Leg) (x:Int),(∀ a ∈ l,GoodL p t a)→(teamL p l x).length ≤ l.length * L
  | [],x,_=>by simp [teamL]
  | a :: l,x,h=>by
    have h1:=(h a (by simp)).le
    have h2:=teamL_len2 hL l (legE p a x) fun b hb=>h b (by simp [hb])
    rw [teamL,List.length_append,List.length_cons,Nat.add_mul]
    simp only [legL,List.length_map,List.length_range]
    omega
theorem raced_ok {r:T_relay_Race} (g:GoodR r):m_start_CheckRace (lapsR r)=some 0:=by
  unfold m_start_CheckRace
  have h1:=g.rules.n;have h2:=g.rules.laps;have h3:=g.n;have h4:=g.start
  obtain ⟨L,hL⟩:∃ L:Nat,r.Rules.Laps=L:=⟨r.Rules.Laps.toNat,by omega⟩
  have hm:(lapsR r).Laps=((r.Rules.Classes.length * L:Nat):Int):=by
    show (r.Rules.Classes.length:Int) * r.Rules.Laps=_
    rw [hL,Int.natCast_mul]
  have hlo:1 ≤ r.Rules.Classes.length * L:=Nat.mul_pos (by omega) (by omega)
  have hhi:r.Rules.Classes.length * L ≤ 20:=Nat.le_trans (Nat.mul_le_mul h1.2 (show L ≤ 5 by omega)) (by omega)
  have hb:(lapsR r).Bibs.length=r.Teams.length:=by simp [lapsR]
  have ht:(lapsR r).Times.length=r.Teams.length:=by simp [lapsR,after]
  have hmem:∀ X ∈ (lapsR r).Times,∃ t ∈ r.Teams,X=teamL r.Rules t.Legs r.Start:=fun X hX=>by
    obtain ⟨t,h,rfl⟩:=List.mem_map.1 hX
    exact ⟨t,h,rfl⟩
  have hX20:∀ X ∈ (lapsR r).Times,X.length ≤ r.Rules.Classes.length * L:=fun X hX=>by
    obtain ⟨t,h,rfl⟩:=hmem X hX
    have gt:=g.team t h
    exact Nat.le_trans (teamL_len2 hL t.Legs r.Start gt.leg) (Nat.mul_le_mul_right _ gt.legs)
  rw [start_in_true (by omega) (by omega),Option.bind_some,if_pos rfl,if_neg (by omega),if_pos (by omega),all_rows (by omega) fun X hX=>?_,Option.bind_some,if_pos rfl,all_ints (by omega) fun b hb=>?_,Option.bind_some,if_pos rfl,all_rows (by omega) fun X hX=>?_,Option.bind_some,if_pos rfl,twice_no (l:=(lapsR r).Bibs) (by omega) g.bibs,Option.bind_some,if_neg (by decide),forR_unit (by omega) fun k hk=>?_]
  · rfl
  · have hXm:=gd_mem' hk
    rw [idx_gd' hk,Option.bind_some]
    have hl:=hX20 _ hXm
    obtain ⟨t,h,e⟩:=hmem _ hXm
    have hpw:=(teamL_pw g.rules t.Legs r.Start (g.team t h).leg).1
    rw [← e] at hpw
    generalize gd (lapsR r).Times k=X at hl hpw
    have hle:((X.length:Int) - 1).toNat ≤ 9223372036854775807:=by omega
    have key:forR 1 (X.length:Int) (fun k132 (_:Unit) =>
                    (idx X (1 + ↑k132:Int)).bind fun x155 =>
                    (idx X (w64 ((1 + ↑k132:Int) - 1))).bind fun x163 =>
                    if x155 ≤ x163 then
                      esc (esc (some 4))
                    else
                      (some (.inl ()):Option (Unit ⊕ (Unit ⊕ Int)))) ()=some (.inl ()):=by
      unfold forR
      rw [if_pos (by omega)]
      have:=forN_fun (S:=Unit) (B:=Unit ⊕ Int) (body:=fun k132 (_:Unit) =>
                    (idx X (1 + ↑k132:Int)).bind fun x155 =>
                    (idx X (w64 ((1 + ↑k132:Int) - 1))).bind fun x163 =>
                    if x155 ≤ x163 then
                      esc (esc (some 4))
                    else
                      some (.inl ())) (fun _=>()) ((X.length:Int) - 1).toNat 0 fun j _ hj=>by
        have e1:(1 + (j:Int))=((j + 1:Nat):Int):=by omega
        rw [w64_in (by omega) (by omega),e1,show ((j + 1:Nat):Int) - 1=(j:Int) by omega,idx_gd' (by omega),Option.bind_some,idx_gd' (by omega),Option.bind_some,if_neg]
        have:=List.pairwise_iff_getElem.1 hpw j (j + 1) (by omega) (by omega) (by omega)
        have a1:=gd_at (xs:=X) (k:=j) (by omega)
        have a2:=gd_at (xs:=X) (k:=j + 1) (by omega)
        rw [List.getElem?_eq_getElem (by omega)] at a1 a2
        rw [← Option.some.inj a1,← Option.some.inj a2]
        omega
      exact this
    rw [key]
    rfl
  · have:=hX20 X hX
    obtain ⟨t,h,rfl⟩:=hmem X hX
    have gt:=g.team t h
    have hr:=(teamL_pw g.rules t.Legs r.Start gt.leg).2
    have hlegs:=gt.legs
    unfold m_start_CheckRace_3
    rw [all_ints (by omega) fun a ha=>?_]
    · rfl
    · unfold m_start_CheckRace_3_1
      have:=hr a ha
      rw [start_in_true (by omega) (by omega)]
      rfl
  · obtain ⟨t,h,rfl⟩:=List.mem_map.1 hb
    have gt:=(g.team t h).bib
    unfold m_start_CheckRace_2
    rw [start_in_true gt.1 gt.2]
    rfl
  · have:=hX20 X hX
    unfold m_start_CheckRace_1
    rw [hm]
    simp only [Option.some.injEq,decide_eq_true_eq]
    omega
theorem laps_loop {B1 B2:Type} {r:T_relay_Race} (g:GoodR r) {i:Nat} (hi:i < r.Teams.length) {t:T_relay_Team} {l:T_relay_Leg} (gl:GoodL r.Rules t l) {T0 R:List Int} {now:Int} (hnow:0 ≤ now∧now ≤ 1000000) (hX:gd (after r) i=T0 ++ (legL r.Rules l now ++ R)) (hT0:T0.length ≤ 1000) :
    forR 0 (↑l.Loops.length:Int) (fun k343 (x341,x342) =>
                          (idx l.Loops (↑k343:Int)).bind fun x380 =>
                          if 0 < (↑k343:Int) then
                            (idx l.Bouts (w64 ((↑k343:Int) - 1))).bind fun x390 =>
                            (m_relay_Shot x390).bind fun (x403,x404) =>
                            if x404=0 then
                              if x403.Spares=(w64 ((↑x390.length:Int) - 5)) then
                                if x403.Loops < 0 then
                                  esc (esc (esc (some false)))
                                else
                                  if 5 < x403.Loops then
                                    esc (esc (esc (some false)))
                                  else
                                    (idx (lapsR r).Times (↑i:Int)).bind fun x510 =>
                                    if (↑x510.length:Int) ≤ x342 then
                                      esc (esc (esc (some false)))
                                    else
                                      (idx x510 x342).bind fun x550 =>
                                      if x550=(w64 ((w64 (x341 + x380)) + (w64 ((w64 (x403.Spares * r.Rules.Spare)) + (w64 (x403.Loops * r.Rules.Loop)))))) then
                                        some (.inl (w64 ((w64 (x341 + x380)) + (w64 ((w64 (x403.Spares * r.Rules.Spare)) + (w64 (x403.Loops * r.Rules.Loop))))),w64 (x342 + 1)))
                                      else
                                        esc (esc (esc (some false)))
                              else
                                esc (esc (esc (some false)))
                            else
                              esc (esc (esc (some false)))
                          else
                            (idx (lapsR r).Times (↑i:Int)).bind fun x592 =>
                            if (↑x592.length:Int) ≤ x342 then
                              esc (esc (esc (some false)))
                            else
                              (idx x592 x342).bind fun x631 =>
                              if x631=(w64 (x341 + x380)) then
                                some (.inl (w64 (x341 + x380),w64 (x342 + 1)))
                              else
                                esc (esc (esc (some false)))) (now,(T0.length:Int))=(some (.inl (legE r.Rules l now,((T0 ++ legL r.Rules l now).length:Int))):Option ((Int × Int) ⊕ (B1 ⊕ (B2 ⊕ Bool)))):=by
  have hlap:=g.rules.laps;have hle:=gl.le
  have hlen:(legL r.Rules l now).length=l.Loops.length:=by simp [legL]
  rw [forR_fun (S:=Int × Int) (n:=l.Loops.length) (fun q=>(tAt r.Rules l now q,((T0.length + q:Nat):Int))) (s0:=(now,(T0.length:Int))) rfl (by omega) fun q hq=>?_]
  · rw [List.length_append,hlen]
    rfl
  · obtain ⟨l1,l2⟩:=tAt_lap g.rules gl hnow hq
    have hti:idx (lapsR r).Times (i:Int)=some (gd (after r) i):=idx_gd' (by simpa [lapsR,after] using hi)
    have hXl:(gd (after r) i).length=T0.length + (l.Loops.length + R.length):=by rw [hX];simp [hlen]
    have hg:gd (gd (after r) i) (T0.length + q)=tAt r.Rules l now (q + 1):=by
      rw [hX,gd_app_r _ _ (by simp [hlen];omega),gd_app_l (by omega)]
      exact gd_range _ hq
    simp only
    rw [idx_gd' hq,Option.bind_some]
    by_cases h0:0 < q
    · obtain ⟨e1,e2,e3⟩:=l1 h0
      have hn:=hitsN_le (gd l.Bouts (q - 1))
      obtain ⟨b1,b2,_⟩:=id e2
      rw [if_pos (by omega),e1,Option.bind_some,shot_ok e2]
      simp only [Option.bind_some]
      rw [if_pos trivial,w64_in (x:=((gd l.Bouts (q - 1)).length:Int) - 5) (by omega) (by omega),if_pos rfl,if_neg (by omega),if_neg (by omega),hti,Option.bind_some,if_neg (by omega),idx_gd' (by omega),Option.bind_some,hg,e3,if_pos rfl,w64_in (by omega) (by omega)]
      rfl
    · rw [if_neg (by omega),hti,Option.bind_some,if_neg (by omega),idx_gd' (by omega),Option.bind_some,hg,l2 h0,if_pos rfl,w64_in (by omega) (by omega)]
      rfl
theorem legs_loop {r:T_relay_Race} (g:GoodR r) {i:Nat} (hi:i < r.Teams.length) {t:T_relay_Team} (ht:gd r.Teams i=t):∀ (m k:Nat) (now before:Int) (T0 E0 F0:List Int),k + m=t.Legs.length→Fulls r.Rules (t.Legs.drop k) →
    gd (after r) i=T0 ++ teamL r.Rules (t.Legs.drop k) now→gd (timesR r) i=E0 ++ ends r.Rules (t.Legs.drop k) now→gd (legsR r) i=F0 ++ diffs (ends r.Rules (t.Legs.drop k) now) before→E0.length=F0.length→0 ≤ now→now ≤ 36000 + 69000 * (k:Int)→0 ≤ before→before ≤ 1000000→T0.length ≤ 5 * k→E0.length ≤ k →
    ∃ now' before',forN (B:=Unit ⊕ Bool) (fun k277 (x273,x274,x275,x276) =>
                        (idx t.Legs (↑k277:Int)).bind fun x310 =>
                        jn (forR 0 (↑x310.Loops.length:Int) (fun k343 (x341,x342) =>
                          (idx x310.Loops (↑k343:Int)).bind fun x380 =>
                          if 0 < (↑k343:Int) then
                            (idx x310.Bouts (w64 ((↑k343:Int) - 1))).bind fun x390 =>
                            (m_relay_Shot x390).bind fun (x403,x404) =>
                            if x404=0 then
                              if x403.Spares=(w64 ((↑x390.length:Int) - 5)) then
                                if x403.Loops < 0 then
                                  esc (esc (esc (some false)))
                                else
                                  if 5 < x403.Loops then
                                    esc (esc (esc (some false)))
                                  else
                                    (idx (lapsR r).Times (↑i:Int)).bind fun x510 =>
                                    if (↑x510.length:Int) ≤ x342 then
                                      esc (esc (esc (some false)))
                                    else
                                      (idx x510 x342).bind fun x550 =>
                                      if x550=(w64 ((w64 (x341 + x380)) + (w64 ((w64 (x403.Spares * r.Rules.Spare)) + (w64 (x403.Loops * r.Rules.Loop)))))) then
                                        some (.inl (w64 ((w64 (x341 + x380)) + (w64 ((w64 (x403.Spares * r.Rules.Spare)) + (w64 (x403.Loops * r.Rules.Loop))))),w64 (x342 + 1)))
                                      else
                                        esc (esc (esc (some false)))
                              else
                                esc (esc (esc (some false)))
                            else
                              esc (esc (esc (some false)))
                          else
                            (idx (lapsR r).Times (↑i:Int)).bind fun x592 =>
                            if (↑x592.length:Int) ≤ x342 then
                              esc (esc (esc (some false)))
                            else
                              (idx x592 x342).bind fun x631 =>
                              if x631=(w64 (x341 + x380)) then
                                some (.inl (w64 (x341 + x380),w64 (x342 + 1)))
                              else
                                esc (esc (esc (some false)))) (x273,x274)) fun (y656,y657) =>
                        if (↑x310.Loops.length:Int) < r.Rules.Laps then
                          some (.inl (y656,y657,x275,x276))
                        else
                          (idx (timesR r) (↑i:Int)).bind fun x709 =>
                          if (↑x709.length:Int) ≤ x276 then
                            esc (esc (some false))
                          else
                            (idx (legsR r) (↑i:Int)).bind fun x734 =>
                            if (↑x734.length:Int) ≤ x276 then
                              esc (esc (some false))
                            else
                              (idx x709 x276).bind fun x767 =>
                              if x767=y656 then
                                (idx x734 x276).bind fun x785 =>
                                if x785=(w64 (y656 - x275)) then
                                  some (.inl (y656,y657,y656,w64 (x276 + 1)))
                                else
                                  esc (esc (some false))
                              else
                                esc (esc (some false))) m k (now,(T0.length:Int),before,(E0.length:Int))=some (.inl (now',((gd (after r) i).length:Int),before',((gd (timesR r) i).length:Int)))
  | 0,k,now,before,T0,E0,F0,hk,_,h1,h2,_,_,_,_,_,_,_,_=>by
    rw [List.drop_eq_nil_of_le (by omega)] at h1 h2
    rw [h1,h2]
    simp only [teamL,ends,List.append_nil]
    exact ⟨now,before,rfl⟩
  | m + 1,k,now,before,T0,E0,F0,hk,hf,h1,h2,h3,h4,n0,n1,b0,b1,t5,e5=>by
    have hlt:k < t.Legs.length:=by omega
    have gt:GoodT r.Rules t:=ht ▸ g.team _ (gd_mem' hi)
    have gl:=gt.leg _ (gd_mem' hlt)
    have hc:=g.rules.n;have hlg:=gt.legs;have hle:=gl.le;have hlap:=g.rules.laps
    have hr:=legE_range g.rules gl now
    rw [drop_gd hlt] at hf h1 h2 h3
    rw [teamL] at h1
    rw [ends] at h2 h3
    have hll:(legL r.Rules (gd t.Legs k) now).length=(gd t.Legs k).Loops.length:=by simp [legL]
    have hT:(T0 ++ legL r.Rules (gd t.Legs k) now).length ≤ 5 * (k + 1):=by rw [List.length_append,hll];omega
    rw [forN]
    simp only
    rw [idx_gd' hlt,Option.bind_some,laps_loop g hi gl ⟨n0,by omega⟩ h1 (by omega),jn_some_inl]
    simp only
    by_cases hfull:((gd t.Legs k).Loops.length:Int)=r.Rules.Laps
    · rw [if_pos hfull] at h2 h3
      rw [diffs] at h3
      have hti:idx (timesR r) (i:Int)=some (gd (timesR r) i):=idx_gd' (by simpa [timesR] using hi)
      have hli:idx (legsR r) (i:Int)=some (gd (legsR r) i):=idx_gd' (by simpa [legsR] using hi)
      have c1:(gd (timesR r) i).length=E0.length + ((ends r.Rules (t.Legs.drop (k + 1)) (legE r.Rules (gd t.Legs k) now)).length + 1):=by rw [h2];simp
      have c2:(gd (legsR r) i).length=F0.length + ((ends r.Rules (t.Legs.drop (k + 1)) (legE r.Rules (gd t.Legs k) now)).length + 1):=by rw [h3];simp [diffs_len]
      have g1:gd (gd (timesR r) i) E0.length=legE r.Rules (gd t.Legs k) now:=by rw [h2,gd_app_m]
      have g2:gd (gd (legsR r) i) E0.length=legE r.Rules (gd t.Legs k) now - before:=by rw [h3,h4,gd_app_m]
      rw [if_neg (by omega),hti,Option.bind_some,if_neg (by omega),hli,Option.bind_some,if_neg (by omega),idx_gd' (by omega),Option.bind_some,g1,if_pos rfl,idx_gd' (by omega),Option.bind_some,g2,w64_in (x:=legE r.Rules (gd t.Legs k) now - before) (by omega) (by omega),if_pos rfl,w64_in (x:=(E0.length:Int) + 1) (by omega) (by omega)]
      have:=legs_loop g hi ht m (k + 1) (legE r.Rules (gd t.Legs k) now) (legE r.Rules (gd t.Legs k) now) (T0 ++ legL r.Rules (gd t.Legs k) now) (E0 ++ [legE r.Rules (gd t.Legs k) now]) (F0 ++ [legE r.Rules (gd t.Legs k) now - before]) (by omega) hf.2 (by rw [h1,List.append_assoc]) (by rw [h2,List.append_assoc];rfl) (by rw [h3,List.append_assoc];rfl) (by simp [h4]) (by omega) (by omega) (by omega) (by omega) (by omega) (by simp;omega)
      rw [show ((E0 ++ [legE r.Rules (gd t.Legs k) now]).length:Int)=(E0.length:Int) + 1 by simp,hti,hli] at this
      exact this
    · rw [if_neg hfull] at h2 h3
      have hnil:t.Legs.drop (k + 1)=[]:=hf.1.resolve_left hfull
      rw [if_pos (by omega)]
      exact legs_loop g hi ht m (k + 1) (legE r.Rules (gd t.Legs k) now) before (T0 ++ legL r.Rules (gd t.Legs k) now) E0 F0 (by omega) hf.2 (by rw [h1,List.append_assoc]) h2 h3 h4 (by omega) (by omega) b0 b1 (by omega) (by omega)
end Go.Proofs.YtjfffcjjlnmneaaGreat
namespace Go.Proofs.YtjfffcjjlnmneaaGreat
open Go.KL
def cntT (T:List (List Int)) (x:Nat) (v:Int):Nat→Nat
  | 0=>0
  | m + 1=>cntT T x v m + if x < (gd T m).length∧gd (gd T m) x < v then 1 else 0
theorem cntT_le (T:List (List Int)) (x:Nat) (v:Int):∀ m,cntT T x v m ≤ m
  | 0=>Nat.le_refl _
  | m + 1=>by
    have:=cntT_le T x v m
    rw [cntT]
    split <;> omega
def plc (T:List (List Int)) (x:Nat) (k:Nat):Int:=if x < (gd T k).length then 1 + (cntT T x (gd (gd T k) x) T.length:Int) else 0
theorem cnt_loop {T:List (List Int)} {x:Nat} {X:List Int} (hX:x < X.length) (hn:T.length ≤ 1000) :
    forR' 0 (↑T.length:Int) (fun k1114 x1113 =>
      (idx T (↑k1114:Int)).bind fun x1148 =>
      if (x:Int) < (↑x1148.length:Int) then
        (idx x1148 (x:Int)).bind fun x1165 =>
        (idx X (x:Int)).bind fun x1172 =>
        if x1165 < x1172 then
          some (w64 (x1113 + 1))
        else
          some x1113
      else
        some x1113) 1=some (1 + (cntT T x (gd X x) T.length:Int)) :=
  forR'_fun (fun m=>1 + (cntT T x (gd X x) m:Int)) rfl (by omega) fun i hi=>by
    have hle:=cntT_le T x (gd X x) i
    rw [idx_gd' hi,Option.bind_some,cntT]
    by_cases h1:x < (gd T i).length
    · rw [if_pos (by omega),idx_gd' h1,Option.bind_some,idx_gd' hX,Option.bind_some]
      by_cases h2:gd (gd T i) x < gd X x
      · rw [if_pos h2,if_pos ⟨h1,h2⟩,w64_in (by omega) (by omega)]
        rfl
      · rw [if_neg h2,if_neg fun h=>h2 h.2]
        rfl
    · rw [if_neg (by omega),if_neg fun h=>h1 h.1]
      rfl
theorem set_gd {α:Type} [Inhabited α] {l:List α} {k:Nat} {x:α} (h:k < l.length):gd (l.set k x) k=x:=by
  rw [gd_put h h,if_pos rfl]
theorem places_is {r:T_relay_Race} (g:GoodR r) {x:Nat} (hx:x < r.Rules.Classes.length):m_relay_Places r (x:Int)=some ((List.range (timesR r).length).map (plc (timesR r) x),0):=by
  unfold m_relay_Places
  have hc:=g.rules.n;have hn:=g.n
  have hl:(timesR r).length=r.Teams.length:=by simp [timesR]
  rw [times_ok g,Option.bind_some];simp only
  rw [if_pos trivial,w64_in (by omega) (by omega),in_is,Option.bind_some,inB_true (by omega) (by omega),if_pos rfl]
  generalize hT:timesR r=T at hl
  have hz:mkz 8 (T.length:Int) (0:Int)=some (List.replicate T.length 0):=by
    unfold mkz
    rw [if_pos (by omega)]
    rfl
  rw [hz,Option.bind_some,forR'_fun (fun m=>(List.range T.length).map fun k=>if k < m then plc T x k else 0) (s0:=List.replicate T.length (0:Int)) ?_ (by omega) fun i hi=>?_]
  · rw [Option.bind_some]
    congr 2
    exact List.map_congr_left fun k hk=>by rw [if_pos (List.mem_range.1 hk)]
  · refine ext_gd (by simp) fun k hk=>?_
    have hk:k < T.length:=by simpa using hk
    rw [gd_range _ hk,if_neg (by omega),gd_is (by simpa using hk),List.getElem_replicate]
  · have hlen:∀ m:Nat,((List.range T.length).map fun k=>if k < m then plc T x k else 0).length=T.length:=fun m=>by simp
    have hset:∀ v,v=plc T x i→((List.range T.length).map fun k=>if k < i then plc T x k else 0).set i v=(List.range T.length).map fun k=>if k < i + 1 then plc T x k else 0:=fun v hv=>by
      refine ext_gd (by simp) fun k hk=>?_
      have hk:k < T.length:=by simpa using hk
      rw [gd_put (by simpa using hi) (by simpa using hk),gd_range _ hk,gd_range _ hk]
      by_cases h1:k=i
      · subst h1
        rw [if_pos rfl,if_pos (by omega),hv]
      · rw [if_neg h1]
        by_cases h2:k < i
        · rw [if_pos h2,if_pos (by omega)]
        · rw [if_neg h2,if_neg (by omega)]
    rw [idx_gd' hi,Option.bind_some]
    by_cases h1:x < (gd T i).length
    · rw [if_neg (by omega),chk_ok (by omega) (by rw [hlen];omega),Option.bind_some,forR'_fun (fun m=>((List.range T.length).map fun k=>if k < i then plc T x k else 0).set i (1 + (cntT T x (gd (gd T i) x) m:Int))) (s0:=((List.range T.length).map fun k=>if k < i then plc T x k else 0).set i 1) rfl (by omega) fun j hj=>?_]
      · rw [Option.bind_some,hset _ (by unfold plc;rw [if_pos h1])]
      · have hle:=cntT_le T x (gd (gd T i) x) j
        rw [idx_gd' hj,Option.bind_some,cntT]
        by_cases h2:x < (gd T j).length
        · rw [if_pos (by omega),idx_gd' h2,Option.bind_some,idx_gd' h1,Option.bind_some]
          by_cases h3:gd (gd T j) x < gd (gd T i) x
          · rw [if_pos h3,if_pos ⟨h2,h3⟩,chk_ok (by omega) (by rw [List.length_set,hlen];omega),Option.bind_some,set_gd (by simpa using hi),List.set_set,w64_in (by omega) (by omega)]
            rfl
          · rw [if_neg h3,if_neg fun h=>h3 h.2]
            rfl
        · rw [if_neg (by omega),if_neg fun h=>h2 h.1]
          rfl
    · rw [if_pos (by omega),← hset 0 (by unfold plc;rw [if_neg h1])]
      congr 1
      refine ext_gd (by simp) fun k hk=>?_
      have hk:k < T.length:=by simpa using hk
      rw [gd_put (by simpa using hi) (by simpa using hk),gd_range _ hk]
      by_cases e:k=i
      · subst e
        rw [if_neg (by omega),if_pos rfl]
      · rw [if_neg e]
def bestT (D:List (List Int)) (x:Nat):Nat→Int
  | 0=>360000
  | m + 1=>if x < (gd D m).length then min (bestT D x m) (gd (gd D m) x) else bestT D x m
theorem bestT_le (D:List (List Int)) (x:Nat):∀ m k,k < m→x < (gd D k).length→bestT D x m ≤ gd (gd D k) x
  | m + 1,k,h,hx=>by
    rw [bestT]
    by_cases e:k=m
    · subst e
      rw [if_pos hx]
      omega
    · have:=bestT_le D x m k (by omega) hx
      split <;> omega
theorem bestT_at (D:List (List Int)) (x:Nat):∀ m,bestT D x m=360000 ∨ ∃ k,k < m∧x < (gd D k).length∧gd (gd D k) x=bestT D x m
  | 0=>.inl rfl
  | m + 1=>by
    have ih:=bestT_at D x m
    rw [bestT]
    by_cases h:x < (gd D m).length
    · rw [if_pos h]
      rcases Int.le_total (bestT D x m) (gd (gd D m) x) with hle | hle
      · rw [Int.min_eq_left hle]
        rcases ih with ih | ⟨k,h1,h2,h3⟩
        · exact .inl ih
        · exact .inr ⟨k,by omega,h2,h3⟩
      · rw [Int.min_eq_right hle]
        exact .inr ⟨m,by omega,h,rfl⟩
    · rw [if_neg h]
      rcases ih with ih | ⟨k,h1,h2,h3⟩
      · exact .inl ih
      · exact .inr ⟨k,by omega,h2,h3⟩
def bibsT (D:List (List Int)) (x:Nat) (v:Int) (ts:List T_relay_Team):Nat→List Int
  | 0=>[]
  | m + 1=>if x < (gd D m).length∧gd (gd D m) x=v then bibsT D x v ts m ++ [(gd ts m).Bib] else bibsT D x v ts m
theorem bibsT_len (D:List (List Int)) (x:Nat) (v:Int) (ts:List T_relay_Team):∀ m,(bibsT D x v ts m).length ≤ m
  | 0=>Nat.le_refl _
  | m + 1=>by
    have:=bibsT_len D x v ts m
    rw [bibsT]
    split
    · simp;omega
    · omega
theorem bibsT_mem (D:List (List Int)) (x:Nat) (v:Int) (ts:List T_relay_Team) (b:Int):∀ m,b ∈ bibsT D x v ts m ↔ ∃ k,k < m∧x < (gd D k).length∧gd (gd D k) x=v∧(gd ts k).Bib=b
  | 0=>by simp [bibsT]
  | m + 1=>by
    have ih:=bibsT_mem D x v ts b m
    have h1:b ∈ bibsT D x v ts (m + 1) ↔ b ∈ bibsT D x v ts m ∨ (x < (gd D m).length∧gd (gd D m) x=v∧(gd ts m).Bib=b):=by
      rw [bibsT]
      split
      · rename_i h
        rw [List.mem_append,List.mem_singleton]
        constructor
        · rintro (h3 | h3)
          · exact .inl h3
          · exact .inr ⟨h.1,h.2,h3.symm⟩
        · rintro (h3 | h3)
          · exact .inl h3
          · exact .inr h3.2.2.symm
      · rename_i h
        constructor
        · exact .inl
        · rintro (h3 | h3)
          · exact h3
          · exact absurd ⟨h3.1,h3.2.1⟩ h
    rw [h1,ih]
    constructor
    · rintro (⟨k,h,q⟩ | q)
      · exact ⟨k,by omega,q⟩
      · exact ⟨m,by omega,q⟩
    · rintro ⟨k,h,q⟩
      by_cases e:k=m
      · subst e
        exact .inr q
      · exact .inl ⟨k,by omega,q⟩
def srt (l:List Int):List Int:=l.mergeSort fun x y=>decide (x ≤ y)
theorem fastest_is {r:T_relay_Race} (g:GoodR r) {x:Nat} (hx:x < r.Rules.Classes.length):m_relay_Fastest r (x:Int) =
    some (if (bibsT (legsR r) x (bestT (legsR r) x (legsR r).length) r.Teams (legsR r).length).length=0 then ([],0,6) else (srt (bibsT (legsR r) x (bestT (legsR r) x (legsR r).length) r.Teams (legsR r).length),bestT (legsR r) x (legsR r).length,0)):=by
  unfold m_relay_Fastest
  have hc:=g.rules.n;have hn:=g.n
  have hl:(legsR r).length=r.Teams.length:=by simp [legsR]
  rw [legs_is g,Option.bind_some];simp only
  rw [if_pos trivial,w64_in (by omega) (by omega),in_is,Option.bind_some,inB_true (by omega) (by omega),if_pos rfl]
  generalize legsR r=D at hl
  rw [forR'_fun (fun m=>bestT D x m) (s0:=360000) rfl (by omega) fun i hi=>?_]
  · rw [Option.bind_some,forR'_fun (fun m=>bibsT D x (bestT D x D.length) r.Teams m) (s0:=[]) rfl (by omega) fun i hi=>?_]
    · have hle:=bibsT_len D x (bestT D x D.length) r.Teams D.length
      rw [Option.bind_some]
      generalize bibsT D x (bestT D x D.length) r.Teams D.length=b at hle
      by_cases h:b.length=0
      · rw [if_pos (by omega),if_pos h]
      · rw [if_neg (by omega),if_neg h]
        unfold m_slices_Sort_int_int sortI
        rw [if_pos (by omega)]
        rfl
    · have hle:=bibsT_len D x (bestT D x D.length) r.Teams i
      rw [idx_gd' hi,Option.bind_some,bibsT]
      by_cases h1:x < (gd D i).length
      · rw [if_pos (by omega),idx_gd' h1,Option.bind_some]
        by_cases h2:gd (gd D i) x=bestT D x D.length
        · rw [if_pos h2,if_pos ⟨h1,h2⟩,idx_gd' (by omega),Option.bind_some,app_ok (by simp;omega)]
          rfl
        · rw [if_neg h2,if_neg fun h=>h2 h.2]
      · rw [if_neg (by omega),if_neg fun h=>h1 h.1]
  · rw [idx_gd' hi,Option.bind_some,bestT]
    by_cases h1:x < (gd D i).length
    · rw [if_pos (by omega),if_pos h1,idx_gd' h1,Option.bind_some]
    · rw [if_neg (by omega),if_neg h1]
theorem contains_is {l:List Int} (b:Int) (hn:l.length ≤ 1000):m_slices_Contains_int_int l b=some (decide (b ∈ l)):=by
  have key:∀ (m k:Nat),k + m=l.length→∃ q,jn (forN (B:=Int) (fun k2 _ =>
      (idx l (↑k2:Int)).bind fun x22 =>
      if b=x22 then
        esc (some (↑k2:Int))
      else
        some (.inl ())) m k ()) (fun _=>some (-1))=some q∧(0 ≤ q ↔ b ∈ l.drop k):=by
    intro m
    induction m with
    | zero=>intro k hk;exact ⟨-1,rfl,by rw [List.drop_eq_nil_of_le (by omega)];simp⟩
    | succ m ih =>
      intro k hk
      have hlt:k < l.length:=by omega
      rw [forN,drop_gd hlt,idx_gd' hlt,Option.bind_some]
      by_cases e:b=gd l k
      · rw [if_pos e]
        exact ⟨(k:Int),rfl,by simp [e]⟩
      · rw [if_neg e]
        obtain ⟨q,h1,h2⟩:=ih (k + 1) (by omega)
        exact ⟨q,h1,by rw [h2];simp [e]⟩
  unfold m_slices_Contains_int_int m_slices_Index_int_int
  obtain ⟨q,h1,h2⟩:=key l.length 0 (by omega)
  rw [forR_list (by omega),h1,Option.bind_some]
  rw [List.drop_zero] at h2
  simp [h2]
theorem diffs_range:∀ (l:List Int) (b lo hi:Int),lo ≤ b→b ≤ hi→(∀ e ∈ l,lo ≤ e∧e ≤ hi)→∀ d ∈ diffs l b,d ≤ hi - lo
  | [],_,_,_,_,_,_,d,hd=>by simp [diffs] at hd
  | a :: l,b,lo,hi,h1,h2,h,d,hd=>by
    have ha:=h a (by simp)
    rw [diffs] at hd
    rcases List.mem_cons.1 hd with rfl | hd
    · omega
    · exact diffs_range l a lo hi ha.1 ha.2 (fun e he=>h e (by simp [he])) d hd
theorem legs_lt {r:T_relay_Race} (g:GoodR r) {k x:Nat} (hk:k < (legsR r).length) (hx:x < (gd (legsR r) k).length):gd (gd (legsR r) k) x < 360000:=by
  have hk':k < r.Teams.length:=by simpa [legsR] using hk
  have gt:=g.team _ (gd_mem' hk')
  have hc:=g.rules.n;have hl:=gt.legs;have hs:=g.start
  have hr:=ends_range g.rules (gd r.Teams k).Legs r.Start gt.leg
  have e:gd (legsR r) k=diffs (ends r.Rules (gd r.Teams k).Legs r.Start) r.Start:=by
    unfold legsR
    rw [gd_map' _ hk']
  rw [e] at hx ⊢
  have:=diffs_range _ r.Start r.Start (r.Start + 69000 * ((gd r.Teams k).Legs.length:Int)) (by omega) (by omega) hr _ (gd_mem' hx)
  omega
theorem law_Exact (a:List Int) (leg:Int) (_:-9223372036854775808 ≤ leg) (_:leg ≤ 9223372036854775807):m_klisterlaw08_RelayExact a leg=some true:=by
  unfold m_klisterlaw08_RelayExact m_klisterkit_Of
  rw [Option.bind_some]
  obtain ⟨r,d,e1,g,_,_⟩:=made_ok (d:=⟨a,0,17⟩) (N:=0) ⟨by simp,by simp⟩ (by omega) (m:=8) (q:=4) (by omega) (by omega)
  rw [e1,Option.bind_some];simp only
  rw [laps_ok g,Option.bind_some];simp only
  rw [times_ok g,Option.bind_some];simp only
  rw [legs_is g,Option.bind_some];simp only
  have hn:=g.n;have hc:=g.rules.n;have hlap:=g.rules.laps;have hs:=g.start
  have lT:(timesR r).length=r.Teams.length:=by simp [timesR]
  have lD:(legsR r).length=r.Teams.length:=by simp [legsR]
  have lA:(lapsR r).Times.length=r.Teams.length:=by simp [lapsR,after]
  have lB:(lapsR r).Bibs.length=r.Teams.length:=by simp [lapsR]
  have hlen:∀ k,k < r.Teams.length→(gd (timesR r) k).length=(gd (legsR r) k).length:=fun k hk=>by
    unfold timesR legsR
    rw [gd_map' _ hk,gd_map' _ hk,diffs_len]
  have hL1:(lapsR r).Laps=w64 ((r.Rules.Classes.length:Int) * r.Rules.Laps):=by
    obtain ⟨L,hL⟩:∃ L:Nat,r.Rules.Laps=L:=⟨r.Rules.Laps.toNat,by omega⟩
    have hm:(r.Rules.Classes.length:Int) * r.Rules.Laps=((r.Rules.Classes.length * L:Nat):Int):=by rw [hL,Int.natCast_mul]
    have hhi:r.Rules.Classes.length * L ≤ 20:=Nat.le_trans (Nat.mul_le_mul hc.2 (show L ≤ 5 by omega)) (by omega)
    rw [w64_in (by omega) (by omega)]
    rfl
  rw [if_pos trivial,if_pos trivial,if_pos trivial,check_ok g,Option.bind_some,if_pos rfl,if_pos (by omega),if_pos (by omega),if_pos (by omega),if_pos hL1,raced_ok g,Option.bind_some,if_pos rfl,forR_unit (by omega) fun i hi=>?_]
  · rw [jn_some_inl]
    obtain ⟨x,e2,hx⟩:=fold_ok leg (n:=r.Rules.Classes.length) (by omega) (by omega)
    rw [e2,Option.bind_some,places_is g hx,Option.bind_some];simp only
    rw [fastest_is g hx,Option.bind_some]
    have hbest:=bestT_le (legsR r) x (legsR r).length
    have hat:=bestT_at (legsR r) x (legsR r).length
    have hmem:=bibsT_mem (legsR r) x (bestT (legsR r) x (legsR r).length) r.Teams
    have hbl:=bibsT_len (legsR r) x (bestT (legsR r) x (legsR r).length) r.Teams (legsR r).length
    generalize bestT (legsR r) x (legsR r).length=v at hbest hat hmem hbl
    have hmem:=fun b=>hmem b (legsR r).length
    generalize bibsT (legsR r) x v r.Teams (legsR r).length=bs at hmem hbl
    have hpl:∀ k,k < r.Teams.length→gd ((List.range (timesR r).length).map (plc (timesR r) x)) k=plc (timesR r) x k:=fun k hk=>gd_range _ (by omega)
    have hpn:((List.range (timesR r).length).map (plc (timesR r) x)).length=r.Teams.length:=by simp [lT]
    generalize (List.range (timesR r).length).map (plc (timesR r) x)=ps at hpl hpn
    by_cases hb:bs.length=0
    · rw [if_pos hb]
      simp only
      rw [if_pos trivial,if_pos (by omega),if_neg (by omega),Option.bind_some,if_neg (by simp),forR_unit (by omega) fun i hi=>?_]
      · rfl
      · have hi:i < r.Teams.length:=by omega
        have hno:¬ x < (gd (timesR r) i).length:=fun h=>by
          have h':=hlen i hi ▸ h
          have:=hbest i (by omega) h'
          have hlt:=legs_lt g (k:=i) (by omega) h'
          rcases hat with hat | ⟨k,h1,h2,h3⟩
          · omega
          · have:=(hmem ((gd r.Teams k).Bib)).2 ⟨k,h1,h2,h3,rfl⟩
            rw [List.length_eq_zero_iff.1 hb] at this
            cases this
        rw [idx_gd' (by omega),Option.bind_some,if_neg (by omega),chk_ok (by omega) (by omega),Option.bind_some,hpl i hi,plc,if_neg hno,if_pos rfl]
    · rw [if_neg hb]
      simp only
      rw [if_pos trivial,if_pos (by omega),if_pos trivial,Option.bind_some,if_neg (by decide),forR_unit (by omega) fun i hi=>?_]
      · rfl
      · have hi:i < r.Teams.length:=by omega
        rw [idx_gd' (by omega),Option.bind_some]
        by_cases h:x < (gd (timesR r) i).length
        · have h':=hlen i hi ▸ h
          have hle:=hbest i (by omega) h'
          rw [if_pos (by omega),cnt_loop h (by omega),Option.bind_some,if_pos trivial,idx_gd' (by omega),Option.bind_some,idx_gd' h',Option.bind_some,if_neg (by omega),idx_gd' hi,Option.bind_some,contains_is _ (by unfold srt;rw [List.length_mergeSort];omega),Option.bind_some,if_pos,chk_ok (by omega) (by omega),Option.bind_some,hpl i hi,plc,if_pos h,if_pos rfl]
          have:(gd r.Teams i).Bib ∈ srt bs ↔ gd (gd (legsR r) i) x=v:=by
            unfold srt
            rw [List.mem_mergeSort,hmem]
            constructor
            · rintro ⟨k,h1,h2,h3,h4⟩
              have hk:k < r.Teams.length:=by omega
              have e:k=i:=by
                have hb1:=gd_map' (·.Bib) (l:=r.Teams) hk
                have hb2:=gd_map' (·.Bib) (l:=r.Teams) hi
                rw [gd_is (by simpa using hk)] at hb1
                rw [gd_is (by simpa using hi)] at hb2
                exact (List.getElem_inj g.bibs).1 (hb1.trans (h4.trans hb2.symm))
              exact e ▸ h3
            · exact fun h3=>⟨i,by omega,h',h3,rfl⟩
          simp [this]
        · rw [if_neg (by omega),chk_ok (by omega) (by omega),Option.bind_some,hpl i hi,plc,if_neg h,if_pos rfl]
  · rw [idx_gd' hi,Option.bind_some]
    have gt:=g.team _ (gd_mem' hi)
    have hle:=gt.legs
    have hf:=fulls_of gt.full
    obtain ⟨n',b',h⟩:=legs_loop g hi rfl (gd r.Teams i).Legs.length 0 r.Start r.Start [] [] [] (by omega) (by rw [List.drop_zero];exact hf) (by rw [List.drop_zero];unfold after;rw [gd_map' _ hi];rfl) (by rw [List.drop_zero];unfold timesR;rw [gd_map' _ hi];rfl) (by rw [List.drop_zero];unfold legsR;rw [gd_map' _ hi];rfl) rfl (by omega) (by omega) (by omega) (by omega) (by simp) (by simp)
    rw [forR_list (by omega)]
    have h:forN _ _ 0 (r.Start,(0:Int),r.Start,(0:Int))=_:=h
    rw [h,jn_some_inl]
    simp only
    have ht:=hlen i hi
    have hA:gd (lapsR r).Times i=gd (after r) i:=rfl
    rw [idx_gd' (l:=(lapsR r).Times) (by omega),Option.bind_some,hA,if_pos rfl,idx_gd' (l:=timesR r) (by omega),Option.bind_some,if_pos rfl,idx_gd' (l:=legsR r) (by omega),Option.bind_some,if_pos (by omega),idx_gd' (l:=(lapsR r).Bibs) (by omega),Option.bind_some,if_pos]
    unfold lapsR
    rw [gd_map' _ hi]
end Go.Proofs.YtjfffcjjlnmneaaGreat
