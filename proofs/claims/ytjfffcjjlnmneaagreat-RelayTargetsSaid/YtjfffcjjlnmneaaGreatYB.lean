/- Regions in which allocations may be done in any order: what is asked of the machine's order. -/
import Derived.Test.YtjfffcjjlnmneaaGreatXN
namespace Go.KX
open Go.RowKit Go.KL

/-- The slots among operands. -/
def slotsA : List AOd → List Pos
  | [] => []
  | .t p :: l => p :: slotsA l
  | .c _ :: l => slotsA l
def isAl : AOp → Bool
  | .new _ _ | .box _ _ | .mkm | .mks _ _ _ _ _ _ | .blds _ _ _ _ => true
  | _ => false
/-- The slots that an operation looks at: its operands, its guard. -/
def readsA (a : AO) : List Pos := slotsA (opsA a.op) ++ (match a.grd with | some (p, _) => [p] | none => [])
/-- The temporaries of the model's operation are slots of the machine's. -/
def Sub (a : AOp) (o : Oper) : Prop := ∀ t, Operand.tmp t ∈ o.op.operands → ∃ p ∈ slotsA (opsA a), p.nat - 1 = t
/-- Where all that an operation waits for is done, another one is. -/
def AncP (l : List Oper) (x i : Nat) : Prop := ∀ S : Nat → Bool, (∀ k, k < l.length → S k = true → ∀ j ∈ prI l k, S j = true) → (∀ j ∈ prI l i, S j = true) → S x = true

/-! ### Ancestors, as bits of a number -/
def maskOf (acc : List Nat) : List Nat → Nat
  | [] => 0
  | p :: ps => maskOf acc ps ||| (2 ^ p ||| acc.getD p 0)
def ancs (acc : List Nat) : List Oper → List Nat
  | [] => acc
  | o :: r => ancs (acc ++ [maskOf acc (preds o)]) r
theorem maskOf_bit {acc : List Nat} {x : Nat} : ∀ {ps : List Nat}, (maskOf acc ps).testBit x = true → ∃ p ∈ ps, x = p ∨ (acc.getD p 0).testBit x = true
  | [], h => by simp [maskOf] at h
  | p :: ps, h => by
    simp only [maskOf, Nat.testBit_or, Bool.or_eq_true, Nat.testBit_two_pow, decide_eq_true_eq] at h
    rcases h with h | h | h
    · obtain ⟨q, h1, h2⟩ := maskOf_bit h
      exact ⟨q, by simp [h1], h2⟩
    · exact ⟨p, by simp, .inl h.symm⟩
    · exact ⟨p, by simp, .inr h⟩
theorem ancs_ok {l : List Oper} (hpr : ∀ i, i < l.length → ∀ j ∈ prI l i, j < i) : ∀ (rest done : List Oper) (acc : List Nat), l = done ++ rest → acc.length = done.length → (∀ i x, (acc.getD i 0).testBit x = true → AncP l x i) →
    ∀ i x, ((ancs acc rest).getD i 0).testBit x = true → AncP l x i
  | [], done, acc, _, _, h, i, x, hx => h i x hx
  | o :: r, done, acc, hl, hlen, h, i, x, hx => by
    refine ancs_ok hpr r (done ++ [o]) (acc ++ [maskOf acc (preds o)]) (by rw [hl]; simp) (by simp [hlen]) ?_ i x hx
    intro i x hx
    rcases Nat.lt_trichotomy i acc.length with hi | hi | hi
    · rw [List.getD_eq_getElem?_getD, List.getElem?_append_left hi, ← List.getD_eq_getElem?_getD] at hx
      exact h i x hx
    · rw [List.getD_eq_getElem?_getD, hi, List.getElem?_append_right (Nat.le_refl _), Nat.sub_self] at hx
      have hx : (maskOf acc (preds o)).testBit x = true := hx
      have hlt : done.length < l.length := by rw [hl]; simp
      have hp : prI l done.length = preds o := by
        unfold prI
        rw [hl, List.getElem?_append_right (Nat.le_refl _), Nat.sub_self]
        rfl
      obtain ⟨p, h1, h2⟩ := maskOf_bit hx
      intro S hdc hS
      rw [hi, hlen] at hS
      have hSp : S p = true := hS p (by rw [hp]; exact h1)
      rcases h2 with rfl | h2
      · exact hSp
      · have := hpr _ hlt p (by rw [hp]; exact h1)
        exact h p x h2 S hdc (hdc p (by omega) hSp)
    · rw [List.getD_eq_getElem?_getD, List.getElem?_eq_none (by simp; omega)] at hx
      simp at hx

/-! ### The check -/
noncomputable def dne (b : AO) (p : Pos) : Bool := match b.dst with
  | none => true
  | some q => !Pos.beq q p
noncomputable def subB (a : AOp) (o : Oper) : Bool := o.op.operands.toList.all fun
  | .tmp t => (slotsA (opsA a)).any fun p => Nat.beq p.nat (t + 1)
  | _ => true
noncomputable def kdOK (a : AO) : Bool := fixedK a.kd || (a.dst.isSome && (Nat.beq a.kd 1 || (Nat.beq a.kd 3 || ((Nat.beq a.kd 6 && Nat.beq (kdA a.op) 3) || ((Nat.beq a.kd 4 && isAl a.op) || (Nat.ble 8 a.kd && Nat.beq (kdA a.op) 1))))))
noncomputable def zld (m kd : Nat) : Nat → List AO → Bool
  | _, [] => true
  | n, b :: d => (!Nat.beq b.kd 0 || (m.testBit b.ix || Nat.blt (n + 8) kd)) && zld m kd (match fixedK b.kd with | true => n + 1 | false => n) d
noncomputable def zop (m : Nat) (l : List Oper) (d : List AO) (a : AO) (t : List AO) : Bool :=
  (!fixedK a.kd || d.all fun b => m.testBit b.ix) &&
  ((match a.dst with | none => true | some p => d.all (fun b => dne b p) && t.all (fun b => dne b p)) &&
  ((readsA a).all (fun p => dne a p && (t.all (fun b => dne b p) && d.all (fun b => dne b p || (m.testBit b.ix && (!(Nat.beq a.kd 1 || (Nat.beq a.kd 3 || Nat.ble 8 a.kd)) || !(Nat.beq b.kd 4 || Nat.beq b.kd 6)))))) &&
  ((!Nat.beq a.kd 1 || d.all fun b => !Nat.beq b.kd 0 || m.testBit b.ix) && (!Nat.ble 8 a.kd || zld m a.kd 0 d) &&
  (t.all (fun b => !Nat.beq b.ix a.ix) &&
  (kdOK a && (match l[a.ix]? with | none => false | some o => !selects o && subB a.op o))))))
noncomputable def zgo (an : List Nat) (l : List Oper) (d : List AO) : List AO → Bool
  | [] => true
  | a :: t => zop (an.getD a.ix 0) l d a t && zgo an l (a :: d) t
/-- What ends a region: registers that are written at last. -/
def tailA (a : AO) : Bool := Nat.beq a.kd 0 && (match a.op with | .mv _ => true | _ => false)
def splA : List AO → List AO
  | [] => []
  | a :: t => match tailA a with
    | true => []
    | false => a :: splA t
def splB : List AO → List AO
  | [] => []
  | a :: t => match tailA a with
    | true => a :: t
    | false => splB t
theorem spl_eq : ∀ os : List AO, os = splA os ++ splB os
  | [] => rfl
  | a :: t => by
    unfold splA splB
    cases tailA a with
    | true => rfl
    | false => exact congrArg (a :: ·) (spl_eq t)
noncomputable def ztl (an : List Nat) (l : List Oper) (os : List AO) : Bool :=
  ((splB os).all (fun a => Nat.blt a.kd 8) && (splA os).all fun a => Nat.blt a.kd 8 || ((readsA a).all (fun p => (splB os).all fun b => dne b p) && (match a.dst with | some p => (splB os).all fun b => dne b p | none => true))) && (zgo an l [] (splA os) && (zgo an l [] (splB os) && (splB os).all fun b => (splA os).all fun a => !Nat.beq a.ix b.ix && (an.getD b.ix 0).testBit a.ix))
noncomputable def chkZ (l : List Oper) (os : List AO) : Bool :=
  (List.range l.length).all (fun i => (prI l i).all (Nat.blt · i)) && ((List.range l.length).all (fun i => os.any fun a => Nat.beq a.ix i) && (zgo (ancs [] l) l [] os || ztl (ancs [] l) l os))
/-- How many operations of a list are fixed. -/
def cntF (l : List AO) : Nat := l.countP fun b => fixedK b.kd
/-- What is asked of the machine's order. -/
structure ZOK (P : Program) (N : Nat) (l : List Oper) (os : List AO) : Prop where
  ao : ∀ a ∈ os, chkAO P N l a = true
  one : os.Pairwise fun a b => a.ix ≠ b.ix
  pr : ∀ i, i < l.length → ∀ j ∈ prI l i, j < i
  anc : ∀ s a t, os = s ++ a :: t → fixedK a.kd = true → ∀ b ∈ s, AncP l b.ix a.ix
  wr : ∀ s a t, os = s ++ a :: t → ∀ p, a.dst = some p → ∀ b ∈ s ++ t, b.dst ≠ some p
  rd : ∀ s a t, os = s ++ a :: t → ∀ p ∈ readsA a, ∀ b ∈ a :: t, b.dst ≠ some p
  rdS : ∀ a ∈ os, ∀ p ∈ readsA a, ∀ b ∈ os, b.dst = some p → AncP l b.ix a.ix
  kd : ∀ a ∈ os, fixedK a.kd = true ∨ (a.dst ≠ none ∧ (a.kd = 1 ∨ a.kd = 3 ∨ (a.kd = 6 ∧ kdA a.op = 3) ∨ (a.kd = 4 ∧ isAl a.op = true) ∨ (8 ≤ a.kd ∧ kdA a.op = 1)))
  cl : ∀ a ∈ os, a.kd = 1 ∨ a.kd = 3 ∨ 8 ≤ a.kd → ∀ p ∈ readsA a, ∀ b ∈ os, b.dst = some p → b.kd ≠ 4 ∧ b.kd ≠ 6
  sel : ∀ a ∈ os, ∀ o, l[a.ix]? = some o → selects o = false
  sub : ∀ a ∈ os, ∀ o, l[a.ix]? = some o → Sub a.op o
  ld : ∀ s a t, os = s ++ a :: t → a.kd = 1 → ∀ b ∈ s, b.kd = 0 → AncP l b.ix a.ix
  ld8 : ∀ s a t, os = s ++ a :: t → 8 ≤ a.kd → ∀ s1 b s2, s = s1 ++ b :: s2 → b.kd = 0 → AncP l b.ix a.ix ∨ cntF s2 + 8 < a.kd
theorem zld_at {m kd : Nat} : ∀ (x : List AO) (b : AO) (y : List AO) (n : Nat), zld m kd n (x ++ b :: y) = true → b.kd = 0 → m.testBit b.ix = true ∨ n + cntF x + 8 < kd
  | [], b, y, n, h, h0 => by
    rw [List.nil_append, zld, h0] at h
    simp only [Bool.and_eq_true, Bool.or_eq_true, Nat.blt_eq] at h
    rcases h.1 with g | g | g
    · exact absurd g (by decide)
    · exact .inl g
    · exact .inr g
  | c :: x, b, y, n, h, h0 => by
    rw [List.cons_append, zld] at h
    simp only [Bool.and_eq_true] at h
    have := zld_at x b y _ h.2 h0
    refine this.imp id fun h => ?_
    unfold cntF at h ⊢
    rw [List.countP_cons]
    cases hf : fixedK c.kd <;> rw [hf] at h <;> simp only [if_true, if_false, Bool.false_eq_true] at h ⊢ <;> omega
theorem Pos.beq_self : ∀ p : Pos, p.beq p = true
  | .H => rfl
  | .O p => Pos.beq_self p
  | .I p => Pos.beq_self p
theorem dne_ne {b : AO} {p : Pos} (h : dne b p = true) : b.dst ≠ some p := by
  intro e
  unfold dne at h
  rw [e] at h
  simp [Pos.beq_self] at h
theorem zgo_at {an : List Nat} {l : List Oper} : ∀ (os d : List AO), zgo an l d os = true → ∀ s a t, os = s ++ a :: t → zop (an.getD a.ix 0) l (s.reverse ++ d) a t = true
  | [], d, _, s, a, t, e => by simp at e
  | b :: os, d, h, [], a, t, e => by
    simp only [List.nil_append, List.cons.injEq] at e
    obtain ⟨rfl, rfl⟩ := e
    simp only [zgo, Bool.and_eq_true] at h
    exact h.1
  | b :: os, d, h, c :: s, a, t, e => by
    simp only [List.cons_append, List.cons.injEq] at e
    obtain ⟨rfl, rfl⟩ := e
    simp only [zgo, Bool.and_eq_true] at h
    have := zgo_at (s ++ a :: t) (b :: d) h.2 s a t rfl
    simpa using this
theorem pw_of {α : Type} {R : α → α → Prop} : ∀ (l : List α), (∀ s a t, l = s ++ a :: t → ∀ b ∈ t, R a b) → l.Pairwise R
  | [], _ => List.Pairwise.nil
  | a :: l, h => List.pairwise_cons.2 ⟨fun b hb => h [] a l rfl b hb, pw_of l fun s b t e => h (a :: s) b t (by rw [e]; rfl)⟩
theorem zok_of {P : Program} {N : Nat} {l : List Oper} {os : List AO} (hao : ∀ a ∈ os, chkAO P N l a = true) (hpr : ∀ i, i < l.length → ∀ j ∈ prI l i, j < i) (hz : zgo (ancs [] l) l [] os = true) : ZOK P N l os := by
  have han : ∀ i x, ((ancs [] l).getD i 0).testBit x = true → AncP l x i := ancs_ok hpr l [] [] rfl rfl fun i x h => by simp at h
  have key : ∀ s a t, os = s ++ a :: t → zop ((ancs [] l).getD a.ix 0) l s.reverse a t = true := fun s a t e => by
    have := zgo_at os [] hz s a t e
    rwa [List.append_nil] at this
  have key2 : ∀ s a t, os = s ++ a :: t →
      (fixedK a.kd = true → ∀ b ∈ s, AncP l b.ix a.ix) ∧ (∀ p, a.dst = some p → ∀ b ∈ s ++ t, b.dst ≠ some p) ∧
      (∀ p ∈ readsA a, (∀ b ∈ a :: t, b.dst ≠ some p) ∧ ∀ b ∈ s, b.dst = some p → AncP l b.ix a.ix ∧ (a.kd = 1 ∨ a.kd = 3 ∨ 8 ≤ a.kd → b.kd ≠ 4 ∧ b.kd ≠ 6)) ∧
      ((a.kd = 1 → ∀ b ∈ s, b.kd = 0 → AncP l b.ix a.ix) ∧ (8 ≤ a.kd → ∀ s1 b s2, s = s1 ++ b :: s2 → b.kd = 0 → AncP l b.ix a.ix ∨ cntF s2 + 8 < a.kd)) ∧ (∀ b ∈ t, a.ix ≠ b.ix) ∧ kdOK a = true ∧ (∀ o, l[a.ix]? = some o → selects o = false ∧ subB a.op o = true) := by
    intro s a t e
    have hk := key s a t e
    unfold zop at hk
    simp only [Bool.and_eq_true, List.all_eq_true, List.mem_reverse, Bool.or_eq_true, Bool.not_eq_true'] at hk
    obtain ⟨k1, k2, k3, ⟨k4, k8⟩, k5, k6, k7⟩ := hk
    refine ⟨fun hf b hb => ?_, fun p hp b hb => ?_, fun p hp => ⟨fun b hb => ?_, fun b hb hd => ?_⟩, ⟨fun h1 b hb h0 => ?_, fun h8 s1 b s2 es h0 => ?_⟩, fun b hb he => ?_, k6, fun o ho => ?_⟩
    · rcases k1 with k1 | k1
      · rw [hf] at k1; cases k1
      · exact han _ _ (k1 b hb)
    · rw [hp] at k2
      simp only [Bool.and_eq_true, List.all_eq_true, List.mem_reverse] at k2
      rcases List.mem_append.1 hb with hb | hb
      · exact dne_ne (k2.1 b hb)
      · exact dne_ne (k2.2 b hb)
    · obtain ⟨g1, g2, g3⟩ := k3 p hp
      rcases List.mem_cons.1 hb with rfl | hb
      · exact dne_ne g1
      · exact dne_ne (g2 b hb)
    · obtain ⟨g1, g2, g3⟩ := k3 p hp
      rcases g3 b hb with g | ⟨g, g'⟩
      · exact absurd hd (dne_ne g)
      · refine ⟨han _ _ g, fun hk => ?_⟩
        rcases g' with g' | g'
        · rcases hk with hk | hk | hk
          · rw [hk] at g'; exact absurd g' (by decide)
          · rw [hk] at g'; exact absurd g' (by decide)
          · simp only [Bool.or_eq_false_iff] at g'
            have h8 : Nat.ble 8 a.kd = true := by rw [Nat.ble_eq]; exact hk
            rw [g'.2.2] at h8
            cases h8
        · constructor <;> intro h4 <;> rw [h4] at g' <;> exact absurd g' (by decide)
    · rcases k4 with k4 | k4
      · rw [h1] at k4; exact absurd k4 (by decide)
      · rcases k4 b hb with g | g
        · rw [h0] at g; exact absurd g (by decide)
        · exact han _ _ g
    · rcases k8 with k8 | k8
      · rw [← Bool.not_eq_true, Nat.ble_eq] at k8
        exact absurd h8 k8
      · rw [es, List.reverse_append, List.reverse_cons, List.append_assoc] at k8
        rcases zld_at s2.reverse b (s1.reverse) 0 (by simpa using k8) h0 with g | g
        · exact .inl (han _ _ g)
        · refine .inr ?_
          unfold cntF at g ⊢
          rw [List.countP_reverse] at g
          omega
    · have := k5 b hb
      rw [he] at this
      simp at this
    · rw [ho] at k7
      simpa using k7
  have mem : ∀ a ∈ os, ∃ s t, os = s ++ a :: t := fun a ha => List.append_of_mem ha
  refine ⟨hao, pw_of os fun s a t e => (key2 s a t e).2.2.2.2.1, hpr, fun s a t e => (key2 s a t e).1, fun s a t e => (key2 s a t e).2.1, fun s a t e p hp => ((key2 s a t e).2.2.1 p hp).1, fun a ha p hp b hb hd => ?_, fun a ha => ?_, fun a ha hk p hp b hb hd => ?_, fun a ha o ho => ?_, fun a ha o ho => ?_, fun s a t e => (key2 s a t e).2.2.2.1.1, fun s a t e => (key2 s a t e).2.2.2.1.2⟩
  · obtain ⟨s, t, e⟩ := mem a ha
    obtain ⟨g1, g2⟩ := (key2 s a t e).2.2.1 p hp
    rw [e] at hb
    rcases List.mem_append.1 hb with hb | hb
    · exact (g2 b hb hd).1
    · exact absurd hd (g1 b hb)
  · obtain ⟨s, t, e⟩ := mem a ha
    have hk := (key2 s a t e).2.2.2.2.2.1
    unfold kdOK at hk
    simp only [Bool.or_eq_true, Bool.and_eq_true] at hk
    rcases hk with hk | ⟨h1, hk⟩
    · exact .inl hk
    · refine .inr ⟨fun e => (by rw [e] at h1; cases h1), ?_⟩
      rcases hk with hk | hk | ⟨hk, h2⟩ | ⟨hk, h2⟩ | ⟨hk, h2⟩
      · exact .inl (Nat.eq_of_beq_eq_true hk)
      · exact .inr (.inl (Nat.eq_of_beq_eq_true hk))
      · exact .inr (.inr (.inl ⟨Nat.eq_of_beq_eq_true hk, Nat.eq_of_beq_eq_true h2⟩))
      · exact .inr (.inr (.inr (.inl ⟨Nat.eq_of_beq_eq_true hk, h2⟩)))
      · exact .inr (.inr (.inr (.inr ⟨by rwa [Nat.ble_eq] at hk, Nat.eq_of_beq_eq_true h2⟩)))
  · obtain ⟨s, t, e⟩ := mem a ha
    obtain ⟨g1, g2⟩ := (key2 s a t e).2.2.1 p hp
    rw [e] at hb
    rcases List.mem_append.1 hb with hb | hb
    · exact (g2 b hb hd).2 hk
    · exact absurd hd (g1 b hb)
  · obtain ⟨s, t, e⟩ := mem a ha
    exact ((key2 s a t e).2.2.2.2.2.2 o ho).1
  · obtain ⟨s, t, e⟩ := mem a ha
    have h1 := ((key2 s a t e).2.2.2.2.2.2 o ho).2
    unfold subB at h1
    rw [List.all_eq_true] at h1
    intro x hx
    have := h1 (.tmp x) (by simpa using hx)
    simp only [List.any_eq_true] at this
    obtain ⟨p, g1, g2⟩ := this
    exact ⟨p, g1, by rw [Nat.eq_of_beq_eq_true g2]; rfl⟩
/-- The machine's order: a part, and registers that are written behind it. -/
structure ZAll (P : Program) (N : Nat) (l : List Oper) (os A B : List AO) : Prop where
  eq : os = A ++ B
  za : ZOK P N l A
  zb : ZOK P N l B
  cross : ∀ b ∈ B, ∀ a ∈ A, a.ix ≠ b.ix ∧ AncP l a.ix b.ix
  low : ∀ b ∈ B, b.kd < 8
  far : ∀ a ∈ A, 8 ≤ a.kd → ∀ p, p ∈ readsA a ∨ a.dst = some p → ∀ b ∈ B, b.dst ≠ some p
  all : ∀ i, i < l.length → ∃ a ∈ os, a.ix = i
theorem chkZ_ok {P : Program} {N : Nat} {l : List Oper} {os : List AO} (hao : ∀ a ∈ os, chkAO P N l a = true) (h : chkZ l os = true) : ∃ A B, ZAll P N l os A B := by
  unfold chkZ at h
  rw [Bool.and_eq_true, Bool.and_eq_true, Bool.or_eq_true] at h
  obtain ⟨hpr0, hall0, hz⟩ := h
  simp only [List.all_eq_true, List.mem_range, Nat.blt_eq, List.any_eq_true] at hpr0 hall0
  have hpr : ∀ i, i < l.length → ∀ j ∈ prI l i, j < i := hpr0
  have hall : ∀ i, i < l.length → ∃ a ∈ os, a.ix = i := fun i hi => by
    obtain ⟨a, h1, h2⟩ := hall0 i hi
    exact ⟨a, h1, Nat.eq_of_beq_eq_true h2⟩
  have han : ∀ i x, ((ancs [] l).getD i 0).testBit x = true → AncP l x i := ancs_ok hpr l [] [] rfl rfl fun i x h => by simp at h
  rcases hz with hz | hz
  · exact ⟨os, [], by simp, zok_of hao hpr hz, zok_of (fun a ha => by simp at ha) hpr rfl, fun b hb => by simp at hb, fun b hb => by simp at hb, fun a _ _ p _ b hb => by simp at hb, hall⟩
  · unfold ztl at hz
    simp only [Bool.and_eq_true, List.all_eq_true, Nat.blt_eq, Bool.not_eq_true'] at hz
    obtain ⟨⟨h1, h5⟩, h2, h3, h4⟩ := hz
    have e := spl_eq os
    refine ⟨splA os, splB os, e, zok_of (fun a ha => hao a (by rw [e]; simp [ha])) hpr h2, zok_of (fun a ha => hao a (by rw [e]; simp [ha])) hpr h3, fun b hb a ha => ⟨fun e => ?_, han _ _ (h4 b hb a ha).2⟩, h1, fun a ha h8 p hp b hb => ?_, hall⟩
    · have := (h4 b hb a ha).1
      rw [e] at this
      simp at this
    · have h6 := h5 a ha
      simp only [Bool.or_eq_true, Bool.and_eq_true, List.all_eq_true, Nat.blt_eq] at h6
      rcases h6 with h6 | ⟨h6, h7⟩
      · omega
      · rcases hp with hp | hp
        · exact dne_ne (h6 p hp b hb)
        · rw [hp] at h7
          simp only [List.all_eq_true] at h7
          exact dne_ne (h7 b hb)
theorem lchk_pre {tb : Tr AF} {ex exY : Run} {σf : Tr AV} {h : AH} : ∀ (x y : List AO) (n : Nat), lchk tb ex exY σf h n (x ++ y) = true → lchk tb ex exY σf h n x = true
  | [], _, _, _ => rfl
  | a :: x, y, n, hl => by
    rw [List.cons_append, lchk_cons] at hl
    rw [lchk_cons]
    cases hf : fixedK a.kd with
    | true =>
      rw [hf] at hl
      exact lchk_pre x y _ hl
    | false =>
      rw [hf] at hl
      simp only [Bool.and_eq_true] at hl ⊢
      exact ⟨hl.1, lchk_pre x y _ hl.2⟩
theorem lchk_at {tb : Tr AF} {ex exY : Run} {σf : Tr AV} {h : AH} : ∀ (x : List AO) (a : AO) (y : List AO) (n : Nat), lchk tb ex exY σf h n (x ++ a :: y) = true → fixedK a.kd = false → n + cntF x + 8 < a.kd → ldSame tb ex exY σf h a = true
  | [], a, y, n, hl, hf, hn => by
    rw [List.nil_append, lchk_cons, hf] at hl
    simp only [Bool.and_eq_true] at hl
    have hb : Nat.blt (n + 8) a.kd = true := by rw [Nat.blt_eq]; exact hn
    rw [hb] at hl
    exact hl.1
  | c :: x, a, y, n, hl, hf, hn => by
    rw [List.cons_append, lchk_cons] at hl
    unfold cntF at hn
    rw [List.countP_cons] at hn
    cases hc : fixedK c.kd with
    | true =>
      rw [hc] at hl hn
      exact lchk_at x a y _ hl hf (by unfold cntF; simp only [if_true] at hn; omega)
    | false =>
      rw [hc] at hl hn
      simp only [Bool.and_eq_true] at hl
      exact lchk_at x a y _ hl.2 hf (by unfold cntF; simp only [if_false, Bool.false_eq_true] at hn; omega)
/-- Loads that may be done early are so as the machine does them. -/
def LCK (tb : Tr AF) (ex exY : Run) (os : List AO) (σ0 : Tr AV) (h0 : AH) (σf : Tr AV) : Prop :=
  ∀ s b t, os = s ++ b :: t → b.kd = 0 → ∀ σ1 h1, runOps tb ex exY s σ0 h0 = some (σ1, h1) → lchk tb ex exY σf h1 0 t = true
theorem runL_ok {tb : Tr AF} {ex exY : Run} : ∀ (os : List AO) (σ : Tr AV) (h : AH) (r : Tr AV × AH), runL tb ex exY os σ h = some r → runOps tb ex exY os σ h = some r ∧ LCK tb ex exY os σ h r.1
  | [], σ, h, r, hr => by
    rw [runL_nil] at hr
    exact ⟨by rw [runOps_nil]; exact hr, fun s b t e => by simp at e⟩
  | o :: os, σ, h, r, hr => by
    rw [runL_cons] at hr
    split at hr
    · cases hr
    · rename_i q hq
      split at hr
      · cases hr
      · rename_i r' hr'
        have e : r' = r := by
          split at hr
          · split at hr
            · cases hr; rfl
            · cases hr
          · cases hr; rfl
        subst e
        obtain ⟨g1, g2⟩ := runL_ok os _ _ _ hr'
        have g0 : ∀ s, runOps tb ex exY (o :: s) σ h = runOps tb ex exY s q.1 q.2 := by
          intro s
          rw [runOps_cons]
          unfold stepL at hq
          cases hw : wantA σ o.grd with
          | true =>
            rw [hw] at hq
            simp only at hq ⊢
            split at hq
            · rename_i y hy
              cases hq
              rfl
            · cases hq
          | false =>
            rw [hw] at hq
            cases hq
            rfl
        refine ⟨by rw [g0]; exact g1, fun s b t e h0 σ1 h1 hs => ?_⟩
        cases s with
        | nil =>
          simp only [List.nil_append, List.cons.injEq] at e
          obtain ⟨rfl, rfl⟩ := e
          rw [runOps_nil] at hs
          cases hs
          have hb : Nat.beq o.kd 0 = true := by rw [h0]; rfl
          rw [hb] at hr
          simp only at hr
          split at hr
          · assumption
          · cases hr
        | cons c s =>
          simp only [List.cons_append, List.cons.injEq] at e
          obtain ⟨rfl, rfl⟩ := e
          rw [g0] at hs
          exact g2 s b t rfl h0 σ1 h1 hs
theorem lck_triv {tb : Tr AF} {ex exY : Run} {os : List AO} {σ : Tr AV} {h : AH} {σf : Tr AV} (hk : ∀ a ∈ os, a.kd < 8) : LCK tb ex exY os σ h σf := by
  intro s b t e _ σ1 h1 _
  have : ∀ (l : List AO) (n : Nat), (∀ a ∈ l, a.kd < 8) → lchk tb ex exY σf h1 n l = true := by
    intro l
    induction l with
    | nil => intro n _; rfl
    | cons a l ih =>
      intro n hl
      rw [lchk_cons]
      have ha := hl a (by simp)
      have hb : Nat.blt (n + 8) a.kd = false := by rw [← Bool.not_eq_true, Nat.blt_eq]; omega
      cases fixedK a.kd with
      | true => exact ih _ fun b hb => hl b (by simp [hb])
      | false =>
        simp only [hb, Bool.true_and]
        exact ih _ fun b hb => hl b (by simp [hb])
  exact this t 0 fun a ha => hk a (by rw [e]; simp [ha])
end Go.KX
