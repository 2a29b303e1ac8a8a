/- Maps. -/
import Derived.Test.YtjfffcjjlnmneaaGreatXI
namespace Go.KX
open Go.RowKit Go.KL
section
variable {C : Chk} {P : Program} {μ μ' : Mu} {w w' : World} {h h' : AH} {σ : Env} {σA : Tr AV} {t e : TypeId} {o : Oper} {K : Type} [DecidableEq K]
noncomputable def keyT (P : Program) (two : Bool) (k : IntKind) (kt : TypeId) : Bool := match two with
  | false => undT P kt fun d => match isInt d with | some k' => keq k k' | none => false
  | true => (!P.stoodInHeld kt) && undT P kt fun d => match d with
    | .struct fs => match fs.toList with
      | [f, g] => Nat.beq f.type g.type && (Nat.beq f.offset 0 && (Nat.beq g.offset 1 && ((f.name != "_") && ((g.name != "_") && undT P f.type fun d => match isInt d with | some k' => keq k k' | none => false))))
      | _ => false
    | _ => false
theorem keyI {k : IntKind} {kt : TypeId} (hc : keyT P false k kt = true) : KeyR P kt (fun n : Int => Value.int k n) := by
  obtain ⟨d, d1, d2⟩ := undT_ok hc
  cases d <;> first | (cases d2; done) | skip
  have := keq_eq d2
  subst this
  exact KeyR.ofInt d1
theorem key2 {k : IntKind} {kt : TypeId} (hc : keyT P true k kt = true) : KeyR P kt (mk2 k) := by
  simp only [keyT, Bool.and_eq_true, Bool.not_eq_true'] at hc
  obtain ⟨c0, c1⟩ := hc
  obtain ⟨d, d1, d2⟩ := undT_ok c1
  split at d2
  · rename_i fs
    split at d2
    · rename_i f g hfs
      simp only [Bool.and_eq_true] at d2
      obtain ⟨a1, a2, a3, a4, a5, a6⟩ := d2
      obtain ⟨di, i1, i2⟩ := undT_ok a6
      cases di <;> first | (cases i2; done) | skip
      have ek := keq_eq i2
      subst ek
      have efs : fs = #[f, g] := Array.ext' (by simpa using hfs)
      subst efs
      have T : Two P kt f.type f g k := ⟨d1, rfl, Nat.eq_of_beq_eq_true a2, by simpa using a4, (Nat.eq_of_beq_eq_true a1).symm, Nat.eq_of_beq_eq_true a3, by simpa using a5, i1, fun w => run_agg i1 w, c0⟩
      exact T.keyR (mk2 k) (·.1) (·.2) (fun _ => rfl) fun x y h1 h2 => Prod.ext h1 h2
    · cases d2
  · cases d2

/-! lists of entries -/
theorem mrI {l : List (Int × AV)} {tt : List (Int × Value)} (hm : MR μ l tt) (n : Int) : (getMI l n = none ∧ mget tt n = none) ∨ ∃ a v, getMI l n = some a ∧ mget tt n = some v ∧ Rv μ a v := by
  induction l generalizing tt with
  | nil => cases tt with
    | nil => exact .inl ⟨rfl, rfl⟩
    | cons q tt => have := hm.1; simp at this
  | cons p l ih =>
    cases tt with
    | nil => have := hm.1; simp at this
    | cons q tt =>
      obtain ⟨a, x⟩ := p
      obtain ⟨b, v⟩ := q
      obtain ⟨h1, h2⟩ := hm
      simp only [List.map_cons, List.cons.injEq] at h1
      obtain ⟨v', ws, g1, g2, g3⟩ := h2
      simp only [List.map_cons, List.cons.injEq] at g3
      obtain ⟨rfl, rfl⟩ := g3
      obtain ⟨rfl, h1⟩ := h1
      simp only [getMI, mget]
      by_cases e : n = a
      · right; exact ⟨x, v, by simp [zeq_dec, e], by simp [e], g1⟩
      · have := ih (tt := tt) ⟨h1, g2⟩
        simpa [zeq_dec, e] using this
theorem mrI_put {l : List (Int × AV)} {tt : List (Int × Value)} (hm : MR μ l tt) (n : Int) {a : AV} {v : Value} (hv : Rv μ a v) : MR μ (putMI l n a) (mput tt n v) := by
  induction l generalizing tt with
  | nil => cases tt with
    | nil => exact ⟨rfl, rvL_cons hv rvL_nil⟩
    | cons q tt => have := hm.1; simp at this
  | cons p l ih =>
    cases tt with
    | nil => have := hm.1; simp at this
    | cons q tt =>
      obtain ⟨b, x⟩ := p
      obtain ⟨b', v0⟩ := q
      obtain ⟨h1, h2⟩ := hm
      simp only [List.map_cons, List.cons.injEq] at h1
      obtain ⟨v', ws, g1, g2, g3⟩ := h2
      simp only [List.map_cons, List.cons.injEq] at g3
      obtain ⟨rfl, rfl⟩ := g3
      obtain ⟨rfl, h1⟩ := h1
      simp only [putMI, mput, zeq_dec]
      by_cases e : n = b
      · simp only [e, decide_true, if_true]
        exact ⟨by simp [h1], rvL_cons hv g2⟩
      · have := ih (tt := tt) ⟨h1, g2⟩
        simp only [e, decide_false, if_false]
        exact ⟨by simp [this.1], rvL_cons g1 this.2⟩
theorem mrI_del {l : List (Int × AV)} {tt : List (Int × Value)} (hm : MR μ l tt) (n : Int) : MR μ (delMI l n) (mdel tt n) := by
  induction l generalizing tt with
  | nil => cases tt with
    | nil => exact ⟨rfl, rfl⟩
    | cons q tt => have := hm.1; simp at this
  | cons p l ih =>
    cases tt with
    | nil => have := hm.1; simp at this
    | cons q tt =>
      obtain ⟨b, x⟩ := p
      obtain ⟨b', v0⟩ := q
      obtain ⟨h1, h2⟩ := hm
      simp only [List.map_cons, List.cons.injEq] at h1
      obtain ⟨v', ws, g1, g2, g3⟩ := h2
      simp only [List.map_cons, List.cons.injEq] at g3
      obtain ⟨rfl, rfl⟩ := g3
      obtain ⟨rfl, h1⟩ := h1
      simp only [delMI, mdel, zeq_dec]
      by_cases e : n = b
      · simp only [e, decide_true, if_true]
        exact ⟨h1, g2⟩
      · have := ih (tt := tt) ⟨h1, g2⟩
        simp only [e, decide_false, if_false]
        exact ⟨by simp [this.1], rvL_cons g1 this.2⟩
theorem z2 (x y a b : Int) : (zeq x a && zeq y b) = decide ((x, y) = (a, b)) := by
  rw [zeq_dec, zeq_dec]
  by_cases h1 : x = a <;> by_cases h2 : y = b <;> simp [h1, h2]
theorem mr2 {l : List ((Int × Int) × AV)} {tt : List ((Int × Int) × Value)} (hm : MR μ l tt) (x y : Int) : (getM2 l x y = none ∧ mget tt (x, y) = none) ∨ ∃ a v, getM2 l x y = some a ∧ mget tt (x, y) = some v ∧ Rv μ a v := by
  induction l generalizing tt with
  | nil => cases tt with
    | nil => exact .inl ⟨rfl, rfl⟩
    | cons q tt => have := hm.1; simp at this
  | cons p l ih =>
    cases tt with
    | nil => have := hm.1; simp at this
    | cons q tt =>
      obtain ⟨⟨a, b⟩, x0⟩ := p
      obtain ⟨b', v⟩ := q
      obtain ⟨h1, h2⟩ := hm
      simp only [List.map_cons, List.cons.injEq] at h1
      obtain ⟨v', ws, g1, g2, g3⟩ := h2
      simp only [List.map_cons, List.cons.injEq] at g3
      obtain ⟨rfl, rfl⟩ := g3
      obtain ⟨rfl, h1⟩ := h1
      simp only [getM2, mget, z2]
      by_cases e : (x, y) = (a, b)
      · right; exact ⟨x0, v, by simp only [e, decide_true], by simp only [e, if_true], g1⟩
      · have := ih (tt := tt) ⟨h1, g2⟩
        simp only [e, decide_false, if_false]
        exact this
theorem mr2_put {l : List ((Int × Int) × AV)} {tt : List ((Int × Int) × Value)} (hm : MR μ l tt) (x y : Int) {a : AV} {v : Value} (hv : Rv μ a v) : MR μ (putM2 l x y a) (mput tt (x, y) v) := by
  induction l generalizing tt with
  | nil => cases tt with
    | nil => exact ⟨rfl, rvL_cons hv rvL_nil⟩
    | cons q tt => have := hm.1; simp at this
  | cons p l ih =>
    cases tt with
    | nil => have := hm.1; simp at this
    | cons q tt =>
      obtain ⟨⟨b1, b2⟩, x0⟩ := p
      obtain ⟨b', v0⟩ := q
      obtain ⟨h1, h2⟩ := hm
      simp only [List.map_cons, List.cons.injEq] at h1
      obtain ⟨v', ws, g1, g2, g3⟩ := h2
      simp only [List.map_cons, List.cons.injEq] at g3
      obtain ⟨rfl, rfl⟩ := g3
      obtain ⟨rfl, h1⟩ := h1
      simp only [putM2, mput, z2]
      by_cases e : (x, y) = (b1, b2)
      · simp only [e, decide_true, if_true]
        exact ⟨by simp [h1], rvL_cons hv g2⟩
      · have := ih (tt := tt) ⟨h1, g2⟩
        simp only [e, decide_false, if_false]
        exact ⟨by simp [this.1], rvL_cons g1 this.2⟩
theorem mr2_del {l : List ((Int × Int) × AV)} {tt : List ((Int × Int) × Value)} (hm : MR μ l tt) (x y : Int) : MR μ (delM2 l x y) (mdel tt (x, y)) := by
  induction l generalizing tt with
  | nil => cases tt with
    | nil => exact ⟨rfl, rfl⟩
    | cons q tt => have := hm.1; simp at this
  | cons p l ih =>
    cases tt with
    | nil => have := hm.1; simp at this
    | cons q tt =>
      obtain ⟨⟨b1, b2⟩, x0⟩ := p
      obtain ⟨b', v0⟩ := q
      obtain ⟨h1, h2⟩ := hm
      simp only [List.map_cons, List.cons.injEq] at h1
      obtain ⟨v', ws, g1, g2, g3⟩ := h2
      simp only [List.map_cons, List.cons.injEq] at g3
      obtain ⟨rfl, rfl⟩ := g3
      obtain ⟨rfl, h1⟩ := h1
      simp only [delM2, mdel, z2]
      by_cases e : (x, y) = (b1, b2)
      · simp only [e, decide_true, if_true]
        exact ⟨h1, g2⟩
      · have := ih (tt := tt) ⟨h1, g2⟩
        simp only [e, decide_false, if_false]
        exact ⟨by simp [this.1], rvL_cons g1 this.2⟩

/-! the model's maps -/
theorem run_lk {mt kt et : TypeId} {m ck : Nat} {es : Array MapEntry} {mk : K → Value} {tt : List (K × Value)} {a : K} {z : Value} {ok : Bool} (hm : w.heap[m]? = some (.map es ck)) (hu : P.underlying mt = some (.map kt et)) (R : KeyR P kt mk) (hz : ∀ w, (zeroValue et).run P w = .ok z w) (hh : MpR es mk id tt) :
    (Instr.lookup mt (.map (some m)) (mk a) ok).run P w = .ok (if ok then .tuple #[mgetD tt a z, .bool (mhas tt a)] else mgetD tt a z) w := by
  have hf := R.find id es.toList tt a w hh
  have hg := locate_mget tt a 0
  unfold mgetD mhas
  simp [Instr.lookup, run_underlying hu, MapKept.run_getObj_map hm, R.chk, hf, Result.andThen, ← hg]
  cases e : locate tt a 0 <;> simp [hz, Result.andThen]
theorem run_put {mt kt et : TypeId} {m ck : Nat} {es : Array MapEntry} {mk : K → Value} {tt : List (K × Value)} {a : K} {v : Value} (hm : w.heap[m]? = some (.map es ck)) (hu : P.underlying mt = some (.map kt et)) (R : KeyR P kt mk) (hh : MpR es mk id tt) :
    ∃ es' ck', MpR es' mk id (mput tt a v) ∧ (Instr.mapUpdate mt (.map (some m)) (mk a) v).run P w = .ok () (w.putObj m (.map es' ck')) := by
  have hf := R.find id es.toList tt a w hh
  cases e : locate tt a 0 with
  | none =>
    obtain ⟨e1, _⟩ := locate_none e v
    refine ⟨es.push { key := mk a, val := v, born := ck }, ck + 1, ?_, ?_⟩
    · unfold MpR at hh ⊢; rw [e1]; simp [hh]
    · simp [Instr.mapUpdate, run_underlying hu, MapKept.run_getObj_map hm, R.chk, hf, e, Result.andThen, MapKept.run_setObj_map _ hm]
      rfl
  | some p =>
    obtain ⟨q, u⟩ := p
    obtain ⟨_, h2, h3, _⟩ := locate_some e v
    rw [Nat.sub_zero] at h2 h3
    have hq : q < tt.length := (List.getElem?_eq_some_iff.1 h2).1
    have hl : es.size = tt.length := by have := congrArg List.length hh; simpa using this
    have hkq : ((es[q]?).map (·.key)).getD (mk a) = mk a := by
      have h4 : (es.toList.map (fun e => (e.key, e.val)))[q]? = some (mk a, u) := by rw [hh, List.getElem?_map, h2]; rfl
      rw [List.getElem?_map] at h4
      cases h5 : es.toList[q]? with
      | none => rw [h5] at h4; cases h4
      | some e =>
        rw [h5] at h4
        simp only [Option.map_some, Option.some.injEq, Prod.mk.injEq] at h4
        have h6 : es[q]? = some e := by simpa using h5
        rw [h6]; simp [h4.1]
    refine ⟨es.modify q fun e => { e with key := mk a, val := v }, ck, ?_, ?_⟩
    · unfold MpR at hh ⊢
      rw [h3]
      apply List.ext_getElem?
      intro n
      have hn := congrArg (·[n]?) hh
      simp only [List.getElem?_map] at hn ⊢
      rw [List.getElem?_set]
      simp only [Array.toList_modify, List.getElem?_modify]
      by_cases hqn : q = n
      · subst hqn
        have h5 : es.toList[q]? = some (es.toList[q]'(by simpa [hl] using hq)) := List.getElem?_eq_getElem _
        simp [h5, hq]
      · simp only [hqn, if_false]
        simpa [hqn] using hn
    · simp [Instr.mapUpdate, run_underlying hu, MapKept.run_getObj_map hm, R.chk, hf, e, Result.andThen, MapKept.run_setObj_map _ hm, Instr.keyThatStays, hkq, R.same]
      rfl
theorem run_del {mt kt et ty : TypeId} {tys : Array TypeId} {m ck : Nat} {es : Array MapEntry} {mk : K → Value} {tt : List (K × Value)} {a : K} (hty : tys[0]? = some mt) (hm : w.heap[m]? = some (.map es ck)) (hu : P.underlying mt = some (.map kt et)) (R : KeyR P kt mk) (hh : MpR es mk id tt) :
    ∃ es' ck', MpR es' mk id (mdel tt a) ∧ (Builtin.delete_ tys ty #[.map (some m), mk a]).run P w = .ok (.tuple #[]) (w.putObj m (.map es' ck')) := by
  have hf := R.find id es.toList tt a w hh
  cases e : locate tt a 0 with
  | none =>
    obtain ⟨_, e1⟩ := locate_none e (.bool true)
    refine ⟨es, ck, by rw [e1]; exact hh, ?_⟩
    simp [Builtin.delete_, hty, run_underlying hu, MapKept.run_getObj_map hm, R.chk, hf, e, Result.andThen, MapKept.run_setObj_map _ hm]
    rfl
  | some p =>
    obtain ⟨q, u⟩ := p
    obtain ⟨_, h2, _, h3⟩ := locate_some e (.bool true)
    rw [Nat.sub_zero] at h2 h3
    refine ⟨es.eraseIdxIfInBounds q, ck, ?_, ?_⟩
    · unfold MpR at hh ⊢
      rw [h3, ← eraseIdx_mapq, ← hh, eraseIdx_mapq]
      simp
    · simp [Builtin.delete_, hty, run_underlying hu, MapKept.run_getObj_map hm, R.chk, hf, e, Result.andThen, MapKept.run_setObj_map _ hm]
      rfl
/-- A map of the machine, as the model's: its key y is a; what it holds. -/
def MapOK (C : Chk) (P : Program) (μ : Mu) (w : World) (c : Cl) (two : Bool) (k : IntKind) (kt : TypeId) (B : AB) (y : AV) (Y : Value) : Prop :=
    ∃ (K : Type) (_ : DecidableEq K) (mk : K → Value) (a : K) (es : Array MapEntry) (ck : Nat) (tt : List (K × Value)), Y = mk a ∧ w.heap[c.1]? = some (.map es ck) ∧ KeyR P kt mk ∧ MpR es mk id tt ∧
      (∀ q, lookA two k B y = some q → (q = none ∧ mget tt a = none) ∨ ∃ x v, q = some x ∧ mget tt a = some v ∧ Rv μ x v) ∧
      (∀ x v B', putA two k B y x = some B' → Rv μ x v → live B' ∧ ∀ w' es' ck', w'.heap[c.1]? = some (.map es' ck') → MpR es' mk id (mput tt a v) → AbR C P μ w' c B') ∧
      (∀ B', delA two k B y = some B' → live B' ∧ ∀ w' es' ck', w'.heap[c.1]? = some (.map es' ck') → MpR es' mk id (mdel tt a) → AbR C P μ w' c B')
theorem map_ok {two : Bool} {k : IntKind} {kt : TypeId} {B : AB} {y : AV} {Y : Value} {c : Cl} (hk : keyT P two k kt = true) (hB : AbR C P μ w c B) (hY : Rv μ y Y) (hr : (lookA two k B y).isSome = true ∨ (∃ v, (putA two k B y v).isSome = true) ∨ (delA two k B y).isSome = true) :
    MapOK C P μ w c two k kt B y Y ∧ live B := by
  have caseI : two = false → ∀ (n : Int) (es : Array MapEntry) (ck : Nat) (tt : List (Int × Value)) (l : List (Int × AV)), y = .int k n → w.heap[c.1]? = some (.map es ck) → MpR es (fun n : Int => Value.int k n) id tt → MR μ l tt →
      (∀ q, lookA two k B y = some q → q = getMI l n) → (∀ x B', putA two k B y x = some B' → B' = .mapI k (putMI l n x)) → (∀ B', delA two k B y = some B' → B' = .mapI k (delMI l n) ∨ (B' = .map0 ∧ l = [])) → MapOK C P μ w c two k kt B y Y := by
    intro h2 n es ck tt l hy hm hp hM q1 q2 q3
    subst h2 hy
    have hY : Y = .int k n := hY
    refine ⟨Int, inferInstance, fun n => Value.int k n, n, es, ck, tt, hY, hm, keyI hk, hp, ?_, ?_, ?_⟩
    · intro q hq
      rw [q1 q hq]
      exact mrI hM n
    · intro x v B' hB' hv
      have := q2 x B' hB'
      subst this
      exact ⟨trivial, fun w' es' ck' g1 g2 => ⟨es', ck', _, g1, g2, mrI_put hM n hv⟩⟩
    · intro B' hB'
      rcases q3 B' hB' with rfl | ⟨rfl, rfl⟩
      · exact ⟨trivial, fun w' es' ck' g1 g2 => ⟨es', ck', _, g1, g2, mrI_del hM n⟩⟩
      · refine ⟨trivial, fun w' es' ck' g1 g2 => ⟨ck', ?_⟩⟩
        cases tt with
        | cons p tt => have := hM.1; simp at this
        | nil =>
          have : es' = #[] := by
            unfold MpR at g2
            simp only [mdel, List.map_nil, List.map_eq_nil_iff] at g2
            exact Array.ext' (by simpa using g2)
          rw [this] at g1; exact g1
  have case2 : two = true → ∀ (n m : Int) (es : Array MapEntry) (ck : Nat) (tt : List ((Int × Int) × Value)) (l : List ((Int × Int) × AV)), y = .agg [.int k n, .int k m] → w.heap[c.1]? = some (.map es ck) → MpR es (mk2 k) id tt → MR μ l tt →
      (∀ q, lookA two k B y = some q → q = getM2 l n m) → (∀ x B', putA two k B y x = some B' → B' = .map2 k (putM2 l n m x)) → (∀ B', delA two k B y = some B' → B' = .map2 k (delM2 l n m) ∨ (B' = .map0 ∧ l = [])) → MapOK C P μ w c two k kt B y Y := by
    intro h2 n m es ck tt l hy hm hp hM q1 q2 q3
    subst h2 hy
    have hY : Y = mk2 k (n, m) := by
      obtain ⟨vs, g1, rfl⟩ := hY
      obtain ⟨v1, ws, g2, g3, rfl⟩ := g1
      obtain ⟨v2, ws2, g4, g5, rfl⟩ := g3
      cases g5
      have g2 : v1 = .int k n := g2
      have g4 : v2 = .int k m := g4
      subst g2 g4
      rfl
    refine ⟨Int × Int, inferInstance, mk2 k, (n, m), es, ck, tt, hY, hm, key2 hk, hp, ?_, ?_, ?_⟩
    · intro q hq
      rw [q1 q hq]
      exact mr2 hM n m
    · intro x v B' hB' hv
      have := q2 x B' hB'
      subst this
      exact ⟨trivial, fun w' es' ck' g1 g2 => ⟨es', ck', _, g1, g2, mr2_put hM n m hv⟩⟩
    · intro B' hB'
      rcases q3 B' hB' with rfl | ⟨rfl, rfl⟩
      · exact ⟨trivial, fun w' es' ck' g1 g2 => ⟨es', ck', _, g1, g2, mr2_del hM n m⟩⟩
      · refine ⟨trivial, fun w' es' ck' g1 g2 => ⟨ck', ?_⟩⟩
        cases tt with
        | cons p tt => have := hM.1; simp at this
        | nil =>
          have : es' = #[] := by
            unfold MpR at g2
            simp only [mdel, List.map_nil, List.map_eq_nil_iff] at g2
            exact Array.ext' (by simpa using g2)
          rw [this] at g1; exact g1
  -- what the block and the key can be
  have shape : (∃ n, two = false ∧ y = .int k n ∧ (B = .map0 ∨ ∃ l, B = .mapI k l)) ∨ (∃ n m, two = true ∧ y = .agg [.int k n, .int k m] ∧ (B = .map0 ∨ ∃ l, B = .map2 k l)) := by
    have fI : ∀ {k' : IntKind} {b : Bool} {α : Type} {x : Option α}, (ifO b x).isSome = true → b = true := fun {k' b α x} hq => by cases b <;> first | rfl | cases hq
    rcases hr with hr | ⟨v, hr⟩ | hr
    · unfold lookA at hr
      split at hr <;> first | (cases hr; done) | skip
      · have := keq_eq (fI (k' := k) hr); subst this; exact .inl ⟨_, rfl, rfl, .inl rfl⟩
      · have := fI (k' := k) hr; simp only [Bool.and_eq_true] at this
        have e1 := keq_eq this.1; have e2 := keq_eq this.2; subst e1 e2; exact .inr ⟨_, _, rfl, rfl, .inl rfl⟩
      · have := fI (k' := k) hr; simp only [Bool.and_eq_true] at this
        have e1 := keq_eq this.1; have e2 := keq_eq this.2; subst e1 e2; exact .inl ⟨_, rfl, rfl, .inr ⟨_, rfl⟩⟩
      · have := fI (k' := k) hr; simp only [Bool.and_eq_true] at this
        have e1 := keq_eq this.1; have e2 := keq_eq this.2.1; have e3 := keq_eq this.2.2; subst e1 e2 e3; exact .inr ⟨_, _, rfl, rfl, .inr ⟨_, rfl⟩⟩
    · unfold putA at hr
      split at hr <;> first | (cases hr; done) | skip
      · have := keq_eq (fI (k' := k) hr); subst this; exact .inl ⟨_, rfl, rfl, .inl rfl⟩
      · have := fI (k' := k) hr; simp only [Bool.and_eq_true] at this
        have e1 := keq_eq this.1; have e2 := keq_eq this.2; subst e1 e2; exact .inr ⟨_, _, rfl, rfl, .inl rfl⟩
      · have := fI (k' := k) hr; simp only [Bool.and_eq_true] at this
        have e1 := keq_eq this.1; have e2 := keq_eq this.2; subst e1 e2; exact .inl ⟨_, rfl, rfl, .inr ⟨_, rfl⟩⟩
      · have := fI (k' := k) hr; simp only [Bool.and_eq_true] at this
        have e1 := keq_eq this.1; have e2 := keq_eq this.2.1; have e3 := keq_eq this.2.2; subst e1 e2 e3; exact .inr ⟨_, _, rfl, rfl, .inr ⟨_, rfl⟩⟩
    · unfold delA at hr
      split at hr <;> first | (cases hr; done) | skip
      · have := keq_eq (fI (k' := k) hr); subst this; exact .inl ⟨_, rfl, rfl, .inl rfl⟩
      · have := fI (k' := k) hr; simp only [Bool.and_eq_true] at this
        have e1 := keq_eq this.1; have e2 := keq_eq this.2; subst e1 e2; exact .inr ⟨_, _, rfl, rfl, .inl rfl⟩
      · have := fI (k' := k) hr; simp only [Bool.and_eq_true] at this
        have e1 := keq_eq this.1; have e2 := keq_eq this.2; subst e1 e2; exact .inl ⟨_, rfl, rfl, .inr ⟨_, rfl⟩⟩
      · have := fI (k' := k) hr; simp only [Bool.and_eq_true] at this
        have e1 := keq_eq this.1; have e2 := keq_eq this.2.1; have e3 := keq_eq this.2.2; subst e1 e2 e3; exact .inr ⟨_, _, rfl, rfl, .inr ⟨_, rfl⟩⟩
  have iS : ∀ {b : Bool} {α : Type} {x : Option α} {v : α}, ifO b x = some v → x = some v := fun hq => (ifO_some hq).2
  rcases shape with ⟨n, rfl, rfl, rfl | ⟨l, rfl⟩⟩ | ⟨n, m, rfl, rfl, rfl | ⟨l, rfl⟩⟩
  · obtain ⟨ck, hm⟩ := hB
    refine ⟨?_, trivial⟩
    exact caseI rfl n #[] ck [] [] rfl hm rfl ⟨rfl, rfl⟩ (fun q hq => by simp only [lookA] at hq; cases iS hq; rfl) (fun x B' hq => by simp only [putA] at hq; cases iS hq; rfl) (fun B' hq => by simp only [delA] at hq; cases iS hq; exact .inr ⟨rfl, rfl⟩)
  · obtain ⟨es, ck, tt, hm, hp, hM⟩ := hB
    refine ⟨?_, trivial⟩
    exact caseI rfl n es ck tt l rfl hm hp hM (fun q hq => by simp only [lookA] at hq; cases iS hq; rfl) (fun x B' hq => by simp only [putA] at hq; cases iS hq; rfl) (fun B' hq => by simp only [delA] at hq; cases iS hq; exact .inl rfl)
  · obtain ⟨ck, hm⟩ := hB
    refine ⟨?_, trivial⟩
    exact case2 rfl n m #[] ck [] [] rfl hm rfl ⟨rfl, rfl⟩ (fun q hq => by simp only [lookA] at hq; cases iS hq; rfl) (fun x B' hq => by simp only [putA] at hq; cases iS hq; rfl) (fun B' hq => by simp only [delA] at hq; cases iS hq; exact .inr ⟨rfl, rfl⟩)
  · obtain ⟨es, ck, tt, hm, hp, hM⟩ := hB
    refine ⟨?_, trivial⟩
    exact case2 rfl n m es ck tt l rfl hm hp hM (fun q hq => by simp only [lookA] at hq; cases iS hq; rfl) (fun x B' hq => by simp only [putA] at hq; cases iS hq; rfl) (fun B' hq => by simp only [delA] at hq; cases iS hq; exact .inl rfl)
noncomputable def c_lk (P : Program) (two : Bool) (k : IntKind) (ok : Bool) (z : AV) (x y : AOd) : Op → Bool
  | .lookup t x' y' ok' => undT P t (fun d => match d with
      | .map kt et => keyT P two k kt && (match P.info? et with
        | some i => match i.zero with | some v => okc z v | none => false
        | none => false)
      | _ => false) && ((ok == ok') && (chkD x x' && chkD y y'))
  | _ => false
def lkV (ok : Bool) (z : AV) (q : Option AV) : AV := match ok with
  | true => .tup [q.getD z, .bool q.isSome]
  | false => q.getD z
theorem l_lk {two : Bool} {k : IntKind} {ok : Bool} {z : AV} {x y : AOd} {op : Op} (hc : c_lk P two k ok z x y op = true) : OkL C P op (o_lk two k ok z x y) := by
  intro σA h v h' hr
  unfold c_lk at hc
  split at hc
  · rename_i t x' y' ok'
    simp only [Bool.and_eq_true, beq_iff_eq] at hc
    obtain ⟨c1, rfl, c2, c3⟩ := hc
    obtain ⟨d, d1, d2⟩ := undT_ok c1
    split at d2 <;> first | (cases d2; done) | skip
    rename_i kt et
    simp only [Bool.and_eq_true] at d2
    obtain ⟨k1, k2⟩ := d2
    split at k2 <;> first | (cases k2; done) | skip
    rename_i i hi
    split at k2 <;> first | (cases k2; done) | skip
    rename_i zv hz
    unfold o_lk at hr
    split at hr <;> first | (cases hr; done) | skip
    rename_i b hx
    split at hr <;> first | (cases hr; done) | skip
    rename_i B hB
    have key : ∀ q, lookA two k B (evA σA y) = some q → h' = h → v = lkV ok z q → h' = h ∧ ∀ μ σ w, EnvR μ σA σ → Sim C P μ h w → ∃ cv, Rv μ v cv ∧ ∀ (o : Oper), o.op = .lookup t x' y' ok → RunsK P σ w o cv := by
      intro q hq hh hv
      subst hh hv
      refine ⟨rfl, fun μ σ w hE S => ?_⟩
      have g := chkD_ok c2 hE; rw [hx] at g
      obtain ⟨c, g1, g2⟩ := g
      obtain ⟨c', g3, g4⟩ := S.at_ b B hB
      rw [g1] at g3; cases g3
      obtain ⟨⟨K, _, mk, a, es, ck, tt, e1, e2, e3, e4, e5, _, _⟩, hl⟩ := map_ok k1 g4 (chkD_ok c3 hE) (.inl (by rw [hq]; rfl))
      have hrun : ∀ w', Keep w w' Non → ∀ (o : Oper), o.op = .lookup t x' y' ok → Runs P σ w' o (if ok then .tuple #[mgetD tt a zv, .bool (mhas tt a)] else mgetD tt a zv) w' := by
        intro w' K o ho
        have hm := (K.block _ (lt_of_some e2) id).trans e2
        have := run_lk (P := P) (ok := ok) hm d1 e3 (run_zero hi hz) e4 (a := a)
        exact ⟨by rw [ho]; rfl, by simp [execOp, ho, g2, e1, this, Result.andThen]⟩
      refine ⟨_, ?_, fun o ho w' K => hrun w' K o ho⟩
      have hval : Rv μ (q.getD z) (mgetD tt a zv) ∧ q.isSome = mhas tt a := by
        rcases e5 q hq with ⟨rfl, q2⟩ | ⟨x, v, rfl, q2, q3⟩
        · unfold mgetD mhas; rw [q2]; exact ⟨okc_ok μ k2, rfl⟩
        · unfold mgetD mhas; rw [q2]; exact ⟨q3, rfl⟩
      cases ok
      · exact hval.1
      · exact ⟨_, rvL_cons hval.1 (rvL_cons (v := .bool (mhas tt a)) (by rw [← hval.2]; rfl) rvL_nil), rfl⟩
    split at hr
    · rename_i q hq
      cases hr
      exact key _ hq rfl (by cases ok <;> rfl)
    · rename_i hq
      cases hr
      exact key _ hq rfl (by cases ok <;> rfl)
    · cases hr
  · cases hc
noncomputable def c_mput (P : Program) (two : Bool) (k : IntKind) (x y z : AOd) : Op → Bool
  | .mapUpdate t x' y' z' | .insert t x' y' z' => undT P t (fun d => match d with
      | .map kt et => keyT P two k kt
      | _ => false) && (chkD x x' && (chkD y y' && chkD z z'))
  | _ => false
theorem c_mput_ok {two : Bool} {k : IntKind} {x y z : AOd} {op : Op} (hc : c_mput P two k x y z op = true) : ∃ t kt et x' y' z', (op = .mapUpdate t x' y' z' ∨ op = .insert t x' y' z') ∧ P.underlying t = some (.map kt et) ∧ keyT P two k kt = true ∧ chkD x x' = true ∧ chkD y y' = true ∧ chkD z z' = true := by
  have key : ∀ {t : TypeId} {x' y' z' : Operand}, (undT P t (fun d => match d with | .map kt et => keyT P two k kt | _ => false) && (chkD x x' && (chkD y y' && chkD z z'))) = true → ∃ kt et, P.underlying t = some (.map kt et) ∧ keyT P two k kt = true ∧ chkD x x' = true ∧ chkD y y' = true ∧ chkD z z' = true := by
    intro t x' y' z' hq
    simp only [Bool.and_eq_true] at hq
    obtain ⟨d, d1, d2⟩ := undT_ok hq.1
    split at d2 <;> first | (cases d2; done) | skip
    exact ⟨_, _, d1, d2, hq.2⟩
  unfold c_mput at hc
  split at hc
  · obtain ⟨kt, et, g⟩ := key hc; exact ⟨_, kt, et, _, _, _, .inl rfl, g⟩
  · obtain ⟨kt, et, g⟩ := key hc; exact ⟨_, kt, et, _, _, _, .inr rfl, g⟩
  · cases hc
theorem u_mput {two : Bool} {k : IntKind} {x y z : AOd} {op : Op} (hc : c_mput P two k x y z op = true) : OkU C P op (o_mput two k x y z) := by
  intro σA h v h' hr μ σ w hE S o ho
  obtain ⟨t, kt, et, x', y', z', hop, d1, k1, c1, c2, c3⟩ := c_mput_ok hc
  unfold o_mput at hr
  split at hr <;> first | (cases hr; done) | skip
  rename_i b hx
  split at hr <;> first | (cases hr; done) | skip
  rename_i B hB
  split at hr <;> first | (cases hr; done) | skip
  rename_i B' hp
  split at hr <;> first | (cases hr; done) | skip
  rename_i h1' hput
  cases hr
  have g := chkD_ok c1 hE; rw [hx] at g
  obtain ⟨c, g1, g2⟩ := g
  obtain ⟨c', g3, g4⟩ := S.at_ b B hB
  rw [g1] at g3; cases g3
  obtain ⟨⟨K, _, mk, a, es, ck, tt, e1, e2, e3, e4, _, e6, _⟩, hl⟩ := map_ok k1 g4 (chkD_ok c2 hE) (.inr (.inl ⟨_, by rw [hp]; rfl⟩))
  obtain ⟨es', ck', r1, r2⟩ := run_put (P := P) (v := ev σ z') e2 d1 e3 e4 (a := a)
  obtain ⟨l1, l2⟩ := e6 _ (ev σ z') B' hp (chkD_ok c3 hE)
  obtain ⟨s1, s2, s3⟩ := S.put hput hB hl g1 (putObj_keep w c.1 (.map es' ck')) (l2 _ es' ck' (heap_putObj _ (lt_of_some e2)) r1)
  refine ⟨μ, _, s2, s1, rfl, s3, by rw [ho]; rcases hop with e | e <;> (rw [e]; rfl), ?_⟩
  rcases hop with e | e <;> rw [e] at ho <;> simp [execOp, ho, g2, e1, r2, Result.andThen]
noncomputable def c_mdel (P : Program) (two : Bool) (k : IntKind) (x y : AOd) : Op → Bool
  | .call c => match c.callee with
    | .builtin b => (b == .delete) && (match c.args.toList, c.argTypes.toList with
      | [x', y'], t :: _ => undT P t (fun d => match d with | .map kt _ => keyT P two k kt | _ => false) && (chkD x x' && chkD y y')
      | _, _ => false)
    | _ => false
  | _ => false
theorem e_mdel {two : Bool} {k : IntKind} {x y : AOd} {op : Op} (hc : c_mdel P two k x y op = true) : OkE C P op (o_mdel two k x y) := by
  intro σA h v h' hr μ σ w hE S o ho
  unfold c_mdel at hc
  split at hc <;> first | (cases hc; done) | skip
  rename_i c
  obtain ⟨ce, args, tys⟩ := c
  simp only at hc
  split at hc <;> first | (cases hc; done) | skip
  rename_i b
  simp only [Bool.and_eq_true, beq_iff_eq] at hc
  obtain ⟨rfl, h2⟩ := hc
  split at h2 <;> first | (cases h2; done) | skip
  rename_i x' y' t ts h3 h4
  simp only [Bool.and_eq_true] at h2
  obtain ⟨a1, a2, a3⟩ := h2
  obtain ⟨d, d1, d2⟩ := undT_ok a1
  split at d2 <;> first | (cases d2; done) | skip
  rename_i kt et
  have ea : args = #[x', y'] := Array.ext' (by simpa using h3)
  have et' : tys[0]? = some t := by rw [← Array.getElem?_toList, h4]; rfl
  unfold o_mdel at hr
  split at hr <;> first | (cases hr; done) | skip
  rename_i b hx
  split at hr <;> first | (cases hr; done) | skip
  rename_i B hB
  split at hr <;> first | (cases hr; done) | skip
  rename_i B' hp
  split at hr <;> first | (cases hr; done) | skip
  rename_i h1' hput
  cases hr
  have g := chkD_ok a2 hE; rw [hx] at g
  obtain ⟨c, g1, g2⟩ := g
  obtain ⟨c', g3, g4⟩ := S.at_ b B hB
  rw [g1] at g3; cases g3
  obtain ⟨⟨K, _, mk, a, es, ck, tt, e1, e2, e3, e4, _, _, e7⟩, hl⟩ := map_ok d2 g4 (chkD_ok a3 hE) (.inr (.inr (by rw [hp]; rfl)))
  obtain ⟨es', ck', r1, r2⟩ := run_del (P := P) (ty := o.type) et' e2 d1 e3 e4 (a := a)
  obtain ⟨l1, l2⟩ := e7 B' hp
  obtain ⟨s1, s2, s3⟩ := S.put hput hB hl g1 (putObj_keep w c.1 (.map es' ck')) (l2 _ es' ck' (heap_putObj _ (lt_of_some e2)) r1)
  refine ⟨μ, _, _, s2, s1, rv_u μ, s3, by rw [ho]; rfl, ?_⟩
  simp [execOp, ho, ea, resolve, invoke, builtin, g2, e1, r2, undef, Result.andThen]
noncomputable def c_lenM (P : Program) (x : AOd) : Op → Bool
  | .call c => match c.callee with
    | .builtin b => (b == .len) && (match c.args.toList, c.argTypes.toList with
      | [x'], [t] => undT P t (fun d => match d with | .map _ _ => true | _ => false) && chkD x x'
      | _, _ => false)
    | _ => false
  | _ => false
theorem l_lenM {x : AOd} {op : Op} (hc : c_lenM P x op = true) : OkL C P op (o_lenM x) := by
  intro σA h v h' hr
  unfold c_lenM at hc
  split at hc <;> first | (cases hc; done) | skip
  rename_i c
  obtain ⟨ce, args, tys⟩ := c
  simp only at hc
  split at hc <;> first | (cases hc; done) | skip
  rename_i b
  simp only [Bool.and_eq_true, beq_iff_eq] at hc
  obtain ⟨rfl, h2⟩ := hc
  split at h2 <;> first | (cases h2; done) | skip
  rename_i x' t h3 h4
  simp only [Bool.and_eq_true] at h2
  obtain ⟨a1, a2⟩ := h2
  obtain ⟨d, d1, d2⟩ := undT_ok a1
  split at d2 <;> first | (cases d2; done) | skip
  rename_i kt et
  have ea : args = #[x'] := Array.ext' (by simpa using h3)
  have et' : tys = #[t] := Array.ext' (by simpa using h4)
  subst ea et'
  unfold o_lenM at hr
  split at hr
  · rename_i hx
    cases hr
    refine ⟨rfl, fun μ σ w hE S => ⟨_, rfl, fun o ho w' K => ?_⟩⟩
    have g := chkD_ok a2 hE; rw [hx] at g
    have g : ev σ x' = .map none := g
    exact ⟨by rw [ho]; rfl, by simp [execOp, ho, resolve, invoke, builtin, Builtin.len_, g, run_underlying d1, goInt, Result.andThen]⟩
  · rename_i b hx
    split at hr <;> first | (cases hr; done) | skip
    rename_i B hB
    split at hr <;> first | (cases hr; done) | skip
    rename_i n hn
    cases hr
    refine ⟨rfl, fun μ σ w hE S => ⟨_, rfl, fun o ho w' K => ?_⟩⟩
    have g := chkD_ok a2 hE; rw [hx] at g
    obtain ⟨c, g1, g2⟩ := g
    obtain ⟨c', g3, g4⟩ := S.at_ b B hB
    rw [g1] at g3; cases g3
    have hmap : ∃ es ck, w.heap[c.1]? = some (.map es ck) ∧ es.size = n := by
      unfold lenB at hn
      split at hn <;> first | (cases hn; done) | skip
      · cases hn; obtain ⟨ck, q⟩ := g4; exact ⟨_, ck, q, rfl⟩
      · cases hn
        obtain ⟨es, ck, tt, q1, q2, q3⟩ := g4
        refine ⟨es, ck, q1, ?_⟩
        have e1 := congrArg List.length q2
        have e2 := congrArg List.length q3.1
        simp at e1 e2
        rw [len_eq]; omega
      · cases hn
        obtain ⟨es, ck, tt, q1, q2, q3⟩ := g4
        refine ⟨es, ck, q1, ?_⟩
        have e1 := congrArg List.length q2
        have e2 := congrArg List.length q3.1
        simp at e1 e2
        rw [len_eq]; omega
    obtain ⟨es, ck, q1, q2⟩ := hmap
    have hm := (K.block _ (lt_of_some q1) id).trans q1
    refine ⟨by rw [ho]; rfl, ?_⟩
    simp [execOp, ho, resolve, invoke, builtin, Builtin.len_, g2, run_underlying d1, MapKept.run_getObj_map hm, goInt, Result.andThen, q2]
  · cases hr
end
end Go.KX
