/- Where no numbers exist that links allow, 'target.round' returns a closed way whose sum is below 0. -/
import Derived.Test.YtaoaelhmiggepaaPRound
import Derived.Test.YtaoaelhmiggepaaPIter
namespace Go.Proofs.Ytaoaelhmiggepaa
open Go.KL

/-- Places after p - 1 passes and j links of the next one. -/
structure BF (n : Nat) (ks : List T_target_link) (p j T : Nat) (b low : Arr Int 9) (pu t : Nat → Nat) : Prop where
  rel : ∀ i (h : i < ks.length) w, ks[i].count () = some w → low.get ks[i].to_.toNat ≤ low.get ks[i].from_.toNat + w ∨ (i < j ∧ p ≤ pu ks[i].from_.toNat) ∨ (j ≤ i ∧ p ≤ pu ks[i].from_.toNat + 1)
  pl : ∀ v, v ≤ n → pu v ≤ p
  br : ∀ v, v ≤ n → 1 ≤ pu v → ∃ (i : Nat) (h : i < ks.length), ∃ w, b.get v = i ∧ ks[i].to_.toNat = v ∧ ks[i].count () = some w ∧ pu v ≤ pu ks[i].from_.toNat + 1 ∧ low.get ks[i].from_.toNat + w ≤ low.get v ∧ (t v ≤ t ks[i].from_.toNat → low.get ks[i].from_.toNat + w < low.get v)
  tT : ∀ v, v ≤ n → t v ≤ T
  up : ∀ v, v ≤ n → low.get v ≤ 0
  dn : ∀ v, v ≤ n → -(100 * (T : Int)) ≤ low.get v

section
variable {n : Nat} {ks : List T_target_link} {p j T : Nat} {b low : Arr Int 9} {pu t : Nat → Nat}
theorem BF.stay (B : BF n ks p j T b low pu t) (hj : j < ks.length) {w : Int} (hw : ks[j].count () = some w) (hc : ¬ low.get ks[j].from_.toNat + w < low.get ks[j].to_.toNat) : BF n ks p (j + 1) (T + 1) b low pu t := by
  refine ⟨fun i h w' hw' => ?_, B.pl, B.br, fun v hv => by have := B.tT v hv; omega, B.up, fun v hv => by have := B.dn v hv; omega⟩
  by_cases e : i = j
  · subst e
    rw [hw] at hw'
    cases hw'
    exact .inl (by omega)
  · rcases B.rel i h w' hw' with h1 | ⟨h1, h2⟩ | ⟨h1, h2⟩
    · exact .inl h1
    · exact .inr (.inl ⟨by omega, h2⟩)
    · exact .inr (.inr ⟨by omega, h2⟩)
theorem BF.move (hn : n ≤ 8) (hk : ∀ k ∈ ks, lkOk n k) (B : BF n ks p j T b low pu t) (hp : 1 ≤ p) (hj : j < ks.length) {w : Int} (hw : ks[j].count () = some w) (hc : low.get ks[j].from_.toNat + w < low.get ks[j].to_.toNat) :
    BF n ks p (j + 1) (T + 1) (b.set ks[j].to_.toNat (j : Int)) (low.set ks[j].to_.toNat (low.get ks[j].from_.toNat + w)) (fun v => if v = ks[j].to_.toNat then p else pu v) (fun v => if v = ks[j].to_.toNat then T + 1 else t v) := by
  obtain ⟨f0, f1, t0, t1, w0, hw0, w1, w2⟩ := hk _ (List.getElem_mem hj)
  rw [hw] at hw0
  cases hw0
  have hrel := B.rel j hj w hw
  generalize hv0 : ks[j].to_.toNat = v0 at *
  generalize hu0 : ks[j].from_.toNat = u0 at *
  have v0n : v0 ≤ n := by omega
  have u0n : u0 ≤ n := by omega
  have gl : ∀ v, v ≤ n → (low.set v0 (low.get u0 + w)).get v = if v = v0 then low.get u0 + w else low.get v := fun v hv => get_set9 _ _ (by omega) (by omega)
  have gb : ∀ v, v ≤ n → (b.set v0 (j : Int)).get v = if v = v0 then (j : Int) else b.get v := fun v hv => get_set9 _ _ (by omega) (by omega)
  have hpu : p ≤ pu u0 + 1 := by
    rcases hrel with h | ⟨h, _⟩ | ⟨_, h⟩ <;> omega
  have mono : ∀ v, v ≤ n → (low.set v0 (low.get u0 + w)).get v ≤ low.get v := fun v hv => by
    rw [gl v hv]
    split
    · rename_i h; subst h; omega
    · omega
  have pmono : ∀ v, v ≤ n → pu v ≤ (if v = v0 then p else pu v) := fun v hv => by
    split
    · rename_i h; subst h; exact B.pl _ hv
    · exact Nat.le_refl _
  have hfr : ∀ i (h : i < ks.length), ks[i].from_.toNat ≤ n ∧ ks[i].to_.toNat ≤ n := fun i h => by
    obtain ⟨g0, g1, g2, g3, _⟩ := hk _ (List.getElem_mem h)
    omega
  refine ⟨fun i h w' hw' => ?_, fun v hv => ?_, fun v hv h1 => ?_, fun v hv => ?_, fun v hv => ?_, fun v hv => ?_⟩
  · obtain ⟨fn, tn⟩ := hfr i h
    have old := B.rel i h w' hw'
    by_cases ef : ks[i].from_.toNat = v0
    · rw [if_pos ef]
      by_cases ei : i < j + 1
      · exact .inr (.inl ⟨ei, Nat.le_refl _⟩)
      · exact .inr (.inr ⟨by omega, by omega⟩)
    · rw [if_neg ef, gl _ fn, if_neg ef]
      by_cases ei : i = j
      · subst ei
        rw [hw] at hw'
        cases hw'
        left
        rw [hv0, hu0, gl _ v0n, if_pos rfl]
        exact Int.le_refl _
      · have := mono _ tn
        rcases old with h1 | ⟨h1, h2⟩ | ⟨h1, h2⟩
        · exact .inl (by omega)
        · exact .inr (.inl ⟨by omega, h2⟩)
        · exact .inr (.inr ⟨by omega, h2⟩)
  · split
    · exact Nat.le_refl _
    · exact B.pl v hv
  · by_cases e : v = v0
    · subst e
      refine ⟨j, hj, w, ?_, hv0, hw, ?_, ?_, ?_⟩
      · rw [gb _ hv, if_pos rfl]
      · rw [hu0, if_pos rfl]
        have := pmono u0 u0n
        omega
      · rw [hu0, gl v hv, if_pos rfl]
        have := mono u0 u0n
        omega
      · rw [hu0, gl v hv, if_pos rfl, if_pos rfl]
        by_cases eu : u0 = v
        · subst eu
          rw [gl _ hv, if_pos rfl]
          omega
        · rw [if_neg eu]
          have := B.tT u0 u0n
          omega
    · rw [if_neg e] at h1
      obtain ⟨i, h, w', a1, a2, a3, a4, a5, a6⟩ := B.br v hv h1
      obtain ⟨fn, tn⟩ := hfr i h
      refine ⟨i, h, w', ?_, a2, a3, ?_, ?_, ?_⟩
      · rw [gb _ hv, if_neg e, a1]
      · rw [if_neg e]
        have := pmono _ fn
        omega
      · rw [gl v hv, if_neg e]
        have := mono _ fn
        omega
      · rw [gl v hv, if_neg e, if_neg e]
        by_cases ef : ks[i].from_.toNat = v0
        · rw [ef, gl _ v0n, if_pos rfl, if_pos rfl]
          rw [ef] at a5
          intro _
          omega
        · rw [if_neg ef, gl _ fn, if_neg ef]
          exact a6
  · split
    · exact Nat.le_refl _
    · have := B.tT v hv; omega
  · have := mono v hv
    have := B.up v hv
    omega
  · rw [gl v hv]
    split
    · have := B.dn u0 u0n; omega
    · have := B.dn v hv; omega

/-- One pass over all links. -/
theorem bfpass (hn : n ≤ 8) (hk : ∀ k ∈ ks, lkOk n k) (hl : ks.length ≤ 1000) (hp : 1 ≤ p) (hT : T + ks.length ≤ 100000) (B : BF n ks p 0 T b low pu t) :
    ∃ by' low' last pu' t', forR' 0 (↑ks.length : Int) (fun k62 (a59, a60, x61) =>
      ((idx ks (↑k62 : Int)).bind fun x91 =>
      (chk x91.from_ 9).bind fun _ =>
      (chk x91.to_ 9).bind fun _ =>
      (x91.count ()).bind fun x123 =>
      if (w64 ((a60.get x91.from_.toNat) + x123)) < (a60.get x91.to_.toNat) then
        (x91.count ()).bind fun x138 =>
        some ((a59.set x91.to_.toNat (↑k62 : Int)), (a60.set x91.to_.toNat (w64 ((a60.get x91.from_.toNat) + x138))), x91.to_)
      else
        some (a59, a60, x61)).bind fun (a91, a92, x93) => some (a91, a92, x93)) (b, low, -1) = some (by', low', last) ∧ BF n ks p ks.length (T + ks.length) by' low' pu' t' ∧
      ((last < 0 ∧ Feas ks fun v => low'.get v) ∨ (0 ≤ last ∧ last ≤ n ∧ pu' last.toNat = p)) := by
  rw [forR'_list (by omega)]
  obtain ⟨⟨b', low', last⟩, g1, pu', t', g2, g3⟩ := forN'_inv (S := Arr Int 9 × Arr Int 9 × Int) (body := fun k62 (a59, a60, x61) =>
      ((idx ks (↑k62 : Int)).bind fun x91 =>
      (chk x91.from_ 9).bind fun _ =>
      (chk x91.to_ 9).bind fun _ =>
      (x91.count ()).bind fun x123 =>
      if (w64 ((a60.get x91.from_.toNat) + x123)) < (a60.get x91.to_.toNat) then
        (x91.count ()).bind fun x138 =>
        some ((a59.set x91.to_.toNat (↑k62 : Int)), (a60.set x91.to_.toNat (w64 ((a60.get x91.from_.toNat) + x138))), x91.to_)
      else
        some (a59, a60, x61)).bind fun (a91, a92, x93) => some (a91, a92, x93)) (fun i s => ∃ pu' t', BF n ks p i (T + i) s.1 s.2.1 pu' t' ∧
        ((s.2.2 < 0 ∧ ∀ k ∈ ks.take i, ∀ w, k.count () = some w → s.2.1.get k.to_.toNat - s.2.1.get k.from_.toNat ≤ w) ∨ (0 ≤ s.2.2 ∧ s.2.2 ≤ n ∧ pu' s.2.2.toNat = p))) ks.length 0 (b, low, -1)
    ⟨pu, t, B, .inl ⟨by show (-1 : Int) < 0; omega, fun k hk => by simp at hk⟩⟩
    (by
      rintro i ⟨b, low, last⟩ _ hi ⟨pu, t, B, q⟩
      simp only at B q
      have hlt : i < ks.length := by omega
      have hm : ks[i] ∈ ks := List.getElem_mem hlt
      obtain ⟨f0, f1, t0, t1, w, hw, w0, w1⟩ := hk _ hm
      have e : ks.take (i + 1) = ks.take i ++ [ks[i]] := by rw [List.take_add_one, List.getElem?_eq_getElem hlt]; rfl
      have c1 := B.dn ks[i].from_.toNat (by omega)
      have c2 := B.up ks[i].from_.toNat (by omega)
      have hw64 : w64 ((low.get ks[i].from_.toNat) + w) = low.get ks[i].from_.toNat + w := w64_in (by omega) (by omega)
      simp only
      rw [idx_nat, List.getElem?_eq_getElem hlt, Option.bind_some, chk_ok f0 (by omega), Option.bind_some, chk_ok t0 (by omega), Option.bind_some, hw, Option.bind_some, hw64]
      by_cases hc : low.get ks[i].from_.toNat + w < low.get ks[i].to_.toNat
      · rw [if_pos hc, Option.bind_some, hw64]
        exact ⟨_, rfl, _, _, B.move hn hk hp hlt hw hc, .inr ⟨t0, t1, if_pos rfl⟩⟩
      · rw [if_neg hc]
        refine ⟨_, rfl, pu, t, B.stay hlt hw hc, ?_⟩
        rcases q with ⟨q1, q2⟩ | q
        · refine .inl ⟨q1, fun k hk' w' hw' => ?_⟩
          rw [e] at hk'
          rcases List.mem_append.1 hk' with hk' | hk'
          · exact q2 k hk' w' hw'
          · have := List.mem_singleton.1 hk'
            subst this
            rw [hw] at hw'
            cases hw'
            simp only
            omega
        · exact .inr q)
  rw [Nat.zero_add] at g2
  refine ⟨b', low', last, pu', t', g1, g2, ?_⟩
  rcases g3 with ⟨g3, g4⟩ | g3
  · rw [Nat.zero_add, List.take_length] at g4
    exact .inl ⟨g3, g4⟩
  · exact .inr g3
theorem BF.next (B : BF n ks p ks.length T b low pu t) : BF n ks (p + 1) 0 T b low pu t := by
  refine ⟨fun i h w hw => ?_, fun v hv => by have := B.pl v hv; omega, B.br, B.tT, B.up, B.dn⟩
  rcases B.rel i h w hw with h1 | ⟨_, h2⟩ | ⟨h1, _⟩
  · exact .inl h1
  · exact .inr (.inr ⟨Nat.zero_le _, by omega⟩)
  · omega
end

theorem pigeon : ∀ (n : Nat) (f : Nat → Nat), (∀ k, k ≤ n + 1 → f k ≤ n) → ∃ i j, i < j ∧ j ≤ n + 1 ∧ f i = f j
  | 0, f, h => ⟨0, 1, by omega, by omega, by have := h 0 (by omega); have := h 1 (by omega); omega⟩
  | n + 1, f, h => by
    rcases Classical.em (∃ i, i ≤ n + 1 ∧ f i = f (n + 2)) with ⟨i, h1, h2⟩ | hne
    · exact ⟨i, n + 2, by omega, by omega, h2⟩
    · have ne : ∀ i, i ≤ n + 1 → f i ≠ f (n + 2) := fun i hi e => hne ⟨i, hi, e⟩
      obtain ⟨i, j, h1, h2, h3⟩ := pigeon n (fun k => if f (n + 2) < f k then f k - 1 else f k) (fun k hk => by
        have := h k (by omega)
        have := h (n + 2) (by omega)
        have := ne k hk
        split <;> omega)
      refine ⟨i, j, h1, by omega, ?_⟩
      have a := ne i (by omega)
      have c := ne j h2
      split at h3 <;> split at h3 <;> omega

/-- A way whose links follow each other, the first one the last one. -/
def Closed (way : List T_target_link) : Prop := ∀ i a c, way[i]? = some a → way[(i + 1) % way.length]? = some c → a.to_ = c.from_
def wt (k : T_target_link) : Int := (k.count ()).getD 0
def wsum (way : List T_target_link) : Int := (way.map wt).sum

def sq (f : Nat → Nat) (v : Nat) : Nat → Nat
  | 0 => v
  | k + 1 => f (sq f v k)
theorem sq_per {f : Nat → Nat} {v i j : Nat} (h : sq f v i = sq f v j) : ∀ m, sq f v (i + m) = sq f v (j + m)
  | 0 => h
  | m + 1 => by
    show f (sq f v (i + m)) = f (sq f v (j + m))
    rw [sq_per h m]
theorem least_of {P : Nat → Prop} : ∀ d, P d → ∃ m, m ≤ d ∧ P m ∧ ∀ k, k < m → ¬ P k := by
  intro d
  induction d using Nat.strongRecOn with
  | ind d ih =>
    intro hd
    rcases Classical.em (∃ k, k < d ∧ P k) with ⟨k, h1, h2⟩ | h
    · obtain ⟨m, m1, m2, m3⟩ := ih k h1 h2
      exact ⟨m, by omega, m2, m3⟩
    · exact ⟨d, Nat.le_refl _, hd, fun k hk hp => h ⟨k, hk, hp⟩⟩

/-- What 'target.round' returns. -/
theorem round_some {n : Nat} (hn : n ≤ 8) {ks : List T_target_link} (hk : ∀ k ∈ ks, lkOk n k) (hl : ks.length ≤ 1000)
    (hrev : ∀ l : List T_target_Step, l.length ≤ 100 → m_slices_Reverse_target_Step_target_Step l = some l.reverse) :
    (m_target_round n ks = some [] ∧ ∃ x, Feas ks x) ∨
    ∃ way, way ≠ [] ∧ way.length ≤ n + 1 ∧ (∀ k ∈ way, k ∈ ks) ∧ Closed way ∧ wsum way < 0 ∧ m_target_round n ks = some (way.map (·.Step)) := by
  unfold m_target_round
  have hw : w64 ((n : Int) + 2) = ↑(n + 2) := by rw [w64_in (by omega) (by omega)]; rfl
  have hw1 : w64 ((n : Int) + 1) = ↑(n + 1) := by rw [w64_in (by omega) (by omega)]; rfl
  rw [hw, hw1, forR_list (by omega)]
  rcases forN_inv (S := Arr Int 9 × Arr Int 9 × Int) (B := List T_target_Step) (body := fun k25 (a22, a23, x24) =>
    (forR' 0 (↑ks.length : Int) (fun k62 (a59, a60, x61) =>
      ((idx ks (↑k62 : Int)).bind fun x91 =>
      (chk x91.from_ 9).bind fun _ =>
      (chk x91.to_ 9).bind fun _ =>
      (x91.count ()).bind fun x123 =>
      if (w64 ((a60.get x91.from_.toNat) + x123)) < (a60.get x91.to_.toNat) then
        (x91.count ()).bind fun x138 =>
        some ((a59.set x91.to_.toNat (↑k62 : Int)), (a60.set x91.to_.toNat (w64 ((a60.get x91.from_.toNat) + x138))), x91.to_)
      else
        some (a59, a60, x61)).bind fun (a91, a92, x93) => some (a91, a92, x93)) (a22, a23, -1)).bind fun (y67, y68, y69) =>
    if y69 < 0 then
      esc (some [])
    else
      some (.inl (y67, y68, y69))) (fun i s => ∃ pu t, BF n ks (i + 1) 0 (i * ks.length) s.1 s.2.1 pu t ∧ (1 ≤ i → 0 ≤ s.2.2 ∧ s.2.2 ≤ n ∧ pu s.2.2.toNat = i)) (fun b => b = [] ∧ ∃ x, Feas ks x) (n + 2) 0 (Arr.fill 9 0, Arr.fill 9 0, -1)
    ⟨fun _ => 0, fun _ => 0, ⟨fun i h w hw => .inr (.inr ⟨Nat.zero_le _, Nat.le_refl _⟩), fun v hv => Nat.zero_le _, fun v hv h => absurd h (by omega), fun v hv => Nat.zero_le _, fun v hv => by simp only; rw [get_fill9 _ (by omega)]; omega, fun v hv => by simp only; rw [get_fill9 _ (by omega)]; omega⟩, fun h => absurd h (by omega)⟩
    (by
      rintro i ⟨b, low, last⟩ _ hi ⟨pu, t, B, _⟩
      simp only at B
      have hi9 : i * ks.length ≤ 9 * ks.length := Nat.mul_le_mul_right _ (by omega)
      obtain ⟨b', low', last', pu', t', g1, g2, g3⟩ := bfpass hn hk hl (Nat.le_add_left 1 i) (by omega) B
      simp only
      rw [g1, Option.bind_some]
      simp only
      rcases g3 with ⟨g3, g4⟩ | ⟨g3, g4, g5⟩
      · rw [if_pos g3]
        exact .inr ⟨[], rfl, rfl, _, g4⟩
      · rw [if_neg (by omega)]
        refine .inl ⟨_, rfl, pu', t', ?_, fun _ => ⟨g3, g4, g5⟩⟩
        have := g2.next
        rwa [Nat.succ_mul]) with ⟨⟨b, low, last⟩, g1, pu, t, B, hlast⟩ | ⟨bb, g1, rfl, hx⟩
  · right
    rw [g1]
    simp only [jn_some_inl]
    simp only at B hlast
    obtain ⟨l0, l1, l2⟩ := hlast (by omega)
    rw [if_neg (by omega), forR'_list (by omega)]
    -- the link by which a place was lowered, and the place before
    let ei : Nat → Nat := fun v => (b.get v).toNat
    let fr : Nat → Nat := fun v => match ks[ei v]? with | some k => k.from_.toNat | none => 0
    have br : ∀ v, v ≤ n → 1 ≤ pu v → ∃ (h : ei v < ks.length), ∃ w, b.get v = (ei v : Int) ∧ ks[ei v].to_ = (v : Int) ∧ ks[ei v].from_ = (fr v : Int) ∧ fr v ≤ n ∧ ks[ei v].count () = some w ∧ pu v ≤ pu (fr v) + 1 ∧ low.get (fr v) + w ≤ low.get v ∧ (t v ≤ t (fr v) → low.get (fr v) + w < low.get v) := by
      intro v hv h1
      obtain ⟨i, h, w, a1, a2, a3, a4, a5, a6⟩ := B.br v hv h1
      have e : ei v = i := by show (b.get v).toNat = i; rw [a1]; rfl
      have ef : fr v = ks[i].from_.toNat := by
        show (match ks[ei v]? with | some k => k.from_.toNat | none => 0) = _
        rw [e, List.getElem?_eq_getElem h]
      obtain ⟨q0, q1, q2, q3, _⟩ := hk _ (List.getElem_mem h)
      have he : ei v < ks.length := by omega
      have ek : ks[ei v] = ks[i] := by simp only [e]
      refine ⟨he, w, by rw [e, a1], by rw [ek]; omega, by rw [ek, ef]; omega, by omega, by rw [ek]; exact a3, by rw [ef]; exact a4, by rw [ef]; exact a5, by rw [ef]; exact a6⟩
    have walk : ∀ k, k ≤ n + 1 → sq fr last.toNat k ≤ n ∧ n + 2 ≤ pu (sq fr last.toNat k) + k := by
      intro k
      induction k with
      | zero => intro _; exact ⟨by show last.toNat ≤ n; omega, by show n + 2 ≤ pu last.toNat + 0; omega⟩
      | succ k ih =>
        intro hk'
        obtain ⟨i1, i2⟩ := ih (by omega)
        obtain ⟨_, w, _, _, _, a4, _, a6, _⟩ := br _ i1 (by omega)
        exact ⟨a4, by show n + 2 ≤ pu (fr (sq fr last.toNat k)) + (k + 1); omega⟩
    have hback : forN' (fun k441 x440 =>
      (chk x440 9).bind fun _ =>
      (idx ks (b.get x440.toNat)).bind fun x466 =>
      some x466.from_) (n + 1) 0 last = some ((sq fr last.toNat (n + 1) : Nat) : Int) := by
      obtain ⟨z, z1, z2⟩ := forN'_inv (S := Int) (body := fun k441 x440 =>
        (chk x440 9).bind fun _ =>
        (idx ks (b.get x440.toNat)).bind fun x466 =>
        some x466.from_) (fun k z => z = ((sq fr last.toNat k : Nat) : Int)) (n + 1) 0 last (by show last = ((last.toNat : Nat) : Int); omega)
        (by
          intro k z _ hk' hz
          subst hz
          obtain ⟨i1, i2⟩ := walk k (by omega)
          obtain ⟨h, w, a1, a2, a3, _⟩ := br _ i1 (by omega)
          refine ⟨_, ?_, rfl⟩
          rw [chk_ok (by omega) (by omega), Option.bind_some, Int.toNat_natCast, a1, idx_nat, List.getElem?_eq_getElem h, Option.bind_some, a3]
          rfl)
      rw [z1, z2, Nat.zero_add]
    rw [hback, Option.bind_some]
    obtain ⟨i, j, hij, hj, he⟩ := pigeon n (fun k => sq fr last.toNat k) fun k hk' => (walk k hk').1
    -- the round
    let c : Nat → Nat := fun k => sq fr last.toNat (n + 1 + k)
    have cper : ∀ k, c (k + (j - i)) = c k := by
      intro k
      have := sq_per he (n + 1 - i + k)
      show sq fr last.toNat (n + 1 + (k + (j - i))) = sq fr last.toNat (n + 1 + k)
      rw [show n + 1 + (k + (j - i)) = j + (n + 1 - i + k) by omega, show n + 1 + k = i + (n + 1 - i + k) by omega, this]
    have cval : ∀ k, k ≤ j - i → c k ≤ n ∧ 1 ≤ pu (c k) := by
      intro k hk'
      have := sq_per he (n + 1 + k - j)
      have e : c k = sq fr last.toNat (n + 1 + k - (j - i)) := by
        have e1 : n + 1 + k = j + (n + 1 + k - j) := by omega
        have e2 : i + (n + 1 + k - j) = n + 1 + k - (j - i) := by omega
        exact (congrArg (sq fr last.toNat) e1).trans (this.symm.trans (congrArg (sq fr last.toNat) e2))
      obtain ⟨a1, a2⟩ := walk (n + 1 + k - (j - i)) (by omega)
      rw [e]
      exact ⟨a1, by omega⟩
    have cst : ∀ k, c (k + 1) = fr (c k) := fun k => rfl
    obtain ⟨d', d1, ⟨d2, d3⟩, d4⟩ := least_of (P := fun d => 1 ≤ d ∧ c d = c 0) (j - i) ⟨by omega, by have := cper 0; rwa [Nat.zero_add] at this⟩
    obtain ⟨d, rfl⟩ : ∃ d, d' = d + 1 := ⟨d' - 1, by omega⟩
    have cne : ∀ k, 1 ≤ k → k < d + 1 → c k ≠ c 0 := fun k h1 h2 e => d4 k h2 ⟨h1, e⟩
    have cb := fun k (hk' : k ≤ d) => br (c k) (cval k (by omega)).1 (cval k (by omega)).2
    have hE : ∀ k, ∃ E : T_target_link, k ≤ d → ks[ei (c k)]? = some E ∧ E ∈ ks ∧ b.get (c k) = (ei (c k) : Int) ∧ E.to_ = (c k : Int) ∧ E.from_ = (c (k + 1) : Int) ∧ E.count () = some (wt E) ∧ low.get (c (k + 1)) + wt E ≤ low.get (c k) ∧ (t (c k) ≤ t (c (k + 1)) → low.get (c (k + 1)) + wt E < low.get (c k)) := by
      intro k
      by_cases hk' : k ≤ d
      · obtain ⟨h, w, a1, a2, a3, a4, a5, a6, a7, a8⟩ := cb k hk'
        have ew : wt ks[ei (c k)] = w := by unfold wt; rw [a5]; rfl
        exact ⟨ks[ei (c k)], fun _ => ⟨List.getElem?_eq_getElem h, List.getElem_mem h, a1, a2, a3, by rw [ew]; exact a5, by rw [ew]; exact a7, by rw [ew]; exact a8⟩⟩
      · exact ⟨lnk 0 0 0 0 0, fun h => absurd h hk'⟩
    obtain ⟨E, hE⟩ := Classical.axiomOfChoice hE
    have hit : iter (fun (l513, x517) =>
      (chk x517 9).bind fun _ =>
      (idx ks (b.get x517.toNat)).bind fun x538 =>
      (app 16 l513 [x538.Step]).bind fun x568 =>
      if x538.from_ = ((sq fr last.toNat (n + 1) : Nat) : Int) then
        esc (some x568)
      else
        some (.inl (x568, x538.from_))) big ([], ((sq fr last.toNat (n + 1) : Nat) : Int)) = some ((List.range (d + 1)).map fun k => (E k).Step) := by
      have body : ∀ k, k ≤ d → ∀ S : Option (List T_target_Step × Int ⊕ List T_target_Step), S = (if (E k).from_ = ((c 0 : Nat) : Int) then
        esc (some (((List.range k).map fun k => (E k).Step) ++ [(E k).Step]))
      else
        some (.inl (((List.range k).map fun k => (E k).Step) ++ [(E k).Step], (E k).from_))) → ((chk ((c k : Nat) : Int) 9).bind fun _ =>
          (idx ks (b.get ((c k : Nat) : Int).toNat)).bind fun x538 =>
          (app 16 ((List.range k).map fun k => (E k).Step) [x538.Step]).bind fun x568 =>
          if x538.from_ = ((c 0 : Nat) : Int) then
            esc (some x568)
          else
            some (.inl (x568, x538.from_))) = S := by
        intro k hk' S hS
        obtain ⟨e1, e2, e3, e4, e5, _⟩ := hE k hk'
        have := (cval k (by omega)).1
        rw [hS, chk_ok (by omega) (by omega), Option.bind_some, Int.toNat_natCast, e3, idx_nat, e1, Option.bind_some, app_ok (by simp only [List.length_map, List.length_range, List.length_cons, List.length_nil]; omega), Option.bind_some]
      have rng : ∀ k, ((List.range k).map fun k => (E k).Step) ++ [(E k).Step] = (List.range (k + 1)).map fun k => (E k).Step := fun k => by rw [List.range_succ, List.map_append]; rfl
      refine iter_at (m := d) (fun k => ((List.range k).map fun k => (E k).Step, ((c k : Nat) : Int))) (fun k hk' => ?_) ?_ rfl (by omega)
      · obtain ⟨_, _, _, _, e5, _⟩ := hE k (by omega)
        refine body k (by omega) _ ?_
        have := cne (k + 1) (by omega) (by omega)
        rw [if_neg (by rw [e5]; omega), rng, e5]
      · obtain ⟨_, _, _, _, e5, _⟩ := hE d (by omega)
        refine body d (by omega) _ ?_
        rw [if_pos (by rw [e5, d3]), rng]
        rfl
    rw [hit, Option.bind_some, hrev _ (by rw [List.length_map, List.length_range]; omega), Option.bind_some]
    have hlen : (((List.range (d + 1)).map E).reverse).length = d + 1 := by rw [List.length_reverse, List.length_map, List.length_range]
    have hget : ∀ i a, (((List.range (d + 1)).map E).reverse)[i]? = some a → i < d + 1 ∧ a = E (d - i) := by
      intro i a ha
      have hi := (List.getElem?_eq_some_iff.1 ha).1
      rw [hlen] at hi
      rw [List.getElem?_reverse (by rw [List.length_map, List.length_range]; exact hi), List.getElem?_map, List.length_map, List.length_range, List.getElem?_range (by omega)] at ha
      refine ⟨hi, ?_⟩
      have := Option.some.inj ha
      rw [← this]
      congr 1
    have path : ∀ m, m ≤ d + 1 → low.get (c m) + ((List.range m).map fun k => wt (E k)).sum ≤ low.get (c 0) ∧ (m = 0 ∨ low.get (c m) + ((List.range m).map fun k => wt (E k)).sum < low.get (c 0) ∨ t (c m) < t (c 0)) := by
      intro m
      induction m with
      | zero => intro _; exact ⟨by simp, .inl rfl⟩
      | succ m ih =>
        intro hm
        obtain ⟨i1, i2⟩ := ih (by omega)
        obtain ⟨_, _, _, _, _, _, e7, e8⟩ := hE m (by omega)
        have es : ((List.range (m + 1)).map fun k => wt (E k)).sum = ((List.range m).map fun k => wt (E k)).sum + wt (E m) := by
          rw [List.range_succ, List.map_append, List.sum_append]
          simp
        rw [es]
        refine ⟨by omega, .inr ?_⟩
        by_cases ht : t (c m) ≤ t (c (m + 1))
        · have := e8 ht
          exact .inl (by omega)
        · rcases i2 with rfl | i2 | i2
          · exact .inr (by omega)
          · exact .inl (by omega)
          · exact .inr (by omega)
    refine ⟨((List.range (d + 1)).map E).reverse, fun e => ?_, by rw [hlen]; omega, fun k hk' => ?_, ?_, ?_, ?_⟩
    · have := congrArg List.length e
      rw [hlen] at this
      simp at this
    · rw [List.mem_reverse, List.mem_map] at hk'
      obtain ⟨m, h1, rfl⟩ := hk'
      exact (hE m (by have := List.mem_range.1 h1; omega)).2.1
    · intro i a k ha hk'
      rw [hlen] at hk'
      obtain ⟨h1, rfl⟩ := hget i a ha
      obtain ⟨h2, rfl⟩ := hget _ k hk'
      obtain ⟨_, _, _, e4, _⟩ := hE (d - i) (by omega)
      obtain ⟨_, _, _, _, e5, _⟩ := hE (d - (i + 1) % (d + 1)) (by omega)
      rw [e4, e5]
      by_cases ei' : i = d
      · rw [ei', Nat.mod_self]
        rw [show d - d = 0 by omega, show d - 0 + 1 = d + 1 by omega, d3]
      · rw [Nat.mod_eq_of_lt (by omega)]
        rw [show d - (i + 1) + 1 = d - i by omega]
    · have := path (d + 1) (Nat.le_refl _)
      rw [d3] at this
      have es : wsum ((List.range (d + 1)).map E).reverse = ((List.range (d + 1)).map fun k => wt (E k)).sum := by
        unfold wsum
        rw [List.map_reverse, List.sum_reverse, List.map_map]
        rfl
      rw [es]
      rcases this.2 with h | h | h
      · omega
      · omega
      · omega
    · rw [chkne_some (fun e => by have := congrArg List.length e; simp at this), Option.bind_some, List.map_reverse, List.map_map]
      rfl
  · left
    rw [g1]
    exact ⟨rfl, hx⟩
end Go.Proofs.Ytaoaelhmiggepaa
