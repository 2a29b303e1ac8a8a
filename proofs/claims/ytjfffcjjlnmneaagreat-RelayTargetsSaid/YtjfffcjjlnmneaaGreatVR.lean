/- The frame of a row: from a call that leaves the old blocks as they were to what the row says. -/
import Derived.Test.YtjfffcjjlnmneaaGreatVI
import Derived.ProofKit
import Derived.Deep.SlicePairs
import Derived.JoinedOf
namespace Go.KL
open Go.ChangeShapes Go.WideShapes Go.ChangeAt Go.RowKit
variable {H : Type} {enc : TypeId × Value → H} {P : Program}

/-- In an old heap all that lies there is there. -/
theorem St.start (W : World) : St ⟨W, [], fun b => W.heap[b]?⟩ (fun b => W.heap[b]?) [] W where
  os := rfl
  tape := TapeLe.refl W
  output := rfl
  size := Nat.le_refl _
  old := fun _ _ _ => rfl
  fro := fun _ _ h => h
  le := fun _ _ h => h
  src := fun _ _ h => .inl h
  at_ := fun _ h => by cases h
  own := fun _ h => by cases h
  dj := fun i j r s b h => by simp at h

theorem trodAll_stays (hl : laidOutB P = true) {W W' : World} (hb : Below W.heap.size W W') {sp : Nat → Bool} : ∀ {ts : List TypeId} {vs : List Value} {ds : List (DataW H)} {ps : List MemPlace},
    (∀ t ∈ ts, P.readableRec t = true ∧ t < P.types.size) → DataW.TrodAll enc P W 0 (fun _ => true) true ts vs ds ps → (∀ p ∈ ps, p.block < W.heap.size) → (∀ p ∈ ps, sp p.block = true) → DataW.TrodAll enc P W' 0 sp true ts vs ds ps
  | [], [], [], _, _, h, _, _ => h
  | _ :: _, _ :: _, _ :: _, _, hT, ⟨p, q, h1, h2, e⟩, hlt, hs =>
    ⟨p, q, WideElems.Trod_stays hl (hT _ (List.mem_cons.2 (Or.inl rfl))).1 (hT _ (List.mem_cons.2 (Or.inl rfl))).2 h1 (fun x hx => hb.same (hlt x (by rw [e]; exact List.mem_append_left _ hx))) (fun x hx => hs x (by rw [e]; exact List.mem_append_left _ hx)),
      trodAll_stays hl hb (fun t ht => hT t (List.mem_cons.2 (Or.inr ht))) h2 (fun x hx => hlt x (by rw [e]; exact List.mem_append_right _ hx)) (fun x hx => hs x (by rw [e]; exact List.mem_append_right _ hx)), e⟩

/-- A function that answers a bool, and leaves the old blocks as they were. -/
theorem post_bool {f : Func} {s : ChangeSpec} {apart fresh handsOn again : Bool} {W W' : World} {args : Array Value} {ds gs : List (DataW H)} {before : List MemPlace}
    (hW : DataW.Whole enc P f.params.toList s.vars apart W args.toList ds gs before) (hv : s.vars = []) (hl : laidOutB P = true) (hT : ∀ t ∈ f.params.toList, P.readableRec t = true ∧ t < P.types.size)
    {t : TypeId} (hr : f.resultTypes = #[t]) (ht : P.underlying t = some .bool) (b : Bool) (h1 : (s.fn H (ds ++ gs)).results = [.lit (.bool b)]) (h2 : (s.fn H (ds ++ gs)).args = ds) (h3 : (s.fn H (ds ++ gs)).vars = [])
    (hk : Keep W W' Non) : s.post enc P f apart fresh handsOn again W args (.bool b) W' := by
  have hlt := hW.lt
  have hW0 := hW
  obtain ⟨p, q, hA, hV, rfl, hz, hn⟩ := hW
  rw [hv] at hV
  obtain ⟨rfl, rfl⟩ := trodVars_none hV
  simp only [List.append_nil] at hlt hz hn hW0
  have hargs : ∀ sp : Nat → Bool, (∀ x ∈ p, sp x.block = true) → DataW.TrodAll enc P W' 0 sp true f.params.toList args.toList (s.fn H (ds ++ [])).args p := by
    intro sp hsp
    rw [h2]
    exact trodAll_stays hl hk.below hT hA hlt hsp
  have hres : ∀ (b0 : Nat) (sp : Nat → Bool) (hd : Bool), DataW.TrodAll enc P W' b0 sp hd f.resultTypes.toList ((Value.bool b).resultList f.resultTypes.size) (s.fn H (ds ++ [])).results [] := by
    intro b0 sp hd
    rw [h1, hr]
    exact trodAll_mk1 (shut_bool ht b)
  have hvars : ∀ sp : Nat → Bool, DataW.TrodVars enc P W' sp s.vars (s.fn H (ds ++ [])).vars [] := by
    intro sp
    rw [h3, hv]
    exact rfl
  have hold : ∀ x ∈ p, (fun b => decide (b < W.heap.size)) x.block = true := fun x hx => by simpa using hlt x hx
  refine ⟨ds, [], p, [], p, [], by simpa using hW0, hres _ _ _, hargs _ hold, hvars _, hk.below.frame _, fun _ => ?_⟩
  refine ⟨ok_one hr rfl (okWide_bool_mk ht b), _, _, [] ++ p ++ [], ⟨[] ++ p, [], trodAll_append (hargs _ (fun _ _ => rfl)) (hres _ _ _), hvars _, rfl, ?_, ?_⟩, ?_⟩
  · intro b' off hp
    have hp' : MemPlace.cell b' off ∈ p := by simpa using hp
    rw [hk.below.frozen (p := ⟨b', off, none⟩) (hlt _ hp')]
    exact hz b' off hp'
  · intro ha
    simpa using hn ha
  · intro x hx _
    simpa using hx

theorem sl_of_cells {W : World} {a : Addr} {len cap sz : Nat} {cs : List Value} (hsz : 0 < sz) (hlen : cs.length = len * sz) (hcap : len ≤ cap) (hc : ∀ (j : Nat) (v : Value), cs[j]? = some v → W.cell? (a.add j) = some v) :
    Sl (fun b => W.heap[b]?) sz (some a) cap len cs := by
  by_cases h0 : cs = []
  · subst h0
    have : len * sz = 0 := by simpa using hlen.symm
    rcases Nat.mul_eq_zero.1 this with h | h
    · exact ⟨hlen, hcap, .inl h⟩
    · omega
  · refine ⟨hlen, hcap, .inr ?_⟩
    have hpos : 0 < cs.length := List.length_pos_iff.2 h0
    have g0 := hc 0 _ (List.getElem?_eq_getElem hpos)
    have ha : a.add 0 = a := by simp [Addr.add]
    rw [ha] at g0
    obtain ⟨b, off, spot⟩ := a
    have hs := World.cell?_spot g0
    simp only at hs
    subst hs
    unfold World.cell? at g0
    split at g0
    · rename_i arr T fr hb
      refine ⟨b, off, arr, T, fr, rfl, hb, ?_⟩
      apply List.ext_getElem?
      intro j
      rw [List.getElem?_take]
      rcases Nat.lt_or_ge j cs.length with hj | hj
      · rw [if_pos (by omega), List.getElem?_drop, Array.getElem?_toList]
        have := hc j _ (List.getElem?_eq_getElem hj)
        rw [add_plain] at this
        unfold World.cell? at this
        simp only [hb] at this
        rw [List.getElem?_eq_getElem hj]
        simpa using this
      · rw [if_neg (by omega), List.getElem?_eq_none hj]
    · cases g0

theorem flat_at {α : Type} {f : α → List Value} {sz : Nat} (hf : ∀ x, (f x).length = sz) (X : Nat → α) : ∀ (n j : Nat) (v : Value), ((List.range n).flatMap fun i => f (X i))[j]? = some v → ∃ k i, k < n ∧ i < sz ∧ j = k * sz + i ∧ (f (X k))[i]? = some v
  | 0, j, v, h => by simp at h
  | n + 1, j, v, h => by
    rw [List.range_succ, List.flatMap_append] at h
    have hL : ((List.range n).flatMap fun i => f (X i)).length = n * sz := by
      rw [List.length_flatMap]
      simp [hf, List.map_const']
    rcases Nat.lt_or_ge j (n * sz) with hlt | hge
    · rw [List.getElem?_append_left (by omega)] at h
      obtain ⟨k, i, h1, h2, h3, h4⟩ := flat_at hf X n j v h
      exact ⟨k, i, by omega, h2, h3, h4⟩
    · rw [List.getElem?_append_right (by omega), hL] at h
      simp only [List.flatMap_cons, List.flatMap_nil, List.append_nil] at h
      have hj := (List.getElem?_eq_some_iff.1 h).1
      rw [hf] at hj
      exact ⟨n, j - n * sz, by omega, hj, by omega, h⟩

/-- A slice among cells that are handed in, whose elements are all alike. -/
theorem open_flat0 {α : Type} [Inhabited α] {f : α → List Value} {sz : Nat} {t e : TypeId} {W : World} {cs : List Value} {n : Nat} {y : DataW H × List MemPlace} (hsz : 0 < sz) (hf : ∀ x, (f x).length = sz) (ht : P.underlying t = some (.slice e)) (ce : P.cellsOf e = sz) (Good : α → Prop)
    (hel : ∀ n cs y, DataW.trod enc P W 0 (fun _ => true) true n e cs = some y → ∃ x, cs = f x ∧ Good x) (hn : DataW.trod enc P W 0 (fun _ => true) true n t cs = some y) :
    ∃ (A : Option Addr) (c : Nat) (xs : List α), cs = [.slice A xs.length c] ∧ Sl (fun b => W.heap[b]?) sz A c xs.length (xs.flatMap f) ∧ ∀ x ∈ xs, Good x := by
  rcases Deep.open_slice ht hn with ⟨h1, _⟩ | ⟨a', len, cap, m, k, D, Pl, h1, _, hl, _, hm, _, hc⟩
  · exact ⟨none, 0, [], h1, Sl.nil _ _ _ _, fun _ h => by cases h⟩
  · simp only [if_true] at hm
    subst hm
    have each : ∀ i, i < len → ∃ x : α, Good x ∧ ∀ j, j < sz → W.cell? (a'.add (i * sz + j)) = (f x)[j]? := by
      intro i hi
      obtain ⟨cs, c0, t0⟩ := hc i (by omega)
      obtain ⟨x, rfl, hg⟩ := hel _ _ _ t0
      obtain ⟨_, _, hcell⟩ := World.cells?_some c0
      refine ⟨x, hg, fun j hj => ?_⟩
      have := hcell j (by omega)
      rw [Deep.add_add, ce] at this
      exact this
    obtain ⟨X, hX⟩ := Deep.choose_lt each
    have hlen : ((List.range len).map X).length = len := by simp
    refine ⟨some a', m, (List.range len).map X, by rw [hlen]; exact h1, ?_, fun x hx => ?_⟩
    · rw [hlen]
      have hfl : ((List.range len).map X).flatMap f = (List.range len).flatMap fun i => f (X i) := by rw [List.flatMap_map]
      rw [hfl]
      refine sl_of_cells hsz ?_ hl ?_
      · rw [List.length_flatMap]
        simp [hf, List.map_const']
      · intro j v hj
        obtain ⟨k, i, h1, h2, rfl, h4⟩ := flat_at hf X len j v hj
        rw [(hX k h1).2 i h2, h4]
    · obtain ⟨i, hi, rfl⟩ := List.mem_map.1 hx
      exact (hX i (List.mem_range.1 hi)).1
/-- A slice that is handed in, whose elements are all alike. -/
theorem open_flat {α : Type} [Inhabited α] {f : α → List Value} {sz : Nat} {t e : TypeId} {W : World} {v : Value} {d : DataW H} {ps : List MemPlace} (hsz : 0 < sz) (hf : ∀ x, (f x).length = sz) (ht : P.underlying t = some (.slice e)) (ce : P.cellsOf e = sz) (Good : α → Prop)
    (hel : ∀ n cs y, DataW.trod enc P W 0 (fun _ => true) true n e cs = some y → ∃ x, cs = f x ∧ Good x) (h : DataW.Trod enc P W 0 (fun _ => true) true t v d ps) (hv : ∃ a len cap, v = .slice a len cap) :
    ∃ (A : Option Addr) (c : Nat) (xs : List α), v = .slice A xs.length c ∧ Sl (fun b => W.heap[b]?) sz A c xs.length (xs.flatMap f) ∧ ∀ x ∈ xs, Good x := by
  obtain ⟨n, hn⟩ := h
  obtain ⟨a, len, cap, rfl⟩ := hv
  have hcs : (Value.slice a len cap).cells.toList = [Value.slice a len cap] := by simp [Value.cells]
  rw [hcs] at hn
  obtain ⟨A, c, xs, h1, h2, h3⟩ := open_flat0 hsz hf ht ce Good hel hn
  simp only [List.cons.injEq, and_true] at h1
  exact ⟨A, c, xs, h1, h2, h3⟩
theorem trod_fields {w : World} {base : Nat} {spare : Nat → Bool} {held : Bool} {t : TypeId} {fs : Array Field} {fuel : Nat} {cs : List Value} {x : DataW H × List MemPlace} (ht : P.underlying t = some (.struct fs)) (h : DataW.trod enc P w base spare held fuel t cs = some x) :
    cs.length = P.cellsOf t ∧ ∃ n, ∀ (i : Nat) (f : Field), fs[i]? = some f → ∃ y, DataW.trod enc P w base spare held n f.type ((cs.drop f.offset).take (P.cellsOf f.type)) = some y := by
  obtain ⟨xs, n, _, _, h1, h2, h3⟩ := DataW.trod_struct ht h
  refine ⟨h1, n, fun i f hf => ?_⟩
  have hi : i < fs.size := by
    rcases Nat.lt_or_ge i fs.size with hlt | hge
    · exact hlt
    · rw [Array.getElem?_eq_none hge] at hf; cases hf
  exact ⟨xs[i]'(by omega), by rw [h3 i f hf, List.getElem?_eq_getElem]⟩
/-- What the kernel tells of a row beside the parts that look at the whole program. -/
def lightFacts (P : Program) (fn : Func) (s : ChangeSpec) (c : OpenClaim) : Bool :=
  c.wf (OpenSpec.ofChange s) &&
  fn.params.all (P.readableRec ·) && namedTie P c.named s.vars &&
  (c.stops == []) && (c.knobs == []) &&
  (c.maps == (fn.params.toList ++ s.plain.varTypes P).any (P.mapsRec ·)) && (c.ifaces == (fn.params.toList ++ s.plain.varTypes P).any (P.ifacesRec ·)) && (c.mapsOut == P.mapsAmong fn.resultTypes.toList) &&
  (c.loops == (fn.params.toList ++ s.plain.varTypes P).any (P.loopsFrom ·)) && (c.wideKeys == (fn.params.toList ++ s.plain.varTypes P ++ fn.resultTypes.toList).any (P.wideKeysFrom ·)) &&
  s.vars.all (P.varReadable ·) && fn.resultTypes.all (fun t => P.readableRec t && decide (t < P.types.size)) && (c.ifacesOut == fn.resultTypes.toList.any (P.ifacesRec ·)) && (c.loopsOut == fn.resultTypes.toList.any (P.loopsFrom ·)) && c.shortTexts.isNone && (P.make == some c.make) && (c.kinds == (if c.domain.isEmpty then [] else fn.params.toList.map fun t => match P.underlying t with | some (.int k) => some k | _ => none)) && (c.pinned == c.pinnedBy) &&
  (c.veiled == (fn.params.toList ++ s.plain.varTypes P ++ fn.resultTypes.toList).any (P.veiledRec ·)) && c.veiledFits P fn.params.toList (fn.params.toList ++ s.plain.varTypes P ++ fn.resultTypes.toList)
theorem joined_of {f : FuncId} {fn : Func} {s : ChangeSpec} {c : OpenClaim} (h1 : laidOutB P = true) (h2 : mapsRowed P = true) (h3 : (P.stops == []) = true) (h4 : (P.stopKnobs == []) = true) (h5 : (c.inPlace == P.inPlace f) = true) (h6 : (c.unfollowed == P.unfollowed f) = true) (h7 : (c.recurses == P.recurses f) = true)
    (h8 : (c.named == P.varsNamed f) = true) (h9 : (c.plainKeys == P.plainKeys) = true) (h10 : P.stopsHeard = true) (h11 : P.mayEnter = true) (h12 : (c.lifted == P.liftsFinal) = true) (l : lightFacts P fn s c = true) : joinedFacts P f fn s c = true := by
  unfold lightFacts at l
  unfold joinedFacts
  rw [h1, h2, h3, h4, h5, h6, h7, h8, h9, h10, h11, h12]
  simp only [Bool.and_true]
  exact l
end Go.KL
