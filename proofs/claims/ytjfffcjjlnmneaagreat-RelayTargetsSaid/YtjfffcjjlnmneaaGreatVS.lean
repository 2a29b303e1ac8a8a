/- Literals, results in memory, slices that are made and that grow; joins and loops. -/
import Derived.Test.YtjfffcjjlnmneaaGreatVC
namespace Go.KL
open Go.RowKit

section
variable {P : Program} {σ : Env} {w : World} {o : Oper}
theorem Runs.iaN {t e : TypeId} {x y : Operand} {A : Option Addr} {b off len cap sz k : Nat} (ho : o.op = .indexAddr t x y) (hx : ev σ x = .slice A len cap) (hA : A = some ⟨b, off, none⟩) (hy : ev σ y = .int .i64 (k : Int))
    (ht : ∀ w, (underlying t).run P w = .ok (.slice e) w) (hsz : ∀ w, (sizeOf e).run P w = .ok sz w) (h1 : k < len) : Runs P σ w o (.pointer (some ⟨b, off + k * sz, none⟩)) w := by
  subst hA
  have := Runs.ia (P := P) (w := w) ho hx hy ht hsz (by omega) (by omega)
  simpa using this
theorem Runs.iaI {t e : TypeId} {x y : Operand} {A : Option Addr} {b off len cap sz : Nat} {i : Int} (ho : o.op = .indexAddr t x y) (hx : ev σ x = .slice A len cap) (hA : A = some ⟨b, off, none⟩) (hy : ev σ y = .int .i64 i)
    (ht : ∀ w, (underlying t).run P w = .ok (.slice e) w) (hsz : ∀ w, (sizeOf e).run P w = .ok sz w) (h0 : 0 ≤ i) (h1 : i < len) : Runs P σ w o (.pointer (some ⟨b, off + i.toNat * sz, none⟩)) w := by
  subst hA
  exact Runs.ia ho hx hy ht hsz h0 h1
theorem mapnil2 : List.map (fun (p : Nat × Operand) => (p.1, ev σ p.2)) [] = [] := rfl
theorem mapcons2 {i : Nat} {x : Operand} {l : List (Nat × Operand)} {v : Value} {vs : List (Nat × Value)} (h : ev σ x = v) (ht : List.map (fun (p : Nat × Operand) => (p.1, ev σ p.2)) l = vs) :
    List.map (fun (p : Nat × Operand) => (p.1, ev σ p.2)) ((i, x) :: l) = (i, v) :: vs := by rw [List.map_cons, h, ht]
/-- Parts laid into cells, as lists. -/
def lay (place : Nat → Option (Nat × Nat)) : List Value → List (Nat × Value) → Option (List Value)
  | cells, [] => some cells
  | cells, (i, v) :: rest =>
    match place i with
    | none => none
    | some (off, size) => if v.cells.size == size && Nat.ble (off + size) cells.length then lay place (setN cells off v.cells.toList) rest else none
theorem foldl_set (vs : List Value) : ∀ (l : List Value) (off j : Nat), (vs.zipIdx j).foldl (fun (cs : Array Value) (c, i) => cs.setIfInBounds (off + i) c) l.toArray = (setN l (off + j) vs).toArray := by
  induction vs with
  | nil => intro l off j; rfl
  | cons v vs ih =>
    intro l off j
    simp only [List.zipIdx_cons, List.foldl_cons, List.setIfInBounds_toArray]
    rw [ih]
    simp [setN, Nat.add_assoc]
theorem fill_of_lay (place : Nat → Option (Nat × Nat)) (parts : List (Nat × Value)) : ∀ (cells : List Value) (cs : List Value), lay place cells parts = some cs → Instr.fill place cells.toArray parts = some cs.toArray := by
  induction parts with
  | nil => intro cells cs h; simp only [lay, Option.some.injEq] at h; subst h; rfl
  | cons p rest ih =>
    intro cells cs h
    obtain ⟨i, v⟩ := p
    unfold lay at h
    unfold Instr.fill
    cases hp : place i with
    | none => simp [hp] at h
    | some q =>
      obtain ⟨off, size⟩ := q
      simp only [hp] at h ⊢
      split at h
      · rename_i hc
        simp only [Bool.and_eq_true, beq_iff_eq] at hc
        have hle := Nat.le_of_ble_eq_true hc.2
        have hc1 := hc.1
        rw [if_neg (by rw [hc1]; simp; exact hle)]
        rw [← ih _ _ h]
        congr 1
        rw [← Array.foldl_toList, Array.toList_zipIdx]
        have := foldl_set v.cells.toList cells off 0
        simpa using this
      · cases h
/-- The places of a struct's fields. -/
def Places (P : Program) (fs : Array Field) (pl : List (Nat × Nat)) : Prop := ∀ w, ((fs.mapM fun f => do pure (f.offset, ← sizeOf f.type) : Sem (Array (Nat × Nat)))).run P w = .ok pl.toArray w
def PlacesT (P : Program) (t : TypeId) (pl : List (Nat × Nat)) : Prop := ∃ fs, (∀ w, (underlying t).run P w = .ok (.struct fs) w) ∧ Places P fs pl
theorem Runs.build {t : TypeId} {ps : List (Nat × Operand)} {pv : List (Nat × Value)} {zv : Value} {z cs : List Value} {pl : List (Nat × Nat)} (ho : o.op = .build t ps.toArray)
    (hp : List.map (fun (p : Nat × Operand) => (p.1, ev σ p.2)) ps = pv) (hz : ∀ w, (zeroValue t).run P w = .ok zv w) (hT : PlacesT P t pl)
    (hzc : zv.cells = z.toArray) (hl : lay (fun i => pl[i]?) z pv = some cs) : Runs P σ w o (.agg cs.toArray) w := by
  refine ⟨by rw [ho]; rfl, ?_⟩
  have hf := fill_of_lay _ _ _ _ hl
  obtain ⟨fs, hs, hpl⟩ := hT
  have hpl' := hpl w
  subst hp
  simp only [execOp, ho, Instr.build, Sem.run_bind, hz, Result.andThen_ok, hs, hpl', hzc, List.map_toArray, List.getElem?_toArray, hf, Sem.run_pure]
theorem Runs.buildA {t e n sz : Nat} {ps : List (Nat × Operand)} {pv : List (Nat × Value)} {zv : Value} {z cs : List Value} (ho : o.op = .build t ps.toArray)
    (hp : List.map (fun (p : Nat × Operand) => (p.1, ev σ p.2)) ps = pv) (hz : ∀ w, (zeroValue t).run P w = .ok zv w) (hs : ∀ w, (underlying t).run P w = .ok (.array n e) w) (hsz : ∀ w, (sizeOf e).run P w = .ok sz w)
    (hzc : zv.cells = z.toArray) (hl : lay (fun i => some (i * sz, sz)) z pv = some cs) : Runs P σ w o (.agg cs.toArray) w := by
  refine ⟨by rw [ho]; rfl, ?_⟩
  have hf := fill_of_lay _ _ _ _ hl
  subst hp
  simp only [execOp, ho, Instr.build, Sem.run_bind, hz, Result.andThen_ok, hs, hsz, hzc, List.map_toArray, hf, Sem.run_pure]
/-- A struct is made into another type of the same form. -/
theorem Runs.cvtS {s t : TypeId} {x : Operand} {v : Value} (ho : o.op = .convert s t x) (hx : ev σ x = v) (hr : (convert s t v).run P w = .ok v w) : Runs P σ w o v w :=
  ⟨by rw [ho]; rfl, by subst hx; simp only [execOp, ho, Sem.run_bind, hr, Result.andThen_ok, Sem.run_pure]⟩
end

/-! ### Results -/
def ResL (P : Program) (w : World) (σ : Env) : List ResultVar → List Value → Prop
  | [], [] => True
  | .tmp t :: rs, v :: vs => σ t = v ∧ ResL P w σ rs vs
  | .cell a t :: rs, v :: vs => (∃ ad, σ a = .pointer (some ad) ∧ (loadVar t ad).run P w = .ok v w) ∧ ResL P w σ rs vs
  | _, _ => False
theorem resL_mapM {P : Program} {w : World} {σ : Env} : ∀ (rs : List ResultVar) (vs : List Value), ResL P w σ rs vs →
    (rs.mapM (resOne σ)).run P w = .ok vs w := by
  intro rs
  induction rs with
  | nil => intro vs h; cases vs with
    | nil => simp
    | cons v vs => exact h.elim
  | cons r rs ih =>
    intro vs h
    cases vs with
    | nil => cases r <;> exact h.elim
    | cons v vs =>
      cases r with
      | tmp t =>
        obtain ⟨h1, h2⟩ := h
        simp [List.mapM_cons, ih vs h2, resOne, h1]
      | cell a t =>
        obtain ⟨⟨ad, h0, h1⟩, h2⟩ := h
        simp [List.mapM_cons, ih vs h2, resOne, h0, asAddr, h1]
theorem resL1 {P : Program} {w : World} {σ : Env} {r : ResultVar} {v : Value} (h : ResL P w σ [r] [v]) : (resRun #[r] σ).run P w = .ok v w := by
  have := resL_mapM _ _ h
  rw [show (#[r] : Array ResultVar) = [r].toArray from rfl]
  simp only [resRun, List.mapM_toArray, Sem.run_bind, Sem.run_map, this, Result.andThen_ok]
  simp
theorem resLn {P : Program} {w : World} {σ : Env} {rs : List ResultVar} {vs : List Value} (h : ResL P w σ rs vs) (hn : (vs.length == 1) = false) : (resRun rs.toArray σ).run P w = .ok (.tuple vs.toArray) w := by
  have := resL_mapM _ _ h
  simp only [resRun, List.mapM_toArray]
  simp [this]
  exact fun e => by rw [e] at hn; cases hn
theorem ldvar {P : Program} {w : World} {t T : TypeId} {b off : Nat} {l : List Value} {v : Value} (hag : ∀ w, (isAgg t).run P w = .ok false w) (hB : Blk w b T l) (hv : l[off]? = some v) :
    (loadVar t ⟨b, off, none⟩).run P w = .ok v w := by
  simp [loadVar, hag, load, Sem.run, hB.cell hv]
theorem ldvarA {P : Program} {w : World} {t T : TypeId} {b off n : Nat} {l vs : List Value} (hag : ∀ w, (isAgg t).run P w = .ok true w) (hsz : ∀ w, (sizeOf t).run P w = .ok n w) (hB : Blk w b T l)
    (hv : (l.drop off).take n = vs) (hn : vs.length = n) : (loadVar t ⟨b, off, none⟩).run P w = .ok (.agg vs.toArray) w := by
  simp [loadVar, hag, hsz, run_loadCells vs hn (hB.cells hv)]

section
variable {N : Nat} {P : Program} {l : List Oper} {Q : Post} {D : List Deferred} {ks : List Nat} {σ : Env} {w : World} {i d : Nat} {s : Sch} {o : Oper} {B : Base} {φ : PHeap} {L : List Res}
/-- A slice literal. -/
theorem OKS.buildSlice {t e n sz : Nat} {ps : List (Nat × Operand)} {pv : List (Nat × Value)} {z : Value} {zs cs : List Value} (ho : l[i]? = some o) (hd : o.dst = some d) (hN : Nat.blt d N = true) (hw : wanted l σ o = true) (hop : o.op = .buildSlice t n ps.toArray)
    (hp : List.map (fun (p : Nat × Operand) => (p.1, ev σ p.2)) ps = pv) (ht : ∀ w, (underlying t).run P w = .ok (.slice e) w) (hs : ∀ w, (sizeOf e).run P w = .ok sz w) (hz : ∀ w, (zeroValue e).run P w = .ok z w)
    (hn : Nat.ble (n * sz) 16777216 = true) (hn0 : Nat.blt 0 (n * sz) = true)
    (hzs : (List.range (n * sz)).map (fun i => z.cells[i % z.cells.size]!) = zs) (hl : lay (fun i => some (i * sz, sz)) zs pv = some cs) (hlen : cs.length = n * sz) (hS : St B φ L w)
    (k : ∀ w' b, St B φ (.row (some ⟨b, 0, none⟩) n e sz cs :: L) w' → OKS N P l Q D ks s (upd σ d (.slice (some ⟨b, 0, none⟩) n n)) w') : OKS N P l Q D ks (.fx i s .stop) σ w := by
  have hle := Nat.le_of_ble_eq_true hn
  have hn' : ¬ n * sz > 2 ^ 24 := by omega
  have hsz0 : 0 < n * sz := by simpa [Nat.blt_eq] using hn0
  have hn0' : ¬ n * sz = 0 := by omega
  have hf := fill_of_lay _ _ _ _ hl
  have hzs : (Array.range (n * sz)).map (z.cells[· % z.cells.size]!) = zs.toArray := by rw [← List.toArray_range, List.map_toArray, hzs]
  subst hp
  have hmax : n ≤ maxLen := by
    have h1 : 0 < sz := by
      rcases Nat.eq_zero_or_pos sz with h | h
      · subst h; omega
      · exact h
    have := Nat.le_mul_of_pos_right n h1
    have : (16777216 : Nat) ≤ maxLen := by decide
    omega
  refine OKS.v (v := .slice (some ⟨w.heap.size, 0, none⟩) n n) (w' := w.alloc (.cells cs.toArray e)) ho hd hN hw ⟨by rw [hop]; rfl, ?_⟩ (.inr (alloc_keep w _))
    (k _ _ (hS.new (alloc_keep w _) (.inr ⟨_, cs.toArray, rfl, alloc_blk w cs e, by rw [hlen]; exact Nat.le_refl _, hmax, by simp [hlen], by simp⟩) rfl (Nat.le_refl _)))
  simp only [execOp, hop, Instr.buildSlice, Sem.run_bind, ht, hs, hz, Result.andThen_ok, List.map_toArray, if_neg hn', if_neg hn0', Sem.run_pure, hzs, hf]
  simp [newRow, newObj, Sem.run, Result.andThen]
/-- A slice literal with no elements. -/
theorem OKS.buildSlice0 {t e : Nat} (sz : Nat) (ho : l[i]? = some o) (hd : o.dst = some d) (hN : Nat.blt d N = true) (hw : wanted l σ o = true) (hop : o.op = .buildSlice t 0 #[])
    (ht : ∀ w, (underlying t).run P w = .ok (.slice e) w) (hs : ∀ w, (sizeOf e).run P w = .ok sz w) (hS : St B φ L w)
    (k : ∀ w' b, St B φ (.row (some ⟨b, 0, none⟩) 0 e sz [] :: L) w' → OKS N P l Q D ks s (upd σ d (.slice (some ⟨b, 0, none⟩) 0 0)) w') : OKS N P l Q D ks (.fx i s .stop) σ w := by
  refine OKS.v (v := .slice (some ⟨w.heap.size, 0, none⟩) 0 0) (w' := w.alloc (.cells #[] e)) ho hd hN hw ⟨by rw [hop]; rfl, ?_⟩ (.inr (alloc_keep w _))
    (k _ _ (hS.new (alloc_keep w _) (.inr ⟨_, #[], rfl, alloc_blk w [] e, by simp, Nat.zero_le _, by simp, by simp⟩) rfl (Nat.le_refl _)))
  simp [execOp, hop, Instr.buildSlice, ht, hs, newRow, newObj, Sem.run, Result.andThen, Instr.fill]
  rw [show (Array.range 0) = #[] from rfl, Array.map_empty]
theorem St.srcR {j c T sz m : Nat} {A : Option Addr} {cs : List Value} (hS : St B φ L w) (hk : L[j]? = some (.row A c T sz cs)) (hz : 0 < sz) (hn : cs.length = m * sz) : m = 0 ∨ ∃ a, A = some a ∧ ∀ j u, cs[j]? = some u → w.cell? (a.add j) = some u := by
  rcases hS.at_ _ (List.mem_of_getElem? hk) with ⟨_, _, rfl⟩ | ⟨b, cur, rfl, h1, h2, h3, h4, h5⟩
  · left
    rcases Nat.eq_zero_or_pos m with h | h
    · exact h
    · have := Nat.mul_pos h hz; simp at hn; omega
  · right
    refine ⟨_, rfl, fun j u hj => ?_⟩
    rw [add_none, Nat.zero_add]
    exact hS.rowCell hk hj
theorem St.srcS {sz c m : Nat} {A : Option Addr} {cs : List Value} (hS : St B φ L w) (h : Sl φ sz A c m cs) : m = 0 ∨ ∃ a, A = some a ∧ ∀ j u, cs[j]? = some u → w.cell? (a.add j) = some u := by
  rcases h.mem with h0 | ⟨b, off, arr, T, fr, rfl, h2, h3⟩
  · exact .inl h0
  · right
    refine ⟨_, rfl, fun j u hj => ?_⟩
    rw [add_none]
    rw [← h3, List.getElem?_take] at hj
    split at hj
    · rw [List.getElem?_drop] at hj
      simpa [World.cell?, hS.fro _ _ h2] using hj
    · cases hj
/-- Some of the resources, in some order. -/
theorem St.pick (h : St B φ L w) (js : List Nat) (L' : List Res) (hn : js.Nodup) (hL : js.map (fun j => L[j]?) = L'.map some) : St B φ L' w := by
  have hlen : js.length = L'.length := by have := congrArg List.length hL; simpa using this
  have get : ∀ (i : Nat) (r : Res), L'[i]? = some r → ∃ j, js[i]? = some j ∧ L[j]? = some r := by
    intro i r hi
    have h1 : (L'.map some)[i]? = some (some r) := by rw [List.getElem?_map, hi]; rfl
    rw [← hL, List.getElem?_map] at h1
    cases hj : js[i]? with
    | none => rw [hj] at h1; cases h1
    | some j => rw [hj] at h1; simp only [Option.map_some, Option.some.injEq] at h1; exact ⟨j, rfl, h1⟩
  have mem : ∀ r ∈ L', r ∈ L := fun r hr => by
    obtain ⟨i, hi⟩ := List.getElem?_of_mem hr
    obtain ⟨j, _, h2⟩ := get i r hi
    exact List.mem_of_getElem? h2
  refine ⟨h.os, h.tape, h.output, h.size, h.old, h.fro, h.le, h.src, fun r hr => h.at_ r (mem r hr), fun r hr => h.own r (mem r hr), ?_⟩
  intro i j r s b hi hj hr hs
  obtain ⟨i', h1, h2⟩ := get i r hi
  obtain ⟨j', h3, h4⟩ := get j s hj
  have := h.dj _ _ r s b h2 h4 hr hs
  subst this
  exact (List.getElem?_inj (List.getElem?_eq_some_iff.1 h1).1 hn).1 (h1.trans h3.symm)
theorem oneCell_flatMap {α : Type} {enc : α → List Value} (h : ∀ x, (enc x).all (·.oneCell') = true) (xs : List α) : ∀ u ∈ xs.flatMap enc, u.oneCell' = true := by
  intro u hu
  obtain ⟨x, _, hx⟩ := List.mem_flatMap.1 hu
  exact List.all_eq_true.1 (h x) u hx
/-- append(x, y...) where x is owned; elements that hold no addresses. -/
theorem OKS.append {α : Type} {t e sz j c c2 bytes : Nat} {A A2 : Option Addr} {inf : TypeInfo} {z : Value} {x y : Operand} {enc : α → List Value} {xs ys zs : List α}
    (ho : l[i]? = some o) (hd : o.dst = some d) (hN : Nat.blt d N = true) (hw : wanted l σ o = true) (hop : o.op = .call { callee := .builtin .append, args := #[x, y], argTypes := #[t, t] })
    (ht : P.underlying t = some (.slice e)) (hi : P.info? e = some inf) (hz : inf.zero = some z) (hsize : inf.size = sz) (hzs : z.cells.size = sz) (hsz : Nat.blt 0 sz = true) (hby : inf.bytes = bytes) (hb0 : Nat.blt 0 bytes = true)
    (hS : St B φ L w) (hk : L[j]? = some (.row A c e sz (xs.flatMap enc))) (hx : ev σ x = .slice A xs.length c) (hy : ev σ y = .slice A2 ys.length c2)
    (hsrc : ys.length = 0 ∨ ∃ a, A2 = some a ∧ ∀ j u, (ys.flatMap enc)[j]? = some u → w.cell? (a.add j) = some u) (hel : ∀ x, (enc x).length = sz) (h1 : ∀ x, (enc x).all (·.oneCell') = true)
    (happ : app bytes xs ys = some zs) (hne : mustX (kOf ks i) = false)
    (k : ∀ A' c' w', St B φ (L.set j (.row A' c' e sz (zs.flatMap enc))) w' → OKS N P l Q D ks s (upd σ d (.slice A' zs.length c')) w') : OKS N P l Q D ks (.fx i s .stop) σ w := by
  obtain ⟨rfl, hb⟩ := app_eq happ
  have hb0' : 0 < bytes := by simpa [Nat.blt_eq] using hb0
  have hsz' : 0 < sz := by simpa [Nat.blt_eq] using hsz
  obtain ⟨A', c', w', r1, r2, r3, r4⟩ := run_append_row (P := P) (ty := o.type) (c2 := c2) ht hi hz hsize hzs hsz' (hS.at_ _ (List.mem_of_getElem? hk)) (flatMap_len hel xs) (flatMap_len hel ys) hsrc (oneCell_flatMap h1 ys) (by rw [hby]; exact hb) (by rw [hby]; exact hb0')
  refine OKS.v (v := .slice A' (xs ++ ys).length c') (w' := w') ho hd hN hw ⟨by rw [hop]; rfl, ?_⟩ (.inl hne) (k A' c' w' (hS.set hk r3 ?_ r4))
  · rw [List.length_append]
    simp [execOp, hop, resolve, invoke, builtin, hx, hy, r1, Result.andThen]
  · rw [List.flatMap_append]; exact r2
/-- The same in cells. -/
theorem OKS.appendC {t e sz j c c2 bytes n m : Nat} {A A2 : Option Addr} {inf : TypeInfo} {z : Value} {x y : Operand} {cs news : List Value}
    (ho : l[i]? = some o) (hd : o.dst = some d) (hN : Nat.blt d N = true) (hw : wanted l σ o = true) (hop : o.op = .call { callee := .builtin .append, args := #[x, y], argTypes := #[t, t] })
    (ht : P.underlying t = some (.slice e)) (hi : P.info? e = some inf) (hz : inf.zero = some z) (hsize : inf.size = sz) (hzs : z.cells.size = sz) (hsz : Nat.blt 0 sz = true) (hby : inf.bytes = bytes) (hb0 : Nat.blt 0 bytes = true)
    (hS : St B φ L w) (hk : L[j]? = some (.row A c e sz cs)) (hx : ev σ x = .slice A n c) (hn : cs.length = n * sz) (hy : ev σ y = .slice A2 m c2) (hm : news.length = m * sz)
    (hsrc : m = 0 ∨ ∃ a, A2 = some a ∧ ∀ j u, news[j]? = some u → w.cell? (a.add j) = some u) (h1 : ∀ u ∈ news, u.oneCell' = true)
    (hb : (n + m) * bytes ≤ 140737488355328) (hne : mustX (kOf ks i) = false)
    (k : ∀ A' c' w', St B φ (L.set j (.row A' c' e sz (cs ++ news))) w' → OKS N P l Q D ks s (upd σ d (.slice A' (n + m) c')) w') : OKS N P l Q D ks (.fx i s .stop) σ w := by
  have hb0' : 0 < bytes := by simpa [Nat.blt_eq] using hb0
  have hsz' : 0 < sz := by simpa [Nat.blt_eq] using hsz
  obtain ⟨A', c', w', r1, r2, r3, r4⟩ := run_append_row (P := P) (ty := o.type) (c2 := c2) ht hi hz hsize hzs hsz' (hS.at_ _ (List.mem_of_getElem? hk)) hn hm hsrc h1 (by rw [hby]; exact hb) (by rw [hby]; exact hb0')
  refine OKS.v (v := .slice A' (n + m) c') (w' := w') ho hd hN hw ⟨by rw [hop]; rfl, ?_⟩ (.inl hne) (k A' c' w' (hS.set hk r3 r2 r4))
  simp [execOp, hop, resolve, invoke, builtin, hx, hy, r1, Result.andThen]
end

section
variable {r : Option Nat} {N : Nat} {P : Program} {Q : Post} {D : List Deferred} {σ : Env} {w : World}
theorem CK.forN {S B : Type} {c : Code} {body : Nat → S → Option (S ⊕ B)} {n : Nat} {s0 : S} {b : S ⊕ B} (I : Nat → S → Env → World → Prop) (hm : forN body n 0 s0 = some b) (h0 : I 0 s0 σ w)
    (hs : ∀ k s x σ w, k < n → I k s σ w → body k s = some x → (∀ b', x = .inr b' → b = .inr b') → CK r N P c (thenQ (fun D' σ' w' => D' = D ∧ ∃ s', x = .inl s' ∧ I (k + 1) s' σ' w') Q) D σ w)
    (he : ∀ s σ w, I n s σ w → b = .inl s → CK r N P c (thenQ (fun _ _ _ => False) Q) D σ w) : CK r N P (.loop c) Q D σ w := by
  refine CK.loopM (fun m σ w => ∃ k s, k + m = n ∧ KL.forN body m k s = some b ∧ I k s σ w) (m := n) ⟨0, s0, by omega, hm, h0⟩ ?_
  rintro m σ w ⟨k, s, hk, hf, hI⟩
  cases m with
  | zero =>
    have e : k = n := by omega
    subst e
    simp only [KL.forN, Option.some.injEq] at hf
    refine (he s σ w hI hf.symm).mono fun D' e σ' w' hq => ?_
    cases e with
    | normal => exact hq.elim
    | _ => exact hq
  | succ m =>
    rw [KL.forN] at hf
    cases hx : body k s with
    | none => rw [hx] at hf; cases hf
    | some x =>
      rw [hx] at hf
      refine (hs k s x σ w (by omega) hI hx ?_).mono fun D' e σ' w' hq => ?_
      · rintro b' rfl; injection hf with hf; exact hf.symm
      · cases e with
        | normal =>
          obtain ⟨rfl, s', rfl, hI'⟩ := hq
          exact ⟨rfl, m, by omega, k + 1, s', by omega, hf, hI'⟩
        | _ => exact hq
theorem CK.forN' {S : Type} {c : Code} {body : Nat → S → Option S} {n : Nat} {s0 b : S} (I : Nat → S → Env → World → Prop) (hm : forN' body n 0 s0 = some b) (h0 : I 0 s0 σ w)
    (hs : ∀ k s x σ w, k < n → I k s σ w → body k s = some x → CK r N P c (thenQ (fun D' σ' w' => D' = D ∧ I (k + 1) x σ' w') Q) D σ w)
    (he : ∀ σ w, I n b σ w → CK r N P c (thenQ (fun _ _ _ => False) Q) D σ w) : CK r N P (.loop c) Q D σ w := by
  refine CK.loopM (fun m σ w => ∃ k s, k + m = n ∧ KL.forN' body m k s = some b ∧ I k s σ w) (m := n) ⟨0, s0, by omega, hm, h0⟩ ?_
  rintro m σ w ⟨k, s, hk, hf, hI⟩
  cases m with
  | zero =>
    have e : k = n := by omega
    subst e
    simp only [KL.forN', Option.some.injEq] at hf
    subst hf
    refine (he σ w hI).mono fun D' e σ' w' hq => ?_
    cases e with
    | normal => exact hq.elim
    | _ => exact hq
  | succ m =>
    rw [KL.forN'] at hf
    cases hx : body k s with
    | none => rw [hx] at hf; cases hf
    | some x =>
      rw [hx] at hf
      refine (hs k s x σ w (by omega) hI hx).mono fun D' e σ' w' hq => ?_
      cases e with
      | normal =>
        obtain ⟨rfl, hI'⟩ := hq
        exact ⟨rfl, m, by omega, k + 1, x, by omega, hf, hI'⟩
      | _ => exact hq
theorem CK.iter {S B : Type} {c : Code} {body : S → Option (S ⊕ B)} {n : Nat} {s0 : S} {b : B} (I : S → Env → World → Prop) (hm : iter body n s0 = some b) (h0 : I s0 σ w)
    (hs : ∀ s x σ w, I s σ w → body s = some x → (∀ b', x = .inr b' → b = b') → CK r N P c (thenQ (fun D' σ' w' => D' = D ∧ ∃ s', x = .inl s' ∧ I s' σ' w') Q) D σ w) : CK r N P (.loop c) Q D σ w := by
  refine CK.loopM (fun m σ w => ∃ s, KL.iter body m s = some b ∧ I s σ w) (m := n) ⟨s0, hm, h0⟩ ?_
  rintro m σ w ⟨s, hf, hI⟩
  cases m with
  | zero => cases hf
  | succ m =>
    rw [KL.iter] at hf
    cases hx : body s with
    | none => rw [hx] at hf; cases hf
    | some x =>
      rw [hx] at hf
      refine (hs s x σ w hI hx ?_).mono fun D' e σ' w' hq => ?_
      · rintro b' rfl; injection hf with hf; exact hf.symm
      · cases e with
        | normal =>
          obtain ⟨rfl, s', rfl, hI'⟩ := hq
          exact ⟨rfl, m, by omega, s', hf, hI'⟩
        | _ => exact hq
end

def encI (x : Int) : List Value := [.int .i64 x]
def encU (x : Int) : List Value := [.int .u32 x]
def encB8 (x : Int) : List Value := [.int .u8 x]
def encT (x : Bool) : List Value := [.bool x]
theorem OKS.e {N : Nat} {P : Program} {l : List Oper} {Q : Post} {D : List Deferred} {ks : List Nat} {σ : Env} {w : World} (h : Q D .normal σ w) : OKS N P l Q D ks .nil σ w := h
theorem CK.ends {r : Option Nat} {N : Nat} {P : Program} {Q : Post} {D : List Deferred} {σ : Env} {w : World} {c : Code} (h : CK r N P c Q D σ w) : CK r N P c Q D σ w := h
theorem Runs.notT {P : Program} {σ : Env} {w : World} {o : Oper} {t : TypeId} {x : Operand} {b : Bool} (ho : o.op = .unOp .not t x) (hx : ev σ x = .bool b) : Runs P σ w o (.bool !b) w := Runs.not ho hx
/-- A jump out of a part that must end normally. -/
theorem nojump {Q : Post} {D : List Deferred} {σ : Env} {w : World} {e : Exit} (h : False) : Q D e σ w := h.elim

section
variable {α : Type} {f : α → List Value} {sz : Nat}
theorem flatMap_cell (hf : ∀ x, (f x).length = sz) (l : List α) (k j : Nat) (x : α) {off : Nat} {v : Value} (hx : l[k]? = some x) (ho : off = k * sz + j) (hv : (f x)[j]? = some v) : (l.flatMap f)[off]? = some v := by
  subst ho; exact flatMap_at hf l k j x v hx hv
theorem cell0 (hf : ∀ x, (f x).length = sz) (l : List α) (k j : Nat) (x : α) {v : Value} (hx : l[k]? = some x) (hv : (f x)[j]? = some v) : (l.flatMap f)[k * sz + j]? = some v := flatMap_at hf l k j x v hx hv
theorem cell0L (hf : ∀ x, (f x).length = sz) (l : List α) (k j : Nat) (x : α) {v : Value} {post : List Value} (hx : l[k]? = some x) (hv : (f x)[j]? = some v) : (l.flatMap f ++ post)[k * sz + j]? = some v := by
  have h := flatMap_at hf l k j x v hx hv
  rw [List.getElem?_append_left (List.getElem?_eq_some_iff.1 h).1]; exact h
theorem flatMap_cellL (hf : ∀ x, (f x).length = sz) (l : List α) (k j : Nat) (x : α) {off : Nat} {v : Value} {post : List Value} (hx : l[k]? = some x) (ho : off = k * sz + j) (hv : (f x)[j]? = some v) : (l.flatMap f ++ post)[off]? = some v := by
  subst ho; exact cell0L hf l k j x hx hv
theorem flatMap_sub (hf : ∀ x, (f x).length = sz) (l : List α) (k : Nat) (x : α) {off : Nat} {vs : List Value} (hx : l[k]? = some x) (ho : off = k * sz) (hv : f x = vs) : ((l.flatMap f).drop off).take sz = vs := by
  subst ho hv
  have hlt := (List.getElem?_eq_some_iff.1 hx).1
  have hle : k * sz + sz ≤ (l.flatMap f).length := by
    rw [flatMap_len hf, ← Nat.succ_mul]; exact Nat.mul_le_mul_right _ hlt
  apply List.ext_getElem?
  intro j
  rw [List.getElem?_take]
  by_cases hj : j < sz
  · rw [if_pos hj, List.getElem?_drop]
    have : j < (f x).length := by rw [hf]; exact hj
    rw [flatMap_at hf l k j x _ hx (List.getElem?_eq_getElem this), List.getElem?_eq_getElem this]
  · rw [if_neg hj, List.getElem?_eq_none (by rw [hf]; omega)]
theorem app_at {p rest : List Value} {n r : Nat} {v : Value} (hp : p.length = n) (hr : rest[r]? = some v) : (p ++ rest)[n + r]? = some v := by
  subst hp; rw [List.getElem?_append_right (by omega), show p.length + r - p.length = r from by omega]; exact hr
theorem ptr_eq {b x y : Nat} (h : x = y) : Value.pointer (some ⟨b, x, none⟩) = .pointer (some ⟨b, y, none⟩) := by rw [h]
theorem setN_at (hf : ∀ x, (f x).length = sz) {fo : Nat} (l : List α) (k : Nat) (x y : α) {off : Nat} {vs : List Value} (hx : l[k]? = some x) (ho : off = k * sz + fo) (hle : fo + vs.length ≤ sz) (hs : setN (f x) fo vs = f y) : setN (l.flatMap f) off vs = (l.set k y).flatMap f := by
  subst ho; exact setN_flatMap hf l k x y hx hle hs
theorem setN0 (hf : ∀ x, (f x).length = sz) {fo : Nat} (l : List α) (k : Nat) (x y : α) {vs : List Value} (hx : l[k]? = some x) (hle : fo + vs.length ≤ sz) (hs : setN (f x) fo vs = f y) : setN (l.flatMap f) (k * sz + fo) vs = (l.set k y).flatMap f := setN_flatMap hf l k x y hx hle hs
theorem setN0L (hf : ∀ x, (f x).length = sz) {fo : Nat} (l : List α) (k : Nat) (x y : α) {vs post : List Value} (hx : l[k]? = some x) (hle : fo + vs.length ≤ sz) (hs : setN (f x) fo vs = f y) : setN (l.flatMap f ++ post) (k * sz + fo) vs = (l.set k y).flatMap f ++ post := by
  have hlt := (List.getElem?_eq_some_iff.1 hx).1
  have : k * sz + sz ≤ (l.flatMap f).length := by rw [flatMap_len hf, ← Nat.succ_mul]; exact Nat.mul_le_mul_right _ hlt
  rw [setN_append_left _ _ _ _ (by omega), setN_flatMap hf l k x y hx hle hs]
theorem setN_atL (hf : ∀ x, (f x).length = sz) {fo : Nat} (l : List α) (k : Nat) (x y : α) {off : Nat} {vs post : List Value} (hx : l[k]? = some x) (ho : off = k * sz + fo) (hle : fo + vs.length ≤ sz) (hs : setN (f x) fo vs = f y) : setN (l.flatMap f ++ post) off vs = (l.set k y).flatMap f ++ post := by
  subst ho; exact setN0L hf l k x y hx hle hs
theorem setN_app {p rest rest' : List Value} {n r : Nat} {vs : List Value} (hp : p.length = n) (hs : setN rest r vs = rest') : setN (p ++ rest) (n + r) vs = p ++ rest' := by
  subst hp hs; exact setN_append_right vs p rest r
theorem whole {n N : Nat} (m : Arr α n) (hf : ∀ x, (f x).length = sz) (h : n * sz = N) : ((m.l.flatMap f).drop 0).take N = m.l.flatMap f := by
  rw [List.drop_zero]
  exact List.take_of_length_le (by rw [flatMap_len hf, m.h, h]; exact Nat.le_refl _)
theorem whole_len {n N : Nat} (m : Arr α n) (hf : ∀ x, (f x).length = sz) (h : n * sz = N) : (m.l.flatMap f).length = N := by rw [flatMap_len hf, m.h, h]
theorem all_one_flat (h : ∀ x, (f x).all one = true) (l : List α) : (l.flatMap f).all one = true := by
  rw [List.all_eq_true]; intro u hu
  obtain ⟨x, _, hx⟩ := List.mem_flatMap.1 hu
  exact List.all_eq_true.1 (h x) u hx
theorem setN_all (vs : List Value) : ∀ (l : List Value), vs.length = l.length → setN l 0 vs = vs := by
  have key : ∀ (vs p l : List Value), vs.length = l.length → setN (p ++ l) p.length vs = p ++ vs := by
    intro vs
    induction vs with
    | nil => intro p l h; simp at h; have : l = [] := List.eq_nil_of_length_eq_zero h.symm; subst this; rfl
    | cons v vs ih =>
      intro p l h
      cases l with
      | nil => simp at h
      | cons u l =>
        simp only [setN]
        rw [List.set_append_right _ _ (Nat.le_refl _), Nat.sub_self, List.set_cons_zero]
        have := ih (p ++ [v]) l (by simpa using h)
        simpa using this
  intro l h
  have := key vs [] l h
  simpa using this
end

/-! loads that come before or after calls that do not touch what they read -/
section
variable {N : Nat} {P : Program} {l : List Oper} {Q : Post} {D : List Deferred} {ks : List Nat} {σ : Env} {w : World} {i d : Nat} {s : Sch} {o : Oper} {B : Base} {φ : PHeap} {L : List Res}
def InT (ts : List Nat) (L : List Res) : List Nat → Prop
  | [] => True
  | b :: T => (∃ t, ts.contains t = true ∧ ∃ r, L[t]? = some r ∧ r.blk? = some b) ∧ InT ts L T
def OutT (T : List Nat) : List Res → Prop
  | [] => True
  | r :: rs => (∀ b, r.blk? = some b → b ∈ T) ∧ OutT T rs
theorem InT.mem {ts : List Nat} : ∀ {T : List Nat}, InT ts L T → ∀ b ∈ T, ∃ t ∈ ts, ∃ r, L[t]? = some r ∧ r.blk? = some b
  | [], _, _, h => by cases h
  | c :: T, ⟨⟨t, h1, r, h2, h3⟩, h⟩, b, hb => by
    rcases List.mem_cons.1 hb with rfl | hb
    · exact ⟨t, by simpa using h1, r, h2, h3⟩
    · exact InT.mem h b hb
theorem OutT.mem {T : List Nat} : ∀ {L : List Res}, OutT T L → ∀ r ∈ L, ∀ b, r.blk? = some b → b ∈ T
  | [], _, _, h => by cases h
  | c :: L, ⟨h1, h2⟩, r, hr => by
    rcases List.mem_cons.1 hr with rfl | hr
    · exact h1
    · exact OutT.mem h2 r hr
theorem St.keepT {T ts ix : List Nat} {L' : List Res} {w2 : World} (h : St B φ L w) (hT : InT ts L T) (hn : ix.Nodup) (hp : ix.map (fun j => L[j]?) = L'.map some) (hx : (ix.all fun i => !ts.contains i) = true) (k : Keep w w2 (InL T)) : St B φ L' w2 := by
  have h' := h.pick ix L' hn hp
  have own : ∀ b ∈ T, φ b = none ∧ B.mine b := fun b hb => by
    obtain ⟨t, _, r, h2, h3⟩ := hT.mem b hb
    exact h.own r (List.mem_of_getElem? h2) b h3
  refine ⟨k.os.trans h.os, k.tape.trans h.tape, k.output.trans h.output, Nat.le_trans h.size k.size, fun b hb hm => ?_, fun b o hb => ?_, h.le, h.src, fun r hr => ?_, h'.own, h'.dj⟩
  · exact (k.block b (Nat.lt_of_lt_of_le hb h.size) fun hc => hm (own b hc).2).trans (h.old b hb hm)
  · refine (k.block b (lt_of_some (h.fro b o hb)) fun hc => ?_).trans (h.fro b o hb)
    rw [(own b hc).1] at hb; cases hb
  · refine (h'.at_ r hr).keep k fun b hb hc => ?_
    obtain ⟨t, h1, q, h2, h3⟩ := hT.mem b hc
    obtain ⟨n, hn1⟩ := List.getElem?_of_mem hr
    have e : (L'.map some)[n]? = some (some r) := by rw [List.getElem?_map, hn1]; rfl
    rw [← hp, List.getElem?_map] at e
    cases hi : ix[n]? with
    | none => rw [hi] at e; cases e
    | some m =>
      rw [hi] at e
      simp only [Option.map_some, Option.some.injEq] at e
      have := h.dj m t r q b e h2 hb h3
      subst this
      have hm := List.all_eq_true.1 hx m (List.mem_of_getElem? hi)
      simp [h1] at hm
theorem OKS.mt {v : Value} {T : List Nat} (ts ix : List Nat) (L' : List Res) (ho : l[i]? = some o) (hd : o.dst = some d) (hN : Nat.blt d N = true) (hw : wanted l σ o = true) (hS : St B φ L w) (hc : chg l ks = T) (hT : InT ts L T)
    (hn : ix.Nodup) (hp : ix.map (fun j => L[j]?) = L'.map some) (hx : (ix.all fun i => !ts.contains i) = true) (hr : ∀ w2, St B φ L' w2 → RunsK P σ w2 o v) (hk : Nat.beq (kOf ks i) 3 = false)
    (k : OKS N P l Q D ks s (upd σ d v) w) : OKS N P l Q D ks (.fl i s) σ w :=
  ⟨o, ho, dlt hd hN, .inl ⟨hw, v, hr w (hS.pick ix L' hn hp), ⟨fun e => (by rw [e] at hk; cases hk), fun _ w2 k2 => hr w2 (hS.keepT hT hn hp hx (hc ▸ k2)) w2 (Keep.refl w2 _)⟩, (by rw [put'_some hd]; exact k)⟩⟩
theorem OKS.callHT {f : FuncId} {args : List Value} {Post : PHeap → List Res → Value → Prop} {T : List Nat} (n : Nat) (ho : l[i]? = some o) (hd : o.dst = some d) (hN : Nat.blt d N = true) (hw : wanted l σ o = true) (he : Enters P σ w o f args) (hS : St B φ L w)
    (hf : St ⟨w, L.take n, φ⟩ φ (L.take n) w → Gv P f args w (RetS w (L.take n) φ Post)) (hk : Nat.beq (kOf ks i) 2 = false) (hc : chg l ks = T) (hT : OutT T (L.take n))
    (k : ∀ φ' L' v w', PHeap.Le φ φ' → St B φ' (L' ++ L.drop n) w' → Post φ' L' v → OKS N P l Q D ks s (upd σ d v) w') : OKS N P l Q D ks (.fx i s .stop) σ w := by
  refine ⟨⟨o, ho, dlt hd hN, .inl ⟨hw, .inr (.inr (.inl ⟨f, args, _, he, hf (hS.enterH n), ?_⟩))⟩⟩, trivial⟩
  rintro v w' ⟨φ', L', h1, h2⟩
  obtain ⟨h3, h4⟩ := hS.backH n h1
  exact ⟨⟨fun e => (by rw [e] at hk; cases hk), fun _ => h1.kp.weak fun b _ ⟨r, hr, hb⟩ => hc ▸ hT.mem r hr b hb⟩, by rw [put'_some hd]; exact k φ' L' v w' h4 h3 h2⟩
theorem OKS.callHTn {f : FuncId} {args : List Value} {Post : PHeap → List Res → Value → Prop} {T : List Nat} (n : Nat) (ho : l[i]? = some o) (hd : o.dst = none) (hw : wanted l σ o = true) (he : Enters P σ w o f args) (hS : St B φ L w)
    (hf : St ⟨w, L.take n, φ⟩ φ (L.take n) w → Gv P f args w (RetS w (L.take n) φ Post)) (hk : Nat.beq (kOf ks i) 2 = false) (hc : chg l ks = T) (hT : OutT T (L.take n))
    (k : ∀ φ' L' v w', PHeap.Le φ φ' → St B φ' (L' ++ L.drop n) w' → Post φ' L' v → OKS N P l Q D ks s σ w') : OKS N P l Q D ks (.fx i s .stop) σ w := by
  refine ⟨⟨o, ho, dno hd, .inl ⟨hw, .inr (.inr (.inl ⟨f, args, _, he, hf (hS.enterH n), ?_⟩))⟩⟩, trivial⟩
  rintro v w' ⟨φ', L', h1, h2⟩
  obtain ⟨h3, h4⟩ := hS.backH n h1
  exact ⟨⟨fun e => (by rw [e] at hk; cases hk), fun _ => h1.kp.weak fun b _ ⟨r, hr, hb⟩ => hc ▸ hT.mem r hr b hb⟩, by rw [put'_none hd]; exact k φ' L' v w' h4 h3 h2⟩
/-- What holds when a set of operations is done, for all orders that lead there. -/
theorem OKS.cutD {s0 : Sch} {σ0 : Env} {w0 : World} (s : Sch) (M : Env → World → Prop) (h : ∀ σ w, M σ w → OKS N P l Q D ks s σ w) (k : (∀ σ w, M σ w → OKS N P l Q D ks s σ w) → OKS N P l Q D ks s0 σ0 w0) : OKS N P l Q D ks s0 σ0 w0 := k h
end
end Go.KL
