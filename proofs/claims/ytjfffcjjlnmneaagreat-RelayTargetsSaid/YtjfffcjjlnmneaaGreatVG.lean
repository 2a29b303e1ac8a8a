/- Scopes; maps; structs held against each other. -/
import Derived.Test.YtjfffcjjlnmneaaGreatVF
import Derived.MapKept
import Derived.Laws.StructEq
import Derived.WideKeyRuns
import Derived.RangeFuncRecord
namespace Go
section
variable {F : Fence} {n : Nat} {P : Program} {b : Frame} {a : Act} {k : List Item} {cs : List Frame} {w : World} {Q : Exit → Act → World → Prop}
theorem stepR_scope {c : Code} : step P (lone (b.atR a (.code (.scope c) :: k)) cs w) = .next (lone (b.atR a (.code c :: .inScope c :: k)) cs w) :=
  step_lone_go (by simp [stepG, stepG.exec, Frame.atR])
theorem stepR_inScope {c : Code} : step P (lone (b.atR a (.inScope c :: k)) cs w) = .next (lone (b.atR a k) cs w) :=
  step_lone_go (by simp [stepG, stepG.exec, Frame.atR])
theorem wpIn_scope_straight {c : Code} (h : c.wpIn F n P (fun e a w => match e with | .goto _ => False | e => Q e a w) a w) : (Code.scope c).wpIn F n P Q a w := by
  intro b k cs hro hb hr
  have h0 : (lone (b.atR a (.code (.scope c) :: k)) cs w).fenced P F := fenced_calm hb hr rfl
  obtain ⟨e, a₁, w₁, hq, harr⟩ := h b (.inScope c :: k) cs hro hb hr
  cases e with
  | normal => exact ⟨.normal, a₁, w₁, hq, .head h0 stepR_scope (StepsIn.trans harr (.one (fenced_calm hb hr rfl) stepR_inScope))⟩
  | exit id' =>
    have hx : exitTo id' (.inScope c :: k) = exitTo id' k := by simp [exitTo]
    exact ⟨.exit id', a₁, w₁, hq, fun k' hk => .head h0 stepR_scope (harr.1 k' (by rw [hx]; exact hk)),
      fun hr' hk => let ⟨k₁, h1, h2⟩ := harr.2 hr' (by rw [hx]; exact hk); ⟨k₁, h1, .head h0 stepR_scope h2⟩⟩
  | goto l => exact hq.elim
  | ret => exact ⟨_, a₁, w₁, hq, .of_steps (.one h0 stepR_scope) harr⟩
  | panic ch => exact ⟨_, a₁, w₁, hq, .of_steps (.one h0 stepR_scope) harr⟩
  | outgrown => exact ⟨_, a₁, w₁, hq, .of_steps (.one h0 stepR_scope) harr⟩
end
end Go
namespace Go.KL
open Go.RowKit
def scopeQ (Q : Post) : Post := fun D e σ w => match e with
  | .goto _ => False
  | e => Q D e σ w
section
variable {r : Option Nat} {N : Nat} {P : Program} {Q : Post} {D : List Deferred} {σ : Env} {w : World}
theorem CK.scope {c : Code} (h : CK r N P c (scopeQ Q) D σ w) : CK r N P (.scope c) Q D σ w := by
  intro a ha
  refine wpIn_scope_straight (wpIn_mono (h a ha) ?_)
  rintro e a w ⟨σ, D, hr, q⟩
  cases e with
  | goto l => exact q.elim
  | _ => exact ⟨σ, D, hr, q⟩
theorem scopeQ_n (h : Q D .normal σ w) : scopeQ Q D .normal σ w := h
theorem scopeQ_e {i : Nat} (h : Q D (.exit i) σ w) : scopeQ Q D (.exit i) σ w := h
theorem scopeQ_r (h : Q D .ret σ w) : scopeQ Q D .ret σ w := h
end

/-! ### Maps -/
def MpR {K V : Type} (es : Array MapEntry) (mk : K → Value) (mv : V → Value) (l : List (K × V)) : Prop := es.toList.map (fun e => (e.key, e.val)) = l.map fun p => (mk p.1, mv p.2)
structure KeyR {K : Type} [DecidableEq K] (P : Program) (kt : TypeId) (mk : K → Value) : Prop where
  chk : ∀ em x w, (Instr.checkKey em 10000 kt (mk x)).run P w = .ok () w
  same : ∀ x, Instr.sameBits 10000 (mk x) (mk x) = true
  find : ∀ {V : Type} (mv : V → Value) (es : List MapEntry) (l : List (K × V)) x w, es.map (fun e => (e.key, e.val)) = l.map (fun p => (mk p.1, mv p.2)) → (Instr.findKey kt (mk x) es).run P w = .ok ((locate l x 0).map fun p => (p.1, mv p.2)) w
theorem MpR.nil {K V : Type} (mk : K → Value) (mv : V → Value) : MpR #[] mk mv ([] : List (K × V)) := rfl
section
variable {K V : Type} [DecidableEq K]
theorem findAsking_rel {P : Program} {kt : TypeId} {mk : K → Value} {mv : V → Value} (heq : ∀ x y w, (Op.equal kt (mk x) (mk y)).run P w = .ok (decide (x = y)) w) (l : List (K × V)) (x : K) (w : World) :
    ∀ (es : List MapEntry) (i : Nat), es.map (fun e => (e.key, e.val)) = l.map (fun p => (mk p.1, mv p.2)) → (Instr.findAsking kt (mk x) es i).run P w = .ok ((locate l x i).map fun p => (p.1, mv p.2)) w := by
  induction l with
  | nil => intro es i h; cases es with
    | nil => rfl
    | cons e es => cases h
  | cons p l ih =>
    intro es i h
    cases es with
    | nil => cases h
    | cons e es =>
      simp only [List.map_cons, List.cons.injEq, Prod.mk.injEq] at h
      obtain ⟨⟨h1, h2⟩, h3⟩ := h
      obtain ⟨a, v⟩ := p
      simp only at h1 h2
      simp only [Instr.findAsking, Sem.run_bind, h1, heq, Result.andThen, locate]
      by_cases e : x = a <;> simp [e, h2, ih es (i + 1) h3]
theorem KeyR.ofStruct {P : Program} {kt : TypeId} {mk : K → Value} {fs : Array Field} (hu : P.underlying kt = some (.struct fs)) (hc : ∀ em x w, (Instr.checkKey em 10000 kt (mk x)).run P w = .ok () w) (hs : ∀ x, Instr.sameBits 10000 (mk x) (mk x) = true)
    (heq : ∀ x y w, (Op.equal kt (mk x) (mk y)).run P w = .ok (decide (x = y)) w) : KeyR P kt mk := by
  refine ⟨hc, hs, fun mv es l x w h => ?_⟩
  simp only [Instr.findKey, Sem.run_bind, run_underlying hu, Result.andThen]
  have hf := findAsking_rel heq l x w es 0 h
  cases es with
  | nil => cases l with
    | nil => simp [Instr.findNow, locate]
    | cons p l => cases h
  | cons e es =>
    simp only [Instr.findNow, Instr.sameNow]
    exact hf
theorem KeyR.ofInt {P : Program} {kt : TypeId} {k : IntKind} (hu : P.underlying kt = some (.int k)) : KeyR P kt (fun n : Int => Value.int k n) := by
  refine ⟨fun em x w => ?_, fun x => by simp [Instr.sameBits], fun {V} mv es l x w h => ?_⟩
  · rw [show (10000 : Nat) = 9999 + 1 from rfl, Instr.checkKey]
    simp only [Sem.run_bind, run_underlying hu, Result.andThen]
    rfl
  · have key : ∀ (l : List (Int × V)) (es : List MapEntry) (i : Nat), es.map (fun e => (e.key, e.val)) = l.map (fun p => (Value.int k p.1, mv p.2)) → Instr.findNow (.int k) (.int k x) es i = some ((locate l x i).map fun p => (p.1, mv p.2)) := by
      intro l
      induction l with
      | nil => intro es i h; cases es with
        | nil => rfl
        | cons e es => cases h
      | cons p l ih =>
        intro es i h
        cases es with
        | nil => cases h
        | cons e es =>
          simp only [List.map_cons, List.cons.injEq, Prod.mk.injEq] at h
          obtain ⟨⟨h1, h2⟩, h3⟩ := h
          obtain ⟨a, v⟩ := p
          simp only at h1 h2
          simp only [Instr.findNow, h1, Instr.sameNow, locate, if_true]
          by_cases e : x = a
          · subst e; simp [h2]
          · have hb : (x == a) = false := by simpa using e
            simp [e, hb, ih es (i + 1) h3]
    simp only [Instr.findKey, Sem.run_bind, run_underlying hu, Result.andThen, key l es 0 h]
    rfl
variable {N : Nat} {P : Program} {l : List Oper} {Q : Post} {D : List Deferred} {ks : List Nat} {σ : Env} {w : World} {i d : Nat} {s : Sch} {o : Oper} {B : Base} {φ : PHeap} {L : List Res}
omit [DecidableEq K] in
theorem OKS.both {alt : Sch} (h1 : OKS N P l Q D ks (.fx i s .stop) σ w) (h2 : OKS N P l Q D ks alt σ w) : OKS N P l Q D ks (.fx i s alt) σ w := ⟨h1.1, h2⟩
theorem OKS.makeMap {t : TypeId} (ho : l[i]? = some o) (hd : o.dst = some d) (hN : Nat.blt d N = true) (hw : wanted l σ o = true) (hop : o.op = .makeMap t none) (hS : St B φ L w)
    (k : ∀ w' m, St B φ (.obj m (.map #[] 0) :: L) w' → OKS N P l Q D ks s (upd σ d (.map (some m))) w') : OKS N P l Q D ks (.fx i s .stop) σ w := by
  refine OKS.v (v := .map (some w.heap.size)) (w' := w.alloc (.map #[] 0)) ho hd hN hw ⟨by rw [hop]; rfl, ?_⟩ (.inr (alloc_keep w _)) (k _ _ (hS.new (alloc_keep w _) (r := .obj w.heap.size (.map #[] 0)) (heap_alloc_new w _) rfl (Nat.le_refl _)))
  simp [execOp, hop, Instr.makeMap, newObj, Sem.run, Result.andThen]
theorem St.objAt {j b : Nat} {o : Obj} (h : St B φ L w) (hk : L[j]? = some (.obj b o)) : w.heap[b]? = some o := h.at_ _ (List.mem_of_getElem? hk)
theorem St.lookup2 {mt kt et : TypeId} {x y : Operand} {j m ck : Nat} {es : Array MapEntry} {mk : K → Value} {mv : V → Value} {t : List (K × V)} {a : K} {z : V} (hS : St B φ L w) (hk : L[j]? = some (.obj m (.map es ck))) (hop : o.op = .lookup mt x y true) (hx : ev σ x = .map (some m)) (hy : ev σ y = mk a)
    (hu : P.underlying mt = some (.map kt et)) (R : KeyR P kt mk) (hz : ∀ w, (zeroValue et).run P w = .ok (mv z) w) (h : MpR es mk mv t) : RunsK P σ w o (.tuple #[mv (mgetD t a z), .bool (mhas t a)]) := by
  intro w' kw
  refine ⟨by rw [hop]; rfl, ?_⟩
  have hf := R.find mv es.toList t a w' h
  have hm := (hS.grow kw).objAt hk
  have hg := locate_mget t a 0
  unfold mgetD mhas
  simp [execOp, hop, hx, hy, Instr.lookup, run_underlying hu, MapKept.run_getObj_map hm, R.chk, hf, Result.andThen, ← hg]
  cases e : locate t a 0 <;> simp [hz, Result.andThen]
theorem St.lookup1 {mt kt et : TypeId} {x y : Operand} {j m ck : Nat} {es : Array MapEntry} {mk : K → Value} {mv : V → Value} {t : List (K × V)} {a : K} {z : V} (hS : St B φ L w) (hk : L[j]? = some (.obj m (.map es ck))) (hop : o.op = .lookup mt x y false) (hx : ev σ x = .map (some m)) (hy : ev σ y = mk a)
    (hu : P.underlying mt = some (.map kt et)) (R : KeyR P kt mk) (hz : ∀ w, (zeroValue et).run P w = .ok (mv z) w) (h : MpR es mk mv t) : RunsK P σ w o (mv (mgetD t a z)) := by
  intro w' kw
  refine ⟨by rw [hop]; rfl, ?_⟩
  have hf := R.find mv es.toList t a w' h
  have hm := (hS.grow kw).objAt hk
  have hg := locate_mget t a 0
  unfold mgetD
  simp [execOp, hop, hx, hy, Instr.lookup, run_underlying hu, MapKept.run_getObj_map hm, R.chk, hf, Result.andThen, ← hg]
  cases e : locate t a 0 <;> simp [hz, Result.andThen]
theorem St.lenM {K0 V0 : Type} {t kt et : TypeId} {x : Operand} {j m ck : Nat} {es : Array MapEntry} {mk : K0 → Value} {mv : V0 → Value} {q : List (K0 × V0)} (hS : St B φ L w) (hk : L[j]? = some (.obj m (.map es ck))) (hop : o.op = .call { callee := .builtin .len, args := #[x], argTypes := #[t] }) (hx : ev σ x = .map (some m))
    (hu : P.underlying t = some (.map kt et)) (h : MpR es mk mv q) : RunsK P σ w o (.int .i64 (q.length : Int)) := by
  intro w' kw
  have hm := (hS.grow kw).objAt hk
  have hl : es.size = q.length := by have := congrArg List.length h; simpa using this
  exact ⟨by rw [hop]; rfl, by simp [execOp, hop, resolve, invoke, builtin, Builtin.len_, hx, run_underlying hu, MapKept.run_getObj_map hm, goInt, Result.andThen, hl]⟩
theorem putObj_keep (w : World) (r : Nat) (o : Obj) : Keep w (w.putObj r o) (· = r) := ⟨rfl, ⟨rfl, Nat.le_refl _⟩, rfl, by simp, fun k _ hx => World.putObj_heap_other hx⟩
theorem heap_putObj {w : World} {m : Nat} (o : Obj) (h : m < w.heap.size) : (w.putObj m o).heap[m]? = some o := by
  simp [World.putObj, h]
theorem OKS.mapPut {mt kt et : TypeId} {x y z : Operand} {j m ck : Nat} {es : Array MapEntry} {mk : K → Value} {mv : V → Value} {t : List (K × V)} {a : K} {v : V} (ho : l[i]? = some o) (hd : o.dst = none) (hw : wanted l σ o = true) (hop : o.op = .mapUpdate mt x y z ∨ o.op = .insert mt x y z) (hS : St B φ L w) (hk : L[j]? = some (.obj m (.map es ck)))
    (hx : ev σ x = .map (some m)) (hy : ev σ y = mk a) (hv : ev σ z = mv v) (hu : P.underlying mt = some (.map kt et)) (R : KeyR P kt mk) (h : MpR es mk mv t) (hne : mustX (kOf ks i) = false)
    (k : ∀ es' ck' w', MpR es' mk mv (mput t a v) → St B φ (L.set j (.obj m (.map es' ck'))) w' → OKS N P l Q D ks s σ w') : OKS N P l Q D ks (.fx i s .stop) σ w := by
  have hm := hS.objAt hk
  have hlt := lt_of_some hm
  have hf := R.find mv es.toList t a w h
  have fin : ∀ (es' : Array MapEntry) (ck' : Nat), MpR es' mk mv (mput t a v) → (Instr.mapUpdate mt (.map (some m)) (mk a) (mv v)).run P w = .ok () (w.putObj m (.map es' ck')) → OKS N P l Q D ks (.fx i s .stop) σ w := by
    intro es' ck' h1 h2
    refine OKS.u (w' := w.putObj m (.map es' ck')) ho hd hw ⟨by rcases hop with e | e <;> (rw [e]; rfl), ?_⟩ (.inl hne)
      (k es' ck' _ h1 (hS.set hk ((putObj_keep w m _).weak fun b _ e => by rw [e]; rfl) (heap_putObj _ hlt) fun b hb => .inl hb))
    rcases hop with e | e <;> simp [execOp, e, hx, hy, hv, h2, Result.andThen]
  cases e : locate t a 0 with
  | none =>
    obtain ⟨e1, _⟩ := locate_none e v
    refine fin (es.push { key := mk a, val := mv v, born := ck }) (ck + 1) ?_ ?_
    · unfold MpR at h ⊢; rw [e1]; simp [h]
    · simp [Instr.mapUpdate, run_underlying hu, MapKept.run_getObj_map hm, R.chk, hf, e, Result.andThen, MapKept.run_setObj_map _ hm]
      rfl
  | some p =>
    obtain ⟨q, u⟩ := p
    obtain ⟨_, h2, h3, _⟩ := locate_some e v
    rw [Nat.sub_zero] at h2 h3
    have hq : q < t.length := (List.getElem?_eq_some_iff.1 h2).1
    have hl : es.size = t.length := by have := congrArg List.length h; simpa using this
    have hkq : ((es[q]?).map (·.key)).getD (mk a) = mk a := by
      have h4 : (es.toList.map (fun e => (e.key, e.val)))[q]? = some (mk a, mv u) := by rw [h, List.getElem?_map, h2]; rfl
      rw [List.getElem?_map] at h4
      cases h5 : es.toList[q]? with
      | none => rw [h5] at h4; cases h4
      | some e =>
        rw [h5] at h4
        simp only [Option.map_some, Option.some.injEq, Prod.mk.injEq] at h4
        have h6 : es[q]? = some e := by simpa using h5
        rw [h6]; simp [h4.1]
    refine fin (es.modify q fun e => { e with key := mk a, val := mv v }) ck ?_ ?_
    · unfold MpR at h ⊢
      rw [h3]
      apply List.ext_getElem?
      intro n
      have hn := congrArg (·[n]?) h
      simp only [List.getElem?_map] at hn ⊢
      rw [List.getElem?_set]
      simp only [Array.toList_modify, List.getElem?_modify]
      by_cases hqn : q = n
      · subst hqn
        have h5 : es.toList[q]? = some (es.toList[q]'(by simpa [hl] using hq)) := List.getElem?_eq_getElem _
        simp [h5, hq]
      · simp only [hqn, if_false]
        simpa [hqn] using hn
    · simp [Instr.mapUpdate, run_underlying hu, MapKept.run_getObj_map hm, R.chk, hf, e, Result.andThen, MapKept.run_setObj_map _ hm, Instr.keyThatStays, hkq, R.same]
      rfl
omit [DecidableEq K] in
theorem eraseIdx_mapq {α β : Type} (f : α → β) : ∀ (l : List α) (q : Nat), (l.map f).eraseIdx q = (l.eraseIdx q).map f
  | [], _ => rfl
  | _ :: _, 0 => rfl
  | a :: l, q + 1 => by simp [eraseIdx_mapq f l q]
theorem OKS.mapDel {mt kt et : TypeId} {x y : Operand} {j m ck : Nat} {es : Array MapEntry} {mk : K → Value} {mv : V → Value} {t : List (K × V)} {a : K} (ho : l[i]? = some o) (hd : o.dst = none) (hw : wanted l σ o = true) (hop : o.op = .call { callee := .builtin .delete, args := #[x, y], argTypes := #[mt, kt] }) (hS : St B φ L w) (hk : L[j]? = some (.obj m (.map es ck)))
    (hx : ev σ x = .map (some m)) (hy : ev σ y = mk a) (hu : P.underlying mt = some (.map kt et)) (R : KeyR P kt mk) (h : MpR es mk mv t) (v0 : V) (hne : mustX (kOf ks i) = false)
    (k : ∀ es' ck' w', MpR es' mk mv (mdel t a) → St B φ (L.set j (.obj m (.map es' ck'))) w' → OKS N P l Q D ks s σ w') : OKS N P l Q D ks (.fx i s .stop) σ w := by
  have hm := hS.objAt hk
  have hlt := lt_of_some hm
  have hf := R.find mv es.toList t a w h
  have fin : ∀ (es' : Array MapEntry) (ck' : Nat), MpR es' mk mv (mdel t a) → (Builtin.delete_ #[mt, kt] o.type #[.map (some m), mk a]).run P w = .ok (.tuple #[]) (w.putObj m (.map es' ck')) → OKS N P l Q D ks (.fx i s .stop) σ w := by
    intro es' ck' h1 h2
    refine OKS.vn (v := .tuple #[]) (w' := w.putObj m (.map es' ck')) ho hd hw ⟨by rw [hop]; rfl, ?_⟩ (.inl hne)
      (k es' ck' _ h1 (hS.set hk ((putObj_keep w m _).weak fun b _ e => by rw [e]; rfl) (heap_putObj _ hlt) fun b hb => .inl hb))
    simp [execOp, hop, resolve, invoke, builtin, hx, hy, h2, Result.andThen]
  cases e : locate t a 0 with
  | none =>
    obtain ⟨_, e1⟩ := locate_none e v0
    refine fin es ck (by rw [e1]; exact h) ?_
    simp [Builtin.delete_, run_underlying hu, MapKept.run_getObj_map hm, R.chk, hf, e, Result.andThen, MapKept.run_setObj_map _ hm]
    rfl
  | some p =>
    obtain ⟨q, u⟩ := p
    obtain ⟨_, h2, _, h3⟩ := locate_some e v0
    rw [Nat.sub_zero] at h2 h3
    refine fin (es.eraseIdxIfInBounds q) ck ?_ ?_
    · unfold MpR at h ⊢
      rw [h3, ← eraseIdx_mapq, ← h, eraseIdx_mapq]
      simp
    · simp [Builtin.delete_, run_underlying hu, MapKept.run_getObj_map hm, R.chk, hf, e, Result.andThen, MapKept.run_setObj_map _ hm]
      rfl
end
section
variable {P : Program} {t ti : TypeId} {f g : Field} {k : IntKind}
structure Two (P : Program) (t ti : TypeId) (f g : Field) (k : IntKind) : Prop where
  str : P.underlying t = some (.struct #[f, g])
  f1 : f.type = ti
  f2 : f.offset = 0
  f3 : f.name ≠ "_"
  g1 : g.type = ti
  g2 : g.offset = 1
  g3 : g.name ≠ "_"
  int : P.underlying ti = some (.int k)
  agg : ∀ w, (isAgg ti).run P w = .ok false w
  held : P.stoodInHeld t = false
theorem Two.eq (h : Two P t ti f g k) (a b c d : Int) (w : World) : (Op.equalIn 10000 t (.agg #[.int k a, .int k b]) (.agg #[.int k c, .int k d])).run P w = .ok (decide (a = c ∧ b = d)) w := by
  have hf : P.fieldsOf t = #[f, g] := by unfold Program.fieldsOf; rw [h.str]
  rw [show (10000 : Nat) = 9999 + 1 from rfl, run_equalIn_agg w 9999 t _ _ (by rw [hf]; exact h.str) h.held, hf]
  simp [Op.eqFields, h.f1, h.f2, h.f3, h.g1, h.g2, h.g3, part, h.agg, run_equalIn_int w 9998 ti k k _ _ h.int, Result.andThen]
  by_cases h1 : a = c <;> by_cases h2 : b = d <;> simp [h1, h2, h.agg, run_equalIn_int w 9998 ti k k _ _ h.int]
theorem Two.chk (h : Two P t ti f g k) (em : Bool) (a b : Int) (w : World) : (Instr.checkKey em 10000 t (.agg #[.int k a, .int k b])).run P w = .ok () w := by
  rw [show (10000 : Nat) = 9998 + 1 + 1 from rfl, Instr.checkKey]
  simp only [Sem.run_bind, run_underlying h.str, Result.andThen]
  have hi : ∀ v, (Instr.checkKey em (9998 + 1) ti (.int k v)).run P w = .ok () w := by
    intro v
    rw [Instr.checkKey]
    simp only [Sem.run_bind, run_underlying h.int, Result.andThen]
    rfl
  have hp : ∀ i v, (#[Value.int k a, Value.int k b] : Array Value)[i]? = some v → (part ti #[.int k a, .int k b] i).run P w = .ok v w := by
    intro i v hv
    simp [part, h.agg, hv, Result.andThen]
  simp [h.f1, h.f2, h.f3, h.g1, h.g2, h.g3, hp 0 _ rfl, hp 1 _ rfl, hi, Result.andThen]
theorem Two.keyR {α : Type} [DecidableEq α] (h : Two P t ti f g k) (e : α → Value) (p q : α → Int) (he : ∀ x, e x = .agg #[.int k (p x), .int k (q x)]) (hx : ∀ x y, p x = p y → q x = q y → x = y) : KeyR P t e := by
  refine KeyR.ofStruct h.str (fun em x w => ?_) (fun x => ?_) (fun x y w => ?_)
  · rw [he]; exact h.chk em _ _ w
  · rw [he]; simp [Instr.sameBits]
  · rw [he, he]; unfold Op.equal Op.maxDepth; rw [h.eq]
    congr 1
    exact decide_eq_decide.2 ⟨fun h => hx x y h.1 h.2, fun h => by subst h; exact ⟨rfl, rfl⟩⟩
theorem Two.eqT {α : Type} [DecidableEq α] (h : Two P t ti f g k) (enc : α → List Value) (p q : α → Int) (he : ∀ x, enc x = [.int k (p x), .int k (q x)]) (hx : ∀ x y, p x = p y → q x = q y → x = y) : EqT P t enc := by
  intro x y w
  rw [he, he]; unfold Op.equal Op.maxDepth; rw [h.eq]
  congr 1
  exact decide_eq_decide.2 ⟨fun h => hx x y h.1 h.2, fun h => by subst h; exact ⟨rfl, rfl⟩⟩
end
theorem und_of {P : Program} {t : TypeId} {d : TypeDesc} (h : ∀ w : World, (underlying t).run P w = .ok d w) : P.underlying t = some d := by
  have h0 := h (default : World)
  cases e : P.underlying t with
  | none => simp [underlying, e] at h0
  | some d' =>
    have h1 := run_underlying e (default : World)
    rw [h1] at h0
    injection h0 with h2 h3
    rw [h2]
theorem fieldsOf_of {P : Program} {t : TypeId} {fs : Array Field} (h : ∀ w : World, (underlying t).run P w = .ok (.struct fs) w) : P.fieldsOf t = fs := by
  unfold Program.fieldsOf; rw [und_of h]
theorem und_fields {P : Program} {t : TypeId} {fs : Array Field} (h : ∀ w : World, (underlying t).run P w = .ok (.struct fs) w) : P.underlying t = some (.struct (P.fieldsOf t)) := by
  rw [fieldsOf_of h]; exact und_of h
end Go.KL
