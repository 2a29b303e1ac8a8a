/- Ranges over functions, as the machine of XXA takes them. -/
import Derived.Test.YtjfffcjjlnmneaaGreatXA
namespace Go.KX
open Go.RowKit Go.KL

/-- Values put into slots. -/
def updL (σ : Env) : List Nat → List Value → Env
  | t :: ts, v :: vs => updL (upd σ t v) ts vs
  | _, _ => σ
theorem rep_zip {N : Nat} : ∀ (ts : List Nat) (vs : List Value) {tmps : Array Value} {σ : Env}, (∀ t ∈ ts, t < N) → Rep N [] { tmps := tmps, defers := [] } σ →
    Rep N [] { tmps := (ts.zip vs).foldl (fun tmps (x : Nat × Value) => tmps.setIfInBounds x.1 x.2) tmps, defers := [] } (updL σ ts vs)
  | [], vs, tmps, σ, _, h => by simpa [updL] using h
  | _ :: _, [], tmps, σ, _, h => by simpa [updL] using h
  | t :: ts, v :: vs, tmps, σ, ht, h => by
    have h' := h.put (ht t (by simp)) v
    have := rep_zip ts vs (tmps := tmps.setIfInBounds t v) (σ := upd σ t v) (fun x hx => ht x (by simp [hx])) (by simpa [Act.put] using h')
    simpa [updL] using this
/-- Block l is the record of a range over a function, entered with the frame σ, whose variables are the slots t. -/
def LoopAt (w : World) (l N : Nat) (σ : Env) (t : List Nat) (assign body : Code) (rb : Nat) (fn : FuncId) (s : LoopState) (pend : Option Code) : Prop :=
  ∃ a D, Rep N D a σ ∧ w.heap[l]? = some (.loop { state := s, pending := pend, fn, tmps := a.tmps, params := t.toArray, assign, body, defers := rb })
/-- Calling yield with values runs a round, which answers b and leaves the world w'. -/
def Yd (P : Program) (l : Nat) (v : List Value) (w : World) (R : Bool → World → Prop) : Prop :=
  ∃ lr : Loop, w.heap[l]? = some (.loop lr) ∧ lr.params.size = v.length ∧
    RoundIn (WF none) 0 P l lr.fn ((lr.params.zip v.toArray).foldl (fun tmps (t, a) => tmps.setIfInBounds t a) lr.tmps) lr.assign lr.body w (fun e w' => ∃ b, e = .returned (.bool b) ∧ R b w')
theorem Yd.mono {P : Program} {l : Nat} {v : List Value} {w : World} {R R' : Bool → World → Prop} (h : Yd P l v w R) (hr : ∀ b w', R b w' → R' b w') : Yd P l v w R' := by
  obtain ⟨lr, h1, h2, h3⟩ := h
  exact ⟨lr, h1, h2, h3.mono fun e w' ⟨b, e1, e2⟩ => ⟨b, e1, hr b w' e2⟩⟩
theorem LoopAt.lt {w : World} {l N : Nat} {σ : Env} {t : List Nat} {assign body : Code} {rb : Nat} {fn : FuncId} {s : LoopState} {pend : Option Code} (h : LoopAt w l N σ t assign body rb fn s pend) : l < w.heap.size := by
  obtain ⟨a, D, _, h⟩ := h
  rcases Nat.lt_or_ge l w.heap.size with hlt | hge
  · exact hlt
  · rw [Array.getElem?_eq_none hge] at h; cases h
theorem LoopAt.keep {w w' : World} {l N : Nat} {σ : Env} {t : List Nat} {assign body : Code} {rb : Nat} {fn : FuncId} {s : LoopState} {pend : Option Code} {X : Nat → Prop} (h : LoopAt w l N σ t assign body rb fn s pend) (k : Keep w w' X) (hx : ¬ X l) : LoopAt w' l N σ t assign body rb fn s pend := by
  have hl := h.lt
  obtain ⟨a, D, hr, h⟩ := h
  exact ⟨a, D, hr, (k.block l hl hx).trans h⟩
theorem LoopAt.non {w w' : World} {l N : Nat} {σ : Env} {t : List Nat} {assign body : Code} {rb : Nat} {fn : FuncId} {s : LoopState} {pend : Option Code} (h : LoopAt w l N σ t assign body rb fn s pend) (k : Keep w w' Non) : LoopAt w' l N σ t assign body rb fn s pend := h.keep k id

section
variable {N : Nat} {P : Program} {Q : Post} {D : List Deferred} {σ : Env} {w : World}
/-- How a round ends. -/
def roundQ (P : Program) (l N : Nat) (σ : Env) (t : List Nat) (assign body : Code) (rb : Nat) (fn : FuncId) (R : Bool → World → Prop) : Post := fun _ e _ w =>
  match e with
  | .normal => LoopAt w l N σ t assign body rb fn .busy none ∧ ∀ w', LoopAt w' l N σ t assign body rb fn .ready none → Keep w w' (· = l) → w'.heap.size = w.heap.size → R true w'
  | .ret => LoopAt w l N σ t assign body rb fn .busy none ∧ ∀ w', LoopAt w' l N σ t assign body rb fn .done (some .ret) → Keep w w' (· = l) → w'.heap.size = w.heap.size → R false w'
  | .exit i => LoopAt w l N σ t assign body rb fn .busy none ∧ ∀ w', LoopAt w' l N σ t assign body rb fn .done (some (.exit i)) → Keep w w' (· = l) → w'.heap.size = w.heap.size → R false w'
  | _ => False
theorem Yd.of {l : Nat} {t : List Nat} {assign body : Code} {rb : Nat} {fn : FuncId} {v : List Value} {R : Bool → World → Prop} (hl : LoopAt w l N σ t assign body rb fn .ready none) (ht : ∀ x ∈ t, x < N) (hlen : t.length = v.length)
    (h : ∀ σ0, (∀ i, σ0 i = updL σ t v i) → CK (some l) N P assign (fun D' e σ' w1 => e = .normal ∧ D' = [] ∧ LoopAt w1 l N σ t assign body rb fn .ready none ∧
      ∀ w2, LoopAt w2 l N σ t assign body rb fn .busy none → Keep w1 w2 (· = l) → w2.heap.size = w1.heap.size → CK (some l) N P body (roundQ P l N σ t assign body rb fn R) [] σ' w2) [] σ0 w) : Yd P l v w R := by
  obtain ⟨a, D, hr, hh⟩ := hl
  refine ⟨_, hh, by simpa using hlen, ?_⟩
  refine roundIn_of_wpIn (F := WF none) trivial ?_
  have hrep : Rep N [] { tmps := ((t.toArray.zip v.toArray).foldl (fun tmps (x : Nat × Value) => tmps.setIfInBounds x.1 x.2) a.tmps), defers := [] } (updL σ t v) := by
    have := rep_zip t v ht (show Rep N [] { tmps := a.tmps, defers := [] } σ from ⟨hr.size, rfl, hr.get⟩)
    simpa using this
  refine wpIn_mono (h _ (fun _ => rfl) _ hrep) ?_
  rintro e a1 w1 ⟨σ', D', hr1, rfl, rfl, hl1, hb⟩
  obtain ⟨a2, D2, hr2, hh2⟩ := hl1
  have hlt : l < w1.heap.size := LoopAt.lt ⟨a2, D2, hr2, hh2⟩
  refine ⟨_, run_beginRound hh2 rfl, ?_⟩
  have hl2 : LoopAt (w1.putObj l (.loop { state := .busy, pending := none, fn, tmps := a2.tmps, params := t.toArray, assign, body, defers := rb })) l N σ t assign body rb fn .busy none := ⟨a2, D2, hr2, World.putObj_heap_same hlt⟩
  refine wpIn_mono (hb _ hl2 (putObj_keep _ _ _) (by simp) a1 hr1) ?_
  rintro e a3 w3 ⟨σ3, D3, hr3, q⟩
  have fin : ∀ (jump : Option Code) (b : Bool), b = jump.isNone → LoopAt w3 l N σ t assign body rb fn .busy none →
      (∀ w', LoopAt w' l N σ t assign body rb fn (if jump.isNone then .ready else .done) jump → Keep w3 w' (· = l) → w'.heap.size = w3.heap.size → R b w') →
      ∃ v w', (Instr.endRound l jump).run P w3 = .ok v w' ∧ ∃ b, Ending.returned v = .returned (.bool b) ∧ R b w' := by
    rintro jump b rfl ⟨a4, D4, hr4, hh4⟩ hR
    have hlt3 : l < w3.heap.size := LoopAt.lt ⟨a4, D4, hr4, hh4⟩
    exact ⟨_, _, run_endRound jump hh4, _, rfl, hR _ ⟨a4, D4, hr4, World.putObj_heap_same hlt3⟩ (putObj_keep _ _ _) (by simp)⟩
  cases e with
  | normal => exact fin none true rfl q.1 q.2
  | ret => exact fin (some .ret) false rfl q.1 q.2
  | exit i => exact fin (some (.exit i)) false rfl q.1 q.2
  | goto i => exact q.elim
  | panic c => exact q.elim
  | outgrown => exact q.elim

/-- The mark of a range over a function among the deferred calls. -/
def mark (rb : Nat) : Deferred := { target := .collected rb, args := #[] }
/-- A range over a function, not inside a round: the iterator is called with yield; what it leaves decides how the code goes on. -/
theorem CK.rangeFunc {g : Operand} {t : List Nat} {assign body : Code} {f : FuncId} {fl cl : List Value} (hx : ev σ g = .func (.func f) fl.toArray cl.toArray)
    (hcall : ∀ (args : Array Value) (w : World), (callFunc f args).run P w = .ok (.enter f args) w)
    (h : ∀ fn l rb w1, rb = w.heap.size → l = w.heap.size + 1 → LoopAt w1 l N σ t assign body rb fn .ready none → w1.heap[rb]? = some (.deferred (some [])) → Keep w w1 Non → w1.heap.size = w.heap.size + 2 →
      Gv P f (fl ++ [.func (.yield l) #[] #[]] ++ cl) w1 (fun _ w3 =>
        (LoopAt w3 l N σ t assign body rb fn .ready none ∧ ∀ w4, Keep w3 w4 (· = l) → w4.heap.size = w3.heap.size → Q (mark rb :: D) .normal σ w4) ∨
        (∃ e, (e = Exit.ret ∨ ∃ i, e = .exit i) ∧ LoopAt w3 l N σ t assign body rb fn .done (match e with | .ret => some .ret | .exit i => some (.exit i) | _ => none) ∧ ∀ w4, Keep w3 w4 (· = l) → w4.heap.size = w3.heap.size → Q (mark rb :: D) e σ w4))) :
    CK none N P (.rangeFunc g t.toArray assign body) Q D σ w := by
  intro a ha
  refine wpIn_rangeFunc (F := WF none) fun fn _ => ?_
  have hl : LoopAt ((w.alloc (.deferred (some []))).alloc (.loop { state := .ready, pending := none, fn, tmps := a.tmps, params := t.toArray, assign, body, defers := w.heap.size })) (w.heap.size + 1) N σ t assign body w.heap.size fn .ready none := by
    refine ⟨a, D, ha, ?_⟩
    have := heap_alloc_new (w.alloc (.deferred (some []))) (.loop { state := .ready, pending := none, fn, tmps := a.tmps, params := t.toArray, assign, body, defers := w.heap.size })
    rwa [World.size_alloc] at this
  have hd : ((w.alloc (.deferred (some []))).alloc (.loop { state := .ready, pending := none, fn, tmps := a.tmps, params := t.toArray, assign, body, defers := w.heap.size })).heap[w.heap.size]? = some (.deferred (some [])) := by
    rw [Below.heap_alloc _ _ _ (by simp)]
    exact heap_alloc_new w _
  have hG := h fn _ _ _ rfl rfl hl hd ((alloc_keep w _).non (alloc_keep _ _)) (by simp)
  generalize hW : (w.alloc (.deferred (some []))).alloc (.loop { state := .ready, pending := none, fn, tmps := a.tmps, params := t.toArray, assign, body, defers := w.heap.size }) = W1 at hl hd hG
  refine ⟨w.heap.size + 1, [{ target := .collected w.heap.size, args := #[] }], W1, { target := .fn (.func f) cl.toArray, args := (fl ++ [Value.func (.yield (w.heap.size + 1)) #[] #[]]).toArray }, W1, f, (fl ++ [Value.func (.yield (w.heap.size + 1)) #[] #[]] ++ cl).toArray, W1, hW ▸ run_enterLoop_outer fn a.tmps t.toArray assign body, ?_, fun _ _ => trivial, ?_, fun h => (by cases h), ?_⟩
  · have he : a.eval g = .func (.func f) fl.toArray cl.toArray := by rw [ha.eval]; exact hx
    have hc : a.eval (.const (.func (.yield (w.heap.size + 1)) #[] #[])) = .func (.yield (w.heap.size + 1)) #[] #[] := rfl
    simp [resolve, rangeCall, he, hc, Deferred.ofValue]
  · simp [invoke, hcall]
  · refine CallsIn.mono (hG.callsIn none) ?_
    rintro e w3 ⟨v, rfl, hv⟩
    have hrep : Rep N (mark w.heap.size :: D) { a with defers := [{ target := .collected w.heap.size, args := #[] }] ++ a.defers } σ := ⟨ha.size, by rw [← ha.defers]; rfl, ha.get⟩
    rcases hv with ⟨hl3, hQ⟩ | ⟨e, he, hl3, hQ⟩
    · obtain ⟨a3, D3, hr3, hh3⟩ := hl3
      exact ⟨none, _, run_endLoop hh3 (by simp), σ, _, hrep, hQ _ (putObj_keep _ _ _) (by simp)⟩
    · rcases he with rfl | ⟨i, rfl⟩
      · obtain ⟨a3, D3, hr3, hh3⟩ := hl3
        exact ⟨some .ret, _, run_endLoop hh3 (by simp), wpIn_ret ⟨σ, _, hrep, hQ _ (putObj_keep _ _ _) (by simp)⟩⟩
      · obtain ⟨a3, D3, hr3, hh3⟩ := hl3
        exact ⟨some (.exit i), _, run_endLoop hh3 (by simp), wpIn_exit ⟨σ, _, hrep, hQ _ (putObj_keep _ _ _) (by simp)⟩⟩
def Dfr (w : World) (rb : Nat) : Prop := w.heap[rb]? = some (.deferred (some []))
theorem Dfr.lt {w : World} {b : Nat} (h : Dfr w b) : b < w.heap.size := by
  rcases Nat.lt_or_ge b w.heap.size with hlt | hge
  · exact hlt
  · unfold Dfr at h; rw [Array.getElem?_eq_none hge] at h; cases h
theorem Dfr.keep {w w' : World} {b : Nat} {X : Nat → Prop} (h : Dfr w b) (k : Keep w w' X) (hx : ¬ X b) : Dfr w' b := (k.block b h.lt hx).trans h
theorem Dfr.non {w w' : World} {b : Nat} (h : Dfr w b) (k : Keep w w' Non) : Dfr w' b := h.keep k id
/-- A function whose body may hold ranges over functions: their marks are among the deferred calls. -/
def retM (P : Program) (rs : Array ResultVar) (R : Value → World → Prop) : Post := fun D e σ w =>
  match e with
  | .normal | .ret => ∃ rbs : List Nat, D = rbs.map mark ∧ rbs.Nodup ∧ (∀ rb ∈ rbs, Dfr w rb) ∧ ∀ w', Keep w w' (· ∈ rbs) → w'.heap.size = w.heap.size → ∃ v, (resRun rs σ).run P w' = .ok v w' ∧ R v w'
  | _ => False
theorem Gv.ofM {f : FuncId} {fn : Func} {c : Code} {args : List Value} {R : Value → World → Prop} {rs : Array ResultVar}
    (hf : P.funcs[f]? = some fn) (hb : fn.body = some c) (hN : fn.ntmps = N) (hrs : fn.results = rs) (hle : args.length ≤ N)
    (h : CK none N P c (retM P rs R) [] (init args) w) : Gv P f args w R := by
  refine callsIn_wide.1 (callsIn_of_wp_marks hf hb trivial ?_ (n := 0))
  subst hN hrs
  refine wpIn_mono (h _ (init_rep args _ hle)) ?_
  have fin : ∀ (σ : Env) (a : Act) (tmps : Array Value), (results fn tmps = resRun fn.results σ) → ∀ (rbs : List Nat) (w : World) (u : FrameMode), u = .returning → rbs.Nodup → (∀ rb ∈ rbs, Dfr w rb) → (∀ w', Keep w w' (· ∈ rbs) → w'.heap.size = w.heap.size → ∃ v, (resRun fn.results σ).run P w' = .ok v w' ∧ R v w') →
      LeavesInM Fence.wide 0 P fn tmps (fun e w' => ∃ v, e = .returned v ∧ R v w') (rbs.map mark) u w := by
    intro σ a tmps hres rbs
    induction rbs with
    | nil =>
      intro w u hu _ _ hR
      subst hu
      obtain ⟨v, hv, hRv⟩ := hR w (Keep.refl w _) rfl
      exact ⟨v, by rw [hres]; exact hv, v, rfl, hRv⟩
    | cons rb rbs ih =>
      intro w u hu hn hd hR
      subst hu
      obtain ⟨hn1, hn2⟩ := List.nodup_cons.1 hn
      refine ⟨by simp, .inl ⟨rb, _, rfl, run_takeDeferred (hd rb (by simp)), ih _ _ rfl hn2 (fun x hx => (hd x (by simp [hx])).keep (putObj_keep w rb _) fun e => hn1 (e ▸ hx)) fun w' K hs => hR w' ?_ (by rw [hs]; simp)⟩⟩
      exact ((putObj_keep w rb _).weak fun i _ e => by subst e; simp).step K fun i _ hi => by simp [hi]
  rintro e a w ⟨σ, D, hr, q⟩
  cases e with
  | normal => obtain ⟨rbs, rfl, h1, h2, h3⟩ := q; show LeavesInM _ _ _ _ _ _ a.defers _ _; rw [hr.defers]; exact fin σ a _ (resRun_eq hr fn) rbs w _ rfl h1 h2 h3
  | ret => obtain ⟨rbs, rfl, h1, h2, h3⟩ := q; show LeavesInM _ _ _ _ _ _ a.defers _ _; rw [hr.defers]; exact fin σ a _ (resRun_eq hr fn) rbs w _ rfl h1 h2 h3
  | _ => exact q.elim
end
/-- Calling a function value that is yield. -/
theorem Yd.rounds {P : Program} {σ : Env} {w : World} {o : Oper} {l : Nat} {x : Operand} {ys : Array Operand} {ty : Array TypeId} {v : List Value} {R : Bool → World → Prop} (ho : o.op = .call { callee := .value x, args := ys, argTypes := ty })
    (hx : ev σ x = .func (.yield l) #[] #[]) (hy : ys.toList.map (ev σ) = v) (hY : Yd P l v w R) : Rounds P σ w o fun v w' => ∃ b, v = .bool b ∧ R b w' := by
  subst hy
  obtain ⟨lr, h1, h2, h3⟩ := hY
  refine ⟨by rw [ho]; rfl, l, lr.fn, _, lr.assign, lr.body, ?_, h3.mono fun e w' ⟨b, e1, e2⟩ => ⟨_, e1, b, rfl, e2⟩⟩
  have e : ys.map (ev σ) = (ys.toList.map (ev σ)).toArray := by
    rw [← Array.toList_map]
  have := run_yield (P := P) (args := ys.map (ev σ)) h1 (by simpa using h2.symm)
  rw [← e]
  simp [execOp, ho, resolve, hx, Deferred.ofValue, invoke, this]
end Go.KX
