/- How data lie in cells. -/
import Derived.Test.YtaoaelhmiggepaaVT
import Derived.Test.YtaoaelhmiggepaaMod
import Derived.Test.YtaoaelhmiggepaaProg
import Derived.Test.YtaoaelhmiggepaaXV
namespace Go.Proofs.Ytaoaelhmiggepaa
open Go.KL
def encT_api_Span (x : T_api_Span) : List Value := [.int .i64 x.Lo, .int .i64 x.Hi]
def encT_target_Sheet (x : T_target_Sheet) : List Value := [.int .i64 x.From, .int .i64 x.To, .int .i64 x.Loops.Lo, .int .i64 x.Loops.Hi]
def encT_target_Step (x : T_target_Step) : List Value := [.int .i64 x.Kind, .int .i64 x.Index]
def encT_klisterref03_Sheet (x : T_klisterref03_Sheet) : List Value := [.int .i64 x.From, .int .i64 x.To, .int .i64 x.Loops.Lo, .int .i64 x.Loops.Hi]
def ar107 (φ : PHeap) (x : Int) (vs : List Value) : Prop := vs = [.int .i64 x]
def rr107 (φ : PHeap) (L_ : List Res) (v : Value) (y : Bool) : Prop := v = .bool y ∧ L_ = []
def ar193 (φ : PHeap) (x : T_target_Sheet) (vs : List Value) : Prop := vs = [.agg #[.int .i64 x.From, .int .i64 x.To, .int .i64 x.Loops.Lo, .int .i64 x.Loops.Hi]]
def rr193 (φ : PHeap) (L_ : List Res) (v : Value) (y : Bool) : Prop := v = .bool y ∧ L_ = []
def ar132 (φ : PHeap) (x : Unit) (vs : List Value) : Prop := vs = []
def rr132 (φ : PHeap) (L_ : List Res) (v : Value) (y : Int) : Prop := v = .int .i64 y ∧ L_ = []
def rl134 : Rl T_target_link where
  sz := 5
  r := fun φ x vs => ∃ (pv_3 : Value), vs = [.int .i64 x.Step.Kind, .int .i64 x.Step.Index, .int .i64 x.from_, .int .i64 x.to_, pv_3] ∧ FnOK Try.prog φ pv_3 ar132 rr132 x.count
  mono := by rintro φ φ' x vs ⟨pv_3, rfl, h0⟩ hl; exact ⟨pv_3, rfl, h0.le hl⟩
  len := by rintro φ x vs ⟨_, rfl, _⟩; rfl
  one := by rintro φ x vs ⟨_, rfl, h0⟩; obtain ⟨_, _, _, rfl, _⟩ := h0; rfl
def rl22 : Rl (List Int) where
  sz := 1
  r := fun φ x vs => ∃ (pA : Option Addr) (pc : Nat), vs = [.slice pA x.length pc] ∧ Sl φ 1 pA pc x.length (List.flatMap encI x)
  mono := by rintro φ φ' x vs ⟨pA, pc, rfl, h0⟩ hl; exact ⟨pA, pc, rfl, h0.le hl⟩
  len := by rintro φ x vs ⟨_, _, rfl, _⟩; rfl
  one := by rintro φ x vs ⟨_, _, rfl, h0⟩; rfl
def ar135 (φ : PHeap) (x : T_target_link) (vs : List Value) : Prop := ∃ (pv_0_3 : Value), vs = [.agg #[.int .i64 x.Step.Kind, .int .i64 x.Step.Index, .int .i64 x.from_, .int .i64 x.to_, pv_0_3]] ∧ FnOK Try.prog φ pv_0_3 ar132 rr132 x.count
def rr135 (φ : PHeap) (L_ : List Res) (v : Value) (y : Bool) : Prop := v = .bool y ∧ L_ = []
def encT_klisterref03_Step (x : T_klisterref03_Step) : List Value := [.int .i64 x.Kind, .int .i64 x.Index]
def rl23 : Rl (List T_target_Sheet) where
  sz := 1
  r := fun φ x vs => ∃ (pA : Option Addr) (pc : Nat), vs = [.slice pA x.length pc] ∧ Sl φ 4 pA pc x.length (List.flatMap encT_target_Sheet x)
  mono := by rintro φ φ' x vs ⟨pA, pc, rfl, h0⟩ hl; exact ⟨pA, pc, rfl, h0.le hl⟩
  len := by rintro φ x vs ⟨_, _, rfl, _⟩; rfl
  one := by rintro φ x vs ⟨_, _, rfl, h0⟩; rfl
theorem Try.mixed : Try.prog.follows .mixedOrders = true := by kernel_rfl
theorem places29 : PlacesT Try.prog 29 [(0, 1), (1, 1)] := ⟨_, Try.runUnderlying29, fun w => by simp [Try.sizeOf3]⟩
theorem places31 : PlacesT Try.prog 31 [(0, 1), (1, 1), (2, 2)] := ⟨_, Try.runUnderlying31, fun w => by simp [Try.sizeOf3, Try.sizeOf29]⟩
theorem places35 : PlacesT Try.prog 35 [(0, 1), (1, 1)] := ⟨_, Try.runUnderlying35, fun w => by simp [Try.sizeOf33, Try.sizeOf3]⟩
theorem places134 : PlacesT Try.prog 134 [(0, 2), (2, 1), (3, 1), (4, 1)] := ⟨_, Try.runUnderlying134, fun w => by simp [Try.sizeOf35, Try.sizeOf3, Try.sizeOf132]⟩
theorem places137 : PlacesT Try.prog 137 [(0, 1), (1, 1)] := ⟨_, Try.runUnderlying137, fun w => by simp [Try.sizeOf3]⟩
theorem info3 : Try.prog.info? 3 = some Try.t3 := by kernel_rfl
theorem info22 : Try.prog.info? 22 = some Try.t22 := by kernel_rfl
theorem info31 : Try.prog.info? 31 = some Try.t31 := by kernel_rfl
theorem info35 : Try.prog.info? 35 = some Try.t35 := by kernel_rfl
theorem info121 : Try.prog.info? 121 = some Try.t121 := by kernel_rfl
theorem info134 : Try.prog.info? 134 = some Try.t134 := by kernel_rfl
theorem info137 : Try.prog.info? 137 = some Try.t137 := by kernel_rfl
theorem eqS29 (d : Nat) (x y : T_api_Span) (w : World) : (Op.equalIn (d + 2) 29 (.agg (encT_api_Span x).toArray) (.agg (encT_api_Span y).toArray)).run Try.prog w = .ok (decide (x = y)) w := by
  obtain ⟨x0, x1⟩ := x
  obtain ⟨y0, y1⟩ := y
  rw [run_equalIn_agg w (d + 1) 29 _ _ (und_fields Try.runUnderlying29) (by kernel_rfl), fieldsOf_of Try.runUnderlying29]
  by_cases h0 : x0 = y0 <;> by_cases h1 : x1 = y1 <;> simp [Op.eqFields, part, encT_api_Span, Result.andThen, Try.isAgg3, h0, run_equalIn_int _ (d + 0) 3 .i64 .i64 _ _ (und_of Try.runUnderlying3), h1]
theorem eqS31 (d : Nat) (x y : T_target_Sheet) (w : World) : (Op.equalIn (d + 3) 31 (.agg (encT_target_Sheet x).toArray) (.agg (encT_target_Sheet y).toArray)).run Try.prog w = .ok (decide (x = y)) w := by
  obtain ⟨x0, x1, x2⟩ := x
  obtain ⟨y0, y1, y2⟩ := y
  have e2 := fun w => eqS29 (d + 0) x2 y2 w
  rw [run_equalIn_agg w (d + 2) 31 _ _ (und_fields Try.runUnderlying31) (by kernel_rfl), fieldsOf_of Try.runUnderlying31]
  by_cases h0 : x0 = y0 <;> by_cases h1 : x1 = y1 <;> by_cases h2 : x2 = y2 <;> simp only [h2, encT_api_Span, decide_true, decide_false] at e2 <;> simp [Op.eqFields, part, encT_target_Sheet, Result.andThen, Try.isAgg3, h0, run_equalIn_int _ (d + 1) 3 .i64 .i64 _ _ (und_of Try.runUnderlying3), h1, Try.isAgg29, h2, e2, Try.sizeOf29, encT_api_Span]
theorem eqG31 : Try.prog.eqGuardType Try.prog.depth 31 = false := by kernel_rfl
theorem eqT31 : EqT Try.prog 31 encT_target_Sheet := fun x y w => by
  unfold Op.equal Op.maxDepth; exact eqS31 9997 x y w
theorem eqS35 (d : Nat) (x y : T_target_Step) (w : World) : (Op.equalIn (d + 2) 35 (.agg (encT_target_Step x).toArray) (.agg (encT_target_Step y).toArray)).run Try.prog w = .ok (decide (x = y)) w := by
  obtain ⟨x0, x1⟩ := x
  obtain ⟨y0, y1⟩ := y
  rw [run_equalIn_agg w (d + 1) 35 _ _ (und_fields Try.runUnderlying35) (by kernel_rfl), fieldsOf_of Try.runUnderlying35]
  by_cases h0 : x0 = y0 <;> by_cases h1 : x1 = y1 <;> simp [Op.eqFields, part, encT_target_Step, Result.andThen, Try.isAgg33, h0, run_equalIn_int _ (d + 0) 33 .i64 .i64 _ _ (und_of Try.runUnderlying33), Try.isAgg3, h1, run_equalIn_int _ (d + 0) 3 .i64 .i64 _ _ (und_of Try.runUnderlying3)]
theorem eqG35 : Try.prog.eqGuardType Try.prog.depth 35 = false := by kernel_rfl
theorem eqT35 : EqT Try.prog 35 encT_target_Step := fun x y w => by
  unfold Op.equal Op.maxDepth; exact eqS35 9998 x y w
end Go.Proofs.Ytaoaelhmiggepaa
