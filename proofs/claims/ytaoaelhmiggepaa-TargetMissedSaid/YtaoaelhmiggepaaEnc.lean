/- How data lie in cells. -/
import Derived.Test.YtaoaelhmiggepaaVW
import Derived.Test.YtaoaelhmiggepaaMod
import Derived.Test.YtaoaelhmiggepaaProg
import Derived.Test.YtaoaelhmiggepaaXV
namespace Go.Proofs.Ytaoaelhmiggepaa
open Go.KL
def encT_api_Span (x : T_api_Span) : List Value := [.int .i64 x.Lo, .int .i64 x.Hi]
def encT_target_Sheet (x : T_target_Sheet) : List Value := [.int .i64 x.From, .int .i64 x.To, .int .i64 x.Loops.Lo, .int .i64 x.Loops.Hi]
def ar107 (φ : PHeap) (x : Int) (vs : List Value) : Prop := vs = [.int .i64 x]
def rr107 (φ : PHeap) (L_ : List Res) (v : Value) (y : Bool) : Prop := v = .bool y ∧ L_ = []
def ar193 (φ : PHeap) (x : T_target_Sheet) (vs : List Value) : Prop := vs = [.agg #[.int .i64 x.From, .int .i64 x.To, .int .i64 x.Loops.Lo, .int .i64 x.Loops.Hi]]
def rr193 (φ : PHeap) (L_ : List Res) (v : Value) (y : Bool) : Prop := v = .bool y ∧ L_ = []
def ar132 (φ : PHeap) (x : Unit) (vs : List Value) : Prop := vs = []
def rr132 (φ : PHeap) (L_ : List Res) (v : Value) (y : Int) : Prop := v = .int .i64 y ∧ L_ = []
def encT_target_Step (x : T_target_Step) : List Value := [.int .i64 x.Kind, .int .i64 x.Index]
def rl134 : Rl T_target_link where
  sz := 5
  r := fun φ x vs => ∃ (pv_3 : Value), vs = [.int .i64 x.Step.Kind, .int .i64 x.Step.Index, .int .i64 x.from_, .int .i64 x.to_, pv_3] ∧ FnOK Try.prog φ pv_3 ar132 rr132 x.count
  mono := by rintro φ φ' x vs ⟨pv_3, rfl, h0⟩ hl; exact ⟨pv_3, rfl, h0.le hl⟩
  len := by rintro φ x vs ⟨_, rfl, _⟩; rfl
  one := by rintro φ x vs ⟨_, rfl, h0⟩; obtain ⟨_, _, _, rfl, _⟩ := h0; rfl
def ar135 (φ : PHeap) (x : T_target_link) (vs : List Value) : Prop := ∃ (pv_0_3 : Value), vs = [.agg #[.int .i64 x.Step.Kind, .int .i64 x.Step.Index, .int .i64 x.from_, .int .i64 x.to_, pv_0_3]] ∧ FnOK Try.prog φ pv_0_3 ar132 rr132 x.count
def rr135 (φ : PHeap) (L_ : List Res) (v : Value) (y : Bool) : Prop := v = .bool y ∧ L_ = []
theorem Try.mixed : Try.prog.follows .mixedOrders = true := by kernel_rfl
theorem places29 : PlacesT Try.prog 29 [(0, 1), (1, 1)] := ⟨_, Try.runUnderlying29, fun w => by simp [Try.sizeOf3]⟩
theorem places31 : PlacesT Try.prog 31 [(0, 1), (1, 1), (2, 2)] := ⟨_, Try.runUnderlying31, fun w => by simp [Try.sizeOf3, Try.sizeOf29]⟩
theorem places35 : PlacesT Try.prog 35 [(0, 1), (1, 1)] := ⟨_, Try.runUnderlying35, fun w => by simp [Try.sizeOf33, Try.sizeOf3]⟩
theorem places134 : PlacesT Try.prog 134 [(0, 2), (2, 1), (3, 1), (4, 1)] := ⟨_, Try.runUnderlying134, fun w => by simp [Try.sizeOf35, Try.sizeOf3, Try.sizeOf132]⟩
theorem places141 : PlacesT Try.prog 141 [(0, 1), (1, 1), (2, 1)] := ⟨_, Try.runUnderlying141, fun w => by simp [Try.sizeOf59, Try.sizeOf3, Try.sizeOf139]⟩
theorem info3 : Try.prog.info? 3 = some Try.t3 := by kernel_rfl
theorem info31 : Try.prog.info? 31 = some Try.t31 := by kernel_rfl
theorem info35 : Try.prog.info? 35 = some Try.t35 := by kernel_rfl
theorem info134 : Try.prog.info? 134 = some Try.t134 := by kernel_rfl
theorem eqS35 (d : Nat) (x y : T_target_Step) (w : World) : (Op.equalIn (d + 2) 35 (.agg (encT_target_Step x).toArray) (.agg (encT_target_Step y).toArray)).run Try.prog w = .ok (decide (x = y)) w := by
  obtain ⟨x0, x1⟩ := x
  obtain ⟨y0, y1⟩ := y
  rw [run_equalIn_agg w (d + 1) 35 _ _ (und_fields Try.runUnderlying35) (by kernel_rfl), fieldsOf_of Try.runUnderlying35]
  by_cases h0 : x0 = y0 <;> by_cases h1 : x1 = y1 <;> simp [Op.eqFields, part, encT_target_Step, Result.andThen, Try.isAgg33, h0, run_equalIn_int _ (d + 0) 33 .i64 .i64 _ _ (und_of Try.runUnderlying33), Try.isAgg3, h1, run_equalIn_int _ (d + 0) 3 .i64 .i64 _ _ (und_of Try.runUnderlying3)]
theorem eqG35 : Try.prog.eqGuardType Try.prog.depth 35 = false := by kernel_rfl
theorem eqT35 : EqT Try.prog 35 encT_target_Step := fun x y w => by
  unfold Op.equal Op.maxDepth; exact eqS35 9998 x y w
end Go.Proofs.Ytaoaelhmiggepaa
