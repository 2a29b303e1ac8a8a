/- How data lie in cells. -/
import Derived.Test.YtnllmignponhdaaVI
import Derived.Test.YtnllmignponhdaaMod
import Derived.Test.YtnllmignponhdaaProg
import Derived.Test.YtnllmignponhdaaXV
namespace Go.Proofs.Ytnllmignponhdaa
open Go.KL
def encT_api_Span (x : T_api_Span) : List Value := [.int .i64 x.Lo, .int .i64 x.Hi]
def encT_target_Sheet (x : T_target_Sheet) : List Value := [.int .i64 x.From, .int .i64 x.To, .int .i64 x.Loops.Lo, .int .i64 x.Loops.Hi]
def ar151 (φ : PHeap) (x : T_target_Sheet) (vs : List Value) : Prop := vs = [.agg #[.int .i64 x.From, .int .i64 x.To, .int .i64 x.Loops.Lo, .int .i64 x.Loops.Hi]]
def rr151 (φ : PHeap) (L_ : List Res) (v : Value) (y : Bool) : Prop := v = .bool y ∧ L_ = []
def ar187 (φ : PHeap) (x : Unit) (vs : List Value) : Prop := vs = []
def rr187 (φ : PHeap) (L_ : List Res) (v : Value) (y : Int) : Prop := v = .int .i64 y ∧ L_ = []
def encT_target_Step (x : T_target_Step) : List Value := [.int .i64 x.Kind, .int .i64 x.Index]
def rl189 : Rl T_target_link where
  sz := 5
  r := fun φ x vs => ∃ (pv_3 : Value), vs = [.int .i64 x.Step.Kind, .int .i64 x.Step.Index, .int .i64 x.from_, .int .i64 x.to_, pv_3] ∧ FnOK Try.prog φ pv_3 ar187 rr187 x.count
  mono := by rintro φ φ' x vs ⟨pv_3, rfl, h0⟩ hl; exact ⟨pv_3, rfl, h0.le hl⟩
  len := by rintro φ x vs ⟨_, rfl, _⟩; rfl
  one := by rintro φ x vs ⟨_, rfl, h0⟩; obtain ⟨_, _, _, rfl, _⟩ := h0; rfl
def ar108 (φ : PHeap) (x : Int) (vs : List Value) : Prop := vs = [.int .i64 x]
def rr108 (φ : PHeap) (L_ : List Res) (v : Value) (y : Bool) : Prop := v = .bool y ∧ L_ = []
theorem Try.mixed : Try.prog.follows .mixedOrders = true := by kernel_rfl
theorem places31 : PlacesT Try.prog 31 [(0, 1), (1, 1)] := ⟨_, Try.runUnderlying31, fun w => by simp [Try.sizeOf3]⟩
theorem places33 : PlacesT Try.prog 33 [(0, 1), (1, 1), (2, 2)] := ⟨_, Try.runUnderlying33, fun w => by simp [Try.sizeOf3, Try.sizeOf31]⟩
theorem places114 : PlacesT Try.prog 114 [(0, 1), (1, 1)] := ⟨_, Try.runUnderlying114, fun w => by simp [Try.sizeOf112, Try.sizeOf3]⟩
theorem places134 : PlacesT Try.prog 134 [(0, 1), (1, 1), (2, 1)] := ⟨_, Try.runUnderlying134, fun w => by simp [Try.sizeOf22, Try.sizeOf3, Try.sizeOf132]⟩
theorem places189 : PlacesT Try.prog 189 [(0, 2), (2, 1), (3, 1), (4, 1)] := ⟨_, Try.runUnderlying189, fun w => by simp [Try.sizeOf114, Try.sizeOf3, Try.sizeOf187]⟩
theorem info3 : Try.prog.info? 3 = some Try.t3 := by kernel_rfl
theorem info31 : Try.prog.info? 31 = some Try.t31 := by kernel_rfl
theorem info33 : Try.prog.info? 33 = some Try.t33 := by kernel_rfl
theorem info189 : Try.prog.info? 189 = some Try.t189 := by kernel_rfl
theorem eqS31 (d : Nat) (x y : T_api_Span) (w : World) : (Op.equalIn (d + 2) 31 (.agg (encT_api_Span x).toArray) (.agg (encT_api_Span y).toArray)).run Try.prog w = .ok (decide (x = y)) w := by
  obtain ⟨x0, x1⟩ := x
  obtain ⟨y0, y1⟩ := y
  rw [run_equalIn_agg w (d + 1) 31 _ _ (und_fields Try.runUnderlying31) (by kernel_rfl), fieldsOf_of Try.runUnderlying31]
  by_cases h0 : x0 = y0 <;> by_cases h1 : x1 = y1 <;> simp [Op.eqFields, part, encT_api_Span, Result.andThen, Try.isAgg3, h0, run_equalIn_int _ (d + 0) 3 .i64 .i64 _ _ (und_of Try.runUnderlying3), h1]
theorem eqG31 : Try.prog.eqGuardType Try.prog.depth 31 = false := by kernel_rfl
theorem eqT31 : EqT Try.prog 31 encT_api_Span := fun x y w => by
  unfold Op.equal Op.maxDepth; exact eqS31 9998 x y w
end Go.Proofs.Ytnllmignponhdaa
