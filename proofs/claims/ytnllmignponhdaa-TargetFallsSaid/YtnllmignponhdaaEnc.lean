/- How data lie in cells. -/
import Derived.Test.YtnllmignponhdaaVI
import Derived.Test.YtnllmignponhdaaMod
import Derived.Test.YtnllmignponhdaaProg
import Derived.Test.YtnllmignponhdaaXV
namespace Go.Proofs.Ytnllmignponhdaa
open Go.KL
def encT_target_Shot (x : T_target_Shot) : List Value := [.int .i64 x.X, .int .i64 x.Y]
def ar153 (φ : PHeap) (x : T_target_Shot) (vs : List Value) : Prop := vs = [.agg #[.int .i64 x.X, .int .i64 x.Y]]
def rr153 (φ : PHeap) (L_ : List Res) (v : Value) (y : Bool) : Prop := v = .bool y ∧ L_ = []
def encT_klisterref03_Shot (x : T_klisterref03_Shot) : List Value := [.int .i64 x.X, .int .i64 x.Y]
theorem Try.mixed : Try.prog.follows .mixedOrders = true := by kernel_rfl
theorem info3 : Try.prog.info? 3 = some Try.t3 := by kernel_rfl
theorem info59 : Try.prog.info? 59 = some Try.t59 := by kernel_rfl
theorem info61 : Try.prog.info? 61 = some Try.t61 := by kernel_rfl
theorem eqS59 (d : Nat) (x y : T_target_Shot) (w : World) : (Op.equalIn (d + 2) 59 (.agg (encT_target_Shot x).toArray) (.agg (encT_target_Shot y).toArray)).run Try.prog w = .ok (decide (x = y)) w := by
  obtain ⟨x0, x1⟩ := x
  obtain ⟨y0, y1⟩ := y
  rw [run_equalIn_agg w (d + 1) 59 _ _ (und_fields Try.runUnderlying59) (by kernel_rfl), fieldsOf_of Try.runUnderlying59]
  by_cases h0 : x0 = y0 <;> by_cases h1 : x1 = y1 <;> simp [Op.eqFields, part, encT_target_Shot, Result.andThen, Try.isAgg3, h0, run_equalIn_int _ (d + 0) 3 .i64 .i64 _ _ (und_of Try.runUnderlying3), h1]
theorem eqG59 : Try.prog.eqGuardType Try.prog.depth 59 = false := by kernel_rfl
theorem eqT59 : EqT Try.prog 59 encT_target_Shot := fun x y w => by
  unfold Op.equal Op.maxDepth; exact eqS59 9998 x y w
end Go.Proofs.Ytnllmignponhdaa
