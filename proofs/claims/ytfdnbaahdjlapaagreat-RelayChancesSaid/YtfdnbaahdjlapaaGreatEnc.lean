/- How data lie in cells. -/
import Derived.Test.YtfdnbaahdjlapaaGreatVT
import Derived.Test.YtfdnbaahdjlapaaGreatMod
import Derived.Test.YtfdnbaahdjlapaaGreatProg
import Derived.Test.YtfdnbaahdjlapaaGreatXV
namespace Go.Proofs.YtfdnbaahdjlapaaGreat
open Go.KL
def encT_api_Span (x : T_api_Span) : List Value := [.int .i64 x.Lo, .int .i64 x.Hi]
def ar123 (φ : PHeap) (x : T_api_Span) (vs : List Value) : Prop := vs = [.agg #[.int .i64 x.Lo, .int .i64 x.Hi]]
def rr123 (φ : PHeap) (L_ : List Res) (v : Value) (y : Bool) : Prop := v = .bool y ∧ L_ = []
theorem Tryz.mixed : Tryz.prog.follows .mixedOrders = true := by kernel_rfl
theorem places46 : PlacesT Tryz.prog 46 [(0, 1), (1, 1)] := ⟨_, Tryz.runUnderlying46, fun w => by simp [Tryz.sizeOf3]⟩
theorem info46 : Tryz.prog.info? 46 = some Tryz.t46 := by kernel_rfl
theorem eqS46 (d : Nat) (x y : T_api_Span) (w : World) : (Op.equalIn (d + 2) 46 (.agg (encT_api_Span x).toArray) (.agg (encT_api_Span y).toArray)).run Tryz.prog w = .ok (decide (x = y)) w := by
  obtain ⟨x0, x1⟩ := x
  obtain ⟨y0, y1⟩ := y
  rw [run_equalIn_agg w (d + 1) 46 _ _ (und_fields Tryz.runUnderlying46) (by kernel_rfl), fieldsOf_of Tryz.runUnderlying46]
  by_cases h0 : x0 = y0 <;> by_cases h1 : x1 = y1 <;> simp [Op.eqFields, part, encT_api_Span, Result.andThen, Tryz.isAgg3, h0, run_equalIn_int _ (d + 0) 3 .i64 .i64 _ _ (und_of Tryz.runUnderlying3), h1]
theorem eqG46 : Tryz.prog.eqGuardType Tryz.prog.depth 46 = false := by kernel_rfl
theorem eqT46 : EqT Tryz.prog 46 encT_api_Span := fun x y w => by
  unfold Op.equal Op.maxDepth; exact eqS46 9998 x y w
end Go.Proofs.YtfdnbaahdjlapaaGreat
