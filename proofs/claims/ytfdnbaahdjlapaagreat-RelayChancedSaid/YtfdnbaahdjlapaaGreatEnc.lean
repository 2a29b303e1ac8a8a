/- How data lie in cells. -/
import Derived.Test.YtfdnbaahdjlapaaGreatVT
import Derived.Test.YtfdnbaahdjlapaaGreatMod
import Derived.Test.YtfdnbaahdjlapaaGreatProg
import Derived.Test.YtfdnbaahdjlapaaGreatXV
namespace Go.Proofs.YtfdnbaahdjlapaaGreat
open Go.KL
def encT_api_Span (x : T_api_Span) : List Value := [.int .i64 x.Lo, .int .i64 x.Hi]
def ar123 (φ : PHeap) (x : T_api_Span) (vs : List Value) : Prop := vs = [.agg #[.int .i64 x.Lo, .int .i64 x.Hi]]
def rr123 (φ : PHeap) (L_ : List Res) (v : Value) (y : Bool) : Prop := v = .bool y ∧ L_ = []
theorem Tryz.mixed : Tryz.prog.follows .mixedOrders = true := by kernel_rfl
theorem places46 : PlacesT Tryz.prog 46 [(0, 1), (1, 1)] := ⟨_, Tryz.runUnderlying46, fun w => by simp [Tryz.sizeOf3]⟩
theorem places126 : PlacesT Tryz.prog 126 [(0, 1), (1, 1), (2, 1)] := ⟨_, Tryz.runUnderlying126, fun w => by simp [Tryz.sizeOf51, Tryz.sizeOf3, Tryz.sizeOf124]⟩
theorem info3 : Tryz.prog.info? 3 = some Tryz.t3 := by kernel_rfl
theorem info46 : Tryz.prog.info? 46 = some Tryz.t46 := by kernel_rfl
end Go.Proofs.YtfdnbaahdjlapaaGreat
