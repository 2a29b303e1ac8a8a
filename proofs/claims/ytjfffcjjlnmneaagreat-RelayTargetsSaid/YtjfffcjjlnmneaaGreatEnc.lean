/- How data lie in cells. -/
import Derived.Test.YtjfffcjjlnmneaaGreatVT
import Derived.Test.YtjfffcjjlnmneaaGreatMod
import Derived.Test.YtjfffcjjlnmneaaGreatProg
import Derived.Test.YtjfffcjjlnmneaaGreatXV
namespace Go.Proofs.YtjfffcjjlnmneaaGreat
open Go.KL
def encT_target_Shot (x : T_target_Shot) : List Value := [.int .i64 x.X, .int .i64 x.Y]
def ar239 (φ : PHeap) (x : T_target_Shot) (vs : List Value) : Prop := vs = [.agg #[.int .i64 x.X, .int .i64 x.Y]]
def rr239 (φ : PHeap) (L_ : List Res) (v : Value) (y : Bool) : Prop := v = .bool y ∧ L_ = []
def encT_relay_Shooting (x : T_relay_Shooting) : List Value := [.int .i64 x.Spares, .int .i64 x.Loops, .int .i64 x.Unused]
theorem Tryz.mixed : Tryz.prog.follows .mixedOrders = true := by kernel_rfl
theorem places49 : PlacesT Tryz.prog 49 [(0, 1), (1, 1), (2, 1)] := ⟨_, Tryz.runUnderlying49, fun w => by simp [Tryz.sizeOf3]⟩
theorem places83 : PlacesT Tryz.prog 83 [(0, 1), (1, 1)] := ⟨_, Tryz.runUnderlying83, fun w => by simp [Tryz.sizeOf3]⟩
theorem places194 : PlacesT Tryz.prog 194 [(0, 1), (1, 1), (2, 1)] := ⟨_, Tryz.runUnderlying194, fun w => by simp [Tryz.sizeOf22, Tryz.sizeOf3, Tryz.sizeOf192]⟩
theorem info3 : Tryz.prog.info? 3 = some Tryz.t3 := by kernel_rfl
theorem info4 : Tryz.prog.info? 4 = some Tryz.t4 := by kernel_rfl
theorem info83 : Tryz.prog.info? 83 = some Tryz.t83 := by kernel_rfl
end Go.Proofs.YtjfffcjjlnmneaaGreat
