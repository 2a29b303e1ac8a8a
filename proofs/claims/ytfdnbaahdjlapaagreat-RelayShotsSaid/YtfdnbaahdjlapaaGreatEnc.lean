/- How data lie in cells. -/
import Derived.Test.YtfdnbaahdjlapaaGreatVT
import Derived.Test.YtfdnbaahdjlapaaGreatMod
import Derived.Test.YtfdnbaahdjlapaaGreatProg
import Derived.Test.YtfdnbaahdjlapaaGreatXV
namespace Go.Proofs.YtfdnbaahdjlapaaGreat
open Go.KL
def ar179 (φ : PHeap) (x : Int) (vs : List Value) : Prop := vs = [.int .i64 x]
def rr179 (φ : PHeap) (L_ : List Res) (v : Value) (y : Bool) : Prop := v = .bool y ∧ L_ = []
def ar116 (φ : PHeap) (x : T_relay_Rules) (vs : List Value) : Prop := ∃ (pA_0_0 : Option Addr) (pc_0_0 : Nat), vs = [.agg #[.slice pA_0_0 x.Classes.length pc_0_0, .int .i64 x.Each, .int .i64 x.Laps, .int .i64 x.Spare, .int .i64 x.Loop, .int .i64 x.Unused]] ∧ Sl φ 1 pA_0_0 pc_0_0 x.Classes.length (List.flatMap encI x.Classes)
def rr116 (φ : PHeap) (L_ : List Res) (v : Value) (y : Int) : Prop := v = .int .i64 y ∧ L_ = []
def rl118 : Rl T_relay_limit where
  sz := 3
  r := fun φ x vs => ∃ (pv_0 : Value), vs = [pv_0, .int .i64 x.lo, .int .i64 x.hi] ∧ FnOK Tryz.prog φ pv_0 ar116 rr116 x.of
  mono := by rintro φ φ' x vs ⟨pv_0, rfl, h0⟩ hl; exact ⟨pv_0, rfl, h0.le hl⟩
  len := by rintro φ x vs ⟨_, rfl, _⟩; rfl
  one := by rintro φ x vs ⟨_, rfl, h0⟩; obtain ⟨_, _, _, rfl, _⟩ := h0; rfl
def ar121 (φ : PHeap) (x : T_relay_limit) (vs : List Value) : Prop := ∃ (pv_0_0 : Value), vs = [.agg #[pv_0_0, .int .i64 x.lo, .int .i64 x.hi]] ∧ FnOK Tryz.prog φ pv_0_0 ar116 rr116 x.of
def rr121 (φ : PHeap) (L_ : List Res) (v : Value) (y : Bool) : Prop := v = .bool y ∧ L_ = []
def encT_relay_Shooting (x : T_relay_Shooting) : List Value := [.int .i64 x.Spares, .int .i64 x.Loops, .int .i64 x.Unused]
def encT_klisterref08_Shooting (x : T_klisterref08_Shooting) : List Value := [.int .i64 x.Spares, .int .i64 x.Loops, .int .i64 x.Unused]
theorem Tryz.mixed : Tryz.prog.follows .mixedOrders = true := by kernel_rfl
theorem places34 : PlacesT Tryz.prog 34 [(0, 1), (1, 1), (2, 1)] := ⟨_, Tryz.runUnderlying34, fun w => by simp [Tryz.sizeOf3]⟩
theorem places37 : PlacesT Tryz.prog 37 [(0, 1), (1, 1), (2, 1)] := ⟨_, Tryz.runUnderlying37, fun w => by simp [Tryz.sizeOf3]⟩
theorem places118 : PlacesT Tryz.prog 118 [(0, 1), (1, 1), (2, 1)] := ⟨_, Tryz.runUnderlying118, fun w => by simp [Tryz.sizeOf116, Tryz.sizeOf3]⟩
theorem info3 : Tryz.prog.info? 3 = some Tryz.t3 := by kernel_rfl
theorem info4 : Tryz.prog.info? 4 = some Tryz.t4 := by kernel_rfl
theorem eqS37 (d : Nat) (x y : T_klisterref08_Shooting) (w : World) : (Op.equalIn (d + 2) 37 (.agg (encT_klisterref08_Shooting x).toArray) (.agg (encT_klisterref08_Shooting y).toArray)).run Tryz.prog w = .ok (decide (x = y)) w := by
  obtain ⟨x0, x1, x2⟩ := x
  obtain ⟨y0, y1, y2⟩ := y
  rw [run_equalIn_agg w (d + 1) 37 _ _ (und_fields Tryz.runUnderlying37) (by kernel_rfl), fieldsOf_of Tryz.runUnderlying37]
  by_cases h0 : x0 = y0 <;> by_cases h1 : x1 = y1 <;> by_cases h2 : x2 = y2 <;> simp [Op.eqFields, part, encT_klisterref08_Shooting, Result.andThen, Tryz.isAgg3, h0, run_equalIn_int _ (d + 0) 3 .i64 .i64 _ _ (und_of Tryz.runUnderlying3), h1, h2]
theorem eqG37 : Tryz.prog.eqGuardType Tryz.prog.depth 37 = false := by kernel_rfl
theorem eqT37 : EqT Tryz.prog 37 encT_klisterref08_Shooting := fun x y w => by
  unfold Op.equal Op.maxDepth; exact eqS37 9998 x y w
end Go.Proofs.YtfdnbaahdjlapaaGreat
