/- How data lie in cells. -/
import Derived.Test.YtnllmignponhdaaVT
import Derived.Test.YtnllmignponhdaaMod
import Derived.Test.YtnllmignponhdaaProg
import Derived.Test.YtnllmignponhdaaXV
namespace Go.Proofs.Ytnllmignponhdaa
open Go.KL
def encT_api_Span (x : T_api_Span) : List Value := [.int .i64 x.Lo, .int .i64 x.Hi]
def encT_target_Sheet (x : T_target_Sheet) : List Value := [.int .i64 x.From, .int .i64 x.To, .int .i64 x.Loops.Lo, .int .i64 x.Loops.Hi]
def ar151 (φ : PHeap) (x : T_target_Sheet) (vs : List Value) : Prop := vs = [.agg #[.int .i64 x.From, .int .i64 x.To, .int .i64 x.Loops.Lo, .int .i64 x.Loops.Hi]]
def rr151 (φ : PHeap) (L_ : List Res) (v : Value) (y : Bool) : Prop := v = .bool y ∧ L_ = []
def ar187 (φ : PHeap) (x : Unit) (vs : List Value) : Prop := vs = []
def rr187 (φ : PHeap) (L_ : List Res) (v : Value) (y : Int) : Prop := v = .int .i64 y ∧ L_ = []
def encT_target_Step (x : T_target_Step) : List Value := [.int .i64 x.Kind, .int .i64 x.Index]
def rl189 : Rl T_target_link where
  sz := 5
  r := fun φ x vs => ∃ (pv_3 : Value), vs = [.int .i64 x.Step.Kind, .int .i64 x.Step.Index, .int .i64 x.from_, .int .i64 x.to_, pv_3] ∧ FnOK Try.prog φ pv_3 ar187 rr187 x.count
  mono := by rintro φ φ' x vs ⟨pv_3, rfl, h0⟩ hl; exact ⟨pv_3, rfl, h0.le hl⟩
  len := by rintro φ x vs ⟨_, rfl, _⟩; rfl
  one := by rintro φ x vs ⟨_, rfl, h0⟩; obtain ⟨_, _, _, rfl, _⟩ := h0; rfl
def ar108 (φ : PHeap) (x : Int) (vs : List Value) : Prop := vs = [.int .i64 x]
def rr108 (φ : PHeap) (L_ : List Res) (v : Value) (y : Bool) : Prop := v = .bool y ∧ L_ = []
def rl23 : Rl (List Int) where
  sz := 1
  r := fun φ x vs => ∃ (pA : Option Addr) (pc : Nat), vs = [.slice pA x.length pc] ∧ Sl φ 1 pA pc x.length (List.flatMap encI x)
  mono := by rintro φ φ' x vs ⟨pA, pc, rfl, h0⟩ hl; exact ⟨pA, pc, rfl, h0.le hl⟩
  len := by rintro φ x vs ⟨_, _, rfl, _⟩; rfl
  one := by rintro φ x vs ⟨_, _, rfl, h0⟩; rfl
def rl24 : Rl (List T_target_Sheet) where
  sz := 1
  r := fun φ x vs => ∃ (pA : Option Addr) (pc : Nat), vs = [.slice pA x.length pc] ∧ Sl φ 4 pA pc x.length (List.flatMap encT_target_Sheet x)
  mono := by rintro φ φ' x vs ⟨pA, pc, rfl, h0⟩ hl; exact ⟨pA, pc, rfl, h0.le hl⟩
  len := by rintro φ x vs ⟨_, _, rfl, _⟩; rfl
  one := by rintro φ x vs ⟨_, _, rfl, h0⟩; rfl
theorem Try.mixed : Try.prog.follows .mixedOrders = true := by kernel_rfl
theorem places31 : PlacesT Try.prog 31 [(0, 1), (1, 1)] := ⟨_, Try.runUnderlying31, fun w => by simp [Try.sizeOf3]⟩
theorem places33 : PlacesT Try.prog 33 [(0, 1), (1, 1), (2, 2)] := ⟨_, Try.runUnderlying33, fun w => by simp [Try.sizeOf3, Try.sizeOf31]⟩
theorem places114 : PlacesT Try.prog 114 [(0, 1), (1, 1)] := ⟨_, Try.runUnderlying114, fun w => by simp [Try.sizeOf112, Try.sizeOf3]⟩
theorem places134 : PlacesT Try.prog 134 [(0, 1), (1, 1), (2, 1)] := ⟨_, Try.runUnderlying134, fun w => by simp [Try.sizeOf22, Try.sizeOf3, Try.sizeOf132]⟩
theorem places189 : PlacesT Try.prog 189 [(0, 2), (2, 1), (3, 1), (4, 1)] := ⟨_, Try.runUnderlying189, fun w => by simp [Try.sizeOf114, Try.sizeOf3, Try.sizeOf187]⟩
theorem info3 : Try.prog.info? 3 = some Try.t3 := by kernel_rfl
theorem info31 : Try.prog.info? 31 = some Try.t31 := by kernel_rfl
theorem info33 : Try.prog.info? 33 = some Try.t33 := by kernel_rfl
theorem info114 : Try.prog.info? 114 = some Try.t114 := by kernel_rfl
theorem info189 : Try.prog.info? 189 = some Try.t189 := by kernel_rfl
end Go.Proofs.Ytnllmignponhdaa
