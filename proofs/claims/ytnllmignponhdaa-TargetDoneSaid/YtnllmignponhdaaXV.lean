/- Functions without parameters, run in the kernel: they answer true; printed by a program. -/
import Derived.Test.YtnllmignponhdaaXU
namespace Go.Proofs.Ytnllmignponhdaa
open Go.KX
open Go.KL
/-- klister/klisterlaw03.awake -/
theorem xr24 (w : Go.World) : Gv Try.prog 24 [] w fun v w' => v = .bool true ∧ Keep w w' Non :=
  run_bool xmixed xtab 1000 (.I (.O (.O (.I .H)))) 24 rfl true (by kernel_rfl) w
end Go.Proofs.Ytnllmignponhdaa
