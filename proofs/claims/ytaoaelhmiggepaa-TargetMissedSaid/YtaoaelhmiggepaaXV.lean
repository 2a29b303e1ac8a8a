/- Functions without parameters, run in the kernel: they answer true; printed by a program. -/
import Derived.Test.YtaoaelhmiggepaaXU
namespace Go.Proofs.Ytaoaelhmiggepaa
open Go.KX
open Go.KL
/-- klister/klisterlaw03.awake -/
theorem xr10 (w : Go.World) : Gv Try.prog 10 [] w fun v w' => v = .bool true ∧ Keep w w' Non :=
  run_bool xmixed xtab 1000 q11 10 rfl true (by kernel_rfl) w
end Go.Proofs.Ytaoaelhmiggepaa
