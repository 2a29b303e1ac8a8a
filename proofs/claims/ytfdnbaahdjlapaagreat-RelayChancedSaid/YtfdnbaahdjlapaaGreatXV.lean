/- A run in stages; printed by a program. -/
import Derived.Test.YtfdnbaahdjlapaaGreatYE
import Derived.Test.YtfdnbaahdjlapaaGreatXU
import Derived.Test.YtfdnbaahdjlapaaGreatXW0
import Derived.Test.YtfdnbaahdjlapaaGreatXW1
import Derived.Test.YtfdnbaahdjlapaaGreatXW2
import Derived.Test.YtfdnbaahdjlapaaGreatXW3
namespace Go.Proofs.YtfdnbaahdjlapaaGreat
open Go.KX
theorem wt4 : stgB xtb 1000 (dropN 1 (dropN 4 (dropN 1 (dropN 4 (x8.body))))) (ws3) (wh3) x8.res true = true := by kernel_rfl
theorem xr8 (w : Go.World) : Go.KL.Gv Tryz.prog 8 [] w fun v w' => v = .bool true ∧ Go.KL.Keep w w' Go.KL.Non :=
  run_stages xtab q9 8 rfl (af := x8) (by kernel_rfl) (by
    obtain ⟨a, b, c, R, hres⟩ := stgB_ok xmixed xtab wt4
    exact ⟨a, b, c, (stg_ok xmixed xtab 4 wt0 (stg_ok xmixed xtab 1 wt1 (stg_ok xmixed xtab 4 wt2 (stg_ok xmixed xtab 1 wt3 R)))), hres⟩) w
end Go.Proofs.YtfdnbaahdjlapaaGreat
