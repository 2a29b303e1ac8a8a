/- A run in stages; printed by a program. -/
import Derived.Test.YtjfffcjjlnmneaaGreatYE
import Derived.Test.YtjfffcjjlnmneaaGreatXU
import Derived.Test.YtjfffcjjlnmneaaGreatXW0
import Derived.Test.YtjfffcjjlnmneaaGreatXW1
import Derived.Test.YtjfffcjjlnmneaaGreatXW2
import Derived.Test.YtjfffcjjlnmneaaGreatXW3
namespace Go.Proofs.YtjfffcjjlnmneaaGreat
open Go.KX
theorem wt4 : stgB xtb 1000 (dropN 1 (dropN 4 (dropN 1 (dropN 4 (x27.body))))) (ws3) (wh3) x27.res true = true := by kernel_rfl
theorem xr27 (w : Go.World) : Go.KL.Gv Tryz.prog 27 [] w fun v w' => v = .bool true ∧ Go.KL.Keep w w' Go.KL.Non :=
  run_stages xtab q28 27 rfl (af := x27) (by kernel_rfl) (by
    obtain ⟨a, b, c, R, hres⟩ := stgB_ok xmixed xtab wt4
    exact ⟨a, b, c, (stg_ok xmixed xtab 4 wt0 (stg_ok xmixed xtab 1 wt1 (stg_ok xmixed xtab 4 wt2 (stg_ok xmixed xtab 1 wt3 R)))), hres⟩) w
end Go.Proofs.YtjfffcjjlnmneaaGreat
