/- Rows that are held against nil. -/
import Derived.Test.YtfdnbaahdjlapaaGreatVI
import Derived.Test.YtfdnbaahdjlapaaGreatVN
namespace Go.KL
open Go.RowKit
section
variable {P : Program} {σ : Env} {w : World} {o : Oper}
end
section
variable {N : Nat} {P : Program} {l : List Oper} {Q : Post} {D : List Deferred} {ks : List Nat} {σ : Env} {w : World} {i d : Nat} {s : Sch} {o : Oper}
theorem OKS.rm {x : Operand} {v : Value} (ho : l[i]? = some o) (hd : o.dst = some d) (hN : Nat.blt d N = true) (hw : wanted l σ o = true) (hm : o.op = .move x) (hx : ev σ x = v)
    (k : OKS N P l Q D ks s (upd σ d v) w) : OKS N P l Q D ks (.fl i s) σ w := OKS.r ho hd hN hw (fun _ => Runs.mv hm hx) k
theorem OKS.ra {x : Operand} {v : Value} (ho : l[i]? = some o) (hd : o.dst = some d) (hN : Nat.blt d N = true) (hw : wanted l σ o = true) (hm : o.op = .assign x) (hx : ev σ x = v)
    (k : OKS N P l Q D ks s (upd σ d v) w) : OKS N P l Q D ks (.fl i s) σ w := OKS.r ho hd hN hw (fun _ => Runs.as hm hx) k
end
end Go.KL
