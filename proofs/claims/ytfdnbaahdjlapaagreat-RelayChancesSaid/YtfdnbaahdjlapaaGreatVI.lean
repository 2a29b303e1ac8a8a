/- Arrays in blocks: x[:] and clear. -/
import Derived.Test.YtfdnbaahdjlapaaGreatVH
namespace Go.KL
open Go.RowKit
section
variable {N : Nat} {P : Program} {l : List Oper} {Q : Post} {D : List Deferred} {ks : List Nat} {σ : Env} {w : World} {i d : Nat} {s : Sch} {o : Oper} {B : Base} {φ : PHeap} {L : List Res}
end
end Go.KL
