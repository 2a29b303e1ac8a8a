import Derived.Test.YtapddcoodhijpaaGreatZ0
import Derived.Shelf.SlSortCmp.NoneTotal
import Derived.Shelf.Sort.Plain
import Derived.Shelf.Slices.In.SortNone
import Derived.Ground.Names2Prog
import Derived.Ground.SlsfProg
import Derived.Ground.SlgnProg
import Derived.Test.YtapddcoodhijpaaGreatProg
set_option linter.all false
namespace Go.KL
open Go.RowKit
section
variable {B:Base} {U:PHeap} {L:List Res} {w:World}
end
section
variable {α:Type} [Inhabited α]
end
section
variable {α:Type} {h:α × α->Option Int} {l:List α}
end
section
variable {P:Program} {f T:Nat} {A:Option Addr} {c:Nat} {w:World} {U:PHeap} {v:Value}
end
end Go.KL
namespace Go.Proofs
open Go.Shelf
end Go.Proofs
