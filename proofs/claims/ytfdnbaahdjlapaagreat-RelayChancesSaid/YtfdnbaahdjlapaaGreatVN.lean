/- A list that must not be empty. -/
import Derived.Test.YtfdnbaahdjlapaaGreatVM
namespace Go.KL
def chkne {α : Type} (l : List α) : Option Unit := if l.length = 0 then none else some ()
end Go.KL
