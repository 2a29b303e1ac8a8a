/- A list that must not be empty. -/
import Derived.Test.YtjfffcjjlnmneaaGreatVM
namespace Go.KL
def chkne {α : Type} (l : List α) : Option Unit := if l.length = 0 then none else some ()
theorem chkne_ne {α : Type} {l : List α} {u : Unit} (h : chkne l = some u) : l ≠ [] := by
  intro e
  subst e
  cases h
theorem chkne_some {α : Type} {l : List α} (h : l ≠ []) : chkne l = some () := if_neg fun e => h (List.eq_nil_of_length_eq_zero e)
end Go.KL
