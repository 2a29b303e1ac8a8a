/- Rows that are held against nil. -/
import Derived.Test.YtjfffcjjlnmneaaGreatVI
import Derived.Test.YtjfffcjjlnmneaaGreatVN
namespace Go.KL
open Go.RowKit
section
variable {P : Program} {σ : Env} {w : World} {o : Oper}
theorem Runs.eqNilR {t u : TypeId} {x y : Operand} {A : Option Addr} {n c e : Nat} {b : Bool} (ho : o.op = .binOp .eql t x y u) (hx : ev σ x = .slice A n c) (hy : ev σ y = .slice none 0 0) (ht : ∀ w, (underlying t).run P w = .ok (.slice e) w) (h : A.isNone = b) : Runs P σ w o (.bool b) w :=
  h ▸ Runs.eqNil ho hx hy ht
theorem Runs.neNilR {t u : TypeId} {x y : Operand} {A : Option Addr} {n c e : Nat} {b : Bool} (ho : o.op = .binOp .neq t x y u) (hx : ev σ x = .slice A n c) (hy : ev σ y = .slice none 0 0) (ht : ∀ w, (underlying t).run P w = .ok (.slice e) w) (h : (!A.isNone) = b) : Runs P σ w o (.bool b) w :=
  h ▸ Runs.neNil ho hx hy ht
end
section
variable {N : Nat} {P : Program} {l : List Oper} {Q : Post} {D : List Deferred} {ks : List Nat} {σ : Env} {w : World} {i d : Nat} {s : Sch} {o : Oper}
theorem OKS.rm {x : Operand} {v : Value} (ho : l[i]? = some o) (hd : o.dst = some d) (hN : Nat.blt d N = true) (hw : wanted l σ o = true) (hm : o.op = .move x) (hx : ev σ x = v)
    (k : OKS N P l Q D ks s (upd σ d v) w) : OKS N P l Q D ks (.fl i s) σ w := OKS.r ho hd hN hw (fun _ => Runs.mv hm hx) k
theorem OKS.ra {x : Operand} {v : Value} (ho : l[i]? = some o) (hd : o.dst = some d) (hN : Nat.blt d N = true) (hw : wanted l σ o = true) (hm : o.op = .assign x) (hx : ev σ x = v)
    (k : OKS N P l Q D ks s (upd σ d v) w) : OKS N P l Q D ks (.fl i s) σ w := OKS.r ho hd hN hw (fun _ => Runs.as hm hx) k
/-- A load that waits for its turn, as one that only adds memory. -/
theorem OKS.mx2 {v : Value} (ho : l[i]? = some o) (hd : o.dst = some d) (hN : Nat.blt d N = true) (hw : wanted l σ o = true) (hr : RunsK P σ w o v)
    (k : OKS N P l Q D ks s (upd σ d v) w) : OKS N P l Q D ks (.fx i s .stop) σ w := OKS.v ho hd hN hw (hr w (Keep.refl w _)) (.inr (Keep.refl w _)) k
end
theorem nil_iff {α : Type} [DecidableEq α] {B : Base} {φ : PHeap} {L : List Res} {w : World} {j : Nat} {A : Option Addr} {c T sz : Nat} {xs : List α} {f : α → List Value} (hS : St B φ L w) (hk : L[j]? = some (.row A c T sz (xs.flatMap f))) (hf : ∀ x, (f x).length = sz) (hsz : 0 < sz) (h : xs = [] → A = none) :
    A.isNone = decide (xs = []) := by
  by_cases e : xs = []
  · rw [h e, decide_eq_true e]
    rfl
  · rw [decide_eq_false e]
    rcases hS.at_ _ (List.mem_of_getElem? hk) with ⟨_, _, h3⟩ | ⟨b, cur, h1, _⟩
    · cases xs with
      | nil => exact absurd rfl e
      | cons x xs =>
        have := congrArg List.length h3
        rw [List.flatMap_cons, List.length_append, hf] at this
        simp at this
        omega
    · rw [h1]
      rfl
end Go.KL
