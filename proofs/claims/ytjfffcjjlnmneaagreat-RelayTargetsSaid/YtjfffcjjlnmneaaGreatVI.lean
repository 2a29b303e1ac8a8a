/- Arrays in blocks: x[:] and clear. -/
import Derived.Test.YtjfffcjjlnmneaaGreatVH
namespace Go.KL
open Go.RowKit
section
variable {N : Nat} {P : Program} {l : List Oper} {Q : Post} {D : List Deferred} {ks : List Nat} {σ : Env} {w : World} {i d : Nat} {s : Sch} {o : Oper} {B : Base} {φ : PHeap} {L : List Res}
theorem Runs.slA {t e sz n b off : Nat} {x : Operand} (hop : o.op = .slice t x none none none) (hx : ev σ x = .pointer (some ⟨b, off, none⟩)) (ht : ∀ w, (underlying t).run P w = .ok (.array n e) w) (hs : ∀ w, (sizeOf e).run P w = .ok sz w) : Runs P σ w o (.slice (some ⟨b, off, none⟩) n n) w := by
  refine ⟨by rw [hop]; rfl, ?_⟩
  by_cases hn : n = 0 <;> simp [execOp, hop, hx, ht, hs, hn, Instr.sliceAt, Instr.sureAddr, Instr.sliceBounds, Result.andThen, Addr.add]
theorem OKS.clearB {t e T : TypeId} {x : Operand} {j b off n m : Nat} {z : Value} {vs cs cs' : List Value} (ho : l[i]? = some o) (hd : o.dst = none) (hw : wanted l σ o = true) (hop : o.op = .call { callee := .builtin .clear, args := #[x], argTypes := #[t] }) (hS : St B φ L w) (hk : L[j]? = some (.blk b T cs))
    (hx : ev σ x = .slice (some ⟨b, off, none⟩) (n + 1) m) (ht : ∀ w, (underlying t).run P w = .ok (.slice e) w) (hz : ∀ w, (zeroValue e).run P w = .ok z w) (hv : (Builtin.zeroCells z.cells (n + 1)).toList = vs) (hlt : off + vs.length ≤ cs.length) (h1 : vs.all one = true) (hcs : setN cs off vs = cs') (hne : mustX (kOf ks i) = false)
    (k : ∀ w', St B φ (L.set j (.blk b T cs')) w' → OKS N P l Q D ks s σ w') : OKS N P l Q D ks (.fx i s .stop) σ w := by
  subst hcs
  obtain ⟨w', h2, h3, h4, h5⟩ := run_storeCells (P := P) (T := T) off vs 0 cs w (hS.blkAt hk) hlt (List.all_eq_true.1 h1)
  refine OKS.vn (v := .tuple #[]) (w' := w') ho hd hw ⟨by rw [hop]; rfl, ?_⟩ (.inl hne) (k w' (hS.set hk (h4.weak fun x _ e => by rw [e]; rfl) h3 fun b hb => .inl hb))
  simp [execOp, hop, resolve, invoke, builtin, hx, Builtin.clear_, ht, hz, hv, storeCells, h2, Result.andThen]
end
end Go.KL
