/- What a run of the machine leaves as it was: blocks below the floor; names grow. -/
import Derived.Test.YtjfffcjjlnmneaaGreatXL
namespace Go.KX
open Go.RowKit Go.KL

theorem seqK_eq (b : AC) (exR : Run) (e : Ex) (σ : Tr AV) (h : AH) : seqK b exR (e, σ, h) = (match e with | .nrm => exR b σ h | e => some (e, σ, h)) := by cases e <;> rfl
theorem optR {x : R} {k : Ex × Tr AV × AH → R} {r : Ex × Tr AV × AH} (hr : Option.rec (motive := fun _ => R) none k x = some r) : ∃ y, x = some y ∧ k y = some r := by
  cases x with
  | none => cases hr
  | some y => exact ⟨y, rfl, hr⟩
structure Fr (h h' : AH) : Prop where
  nx : h.nx.nat ≤ h'.nx.nat
  fl : h'.fl = h.fl
  get : ∀ p, p.nat < h.fl.nat → p.nat < h.nx.nat → h'.m.get p = h.m.get p
theorem Fr.refl (h : AH) : Fr h h := ⟨Nat.le_refl _, rfl, fun _ _ _ => rfl⟩
theorem Fr.trans {a b c : AH} (h : Fr a b) (k : Fr b c) : Fr a c :=
  ⟨Nat.le_trans h.nx k.nx, k.fl.trans h.fl, fun p h1 h2 => (k.get p (by rw [h.fl]; exact h1) (Nat.lt_of_lt_of_le h2 h.nx)).trans (h.get p h1 h2)⟩
theorem Fr.push (h : AH) (B : AB) : Fr h (h.push B) := by
  refine ⟨?_, rfl, fun p _ h2 => ?_⟩
  · show h.nx.nat ≤ h.nx.succ.nat
    rw [Pos.nat_succ]; omega
  · show (h.m.set h.nx B).get p = _
    rw [Tr.get_set, if_neg (fun e => by subst e; omega)]
theorem Fr.put {h h' : AH} {p : Pos} {B : AB} (hp : h.put p B = some h') : Fr h h' := by
  obtain ⟨h1, rfl⟩ := put_some hp
  refine ⟨Nat.le_refl _, rfl, fun q h2 _ => ?_⟩
  show (h.m.set p B).get q = _
  rw [Tr.get_set, if_neg (fun e => by subst e; omega)]
theorem Fr.setAt {h h' : AH} {b : Pos} {off : Nat} {vs : List AV} (hs : KX.setAt h b off vs = some h') : Fr h h' := by
  unfold KX.setAt at hs
  split at hs
  · split at hs
    · exact Fr.put hs
    · cases hs
  · split at hs
    · exact Fr.put hs
    · cases hs
  · cases hs
theorem okV_h {h h' : AH} {o : Option AV} {v : AV} (hr : okV h o = some (v, h')) : h' = h := by
  cases o with
  | none => cases hr
  | some x => cases hr; rfl
theorem ifO_h {α : Type} {b : Bool} {x : Option α} {y : α} (hr : ifO b x = some y) : x = some y := by
  cases b with
  | true => exact hr
  | false => cases hr
section
variable {tb : Tr AF} {ex exY : Run} {σ : Tr AV} {h h' : AH} {v : AV}
theorem fr_app {T sz by_ m : Nat} {news : List AV} {x : AV} (hr : app h T sz by_ m news x = some (v, h')) : Fr h h' := by
  unfold app at hr
  split at hr
  · split at hr <;> first | (cases hr; exact Fr.refl _) | (cases hr; done)
  · split at hr
    · have hr := ifO_h hr; cases hr; exact Fr.push _ _
    · split at hr
      · split at hr
        · rename_i hs; cases hr; exact Fr.setAt hs
        · cases hr
      · have hr := ifO_h hr
        split at hr
        · cases hr; exact Fr.push _ _
        · cases hr
    · split at hr
      · split at hr
        · split at hr
          · rename_i hs; cases hr; exact Fr.setAt hs
          · cases hr
        · have hr := ifO_h hr
          split at hr
          · rename_i hs; cases hr; exact (Fr.put hs).trans (Fr.push _ _)
          · cases hr
      · cases hr
    · cases hr
theorem fr_clr {z : List AV} {b : Pos} {off n : Nat} (hr : clr h z b off n = some (v, h')) : Fr h h' := by
  unfold clr at hr
  split at hr
  · cases hr; exact Fr.refl _
  · have hr := ifO_h hr
    split at hr
    · rename_i hs; cases hr; exact Fr.setAt hs
    · cases hr
def FrX (ex : Run) : Prop := ∀ c σ h e σ' h', ex c σ h = some (e, σ', h') → Fr h h'
theorem fr_res {l : List AR} (hr : resA σ h l = some (v, h')) : Fr h h' := by
  unfold resA at hr
  split at hr
  · cases hr; exact Fr.refl _
  · cases hr
theorem fr_call (HE : FrX ex) {f : Pos} {args : List AV} (hr : callW tb ex f args h = some (v, h')) : Fr h h' := by
  unfold callW at hr
  split at hr
  · split at hr
    · split at hr
      · rename_i h1; exact (HE _ _ _ _ _ _ h1).trans (fr_res hr)
      · rename_i h1; exact (HE _ _ _ _ _ _ h1).trans (fr_res hr)
      · cases hr
    · cases hr
  · cases hr
theorem fr_yield (HY : FrX ex) {b : Pos} {args : List AV} (hr : yieldW ex b args h = some (v, h')) : Fr h h' := by
  unfold yieldW at hr
  split at hr
  · split at hr
    · cases hr
    · split at hr
      · rename_i h1
        split at hr
        · split at hr
          · rename_i h2
            split at hr
            · rename_i h3
              split at hr
              · split at hr
                · rename_i h4
                  cases hr
                  exact (HY _ _ _ _ _ _ h1).trans ((Fr.put h2).trans ((HY _ _ _ _ _ _ h3).trans (Fr.put h4)))
                · cases hr
              · cases hr
            · cases hr
          · cases hr
        · cases hr
      · cases hr
  · cases hr
theorem fr_opY (HE : FrX ex) (HY : FrX exY) (op : AOp) (hr : opY op tb ex exY σ h = some (v, h')) : Fr h h' := by
  cases op with
  | call x l =>
    have hr : o_call x l tb ex exY σ h = some (v, h') := hr
    unfold o_call at hr
    split at hr
    · exact fr_call HE hr
    · exact fr_yield HY hr
    · cases hr
  | new T z => cases hr; exact Fr.push _ _
  | box T x => cases hr; exact Fr.push _ _
  | mkm => cases hr; exact Fr.push _ _
  | mks T sz b z x y =>
    have hr : o_mks T sz b z x y σ h = some (v, h') := hr
    unfold o_mks at hr
    split at hr
    · have hr := ifO_h hr; cases hr; exact Fr.push _ _
    · cases hr
  | blds T n z ps =>
    have hr : o_blds T n z ps σ h = some (v, h') := hr
    unfold o_blds at hr
    split at hr
    · cases hr; exact Fr.push _ _
    · cases hr
  | st n x y =>
    have hr : o_st n x y σ h = some (v, h') := hr
    unfold o_st at hr
    split at hr
    · split at hr
      · split at hr
        · rename_i hs; cases hr; exact Fr.setAt hs
        · cases hr
      · cases hr
    · cases hr
  | mput two k x y z =>
    have hr : o_mput two k x y z σ h = some (v, h') := hr
    unfold o_mput at hr
    split at hr
    · split at hr
      · split at hr
        · split at hr
          · rename_i hs; cases hr; exact Fr.put hs
          · cases hr
        · cases hr
      · cases hr
    · cases hr
  | mdel two k x y =>
    have hr : o_mdel two k x y σ h = some (v, h') := hr
    unfold o_mdel at hr
    split at hr
    · split at hr
      · split at hr
        · split at hr
          · rename_i hs; cases hr; exact Fr.put hs
          · cases hr
        · cases hr
      · cases hr
    · cases hr
  | app T sz b x y =>
    have hr : o_app T sz b x y σ h = some (v, h') := hr
    unfold o_app at hr
    split at hr
    · exact fr_app (ifO_h hr)
    · cases hr
  | cpy sz x y =>
    have hr : o_cpy sz x y σ h = some (v, h') := hr
    unfold o_cpy at hr
    split at hr
    · split at hr
      · have hr := ifO_h hr
        split at hr
        · rename_i hs; cases hr; exact Fr.setAt hs
        · cases hr
      · cases hr
    · cases hr
  | clr z x =>
    have hr : o_clr z x σ h = some (v, h') := hr
    unfold o_clr at hr
    split at hr
    · exact fr_clr hr
    · exact fr_clr hr
    · cases hr; exact Fr.refl _
    · cases hr; exact Fr.refl _
    · cases hr
  | bad => cases hr
  | apz T sz b z x y =>
    have hr : o_apz T sz b z x y σ h = some (v, h') := hr
    unfold o_apz at hr
    split at hr
    · split at hr
      · cases hr; exact Fr.refl _
      · have hr := ifO_h hr; cases hr; exact Fr.push _ _
    · cases hr
  | _ =>
    have e : h' = h := by
      dsimp only [opY] at hr
      first
        | exact okV_h hr
        | (simp only [o_mv, o_pick, o_ld, o_ldA, o_nilc, o_eqb, o_eqn, o_eqs, o_not, o_cvt, o_mkf, o_slc, o_slcA, o_fad, o_fld, o_fldA, o_iad, o_iadA, o_ix, o_ixA, o_lk, o_ext, o_len, o_lenM, o_cap, o_ixs] at hr
           repeat' (split at hr)
           all_goals first
             | exact okV_h hr
             | (cases hr; rfl)
             | (cases hr; done)
             | exact okV_h (ifO_h hr)
             | (have hr2 := ifO_h hr; cases hr2; rfl))
    subst e
    exact Fr.refl _
theorem fr_opK (HE : FrX ex) (HY : FrX exY) (k : Nat) (op : AOp) (hr : opK k op tb ex exY σ h = some (v, h')) : Fr h h' := by
  by_cases k2 : Nat.beq k 2 = true
  · have hr : opK2 op tb ex exY σ h = some (v, h') := by
      have e : opK k op = opK2 op := by unfold opK; rw [k2]
      rw [e] at hr; exact hr
    unfold opK2 at hr
    split at hr
    · rename_i v0 h0 hq
      cases hr
      have F := fr_opY HE HY op hq
      exact ⟨F.nx, rfl, fun p _ h2 => F.get p h2 h2⟩
    · cases hr
  · have e : opK k op = opY op := by
      unfold opK
      cases hb : Nat.beq k 2 with
      | true => exact absurd hb k2
      | false => rfl
    rw [e] at hr
    exact fr_opY HE HY op hr
/-- What is known of an operation of kind 2: nothing that is there is written. -/
theorem fr_two (HE : FrX ex) (HY : FrX exY) (op : AOp) (hr : opK2 op tb ex exY σ h = some (v, h')) : ∀ p, p.nat < h.nx.nat → h'.m.get p = h.m.get p := by
  unfold opK2 at hr
  split at hr
  · rename_i v0 h0 hq
    cases hr
    have F := fr_opY HE HY op hq
    exact fun p h2 => F.get p h2 h2
  · cases hr
theorem fr_ops (HE : FrX ex) (HY : FrX exY) : ∀ (l : List AO) (σ : Tr AV) (h : AH) (σ' : Tr AV) (h' : AH), runOps tb ex exY l σ h = some (σ', h') → Fr h h'
  | [], σ, h, σ', h', hr => by
    rw [runOps_nil] at hr; cases hr; exact Fr.refl _
  | o :: os, σ, h, σ', h', hr => by
    rw [runOps_cons] at hr
    split at hr
    · split at hr
      · rename_i r hq
        exact (fr_opK HE HY _ _ hq).trans (fr_ops HE HY os _ _ _ _ hr)
      · cases hr
    · exact fr_ops HE HY os _ _ _ _ hr
theorem fr_seqK {exR : Run} (HR : FrX exR) {b : AC} {r : Ex × Tr AV × AH} {e : Ex} {σ' : Tr AV} (hr : seqK b exR r = some (e, σ', h')) : Fr r.2.2 h' := by
  obtain ⟨e0, σ0, h0⟩ := r
  rw [seqK_eq] at hr
  cases e0 with
  | nrm => exact HR _ _ _ _ _ _ hr
  | exit i => cases hr; exact Fr.refl _
  | ret => cases hr; exact Fr.refl _
theorem fr_step {exR : Run} (HE : FrX ex) (HY : FrX exY) (HR : FrX exR) (c : AC) (f : Bool) {e : Ex} {σ' : Tr AV} (hr : step c f tb ex exY exR σ h = some (e, σ', h')) : Fr h h' := by
  cases c with
  | skip => cases hr; exact Fr.refl _
  | rg l =>
    have hr : sRg l tb ex exY exR σ h = some (e, σ', h') := hr
    unfold sRg at hr
    cases hq : runOps tb ex exY l σ h with
    | none => rw [hq] at hr; cases hr
    | some y =>
      rw [hq] at hr
      cases hr
      exact fr_ops HE HY l _ _ _ _ hq
  | seq a b =>
    have hr : sSeq a b exR σ h = some (e, σ', h') := hr
    unfold sSeq at hr
    obtain ⟨y, h1, h2⟩ := optR hr
    exact (HR _ _ _ _ _ _ h1).trans (fr_seqK HR h2)
  | cond c a b =>
    have hr : sCond c a b exR σ h = some (e, σ', h') := hr
    unfold sCond at hr
    split at hr
    · exact HR _ _ _ _ _ _ hr
    · exact HR _ _ _ _ _ _ hr
    · cases hr
  | block i a =>
    have hr : sBlock i a exR σ h = some (e, σ', h') := hr
    unfold sBlock at hr
    obtain ⟨y, h1, h2⟩ := optR hr
    obtain ⟨e0, σ0, h0⟩ := y
    refine (HR _ _ _ _ _ _ h1).trans ?_
    unfold blockK at h2
    cases e0 with
    | nrm => cases h2; exact Fr.refl _
    | ret => cases h2; exact Fr.refl _
    | exit j =>
      simp only at h2
      cases hb : Nat.beq j i with
      | true => rw [hb] at h2; cases h2; exact Fr.refl _
      | false => rw [hb] at h2; cases h2; exact Fr.refl _
  | loop a =>
    have hr : sLoop a exR σ h = some (e, σ', h') := hr
    unfold sLoop at hr
    obtain ⟨y, h1, h2⟩ := optR hr
    exact (HR _ _ _ _ _ _ h1).trans (fr_seqK HR h2)
  | rf g t asg body =>
    have hr : sRf f g t asg body tb ex σ h = some (e, σ', h') := hr
    unfold sRf at hr
    split at hr
    · split at hr
      · rename_i h1
        have F := (Fr.push h (.loop σ t asg body .ready)).trans (fr_call HE h1)
        split at hr
        · split at hr
          · rename_i h2; cases hr; exact F.trans (Fr.put h2)
          · cases hr
        · split at hr
          · rename_i h2; cases hr; exact F.trans (Fr.put h2)
          · cases hr
        · cases hr
      · cases hr
    · cases hr
  | exit i => cases hr; exact Fr.refl _
  | scope a => exact HR _ _ _ _ _ _ hr
  | ret => cases hr; exact Fr.refl _
  | rl l =>
    have hr : sRl l tb ex exY σ h = some (e, σ', h') := hr
    rw [sRl_eq] at hr
    split at hr
    · rename_i y hq
      cases hr
      exact fr_ops HE HY l _ _ _ _ (runL_ok _ _ _ _ hq).1
    · cases hr
theorem fr_exec (tb : Tr AF) : ∀ (n : Nat) (r : Bool), FrX (exec tb n r)
  | 0, r => fun c σ h e σ' h' hr => by cases hr
  | n + 1, r => fun c σ h e σ' h' hr => by
    rw [exec_succ] at hr
    exact fr_step (fr_exec tb n false) (fr_exec tb n true) (fr_exec tb n r) c _ hr
end
end Go.KX
