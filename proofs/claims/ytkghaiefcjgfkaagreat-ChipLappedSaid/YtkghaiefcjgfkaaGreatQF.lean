import Derived.Test.YtkghaiefcjgfkaaGreatRows
import Derived.Test.YtkghaiefcjgfkaaGreatQ0
import Derived.Test.YtkghaiefcjgfkaaGreatQ9
import Derived.Test.YtkghaiefcjgfkaaGreatQ3
set_option linter.all false
namespace Go.Proofs.YtkghaiefcjgfkaaGreat
open Go.KL
open Go.ChangeShapes Go.WideShapes Go.ChangeAt Go.RowKit
theorem wJT:ownKnob Tryz.prog.godebug=none:=by kernel_rfl
theorem wIs:laidOutB Tryz.prog=true:=by kernel_rfl
theorem wKO {H:Type} {enc:TypeId × Value->H} {W:World} {n:Nat} {cs:List Value} {y:DataW H × List MemPlace} (h:DataW.trod enc Tryz.prog W 0 (fun _=>true) true n 5 cs=some y):∃ x,cs=KL.encB8 x/\True:=by
 obtain ⟨x,e,_,_⟩:=DataW.trod_int Tryz.underlying5 h
 exact ⟨x,e,trivial⟩
theorem wHh:Tryz.prog.cellsOf 5=1:=by kernel_rfl
set_option maxRecDepth 100000 in
theorem wHi (os:Os) (started:os.Started) (H:Type) (enc:TypeId × Value->H) :
  ReturnsInHanded {} Tryz.checked os 4 .any (Rows.chipLappedSpec.pre6 enc Tryz.prog Tryz.f4 Rows.chipLappedRow.domain false) (Rows.chipLappedSpec.post enc Tryz.prog Tryz.f4 false true false false):=by
 refine returnsInHanded_of_change (C:=Tryz.checked) wJT started (by kernel_rfl) Tryz.func4
  (ChangeSpec.witness6 (enc:=enc) (C:=Tryz.checked) false ⟨#[],#[.slice none 0 0,.int .i64 0],[]⟩ 8 (by kernel_rfl) (by kernel_rfl) (by kernel_rfl) (by kernel_rfl)) ?_
 intro W base args ds gs before hval0 hW hcnd _
 have hval:∀ (j:Nat) t v,Tryz.f4.params[j]?=some t->args[j]?=some v->Value.okWide Tryz.prog W .any base t v:=hval0
 have hW':=hW
 obtain ⟨p,q,hA0,hV,rfl,hfz,hnd⟩:=hW
 have hA:DataW.TrodAll enc Tryz.prog W 0 (fun _=>true) true Tryz.f4.params.toList args.toList ds p:=hA0
 rw [Tryz.params4] at hA hval
 obtain ⟨v0,v1,d0,d1,p0,p1,rfl,rfl,rfl,h0,h1⟩:=trodAll_two hA
 obtain ⟨rfl,rfl⟩:=trodVars_none hV
 obtain ⟨A0,k0,xs0,rfl,hS0,_⟩:=wKn (f:=KL.encB8) (sz:=1) (by decide) (fun _=>rfl) Tryz.underlying22 wHh (fun _=>True) (fun _ _ _=>wKO) h0 (okWide_slice Tryz.underlying22 (hval 0 22 v0 rfl rfl))
 obtain ⟨a1,rfl,rfl,rfl,wa1⟩:=open_int Tryz.underlying3 (hval 1 3 v1 rfl rfl) h1
 have hb1:-9223372036854775808 <= a1/\a1 <= 9223372036854775807:=by simpa [Lit.wf,IntKind.min,IntKind.max,IntKind.signed,IntKind.bits] using wa1
 have hg:=wEj xs0 A0 k0 a1 W _ (St.start W) hS0 (wKN xs0 a1 hb1.1 hb1.2)
 refine Calls.mono' hg fun e W' ⟨v,he,U',L',hst,hv,_⟩=>?_
 subst he;subst hv
 refine ⟨_,rfl,wKl (P:=Tryz.prog) hW' rfl wIs ?_ (t:=4) (by kernel_rfl) Tryz.underlying4 true rfl rfl rfl hst.kp0⟩
 rw [Tryz.params4]
 intro t ht
 simp only [List.mem_cons,List.not_mem_nil,or_false] at ht
 rcases ht with rfl | rfl
 ·exact ⟨by kernel_rfl,of_decide_eq_true (by kernel_rfl)⟩
 ·exact ⟨by kernel_rfl,of_decide_eq_true (by kernel_rfl)⟩
theorem wKP:laidOutB Tryz.prog=true:=by kernel_rfl
theorem wKQ:mapsRowed Tryz.prog=true:=by kernel_rfl
theorem wKR:(Tryz.prog.stops == [])=true:=by kernel_rfl
theorem wKS:(Tryz.prog.stopKnobs == [])=true:=by kernel_rfl
theorem wKT:(Rows.chipLappedRow.inPlace == Tryz.prog.inPlace 4)=true:=by kernel_rfl
theorem wKU:(Rows.chipLappedRow.unfollowed == Tryz.prog.unfollowed 4)=true:=by kernel_rfl
theorem wKV:(Rows.chipLappedRow.recurses == Tryz.prog.recurses 4)=true:=by kernel_rfl
theorem wKW:(Rows.chipLappedRow.named == Tryz.prog.varsNamed 4)=true:=by kernel_rfl
theorem wKX:(Rows.chipLappedRow.plainKeys == Tryz.prog.plainKeys)=true:=by kernel_rfl
theorem wKY:Tryz.prog.stopsHeard=true:=by kernel_rfl
theorem wJU:Tryz.prog.mayEnter=true:=by kernel_rfl
theorem wJV:(Rows.chipLappedRow.lifted == Tryz.prog.liftsFinal)=true:=by kernel_rfl
theorem wJW:wGV Tryz.prog Tryz.f4 Rows.chipLappedSpec Rows.chipLappedRow=true:=by kernel_rfl
theorem wHj:joinedFacts Tryz.prog 4 Tryz.f4 Rows.chipLappedSpec Rows.chipLappedRow=true:=wKo wKP wKQ wKR wKS wKT wKU wKV wKW wKX wKY wJU wJV wJW
theorem chip_lapped:Rows.ChipLappedSaid :=
 OpenClaim.holds_of_wide 4 Tryz.f4 rfl rfl rfl rfl rfl rfl rfl ⟨rfl,rfl,rfl,rfl,rfl⟩ rfl rfl rfl rfl rfl (by kernel_rfl) Tryz.func4 wHj
  (of_decide_eq_true (by kernel_rfl)) (by unfold Func.isWrapper;rw [if_neg (by decide +kernel)];exact ⟨rfl,rfl⟩)
  (fun os started H enc _=>wHi os started H enc)
#print axioms chip_lapped
end Go.Proofs.YtkghaiefcjgfkaaGreat
