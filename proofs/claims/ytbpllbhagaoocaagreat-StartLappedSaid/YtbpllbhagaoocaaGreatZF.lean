import Derived.Test.YtbpllbhagaoocaaGreatRows
import Derived.Test.YtbpllbhagaoocaaGreatZ0
import Derived.Test.YtbpllbhagaoocaaGreatZ9
import Derived.Test.YtbpllbhagaoocaaGreatZ4
set_option linter.all false
namespace Go.Proofs.YtbpllbhagaoocaaGreat
open Go.KL
open Go.ChangeShapes Go.WideShapes Go.ChangeAt Go.RowKit
theorem wHx:ownKnob Tryz.prog.godebug=none:=by kernel_rfl
theorem wHG:laidOutB Tryz.prog=true:=by kernel_rfl
theorem wJK {H:Type} {enc:TypeId × Value->H} {W:World} {n:Nat} {cs:List Value} {y:DataW H × List MemPlace} (h:DataW.trod enc Tryz.prog W 0 (fun _=>true) true n 5 cs=some y):∃ x,cs=KL.encB8 x/\True:=by
 obtain ⟨x,e,_,_⟩:=DataW.trod_int Tryz.underlying5 h
 exact ⟨x,e,trivial⟩
theorem wFd:Tryz.prog.cellsOf 5=1:=by kernel_rfl
set_option maxRecDepth 100000 in
theorem wFe (os:Os) (started:os.Started) (H:Type) (enc:TypeId × Value->H) :
  ReturnsInHanded {} Tryz.checked os 3 .any (Rows.startLappedSpec.pre6 enc Tryz.prog Tryz.f3 Rows.startLappedRow.domain false) (Rows.startLappedSpec.post enc Tryz.prog Tryz.f3 false true false false):=by
 refine returnsInHanded_of_change (C:=Tryz.checked) wHx started (by kernel_rfl) Tryz.func3
  (ChangeSpec.witness6 (enc:=enc) (C:=Tryz.checked) false ⟨#[],#[.slice none 0 0],[]⟩ 8 (by kernel_rfl) (by kernel_rfl) (by kernel_rfl) (by kernel_rfl)) ?_
 intro W base args ds gs before hval0 hW hcnd _
 have hval:∀ (j:Nat) t v,Tryz.f3.params[j]?=some t->args[j]?=some v->Value.okWide Tryz.prog W .any base t v:=hval0
 have hW':=hW
 obtain ⟨p,q,hA0,hV,rfl,hfz,hnd⟩:=hW
 have hA:DataW.TrodAll enc Tryz.prog W 0 (fun _=>true) true Tryz.f3.params.toList args.toList ds p:=hA0
 rw [Tryz.params3] at hA hval
 obtain ⟨v0,d0,rfl,rfl,h0⟩:=trodAll_one hA
 obtain ⟨rfl,rfl⟩:=trodVars_none hV
 obtain ⟨A0,k0,xs0,rfl,hS0,_⟩:=wJh (f:=KL.encB8) (sz:=1) (by decide) (fun _=>rfl) Tryz.underlying22 wFd (fun _=>True) (fun _ _ _=>wJK) h0 (okWide_slice Tryz.underlying22 (hval 0 22 v0 rfl rfl))
 have hg:=wCQ xs0 A0 k0 W _ (St.start W) hS0 (wJJ xs0)
 refine Calls.mono' hg fun e W' ⟨v,he,U',L',hst,hv,_⟩=>?_
 subst he;subst hv
 refine ⟨_,rfl,wJf (P:=Tryz.prog) hW' rfl wHG ?_ (t:=4) (by kernel_rfl) Tryz.underlying4 true rfl rfl rfl hst.kp0⟩
 rw [Tryz.params3]
 intro t ht
 simp only [List.mem_cons,List.not_mem_nil,or_false] at ht
 subst ht
 ·exact ⟨by kernel_rfl,of_decide_eq_true (by kernel_rfl)⟩
theorem wJL:laidOutB Tryz.prog=true:=by kernel_rfl
theorem wJM:mapsRowed Tryz.prog=true:=by kernel_rfl
theorem wJN:(Tryz.prog.stops == [])=true:=by kernel_rfl
theorem wJO:(Tryz.prog.stopKnobs == [])=true:=by kernel_rfl
theorem wJP:(Rows.startLappedRow.inPlace == Tryz.prog.inPlace 3)=true:=by kernel_rfl
theorem wJQ:(Rows.startLappedRow.unfollowed == Tryz.prog.unfollowed 3)=true:=by kernel_rfl
theorem wJR:(Rows.startLappedRow.recurses == Tryz.prog.recurses 3)=true:=by kernel_rfl
theorem wJS:(Rows.startLappedRow.named == Tryz.prog.varsNamed 3)=true:=by kernel_rfl
theorem wJT:(Rows.startLappedRow.plainKeys == Tryz.prog.plainKeys)=true:=by kernel_rfl
theorem wJU:Tryz.prog.stopsHeard=true:=by kernel_rfl
theorem wHy:Tryz.prog.mayEnter=true:=by kernel_rfl
theorem wHz:(Rows.startLappedRow.lifted == Tryz.prog.liftsFinal)=true:=by kernel_rfl
theorem wIA:wEG Tryz.prog Tryz.f3 Rows.startLappedSpec Rows.startLappedRow=true:=by kernel_rfl
theorem wFf:joinedFacts Tryz.prog 3 Tryz.f3 Rows.startLappedSpec Rows.startLappedRow=true:=wJi wJL wJM wJN wJO wJP wJQ wJR wJS wJT wJU wHy wHz wIA
theorem start_lapped:Rows.StartLappedSaid :=
 OpenClaim.holds_of_wide 3 Tryz.f3 rfl rfl rfl rfl rfl rfl rfl ⟨rfl,rfl,rfl,rfl,rfl⟩ rfl rfl rfl rfl rfl (by kernel_rfl) Tryz.func3 wFf
  (of_decide_eq_true (by kernel_rfl)) (by unfold Func.isWrapper;rw [if_neg (by decide +kernel)];exact ⟨rfl,rfl⟩)
  (fun os started H enc _=>wFe os started H enc)
#print axioms start_lapped
end Go.Proofs.YtbpllbhagaoocaaGreat
