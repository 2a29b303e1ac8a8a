import Derived.Test.YtnbcoenjobdplaaGreatRows
import Derived.Test.YtnbcoenjobdplaaGreatB0
import Derived.Test.YtnbcoenjobdplaaGreatB9
import Derived.Test.YtnbcoenjobdplaaGreatB3
set_option linter.all false
namespace Go.Proofs.YtnbcoenjobdplaaGreat
open Go.KL
open Go.ChangeShapes Go.WideShapes Go.ChangeAt Go.RowKit
theorem wKK:ownKnob Tryz.prog.godebug=none:=by kernel_rfl
theorem wJe:laidOutB Tryz.prog=true:=by kernel_rfl
theorem wLU {H:Type} {enc:TypeId × Value->H} {W:World} {n:Nat} {cs:List Value} {y:DataW H × List MemPlace} (h:DataW.trod enc Tryz.prog W 0 (fun _=>true) true n 5 cs=some y):∃ x,cs=KL.encB8 x/\True:=by
 obtain ⟨x,e,_,_⟩:=DataW.trod_int Tryz.underlying5 h
 exact ⟨x,e,trivial⟩
theorem wIT:Tryz.prog.cellsOf 5=1:=by kernel_rfl
set_option maxRecDepth 100000 in
theorem wIU (os:Os) (started:os.Started) (H:Type) (enc:TypeId × Value->H) :
  ReturnsInHanded {} Tryz.checked os 4 .any (Rows.relayLappedSpec.pre6 enc Tryz.prog Tryz.f4 Rows.relayLappedRow.domain false) (Rows.relayLappedSpec.post enc Tryz.prog Tryz.f4 false true false false):=by
 refine returnsInHanded_of_change (C:=Tryz.checked) wKK started (by kernel_rfl) Tryz.func4
  (ChangeSpec.witness6 (enc:=enc) (C:=Tryz.checked) false ⟨#[],#[.slice none 0 0,.int .i64 0],[]⟩ 8 (by kernel_rfl) (by kernel_rfl) (by kernel_rfl) (by kernel_rfl)) ?_
 intro W base args ds gs before hval0 hW hcnd _
 have hval:∀ (j:Nat) t v,Tryz.f4.params[j]?=some t->args[j]?=some v->Value.okWide Tryz.prog W .any base t v:=hval0
 have hW':=hW
 obtain ⟨p,q,hA0,hV,rfl,hfz,hnd⟩:=hW
 have hA:DataW.TrodAll enc Tryz.prog W 0 (fun _=>true) true Tryz.f4.params.toList args.toList ds p:=hA0
 rw [Tryz.params4] at hA hval
 obtain ⟨v0,v1,d0,d1,p0,p1,rfl,rfl,rfl,h0,h1⟩:=trodAll_two hA
 obtain ⟨rfl,rfl⟩:=trodVars_none hV
 obtain ⟨A0,k0,xs0,rfl,hS0,_⟩:=wLs (f:=KL.encB8) (sz:=1) (by decide) (fun _=>rfl) Tryz.underlying22 wIT (fun _=>True) (fun _ _ _=>wLU) h0 (okWide_slice Tryz.underlying22 (hval 0 22 v0 rfl rfl))
 obtain ⟨a1,rfl,rfl,rfl,wa1⟩:=open_int Tryz.underlying3 (hval 1 3 v1 rfl rfl) h1
 have hb1:-9223372036854775808 <= a1/\a1 <= 9223372036854775807:=by simpa [Lit.wf,IntKind.min,IntKind.max,IntKind.signed,IntKind.bits] using wa1
 have hg:=wEq xs0 A0 k0 a1 W _ (St.start W) hS0 (wLT xs0 a1 hb1.1 hb1.2)
 refine Calls.mono' hg fun e W' ⟨v,he,U',L',hst,hv,_⟩=>?_
 subst he;subst hv
 refine ⟨_,rfl,wLq (P:=Tryz.prog) hW' rfl wJe ?_ (t:=4) (by kernel_rfl) Tryz.underlying4 true rfl rfl rfl hst.kp0⟩
 rw [Tryz.params4]
 intro t ht
 simp only [List.mem_cons,List.not_mem_nil,or_false] at ht
 rcases ht with rfl | rfl
 ·exact ⟨by kernel_rfl,of_decide_eq_true (by kernel_rfl)⟩
 ·exact ⟨by kernel_rfl,of_decide_eq_true (by kernel_rfl)⟩
theorem wLV:laidOutB Tryz.prog=true:=by kernel_rfl
theorem wLW:mapsRowed Tryz.prog=true:=by kernel_rfl
theorem wLX:(Tryz.prog.stops == [])=true:=by kernel_rfl
theorem wLY:(Tryz.prog.stopKnobs == [])=true:=by kernel_rfl
theorem wLZ:(Rows.relayLappedRow.inPlace == Tryz.prog.inPlace 4)=true:=by kernel_rfl
theorem wLa:(Rows.relayLappedRow.unfollowed == Tryz.prog.unfollowed 4)=true:=by kernel_rfl
theorem wLb:(Rows.relayLappedRow.recurses == Tryz.prog.recurses 4)=true:=by kernel_rfl
theorem wLc:(Rows.relayLappedRow.named == Tryz.prog.varsNamed 4)=true:=by kernel_rfl
theorem wLd:(Rows.relayLappedRow.plainKeys == Tryz.prog.plainKeys)=true:=by kernel_rfl
theorem wLe:Tryz.prog.stopsHeard=true:=by kernel_rfl
theorem wKL:Tryz.prog.mayEnter=true:=by kernel_rfl
theorem wKM:(Rows.relayLappedRow.lifted == Tryz.prog.liftsFinal)=true:=by kernel_rfl
theorem wKN:wHE Tryz.prog Tryz.f4 Rows.relayLappedSpec Rows.relayLappedRow=true:=by kernel_rfl
theorem wIV:joinedFacts Tryz.prog 4 Tryz.f4 Rows.relayLappedSpec Rows.relayLappedRow=true:=wLt wLV wLW wLX wLY wLZ wLa wLb wLc wLd wLe wKL wKM wKN
theorem relay_lapped:Rows.RelayLappedSaid :=
 OpenClaim.holds_of_wide 4 Tryz.f4 rfl rfl rfl rfl rfl rfl rfl ⟨rfl,rfl,rfl,rfl,rfl⟩ rfl rfl rfl rfl rfl (by kernel_rfl) Tryz.func4 wIV
  (of_decide_eq_true (by kernel_rfl)) (by unfold Func.isWrapper;rw [if_neg (by decide +kernel)];exact ⟨rfl,rfl⟩)
  (fun os started H enc _=>wIU os started H enc)
#print axioms relay_lapped
end Go.Proofs.YtnbcoenjobdplaaGreat
