import Derived.Test.YtnbcoenjobdplaaGreatRows
import Derived.Test.YtnbcoenjobdplaaGreatC0
import Derived.Test.YtnbcoenjobdplaaGreatC10
import Derived.Test.YtnbcoenjobdplaaGreatC3
set_option linter.all false
namespace Go.Proofs.YtnbcoenjobdplaaGreat
open Go.KL
open Go.ChangeShapes Go.WideShapes Go.ChangeAt Go.RowKit
theorem wLc:ownKnob Tryz.prog.godebug=none:=by kernel_rfl
theorem wKk:laidOutB Tryz.prog=true:=by kernel_rfl
theorem wJd {H:Type} {enc:TypeId × Value->H} {W:World} {n:Nat} {cs:List Value} {y:DataW H × List MemPlace} (h:DataW.trod enc Tryz.prog W 0 (fun _=>true) true n 5 cs=some y):∃ x,cs=KL.encB8 x/\True:=by
 obtain ⟨x,e,_,_⟩:=DataW.trod_int Tryz.underlying5 h
 exact ⟨x,e,trivial⟩
theorem wGw:Tryz.prog.cellsOf 5=1:=by kernel_rfl
set_option maxRecDepth 100000 in
theorem wJe (os:Os) (started:os.Started) (H:Type) (enc:TypeId × Value->H) :
  ReturnsInHanded {} Tryz.checked os 5 .any (Rows.relayChippedSpec.pre6 enc Tryz.prog Tryz.f5 Rows.relayChippedRow.domain false) (Rows.relayChippedSpec.post enc Tryz.prog Tryz.f5 false true false false):=by
 refine returnsInHanded_of_change (C:=Tryz.checked) wLc started (by kernel_rfl) Tryz.func5
  (ChangeSpec.witness6 (enc:=enc) (C:=Tryz.checked) false ⟨#[],#[.slice none 0 0,.slice none 0 0],[]⟩ 8 (by kernel_rfl) (by kernel_rfl) (by kernel_rfl) (by kernel_rfl)) ?_
 intro W base args ds gs before hval0 hW hcnd _
 have hval:∀ (j:Nat) t v,Tryz.f5.params[j]?=some t->args[j]?=some v->Value.okWide Tryz.prog W .any base t v:=hval0
 have hW':=hW
 obtain ⟨p,q,hA0,hV,rfl,hfz,hnd⟩:=hW
 have hA:DataW.TrodAll enc Tryz.prog W 0 (fun _=>true) true Tryz.f5.params.toList args.toList ds p:=hA0
 rw [Tryz.params5] at hA hval
 obtain ⟨v0,v1,d0,d1,p0,p1,rfl,rfl,rfl,h0,h1⟩:=trodAll_two hA
 obtain ⟨rfl,rfl⟩:=trodVars_none hV
 obtain ⟨A0,k0,xs0,rfl,hS0,_⟩:=wKx (f:=KL.encB8) (sz:=1) (by decide) (fun _=>rfl) Tryz.underlying22 wGw (fun _=>True) (fun _ _ _=>wJd) h0 (okWide_slice Tryz.underlying22 (hval 0 22 v0 rfl rfl))
 obtain ⟨A1,k1,xs1,rfl,hS1,_⟩:=wKx (f:=KL.encB8) (sz:=1) (by decide) (fun _=>rfl) Tryz.underlying22 wGw (fun _=>True) (fun _ _ _=>wJd) h1 (okWide_slice Tryz.underlying22 (hval 1 22 v1 rfl rfl))
 have hg:=wFo xs0 A0 k0 xs1 A1 k1 W _ (St.start W) hS0 hS1 (wMN xs0 xs1)
 refine Calls.mono' hg fun e W' ⟨v,he,U',L',hst,hv,_⟩=>?_
 subst he;subst hv
 refine ⟨_,rfl,wNs (P:=Tryz.prog) hW' rfl wKk ?_ (t:=4) (by kernel_rfl) Tryz.underlying4 true rfl rfl rfl hst.kp0⟩
 rw [Tryz.params5]
 intro t ht
 simp only [List.mem_cons,List.not_mem_nil,or_false] at ht
 rcases ht with rfl | rfl
 ·exact ⟨by kernel_rfl,of_decide_eq_true (by kernel_rfl)⟩
 ·exact ⟨by kernel_rfl,of_decide_eq_true (by kernel_rfl)⟩
theorem wMO:laidOutB Tryz.prog=true:=by kernel_rfl
theorem wMP:mapsRowed Tryz.prog=true:=by kernel_rfl
theorem wMQ:(Tryz.prog.stops == [])=true:=by kernel_rfl
theorem wMR:(Tryz.prog.stopKnobs == [])=true:=by kernel_rfl
theorem wMS:(Rows.relayChippedRow.inPlace == Tryz.prog.inPlace 5)=true:=by kernel_rfl
theorem wMT:(Rows.relayChippedRow.unfollowed == Tryz.prog.unfollowed 5)=true:=by kernel_rfl
theorem wMU:(Rows.relayChippedRow.recurses == Tryz.prog.recurses 5)=true:=by kernel_rfl
theorem wMV:(Rows.relayChippedRow.named == Tryz.prog.varsNamed 5)=true:=by kernel_rfl
theorem wMW:(Rows.relayChippedRow.plainKeys == Tryz.prog.plainKeys)=true:=by kernel_rfl
theorem wMX:Tryz.prog.stopsHeard=true:=by kernel_rfl
theorem wLd:Tryz.prog.mayEnter=true:=by kernel_rfl
theorem wLe:(Rows.relayChippedRow.lifted == Tryz.prog.liftsFinal)=true:=by kernel_rfl
theorem wLf:wIQ Tryz.prog Tryz.f5 Rows.relayChippedSpec Rows.relayChippedRow=true:=by kernel_rfl
theorem wJf:joinedFacts Tryz.prog 5 Tryz.f5 Rows.relayChippedSpec Rows.relayChippedRow=true:=wNu wMO wMP wMQ wMR wMS wMT wMU wMV wMW wMX wLd wLe wLf
theorem relay_chipped:Rows.RelayChippedSaid :=
 OpenClaim.holds_of_wide 5 Tryz.f5 rfl rfl rfl rfl rfl rfl rfl ⟨rfl,rfl,rfl,rfl,rfl⟩ rfl rfl rfl rfl rfl (by kernel_rfl) Tryz.func5 wJf
  (of_decide_eq_true (by kernel_rfl)) (by unfold Func.isWrapper;rw [if_neg (by decide +kernel)];exact ⟨rfl,rfl⟩)
  (fun os started H enc _=>wJe os started H enc)
#print axioms relay_chipped
end Go.Proofs.YtnbcoenjobdplaaGreat
