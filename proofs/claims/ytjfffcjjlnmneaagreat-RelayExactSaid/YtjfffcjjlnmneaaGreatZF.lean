import Derived.Test.YtjfffcjjlnmneaaGreatRows
import Derived.Test.YtjfffcjjlnmneaaGreatZ0
import Derived.Test.YtjfffcjjlnmneaaGreatZ7
import Derived.Test.YtjfffcjjlnmneaaGreatZ2
namespace Go.Proofs.YtjfffcjjlnmneaaGreat
open Go.KL
open Go.ChangeShapes Go.WideShapes Go.ChangeAt Go.RowKit
theorem fExact_own:ownKnob Tryz.prog.godebug=none:=by kernel_rfl
theorem fExact_laid:laidOutB Tryz.prog=true:=by kernel_rfl
theorem fExact_e5 {H:Type} {enc:TypeId × Value→H} {W:World} {n:Nat} {cs:List Value} {y:DataW H × List MemPlace} (h:DataW.trod enc Tryz.prog W 0 (fun _=>true) true n 5 cs=some y):∃ x,cs=KL.encB8 x∧True:=by
  obtain ⟨x,e,_,_⟩:=DataW.trod_int Tryz.underlying5 h
  exact ⟨x,e,trivial⟩
theorem fExact_cells5:Tryz.prog.cellsOf 5=1:=by kernel_rfl
set_option maxRecDepth 100000 in
theorem fExact_lifted (os:Os) (started:os.Started) (H:Type) (enc:TypeId × Value→H) :
    ReturnsInHanded {} Tryz.checked os 3 .any (Rows.relayExactSpec.pre6 enc Tryz.prog Tryz.f3 Rows.relayExactRow.domain false) (Rows.relayExactSpec.post enc Tryz.prog Tryz.f3 false true false false):=by
  refine returnsInHanded_of_change (C:=Tryz.checked) fExact_own started (by kernel_rfl) Tryz.func3
    (ChangeSpec.witness6 (enc:=enc) (C:=Tryz.checked) false ⟨#[],#[.slice none 0 0,.int .i64 0],[]⟩ 8 (by kernel_rfl) (by kernel_rfl) (by kernel_rfl) (by kernel_rfl)) ?_
  intro W base args ds gs before hval0 hW hcnd _
  have hval:∀ (j:Nat) t v,Tryz.f3.params[j]?=some t→args[j]?=some v→Value.okWide Tryz.prog W .any base t v:=hval0
  have hW':=hW
  obtain ⟨p,q,hA0,hV,rfl,hfz,hnd⟩:=hW
  have hA:DataW.TrodAll enc Tryz.prog W 0 (fun _=>true) true Tryz.f3.params.toList args.toList ds p:=hA0
  rw [Tryz.params3] at hA hval
  obtain ⟨v0,v1,d0,d1,p0,p1,rfl,rfl,rfl,h0,h1⟩:=trodAll_two hA
  obtain ⟨rfl,rfl⟩:=trodVars_none hV
  obtain ⟨A0,k0,xs0,rfl,hS0,_⟩:=open_flat (f:=KL.encB8) (sz:=1) (by decide) (fun _=>rfl) Tryz.underlying22 fExact_cells5 (fun _=>True) (fun _ _ _=>fExact_e5) h0 (okWide_slice Tryz.underlying22 (hval 0 22 v0 rfl rfl))
  obtain ⟨a1,rfl,rfl,rfl,wa1⟩:=open_int Tryz.underlying3 (hval 1 3 v1 rfl rfl) h1
  have hb1:-9223372036854775808 ≤ a1∧a1 ≤ 9223372036854775807:=by simpa [Lit.wf,IntKind.min,IntKind.max,IntKind.signed,IntKind.bits] using wa1
  have hg:=w_klisterlaw08_RelayExact xs0 A0 k0 a1 W _ (St.start W) hS0 (law_Exact xs0 a1 hb1.1 hb1.2)
  refine Calls.mono' hg fun e W' ⟨v,he,φ',L',hst,hv,_⟩=>?_
  subst he;subst hv
  refine ⟨_,rfl,post_bool (P:=Tryz.prog) hW' rfl fExact_laid ?_ (t:=4) (by kernel_rfl) Tryz.underlying4 true rfl rfl rfl hst.kp0⟩
  rw [Tryz.params3]
  intro t ht
  simp only [List.mem_cons,List.not_mem_nil,or_false] at ht
  rcases ht with rfl | rfl
  · exact ⟨by kernel_rfl,of_decide_eq_true (by kernel_rfl)⟩
  · exact ⟨by kernel_rfl,of_decide_eq_true (by kernel_rfl)⟩
theorem fExact_j0:laidOutB Tryz.prog=true:=by kernel_rfl
theorem fExact_j1:mapsRowed Tryz.prog=true:=by kernel_rfl
theorem fExact_j2:(Tryz.prog.stops == [])=true:=by kernel_rfl
theorem fExact_j3:(Tryz.prog.stopKnobs == [])=true:=by kernel_rfl
theorem fExact_j4:(Rows.relayExactRow.inPlace == Tryz.prog.inPlace 3)=true:=by kernel_rfl
theorem fExact_j5:(Rows.relayExactRow.unfollowed == Tryz.prog.unfollowed 3)=true:=by kernel_rfl
theorem fExact_j6:(Rows.relayExactRow.recurses == Tryz.prog.recurses 3)=true:=by kernel_rfl
theorem fExact_j7:(Rows.relayExactRow.named == Tryz.prog.varsNamed 3)=true:=by kernel_rfl
theorem fExact_j8:(Rows.relayExactRow.plainKeys == Tryz.prog.plainKeys)=true:=by kernel_rfl
theorem fExact_j9:Tryz.prog.stopsHeard=true:=by kernel_rfl
theorem fExact_j10:Tryz.prog.mayEnter=true:=by kernel_rfl
theorem fExact_j11:(Rows.relayExactRow.lifted == Tryz.prog.liftsFinal)=true:=by kernel_rfl
theorem fExact_j12:lightFacts Tryz.prog Tryz.f3 Rows.relayExactSpec Rows.relayExactRow=true:=by kernel_rfl
theorem fExact_joined:joinedFacts Tryz.prog 3 Tryz.f3 Rows.relayExactSpec Rows.relayExactRow=true:=joined_of fExact_j0 fExact_j1 fExact_j2 fExact_j3 fExact_j4 fExact_j5 fExact_j6 fExact_j7 fExact_j8 fExact_j9 fExact_j10 fExact_j11 fExact_j12
theorem relay_exact:Rows.RelayExactSaid :=
  OpenClaim.holds_of_wide 3 Tryz.f3 rfl rfl rfl rfl rfl rfl rfl ⟨rfl,rfl,rfl,rfl,rfl⟩ rfl rfl rfl rfl rfl (by kernel_rfl) Tryz.func3 fExact_joined
    (of_decide_eq_true (by kernel_rfl)) (by unfold Func.isWrapper;rw [if_neg (by decide +kernel)];exact ⟨rfl,rfl⟩)
    (fun os started H enc _=>fExact_lifted os started H enc)
#print axioms relay_exact
end Go.Proofs.YtjfffcjjlnmneaaGreat
