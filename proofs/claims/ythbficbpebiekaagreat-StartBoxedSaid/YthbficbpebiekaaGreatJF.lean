import Derived.Test.YthbficbpebiekaaGreatRows
import Derived.Test.YthbficbpebiekaaGreatJ0
import Derived.Test.YthbficbpebiekaaGreatJ6
import Derived.Test.YthbficbpebiekaaGreatJ2
set_option linter.all false
namespace Go.Proofs.YthbficbpebiekaaGreat
open Go.KL
open Go.ChangeShapes Go.WideShapes Go.ChangeAt Go.RowKit
theorem wIq:ownKnob Tryz.prog.godebug=none:=by kernel_rfl
theorem wHg:laidOutB Tryz.prog=true:=by kernel_rfl
theorem wKq {H:Type} {enc:TypeId × Value->H} {W:World} {n:Nat} {cs:List Value} {y:DataW H × List MemPlace} (h:DataW.trod enc Tryz.prog W 0 (fun _=>true) true n 5 cs=some y):∃ x,cs=KL.encB8 x/\True:=by
 obtain ⟨x,e,_,_⟩:=DataW.trod_int Tryz.underlying5 h
 exact ⟨x,e,trivial⟩
theorem wGH:Tryz.prog.cellsOf 5=1:=by kernel_rfl
set_option maxRecDepth 100000 in
theorem wGI (os:Os) (started:os.Started) (H:Type) (enc:TypeId × Value->H) :
  ReturnsInHanded {} Tryz.checked os 5 .any (Rows.startBoxedSpec.pre6 enc Tryz.prog Tryz.f5 Rows.startBoxedRow.domain false) (Rows.startBoxedSpec.post enc Tryz.prog Tryz.f5 false true false false):=by
 refine returnsInHanded_of_change (C:=Tryz.checked) wIq started (by kernel_rfl) Tryz.func5
  (ChangeSpec.witness6 (enc:=enc) (C:=Tryz.checked) false ⟨#[],#[.slice none 0 0,.int .i64 0],[]⟩ 8 (by kernel_rfl) (by kernel_rfl) (by kernel_rfl) (by kernel_rfl)) ?_
 intro W base args ds gs before hval0 hW hcnd _
 have hval:∀ (j:Nat) t v,Tryz.f5.params[j]?=some t->args[j]?=some v->Value.okWide Tryz.prog W .any base t v:=hval0
 have hW':=hW
 obtain ⟨p,q,hA0,hV,rfl,hfz,hnd⟩:=hW
 have hA:DataW.TrodAll enc Tryz.prog W 0 (fun _=>true) true Tryz.f5.params.toList args.toList ds p:=hA0
 rw [Tryz.params5] at hA hval
 obtain ⟨v0,v1,d0,d1,p0,p1,rfl,rfl,rfl,h0,h1⟩:=trodAll_two hA
 obtain ⟨rfl,rfl⟩:=trodVars_none hV
 obtain ⟨A0,k0,xs0,rfl,hS0,_⟩:=wJF (f:=KL.encB8) (sz:=1) (by decide) (fun _=>rfl) Tryz.underlying60 wGH (fun _=>True) (fun _ _ _=>wKq) h0 (okWide_slice Tryz.underlying60 (hval 0 60 v0 rfl rfl))
 obtain ⟨a1,rfl,rfl,rfl,wa1⟩:=open_int Tryz.underlying3 (hval 1 3 v1 rfl rfl) h1
 have hb1:-9223372036854775808 <= a1/\a1 <= 9223372036854775807:=by simpa [Lit.wf,IntKind.min,IntKind.max,IntKind.signed,IntKind.bits] using wa1
 have hg:=wCE xs0 A0 k0 a1 W _ (St.start W) hS0 (wKp xs0 a1 hb1.1 hb1.2)
 refine Calls.mono' hg fun e W' ⟨v,he,U',L',hst,hv,_⟩=>?_
 subst he;subst hv
 refine ⟨_,rfl,wJD (P:=Tryz.prog) hW' rfl wHg ?_ (t:=4) (by kernel_rfl) Tryz.underlying4 true rfl rfl rfl hst.kp0⟩
 rw [Tryz.params5]
 intro t ht
 simp only [List.mem_cons,List.not_mem_nil,or_false] at ht
 rcases ht with rfl | rfl
 ·exact ⟨by kernel_rfl,of_decide_eq_true (by kernel_rfl)⟩
 ·exact ⟨by kernel_rfl,of_decide_eq_true (by kernel_rfl)⟩
theorem wKr:laidOutB Tryz.prog=true:=by kernel_rfl
theorem wKs:mapsRowed Tryz.prog=true:=by kernel_rfl
theorem wKt:(Tryz.prog.stops == [])=true:=by kernel_rfl
theorem wKu:(Tryz.prog.stopKnobs == [])=true:=by kernel_rfl
theorem wKv:(Rows.startBoxedRow.inPlace == Tryz.prog.inPlace 5)=true:=by kernel_rfl
theorem wKw:(Rows.startBoxedRow.unfollowed == Tryz.prog.unfollowed 5)=true:=by kernel_rfl
theorem wKx:(Rows.startBoxedRow.recurses == Tryz.prog.recurses 5)=true:=by kernel_rfl
theorem wKy:(Rows.startBoxedRow.named == Tryz.prog.varsNamed 5)=true:=by kernel_rfl
theorem wKz:(Rows.startBoxedRow.plainKeys == Tryz.prog.plainKeys)=true:=by kernel_rfl
theorem wLA:Tryz.prog.stopsHeard=true:=by kernel_rfl
theorem wIr:Tryz.prog.mayEnter=true:=by kernel_rfl
theorem wIs:(Rows.startBoxedRow.lifted == Tryz.prog.liftsFinal)=true:=by kernel_rfl
theorem wIt:wDq Tryz.prog Tryz.f5 Rows.startBoxedSpec Rows.startBoxedRow=true:=by kernel_rfl
theorem wGJ:joinedFacts Tryz.prog 5 Tryz.f5 Rows.startBoxedSpec Rows.startBoxedRow=true:=wJG wKr wKs wKt wKu wKv wKw wKx wKy wKz wLA wIr wIs wIt
theorem start_boxed:Rows.StartBoxedSaid :=
 OpenClaim.holds_of_wide 5 Tryz.f5 rfl rfl rfl rfl rfl rfl rfl ⟨rfl,rfl,rfl,rfl,rfl⟩ rfl rfl rfl rfl rfl (by kernel_rfl) Tryz.func5 wGJ
  (of_decide_eq_true (by kernel_rfl)) (by unfold Func.isWrapper;rw [if_neg (by decide +kernel)];exact ⟨rfl,rfl⟩)
  (fun os started H enc _=>wGI os started H enc)
#print axioms start_boxed
end Go.Proofs.YthbficbpebiekaaGreat
