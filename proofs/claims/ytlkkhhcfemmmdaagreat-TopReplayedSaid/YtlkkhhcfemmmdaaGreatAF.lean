import Derived.Test.YtlkkhhcfemmmdaaGreatRows
import Derived.Test.YtlkkhhcfemmmdaaGreatA0
import Derived.Test.YtlkkhhcfemmmdaaGreatA9
import Derived.Test.YtlkkhhcfemmmdaaGreatA3
set_option linter.all false
namespace Go.Proofs.YtlkkhhcfemmmdaaGreat
open Go.KL
open Go.ChangeShapes Go.WideShapes Go.ChangeAt Go.RowKit
theorem wKO:ownKnob Tryz.prog.godebug=none:=by kernel_rfl
theorem wJK:laidOutB Tryz.prog=true:=by kernel_rfl
theorem wHq {H:Type} {enc:TypeId × Value->H} {W:World} {n:Nat} {cs:List Value} {y:DataW H × List MemPlace} (h:DataW.trod enc Tryz.prog W 0 (fun _=>true) true n 5 cs=some y):∃ x,cs=KL.encB8 x/\True:=by
 obtain ⟨x,e,_,_⟩:=DataW.trod_int Tryz.underlying5 h
 exact ⟨x,e,trivial⟩
theorem wFw:Tryz.prog.cellsOf 5=1:=by kernel_rfl
set_option maxRecDepth 100000 in
theorem wIB (os:Os) (started:os.Started) (H:Type) (enc:TypeId × Value->H) :
  ReturnsInHanded {} Tryz.checked os 3 .any (Rows.topReplayedSpec.pre6 enc Tryz.prog Tryz.f3 Rows.topReplayedRow.domain false) (Rows.topReplayedSpec.post enc Tryz.prog Tryz.f3 false true false false):=by
 refine returnsInHanded_of_change (C:=Tryz.checked) wKO started (by kernel_rfl) Tryz.func3
  (ChangeSpec.witness6 (enc:=enc) (C:=Tryz.checked) false ⟨#[],#[.slice none 0 0,.slice none 0 0,.int .u8 0,.int .u8 0],[]⟩ 8 (by kernel_rfl) (by kernel_rfl) (by kernel_rfl) (by kernel_rfl)) ?_
 intro W base args ds gs before hval0 hW hcnd _
 have hval:∀ (j:Nat) t v,Tryz.f3.params[j]?=some t->args[j]?=some v->Value.okWide Tryz.prog W .any base t v:=hval0
 have hW':=hW
 obtain ⟨p,q,hA0,hV,rfl,hfz,hnd⟩:=hW
 have hA:DataW.TrodAll enc Tryz.prog W 0 (fun _=>true) true Tryz.f3.params.toList args.toList ds p:=hA0
 rw [Tryz.params3] at hA hval
 obtain ⟨v0,v1,v2,v3,d0,d1,d2,d3,p0,p1,p2,p3,rfl,rfl,rfl,h0,h1,h2,h3⟩:=trodAll_four hA
 obtain ⟨rfl,rfl⟩:=trodVars_none hV
 obtain ⟨A0,k0,xs0,rfl,hS0,_⟩:=wKa (f:=KL.encB8) (sz:=1) (by decide) (fun _=>rfl) Tryz.underlying22 wFw (fun _=>True) (fun _ _ _=>wHq) h0 (okWide_slice Tryz.underlying22 (hval 0 22 v0 rfl rfl))
 obtain ⟨A1,k1,xs1,rfl,hS1,_⟩:=wKa (f:=KL.encB8) (sz:=1) (by decide) (fun _=>rfl) Tryz.underlying22 wFw (fun _=>True) (fun _ _ _=>wHq) h1 (okWide_slice Tryz.underlying22 (hval 1 22 v1 rfl rfl))
 obtain ⟨a2,rfl,rfl,rfl,wa2⟩:=open_int Tryz.underlying5 (hval 2 5 v2 rfl rfl) h2
 have hb2:0 <= a2/\a2 <= 255:=by simpa [Lit.wf,IntKind.min,IntKind.max,IntKind.signed,IntKind.bits] using wa2
 obtain ⟨a3,rfl,rfl,rfl,wa3⟩:=open_int Tryz.underlying5 (hval 3 5 v3 rfl rfl) h3
 have hb3:0 <= a3/\a3 <= 255:=by simpa [Lit.wf,IntKind.min,IntKind.max,IntKind.signed,IntKind.bits] using wa3
 have hg:=wFX xs0 A0 k0 xs1 A1 k1 a2 a3 W _ (St.start W) hS0 hS1 (wLI xs0 xs1 a2 a3 hb2.1 hb2.2 hb3.1 hb3.2)
 refine Calls.mono' hg fun e W' ⟨v,he,U',L',hst,hv,_⟩=>?_
 subst he;subst hv
 refine ⟨_,rfl,wNw (P:=Tryz.prog) hW' rfl wJK ?_ (t:=4) (by kernel_rfl) Tryz.underlying4 true rfl rfl rfl hst.kp0⟩
 rw [Tryz.params3]
 intro t ht
 simp only [List.mem_cons,List.not_mem_nil,or_false] at ht
 rcases ht with rfl | rfl | rfl | rfl
 ·exact ⟨by kernel_rfl,of_decide_eq_true (by kernel_rfl)⟩
 ·exact ⟨by kernel_rfl,of_decide_eq_true (by kernel_rfl)⟩
 ·exact ⟨by kernel_rfl,of_decide_eq_true (by kernel_rfl)⟩
 ·exact ⟨by kernel_rfl,of_decide_eq_true (by kernel_rfl)⟩
theorem wLJ:laidOutB Tryz.prog=true:=by kernel_rfl
theorem wLK:mapsRowed Tryz.prog=true:=by kernel_rfl
theorem wLL:(Tryz.prog.stops == [])=true:=by kernel_rfl
theorem wLM:(Tryz.prog.stopKnobs == [])=true:=by kernel_rfl
theorem wLN:(Rows.topReplayedRow.inPlace == Tryz.prog.inPlace 3)=true:=by kernel_rfl
theorem wLO:(Rows.topReplayedRow.unfollowed == Tryz.prog.unfollowed 3)=true:=by kernel_rfl
theorem wLP:(Rows.topReplayedRow.recurses == Tryz.prog.recurses 3)=true:=by kernel_rfl
theorem wLQ:(Rows.topReplayedRow.named == Tryz.prog.varsNamed 3)=true:=by kernel_rfl
theorem wLR:(Rows.topReplayedRow.plainKeys == Tryz.prog.plainKeys)=true:=by kernel_rfl
theorem wLS:Tryz.prog.stopsHeard=true:=by kernel_rfl
theorem wKP:Tryz.prog.mayEnter=true:=by kernel_rfl
theorem wKQ:(Rows.topReplayedRow.lifted == Tryz.prog.liftsFinal)=true:=by kernel_rfl
theorem wKR:wHc Tryz.prog Tryz.f3 Rows.topReplayedSpec Rows.topReplayedRow=true:=by kernel_rfl
theorem wIC:joinedFacts Tryz.prog 3 Tryz.f3 Rows.topReplayedSpec Rows.topReplayedRow=true:=wNy wLJ wLK wLL wLM wLN wLO wLP wLQ wLR wLS wKP wKQ wKR
theorem top_replayed:Rows.TopReplayedSaid :=
 OpenClaim.holds_of_wide 3 Tryz.f3 rfl rfl rfl rfl rfl rfl rfl ⟨rfl,rfl,rfl,rfl,rfl⟩ rfl rfl rfl rfl rfl (by kernel_rfl) Tryz.func3 wIC
  (of_decide_eq_true (by kernel_rfl)) (by unfold Func.isWrapper;rw [if_neg (by decide +kernel)];exact ⟨rfl,rfl⟩)
  (fun os started H enc _=>wIB os started H enc)
#print axioms top_replayed
end Go.Proofs.YtlkkhhcfemmmdaaGreat
