import Derived.Test.YtadbejldcmkokaaGreatRows
import Derived.Test.YtadbejldcmkokaaGreatA0
import Derived.Test.YtadbejldcmkokaaGreatA9
import Derived.Test.YtadbejldcmkokaaGreatA3
set_option linter.all false
namespace Go.Proofs.YtadbejldcmkokaaGreat
open Go.KL
open Go.ChangeShapes Go.WideShapes Go.ChangeAt Go.RowKit
theorem wMP:ownKnob Tryz.prog.godebug=none:=by kernel_rfl
theorem wLV:laidOutB Tryz.prog=true:=by kernel_rfl
theorem wNl {H:Type} {enc:TypeId × Value->H} {W:World} {n:Nat} {cs:List Value} {y:DataW H × List MemPlace} (h:DataW.trod enc Tryz.prog W 0 (fun _=>true) true n 5 cs=some y):∃ x,cs=KL.encB8 x/\True:=by
 obtain ⟨x,e,_,_⟩:=DataW.trod_int Tryz.underlying5 h
 exact ⟨x,e,trivial⟩
theorem wJL:Tryz.prog.cellsOf 5=1:=by kernel_rfl
set_option maxRecDepth 100000 in
theorem wJM (os:Os) (started:os.Started) (H:Type) (enc:TypeId × Value->H) :
  ReturnsInHanded {} Tryz.checked os 3 .any (Rows.topSeatedSpec.pre6 enc Tryz.prog Tryz.f3 Rows.topSeatedRow.domain false) (Rows.topSeatedSpec.post enc Tryz.prog Tryz.f3 false true false false):=by
 refine returnsInHanded_of_change (C:=Tryz.checked) wMP started (by kernel_rfl) Tryz.func3
  (ChangeSpec.witness6 (enc:=enc) (C:=Tryz.checked) false ⟨#[],#[.slice none 0 0],[]⟩ 8 (by kernel_rfl) (by kernel_rfl) (by kernel_rfl) (by kernel_rfl)) ?_
 intro W base args ds gs before hval0 hW hcnd _
 have hval:∀ (j:Nat) t v,Tryz.f3.params[j]?=some t->args[j]?=some v->Value.okWide Tryz.prog W .any base t v:=hval0
 have hW':=hW
 obtain ⟨p,q,hA0,hV,rfl,hfz,hnd⟩:=hW
 have hA:DataW.TrodAll enc Tryz.prog W 0 (fun _=>true) true Tryz.f3.params.toList args.toList ds p:=hA0
 rw [Tryz.params3] at hA hval
 obtain ⟨v0,d0,rfl,rfl,h0⟩:=trodAll_one hA
 obtain ⟨rfl,rfl⟩:=trodVars_none hV
 obtain ⟨A0,k0,xs0,rfl,hS0,_⟩:=wOL (f:=KL.encB8) (sz:=1) (by decide) (fun _=>rfl) Tryz.underlying22 wJL (fun _=>True) (fun _ _ _=>wNl) h0 (okWide_slice Tryz.underlying22 (hval 0 22 v0 rfl rfl))
 have hg:=wFu xs0 A0 k0 W _ (St.start W) hS0 (wNk xs0)
 refine Calls.mono' hg fun e W' ⟨v,he,U',L',hst,hv,_⟩=>?_
 subst he;subst hv
 refine ⟨_,rfl,wOJ (P:=Tryz.prog) hW' rfl wLV ?_ (t:=4) (by kernel_rfl) Tryz.underlying4 true rfl rfl rfl hst.kp0⟩
 rw [Tryz.params3]
 intro t ht
 simp only [List.mem_cons,List.not_mem_nil,or_false] at ht
 subst ht
 ·exact ⟨by kernel_rfl,of_decide_eq_true (by kernel_rfl)⟩
theorem wNm:laidOutB Tryz.prog=true:=by kernel_rfl
theorem wNn:mapsRowed Tryz.prog=true:=by kernel_rfl
theorem wNo:(Tryz.prog.stops == [])=true:=by kernel_rfl
theorem wNp:(Tryz.prog.stopKnobs == [])=true:=by kernel_rfl
theorem wNq:(Rows.topSeatedRow.inPlace == Tryz.prog.inPlace 3)=true:=by kernel_rfl
theorem wNr:(Rows.topSeatedRow.unfollowed == Tryz.prog.unfollowed 3)=true:=by kernel_rfl
theorem wNs:(Rows.topSeatedRow.recurses == Tryz.prog.recurses 3)=true:=by kernel_rfl
theorem wNt:(Rows.topSeatedRow.named == Tryz.prog.varsNamed 3)=true:=by kernel_rfl
theorem wNu:(Rows.topSeatedRow.plainKeys == Tryz.prog.plainKeys)=true:=by kernel_rfl
theorem wNv:Tryz.prog.stopsHeard=true:=by kernel_rfl
theorem wMQ:Tryz.prog.mayEnter=true:=by kernel_rfl
theorem wMR:(Rows.topSeatedRow.lifted == Tryz.prog.liftsFinal)=true:=by kernel_rfl
theorem wMS:wHZ Tryz.prog Tryz.f3 Rows.topSeatedSpec Rows.topSeatedRow=true:=by kernel_rfl
theorem wJN:joinedFacts Tryz.prog 3 Tryz.f3 Rows.topSeatedSpec Rows.topSeatedRow=true:=wOM wNm wNn wNo wNp wNq wNr wNs wNt wNu wNv wMQ wMR wMS
theorem top_seated:Rows.TopSeatedSaid :=
 OpenClaim.holds_of_wide 3 Tryz.f3 rfl rfl rfl rfl rfl rfl rfl ⟨rfl,rfl,rfl,rfl,rfl⟩ rfl rfl rfl rfl rfl (by kernel_rfl) Tryz.func3 wJN
  (of_decide_eq_true (by kernel_rfl)) (by unfold Func.isWrapper;rw [if_neg (by decide +kernel)];exact ⟨rfl,rfl⟩)
  (fun os started H enc _=>wJM os started H enc)
#print axioms top_seated
end Go.Proofs.YtadbejldcmkokaaGreat
