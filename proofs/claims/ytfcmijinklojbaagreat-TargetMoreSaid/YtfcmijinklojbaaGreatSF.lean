import Derived.Test.YtfcmijinklojbaaGreatRows
import Derived.Test.YtfcmijinklojbaaGreatS0
import Derived.Test.YtfcmijinklojbaaGreatS7
import Derived.Test.YtfcmijinklojbaaGreatS2
set_option linter.all false
namespace Go.Proofs.YtfcmijinklojbaaGreat
open Go.KL
open Go.ChangeShapes Go.WideShapes Go.ChangeAt Go.RowKit
theorem wMI:ownKnob Tryz.prog.godebug=none:=by kernel_rfl
theorem wJy:laidOutB Tryz.prog=true:=by kernel_rfl
theorem wNL {H:Type} {enc:TypeId × Value->H} {W:World} {n:Nat} {cs:List Value} {y:DataW H × List MemPlace} (h:DataW.trod enc Tryz.prog W 0 (fun _=>true) true n 5 cs=some y):∃ x,cs=KL.encB8 x/\True:=by
 obtain ⟨x,e,_,_⟩:=DataW.trod_int Tryz.underlying5 h
 exact ⟨x,e,trivial⟩
theorem wIA:Tryz.prog.cellsOf 5=1:=by kernel_rfl
set_option maxRecDepth 100000 in
theorem wIB (os:Os) (started:os.Started) (H:Type) (enc:TypeId × Value->H) :
  ReturnsInHanded {} Tryz.checked os 4 .any (Rows.targetMoreSpec.pre6 enc Tryz.prog Tryz.f4 Rows.targetMoreRow.domain false) (Rows.targetMoreSpec.post enc Tryz.prog Tryz.f4 false true false false):=by
 refine returnsInHanded_of_change (C:=Tryz.checked) wMI started (by kernel_rfl) Tryz.func4
  (ChangeSpec.witness6 (enc:=enc) (C:=Tryz.checked) false ⟨#[],#[.slice none 0 0,.int .u8 0,.int .u8 0],[]⟩ 8 (by kernel_rfl) (by kernel_rfl) (by kernel_rfl) (by kernel_rfl)) ?_
 intro W base args ds gs before hval0 hW hcnd _
 have hval:∀ (j:Nat) t v,Tryz.f4.params[j]?=some t->args[j]?=some v->Value.okWide Tryz.prog W .any base t v:=hval0
 have hW':=hW
 obtain ⟨p,q,hA0,hV,rfl,hfz,hnd⟩:=hW
 have hA:DataW.TrodAll enc Tryz.prog W 0 (fun _=>true) true Tryz.f4.params.toList args.toList ds p:=hA0
 rw [Tryz.params4] at hA hval
 obtain ⟨v0,v1,v2,d0,d1,d2,p0,p1,p2,rfl,rfl,rfl,h0,h1,h2⟩:=trodAll_three hA
 obtain ⟨rfl,rfl⟩:=trodVars_none hV
 obtain ⟨A0,k0,xs0,rfl,hS0,_⟩:=wKM (f:=KL.encB8) (sz:=1) (by decide) (fun _=>rfl) Tryz.underlying53 wIA (fun _=>True) (fun _ _ _=>wNL) h0 (okWide_slice Tryz.underlying53 (hval 0 53 v0 rfl rfl))
 obtain ⟨a1,rfl,rfl,rfl,wa1⟩:=open_int Tryz.underlying5 (hval 1 5 v1 rfl rfl) h1
 have hb1:0 <= a1/\a1 <= 255:=by simpa [Lit.wf,IntKind.min,IntKind.max,IntKind.signed,IntKind.bits] using wa1
 obtain ⟨a2,rfl,rfl,rfl,wa2⟩:=open_int Tryz.underlying5 (hval 2 5 v2 rfl rfl) h2
 have hb2:0 <= a2/\a2 <= 255:=by simpa [Lit.wf,IntKind.min,IntKind.max,IntKind.signed,IntKind.bits] using wa2
 have hg:=wDJ xs0 A0 k0 a1 a2 W _ (St.start W) hS0 (wNK xs0 a1 a2 hb1.1 hb1.2 hb2.1 hb2.2)
 refine Calls.mono' hg fun e W' ⟨v,he,U',L',hst,hv,_⟩=>?_
 subst he;subst hv
 refine ⟨_,rfl,wKK (P:=Tryz.prog) hW' rfl wJy ?_ (t:=4) (by kernel_rfl) Tryz.underlying4 true rfl rfl rfl hst.kp0⟩
 rw [Tryz.params4]
 intro t ht
 simp only [List.mem_cons,List.not_mem_nil,or_false] at ht
 rcases ht with rfl | rfl | rfl
 ·exact ⟨by kernel_rfl,of_decide_eq_true (by kernel_rfl)⟩
 ·exact ⟨by kernel_rfl,of_decide_eq_true (by kernel_rfl)⟩
 ·exact ⟨by kernel_rfl,of_decide_eq_true (by kernel_rfl)⟩
theorem wNM:laidOutB Tryz.prog=true:=by kernel_rfl
theorem wNN:mapsRowed Tryz.prog=true:=by kernel_rfl
theorem wNO:(Tryz.prog.stops == [])=true:=by kernel_rfl
theorem wNP:(Tryz.prog.stopKnobs == [])=true:=by kernel_rfl
theorem wNQ:(Rows.targetMoreRow.inPlace == Tryz.prog.inPlace 4)=true:=by kernel_rfl
theorem wNR:(Rows.targetMoreRow.unfollowed == Tryz.prog.unfollowed 4)=true:=by kernel_rfl
theorem wNS:(Rows.targetMoreRow.recurses == Tryz.prog.recurses 4)=true:=by kernel_rfl
theorem wNT:(Rows.targetMoreRow.named == Tryz.prog.varsNamed 4)=true:=by kernel_rfl
theorem wNU:(Rows.targetMoreRow.plainKeys == Tryz.prog.plainKeys)=true:=by kernel_rfl
theorem wNV:Tryz.prog.stopsHeard=true:=by kernel_rfl
theorem wMJ:Tryz.prog.mayEnter=true:=by kernel_rfl
theorem wMK:(Rows.targetMoreRow.lifted == Tryz.prog.liftsFinal)=true:=by kernel_rfl
theorem wML:wEy Tryz.prog Tryz.f4 Rows.targetMoreSpec Rows.targetMoreRow=true:=by kernel_rfl
theorem wIC:joinedFacts Tryz.prog 4 Tryz.f4 Rows.targetMoreSpec Rows.targetMoreRow=true:=wKN wNM wNN wNO wNP wNQ wNR wNS wNT wNU wNV wMJ wMK wML
theorem target_more:Rows.TargetMoreSaid :=
 OpenClaim.holds_of_wide 4 Tryz.f4 rfl rfl rfl rfl rfl rfl rfl ⟨rfl,rfl,rfl,rfl,rfl⟩ rfl rfl rfl rfl rfl (by kernel_rfl) Tryz.func4 wIC
  (of_decide_eq_true (by kernel_rfl)) (by unfold Func.isWrapper;rw [if_neg (by decide +kernel)];exact ⟨rfl,rfl⟩)
  (fun os started H enc _=>wIB os started H enc)
#print axioms target_more
end Go.Proofs.YtfcmijinklojbaaGreat
