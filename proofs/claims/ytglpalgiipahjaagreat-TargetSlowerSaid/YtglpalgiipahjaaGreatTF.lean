import Derived.Test.YtglpalgiipahjaaGreatRows
import Derived.Test.YtglpalgiipahjaaGreatT0
import Derived.Test.YtglpalgiipahjaaGreatT8
import Derived.Test.YtglpalgiipahjaaGreatT4
set_option linter.all false
namespace Go.Proofs.YtglpalgiipahjaaGreat
open Go.KL
open Go.ChangeShapes Go.WideShapes Go.ChangeAt Go.RowKit
theorem wIh:ownKnob Tryz.prog.godebug=none:=by kernel_rfl
theorem wHm:laidOutB Tryz.prog=true:=by kernel_rfl
theorem wGY {H:Type} {enc:TypeId × Value->H} {W:World} {n:Nat} {cs:List Value} {y:DataW H × List MemPlace} (h:DataW.trod enc Tryz.prog W 0 (fun _=>true) true n 5 cs=some y):∃ x,cs=KL.encB8 x/\True:=by
 obtain ⟨x,e,_,_⟩:=DataW.trod_int Tryz.underlying5 h
 exact ⟨x,e,trivial⟩
theorem wDl:Tryz.prog.cellsOf 5=1:=by kernel_rfl
set_option maxRecDepth 100000 in
theorem wGF (os:Os) (started:os.Started) (H:Type) (enc:TypeId × Value->H) :
  ReturnsInHanded {} Tryz.checked os 9 .any (Rows.targetSlowerSpec.pre6 enc Tryz.prog Tryz.f9 Rows.targetSlowerRow.domain false) (Rows.targetSlowerSpec.post enc Tryz.prog Tryz.f9 false true false false):=by
 refine returnsInHanded_of_change (C:=Tryz.checked) wIh started (by kernel_rfl) Tryz.func9
  (ChangeSpec.witness6 (enc:=enc) (C:=Tryz.checked) false ⟨#[],#[.slice none 0 0,.slice none 0 0,.int .u8 0],[]⟩ 8 (by kernel_rfl) (by kernel_rfl) (by kernel_rfl) (by kernel_rfl)) ?_
 intro W base args ds gs before hval0 hW hcnd _
 have hval:∀ (j:Nat) t v,Tryz.f9.params[j]?=some t->args[j]?=some v->Value.okWide Tryz.prog W .any base t v:=hval0
 have hW':=hW
 obtain ⟨p,q,hA0,hV,rfl,hfz,hnd⟩:=hW
 have hA:DataW.TrodAll enc Tryz.prog W 0 (fun _=>true) true Tryz.f9.params.toList args.toList ds p:=hA0
 rw [Tryz.params9] at hA hval
 obtain ⟨v0,v1,v2,d0,d1,d2,p0,p1,p2,rfl,rfl,rfl,h0,h1,h2⟩:=trodAll_three hA
 obtain ⟨rfl,rfl⟩:=trodVars_none hV
 obtain ⟨A0,k0,xs0,rfl,hS0,_⟩:=wHG (f:=KL.encB8) (sz:=1) (by decide) (fun _=>rfl) Tryz.underlying61 wDl (fun _=>True) (fun _ _ _=>wGY) h0 (okWide_slice Tryz.underlying61 (hval 0 61 v0 rfl rfl))
 obtain ⟨A1,k1,xs1,rfl,hS1,_⟩:=wHG (f:=KL.encB8) (sz:=1) (by decide) (fun _=>rfl) Tryz.underlying61 wDl (fun _=>True) (fun _ _ _=>wGY) h1 (okWide_slice Tryz.underlying61 (hval 1 61 v1 rfl rfl))
 obtain ⟨a2,rfl,rfl,rfl,wa2⟩:=open_int Tryz.underlying5 (hval 2 5 v2 rfl rfl) h2
 have hb2:0 <= a2/\a2 <= 255:=by simpa [Lit.wf,IntKind.min,IntKind.max,IntKind.signed,IntKind.bits] using wa2
 have hg:=wCd xs0 A0 k0 xs1 A1 k1 a2 W _ (St.start W) hS0 hS1 (wJp xs0 xs1 a2 hb2.1 hb2.2)
 refine Calls.mono' hg fun e W' ⟨v,he,φ',L',hst,hv,_⟩=>?_
 subst he;subst hv
 refine ⟨_,rfl,wKM (P:=Tryz.prog) hW' rfl wHm ?_ (t:=4) (by kernel_rfl) Tryz.underlying4 true rfl rfl rfl hst.kp0⟩
 rw [Tryz.params9]
 intro t ht
 simp only [List.mem_cons,List.not_mem_nil,or_false] at ht
 rcases ht with rfl | rfl | rfl
 ·exact ⟨by kernel_rfl,of_decide_eq_true (by kernel_rfl)⟩
 ·exact ⟨by kernel_rfl,of_decide_eq_true (by kernel_rfl)⟩
 ·exact ⟨by kernel_rfl,of_decide_eq_true (by kernel_rfl)⟩
theorem wJq:laidOutB Tryz.prog=true:=by kernel_rfl
theorem wJr:mapsRowed Tryz.prog=true:=by kernel_rfl
theorem wJs:(Tryz.prog.stops == [])=true:=by kernel_rfl
theorem wJt:(Tryz.prog.stopKnobs == [])=true:=by kernel_rfl
theorem wJu:(Rows.targetSlowerRow.inPlace == Tryz.prog.inPlace 9)=true:=by kernel_rfl
theorem wJv:(Rows.targetSlowerRow.unfollowed == Tryz.prog.unfollowed 9)=true:=by kernel_rfl
theorem wJw:(Rows.targetSlowerRow.recurses == Tryz.prog.recurses 9)=true:=by kernel_rfl
theorem wJx:(Rows.targetSlowerRow.named == Tryz.prog.varsNamed 9)=true:=by kernel_rfl
theorem wJy:(Rows.targetSlowerRow.plainKeys == Tryz.prog.plainKeys)=true:=by kernel_rfl
theorem wJz:Tryz.prog.stopsHeard=true:=by kernel_rfl
theorem wIi:Tryz.prog.mayEnter=true:=by kernel_rfl
theorem wIj:(Rows.targetSlowerRow.lifted == Tryz.prog.liftsFinal)=true:=by kernel_rfl
theorem wIk:wEc Tryz.prog Tryz.f9 Rows.targetSlowerSpec Rows.targetSlowerRow=true:=by kernel_rfl
theorem wGG:joinedFacts Tryz.prog 9 Tryz.f9 Rows.targetSlowerSpec Rows.targetSlowerRow=true:=wKO wJq wJr wJs wJt wJu wJv wJw wJx wJy wJz wIi wIj wIk
theorem target_slower:Rows.TargetSlowerSaid :=
 OpenClaim.holds_of_wide 9 Tryz.f9 rfl rfl rfl rfl rfl rfl rfl ⟨rfl,rfl,rfl,rfl,rfl⟩ rfl rfl rfl rfl rfl (by kernel_rfl) Tryz.func9 wGG
  (of_decide_eq_true (by kernel_rfl)) (by unfold Func.isWrapper;rw [if_neg (by decide +kernel)];exact ⟨rfl,rfl⟩)
  (fun os started H enc _=>wGF os started H enc)
#print axioms target_slower
end Go.Proofs.YtglpalgiipahjaaGreat
