import Derived.Test.YtglpalgiipahjaaGreatRows
import Derived.Test.YtglpalgiipahjaaGreatR0
import Derived.Test.YtglpalgiipahjaaGreatR10
import Derived.Test.YtglpalgiipahjaaGreatR4
set_option linter.all false
namespace Go.Proofs.YtglpalgiipahjaaGreat
open Go.KL
open Go.ChangeShapes Go.WideShapes Go.ChangeAt Go.RowKit
theorem wMa:ownKnob Tryz.prog.godebug=none:=by kernel_rfl
theorem wLX:laidOutB Tryz.prog=true:=by kernel_rfl
theorem wJl {H:Type} {enc:TypeId × Value->H} {W:World} {n:Nat} {cs:List Value} {y:DataW H × List MemPlace} (h:DataW.trod enc Tryz.prog W 0 (fun _=>true) true n 5 cs=some y):∃ x,cs=KL.encB8 x/\True:=by
 obtain ⟨x,e,_,_⟩:=DataW.trod_int Tryz.underlying5 h
 exact ⟨x,e,trivial⟩
theorem wFt:Tryz.prog.cellsOf 5=1:=by kernel_rfl
set_option maxRecDepth 100000 in
theorem wJJ (os:Os) (started:os.Started) (H:Type) (enc:TypeId × Value->H) :
  ReturnsInHanded {} Tryz.checked os 6 .any (Rows.relayRankedSpec.pre6 enc Tryz.prog Tryz.f6 Rows.relayRankedRow.domain false) (Rows.relayRankedSpec.post enc Tryz.prog Tryz.f6 false true false false):=by
 refine returnsInHanded_of_change (C:=Tryz.checked) wMa started (by kernel_rfl) Tryz.func6
  (ChangeSpec.witness6 (enc:=enc) (C:=Tryz.checked) false ⟨#[],#[.slice none 0 0,.slice none 0 0],[]⟩ 8 (by kernel_rfl) (by kernel_rfl) (by kernel_rfl) (by kernel_rfl)) ?_
 intro W base args ds gs before hval0 hW hcnd _
 have hval:∀ (j:Nat) t v,Tryz.f6.params[j]?=some t->args[j]?=some v->Value.okWide Tryz.prog W .any base t v:=hval0
 have hW':=hW
 obtain ⟨p,q,hA0,hV,rfl,hfz,hnd⟩:=hW
 have hA:DataW.TrodAll enc Tryz.prog W 0 (fun _=>true) true Tryz.f6.params.toList args.toList ds p:=hA0
 rw [Tryz.params6] at hA hval
 obtain ⟨v0,v1,d0,d1,p0,p1,rfl,rfl,rfl,h0,h1⟩:=trodAll_two hA
 obtain ⟨rfl,rfl⟩:=trodVars_none hV
 obtain ⟨A0,k0,xs0,rfl,hS0,_⟩:=wKm (f:=KL.encB8) (sz:=1) (by decide) (fun _=>rfl) Tryz.underlying61 wFt (fun _=>True) (fun _ _ _=>wJl) h0 (okWide_slice Tryz.underlying61 (hval 0 61 v0 rfl rfl))
 obtain ⟨A1,k1,xs1,rfl,hS1,_⟩:=wKm (f:=KL.encB8) (sz:=1) (by decide) (fun _=>rfl) Tryz.underlying61 wFt (fun _=>True) (fun _ _ _=>wJl) h1 (okWide_slice Tryz.underlying61 (hval 1 61 v1 rfl rfl))
 have hg:=wEU xs0 A0 k0 xs1 A1 k1 W _ (St.start W) hS0 hS1 (wON xs0 xs1)
 refine Calls.mono' hg fun e W' ⟨v,he,φ',L',hst,hv,_⟩=>?_
 subst he;subst hv
 refine ⟨_,rfl,wOh (P:=Tryz.prog) hW' rfl wLX ?_ (t:=4) (by kernel_rfl) Tryz.underlying4 true rfl rfl rfl hst.kp0⟩
 rw [Tryz.params6]
 intro t ht
 simp only [List.mem_cons,List.not_mem_nil,or_false] at ht
 rcases ht with rfl | rfl
 ·exact ⟨by kernel_rfl,of_decide_eq_true (by kernel_rfl)⟩
 ·exact ⟨by kernel_rfl,of_decide_eq_true (by kernel_rfl)⟩
theorem wOO:laidOutB Tryz.prog=true:=by kernel_rfl
theorem wOP:mapsRowed Tryz.prog=true:=by kernel_rfl
theorem wOQ:(Tryz.prog.stops == [])=true:=by kernel_rfl
theorem wOR:(Tryz.prog.stopKnobs == [])=true:=by kernel_rfl
theorem wOS:(Rows.relayRankedRow.inPlace == Tryz.prog.inPlace 6)=true:=by kernel_rfl
theorem wOT:(Rows.relayRankedRow.unfollowed == Tryz.prog.unfollowed 6)=true:=by kernel_rfl
theorem wOU:(Rows.relayRankedRow.recurses == Tryz.prog.recurses 6)=true:=by kernel_rfl
theorem wOV:(Rows.relayRankedRow.named == Tryz.prog.varsNamed 6)=true:=by kernel_rfl
theorem wOW:(Rows.relayRankedRow.plainKeys == Tryz.prog.plainKeys)=true:=by kernel_rfl
theorem wOX:Tryz.prog.stopsHeard=true:=by kernel_rfl
theorem wMb:Tryz.prog.mayEnter=true:=by kernel_rfl
theorem wMc:(Rows.relayRankedRow.lifted == Tryz.prog.liftsFinal)=true:=by kernel_rfl
theorem wMd:wHB Tryz.prog Tryz.f6 Rows.relayRankedSpec Rows.relayRankedRow=true:=by kernel_rfl
theorem wJK:joinedFacts Tryz.prog 6 Tryz.f6 Rows.relayRankedSpec Rows.relayRankedRow=true:=wOj wOO wOP wOQ wOR wOS wOT wOU wOV wOW wOX wMb wMc wMd
theorem relay_ranked:Rows.RelayRankedSaid :=
 OpenClaim.holds_of_wide 6 Tryz.f6 rfl rfl rfl rfl rfl rfl rfl ⟨rfl,rfl,rfl,rfl,rfl⟩ rfl rfl rfl rfl rfl (by kernel_rfl) Tryz.func6 wJK
  (of_decide_eq_true (by kernel_rfl)) (by unfold Func.isWrapper;rw [if_neg (by decide +kernel)];exact ⟨rfl,rfl⟩)
  (fun os started H enc _=>wJJ os started H enc)
#print axioms relay_ranked
end Go.Proofs.YtglpalgiipahjaaGreat
