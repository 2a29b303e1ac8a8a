import Derived.Test.YtkedcbligiebkaaGreatRows
import Derived.Test.YtkedcbligiebkaaGreatU0
import Derived.Test.YtkedcbligiebkaaGreatU6
import Derived.Test.YtkedcbligiebkaaGreatU2
set_option linter.all false
namespace Go.Proofs.YtkedcbligiebkaaGreat
open Go.KL
open Go.ChangeShapes Go.WideShapes Go.ChangeAt Go.RowKit
theorem wLh:ownKnob Tryz.prog.godebug=none:=by kernel_rfl
theorem wJn:laidOutB Tryz.prog=true:=by kernel_rfl
theorem wJM {H:Type} {enc:TypeId × Value->H} {W:World} {n:Nat} {cs:List Value} {y:DataW H × List MemPlace} (h:DataW.trod enc Tryz.prog W 0 (fun _=>true) true n 5 cs=some y):∃ x,cs=KL.encB8 x/\True:=by
 obtain ⟨x,e,_,_⟩:=DataW.trod_int Tryz.underlying5 h
 exact ⟨x,e,trivial⟩
theorem wEj:Tryz.prog.cellsOf 5=1:=by kernel_rfl
set_option maxRecDepth 100000 in
theorem wHb (os:Os) (started:os.Started) (H:Type) (enc:TypeId × Value->H) :
  ReturnsInHanded {} Tryz.checked os 4 .any (Rows.relayLossSpec.pre6 enc Tryz.prog Tryz.f4 Rows.relayLossRow.domain false) (Rows.relayLossSpec.post enc Tryz.prog Tryz.f4 false true false false):=by
 refine returnsInHanded_of_change (C:=Tryz.checked) wLh started (by kernel_rfl) Tryz.func4
  (ChangeSpec.witness6 (enc:=enc) (C:=Tryz.checked) false ⟨#[],#[.slice none 0 0,.slice none 0 0,.int .i64 0],[]⟩ 8 (by kernel_rfl) (by kernel_rfl) (by kernel_rfl) (by kernel_rfl)) ?_
 intro W base args ds gs before hval0 hW hcnd _
 have hval:∀ (j:Nat) t v,Tryz.f4.params[j]?=some t->args[j]?=some v->Value.okWide Tryz.prog W .any base t v:=hval0
 have hW':=hW
 obtain ⟨p,q,hA0,hV,rfl,hfz,hnd⟩:=hW
 have hA:DataW.TrodAll enc Tryz.prog W 0 (fun _=>true) true Tryz.f4.params.toList args.toList ds p:=hA0
 rw [Tryz.params4] at hA hval
 obtain ⟨v0,v1,v2,d0,d1,d2,p0,p1,p2,rfl,rfl,rfl,h0,h1,h2⟩:=trodAll_three hA
 obtain ⟨rfl,rfl⟩:=trodVars_none hV
 obtain ⟨A0,k0,xs0,rfl,hS0,_⟩:=wHE (f:=KL.encB8) (sz:=1) (by decide) (fun _=>rfl) Tryz.underlying22 wEj (fun _=>True) (fun _ _ _=>wJM) h0 (okWide_slice Tryz.underlying22 (hval 0 22 v0 rfl rfl))
 obtain ⟨A1,k1,xs1,rfl,hS1,_⟩:=wHE (f:=KL.encB8) (sz:=1) (by decide) (fun _=>rfl) Tryz.underlying22 wEj (fun _=>True) (fun _ _ _=>wJM) h1 (okWide_slice Tryz.underlying22 (hval 1 22 v1 rfl rfl))
 obtain ⟨a2,rfl,rfl,rfl,wa2⟩:=open_int Tryz.underlying3 (hval 2 3 v2 rfl rfl) h2
 have hb2:-9223372036854775808 <= a2/\a2 <= 9223372036854775807:=by simpa [Lit.wf,IntKind.min,IntKind.max,IntKind.signed,IntKind.bits] using wa2
 have hg:=wCj xs0 A0 k0 xs1 A1 k1 a2 W _ (St.start W) hS0 hS1 (wMZ xs0 xs1 a2 hb2.1 hb2.2)
 refine Calls.mono' hg fun e W' ⟨v,he,U',L',hst,hv,_⟩=>?_
 subst he;subst hv
 refine ⟨_,rfl,wKC (P:=Tryz.prog) hW' rfl wJn ?_ (t:=4) (by kernel_rfl) Tryz.underlying4 true rfl rfl rfl hst.kp0⟩
 rw [Tryz.params4]
 intro t ht
 simp only [List.mem_cons,List.not_mem_nil,or_false] at ht
 rcases ht with rfl | rfl | rfl
 ·exact ⟨by kernel_rfl,of_decide_eq_true (by kernel_rfl)⟩
 ·exact ⟨by kernel_rfl,of_decide_eq_true (by kernel_rfl)⟩
 ·exact ⟨by kernel_rfl,of_decide_eq_true (by kernel_rfl)⟩
theorem wMa:laidOutB Tryz.prog=true:=by kernel_rfl
theorem wMb:mapsRowed Tryz.prog=true:=by kernel_rfl
theorem wMc:(Tryz.prog.stops == [])=true:=by kernel_rfl
theorem wMd:(Tryz.prog.stopKnobs == [])=true:=by kernel_rfl
theorem wMe:(Rows.relayLossRow.inPlace == Tryz.prog.inPlace 4)=true:=by kernel_rfl
theorem wMf:(Rows.relayLossRow.unfollowed == Tryz.prog.unfollowed 4)=true:=by kernel_rfl
theorem wMg:(Rows.relayLossRow.recurses == Tryz.prog.recurses 4)=true:=by kernel_rfl
theorem wMh:(Rows.relayLossRow.named == Tryz.prog.varsNamed 4)=true:=by kernel_rfl
theorem wMi:(Rows.relayLossRow.plainKeys == Tryz.prog.plainKeys)=true:=by kernel_rfl
theorem wMj:Tryz.prog.stopsHeard=true:=by kernel_rfl
theorem wLi:Tryz.prog.mayEnter=true:=by kernel_rfl
theorem wLj:(Rows.relayLossRow.lifted == Tryz.prog.liftsFinal)=true:=by kernel_rfl
theorem wLk:wES Tryz.prog Tryz.f4 Rows.relayLossSpec Rows.relayLossRow=true:=by kernel_rfl
theorem wHc:joinedFacts Tryz.prog 4 Tryz.f4 Rows.relayLossSpec Rows.relayLossRow=true:=wKE wMa wMb wMc wMd wMe wMf wMg wMh wMi wMj wLi wLj wLk
theorem relay_loss:Rows.RelayLossSaid :=
 OpenClaim.holds_of_wide 4 Tryz.f4 rfl rfl rfl rfl rfl rfl rfl ⟨rfl,rfl,rfl,rfl,rfl⟩ rfl rfl rfl rfl rfl (by kernel_rfl) Tryz.func4 wHc
  (of_decide_eq_true (by kernel_rfl)) (by unfold Func.isWrapper;rw [if_neg (by decide +kernel)];exact ⟨rfl,rfl⟩)
  (fun os started H enc _=>wHb os started H enc)
#print axioms relay_loss
end Go.Proofs.YtkedcbligiebkaaGreat
