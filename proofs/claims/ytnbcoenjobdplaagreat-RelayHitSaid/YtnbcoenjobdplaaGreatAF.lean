import Derived.Test.YtnbcoenjobdplaaGreatRows
import Derived.Test.YtnbcoenjobdplaaGreatA0
import Derived.Test.YtnbcoenjobdplaaGreatA6
import Derived.Test.YtnbcoenjobdplaaGreatA2
set_option linter.all false
namespace Go.Proofs.YtnbcoenjobdplaaGreat
open Go.KL
open Go.ChangeShapes Go.WideShapes Go.ChangeAt Go.RowKit
theorem wNi:ownKnob Tryz.prog.godebug=none:=by kernel_rfl
theorem wMo:laidOutB Tryz.prog=true:=by kernel_rfl
theorem wPa {H:Type} {enc:TypeId × Value->H} {W:World} {n:Nat} {cs:List Value} {y:DataW H × List MemPlace} (h:DataW.trod enc Tryz.prog W 0 (fun _=>true) true n 5 cs=some y):∃ x,cs=KL.encB8 x/\True:=by
 obtain ⟨x,e,_,_⟩:=DataW.trod_int Tryz.underlying5 h
 exact ⟨x,e,trivial⟩
theorem wJR:Tryz.prog.cellsOf 5=1:=by kernel_rfl
set_option maxRecDepth 100000 in
theorem wJS (os:Os) (started:os.Started) (H:Type) (enc:TypeId × Value->H) :
  ReturnsInHanded {} Tryz.checked os 3 .any (Rows.relayHitSpec.pre6 enc Tryz.prog Tryz.f3 Rows.relayHitRow.domain false) (Rows.relayHitSpec.post enc Tryz.prog Tryz.f3 false true false false):=by
 refine returnsInHanded_of_change (C:=Tryz.checked) wNi started (by kernel_rfl) Tryz.func3
  (ChangeSpec.witness6 (enc:=enc) (C:=Tryz.checked) false ⟨#[],#[.slice none 0 0,.int .i64 0,.int .i64 0],[]⟩ 8 (by kernel_rfl) (by kernel_rfl) (by kernel_rfl) (by kernel_rfl)) ?_
 intro W base args ds gs before hval0 hW hcnd _
 have hval:∀ (j:Nat) t v,Tryz.f3.params[j]?=some t->args[j]?=some v->Value.okWide Tryz.prog W .any base t v:=hval0
 have hW':=hW
 obtain ⟨p,q,hA0,hV,rfl,hfz,hnd⟩:=hW
 have hA:DataW.TrodAll enc Tryz.prog W 0 (fun _=>true) true Tryz.f3.params.toList args.toList ds p:=hA0
 rw [Tryz.params3] at hA hval
 obtain ⟨v0,v1,v2,d0,d1,d2,p0,p1,p2,rfl,rfl,rfl,h0,h1,h2⟩:=trodAll_three hA
 obtain ⟨rfl,rfl⟩:=trodVars_none hV
 obtain ⟨A0,k0,xs0,rfl,hS0,_⟩:=wLD (f:=KL.encB8) (sz:=1) (by decide) (fun _=>rfl) Tryz.underlying22 wJR (fun _=>True) (fun _ _ _=>wPa) h0 (okWide_slice Tryz.underlying22 (hval 0 22 v0 rfl rfl))
 obtain ⟨a1,rfl,rfl,rfl,wa1⟩:=open_int Tryz.underlying3 (hval 1 3 v1 rfl rfl) h1
 have hb1:-9223372036854775808 <= a1/\a1 <= 9223372036854775807:=by simpa [Lit.wf,IntKind.min,IntKind.max,IntKind.signed,IntKind.bits] using wa1
 obtain ⟨a2,rfl,rfl,rfl,wa2⟩:=open_int Tryz.underlying3 (hval 2 3 v2 rfl rfl) h2
 have hb2:-9223372036854775808 <= a2/\a2 <= 9223372036854775807:=by simpa [Lit.wf,IntKind.min,IntKind.max,IntKind.signed,IntKind.bits] using wa2
 have hg:=wDT xs0 A0 k0 a1 a2 W _ (St.start W) hS0 (wPZ xs0 a1 a2 hb1.1 hb1.2 hb2.1 hb2.2)
 refine Calls.mono' hg fun e W' ⟨v,he,U',L',hst,hv,_⟩=>?_
 subst he;subst hv
 refine ⟨_,rfl,wLB (P:=Tryz.prog) hW' rfl wMo ?_ (t:=4) (by kernel_rfl) Tryz.underlying4 true rfl rfl rfl hst.kp0⟩
 rw [Tryz.params3]
 intro t ht
 simp only [List.mem_cons,List.not_mem_nil,or_false] at ht
 rcases ht with rfl | rfl | rfl
 ·exact ⟨by kernel_rfl,of_decide_eq_true (by kernel_rfl)⟩
 ·exact ⟨by kernel_rfl,of_decide_eq_true (by kernel_rfl)⟩
 ·exact ⟨by kernel_rfl,of_decide_eq_true (by kernel_rfl)⟩
theorem wPb:laidOutB Tryz.prog=true:=by kernel_rfl
theorem wPc:mapsRowed Tryz.prog=true:=by kernel_rfl
theorem wPd:(Tryz.prog.stops == [])=true:=by kernel_rfl
theorem wPe:(Tryz.prog.stopKnobs == [])=true:=by kernel_rfl
theorem wPf:(Rows.relayHitRow.inPlace == Tryz.prog.inPlace 3)=true:=by kernel_rfl
theorem wPg:(Rows.relayHitRow.unfollowed == Tryz.prog.unfollowed 3)=true:=by kernel_rfl
theorem wPh:(Rows.relayHitRow.recurses == Tryz.prog.recurses 3)=true:=by kernel_rfl
theorem wPi:(Rows.relayHitRow.named == Tryz.prog.varsNamed 3)=true:=by kernel_rfl
theorem wPj:(Rows.relayHitRow.plainKeys == Tryz.prog.plainKeys)=true:=by kernel_rfl
theorem wPk:Tryz.prog.stopsHeard=true:=by kernel_rfl
theorem wNj:Tryz.prog.mayEnter=true:=by kernel_rfl
theorem wNk:(Rows.relayHitRow.lifted == Tryz.prog.liftsFinal)=true:=by kernel_rfl
theorem wNl:wEu Tryz.prog Tryz.f3 Rows.relayHitSpec Rows.relayHitRow=true:=by kernel_rfl
theorem wJT:joinedFacts Tryz.prog 3 Tryz.f3 Rows.relayHitSpec Rows.relayHitRow=true:=wLE wPb wPc wPd wPe wPf wPg wPh wPi wPj wPk wNj wNk wNl
theorem relay_hit:Rows.RelayHitSaid :=
 OpenClaim.holds_of_wide 3 Tryz.f3 rfl rfl rfl rfl rfl rfl rfl ⟨rfl,rfl,rfl,rfl,rfl⟩ rfl rfl rfl rfl rfl (by kernel_rfl) Tryz.func3 wJT
  (of_decide_eq_true (by kernel_rfl)) (by unfold Func.isWrapper;rw [if_neg (by decide +kernel)];exact ⟨rfl,rfl⟩)
  (fun os started H enc _=>wJS os started H enc)
#print axioms relay_hit
end Go.Proofs.YtnbcoenjobdplaaGreat
