import Derived.Test.YtghaibkggdecnaaGreatRows
import Derived.Test.YtghaibkggdecnaaGreatV0
import Derived.Test.YtghaibkggdecnaaGreatV5
import Derived.Test.YtghaibkggdecnaaGreatV2
set_option linter.all false
namespace Go.Proofs.YtghaibkggdecnaaGreat
open Go.KL
open Go.ChangeShapes Go.WideShapes Go.ChangeAt Go.RowKit
theorem wGk:ownKnob Tryz.prog.godebug=none:=by kernel_rfl
theorem wFr:laidOutB Tryz.prog=true:=by kernel_rfl
theorem wHT {H:Type} {enc:TypeId × Value->H} {W:World} {n:Nat} {cs:List Value} {y:DataW H × List MemPlace} (h:DataW.trod enc Tryz.prog W 0 (fun _=>true) true n 5 cs=some y):∃ x,cs=KL.encB8 x/\True:=by
 obtain ⟨x,e,_,_⟩:=DataW.trod_int Tryz.underlying5 h
 exact ⟨x,e,trivial⟩
theorem wEe:Tryz.prog.cellsOf 5=1:=by kernel_rfl
set_option maxRecDepth 100000 in
theorem wEf (os:Os) (started:os.Started) (H:Type) (enc:TypeId × Value->H) :
  ReturnsInHanded {} Tryz.checked os 4 .any (Rows.startDeficitsSpec.pre6 enc Tryz.prog Tryz.f4 Rows.startDeficitsRow.domain false) (Rows.startDeficitsSpec.post enc Tryz.prog Tryz.f4 false true false false):=by
 refine returnsInHanded_of_change (C:=Tryz.checked) wGk started (by kernel_rfl) Tryz.func4
  (ChangeSpec.witness6 (enc:=enc) (C:=Tryz.checked) false ⟨#[],#[.slice none 0 0,.int .i64 0,.int .i64 0,.int .i64 0],[]⟩ 8 (by kernel_rfl) (by kernel_rfl) (by kernel_rfl) (by kernel_rfl)) ?_
 intro W base args ds gs before hval0 hW hcnd _
 have hval:∀ (j:Nat) t v,Tryz.f4.params[j]?=some t->args[j]?=some v->Value.okWide Tryz.prog W .any base t v:=hval0
 have hW':=hW
 obtain ⟨p,q,hA0,hV,rfl,hfz,hnd⟩:=hW
 have hA:DataW.TrodAll enc Tryz.prog W 0 (fun _=>true) true Tryz.f4.params.toList args.toList ds p:=hA0
 rw [Tryz.params4] at hA hval
 obtain ⟨v0,v1,v2,v3,d0,d1,d2,d3,p0,p1,p2,p3,rfl,rfl,rfl,h0,h1,h2,h3⟩:=trodAll_four hA
 obtain ⟨rfl,rfl⟩:=trodVars_none hV
 obtain ⟨A0,k0,xs0,rfl,hS0,_⟩:=wJu (f:=KL.encB8) (sz:=1) (by decide) (fun _=>rfl) Tryz.underlying46 wEe (fun _=>True) (fun _ _ _=>wHT) h0 (okWide_slice Tryz.underlying46 (hval 0 46 v0 rfl rfl))
 obtain ⟨a1,rfl,rfl,rfl,wa1⟩:=open_int Tryz.underlying3 (hval 1 3 v1 rfl rfl) h1
 have hb1:-9223372036854775808 <= a1/\a1 <= 9223372036854775807:=by simpa [Lit.wf,IntKind.min,IntKind.max,IntKind.signed,IntKind.bits] using wa1
 obtain ⟨a2,rfl,rfl,rfl,wa2⟩:=open_int Tryz.underlying3 (hval 2 3 v2 rfl rfl) h2
 have hb2:-9223372036854775808 <= a2/\a2 <= 9223372036854775807:=by simpa [Lit.wf,IntKind.min,IntKind.max,IntKind.signed,IntKind.bits] using wa2
 obtain ⟨a3,rfl,rfl,rfl,wa3⟩:=open_int Tryz.underlying3 (hval 3 3 v3 rfl rfl) h3
 have hb3:-9223372036854775808 <= a3/\a3 <= 9223372036854775807:=by simpa [Lit.wf,IntKind.min,IntKind.max,IntKind.signed,IntKind.bits] using wa3
 have hg:=wCL xs0 A0 k0 a1 a2 a3 W _ (St.start W) hS0 (wHS xs0 a1 a2 a3 hb1.1 hb1.2 hb2.1 hb2.2 hb3.1 hb3.2)
 refine Calls.mono' hg fun e W' ⟨v,he,U',L',hst,hv,_⟩=>?_
 subst he;subst hv
 refine ⟨_,rfl,wJs (P:=Tryz.prog) hW' rfl wFr ?_ (t:=4) (by kernel_rfl) Tryz.underlying4 true rfl rfl rfl hst.kp0⟩
 rw [Tryz.params4]
 intro t ht
 simp only [List.mem_cons,List.not_mem_nil,or_false] at ht
 rcases ht with rfl | rfl | rfl | rfl
 ·exact ⟨by kernel_rfl,of_decide_eq_true (by kernel_rfl)⟩
 ·exact ⟨by kernel_rfl,of_decide_eq_true (by kernel_rfl)⟩
 ·exact ⟨by kernel_rfl,of_decide_eq_true (by kernel_rfl)⟩
 ·exact ⟨by kernel_rfl,of_decide_eq_true (by kernel_rfl)⟩
theorem wHU:laidOutB Tryz.prog=true:=by kernel_rfl
theorem wHV:mapsRowed Tryz.prog=true:=by kernel_rfl
theorem wHW:(Tryz.prog.stops == [])=true:=by kernel_rfl
theorem wHX:(Tryz.prog.stopKnobs == [])=true:=by kernel_rfl
theorem wHY:(Rows.startDeficitsRow.inPlace == Tryz.prog.inPlace 4)=true:=by kernel_rfl
theorem wHZ:(Rows.startDeficitsRow.unfollowed == Tryz.prog.unfollowed 4)=true:=by kernel_rfl
theorem wHa:(Rows.startDeficitsRow.recurses == Tryz.prog.recurses 4)=true:=by kernel_rfl
theorem wHb:(Rows.startDeficitsRow.named == Tryz.prog.varsNamed 4)=true:=by kernel_rfl
theorem wHc:(Rows.startDeficitsRow.plainKeys == Tryz.prog.plainKeys)=true:=by kernel_rfl
theorem wHd:Tryz.prog.stopsHeard=true:=by kernel_rfl
theorem wGl:Tryz.prog.mayEnter=true:=by kernel_rfl
theorem wGm:(Rows.startDeficitsRow.lifted == Tryz.prog.liftsFinal)=true:=by kernel_rfl
theorem wGn:wEM Tryz.prog Tryz.f4 Rows.startDeficitsSpec Rows.startDeficitsRow=true:=by kernel_rfl
theorem wEg:joinedFacts Tryz.prog 4 Tryz.f4 Rows.startDeficitsSpec Rows.startDeficitsRow=true:=wJv wHU wHV wHW wHX wHY wHZ wHa wHb wHc wHd wGl wGm wGn
theorem start_deficits:Rows.StartDeficitsSaid :=
 OpenClaim.holds_of_wide 4 Tryz.f4 rfl rfl rfl rfl rfl rfl rfl ⟨rfl,rfl,rfl,rfl,rfl⟩ rfl rfl rfl rfl rfl (by kernel_rfl) Tryz.func4 wEg
  (of_decide_eq_true (by kernel_rfl)) (by unfold Func.isWrapper;rw [if_neg (by decide +kernel)];exact ⟨rfl,rfl⟩)
  (fun os started H enc _=>wEf os started H enc)
#print axioms start_deficits
end Go.Proofs.YtghaibkggdecnaaGreat
