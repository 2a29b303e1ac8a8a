import Derived.Test.YtghaibkggdecnaaGreatRows
import Derived.Test.YtghaibkggdecnaaGreatU0
import Derived.Test.YtghaibkggdecnaaGreatU6
import Derived.Test.YtghaibkggdecnaaGreatU2
set_option linter.all false
namespace Go.Proofs.YtghaibkggdecnaaGreat
open Go.KL
open Go.ChangeShapes Go.WideShapes Go.ChangeAt Go.RowKit
theorem wJf:ownKnob Tryz.prog.godebug=none:=by kernel_rfl
theorem wIQ:laidOutB Tryz.prog=true:=by kernel_rfl
theorem wHW {H:Type} {enc:TypeId × Value->H} {W:World} {n:Nat} {cs:List Value} {y:DataW H × List MemPlace} (h:DataW.trod enc Tryz.prog W 0 (fun _=>true) true n 5 cs=some y):∃ x,cs=KL.encB8 x/\True:=by
 obtain ⟨x,e,_,_⟩:=DataW.trod_int Tryz.underlying5 h
 exact ⟨x,e,trivial⟩
theorem wEE:Tryz.prog.cellsOf 5=1:=by kernel_rfl
set_option maxRecDepth 100000 in
theorem wGr (os:Os) (started:os.Started) (H:Type) (enc:TypeId × Value->H) :
  ReturnsInHanded {} Tryz.checked os 8 .any (Rows.startDrawnSpec.pre6 enc Tryz.prog Tryz.f8 Rows.startDrawnRow.domain false) (Rows.startDrawnSpec.post enc Tryz.prog Tryz.f8 false true false false):=by
 refine returnsInHanded_of_change (C:=Tryz.checked) wJf started (by kernel_rfl) Tryz.func8
  (ChangeSpec.witness6 (enc:=enc) (C:=Tryz.checked) false ⟨#[],#[.slice none 0 0,.slice none 0 0,.int .u8 0],[]⟩ 8 (by kernel_rfl) (by kernel_rfl) (by kernel_rfl) (by kernel_rfl)) ?_
 intro W base args ds gs before hval0 hW hcnd _
 have hval:∀ (j:Nat) t v,Tryz.f8.params[j]?=some t->args[j]?=some v->Value.okWide Tryz.prog W .any base t v:=hval0
 have hW':=hW
 obtain ⟨p,q,hA0,hV,rfl,hfz,hnd⟩:=hW
 have hA:DataW.TrodAll enc Tryz.prog W 0 (fun _=>true) true Tryz.f8.params.toList args.toList ds p:=hA0
 rw [Tryz.params8] at hA hval
 obtain ⟨v0,v1,v2,d0,d1,d2,p0,p1,p2,rfl,rfl,rfl,h0,h1,h2⟩:=trodAll_three hA
 obtain ⟨rfl,rfl⟩:=trodVars_none hV
 obtain ⟨A0,k0,xs0,rfl,hS0,_⟩:=wHB (f:=KL.encB8) (sz:=1) (by decide) (fun _=>rfl) Tryz.underlying46 wEE (fun _=>True) (fun _ _ _=>wHW) h0 (okWide_slice Tryz.underlying46 (hval 0 46 v0 rfl rfl))
 obtain ⟨A1,k1,xs1,rfl,hS1,_⟩:=wHB (f:=KL.encB8) (sz:=1) (by decide) (fun _=>rfl) Tryz.underlying46 wEE (fun _=>True) (fun _ _ _=>wHW) h1 (okWide_slice Tryz.underlying46 (hval 1 46 v1 rfl rfl))
 obtain ⟨a2,rfl,rfl,rfl,wa2⟩:=open_int Tryz.underlying5 (hval 2 5 v2 rfl rfl) h2
 have hb2:0 <= a2/\a2 <= 255:=by simpa [Lit.wf,IntKind.min,IntKind.max,IntKind.signed,IntKind.bits] using wa2
 have hg:=wCQ xs0 A0 k0 xs1 A1 k1 a2 W _ (St.start W) hS0 hS1 (wLr xs0 xs1 a2 hb2.1 hb2.2)
 refine Calls.mono' hg fun e W' ⟨v,he,U',L',hst,hv,_⟩=>?_
 subst he;subst hv
 refine ⟨_,rfl,wJu (P:=Tryz.prog) hW' rfl wIQ ?_ (t:=4) (by kernel_rfl) Tryz.underlying4 true rfl rfl rfl hst.kp0⟩
 rw [Tryz.params8]
 intro t ht
 simp only [List.mem_cons,List.not_mem_nil,or_false] at ht
 rcases ht with rfl | rfl | rfl
 ·exact ⟨by kernel_rfl,of_decide_eq_true (by kernel_rfl)⟩
 ·exact ⟨by kernel_rfl,of_decide_eq_true (by kernel_rfl)⟩
 ·exact ⟨by kernel_rfl,of_decide_eq_true (by kernel_rfl)⟩
theorem wLs:laidOutB Tryz.prog=true:=by kernel_rfl
theorem wLt:mapsRowed Tryz.prog=true:=by kernel_rfl
theorem wLu:(Tryz.prog.stops == [])=true:=by kernel_rfl
theorem wLv:(Tryz.prog.stopKnobs == [])=true:=by kernel_rfl
theorem wLw:(Rows.startDrawnRow.inPlace == Tryz.prog.inPlace 8)=true:=by kernel_rfl
theorem wLx:(Rows.startDrawnRow.unfollowed == Tryz.prog.unfollowed 8)=true:=by kernel_rfl
theorem wLy:(Rows.startDrawnRow.recurses == Tryz.prog.recurses 8)=true:=by kernel_rfl
theorem wLz:(Rows.startDrawnRow.named == Tryz.prog.varsNamed 8)=true:=by kernel_rfl
theorem wMA:(Rows.startDrawnRow.plainKeys == Tryz.prog.plainKeys)=true:=by kernel_rfl
theorem wMB:Tryz.prog.stopsHeard=true:=by kernel_rfl
theorem wJg:Tryz.prog.mayEnter=true:=by kernel_rfl
theorem wJh:(Rows.startDrawnRow.lifted == Tryz.prog.liftsFinal)=true:=by kernel_rfl
theorem wJi:wEJ Tryz.prog Tryz.f8 Rows.startDrawnSpec Rows.startDrawnRow=true:=by kernel_rfl
theorem wGs:joinedFacts Tryz.prog 8 Tryz.f8 Rows.startDrawnSpec Rows.startDrawnRow=true:=wJw wLs wLt wLu wLv wLw wLx wLy wLz wMA wMB wJg wJh wJi
theorem start_drawn:Rows.StartDrawnSaid :=
 OpenClaim.holds_of_wide 8 Tryz.f8 rfl rfl rfl rfl rfl rfl rfl ⟨rfl,rfl,rfl,rfl,rfl⟩ rfl rfl rfl rfl rfl (by kernel_rfl) Tryz.func8 wGs
  (of_decide_eq_true (by kernel_rfl)) (by unfold Func.isWrapper;rw [if_neg (by decide +kernel)];exact ⟨rfl,rfl⟩)
  (fun os started H enc _=>wGr os started H enc)
#print axioms start_drawn
end Go.Proofs.YtghaibkggdecnaaGreat
