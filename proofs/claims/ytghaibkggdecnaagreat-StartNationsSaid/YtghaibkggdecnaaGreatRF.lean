import Derived.Test.YtghaibkggdecnaaGreatRows
import Derived.Test.YtghaibkggdecnaaGreatR0
import Derived.Test.YtghaibkggdecnaaGreatR9
import Derived.Test.YtghaibkggdecnaaGreatR4
set_option linter.all false
namespace Go.Proofs.YtghaibkggdecnaaGreat
open Go.KL
open Go.ChangeShapes Go.WideShapes Go.ChangeAt Go.RowKit
theorem wIk:ownKnob Tryz.prog.godebug=none:=by kernel_rfl
theorem wHy:laidOutB Tryz.prog=true:=by kernel_rfl
theorem wDh:Tryz.prog.cellsOf 62=3:=by kernel_rfl
theorem wHz {α:Type} {l:List α} (h:l.length=3):∃ c0 c1 c2,l=[c0,c1,c2] :=
 match l,h with
 | [c0,c1,c2],_=>⟨c0,c1,c2,rfl⟩
theorem wBu:Tryz.prog.cellsOf 3=1:=by kernel_rfl
theorem wIl {H:Type} {enc:TypeId × Value->H} {W:World} {n:Nat} {cs:List Value} {y:DataW H × List MemPlace} (h:DataW.trod enc Tryz.prog W 0 (fun _=>true) true n 62 cs=some y):∃ x,cs=wAE x/\True:=by
 obtain ⟨hl,k,hf⟩:=wIw Tryz.underlying62 h
 rw [wDh] at hl
 obtain ⟨c0,c1,c2,rfl⟩:=wHz hl
 have g0:∃ y,DataW.trod enc Tryz.prog W 0 (fun _=>true) true k 3 (([c0,c1,c2].drop 0).take (Tryz.prog.cellsOf 3))=some y:=hf 0 _ rfl
 rw [wBu] at g0
 obtain ⟨_,g0⟩:=g0
 obtain ⟨i1,e1,_,_⟩:=DataW.trod_int Tryz.underlying3 g0
 have g2:∃ y,DataW.trod enc Tryz.prog W 0 (fun _=>true) true k 3 (([c0,c1,c2].drop 1).take (Tryz.prog.cellsOf 3))=some y:=hf 1 _ rfl
 rw [wBu] at g2
 obtain ⟨_,g2⟩:=g2
 obtain ⟨i3,e3,_,_⟩:=DataW.trod_int Tryz.underlying3 g2
 have g4:∃ y,DataW.trod enc Tryz.prog W 0 (fun _=>true) true k 3 (([c0,c1,c2].drop 2).take (Tryz.prog.cellsOf 3))=some y:=hf 2 _ rfl
 rw [wBu] at g4
 obtain ⟨_,g4⟩:=g4
 obtain ⟨i5,e5,_,_⟩:=DataW.trod_int Tryz.underlying3 g4
 simp only [List.drop_zero,List.drop_succ_cons,List.take_succ_cons,List.take_zero,List.cons.injEq,and_true] at e1 e3 e5
 subst e1 e3 e5
 exact ⟨⟨i1,i3,i5⟩,rfl,trivial⟩
theorem wGd {H:Type} {enc:TypeId × Value->H} {W:World} {n:Nat} {cs:List Value} {y:DataW H × List MemPlace} (h:DataW.trod enc Tryz.prog W 0 (fun _=>true) true n 3 cs=some y):∃ x,cs=KL.encI x/\True:=by
 obtain ⟨x,e,_,_⟩:=DataW.trod_int Tryz.underlying3 h
 exact ⟨x,e,trivial⟩
set_option maxRecDepth 100000 in
theorem wGe (os:Os) (started:os.Started) (H:Type) (enc:TypeId × Value->H) :
  ReturnsInHanded {} Tryz.checked os 9 .any (Rows.startNationsSpec.pre6 enc Tryz.prog Tryz.f9 Rows.startNationsRow.domain false) (Rows.startNationsSpec.post enc Tryz.prog Tryz.f9 false true false false):=by
 refine returnsInHanded_of_change (C:=Tryz.checked) wIk started (by kernel_rfl) Tryz.func9
  (ChangeSpec.witness6 (enc:=enc) (C:=Tryz.checked) false ⟨#[],#[.slice none 0 0,.slice none 0 0,.slice none 0 0,.int .i64 0],[]⟩ 8 (by kernel_rfl) (by kernel_rfl) (by kernel_rfl) (by kernel_rfl)) ?_
 intro W base args ds gs before hval0 hW hcnd _
 have hval:∀ (j:Nat) t v,Tryz.f9.params[j]?=some t->args[j]?=some v->Value.okWide Tryz.prog W .any base t v:=hval0
 have hW':=hW
 obtain ⟨p,q,hA0,hV,rfl,hfz,hnd⟩:=hW
 have hA:DataW.TrodAll enc Tryz.prog W 0 (fun _=>true) true Tryz.f9.params.toList args.toList ds p:=hA0
 rw [Tryz.params9] at hA hval
 obtain ⟨v0,v1,v2,v3,d0,d1,d2,d3,p0,p1,p2,p3,rfl,rfl,rfl,h0,h1,h2,h3⟩:=trodAll_four hA
 obtain ⟨rfl,rfl⟩:=trodVars_none hV
 obtain ⟨A0,k0,xs0,rfl,hS0,_⟩:=wFx (f:=wAE) (sz:=3) (by decide) (fun _=>rfl) Tryz.underlying58 wDh (fun _=>True) (fun _ _ _=>wIl) h0 (okWide_slice Tryz.underlying58 (hval 0 58 v0 rfl rfl))
 obtain ⟨A1,k1,xs1,rfl,hS1,_⟩:=wFx (f:=KL.encI) (sz:=1) (by decide) (fun _=>rfl) Tryz.underlying31 wBu (fun _=>True) (fun _ _ _=>wGd) h1 (okWide_slice Tryz.underlying31 (hval 1 31 v1 rfl rfl))
 obtain ⟨A2,k2,xs2,rfl,hS2,_⟩:=wFx (f:=KL.encI) (sz:=1) (by decide) (fun _=>rfl) Tryz.underlying31 wBu (fun _=>True) (fun _ _ _=>wGd) h2 (okWide_slice Tryz.underlying31 (hval 2 31 v2 rfl rfl))
 obtain ⟨a3,rfl,rfl,rfl,wa3⟩:=open_int Tryz.underlying3 (hval 3 3 v3 rfl rfl) h3
 have hb3:-9223372036854775808 <= a3/\a3 <= 9223372036854775807:=by simpa [Lit.wf,IntKind.min,IntKind.max,IntKind.signed,IntKind.bits] using wa3
 have hg:=wCz xs0 A0 k0 xs1 A1 k1 xs2 A2 k2 a3 W _ (St.start W) hS0 hS1 hS2 (wJg xs0 xs1 xs2 a3 hb3.1 hb3.2)
 refine Calls.mono' hg fun e W' ⟨v,he,U',L',hst,hv,_⟩=>?_
 subst he;subst hv
 refine ⟨_,rfl,wLY (P:=Tryz.prog) hW' rfl wHy ?_ (t:=4) (by kernel_rfl) Tryz.underlying4 true rfl rfl rfl hst.kp0⟩
 rw [Tryz.params9]
 intro t ht
 simp only [List.mem_cons,List.not_mem_nil,or_false] at ht
 rcases ht with rfl | rfl | rfl | rfl
 ·exact ⟨by kernel_rfl,of_decide_eq_true (by kernel_rfl)⟩
 ·exact ⟨by kernel_rfl,of_decide_eq_true (by kernel_rfl)⟩
 ·exact ⟨by kernel_rfl,of_decide_eq_true (by kernel_rfl)⟩
 ·exact ⟨by kernel_rfl,of_decide_eq_true (by kernel_rfl)⟩
theorem wJh:laidOutB Tryz.prog=true:=by kernel_rfl
theorem wJi:mapsRowed Tryz.prog=true:=by kernel_rfl
theorem wJj:(Tryz.prog.stops == [])=true:=by kernel_rfl
theorem wJk:(Tryz.prog.stopKnobs == [])=true:=by kernel_rfl
theorem wJl:(Rows.startNationsRow.inPlace == Tryz.prog.inPlace 9)=true:=by kernel_rfl
theorem wJm:(Rows.startNationsRow.unfollowed == Tryz.prog.unfollowed 9)=true:=by kernel_rfl
theorem wJn:(Rows.startNationsRow.recurses == Tryz.prog.recurses 9)=true:=by kernel_rfl
theorem wJo:(Rows.startNationsRow.named == Tryz.prog.varsNamed 9)=true:=by kernel_rfl
theorem wJp:(Rows.startNationsRow.plainKeys == Tryz.prog.plainKeys)=true:=by kernel_rfl
theorem wJq:Tryz.prog.stopsHeard=true:=by kernel_rfl
theorem wIm:Tryz.prog.mayEnter=true:=by kernel_rfl
theorem wIn:(Rows.startNationsRow.lifted == Tryz.prog.liftsFinal)=true:=by kernel_rfl
theorem wIo:wFG Tryz.prog Tryz.f9 Rows.startNationsSpec Rows.startNationsRow=true:=by kernel_rfl
theorem wGf:joinedFacts Tryz.prog 9 Tryz.f9 Rows.startNationsSpec Rows.startNationsRow=true:=wLa wJh wJi wJj wJk wJl wJm wJn wJo wJp wJq wIm wIn wIo
theorem start_nations:Rows.StartNationsSaid :=
 OpenClaim.holds_of_wide 9 Tryz.f9 rfl rfl rfl rfl rfl rfl rfl ⟨rfl,rfl,rfl,rfl,rfl⟩ rfl rfl rfl rfl rfl (by kernel_rfl) Tryz.func9 wGf
  (of_decide_eq_true (by kernel_rfl)) (by unfold Func.isWrapper;rw [if_neg (by decide +kernel)];exact ⟨rfl,rfl⟩)
  (fun os started H enc _=>wGe os started H enc)
#print axioms start_nations
end Go.Proofs.YtghaibkggdecnaaGreat
