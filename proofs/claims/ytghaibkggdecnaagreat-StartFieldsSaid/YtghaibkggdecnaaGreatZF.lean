import Derived.Test.YtghaibkggdecnaaGreatRows
import Derived.Test.YtghaibkggdecnaaGreatZ0
import Derived.Test.YtghaibkggdecnaaGreatZ6
import Derived.Test.YtghaibkggdecnaaGreatZ2
set_option linter.all false
namespace Go.Proofs.YtghaibkggdecnaaGreat
open Go.KL
open Go.ChangeShapes Go.WideShapes Go.ChangeAt Go.RowKit
theorem wIN:ownKnob Tryz.prog.godebug=none:=by kernel_rfl
theorem wHT:laidOutB Tryz.prog=true:=by kernel_rfl
theorem wDG:Tryz.prog.cellsOf 62=3:=by kernel_rfl
theorem wHU {α:Type} {l:List α} (h:l.length=3):∃ c0 c1 c2,l=[c0,c1,c2] :=
 match l,h with
 | [c0,c1,c2],_=>⟨c0,c1,c2,rfl⟩
theorem wBV:Tryz.prog.cellsOf 3=1:=by kernel_rfl
theorem wIO {H:Type} {enc:TypeId × Value->H} {W:World} {n:Nat} {cs:List Value} {y:DataW H × List MemPlace} (h:DataW.trod enc Tryz.prog W 0 (fun _=>true) true n 62 cs=some y):∃ x,cs=wAC x/\True:=by
 obtain ⟨hl,k,hf⟩:=wHb Tryz.underlying62 h
 rw [wDG] at hl
 obtain ⟨c0,c1,c2,rfl⟩:=wHU hl
 have g0:∃ y,DataW.trod enc Tryz.prog W 0 (fun _=>true) true k 3 (([c0,c1,c2].drop 0).take (Tryz.prog.cellsOf 3))=some y:=hf 0 _ rfl
 rw [wBV] at g0
 obtain ⟨_,g0⟩:=g0
 obtain ⟨i1,e1,_,_⟩:=DataW.trod_int Tryz.underlying3 g0
 have g2:∃ y,DataW.trod enc Tryz.prog W 0 (fun _=>true) true k 3 (([c0,c1,c2].drop 1).take (Tryz.prog.cellsOf 3))=some y:=hf 1 _ rfl
 rw [wBV] at g2
 obtain ⟨_,g2⟩:=g2
 obtain ⟨i3,e3,_,_⟩:=DataW.trod_int Tryz.underlying3 g2
 have g4:∃ y,DataW.trod enc Tryz.prog W 0 (fun _=>true) true k 3 (([c0,c1,c2].drop 2).take (Tryz.prog.cellsOf 3))=some y:=hf 2 _ rfl
 rw [wBV] at g4
 obtain ⟨_,g4⟩:=g4
 obtain ⟨i5,e5,_,_⟩:=DataW.trod_int Tryz.underlying3 g4
 simp only [List.drop_zero,List.drop_succ_cons,List.take_succ_cons,List.take_zero,List.cons.injEq,and_true] at e1 e3 e5
 subst e1 e3 e5
 exact ⟨⟨i1,i3,i5⟩,rfl,trivial⟩
theorem wGJ {H:Type} {enc:TypeId × Value->H} {W:World} {n:Nat} {cs:List Value} {y:DataW H × List MemPlace} (h:DataW.trod enc Tryz.prog W 0 (fun _=>true) true n 3 cs=some y):∃ x,cs=KL.encI x/\True:=by
 obtain ⟨x,e,_,_⟩:=DataW.trod_int Tryz.underlying3 h
 exact ⟨x,e,trivial⟩
set_option maxRecDepth 100000 in
theorem wFo (os:Os) (started:os.Started) (H:Type) (enc:TypeId × Value->H) :
  ReturnsInHanded {} Tryz.checked os 6 .any (Rows.startFieldsSpec.pre6 enc Tryz.prog Tryz.f6 Rows.startFieldsRow.domain false) (Rows.startFieldsSpec.post enc Tryz.prog Tryz.f6 false true false false):=by
 refine returnsInHanded_of_change (C:=Tryz.checked) wIN started (by kernel_rfl) Tryz.func6
  (ChangeSpec.witness6 (enc:=enc) (C:=Tryz.checked) false ⟨#[],#[.slice none 0 0,.slice none 0 0,.slice none 0 0],[]⟩ 8 (by kernel_rfl) (by kernel_rfl) (by kernel_rfl) (by kernel_rfl)) ?_
 intro W base args ds gs before hval0 hW hcnd _
 have hval:∀ (j:Nat) t v,Tryz.f6.params[j]?=some t->args[j]?=some v->Value.okWide Tryz.prog W .any base t v:=hval0
 have hW':=hW
 obtain ⟨p,q,hA0,hV,rfl,hfz,hnd⟩:=hW
 have hA:DataW.TrodAll enc Tryz.prog W 0 (fun _=>true) true Tryz.f6.params.toList args.toList ds p:=hA0
 rw [Tryz.params6] at hA hval
 obtain ⟨v0,v1,v2,d0,d1,d2,p0,p1,p2,rfl,rfl,rfl,h0,h1,h2⟩:=trodAll_three hA
 obtain ⟨rfl,rfl⟩:=trodVars_none hV
 obtain ⟨A0,k0,xs0,rfl,hS0,_⟩:=wEw (f:=wAC) (sz:=3) (by decide) (fun _=>rfl) Tryz.underlying58 wDG (fun _=>True) (fun _ _ _=>wIO) h0 (okWide_slice Tryz.underlying58 (hval 0 58 v0 rfl rfl))
 obtain ⟨A1,k1,xs1,rfl,hS1,_⟩:=wEw (f:=KL.encI) (sz:=1) (by decide) (fun _=>rfl) Tryz.underlying31 wBV (fun _=>True) (fun _ _ _=>wGJ) h1 (okWide_slice Tryz.underlying31 (hval 1 31 v1 rfl rfl))
 obtain ⟨A2,k2,xs2,rfl,hS2,_⟩:=wEw (f:=KL.encI) (sz:=1) (by decide) (fun _=>rfl) Tryz.underlying31 wBV (fun _=>True) (fun _ _ _=>wGJ) h2 (okWide_slice Tryz.underlying31 (hval 2 31 v2 rfl rfl))
 have hg:=wCN xs0 A0 k0 xs1 A1 k1 xs2 A2 k2 W _ (St.start W) hS0 hS1 hS2 (wJe xs0 xs1 xs2)
 refine Calls.mono' hg fun e W' ⟨v,he,U',L',hst,hv,_⟩=>?_
 subst he;subst hv
 refine ⟨_,rfl,wKE (P:=Tryz.prog) hW' rfl wHT ?_ (t:=4) (by kernel_rfl) Tryz.underlying4 true rfl rfl rfl hst.kp0⟩
 rw [Tryz.params6]
 intro t ht
 simp only [List.mem_cons,List.not_mem_nil,or_false] at ht
 rcases ht with rfl | rfl | rfl
 ·exact ⟨by kernel_rfl,of_decide_eq_true (by kernel_rfl)⟩
 ·exact ⟨by kernel_rfl,of_decide_eq_true (by kernel_rfl)⟩
 ·exact ⟨by kernel_rfl,of_decide_eq_true (by kernel_rfl)⟩
theorem wJf:laidOutB Tryz.prog=true:=by kernel_rfl
theorem wJg:mapsRowed Tryz.prog=true:=by kernel_rfl
theorem wJh:(Tryz.prog.stops == [])=true:=by kernel_rfl
theorem wJi:(Tryz.prog.stopKnobs == [])=true:=by kernel_rfl
theorem wJj:(Rows.startFieldsRow.inPlace == Tryz.prog.inPlace 6)=true:=by kernel_rfl
theorem wJk:(Rows.startFieldsRow.unfollowed == Tryz.prog.unfollowed 6)=true:=by kernel_rfl
theorem wJl:(Rows.startFieldsRow.recurses == Tryz.prog.recurses 6)=true:=by kernel_rfl
theorem wJm:(Rows.startFieldsRow.named == Tryz.prog.varsNamed 6)=true:=by kernel_rfl
theorem wJn:(Rows.startFieldsRow.plainKeys == Tryz.prog.plainKeys)=true:=by kernel_rfl
theorem wJo:Tryz.prog.stopsHeard=true:=by kernel_rfl
theorem wIP:Tryz.prog.mayEnter=true:=by kernel_rfl
theorem wIQ:(Rows.startFieldsRow.lifted == Tryz.prog.liftsFinal)=true:=by kernel_rfl
theorem wIR:wEC Tryz.prog Tryz.f6 Rows.startFieldsSpec Rows.startFieldsRow=true:=by kernel_rfl
theorem wFp:joinedFacts Tryz.prog 6 Tryz.f6 Rows.startFieldsSpec Rows.startFieldsRow=true:=wKG wJf wJg wJh wJi wJj wJk wJl wJm wJn wJo wIP wIQ wIR
theorem start_fields:Rows.StartFieldsSaid :=
 OpenClaim.holds_of_wide 6 Tryz.f6 rfl rfl rfl rfl rfl rfl rfl ⟨rfl,rfl,rfl,rfl,rfl⟩ rfl rfl rfl rfl rfl (by kernel_rfl) Tryz.func6 wFp
  (of_decide_eq_true (by kernel_rfl)) (by unfold Func.isWrapper;rw [if_neg (by decide +kernel)];exact ⟨rfl,rfl⟩)
  (fun os started H enc _=>wFo os started H enc)
#print axioms start_fields
end Go.Proofs.YtghaibkggdecnaaGreat
