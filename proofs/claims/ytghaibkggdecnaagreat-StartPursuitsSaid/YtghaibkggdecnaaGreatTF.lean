import Derived.Test.YtghaibkggdecnaaGreatRows
import Derived.Test.YtghaibkggdecnaaGreatT0
import Derived.Test.YtghaibkggdecnaaGreatT5
import Derived.Test.YtghaibkggdecnaaGreatT2
set_option linter.all false
open List renaming drop_succ_cons->hH,take_succ_cons->nA
open List.cons renaming injEq->nB
namespace Go.Proofs.YtghaibkggdecnaaGreat
open Go.KL
open Go.ChangeShapes Go.WideShapes Go.ChangeAt Go.RowKit
theorem wGb:ownKnob Tryz.prog.godebug=none:=by kernel_rfl
theorem wFf:laidOutB Tryz.prog=true:=by kernel_rfl
theorem wCZ:Tryz.prog.cellsOf 28=2:=by kernel_rfl
theorem wDL {α:Type} {l:List α} (h:l.length=2):∃ c0 c1,l=[c0,c1] :=
 match l,h with
 | [c0,c1],_=>⟨c0,c1,rfl⟩
theorem wBZ:Tryz.prog.cellsOf 3=1:=by kernel_rfl
theorem wGc {H:Type} {enc:TypeId × Value->H} {W:World} {n:Nat} {cs:List Value} {y:DataW H × List MemPlace} (h:DataW.trod enc Tryz.prog W 0 (fun _=>true) true n 28 cs=some y):∃ x,cs=wAI x/\True:=by
 obtain ⟨hl,k,hf⟩:=wEr Tryz.underlying28 h
 rw [wCZ] at hl
 obtain ⟨c0,c1,rfl⟩:=wDL hl
 have g0:∃ y,DataW.trod enc Tryz.prog W 0 (fun _=>true) true k 3 (([c0,c1].drop 0).take (Tryz.prog.cellsOf 3))=some y:=hf 0 _ rfl
 rw [wBZ] at g0
 obtain ⟨_,g0⟩:=g0
 obtain ⟨i1,e1,_,_⟩:=DataW.trod_int Tryz.underlying3 g0
 have g2:∃ y,DataW.trod enc Tryz.prog W 0 (fun _=>true) true k 3 (([c0,c1].drop 1).take (Tryz.prog.cellsOf 3))=some y:=hf 1 _ rfl
 rw [wBZ] at g2
 obtain ⟨_,g2⟩:=g2
 obtain ⟨i3,e3,_,_⟩:=DataW.trod_int Tryz.underlying3 g2
 simp only [List.drop_zero,hH,nA,List.take_zero,nB,and_true] at e1 e3
 subst e1 e3
 exact ⟨⟨i1,i3⟩,rfl,trivial⟩
theorem wEK:Tryz.prog.cellsOf 24=2:=by kernel_rfl
set_option maxRecDepth 100000 in
theorem wEV (os:Os) (started:os.Started) (H:Type) (enc:TypeId × Value->H) :
  ReturnsInHanded {} Tryz.checked os 3 .any (Rows.startPursuitsSpec.pre6 enc Tryz.prog Tryz.f3 Rows.startPursuitsRow.domain false) (Rows.startPursuitsSpec.post enc Tryz.prog Tryz.f3 false true false false):=by
 refine returnsInHanded_of_change (C:=Tryz.checked) wGb started (by kernel_rfl) Tryz.func3
  (ChangeSpec.witness6 (enc:=enc) (C:=Tryz.checked) false ⟨#[],#[.slice none 0 0,.agg #[.int .i64 0,.int .i64 0]],[]⟩ 8 (by kernel_rfl) (by kernel_rfl) (by kernel_rfl) (by kernel_rfl)) ?_
 intro W base args ds gs before hval0 hW hcnd _
 have hval:∀ (j:Nat) t v,Tryz.f3.params[j]?=some t->args[j]?=some v->Value.okWide Tryz.prog W .any base t v:=hval0
 have hW':=hW
 obtain ⟨p,q,hA0,hV,rfl,hfz,hnd⟩:=hW
 have hA:DataW.TrodAll enc Tryz.prog W 0 (fun _=>true) true Tryz.f3.params.toList args.toList ds p:=hA0
 rw [Tryz.params3] at hA hval
 obtain ⟨v0,v1,d0,d1,p0,p1,rfl,rfl,rfl,h0,h1⟩:=trodAll_two hA
 obtain ⟨rfl,rfl⟩:=trodVars_none hV
 obtain ⟨A0,k0,xs0,rfl,hS0,_⟩:=wJj (f:=wAI) (sz:=2) (by decide) (fun _=>rfl) Tryz.underlying22 wCZ (fun _=>True) (fun _ _ _=>wGc) h0 (okWide_slice Tryz.underlying22 (hval 0 22 v0 rfl rfl))
 obtain ⟨cs1,rfl,_⟩:=okWide_struct Tryz.underlying24 (hval 1 24 v1 rfl rfl)
 obtain ⟨n1,hn1⟩:=h1
 have hq1:(Value.agg cs1).cells.toList=cs1.toList:=by simp [Value.cells]
 rw [hq1] at hn1
 obtain ⟨hl1,kf1,hf1⟩:=wEr Tryz.underlying24 hn1
 rw [wEK] at hl1
 obtain ⟨c1_0,c1_1,hc1⟩:=wDL hl1
 have g1_0:∃ y,DataW.trod enc Tryz.prog W 0 (fun _=>true) true kf1 3 (([c1_0,c1_1].drop 0).take (Tryz.prog.cellsOf 3))=some y:=by have q:=hf1 0 _ rfl;rw [hc1] at q;exact q
 rw [wBZ] at g1_0
 obtain ⟨_,g1_0⟩:=g1_0
 obtain ⟨i1_1,e1_1,_,wi1_1⟩:=DataW.trod_int Tryz.underlying3 g1_0
 have g1_2:∃ y,DataW.trod enc Tryz.prog W 0 (fun _=>true) true kf1 3 (([c1_0,c1_1].drop 1).take (Tryz.prog.cellsOf 3))=some y:=by have q:=hf1 1 _ rfl;rw [hc1] at q;exact q
 rw [wBZ] at g1_2
 obtain ⟨_,g1_2⟩:=g1_2
 obtain ⟨i1_3,e1_3,_,wi1_3⟩:=DataW.trod_int Tryz.underlying3 g1_2
 simp only [List.drop_zero,hH,nA,List.take_zero,nB,and_true] at e1_1 e1_3
 subst e1_1 e1_3
 obtain rfl:=Array.ext' (ys:=List.toArray _) (by simpa using hc1)
 have hg:=wCC xs0 A0 k0 (⟨i1_1,i1_3⟩:wAJ)  W _ (St.start W) hS0 (wHL xs0 (⟨i1_1,i1_3⟩:wAJ))
 refine Calls.mono' hg fun e W' ⟨v,he,U',L',hst,hv,_⟩=>?_
 subst he;subst hv
 refine ⟨_,rfl,wJh (P:=Tryz.prog) hW' rfl wFf ?_ (t:=4) (by kernel_rfl) Tryz.underlying4 true rfl rfl rfl hst.kp0⟩
 rw [Tryz.params3]
 intro t ht
 simp only [List.mem_cons,List.not_mem_nil,or_false] at ht
 rcases ht with rfl | rfl
 ·exact ⟨by kernel_rfl,of_decide_eq_true (by kernel_rfl)⟩
 ·exact ⟨by kernel_rfl,of_decide_eq_true (by kernel_rfl)⟩
theorem wHM:laidOutB Tryz.prog=true:=by kernel_rfl
theorem wHN:mapsRowed Tryz.prog=true:=by kernel_rfl
theorem wHO:(Tryz.prog.stops == [])=true:=by kernel_rfl
theorem wHP:(Tryz.prog.stopKnobs == [])=true:=by kernel_rfl
theorem wHQ:(Rows.startPursuitsRow.inPlace == Tryz.prog.inPlace 3)=true:=by kernel_rfl
theorem wHR:(Rows.startPursuitsRow.unfollowed == Tryz.prog.unfollowed 3)=true:=by kernel_rfl
theorem wHS:(Rows.startPursuitsRow.recurses == Tryz.prog.recurses 3)=true:=by kernel_rfl
theorem wHT:(Rows.startPursuitsRow.named == Tryz.prog.varsNamed 3)=true:=by kernel_rfl
theorem wHU:(Rows.startPursuitsRow.plainKeys == Tryz.prog.plainKeys)=true:=by kernel_rfl
theorem wHV:Tryz.prog.stopsHeard=true:=by kernel_rfl
theorem wGd:Tryz.prog.mayEnter=true:=by kernel_rfl
theorem wGe:(Rows.startPursuitsRow.lifted == Tryz.prog.liftsFinal)=true:=by kernel_rfl
theorem wGf:wEB Tryz.prog Tryz.f3 Rows.startPursuitsSpec Rows.startPursuitsRow=true:=by kernel_rfl
theorem wEW:joinedFacts Tryz.prog 3 Tryz.f3 Rows.startPursuitsSpec Rows.startPursuitsRow=true:=wJk wHM wHN wHO wHP wHQ wHR wHS wHT wHU wHV wGd wGe wGf
theorem start_pursuits:Rows.StartPursuitsSaid :=
 OpenClaim.holds_of_wide 3 Tryz.f3 rfl rfl rfl rfl rfl rfl rfl ⟨rfl,rfl,rfl,rfl,rfl⟩ rfl rfl rfl rfl rfl (by kernel_rfl) Tryz.func3 wEW
  (of_decide_eq_true (by kernel_rfl)) (by unfold Func.isWrapper;rw [if_neg (by decide +kernel)];exact ⟨rfl,rfl⟩)
  (fun os started H enc _=>wEV os started H enc)
#print axioms start_pursuits
end Go.Proofs.YtghaibkggdecnaaGreat
