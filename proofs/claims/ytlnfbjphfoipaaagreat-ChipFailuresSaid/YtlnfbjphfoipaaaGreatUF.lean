import Derived.Test.YtlnfbjphfoipaaaGreatRows
import Derived.Test.YtlnfbjphfoipaaaGreatU0
import Derived.Test.YtlnfbjphfoipaaaGreatU8
import Derived.Test.YtlnfbjphfoipaaaGreatU2
set_option linter.all false
open List renaming drop_succ_cons->hD,take_succ_cons->hH,drop_zero->nB,take_zero->nD
open List.cons renaming injEq->nA
namespace Go.Proofs.YtlnfbjphfoipaaaGreat
open Go.KL
open Go.ChangeShapes Go.WideShapes Go.ChangeAt Go.RowKit
theorem wIf:ownKnob Tryz.prog.godebug=none:=by kernel_rfl
theorem wHw:laidOutB Tryz.prog=true:=by kernel_rfl
theorem wGn:Tryz.prog.cellsOf 27=4:=by kernel_rfl
theorem wFm {α:Type} {l:List α} (h:l.length=4):∃ c0 c1 c2 c3,l=[c0,c1,c2,c3] :=
 match l,h with
 | [c0,c1,c2,c3],_=>⟨c0,c1,c2,c3,rfl⟩
theorem wGo:Tryz.prog.cellsOf 22=1:=by kernel_rfl
theorem wJQ {H:Type} {enc:TypeId × Value->H} {W:World} {n:Nat} {cs:List Value} {y:DataW H × List MemPlace} (h:DataW.trod enc Tryz.prog W 0 (fun _=>true) true n 3 cs=some y):∃ x,cs=KL.encI x/\True:=by
 obtain ⟨x,e,_,_⟩:=DataW.trod_int Tryz.underlying3 h
 exact ⟨x,e,trivial⟩
theorem wAu:Tryz.prog.cellsOf 3=1:=by kernel_rfl
theorem wGp:Tryz.prog.cellsOf 23=1:=by kernel_rfl
theorem wDw:Tryz.prog.cellsOf 39=2:=by kernel_rfl
theorem wFn {α:Type} {l:List α} (h:l.length=2):∃ c0 c1,l=[c0,c1] :=
 match l,h with
 | [c0,c1],_=>⟨c0,c1,rfl⟩
theorem wIg {H:Type} {enc:TypeId × Value->H} {W:World} {n:Nat} {cs:List Value} {y:DataW H × List MemPlace} (h:DataW.trod enc Tryz.prog W 0 (fun _=>true) true n 39 cs=some y):∃ x,cs=wAC x/\True:=by
 obtain ⟨hl,k,hf⟩:=wDs Tryz.underlying39 h
 rw [wDw] at hl
 obtain ⟨c0,c1,rfl⟩:=wFn hl
 have g0:∃ y,DataW.trod enc Tryz.prog W 0 (fun _=>true) true k 3 (([c0,c1].drop 0).take (Tryz.prog.cellsOf 3))=some y:=hf 0 _ rfl
 rw [wAu] at g0
 obtain ⟨_,g0⟩:=g0
 obtain ⟨i1,e1,_,_⟩:=DataW.trod_int Tryz.underlying3 g0
 have g2:∃ y,DataW.trod enc Tryz.prog W 0 (fun _=>true) true k 3 (([c0,c1].drop 1).take (Tryz.prog.cellsOf 3))=some y:=hf 1 _ rfl
 rw [wAu] at g2
 obtain ⟨_,g2⟩:=g2
 obtain ⟨i3,e3,_,_⟩:=DataW.trod_int Tryz.underlying3 g2
 simp only [nB,hD,hH,nD,nA,and_true] at e1 e3
 subst e1 e3
 exact ⟨⟨i1,i3⟩,rfl,trivial⟩
theorem wGq:Tryz.prog.cellsOf 24=1:=by kernel_rfl
theorem wEl:Tryz.prog.cellsOf 112=3:=by kernel_rfl
theorem wHx {α:Type} {l:List α} (h:l.length=3):∃ c0 c1 c2,l=[c0,c1,c2] :=
 match l,h with
 | [c0,c1,c2],_=>⟨c0,c1,c2,rfl⟩
theorem wHy {H:Type} {enc:TypeId × Value->H} {W:World} {n:Nat} {cs:List Value} {y:DataW H × List MemPlace} (h:DataW.trod enc Tryz.prog W 0 (fun _=>true) true n 112 cs=some y):∃ x,cs=wAE x/\True:=by
 obtain ⟨hl,k,hf⟩:=wDs Tryz.underlying112 h
 rw [wEl] at hl
 obtain ⟨c0,c1,c2,rfl⟩:=wHx hl
 have g0:∃ y,DataW.trod enc Tryz.prog W 0 (fun _=>true) true k 39 (([c0,c1,c2].drop 0).take (Tryz.prog.cellsOf 39))=some y:=hf 0 _ rfl
 rw [wDw] at g0
 obtain ⟨_,g0⟩:=g0
 obtain ⟨_,k1,hf1⟩:=wDs Tryz.underlying39 g0
 have g2:∃ y,DataW.trod enc Tryz.prog W 0 (fun _=>true) true k1 3 (([c0,c1].drop 0).take (Tryz.prog.cellsOf 3))=some y:=hf1 0 _ rfl
 rw [wAu] at g2
 obtain ⟨_,g2⟩:=g2
 obtain ⟨i3,e3,_,_⟩:=DataW.trod_int Tryz.underlying3 g2
 have g4:∃ y,DataW.trod enc Tryz.prog W 0 (fun _=>true) true k1 3 (([c0,c1].drop 1).take (Tryz.prog.cellsOf 3))=some y:=hf1 1 _ rfl
 rw [wAu] at g4
 obtain ⟨_,g4⟩:=g4
 obtain ⟨i5,e5,_,_⟩:=DataW.trod_int Tryz.underlying3 g4
 have g6:∃ y,DataW.trod enc Tryz.prog W 0 (fun _=>true) true k 3 (([c0,c1,c2].drop 2).take (Tryz.prog.cellsOf 3))=some y:=hf 1 _ rfl
 rw [wAu] at g6
 obtain ⟨_,g6⟩:=g6
 obtain ⟨i7,e7,_,_⟩:=DataW.trod_int Tryz.underlying3 g6
 simp only [nB,hD,hH,nD,nA,and_true] at e3 e5 e7
 subst e3 e5 e7
 exact ⟨⟨⟨i3,i5⟩,i7⟩,rfl,trivial⟩
theorem wGr:Tryz.prog.cellsOf 25=1:=by kernel_rfl
theorem wEm:Tryz.prog.cellsOf 115=4:=by kernel_rfl
theorem wHz {H:Type} {enc:TypeId × Value->H} {W:World} {n:Nat} {cs:List Value} {y:DataW H × List MemPlace} (h:DataW.trod enc Tryz.prog W 0 (fun _=>true) true n 115 cs=some y):∃ x,cs=wAB x/\True:=by
 obtain ⟨hl,k,hf⟩:=wDs Tryz.underlying115 h
 rw [wEm] at hl
 obtain ⟨c0,c1,c2,c3,rfl⟩:=wFm hl
 have g0:∃ y,DataW.trod enc Tryz.prog W 0 (fun _=>true) true k 3 (([c0,c1,c2,c3].drop 0).take (Tryz.prog.cellsOf 3))=some y:=hf 0 _ rfl
 rw [wAu] at g0
 obtain ⟨_,g0⟩:=g0
 obtain ⟨i1,e1,_,_⟩:=DataW.trod_int Tryz.underlying3 g0
 have g2:∃ y,DataW.trod enc Tryz.prog W 0 (fun _=>true) true k 3 (([c0,c1,c2,c3].drop 1).take (Tryz.prog.cellsOf 3))=some y:=hf 1 _ rfl
 rw [wAu] at g2
 obtain ⟨_,g2⟩:=g2
 obtain ⟨i3,e3,_,_⟩:=DataW.trod_int Tryz.underlying3 g2
 have g4:∃ y,DataW.trod enc Tryz.prog W 0 (fun _=>true) true k 3 (([c0,c1,c2,c3].drop 2).take (Tryz.prog.cellsOf 3))=some y:=hf 2 _ rfl
 rw [wAu] at g4
 obtain ⟨_,g4⟩:=g4
 obtain ⟨i5,e5,_,_⟩:=DataW.trod_int Tryz.underlying3 g4
 have g6:∃ y,DataW.trod enc Tryz.prog W 0 (fun _=>true) true k 3 (([c0,c1,c2,c3].drop 3).take (Tryz.prog.cellsOf 3))=some y:=hf 3 _ rfl
 rw [wAu] at g6
 obtain ⟨_,g6⟩:=g6
 obtain ⟨i7,e7,_,_⟩:=DataW.trod_int Tryz.underlying3 g6
 simp only [nB,hD,hH,nD,nA,and_true] at e1 e3 e5 e7
 subst e1 e3 e5 e7
 exact ⟨⟨i1,i3,i5,i7⟩,rfl,trivial⟩
theorem wGs:Tryz.prog.cellsOf 29=2:=by kernel_rfl
set_option maxRecDepth 100000 in
theorem wHB (os:Os) (started:os.Started) (H:Type) (enc:TypeId × Value->H) :
  ReturnsInHanded {} Tryz.checked os 4 .any (Rows.chipFailuresSpec.pre6 enc Tryz.prog Tryz.f4 Rows.chipFailuresRow.domain false) (Rows.chipFailuresSpec.post enc Tryz.prog Tryz.f4 false true false false):=by
 refine returnsInHanded_of_change (C:=Tryz.checked) wIf started (by kernel_rfl) Tryz.func4
  (ChangeSpec.witness6 (enc:=enc) (C:=Tryz.checked) false ⟨#[],#[.agg #[.slice none 0 0,.slice none 0 0,.slice none 0 0,.slice none 0 0],.agg #[.int .i64 0,.int .i64 0]],[]⟩ 8 (by kernel_rfl) (by kernel_rfl) (by kernel_rfl) (by kernel_rfl)) ?_
 intro W base args ds gs before hval0 hW hcnd _
 have hval:∀ (j:Nat) t v,Tryz.f4.params[j]?=some t->args[j]?=some v->Value.okWide Tryz.prog W .any base t v:=hval0
 have hW':=hW
 obtain ⟨p,q,hA0,hV,rfl,hfz,hnd⟩:=hW
 have hA:DataW.TrodAll enc Tryz.prog W 0 (fun _=>true) true Tryz.f4.params.toList args.toList ds p:=hA0
 rw [Tryz.params4] at hA hval
 obtain ⟨v0,v1,d0,d1,p0,p1,rfl,rfl,rfl,h0,h1⟩:=trodAll_two hA
 obtain ⟨rfl,rfl⟩:=trodVars_none hV
 obtain ⟨cs0,rfl,_⟩:=okWide_struct Tryz.underlying27 (hval 0 27 v0 rfl rfl)
 obtain ⟨n0,hn0⟩:=h0
 have hq0:(Value.agg cs0).cells.toList=cs0.toList:=by simp [Value.cells]
 rw [hq0] at hn0
 obtain ⟨hl0,kf0,hf0⟩:=wDs Tryz.underlying27 hn0
 rw [wGn] at hl0
 obtain ⟨c0_0,c0_1,c0_2,c0_3,hc0⟩:=wFm hl0
 have g0_0:∃ y,DataW.trod enc Tryz.prog W 0 (fun _=>true) true kf0 22 (([c0_0,c0_1,c0_2,c0_3].drop 0).take (Tryz.prog.cellsOf 22))=some y:=by have q:=hf0 0 _ rfl;rw [hc0] at q;exact q
 rw [wGo] at g0_0
 obtain ⟨_,g0_0⟩:=g0_0
 obtain ⟨Ai0_1,ki0_1,i0_1,e0_1,hSi0_1,_⟩:=wFW (f:=KL.encI) (sz:=1) (by decide) (fun _=>rfl) Tryz.underlying22 wAu (fun _=>True) (fun _ _ _=>wJQ) g0_0
 have g0_2:∃ y,DataW.trod enc Tryz.prog W 0 (fun _=>true) true kf0 23 (([c0_0,c0_1,c0_2,c0_3].drop 1).take (Tryz.prog.cellsOf 23))=some y:=by have q:=hf0 1 _ rfl;rw [hc0] at q;exact q
 rw [wGp] at g0_2
 obtain ⟨_,g0_2⟩:=g0_2
 obtain ⟨Ai0_3,ki0_3,i0_3,e0_3,hSi0_3,_⟩:=wFW (f:=wAC) (sz:=2) (by decide) (fun _=>rfl) Tryz.underlying23 wDw (fun _=>True) (fun _ _ _=>wIg) g0_2
 have g0_4:∃ y,DataW.trod enc Tryz.prog W 0 (fun _=>true) true kf0 24 (([c0_0,c0_1,c0_2,c0_3].drop 2).take (Tryz.prog.cellsOf 24))=some y:=by have q:=hf0 2 _ rfl;rw [hc0] at q;exact q
 rw [wGq] at g0_4
 obtain ⟨_,g0_4⟩:=g0_4
 obtain ⟨Ai0_5,ki0_5,i0_5,e0_5,hSi0_5,_⟩:=wFW (f:=wAE) (sz:=3) (by decide) (fun _=>rfl) Tryz.underlying24 wEl (fun _=>True) (fun _ _ _=>wHy) g0_4
 have g0_6:∃ y,DataW.trod enc Tryz.prog W 0 (fun _=>true) true kf0 25 (([c0_0,c0_1,c0_2,c0_3].drop 3).take (Tryz.prog.cellsOf 25))=some y:=by have q:=hf0 3 _ rfl;rw [hc0] at q;exact q
 rw [wGr] at g0_6
 obtain ⟨_,g0_6⟩:=g0_6
 obtain ⟨Ai0_7,ki0_7,i0_7,e0_7,hSi0_7,_⟩:=wFW (f:=wAB) (sz:=4) (by decide) (fun _=>rfl) Tryz.underlying25 wEm (fun _=>True) (fun _ _ _=>wHz) g0_6
 simp only [nB,hD,hH,nD,nA,and_true] at e0_1 e0_3 e0_5 e0_7
 subst e0_1 e0_3 e0_5 e0_7
 obtain rfl:=Array.ext' (ys:=List.toArray _) (by simpa using hc0)
 obtain ⟨cs1,rfl,_⟩:=okWide_struct Tryz.underlying29 (hval 1 29 v1 rfl rfl)
 obtain ⟨n1,hn1⟩:=h1
 have hq1:(Value.agg cs1).cells.toList=cs1.toList:=by simp [Value.cells]
 rw [hq1] at hn1
 obtain ⟨hl1,kf1,hf1⟩:=wDs Tryz.underlying29 hn1
 rw [wGs] at hl1
 obtain ⟨c1_0,c1_1,hc1⟩:=wFn hl1
 have g1_0:∃ y,DataW.trod enc Tryz.prog W 0 (fun _=>true) true kf1 3 (([c1_0,c1_1].drop 0).take (Tryz.prog.cellsOf 3))=some y:=by have q:=hf1 0 _ rfl;rw [hc1] at q;exact q
 rw [wAu] at g1_0
 obtain ⟨_,g1_0⟩:=g1_0
 obtain ⟨i1_1,e1_1,_,wi1_1⟩:=DataW.trod_int Tryz.underlying3 g1_0
 have g1_2:∃ y,DataW.trod enc Tryz.prog W 0 (fun _=>true) true kf1 3 (([c1_0,c1_1].drop 1).take (Tryz.prog.cellsOf 3))=some y:=by have q:=hf1 1 _ rfl;rw [hc1] at q;exact q
 rw [wAu] at g1_2
 obtain ⟨_,g1_2⟩:=g1_2
 obtain ⟨i1_3,e1_3,_,wi1_3⟩:=DataW.trod_int Tryz.underlying3 g1_2
 simp only [nB,hD,hH,nD,nA,and_true] at e1_1 e1_3
 subst e1_1 e1_3
 obtain rfl:=Array.ext' (ys:=List.toArray _) (by simpa using hc1)
 have hg:=wEb (⟨i0_1,i0_3,i0_5,i0_7⟩:wAA) Ai0_1 ki0_1 Ai0_3 ki0_3 Ai0_5 ki0_5 Ai0_7 ki0_7 (⟨i1_1,i1_3⟩:wAL)  W _ (St.start W) hSi0_1 hSi0_3 hSi0_5 hSi0_7 (wJP (⟨i0_1,i0_3,i0_5,i0_7⟩:wAA) (⟨i1_1,i1_3⟩:wAL))
 refine Calls.mono' hg fun e W' ⟨v,he,U',L',hst,hv,_⟩=>?_
 subst he;subst hv
 refine ⟨_,rfl,wLJ (P:=Tryz.prog) hW' rfl wHw ?_ (t:=4) (by kernel_rfl) Tryz.underlying4 true rfl rfl rfl hst.kp0⟩
 rw [Tryz.params4]
 intro t ht
 simp only [List.mem_cons,List.not_mem_nil,or_false] at ht
 rcases ht with rfl | rfl
 ·exact ⟨by kernel_rfl,of_decide_eq_true (by kernel_rfl)⟩
 ·exact ⟨by kernel_rfl,of_decide_eq_true (by kernel_rfl)⟩
theorem wJR:laidOutB Tryz.prog=true:=by kernel_rfl
theorem wJS:mapsRowed Tryz.prog=true:=by kernel_rfl
theorem wJT:(Tryz.prog.stops == [])=true:=by kernel_rfl
theorem wJU:(Tryz.prog.stopKnobs == [])=true:=by kernel_rfl
theorem wJV:(Rows.chipFailuresRow.inPlace == Tryz.prog.inPlace 4)=true:=by kernel_rfl
theorem wJW:(Rows.chipFailuresRow.unfollowed == Tryz.prog.unfollowed 4)=true:=by kernel_rfl
theorem wJX:(Rows.chipFailuresRow.recurses == Tryz.prog.recurses 4)=true:=by kernel_rfl
theorem wJY:(Rows.chipFailuresRow.named == Tryz.prog.varsNamed 4)=true:=by kernel_rfl
theorem wJZ:(Rows.chipFailuresRow.plainKeys == Tryz.prog.plainKeys)=true:=by kernel_rfl
theorem wJa:Tryz.prog.stopsHeard=true:=by kernel_rfl
theorem wIh:Tryz.prog.mayEnter=true:=by kernel_rfl
theorem wIi:(Rows.chipFailuresRow.lifted == Tryz.prog.liftsFinal)=true:=by kernel_rfl
theorem wIj:wGe Tryz.prog Tryz.f4 Rows.chipFailuresSpec Rows.chipFailuresRow=true:=by kernel_rfl
theorem wHC:joinedFacts Tryz.prog 4 Tryz.f4 Rows.chipFailuresSpec Rows.chipFailuresRow=true:=wLL wJR wJS wJT wJU wJV wJW wJX wJY wJZ wJa wIh wIi wIj
theorem chip_failures:Rows.ChipFailuresSaid :=
 OpenClaim.holds_of_wide 4 Tryz.f4 rfl rfl rfl rfl rfl rfl rfl ⟨rfl,rfl,rfl,rfl,rfl⟩ rfl rfl rfl rfl rfl (by kernel_rfl) Tryz.func4 wHC
  (of_decide_eq_true (by kernel_rfl)) (by unfold Func.isWrapper;rw [if_neg (by decide +kernel)];exact ⟨rfl,rfl⟩)
  (fun os started H enc _=>wHB os started H enc)
#print axioms chip_failures
end Go.Proofs.YtlnfbjphfoipaaaGreat
