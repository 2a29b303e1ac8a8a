import Derived.Test.YtlnfbjphfoipaaaGreatRows
import Derived.Test.YtlnfbjphfoipaaaGreatT0
import Derived.Test.YtlnfbjphfoipaaaGreatT9
import Derived.Test.YtlnfbjphfoipaaaGreatT3
set_option linter.all false
open List renaming drop_succ_cons->hH,take_succ_cons->nA,drop_zero->nD,take_zero->nE
open List.cons renaming injEq->nB
namespace Go.Proofs.YtlnfbjphfoipaaaGreat
open Go.KL
open Go.ChangeShapes Go.WideShapes Go.ChangeAt Go.RowKit
theorem wLJ:ownKnob Tryz.prog.godebug=none:=by kernel_rfl
theorem wKH:laidOutB Tryz.prog=true:=by kernel_rfl
theorem wHv:Tryz.prog.cellsOf 27=4:=by kernel_rfl
theorem wGo {α:Type} {l:List α} (h:l.length=4):∃ c0 c1 c2 c3,l=[c0,c1,c2,c3] :=
 match l,h with
 | [c0,c1,c2,c3],_=>⟨c0,c1,c2,c3,rfl⟩
theorem wFJ:Tryz.prog.cellsOf 22=1:=by kernel_rfl
theorem wGf {H:Type} {enc:TypeId × Value->H} {W:World} {n:Nat} {cs:List Value} {y:DataW H × List MemPlace} (h:DataW.trod enc Tryz.prog W 0 (fun _=>true) true n 3 cs=some y):∃ x,cs=KL.encI x/\True:=by
 obtain ⟨x,e,_,_⟩:=DataW.trod_int Tryz.underlying3 h
 exact ⟨x,e,trivial⟩
theorem wAu:Tryz.prog.cellsOf 3=1:=by kernel_rfl
theorem wHw:Tryz.prog.cellsOf 23=1:=by kernel_rfl
theorem wEL:Tryz.prog.cellsOf 39=2:=by kernel_rfl
theorem wKI {α:Type} {l:List α} (h:l.length=2):∃ c0 c1,l=[c0,c1] :=
 match l,h with
 | [c0,c1],_=>⟨c0,c1,rfl⟩
theorem wLK {H:Type} {enc:TypeId × Value->H} {W:World} {n:Nat} {cs:List Value} {y:DataW H × List MemPlace} (h:DataW.trod enc Tryz.prog W 0 (fun _=>true) true n 39 cs=some y):∃ x,cs=wAB x/\True:=by
 obtain ⟨hl,k,hf⟩:=wEC Tryz.underlying39 h
 rw [wEL] at hl
 obtain ⟨c0,c1,rfl⟩:=wKI hl
 have g0:∃ y,DataW.trod enc Tryz.prog W 0 (fun _=>true) true k 3 (([c0,c1].drop 0).take (Tryz.prog.cellsOf 3))=some y:=hf 0 _ rfl
 rw [wAu] at g0
 obtain ⟨_,g0⟩:=g0
 obtain ⟨i1,e1,_,_⟩:=DataW.trod_int Tryz.underlying3 g0
 have g2:∃ y,DataW.trod enc Tryz.prog W 0 (fun _=>true) true k 3 (([c0,c1].drop 1).take (Tryz.prog.cellsOf 3))=some y:=hf 1 _ rfl
 rw [wAu] at g2
 obtain ⟨_,g2⟩:=g2
 obtain ⟨i3,e3,_,_⟩:=DataW.trod_int Tryz.underlying3 g2
 simp only [nD,hH,nA,nE,nB,and_true] at e1 e3
 subst e1 e3
 exact ⟨⟨i1,i3⟩,rfl,trivial⟩
theorem wHx:Tryz.prog.cellsOf 24=1:=by kernel_rfl
theorem wEu:Tryz.prog.cellsOf 112=3:=by kernel_rfl
theorem wKJ {α:Type} {l:List α} (h:l.length=3):∃ c0 c1 c2,l=[c0,c1,c2] :=
 match l,h with
 | [c0,c1,c2],_=>⟨c0,c1,c2,rfl⟩
theorem wKK {H:Type} {enc:TypeId × Value->H} {W:World} {n:Nat} {cs:List Value} {y:DataW H × List MemPlace} (h:DataW.trod enc Tryz.prog W 0 (fun _=>true) true n 112 cs=some y):∃ x,cs=wAD x/\True:=by
 obtain ⟨hl,k,hf⟩:=wEC Tryz.underlying112 h
 rw [wEu] at hl
 obtain ⟨c0,c1,c2,rfl⟩:=wKJ hl
 have g0:∃ y,DataW.trod enc Tryz.prog W 0 (fun _=>true) true k 39 (([c0,c1,c2].drop 0).take (Tryz.prog.cellsOf 39))=some y:=hf 0 _ rfl
 rw [wEL] at g0
 obtain ⟨_,g0⟩:=g0
 obtain ⟨_,k1,hf1⟩:=wEC Tryz.underlying39 g0
 have g2:∃ y,DataW.trod enc Tryz.prog W 0 (fun _=>true) true k1 3 (([c0,c1].drop 0).take (Tryz.prog.cellsOf 3))=some y:=hf1 0 _ rfl
 rw [wAu] at g2
 obtain ⟨_,g2⟩:=g2
 obtain ⟨i3,e3,_,_⟩:=DataW.trod_int Tryz.underlying3 g2
 have g4:∃ y,DataW.trod enc Tryz.prog W 0 (fun _=>true) true k1 3 (([c0,c1].drop 1).take (Tryz.prog.cellsOf 3))=some y:=hf1 1 _ rfl
 rw [wAu] at g4
 obtain ⟨_,g4⟩:=g4
 obtain ⟨i5,e5,_,_⟩:=DataW.trod_int Tryz.underlying3 g4
 have g6:∃ y,DataW.trod enc Tryz.prog W 0 (fun _=>true) true k 3 (([c0,c1,c2].drop 2).take (Tryz.prog.cellsOf 3))=some y:=hf 1 _ rfl
 rw [wAu] at g6
 obtain ⟨_,g6⟩:=g6
 obtain ⟨i7,e7,_,_⟩:=DataW.trod_int Tryz.underlying3 g6
 simp only [nD,hH,nA,nE,nB,and_true] at e3 e5 e7
 subst e3 e5 e7
 exact ⟨⟨⟨i3,i5⟩,i7⟩,rfl,trivial⟩
theorem wHy:Tryz.prog.cellsOf 25=1:=by kernel_rfl
theorem wEv:Tryz.prog.cellsOf 115=4:=by kernel_rfl
theorem wKL {H:Type} {enc:TypeId × Value->H} {W:World} {n:Nat} {cs:List Value} {y:DataW H × List MemPlace} (h:DataW.trod enc Tryz.prog W 0 (fun _=>true) true n 115 cs=some y):∃ x,cs=wAC x/\True:=by
 obtain ⟨hl,k,hf⟩:=wEC Tryz.underlying115 h
 rw [wEv] at hl
 obtain ⟨c0,c1,c2,c3,rfl⟩:=wGo hl
 have g0:∃ y,DataW.trod enc Tryz.prog W 0 (fun _=>true) true k 3 (([c0,c1,c2,c3].drop 0).take (Tryz.prog.cellsOf 3))=some y:=hf 0 _ rfl
 rw [wAu] at g0
 obtain ⟨_,g0⟩:=g0
 obtain ⟨i1,e1,_,_⟩:=DataW.trod_int Tryz.underlying3 g0
 have g2:∃ y,DataW.trod enc Tryz.prog W 0 (fun _=>true) true k 3 (([c0,c1,c2,c3].drop 1).take (Tryz.prog.cellsOf 3))=some y:=hf 1 _ rfl
 rw [wAu] at g2
 obtain ⟨_,g2⟩:=g2
 obtain ⟨i3,e3,_,_⟩:=DataW.trod_int Tryz.underlying3 g2
 have g4:∃ y,DataW.trod enc Tryz.prog W 0 (fun _=>true) true k 3 (([c0,c1,c2,c3].drop 2).take (Tryz.prog.cellsOf 3))=some y:=hf 2 _ rfl
 rw [wAu] at g4
 obtain ⟨_,g4⟩:=g4
 obtain ⟨i5,e5,_,_⟩:=DataW.trod_int Tryz.underlying3 g4
 have g6:∃ y,DataW.trod enc Tryz.prog W 0 (fun _=>true) true k 3 (([c0,c1,c2,c3].drop 3).take (Tryz.prog.cellsOf 3))=some y:=hf 3 _ rfl
 rw [wAu] at g6
 obtain ⟨_,g6⟩:=g6
 obtain ⟨i7,e7,_,_⟩:=DataW.trod_int Tryz.underlying3 g6
 simp only [nD,hH,nA,nE,nB,and_true] at e1 e3 e5 e7
 subst e1 e3 e5 e7
 exact ⟨⟨i1,i3,i5,i7⟩,rfl,trivial⟩
theorem wLL {H:Type} {enc:TypeId × Value->H} {W:World} {n:Nat} {cs:List Value} {y:DataW H × List MemPlace} (h:DataW.trod enc Tryz.prog W 0 (fun _=>true) true n 22 cs=some y):∃ x,wEx.r (fun b=>W.heap[b]?) x cs:=by
 obtain ⟨Ax,kx,x,e,hSx,_⟩:=wDw (f:=KL.encI) (sz:=1) (by decide) (fun _=>rfl) Tryz.underlying22 wAu (fun _=>True) (fun _ _ _=>wGf) h
 refine ⟨x,?_⟩
 dsimp only [wEx]
 exact ⟨Ax,kx,e,hSx⟩
set_option maxRecDepth 100000 in
theorem wIR (os:Os) (started:os.Started) (H:Type) (enc:TypeId × Value->H) :
  ReturnsInHanded {} Tryz.checked os 5 .any (Rows.chipTruthsSpec.pre6 enc Tryz.prog Tryz.f5 Rows.chipTruthsRow.domain false) (Rows.chipTruthsSpec.post enc Tryz.prog Tryz.f5 false true false false):=by
 refine returnsInHanded_of_change (C:=Tryz.checked) wLJ started (by kernel_rfl) Tryz.func5
  (ChangeSpec.witness6 (enc:=enc) (C:=Tryz.checked) false ⟨#[],#[.agg #[.slice none 0 0,.slice none 0 0,.slice none 0 0,.slice none 0 0],.slice none 0 0,.slice none 0 0],[]⟩ 8 (by kernel_rfl) (by kernel_rfl) (by kernel_rfl) (by kernel_rfl)) ?_
 intro W base args ds gs before hval0 hW hcnd _
 have hval:∀ (j:Nat) t v,Tryz.f5.params[j]?=some t->args[j]?=some v->Value.okWide Tryz.prog W .any base t v:=hval0
 have hW':=hW
 obtain ⟨p,q,hA0,hV,rfl,hfz,hnd⟩:=hW
 have hA:DataW.TrodAll enc Tryz.prog W 0 (fun _=>true) true Tryz.f5.params.toList args.toList ds p:=hA0
 rw [Tryz.params5] at hA hval
 obtain ⟨v0,v1,v2,d0,d1,d2,p0,p1,p2,rfl,rfl,rfl,h0,h1,h2⟩:=trodAll_three hA
 obtain ⟨rfl,rfl⟩:=trodVars_none hV
 obtain ⟨cs0,rfl,_⟩:=okWide_struct Tryz.underlying27 (hval 0 27 v0 rfl rfl)
 obtain ⟨n0,hn0⟩:=h0
 have hq0:(Value.agg cs0).cells.toList=cs0.toList:=by simp [Value.cells]
 rw [hq0] at hn0
 obtain ⟨hl0,kf0,hf0⟩:=wEC Tryz.underlying27 hn0
 rw [wHv] at hl0
 obtain ⟨c0_0,c0_1,c0_2,c0_3,hc0⟩:=wGo hl0
 have g0_0:∃ y,DataW.trod enc Tryz.prog W 0 (fun _=>true) true kf0 22 (([c0_0,c0_1,c0_2,c0_3].drop 0).take (Tryz.prog.cellsOf 22))=some y:=by have q:=hf0 0 _ rfl;rw [hc0] at q;exact q
 rw [wFJ] at g0_0
 obtain ⟨_,g0_0⟩:=g0_0
 obtain ⟨Ai0_1,ki0_1,i0_1,e0_1,hSi0_1,_⟩:=wDw (f:=KL.encI) (sz:=1) (by decide) (fun _=>rfl) Tryz.underlying22 wAu (fun _=>True) (fun _ _ _=>wGf) g0_0
 have g0_2:∃ y,DataW.trod enc Tryz.prog W 0 (fun _=>true) true kf0 23 (([c0_0,c0_1,c0_2,c0_3].drop 1).take (Tryz.prog.cellsOf 23))=some y:=by have q:=hf0 1 _ rfl;rw [hc0] at q;exact q
 rw [wHw] at g0_2
 obtain ⟨_,g0_2⟩:=g0_2
 obtain ⟨Ai0_3,ki0_3,i0_3,e0_3,hSi0_3,_⟩:=wDw (f:=wAB) (sz:=2) (by decide) (fun _=>rfl) Tryz.underlying23 wEL (fun _=>True) (fun _ _ _=>wLK) g0_2
 have g0_4:∃ y,DataW.trod enc Tryz.prog W 0 (fun _=>true) true kf0 24 (([c0_0,c0_1,c0_2,c0_3].drop 2).take (Tryz.prog.cellsOf 24))=some y:=by have q:=hf0 2 _ rfl;rw [hc0] at q;exact q
 rw [wHx] at g0_4
 obtain ⟨_,g0_4⟩:=g0_4
 obtain ⟨Ai0_5,ki0_5,i0_5,e0_5,hSi0_5,_⟩:=wDw (f:=wAD) (sz:=3) (by decide) (fun _=>rfl) Tryz.underlying24 wEu (fun _=>True) (fun _ _ _=>wKK) g0_4
 have g0_6:∃ y,DataW.trod enc Tryz.prog W 0 (fun _=>true) true kf0 25 (([c0_0,c0_1,c0_2,c0_3].drop 3).take (Tryz.prog.cellsOf 25))=some y:=by have q:=hf0 3 _ rfl;rw [hc0] at q;exact q
 rw [wHy] at g0_6
 obtain ⟨_,g0_6⟩:=g0_6
 obtain ⟨Ai0_7,ki0_7,i0_7,e0_7,hSi0_7,_⟩:=wDw (f:=wAC) (sz:=4) (by decide) (fun _=>rfl) Tryz.underlying25 wEv (fun _=>True) (fun _ _ _=>wKL) g0_6
 simp only [nD,hH,nA,nE,nB,and_true] at e0_1 e0_3 e0_5 e0_7
 subst e0_1 e0_3 e0_5 e0_7
 obtain rfl:=Array.ext' (ys:=List.toArray _) (by simpa using hc0)
 obtain ⟨A1,k1,xs1,rfl,hS1⟩:=wPR (R:=wEx) (by decide) Tryz.underlying49 wFJ (fun _ _ _=>wLL) h1 (okWide_slice Tryz.underlying49 (hval 1 49 v1 rfl rfl))
 obtain ⟨A2,k2,xs2,rfl,hS2,_⟩:=wNH (f:=KL.encI) (sz:=1) (by decide) (fun _=>rfl) Tryz.underlying22 wAu (fun _=>True) (fun _ _ _=>wGf) h2 (okWide_slice Tryz.underlying22 (hval 2 22 v2 rfl rfl))
 have hg:=wEX (⟨i0_1,i0_3,i0_5,i0_7⟩:wAA) Ai0_1 ki0_1 Ai0_3 ki0_3 Ai0_5 ki0_5 Ai0_7 ki0_7 xs1 A1 k1 xs2 A2 k2 W _ (St.start W) hSi0_1 hSi0_3 hSi0_5 hSi0_7 hS1 hS2 (wMi (⟨i0_1,i0_3,i0_5,i0_7⟩:wAA) xs1 xs2)
 refine Calls.mono' hg fun e W' ⟨v,he,U',L',hst,hv,_⟩=>?_
 subst he;subst hv
 refine ⟨_,rfl,wNG (P:=Tryz.prog) hW' rfl wKH ?_ (t:=4) (by kernel_rfl) Tryz.underlying4 true rfl rfl rfl hst.kp0⟩
 rw [Tryz.params5]
 intro t ht
 simp only [List.mem_cons,List.not_mem_nil,or_false] at ht
 rcases ht with rfl | rfl | rfl
 ·exact ⟨by kernel_rfl,of_decide_eq_true (by kernel_rfl)⟩
 ·exact ⟨by kernel_rfl,of_decide_eq_true (by kernel_rfl)⟩
 ·exact ⟨by kernel_rfl,of_decide_eq_true (by kernel_rfl)⟩
theorem wMj:laidOutB Tryz.prog=true:=by kernel_rfl
theorem wMk:mapsRowed Tryz.prog=true:=by kernel_rfl
theorem wMl:(Tryz.prog.stops == [])=true:=by kernel_rfl
theorem wMm:(Tryz.prog.stopKnobs == [])=true:=by kernel_rfl
theorem wMn:(Rows.chipTruthsRow.inPlace == Tryz.prog.inPlace 5)=true:=by kernel_rfl
theorem wMo:(Rows.chipTruthsRow.unfollowed == Tryz.prog.unfollowed 5)=true:=by kernel_rfl
theorem wMp:(Rows.chipTruthsRow.recurses == Tryz.prog.recurses 5)=true:=by kernel_rfl
theorem wMq:(Rows.chipTruthsRow.named == Tryz.prog.varsNamed 5)=true:=by kernel_rfl
theorem wMr:(Rows.chipTruthsRow.plainKeys == Tryz.prog.plainKeys)=true:=by kernel_rfl
theorem wMs:Tryz.prog.stopsHeard=true:=by kernel_rfl
theorem wLM:Tryz.prog.mayEnter=true:=by kernel_rfl
theorem wLN:(Rows.chipTruthsRow.lifted == Tryz.prog.liftsFinal)=true:=by kernel_rfl
theorem wLO:wGZ Tryz.prog Tryz.f5 Rows.chipTruthsSpec Rows.chipTruthsRow=true:=by kernel_rfl
theorem wIS:joinedFacts Tryz.prog 5 Tryz.f5 Rows.chipTruthsSpec Rows.chipTruthsRow=true:=wNI wMj wMk wMl wMm wMn wMo wMp wMq wMr wMs wLM wLN wLO
theorem chip_truths:Rows.ChipTruthsSaid :=
 OpenClaim.holds_of_wide 5 Tryz.f5 rfl rfl rfl rfl rfl rfl rfl ⟨rfl,rfl,rfl,rfl,rfl⟩ rfl rfl rfl rfl rfl (by kernel_rfl) Tryz.func5 wIS
  (of_decide_eq_true (by kernel_rfl)) (by unfold Func.isWrapper;rw [if_neg (by decide +kernel)];exact ⟨rfl,rfl⟩)
  (fun os started H enc _=>wIR os started H enc)
#print axioms chip_truths
end Go.Proofs.YtlnfbjphfoipaaaGreat
