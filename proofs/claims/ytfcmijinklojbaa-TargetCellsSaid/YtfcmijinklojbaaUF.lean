import Derived.Test.YtfcmijinklojbaaRows
import Derived.Test.YtfcmijinklojbaaU0
import Derived.Test.YtfcmijinklojbaaU8
import Derived.Test.YtfcmijinklojbaaU3
set_option linter.all false
open List renaming drop_succ_cons->hH,take_succ_cons->nA
open List.cons renaming injEq->nB
namespace Go.Proofs.Ytfcmijinklojbaa
open Go.KL
open Go.ChangeShapes Go.WideShapes Go.ChangeAt Go.RowKit
theorem wMQ:ownKnob Try.prog.godebug=none:=by kernel_rfl
theorem wKq:laidOutB Try.prog=true:=by kernel_rfl
theorem wII:Try.prog.cellsOf 26=3:=by kernel_rfl
theorem wKr {α:Type} {l:List α} (h:l.length=3):∃ c0 c1 c2,l=[c0,c1,c2] :=
 match l,h with
 | [c0,c1,c2],_=>⟨c0,c1,c2,rfl⟩
theorem wFc:Try.prog.cellsOf 23=1:=by kernel_rfl
theorem wHy {H:Type} {enc:TypeId × Value->H} {W:World} {n:Nat} {cs:List Value} {y:DataW H × List MemPlace} (h:DataW.trod enc Try.prog W 0 (fun _=>true) true n 3 cs=some y):∃ x,cs=KL.encI x/\True:=by
 obtain ⟨x,e,_,_⟩:=DataW.trod_int Try.underlying3 h
 exact ⟨x,e,trivial⟩
theorem wDU:Try.prog.cellsOf 3=1:=by kernel_rfl
theorem wIJ:Try.prog.cellsOf 24=1:=by kernel_rfl
theorem wFd:Try.prog.cellsOf 35=2:=by kernel_rfl
theorem wKs {α:Type} {l:List α} (h:l.length=2):∃ c0 c1,l=[c0,c1] :=
 match l,h with
 | [c0,c1],_=>⟨c0,c1,rfl⟩
theorem wMR {H:Type} {enc:TypeId × Value->H} {W:World} {n:Nat} {cs:List Value} {y:DataW H × List MemPlace} (h:DataW.trod enc Try.prog W 0 (fun _=>true) true n 35 cs=some y):∃ x,cs=wAA x/\True:=by
 obtain ⟨hl,k,hf⟩:=wHQ Try.underlying35 h
 rw [wFd] at hl
 obtain ⟨c0,c1,rfl⟩:=wKs hl
 have g0:∃ y,DataW.trod enc Try.prog W 0 (fun _=>true) true k 3 (([c0,c1].drop 0).take (Try.prog.cellsOf 3))=some y:=hf 0 _ rfl
 rw [wDU] at g0
 obtain ⟨_,g0⟩:=g0
 obtain ⟨i1,e1,_,_⟩:=DataW.trod_int Try.underlying3 g0
 have g2:∃ y,DataW.trod enc Try.prog W 0 (fun _=>true) true k 3 (([c0,c1].drop 1).take (Try.prog.cellsOf 3))=some y:=hf 1 _ rfl
 rw [wDU] at g2
 obtain ⟨_,g2⟩:=g2
 obtain ⟨i3,e3,_,_⟩:=DataW.trod_int Try.underlying3 g2
 simp only [List.drop_zero,hH,nA,List.take_zero,nB,and_true] at e1 e3
 subst e1 e3
 exact ⟨⟨i1,i3⟩,rfl,trivial⟩
set_option maxRecDepth 100000 in
theorem wJD (os:Os) (started:os.Started) (H:Type) (enc:TypeId × Value->H) :
  ReturnsInHanded {} Try.checked os 4 .any (Rows.targetCellsSpec.pre6 enc Try.prog Try.f4 Rows.targetCellsRow.domain false) (Rows.targetCellsSpec.post enc Try.prog Try.f4 false true false false):=by
 refine returnsInHanded_of_change (C:=Try.checked) wMQ started (by kernel_rfl) Try.func4
  (ChangeSpec.witness6 (enc:=enc) (C:=Try.checked) false ⟨#[],#[.agg #[.slice none 0 0,.slice none 0 0,.slice none 0 0],.int .i64 0,.int .i64 0,.slice none 0 0],[]⟩ 8 (by kernel_rfl) (by kernel_rfl) (by kernel_rfl) (by kernel_rfl)) ?_
 intro W base args ds gs before hval0 hW hcnd _
 have hval:∀ (j:Nat) t v,Try.f4.params[j]?=some t->args[j]?=some v->Value.okWide Try.prog W .any base t v:=hval0
 have hW':=hW
 obtain ⟨p,q,hA0,hV,rfl,hfz,hnd⟩:=hW
 have hA:DataW.TrodAll enc Try.prog W 0 (fun _=>true) true Try.f4.params.toList args.toList ds p:=hA0
 rw [Try.params4] at hA hval
 obtain ⟨v0,v1,v2,v3,d0,d1,d2,d3,p0,p1,p2,p3,rfl,rfl,rfl,h0,h1,h2,h3⟩:=trodAll_four hA
 obtain ⟨rfl,rfl⟩:=trodVars_none hV
 obtain ⟨cs0,rfl,_⟩:=okWide_struct Try.underlying26 (hval 0 26 v0 rfl rfl)
 obtain ⟨n0,hn0⟩:=h0
 have hq0:(Value.agg cs0).cells.toList=cs0.toList:=by simp [Value.cells]
 rw [hq0] at hn0
 obtain ⟨hl0,kf0,hf0⟩:=wHQ Try.underlying26 hn0
 rw [wII] at hl0
 obtain ⟨c0_0,c0_1,c0_2,hc0⟩:=wKr hl0
 have g0_0:∃ y,DataW.trod enc Try.prog W 0 (fun _=>true) true kf0 23 (([c0_0,c0_1,c0_2].drop 0).take (Try.prog.cellsOf 23))=some y:=by have q:=hf0 0 _ rfl;rw [hc0] at q;exact q
 rw [wFc] at g0_0
 obtain ⟨_,g0_0⟩:=g0_0
 obtain ⟨Ai0_1,ki0_1,i0_1,e0_1,hSi0_1,_⟩:=wFL (f:=KL.encI) (sz:=1) (by decide) (fun _=>rfl) Try.underlying23 wDU (fun _=>True) (fun _ _ _=>wHy) g0_0
 have g0_2:∃ y,DataW.trod enc Try.prog W 0 (fun _=>true) true kf0 23 (([c0_0,c0_1,c0_2].drop 1).take (Try.prog.cellsOf 23))=some y:=by have q:=hf0 1 _ rfl;rw [hc0] at q;exact q
 rw [wFc] at g0_2
 obtain ⟨_,g0_2⟩:=g0_2
 obtain ⟨Ai0_3,ki0_3,i0_3,e0_3,hSi0_3,_⟩:=wFL (f:=KL.encI) (sz:=1) (by decide) (fun _=>rfl) Try.underlying23 wDU (fun _=>True) (fun _ _ _=>wHy) g0_2
 have g0_4:∃ y,DataW.trod enc Try.prog W 0 (fun _=>true) true kf0 24 (([c0_0,c0_1,c0_2].drop 2).take (Try.prog.cellsOf 24))=some y:=by have q:=hf0 2 _ rfl;rw [hc0] at q;exact q
 rw [wIJ] at g0_4
 obtain ⟨_,g0_4⟩:=g0_4
 obtain ⟨Ai0_5,ki0_5,i0_5,e0_5,hSi0_5,_⟩:=wFL (f:=wAA) (sz:=2) (by decide) (fun _=>rfl) Try.underlying24 wFd (fun _=>True) (fun _ _ _=>wMR) g0_4
 simp only [List.drop_zero,hH,nA,List.take_zero,nB,and_true] at e0_1 e0_3 e0_5
 subst e0_1 e0_3 e0_5
 obtain rfl:=Array.ext' (ys:=List.toArray _) (by simpa using hc0)
 obtain ⟨a1,rfl,rfl,rfl,wa1⟩:=open_int Try.underlying3 (hval 1 3 v1 rfl rfl) h1
 have hb1:-9223372036854775808 <= a1/\a1 <= 9223372036854775807:=by simpa [Lit.wf,IntKind.min,IntKind.max,IntKind.signed,IntKind.bits] using wa1
 obtain ⟨a2,rfl,rfl,rfl,wa2⟩:=open_int Try.underlying3 (hval 2 3 v2 rfl rfl) h2
 have hb2:-9223372036854775808 <= a2/\a2 <= 9223372036854775807:=by simpa [Lit.wf,IntKind.min,IntKind.max,IntKind.signed,IntKind.bits] using wa2
 obtain ⟨A3,k3,xs3,rfl,hS3,_⟩:=wMg (f:=KL.encI) (sz:=1) (by decide) (fun _=>rfl) Try.underlying23 wDU (fun _=>True) (fun _ _ _=>wHy) h3 (okWide_slice Try.underlying23 (hval 3 23 v3 rfl rfl))
 have hg:=wDy (⟨i0_1,i0_3,i0_5⟩:wAB) Ai0_1 ki0_1 Ai0_3 ki0_3 Ai0_5 ki0_5 a1 a2 xs3 A3 k3 W _ (St.start W) hSi0_1 hSi0_3 hSi0_5 hS3 (wOg (⟨i0_1,i0_3,i0_5⟩:wAB) a1 a2 xs3 hb1.1 hb1.2 hb2.1 hb2.2)
 refine Calls.mono' hg fun e W' ⟨v,he,U',L',hst,hv,_⟩=>?_
 subst he;subst hv
 refine ⟨_,rfl,wMe (P:=Try.prog) hW' rfl wKq ?_ (t:=4) (by kernel_rfl) Try.underlying4 true rfl rfl rfl hst.kp0⟩
 rw [Try.params4]
 intro t ht
 simp only [List.mem_cons,List.not_mem_nil,or_false] at ht
 rcases ht with rfl | rfl | rfl | rfl
 ·exact ⟨by kernel_rfl,of_decide_eq_true (by kernel_rfl)⟩
 ·exact ⟨by kernel_rfl,of_decide_eq_true (by kernel_rfl)⟩
 ·exact ⟨by kernel_rfl,of_decide_eq_true (by kernel_rfl)⟩
 ·exact ⟨by kernel_rfl,of_decide_eq_true (by kernel_rfl)⟩
theorem wOh:laidOutB Try.prog=true:=by kernel_rfl
theorem wOi:mapsRowed Try.prog=true:=by kernel_rfl
theorem wOj:(Try.prog.stops == [])=true:=by kernel_rfl
theorem wOk:(Try.prog.stopKnobs == [])=true:=by kernel_rfl
theorem wOl:(Rows.targetCellsRow.inPlace == Try.prog.inPlace 4)=true:=by kernel_rfl
theorem wOm:(Rows.targetCellsRow.unfollowed == Try.prog.unfollowed 4)=true:=by kernel_rfl
theorem wOn:(Rows.targetCellsRow.recurses == Try.prog.recurses 4)=true:=by kernel_rfl
theorem wOo:(Rows.targetCellsRow.named == Try.prog.varsNamed 4)=true:=by kernel_rfl
theorem wOp:(Rows.targetCellsRow.plainKeys == Try.prog.plainKeys)=true:=by kernel_rfl
theorem wOq:Try.prog.stopsHeard=true:=by kernel_rfl
theorem wMS:Try.prog.mayEnter=true:=by kernel_rfl
theorem wMT:(Rows.targetCellsRow.lifted == Try.prog.liftsFinal)=true:=by kernel_rfl
theorem wMU:wGc Try.prog Try.f4 Rows.targetCellsSpec Rows.targetCellsRow=true:=by kernel_rfl
theorem wJE:joinedFacts Try.prog 4 Try.f4 Rows.targetCellsSpec Rows.targetCellsRow=true:=wMh wOh wOi wOj wOk wOl wOm wOn wOo wOp wOq wMS wMT wMU
theorem target_cells:Rows.TargetCellsSaid :=
 OpenClaim.holds_of_wide 4 Try.f4 rfl rfl rfl rfl rfl rfl rfl ⟨rfl,rfl,rfl,rfl,rfl⟩ rfl rfl rfl rfl rfl (by kernel_rfl) Try.func4 wJE
  (of_decide_eq_true (by kernel_rfl)) (by unfold Func.isWrapper;rw [if_neg (by decide +kernel)];exact ⟨rfl,rfl⟩)
  (fun os started H enc _=>wJD os started H enc)
#print axioms target_cells
end Go.Proofs.Ytfcmijinklojbaa
