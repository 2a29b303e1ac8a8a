import Derived.Test.YtbpllbhagaoocaaGreatRows
import Derived.Test.YtbpllbhagaoocaaGreatZ0
import Derived.Test.YtbpllbhagaoocaaGreatZ8
import Derived.Test.YtbpllbhagaoocaaGreatZ4
set_option linter.all false
namespace Go.Proofs.YtbpllbhagaoocaaGreat
open Go.KL
open Go.ChangeShapes Go.WideShapes Go.ChangeAt Go.RowKit
theorem wLi:ownKnob Tryz.prog.godebug=none:=by kernel_rfl
theorem wJf:laidOutB Tryz.prog=true:=by kernel_rfl
theorem wGz:Tryz.prog.cellsOf 26=3:=by kernel_rfl
theorem wJg {α:Type} {l:List α} (h:l.length=3):∃ c0 c1 c2,l=[c0,c1,c2] :=
 match l,h with
 | [c0,c1,c2],_=>⟨c0,c1,c2,rfl⟩
theorem wDY:Tryz.prog.cellsOf 3=1:=by kernel_rfl
theorem wES:Tryz.prog.cellsOf 23=1:=by kernel_rfl
theorem wJF {H:Type} {enc:TypeId × Value->H} {W:World} {n:Nat} {cs:List Value} {y:DataW H × List MemPlace} (h:DataW.trod enc Tryz.prog W 0 (fun _=>true) true n 3 cs=some y):∃ x,cs=KL.encI x/\True:=by
 obtain ⟨x,e,_,_⟩:=DataW.trod_int Tryz.underlying3 h
 exact ⟨x,e,trivial⟩
theorem wHA:Tryz.prog.cellsOf 24=1:=by kernel_rfl
theorem wLj {H:Type} {enc:TypeId × Value->H} {W:World} {n:Nat} {cs:List Value} {y:DataW H × List MemPlace} (h:DataW.trod enc Tryz.prog W 0 (fun _=>true) true n 23 cs=some y):∃ x,wDc.r (fun b=>W.heap[b]?) x cs:=by
 obtain ⟨Ax,kx,x,e,hSx,_⟩:=wGG (f:=KL.encI) (sz:=1) (by decide) (fun _=>rfl) Tryz.underlying23 wDY (fun _=>True) (fun _ _ _=>wJF) h
 refine ⟨x,?_⟩
 dsimp only [wDc]
 exact ⟨Ax,kx,e,hSx⟩
set_option maxRecDepth 100000 in
theorem wHj (os:Os) (started:os.Started) (H:Type) (enc:TypeId × Value->H) :
  ReturnsInHanded {} Tryz.checked os 5 .any (Rows.startLapsSpec.pre6 enc Tryz.prog Tryz.f5 Rows.startLapsRow.domain false) (Rows.startLapsSpec.post enc Tryz.prog Tryz.f5 false true false false):=by
 refine returnsInHanded_of_change (C:=Tryz.checked) wLi started (by kernel_rfl) Tryz.func5
  (ChangeSpec.witness6 (enc:=enc) (C:=Tryz.checked) false ⟨#[],#[.agg #[.int .i64 0,.slice none 0 0,.slice none 0 0]],[]⟩ 8 (by kernel_rfl) (by kernel_rfl) (by kernel_rfl) (by kernel_rfl)) ?_
 intro W base args ds gs before hval0 hW hcnd _
 have hval:∀ (j:Nat) t v,Tryz.f5.params[j]?=some t->args[j]?=some v->Value.okWide Tryz.prog W .any base t v:=hval0
 have hW':=hW
 obtain ⟨p,q,hA0,hV,rfl,hfz,hnd⟩:=hW
 have hA:DataW.TrodAll enc Tryz.prog W 0 (fun _=>true) true Tryz.f5.params.toList args.toList ds p:=hA0
 rw [Tryz.params5] at hA hval
 obtain ⟨v0,d0,rfl,rfl,h0⟩:=trodAll_one hA
 obtain ⟨rfl,rfl⟩:=trodVars_none hV
 obtain ⟨cs0,rfl,_⟩:=okWide_struct Tryz.underlying26 (hval 0 26 v0 rfl rfl)
 obtain ⟨n0,hn0⟩:=h0
 have hq0:(Value.agg cs0).cells.toList=cs0.toList:=by simp [Value.cells]
 rw [hq0] at hn0
 obtain ⟨hl0,kf0,hf0⟩:=wHt Tryz.underlying26 hn0
 rw [wGz] at hl0
 obtain ⟨c0_0,c0_1,c0_2,hc0⟩:=wJg hl0
 have g0_0:∃ y,DataW.trod enc Tryz.prog W 0 (fun _=>true) true kf0 3 (([c0_0,c0_1,c0_2].drop 0).take (Tryz.prog.cellsOf 3))=some y:=by have q:=hf0 0 _ rfl;rw [hc0] at q;exact q
 rw [wDY] at g0_0
 obtain ⟨_,g0_0⟩:=g0_0
 obtain ⟨i0_1,e0_1,_,wi0_1⟩:=DataW.trod_int Tryz.underlying3 g0_0
 have g0_2:∃ y,DataW.trod enc Tryz.prog W 0 (fun _=>true) true kf0 23 (([c0_0,c0_1,c0_2].drop 1).take (Tryz.prog.cellsOf 23))=some y:=by have q:=hf0 1 _ rfl;rw [hc0] at q;exact q
 rw [wES] at g0_2
 obtain ⟨_,g0_2⟩:=g0_2
 obtain ⟨Ai0_3,ki0_3,i0_3,e0_3,hSi0_3,_⟩:=wGG (f:=KL.encI) (sz:=1) (by decide) (fun _=>rfl) Tryz.underlying23 wDY (fun _=>True) (fun _ _ _=>wJF) g0_2
 have g0_4:∃ y,DataW.trod enc Tryz.prog W 0 (fun _=>true) true kf0 24 (([c0_0,c0_1,c0_2].drop 2).take (Tryz.prog.cellsOf 24))=some y:=by have q:=hf0 2 _ rfl;rw [hc0] at q;exact q
 rw [wHA] at g0_4
 obtain ⟨_,g0_4⟩:=g0_4
 obtain ⟨Ai0_5,ki0_5,i0_5,e0_5,hSi0_5⟩:=wJs (R:=wDc) (by decide) Tryz.underlying24 wES (fun _ _ _=>wLj) g0_4
 simp only [List.drop_zero,List.drop_succ_cons,List.take_succ_cons,List.take_zero,List.cons.injEq,and_true] at e0_1 e0_3 e0_5
 subst e0_1 e0_3 e0_5
 obtain rfl:=Array.ext' (ys:=List.toArray _) (by simpa using hc0)
 have hg:=wCs (⟨i0_1,i0_3,i0_5⟩:wAA) Ai0_3 ki0_3 Ai0_5 ki0_5 W _ (St.start W) hSi0_3 hSi0_5 (wMp (⟨i0_1,i0_3,i0_5⟩:wAA))
 refine Calls.mono' hg fun e W' ⟨v,he,U',L',hst,hv,_⟩=>?_
 subst he;subst hv
 refine ⟨_,rfl,wJq (P:=Tryz.prog) hW' rfl wJf ?_ (t:=4) (by kernel_rfl) Tryz.underlying4 true rfl rfl rfl hst.kp0⟩
 rw [Tryz.params5]
 intro t ht
 simp only [List.mem_cons,List.not_mem_nil,or_false] at ht
 subst ht
 ·exact ⟨by kernel_rfl,of_decide_eq_true (by kernel_rfl)⟩
theorem wMq:laidOutB Tryz.prog=true:=by kernel_rfl
theorem wMr:mapsRowed Tryz.prog=true:=by kernel_rfl
theorem wMs:(Tryz.prog.stops == [])=true:=by kernel_rfl
theorem wMt:(Tryz.prog.stopKnobs == [])=true:=by kernel_rfl
theorem wMu:(Rows.startLapsRow.inPlace == Tryz.prog.inPlace 5)=true:=by kernel_rfl
theorem wMv:(Rows.startLapsRow.unfollowed == Tryz.prog.unfollowed 5)=true:=by kernel_rfl
theorem wMw:(Rows.startLapsRow.recurses == Tryz.prog.recurses 5)=true:=by kernel_rfl
theorem wMx:(Rows.startLapsRow.named == Tryz.prog.varsNamed 5)=true:=by kernel_rfl
theorem wMy:(Rows.startLapsRow.plainKeys == Tryz.prog.plainKeys)=true:=by kernel_rfl
theorem wMz:Tryz.prog.stopsHeard=true:=by kernel_rfl
theorem wLk:Tryz.prog.mayEnter=true:=by kernel_rfl
theorem wLl:(Rows.startLapsRow.lifted == Tryz.prog.liftsFinal)=true:=by kernel_rfl
theorem wLm:wEW Tryz.prog Tryz.f5 Rows.startLapsSpec Rows.startLapsRow=true:=by kernel_rfl
theorem wHk:joinedFacts Tryz.prog 5 Tryz.f5 Rows.startLapsSpec Rows.startLapsRow=true:=wJr wMq wMr wMs wMt wMu wMv wMw wMx wMy wMz wLk wLl wLm
theorem start_laps:Rows.StartLapsSaid :=
 OpenClaim.holds_of_wide 5 Tryz.f5 rfl rfl rfl rfl rfl rfl rfl ⟨rfl,rfl,rfl,rfl,rfl⟩ rfl rfl rfl rfl rfl (by kernel_rfl) Tryz.func5 wHk
  (of_decide_eq_true (by kernel_rfl)) (by unfold Func.isWrapper;rw [if_neg (by decide +kernel)];exact ⟨rfl,rfl⟩)
  (fun os started H enc _=>wHj os started H enc)
#print axioms start_laps
end Go.Proofs.YtbpllbhagaoocaaGreat
