import Derived.Test.YtfcmijinklojbaaGreatRows
import Derived.Test.YtfcmijinklojbaaGreatR0
import Derived.Test.YtfcmijinklojbaaGreatR7
import Derived.Test.YtfcmijinklojbaaGreatR3
set_option linter.all false
open List renaming drop_succ_cons->hH,take_succ_cons->nA
open List.cons renaming injEq->nB
namespace Go.Proofs.YtfcmijinklojbaaGreat
open Go.KL
open Go.ChangeShapes Go.WideShapes Go.ChangeAt Go.RowKit
theorem wLU:ownKnob Tryz.prog.godebug=none:=by kernel_rfl
theorem wKF:laidOutB Tryz.prog=true:=by kernel_rfl
theorem wHb:Tryz.prog.cellsOf 25=3:=by kernel_rfl
theorem wKG {α:Type} {l:List α} (h:l.length=3):∃ c0 c1 c2,l=[c0,c1,c2] :=
 match l,h with
 | [c0,c1,c2],_=>⟨c0,c1,c2,rfl⟩
theorem wDm:Tryz.prog.cellsOf 22=1:=by kernel_rfl
theorem wFn {H:Type} {enc:TypeId × Value->H} {W:World} {n:Nat} {cs:List Value} {y:DataW H × List MemPlace} (h:DataW.trod enc Tryz.prog W 0 (fun _=>true) true n 3 cs=some y):∃ x,cs=KL.encI x/\True:=by
 obtain ⟨x,e,_,_⟩:=DataW.trod_int Tryz.underlying3 h
 exact ⟨x,e,trivial⟩
theorem wCa:Tryz.prog.cellsOf 3=1:=by kernel_rfl
theorem wHc:Tryz.prog.cellsOf 23=1:=by kernel_rfl
theorem wEv:Tryz.prog.cellsOf 59=2:=by kernel_rfl
theorem wKH {α:Type} {l:List α} (h:l.length=2):∃ c0 c1,l=[c0,c1] :=
 match l,h with
 | [c0,c1],_=>⟨c0,c1,rfl⟩
theorem wLV {H:Type} {enc:TypeId × Value->H} {W:World} {n:Nat} {cs:List Value} {y:DataW H × List MemPlace} (h:DataW.trod enc Tryz.prog W 0 (fun _=>true) true n 59 cs=some y):∃ x,cs=wAA x/\True:=by
 obtain ⟨hl,k,hf⟩:=wGj Tryz.underlying59 h
 rw [wEv] at hl
 obtain ⟨c0,c1,rfl⟩:=wKH hl
 have g0:∃ y,DataW.trod enc Tryz.prog W 0 (fun _=>true) true k 3 (([c0,c1].drop 0).take (Tryz.prog.cellsOf 3))=some y:=hf 0 _ rfl
 rw [wCa] at g0
 obtain ⟨_,g0⟩:=g0
 obtain ⟨i1,e1,_,_⟩:=DataW.trod_int Tryz.underlying3 g0
 have g2:∃ y,DataW.trod enc Tryz.prog W 0 (fun _=>true) true k 3 (([c0,c1].drop 1).take (Tryz.prog.cellsOf 3))=some y:=hf 1 _ rfl
 rw [wCa] at g2
 obtain ⟨_,g2⟩:=g2
 obtain ⟨i3,e3,_,_⟩:=DataW.trod_int Tryz.underlying3 g2
 simp only [List.drop_zero,hH,nA,List.take_zero,nB,and_true] at e1 e3
 subst e1 e3
 exact ⟨⟨i1,i3⟩,rfl,trivial⟩
theorem wLW {H:Type} {enc:TypeId × Value->H} {W:World} {n:Nat} {cs:List Value} {y:DataW H × List MemPlace} (h:DataW.trod enc Tryz.prog W 0 (fun _=>true) true n 22 cs=some y):∃ x,wEV.r (fun b=>W.heap[b]?) x cs:=by
 obtain ⟨Ax,kx,x,e,hSx,_⟩:=wDp (f:=KL.encI) (sz:=1) (by decide) (fun _=>rfl) Tryz.underlying22 wCa (fun _=>True) (fun _ _ _=>wFn) h
 refine ⟨x,?_⟩
 dsimp only [wEV]
 exact ⟨Ax,kx,e,hSx⟩
set_option maxRecDepth 100000 in
theorem wId (os:Os) (started:os.Started) (H:Type) (enc:TypeId × Value->H) :
  ReturnsInHanded {} Tryz.checked os 3 .any (Rows.targetBoutsSpec.pre6 enc Tryz.prog Tryz.f3 Rows.targetBoutsRow.domain false) (Rows.targetBoutsSpec.post enc Tryz.prog Tryz.f3 false true false false):=by
 refine returnsInHanded_of_change (C:=Tryz.checked) wLU started (by kernel_rfl) Tryz.func3
  (ChangeSpec.witness6 (enc:=enc) (C:=Tryz.checked) false ⟨#[],#[.agg #[.slice none 0 0,.slice none 0 0,.slice none 0 0],.slice none 0 0,.slice none 0 0],[]⟩ 8 (by kernel_rfl) (by kernel_rfl) (by kernel_rfl) (by kernel_rfl)) ?_
 intro W base args ds gs before hval0 hW hcnd _
 have hval:∀ (j:Nat) t v,Tryz.f3.params[j]?=some t->args[j]?=some v->Value.okWide Tryz.prog W .any base t v:=hval0
 have hW':=hW
 obtain ⟨p,q,hA0,hV,rfl,hfz,hnd⟩:=hW
 have hA:DataW.TrodAll enc Tryz.prog W 0 (fun _=>true) true Tryz.f3.params.toList args.toList ds p:=hA0
 rw [Tryz.params3] at hA hval
 obtain ⟨v0,v1,v2,d0,d1,d2,p0,p1,p2,rfl,rfl,rfl,h0,h1,h2⟩:=trodAll_three hA
 obtain ⟨rfl,rfl⟩:=trodVars_none hV
 obtain ⟨cs0,rfl,_⟩:=okWide_struct Tryz.underlying25 (hval 0 25 v0 rfl rfl)
 obtain ⟨n0,hn0⟩:=h0
 have hq0:(Value.agg cs0).cells.toList=cs0.toList:=by simp [Value.cells]
 rw [hq0] at hn0
 obtain ⟨hl0,kf0,hf0⟩:=wGj Tryz.underlying25 hn0
 rw [wHb] at hl0
 obtain ⟨c0_0,c0_1,c0_2,hc0⟩:=wKG hl0
 have g0_0:∃ y,DataW.trod enc Tryz.prog W 0 (fun _=>true) true kf0 22 (([c0_0,c0_1,c0_2].drop 0).take (Tryz.prog.cellsOf 22))=some y:=by have q:=hf0 0 _ rfl;rw [hc0] at q;exact q
 rw [wDm] at g0_0
 obtain ⟨_,g0_0⟩:=g0_0
 obtain ⟨Ai0_1,ki0_1,i0_1,e0_1,hSi0_1,_⟩:=wDp (f:=KL.encI) (sz:=1) (by decide) (fun _=>rfl) Tryz.underlying22 wCa (fun _=>True) (fun _ _ _=>wFn) g0_0
 have g0_2:∃ y,DataW.trod enc Tryz.prog W 0 (fun _=>true) true kf0 22 (([c0_0,c0_1,c0_2].drop 1).take (Tryz.prog.cellsOf 22))=some y:=by have q:=hf0 1 _ rfl;rw [hc0] at q;exact q
 rw [wDm] at g0_2
 obtain ⟨_,g0_2⟩:=g0_2
 obtain ⟨Ai0_3,ki0_3,i0_3,e0_3,hSi0_3,_⟩:=wDp (f:=KL.encI) (sz:=1) (by decide) (fun _=>rfl) Tryz.underlying22 wCa (fun _=>True) (fun _ _ _=>wFn) g0_2
 have g0_4:∃ y,DataW.trod enc Tryz.prog W 0 (fun _=>true) true kf0 23 (([c0_0,c0_1,c0_2].drop 2).take (Tryz.prog.cellsOf 23))=some y:=by have q:=hf0 2 _ rfl;rw [hc0] at q;exact q
 rw [wHc] at g0_4
 obtain ⟨_,g0_4⟩:=g0_4
 obtain ⟨Ai0_5,ki0_5,i0_5,e0_5,hSi0_5,_⟩:=wDp (f:=wAA) (sz:=2) (by decide) (fun _=>rfl) Tryz.underlying23 wEv (fun _=>True) (fun _ _ _=>wLV) g0_4
 simp only [List.drop_zero,hH,nA,List.take_zero,nB,and_true] at e0_1 e0_3 e0_5
 subst e0_1 e0_3 e0_5
 obtain rfl:=Array.ext' (ys:=List.toArray _) (by simpa using hc0)
 obtain ⟨A1,k1,xs1,rfl,hS1⟩:=wOH (R:=wEV) (by decide) Tryz.underlying26 wDm (fun _ _ _=>wLW) h1 (okWide_slice Tryz.underlying26 (hval 1 26 v1 rfl rfl))
 obtain ⟨A2,k2,xs2,rfl,hS2,_⟩:=wLk (f:=KL.encI) (sz:=1) (by decide) (fun _=>rfl) Tryz.underlying22 wCa (fun _=>True) (fun _ _ _=>wFn) h2 (okWide_slice Tryz.underlying22 (hval 2 22 v2 rfl rfl))
 have hg:=wDa (⟨i0_1,i0_3,i0_5⟩:wAB) Ai0_1 ki0_1 Ai0_3 ki0_3 Ai0_5 ki0_5 xs1 A1 k1 xs2 A2 k2 W _ (St.start W) hSi0_1 hSi0_3 hSi0_5 hS1 hS2 (wNh (⟨i0_1,i0_3,i0_5⟩:wAB) xs1 xs2)
 refine Calls.mono' hg fun e W' ⟨v,he,U',L',hst,hv,_⟩=>?_
 subst he;subst hv
 refine ⟨_,rfl,wLj (P:=Tryz.prog) hW' rfl wKF ?_ (t:=4) (by kernel_rfl) Tryz.underlying4 true rfl rfl rfl hst.kp0⟩
 rw [Tryz.params3]
 intro t ht
 simp only [List.mem_cons,List.not_mem_nil,or_false] at ht
 rcases ht with rfl | rfl | rfl
 ·exact ⟨by kernel_rfl,of_decide_eq_true (by kernel_rfl)⟩
 ·exact ⟨by kernel_rfl,of_decide_eq_true (by kernel_rfl)⟩
 ·exact ⟨by kernel_rfl,of_decide_eq_true (by kernel_rfl)⟩
theorem wNi:laidOutB Tryz.prog=true:=by kernel_rfl
theorem wNj:mapsRowed Tryz.prog=true:=by kernel_rfl
theorem wNk:(Tryz.prog.stops == [])=true:=by kernel_rfl
theorem wNl:(Tryz.prog.stopKnobs == [])=true:=by kernel_rfl
theorem wNm:(Rows.targetBoutsRow.inPlace == Tryz.prog.inPlace 3)=true:=by kernel_rfl
theorem wNn:(Rows.targetBoutsRow.unfollowed == Tryz.prog.unfollowed 3)=true:=by kernel_rfl
theorem wNo:(Rows.targetBoutsRow.recurses == Tryz.prog.recurses 3)=true:=by kernel_rfl
theorem wNp:(Rows.targetBoutsRow.named == Tryz.prog.varsNamed 3)=true:=by kernel_rfl
theorem wNq:(Rows.targetBoutsRow.plainKeys == Tryz.prog.plainKeys)=true:=by kernel_rfl
theorem wNr:Tryz.prog.stopsHeard=true:=by kernel_rfl
theorem wLX:Tryz.prog.mayEnter=true:=by kernel_rfl
theorem wLY:(Rows.targetBoutsRow.lifted == Tryz.prog.liftsFinal)=true:=by kernel_rfl
theorem wLZ:wFq Tryz.prog Tryz.f3 Rows.targetBoutsSpec Rows.targetBoutsRow=true:=by kernel_rfl
theorem wIe:joinedFacts Tryz.prog 3 Tryz.f3 Rows.targetBoutsSpec Rows.targetBoutsRow=true:=wLl wNi wNj wNk wNl wNm wNn wNo wNp wNq wNr wLX wLY wLZ
theorem target_bouts:Rows.TargetBoutsSaid :=
 OpenClaim.holds_of_wide 3 Tryz.f3 rfl rfl rfl rfl rfl rfl rfl ⟨rfl,rfl,rfl,rfl,rfl⟩ rfl rfl rfl rfl rfl (by kernel_rfl) Tryz.func3 wIe
  (of_decide_eq_true (by kernel_rfl)) (by unfold Func.isWrapper;rw [if_neg (by decide +kernel)];exact ⟨rfl,rfl⟩)
  (fun os started H enc _=>wId os started H enc)
#print axioms target_bouts
end Go.Proofs.YtfcmijinklojbaaGreat
