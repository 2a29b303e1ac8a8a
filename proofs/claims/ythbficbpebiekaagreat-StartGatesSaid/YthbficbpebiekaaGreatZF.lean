import Derived.Test.YthbficbpebiekaaGreatRows
import Derived.Test.YthbficbpebiekaaGreatZ0
import Derived.Test.YthbficbpebiekaaGreatZ5
import Derived.Test.YthbficbpebiekaaGreatZ2
set_option linter.all false
namespace Go.Proofs.YthbficbpebiekaaGreat
open Go.KL
open Go.ChangeShapes Go.WideShapes Go.ChangeAt Go.RowKit
theorem wJF:ownKnob Tryz.prog.godebug=none:=by kernel_rfl
theorem wHy:laidOutB Tryz.prog=true:=by kernel_rfl
theorem wDC:Tryz.prog.cellsOf 105=3:=by kernel_rfl
theorem wHz {α:Type} {l:List α} (h:l.length=3):∃ c0 c1 c2,l=[c0,c1,c2] :=
 match l,h with
 | [c0,c1,c2],_=>⟨c0,c1,c2,rfl⟩
theorem wCI:Tryz.prog.cellsOf 3=1:=by kernel_rfl
theorem wIA {H:Type} {enc:TypeId × Value->H} {W:World} {n:Nat} {cs:List Value} {y:DataW H × List MemPlace} (h:DataW.trod enc Tryz.prog W 0 (fun _=>true) true n 105 cs=some y):∃ x,cs=wAB x/\True:=by
 obtain ⟨hl,k,hf⟩:=wHN Tryz.underlying105 h
 rw [wDC] at hl
 obtain ⟨c0,c1,c2,rfl⟩:=wHz hl
 have g0:∃ y,DataW.trod enc Tryz.prog W 0 (fun _=>true) true k 3 (([c0,c1,c2].drop 0).take (Tryz.prog.cellsOf 3))=some y:=hf 0 _ rfl
 rw [wCI] at g0
 obtain ⟨_,g0⟩:=g0
 obtain ⟨i1,e1,_,_⟩:=DataW.trod_int Tryz.underlying3 g0
 have g2:∃ y,DataW.trod enc Tryz.prog W 0 (fun _=>true) true k 3 (([c0,c1,c2].drop 1).take (Tryz.prog.cellsOf 3))=some y:=hf 1 _ rfl
 rw [wCI] at g2
 obtain ⟨_,g2⟩:=g2
 obtain ⟨i3,e3,_,_⟩:=DataW.trod_int Tryz.underlying3 g2
 have g4:∃ y,DataW.trod enc Tryz.prog W 0 (fun _=>true) true k 3 (([c0,c1,c2].drop 2).take (Tryz.prog.cellsOf 3))=some y:=hf 2 _ rfl
 rw [wCI] at g4
 obtain ⟨_,g4⟩:=g4
 obtain ⟨i5,e5,_,_⟩:=DataW.trod_int Tryz.underlying3 g4
 simp only [List.drop_zero,List.drop_succ_cons,List.take_succ_cons,List.take_zero,List.cons.injEq,and_true] at e1 e3 e5
 subst e1 e3 e5
 exact ⟨⟨i1,i3,i5⟩,rfl,trivial⟩
theorem wLQ {H:Type} {enc:TypeId × Value->H} {W:World} {n:Nat} {cs:List Value} {y:DataW H × List MemPlace} (h:DataW.trod enc Tryz.prog W 0 (fun _=>true) true n 3 cs=some y):∃ x,cs=KL.encI x/\True:=by
 obtain ⟨x,e,_,_⟩:=DataW.trod_int Tryz.underlying3 h
 exact ⟨x,e,trivial⟩
set_option maxRecDepth 100000 in
theorem wGY (os:Os) (started:os.Started) (H:Type) (enc:TypeId × Value->H) :
  ReturnsInHanded {} Tryz.checked os 7 .any (Rows.startGatesSpec.pre6 enc Tryz.prog Tryz.f7 Rows.startGatesRow.domain false) (Rows.startGatesSpec.post enc Tryz.prog Tryz.f7 false true false false):=by
 refine returnsInHanded_of_change (C:=Tryz.checked) wJF started (by kernel_rfl) Tryz.func7
  (ChangeSpec.witness6 (enc:=enc) (C:=Tryz.checked) false ⟨#[],#[.slice none 0 0,.int .i64 0,.slice none 0 0],[]⟩ 8 (by kernel_rfl) (by kernel_rfl) (by kernel_rfl) (by kernel_rfl)) ?_
 intro W base args ds gs before hval0 hW hcnd _
 have hval:∀ (j:Nat) t v,Tryz.f7.params[j]?=some t->args[j]?=some v->Value.okWide Tryz.prog W .any base t v:=hval0
 have hW':=hW
 obtain ⟨p,q,hA0,hV,rfl,hfz,hnd⟩:=hW
 have hA:DataW.TrodAll enc Tryz.prog W 0 (fun _=>true) true Tryz.f7.params.toList args.toList ds p:=hA0
 rw [Tryz.params7] at hA hval
 obtain ⟨v0,v1,v2,d0,d1,d2,p0,p1,p2,rfl,rfl,rfl,h0,h1,h2⟩:=trodAll_three hA
 obtain ⟨rfl,rfl⟩:=trodVars_none hV
 obtain ⟨A0,k0,xs0,rfl,hS0,_⟩:=wGl (f:=wAB) (sz:=3) (by decide) (fun _=>rfl) Tryz.underlying95 wDC (fun _=>True) (fun _ _ _=>wIA) h0 (okWide_slice Tryz.underlying95 (hval 0 95 v0 rfl rfl))
 obtain ⟨a1,rfl,rfl,rfl,wa1⟩:=open_int Tryz.underlying3 (hval 1 3 v1 rfl rfl) h1
 have hb1:-9223372036854775808 <= a1/\a1 <= 9223372036854775807:=by simpa [Lit.wf,IntKind.min,IntKind.max,IntKind.signed,IntKind.bits] using wa1
 obtain ⟨A2,k2,xs2,rfl,hS2,_⟩:=wGl (f:=KL.encI) (sz:=1) (by decide) (fun _=>rfl) Tryz.underlying22 wCI (fun _=>True) (fun _ _ _=>wLQ) h2 (okWide_slice Tryz.underlying22 (hval 2 22 v2 rfl rfl))
 have hg:=wCW xs0 A0 k0 a1 xs2 A2 k2 W _ (St.start W) hS0 hS2 (wLP xs0 a1 xs2 hb1.1 hb1.2)
 refine Calls.mono' hg fun e W' ⟨v,he,U',L',hst,hv,_⟩=>?_
 subst he;subst hv
 refine ⟨_,rfl,wJU (P:=Tryz.prog) hW' rfl wHy ?_ (t:=4) (by kernel_rfl) Tryz.underlying4 true rfl rfl rfl hst.kp0⟩
 rw [Tryz.params7]
 intro t ht
 simp only [List.mem_cons,List.not_mem_nil,or_false] at ht
 rcases ht with rfl | rfl | rfl
 ·exact ⟨by kernel_rfl,of_decide_eq_true (by kernel_rfl)⟩
 ·exact ⟨by kernel_rfl,of_decide_eq_true (by kernel_rfl)⟩
 ·exact ⟨by kernel_rfl,of_decide_eq_true (by kernel_rfl)⟩
theorem wLR:laidOutB Tryz.prog=true:=by kernel_rfl
theorem wLS:mapsRowed Tryz.prog=true:=by kernel_rfl
theorem wLT:(Tryz.prog.stops == [])=true:=by kernel_rfl
theorem wLU:(Tryz.prog.stopKnobs == [])=true:=by kernel_rfl
theorem wLV:(Rows.startGatesRow.inPlace == Tryz.prog.inPlace 7)=true:=by kernel_rfl
theorem wLW:(Rows.startGatesRow.unfollowed == Tryz.prog.unfollowed 7)=true:=by kernel_rfl
theorem wLX:(Rows.startGatesRow.recurses == Tryz.prog.recurses 7)=true:=by kernel_rfl
theorem wLY:(Rows.startGatesRow.named == Tryz.prog.varsNamed 7)=true:=by kernel_rfl
theorem wLZ:(Rows.startGatesRow.plainKeys == Tryz.prog.plainKeys)=true:=by kernel_rfl
theorem wLa:Tryz.prog.stopsHeard=true:=by kernel_rfl
theorem wJG:Tryz.prog.mayEnter=true:=by kernel_rfl
theorem wJH:(Rows.startGatesRow.lifted == Tryz.prog.liftsFinal)=true:=by kernel_rfl
theorem wJI:wEC Tryz.prog Tryz.f7 Rows.startGatesSpec Rows.startGatesRow=true:=by kernel_rfl
theorem wGZ:joinedFacts Tryz.prog 7 Tryz.f7 Rows.startGatesSpec Rows.startGatesRow=true:=wJW wLR wLS wLT wLU wLV wLW wLX wLY wLZ wLa wJG wJH wJI
theorem start_gates:Rows.StartGatesSaid :=
 OpenClaim.holds_of_wide 7 Tryz.f7 rfl rfl rfl rfl rfl rfl rfl ⟨rfl,rfl,rfl,rfl,rfl⟩ rfl rfl rfl rfl rfl (by kernel_rfl) Tryz.func7 wGZ
  (of_decide_eq_true (by kernel_rfl)) (by unfold Func.isWrapper;rw [if_neg (by decide +kernel)];exact ⟨rfl,rfl⟩)
  (fun os started H enc _=>wGY os started H enc)
#print axioms start_gates
end Go.Proofs.YthbficbpebiekaaGreat
