import Derived.Test.YtabadkdjndnliaaGreatRows
import Derived.Test.YtabadkdjndnliaaGreatS0
import Derived.Test.YtabadkdjndnliaaGreatS11
import Derived.Test.YtabadkdjndnliaaGreatS4
set_option linter.all false
open List renaming drop_succ_cons->nA,take_succ_cons->nD,drop_zero->nG,take_zero->nH
open List.cons renaming injEq->nE
namespace Go.Proofs.YtabadkdjndnliaaGreat
open Go.KL
open Go.ChangeShapes Go.WideShapes Go.ChangeAt Go.RowKit
theorem wLM:ownKnob Tryz.prog.godebug=none:=by kernel_rfl
theorem wKZ:laidOutB Tryz.prog=true:=by kernel_rfl
theorem wIi:Tryz.prog.cellsOf 27=8:=by kernel_rfl
theorem wKa {α:Type} {l:List α} (h:l.length=8):∃ c0 c1 c2 c3 c4 c5 c6 c7,l=[c0,c1,c2,c3,c4,c5,c6,c7] :=
 match l,h with
 | [c0,c1,c2,c3,c4,c5,c6,c7],_=>⟨c0,c1,c2,c3,c4,c5,c6,c7,rfl⟩
theorem wIj:Tryz.prog.cellsOf 24=6:=by kernel_rfl
theorem wEu:Tryz.prog.cellsOf 22=1:=by kernel_rfl
theorem wHV {H:Type} {enc:TypeId × Value->H} {W:World} {n:Nat} {cs:List Value} {y:DataW H × List MemPlace} (h:DataW.trod enc Tryz.prog W 0 (fun _=>true) true n 3 cs=some y):∃ x,cs=KL.encI x/\True:=by
 obtain ⟨x,e,_,_⟩:=DataW.trod_int Tryz.underlying3 h
 exact ⟨x,e,trivial⟩
theorem wBf:Tryz.prog.cellsOf 3=1:=by kernel_rfl
theorem wIk:Tryz.prog.cellsOf 25=1:=by kernel_rfl
theorem wGT:Tryz.prog.cellsOf 73=3:=by kernel_rfl
theorem wHz {α:Type} {l:List α} (h:l.length=3):∃ c0 c1 c2,l=[c0,c1,c2] :=
 match l,h with
 | [c0,c1,c2],_=>⟨c0,c1,c2,rfl⟩
theorem wIl:Tryz.prog.cellsOf 71=1:=by kernel_rfl
theorem wGU:Tryz.prog.cellsOf 76=3:=by kernel_rfl
theorem wIm:Tryz.prog.cellsOf 74=1:=by kernel_rfl
theorem wIn:Tryz.prog.cellsOf 77=1:=by kernel_rfl
theorem wJc:Tryz.prog.cellsOf 4=1:=by kernel_rfl
theorem wLz {H:Type} {enc:TypeId × Value->H} {W:World} {n:Nat} {cs:List Value} {y:DataW H × List MemPlace} (h:DataW.trod enc Tryz.prog W 0 (fun _=>true) true n 4 cs=some y):∃ x,cs=KL.encT x/\True:=by
 obtain ⟨x,e,_⟩:=DataW.trod_bool Tryz.underlying4 h
 exact ⟨x,e,trivial⟩
theorem wLN {H:Type} {enc:TypeId × Value->H} {W:World} {n:Nat} {cs:List Value} {y:DataW H × List MemPlace} (h:DataW.trod enc Tryz.prog W 0 (fun _=>true) true n 77 cs=some y):∃ x,wGx.r (fun b=>W.heap[b]?) x cs:=by
 obtain ⟨Ax,kx,x,e,hSx,_⟩:=wGr (f:=KL.encT) (sz:=1) (by decide) (fun _=>rfl) Tryz.underlying77 wJc (fun _=>True) (fun _ _ _=>wLz) h
 refine ⟨x,?_⟩
 dsimp only [wGx]
 exact ⟨Ax,kx,e,hSx⟩
theorem wLO {H:Type} {enc:TypeId × Value->H} {W:World} {n:Nat} {cs:List Value} {y:DataW H × List MemPlace} (h:DataW.trod enc Tryz.prog W 0 (fun _=>true) true n 76 cs=some y):∃ x,wJJ.r (fun b=>W.heap[b]?) x cs:=by
 obtain ⟨hl,k,hf⟩:=wGE Tryz.underlying76 h
 rw [wGU] at hl
 obtain ⟨c0,c1,c2,rfl⟩:=wHz hl
 have g0:∃ y,DataW.trod enc Tryz.prog W 0 (fun _=>true) true k 3 (([c0,c1,c2].drop 0).take (Tryz.prog.cellsOf 3))=some y:=hf 0 _ rfl
 rw [wBf] at g0
 obtain ⟨_,g0⟩:=g0
 obtain ⟨i1,e1,_,_⟩:=DataW.trod_int Tryz.underlying3 g0
 have g2:∃ y,DataW.trod enc Tryz.prog W 0 (fun _=>true) true k 22 (([c0,c1,c2].drop 1).take (Tryz.prog.cellsOf 22))=some y:=hf 1 _ rfl
 rw [wEu] at g2
 obtain ⟨_,g2⟩:=g2
 obtain ⟨Ai3,ki3,i3,e3,hSi3,_⟩:=wGr (f:=KL.encI) (sz:=1) (by decide) (fun _=>rfl) Tryz.underlying22 wBf (fun _=>True) (fun _ _ _=>wHV) g2
 have g4:∃ y,DataW.trod enc Tryz.prog W 0 (fun _=>true) true k 74 (([c0,c1,c2].drop 2).take (Tryz.prog.cellsOf 74))=some y:=hf 2 _ rfl
 rw [wIm] at g4
 obtain ⟨_,g4⟩:=g4
 obtain ⟨Ai5,ki5,i5,e5,hSi5⟩:=wJH (R:=wGx) (by decide) Tryz.underlying74 wIn (fun _ _ _=>wLN) g4
 simp only [nG,nA,nD,nH,nE,and_true] at e1 e3 e5
 subst e1 e3 e5
 refine ⟨⟨i1,i3,i5⟩,?_⟩
 dsimp only [wJJ]
 exact ⟨Ai3,ki3,Ai5,ki5,rfl,hSi3,hSi5⟩
theorem wLP {H:Type} {enc:TypeId × Value->H} {W:World} {n:Nat} {cs:List Value} {y:DataW H × List MemPlace} (h:DataW.trod enc Tryz.prog W 0 (fun _=>true) true n 73 cs=some y):∃ x,wFL.r (fun b=>W.heap[b]?) x cs:=by
 obtain ⟨hl,k,hf⟩:=wGE Tryz.underlying73 h
 rw [wGT] at hl
 obtain ⟨c0,c1,c2,rfl⟩:=wHz hl
 have g0:∃ y,DataW.trod enc Tryz.prog W 0 (fun _=>true) true k 3 (([c0,c1,c2].drop 0).take (Tryz.prog.cellsOf 3))=some y:=hf 0 _ rfl
 rw [wBf] at g0
 obtain ⟨_,g0⟩:=g0
 obtain ⟨i1,e1,_,_⟩:=DataW.trod_int Tryz.underlying3 g0
 have g2:∃ y,DataW.trod enc Tryz.prog W 0 (fun _=>true) true k 22 (([c0,c1,c2].drop 1).take (Tryz.prog.cellsOf 22))=some y:=hf 1 _ rfl
 rw [wEu] at g2
 obtain ⟨_,g2⟩:=g2
 obtain ⟨Ai3,ki3,i3,e3,hSi3,_⟩:=wGr (f:=KL.encI) (sz:=1) (by decide) (fun _=>rfl) Tryz.underlying22 wBf (fun _=>True) (fun _ _ _=>wHV) g2
 have g4:∃ y,DataW.trod enc Tryz.prog W 0 (fun _=>true) true k 71 (([c0,c1,c2].drop 2).take (Tryz.prog.cellsOf 71))=some y:=hf 2 _ rfl
 rw [wIl] at g4
 obtain ⟨_,g4⟩:=g4
 obtain ⟨Ai5,ki5,i5,e5,hSi5⟩:=wJH (R:=wJJ) (by decide) Tryz.underlying71 wGU (fun _ _ _=>wLO) g4
 simp only [nG,nA,nD,nH,nE,and_true] at e1 e3 e5
 subst e1 e3 e5
 refine ⟨⟨i1,i3,i5⟩,?_⟩
 dsimp only [wFL]
 exact ⟨Ai3,ki3,Ai5,ki5,rfl,hSi3,hSi5⟩
set_option maxRecDepth 100000 in
theorem wJd (os:Os) (started:os.Started) (H:Type) (enc:TypeId × Value->H) :
  ReturnsInHanded {} Tryz.checked os 3 .any (Rows.relayResultsSpec.pre6 enc Tryz.prog Tryz.f3 Rows.relayResultsRow.domain false) (Rows.relayResultsSpec.post enc Tryz.prog Tryz.f3 false true false false):=by
 refine returnsInHanded_of_change (C:=Tryz.checked) wLM started (by kernel_rfl) Tryz.func3
  (ChangeSpec.witness6 (enc:=enc) (C:=Tryz.checked) false ⟨#[],#[.agg #[.slice none 0 0,.int .i64 0,.int .i64 0,.int .i64 0,.int .i64 0,.int .i64 0,.int .i64 0,.slice none 0 0]],[]⟩ 8 (by kernel_rfl) (by kernel_rfl) (by kernel_rfl) (by kernel_rfl)) ?_
 intro W base args ds gs before hval0 hW hcnd _
 have hval:∀ (j:Nat) t v,Tryz.f3.params[j]?=some t->args[j]?=some v->Value.okWide Tryz.prog W .any base t v:=hval0
 have hW':=hW
 obtain ⟨p,q,hA0,hV,rfl,hfz,hnd⟩:=hW
 have hA:DataW.TrodAll enc Tryz.prog W 0 (fun _=>true) true Tryz.f3.params.toList args.toList ds p:=hA0
 rw [Tryz.params3] at hA hval
 obtain ⟨v0,d0,rfl,rfl,h0⟩:=trodAll_one hA
 obtain ⟨rfl,rfl⟩:=trodVars_none hV
 obtain ⟨cs0,rfl,_⟩:=okWide_struct Tryz.underlying27 (hval 0 27 v0 rfl rfl)
 obtain ⟨n0,hn0⟩:=h0
 have hq0:(Value.agg cs0).cells.toList=cs0.toList:=by simp [Value.cells]
 rw [hq0] at hn0
 obtain ⟨hl0,kf0,hf0⟩:=wGE Tryz.underlying27 hn0
 rw [wIi] at hl0
 obtain ⟨c0_0,c0_1,c0_2,c0_3,c0_4,c0_5,c0_6,c0_7,hc0⟩:=wKa hl0
 have g0_0:∃ y,DataW.trod enc Tryz.prog W 0 (fun _=>true) true kf0 24 (([c0_0,c0_1,c0_2,c0_3,c0_4,c0_5,c0_6,c0_7].drop 0).take (Tryz.prog.cellsOf 24))=some y:=by have q:=hf0 0 _ rfl;rw [hc0] at q;exact q
 rw [wIj] at g0_0
 obtain ⟨_,g0_0⟩:=g0_0
 obtain ⟨_,ke0_1,hfe0_1⟩:=wGE Tryz.underlying24 g0_0
 have g0_2:∃ y,DataW.trod enc Tryz.prog W 0 (fun _=>true) true ke0_1 22 (([c0_0,c0_1,c0_2,c0_3,c0_4,c0_5].drop 0).take (Tryz.prog.cellsOf 22))=some y:=by have q:=hfe0_1 0 _ rfl;exact q
 rw [wEu] at g0_2
 obtain ⟨_,g0_2⟩:=g0_2
 obtain ⟨Ai0_3,ki0_3,i0_3,e0_3,hSi0_3,_⟩:=wGr (f:=KL.encI) (sz:=1) (by decide) (fun _=>rfl) Tryz.underlying22 wBf (fun _=>True) (fun _ _ _=>wHV) g0_2
 have g0_4:∃ y,DataW.trod enc Tryz.prog W 0 (fun _=>true) true ke0_1 3 (([c0_0,c0_1,c0_2,c0_3,c0_4,c0_5].drop 1).take (Tryz.prog.cellsOf 3))=some y:=by have q:=hfe0_1 1 _ rfl;exact q
 rw [wBf] at g0_4
 obtain ⟨_,g0_4⟩:=g0_4
 obtain ⟨i0_5,e0_5,_,wi0_5⟩:=DataW.trod_int Tryz.underlying3 g0_4
 have g0_6:∃ y,DataW.trod enc Tryz.prog W 0 (fun _=>true) true ke0_1 3 (([c0_0,c0_1,c0_2,c0_3,c0_4,c0_5].drop 2).take (Tryz.prog.cellsOf 3))=some y:=by have q:=hfe0_1 2 _ rfl;exact q
 rw [wBf] at g0_6
 obtain ⟨_,g0_6⟩:=g0_6
 obtain ⟨i0_7,e0_7,_,wi0_7⟩:=DataW.trod_int Tryz.underlying3 g0_6
 have g0_8:∃ y,DataW.trod enc Tryz.prog W 0 (fun _=>true) true ke0_1 3 (([c0_0,c0_1,c0_2,c0_3,c0_4,c0_5].drop 3).take (Tryz.prog.cellsOf 3))=some y:=by have q:=hfe0_1 3 _ rfl;exact q
 rw [wBf] at g0_8
 obtain ⟨_,g0_8⟩:=g0_8
 obtain ⟨i0_9,e0_9,_,wi0_9⟩:=DataW.trod_int Tryz.underlying3 g0_8
 have g0_10:∃ y,DataW.trod enc Tryz.prog W 0 (fun _=>true) true ke0_1 3 (([c0_0,c0_1,c0_2,c0_3,c0_4,c0_5].drop 4).take (Tryz.prog.cellsOf 3))=some y:=by have q:=hfe0_1 4 _ rfl;exact q
 rw [wBf] at g0_10
 obtain ⟨_,g0_10⟩:=g0_10
 obtain ⟨i0_11,e0_11,_,wi0_11⟩:=DataW.trod_int Tryz.underlying3 g0_10
 have g0_12:∃ y,DataW.trod enc Tryz.prog W 0 (fun _=>true) true ke0_1 3 (([c0_0,c0_1,c0_2,c0_3,c0_4,c0_5].drop 5).take (Tryz.prog.cellsOf 3))=some y:=by have q:=hfe0_1 5 _ rfl;exact q
 rw [wBf] at g0_12
 obtain ⟨_,g0_12⟩:=g0_12
 obtain ⟨i0_13,e0_13,_,wi0_13⟩:=DataW.trod_int Tryz.underlying3 g0_12
 have g0_14:∃ y,DataW.trod enc Tryz.prog W 0 (fun _=>true) true kf0 3 (([c0_0,c0_1,c0_2,c0_3,c0_4,c0_5,c0_6,c0_7].drop 6).take (Tryz.prog.cellsOf 3))=some y:=by have q:=hf0 1 _ rfl;rw [hc0] at q;exact q
 rw [wBf] at g0_14
 obtain ⟨_,g0_14⟩:=g0_14
 obtain ⟨i0_15,e0_15,_,wi0_15⟩:=DataW.trod_int Tryz.underlying3 g0_14
 have g0_16:∃ y,DataW.trod enc Tryz.prog W 0 (fun _=>true) true kf0 25 (([c0_0,c0_1,c0_2,c0_3,c0_4,c0_5,c0_6,c0_7].drop 7).take (Tryz.prog.cellsOf 25))=some y:=by have q:=hf0 2 _ rfl;rw [hc0] at q;exact q
 rw [wIk] at g0_16
 obtain ⟨_,g0_16⟩:=g0_16
 obtain ⟨Ai0_17,ki0_17,i0_17,e0_17,hSi0_17⟩:=wJH (R:=wFL) (by decide) Tryz.underlying25 wGT (fun _ _ _=>wLP) g0_16
 simp only [nG,nA,nD,nH,nE,and_true] at e0_3 e0_5 e0_7 e0_9 e0_11 e0_13 e0_15 e0_17
 subst e0_3 e0_5 e0_7 e0_9 e0_11 e0_13 e0_15 e0_17
 obtain rfl:=Array.ext' (ys:=List.toArray _) (by simpa using hc0)
 have hg:=wFT (⟨⟨i0_3,i0_5,i0_7,i0_9,i0_11,i0_13⟩,i0_15,i0_17⟩:wAD) Ai0_3 ki0_3 Ai0_17 ki0_17 W _ (St.start W) hSi0_3 hSi0_17 (wLy (⟨⟨i0_3,i0_5,i0_7,i0_9,i0_11,i0_13⟩,i0_15,i0_17⟩:wAD))
 refine Calls.mono' hg fun e W' ⟨v,he,U',L',hst,hv,_⟩=>?_
 subst he;subst hv
 refine ⟨_,rfl,wNt (P:=Tryz.prog) hW' rfl wKZ ?_ (t:=4) (by kernel_rfl) Tryz.underlying4 true rfl rfl rfl hst.kp0⟩
 rw [Tryz.params3]
 intro t ht
 simp only [List.mem_cons,List.not_mem_nil,or_false] at ht
 subst ht
 ·exact ⟨by kernel_rfl,of_decide_eq_true (by kernel_rfl)⟩
theorem wMA:laidOutB Tryz.prog=true:=by kernel_rfl
theorem wMB:mapsRowed Tryz.prog=true:=by kernel_rfl
theorem wMC:(Tryz.prog.stops == [])=true:=by kernel_rfl
theorem wMD:(Tryz.prog.stopKnobs == [])=true:=by kernel_rfl
theorem wME:(Rows.relayResultsRow.inPlace == Tryz.prog.inPlace 3)=true:=by kernel_rfl
theorem wMF:(Rows.relayResultsRow.unfollowed == Tryz.prog.unfollowed 3)=true:=by kernel_rfl
theorem wMG:(Rows.relayResultsRow.recurses == Tryz.prog.recurses 3)=true:=by kernel_rfl
theorem wMH:(Rows.relayResultsRow.named == Tryz.prog.varsNamed 3)=true:=by kernel_rfl
theorem wMI:(Rows.relayResultsRow.plainKeys == Tryz.prog.plainKeys)=true:=by kernel_rfl
theorem wMJ:Tryz.prog.stopsHeard=true:=by kernel_rfl
theorem wLQ:Tryz.prog.mayEnter=true:=by kernel_rfl
theorem wLR:(Rows.relayResultsRow.lifted == Tryz.prog.liftsFinal)=true:=by kernel_rfl
theorem wLS:wID Tryz.prog Tryz.f3 Rows.relayResultsSpec Rows.relayResultsRow=true:=by kernel_rfl
theorem wJe:joinedFacts Tryz.prog 3 Tryz.f3 Rows.relayResultsSpec Rows.relayResultsRow=true:=wNu wMA wMB wMC wMD wME wMF wMG wMH wMI wMJ wLQ wLR wLS
theorem relay_results:Rows.RelayResultsSaid :=
 OpenClaim.holds_of_wide 3 Tryz.f3 rfl rfl rfl rfl rfl rfl rfl ⟨rfl,rfl,rfl,rfl,rfl⟩ rfl rfl rfl rfl rfl (by kernel_rfl) Tryz.func3 wJe
  (of_decide_eq_true (by kernel_rfl)) (by unfold Func.isWrapper;rw [if_neg (by decide +kernel)];exact ⟨rfl,rfl⟩)
  (fun os started H enc _=>wJd os started H enc)
#print axioms relay_results
end Go.Proofs.YtabadkdjndnliaaGreat
