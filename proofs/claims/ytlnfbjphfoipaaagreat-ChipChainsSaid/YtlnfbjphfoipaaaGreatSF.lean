import Derived.Test.YtlnfbjphfoipaaaGreatRows
import Derived.Test.YtlnfbjphfoipaaaGreatS0
import Derived.Test.YtlnfbjphfoipaaaGreatS8
import Derived.Test.YtlnfbjphfoipaaaGreatS2
set_option linter.all false
open List renaming drop_succ_cons->hD,take_succ_cons->hH,drop_zero->hU,take_zero->nA,toArray->nB
open List.cons renaming injEq->hJ
open Go.Value renaming cells->nD,agg->nG
open Array renaming ext'->nE
namespace Go.Proofs.YtlnfbjphfoipaaaGreat
open Go.KL
open Go.ChangeShapes Go.WideShapes Go.ChangeAt Go.RowKit
theorem wJv:ownKnob Tryz.prog.godebug=none:=by kernel_rfl
theorem wJZ:laidOutB Tryz.prog=true:=by kernel_rfl
theorem wHg:Tryz.prog.cellsOf 27=4:=by kernel_rfl
theorem wFm {α:Type} {l:List α} (h:l.length=4):∃ c0 c1 c2 c3,l=[c0,c1,c2,c3] :=
 match l,h with
 | [c0,c1,c2,c3],_=>⟨c0,c1,c2,c3,rfl⟩
theorem wHh:Tryz.prog.cellsOf 22=1:=by kernel_rfl
theorem wKs {H:Type} {enc:TypeId × Value->H} {W:World} {n:Nat} {cs:List Value} {y:DataW H × List MemPlace} (h:DataW.trod enc Tryz.prog W 0 (fun _=>true) true n 3 cs=some y):∃ x,cs=KL.encI x/\True:=by
 obtain ⟨x,e,_,_⟩:=DataW.trod_int Tryz.underlying3 h
 exact ⟨x,e,trivial⟩
theorem wAs:Tryz.prog.cellsOf 3=1:=by kernel_rfl
theorem wHi:Tryz.prog.cellsOf 23=1:=by kernel_rfl
theorem wEw:Tryz.prog.cellsOf 39=2:=by kernel_rfl
theorem wFn {α:Type} {l:List α} (h:l.length=2):∃ c0 c1,l=[c0,c1] :=
 match l,h with
 | [c0,c1],_=>⟨c0,c1,rfl⟩
theorem wJw {H:Type} {enc:TypeId × Value->H} {W:World} {n:Nat} {cs:List Value} {y:DataW H × List MemPlace} (h:DataW.trod enc Tryz.prog W 0 (fun _=>true) true n 39 cs=some y):∃ x,cs=wAD x/\True:=by
 obtain ⟨hl,k,hf⟩:=wDc Tryz.underlying39 h
 rw [wEw] at hl
 obtain ⟨c0,c1,rfl⟩:=wFn hl
 have g0:∃ y,DataW.trod enc Tryz.prog W 0 (fun _=>true) true k 3 (([c0,c1].drop 0).take (Tryz.prog.cellsOf 3))=some y:=hf 0 _ rfl
 rw [wAs] at g0
 obtain ⟨_,g0⟩:=g0
 obtain ⟨i1,e1,_,_⟩:=DataW.trod_int Tryz.underlying3 g0
 have g2:∃ y,DataW.trod enc Tryz.prog W 0 (fun _=>true) true k 3 (([c0,c1].drop 1).take (Tryz.prog.cellsOf 3))=some y:=hf 1 _ rfl
 rw [wAs] at g2
 obtain ⟨_,g2⟩:=g2
 obtain ⟨i3,e3,_,_⟩:=DataW.trod_int Tryz.underlying3 g2
 simp only [hU,hD,hH,nA,hJ,and_true] at e1 e3
 subst e1 e3
 exact ⟨⟨i1,i3⟩,rfl,trivial⟩
theorem wHj:Tryz.prog.cellsOf 24=1:=by kernel_rfl
theorem wFY:Tryz.prog.cellsOf 112=3:=by kernel_rfl
theorem wJa {α:Type} {l:List α} (h:l.length=3):∃ c0 c1 c2,l=[c0,c1,c2] :=
 match l,h with
 | [c0,c1,c2],_=>⟨c0,c1,c2,rfl⟩
theorem wJb {H:Type} {enc:TypeId × Value->H} {W:World} {n:Nat} {cs:List Value} {y:DataW H × List MemPlace} (h:DataW.trod enc Tryz.prog W 0 (fun _=>true) true n 112 cs=some y):∃ x,cs=wAF x/\True:=by
 obtain ⟨hl,k,hf⟩:=wDc Tryz.underlying112 h
 rw [wFY] at hl
 obtain ⟨c0,c1,c2,rfl⟩:=wJa hl
 have g0:∃ y,DataW.trod enc Tryz.prog W 0 (fun _=>true) true k 39 (([c0,c1,c2].drop 0).take (Tryz.prog.cellsOf 39))=some y:=hf 0 _ rfl
 rw [wEw] at g0
 obtain ⟨_,g0⟩:=g0
 obtain ⟨_,k1,hf1⟩:=wDc Tryz.underlying39 g0
 have g2:∃ y,DataW.trod enc Tryz.prog W 0 (fun _=>true) true k1 3 (([c0,c1].drop 0).take (Tryz.prog.cellsOf 3))=some y:=hf1 0 _ rfl
 rw [wAs] at g2
 obtain ⟨_,g2⟩:=g2
 obtain ⟨i3,e3,_,_⟩:=DataW.trod_int Tryz.underlying3 g2
 have g4:∃ y,DataW.trod enc Tryz.prog W 0 (fun _=>true) true k1 3 (([c0,c1].drop 1).take (Tryz.prog.cellsOf 3))=some y:=hf1 1 _ rfl
 rw [wAs] at g4
 obtain ⟨_,g4⟩:=g4
 obtain ⟨i5,e5,_,_⟩:=DataW.trod_int Tryz.underlying3 g4
 have g6:∃ y,DataW.trod enc Tryz.prog W 0 (fun _=>true) true k 3 (([c0,c1,c2].drop 2).take (Tryz.prog.cellsOf 3))=some y:=hf 1 _ rfl
 rw [wAs] at g6
 obtain ⟨_,g6⟩:=g6
 obtain ⟨i7,e7,_,_⟩:=DataW.trod_int Tryz.underlying3 g6
 simp only [hU,hD,hH,nA,hJ,and_true] at e3 e5 e7
 subst e3 e5 e7
 exact ⟨⟨⟨i3,i5⟩,i7⟩,rfl,trivial⟩
theorem wHk:Tryz.prog.cellsOf 25=1:=by kernel_rfl
theorem wFZ:Tryz.prog.cellsOf 115=4:=by kernel_rfl
theorem wJc {H:Type} {enc:TypeId × Value->H} {W:World} {n:Nat} {cs:List Value} {y:DataW H × List MemPlace} (h:DataW.trod enc Tryz.prog W 0 (fun _=>true) true n 115 cs=some y):∃ x,cs=wAB x/\True:=by
 obtain ⟨hl,k,hf⟩:=wDc Tryz.underlying115 h
 rw [wFZ] at hl
 obtain ⟨c0,c1,c2,c3,rfl⟩:=wFm hl
 have g0:∃ y,DataW.trod enc Tryz.prog W 0 (fun _=>true) true k 3 (([c0,c1,c2,c3].drop 0).take (Tryz.prog.cellsOf 3))=some y:=hf 0 _ rfl
 rw [wAs] at g0
 obtain ⟨_,g0⟩:=g0
 obtain ⟨i1,e1,_,_⟩:=DataW.trod_int Tryz.underlying3 g0
 have g2:∃ y,DataW.trod enc Tryz.prog W 0 (fun _=>true) true k 3 (([c0,c1,c2,c3].drop 1).take (Tryz.prog.cellsOf 3))=some y:=hf 1 _ rfl
 rw [wAs] at g2
 obtain ⟨_,g2⟩:=g2
 obtain ⟨i3,e3,_,_⟩:=DataW.trod_int Tryz.underlying3 g2
 have g4:∃ y,DataW.trod enc Tryz.prog W 0 (fun _=>true) true k 3 (([c0,c1,c2,c3].drop 2).take (Tryz.prog.cellsOf 3))=some y:=hf 2 _ rfl
 rw [wAs] at g4
 obtain ⟨_,g4⟩:=g4
 obtain ⟨i5,e5,_,_⟩:=DataW.trod_int Tryz.underlying3 g4
 have g6:∃ y,DataW.trod enc Tryz.prog W 0 (fun _=>true) true k 3 (([c0,c1,c2,c3].drop 3).take (Tryz.prog.cellsOf 3))=some y:=hf 3 _ rfl
 rw [wAs] at g6
 obtain ⟨_,g6⟩:=g6
 obtain ⟨i7,e7,_,_⟩:=DataW.trod_int Tryz.underlying3 g6
 simp only [hU,hD,hH,nA,hJ,and_true] at e1 e3 e5 e7
 subst e1 e3 e5 e7
 exact ⟨⟨i1,i3,i5,i7⟩,rfl,trivial⟩
theorem wFo:Tryz.prog.cellsOf 29=2:=by kernel_rfl
theorem wFp:Tryz.prog.cellsOf 93=4:=by kernel_rfl
theorem wHl:Tryz.prog.cellsOf 91=1:=by kernel_rfl
theorem wIJ:Tryz.prog.cellsOf 4=1:=by kernel_rfl
theorem wJx {H:Type} {enc:TypeId × Value->H} {W:World} {n:Nat} {cs:List Value} {y:DataW H × List MemPlace} (h:DataW.trod enc Tryz.prog W 0 (fun _=>true) true n 93 cs=some y):∃ x,cs=wAJ x/\True:=by
 obtain ⟨hl,k,hf⟩:=wDc Tryz.underlying93 h
 rw [wFp] at hl
 obtain ⟨c0,c1,c2,c3,rfl⟩:=wFm hl
 have g0:∃ y,DataW.trod enc Tryz.prog W 0 (fun _=>true) true k 91 (([c0,c1,c2,c3].drop 0).take (Tryz.prog.cellsOf 91))=some y:=hf 0 _ rfl
 rw [wHl] at g0
 obtain ⟨_,g0⟩:=g0
 obtain ⟨i1,e1,_,_⟩:=DataW.trod_int Tryz.underlying91 g0
 have g2:∃ y,DataW.trod enc Tryz.prog W 0 (fun _=>true) true k 3 (([c0,c1,c2,c3].drop 1).take (Tryz.prog.cellsOf 3))=some y:=hf 1 _ rfl
 rw [wAs] at g2
 obtain ⟨_,g2⟩:=g2
 obtain ⟨i3,e3,_,_⟩:=DataW.trod_int Tryz.underlying3 g2
 have g4:∃ y,DataW.trod enc Tryz.prog W 0 (fun _=>true) true k 3 (([c0,c1,c2,c3].drop 2).take (Tryz.prog.cellsOf 3))=some y:=hf 2 _ rfl
 rw [wAs] at g4
 obtain ⟨_,g4⟩:=g4
 obtain ⟨i5,e5,_,_⟩:=DataW.trod_int Tryz.underlying3 g4
 have g6:∃ y,DataW.trod enc Tryz.prog W 0 (fun _=>true) true k 4 (([c0,c1,c2,c3].drop 3).take (Tryz.prog.cellsOf 4))=some y:=hf 3 _ rfl
 rw [wIJ] at g6
 obtain ⟨_,g6⟩:=g6
 obtain ⟨i7,e7,_⟩:=DataW.trod_bool Tryz.underlying4 g6
 simp only [hU,hD,hH,nA,hJ,and_true] at e1 e3 e5 e7
 subst e1 e3 e5 e7
 exact ⟨⟨i1,i3,i5,i7⟩,rfl,trivial⟩
set_option maxRecDepth 100000 in
theorem wIK (os:Os) (started:os.Started) (H:Type) (enc:TypeId × Value->H) :
  ReturnsInHanded {} Tryz.checked os 7 .any (Rows.chipChainsSpec.pre6 enc Tryz.prog Tryz.f7 Rows.chipChainsRow.domain false) (Rows.chipChainsSpec.post enc Tryz.prog Tryz.f7 false true false false):=by
 refine returnsInHanded_of_change (C:=Tryz.checked) wJv started (by kernel_rfl) Tryz.func7
  (ChangeSpec.witness6 (enc:=enc) (C:=Tryz.checked) false ⟨#[],#[.agg #[.slice none 0 0,.slice none 0 0,.slice none 0 0,.slice none 0 0],.agg #[.int .i64 0,.int .i64 0],.agg #[.int .i64 0,.int .i64 0],.slice none 0 0],[]⟩ 8 (by kernel_rfl) (by kernel_rfl) (by kernel_rfl) (by kernel_rfl)) ?_
 intro W base args ds gs before hval0 hW hcnd _
 have hval:∀ (j:Nat) t v,Tryz.f7.params[j]?=some t->args[j]?=some v->Value.okWide Tryz.prog W .any base t v:=hval0
 have hW':=hW
 obtain ⟨p,q,hA0,hV,rfl,hfz,hnd⟩:=hW
 have hA:DataW.TrodAll enc Tryz.prog W 0 (fun _=>true) true Tryz.f7.params.toList args.toList ds p:=hA0
 rw [Tryz.params7] at hA hval
 obtain ⟨v0,v1,v2,v3,d0,d1,d2,d3,p0,p1,p2,p3,rfl,rfl,rfl,h0,h1,h2,h3⟩:=trodAll_four hA
 obtain ⟨rfl,rfl⟩:=trodVars_none hV
 obtain ⟨cs0,rfl,_⟩:=okWide_struct Tryz.underlying27 (hval 0 27 v0 rfl rfl)
 obtain ⟨n0,hn0⟩:=h0
 have hq0:(nG cs0).cells.toList=cs0.toList:=by simp [nD]
 rw [hq0] at hn0
 obtain ⟨hl0,kf0,hf0⟩:=wDc Tryz.underlying27 hn0
 rw [wHg] at hl0
 obtain ⟨c0_0,c0_1,c0_2,c0_3,hc0⟩:=wFm hl0
 have g0_0:∃ y,DataW.trod enc Tryz.prog W 0 (fun _=>true) true kf0 22 (([c0_0,c0_1,c0_2,c0_3].drop 0).take (Tryz.prog.cellsOf 22))=some y:=by have q:=hf0 0 _ rfl;rw [hc0] at q;exact q
 rw [wHh] at g0_0
 obtain ⟨_,g0_0⟩:=g0_0
 obtain ⟨Ai0_1,ki0_1,i0_1,e0_1,hSi0_1,_⟩:=wFI (f:=KL.encI) (sz:=1) (by decide) (fun _=>rfl) Tryz.underlying22 wAs (fun _=>True) (fun _ _ _=>wKs) g0_0
 have g0_2:∃ y,DataW.trod enc Tryz.prog W 0 (fun _=>true) true kf0 23 (([c0_0,c0_1,c0_2,c0_3].drop 1).take (Tryz.prog.cellsOf 23))=some y:=by have q:=hf0 1 _ rfl;rw [hc0] at q;exact q
 rw [wHi] at g0_2
 obtain ⟨_,g0_2⟩:=g0_2
 obtain ⟨Ai0_3,ki0_3,i0_3,e0_3,hSi0_3,_⟩:=wFI (f:=wAD) (sz:=2) (by decide) (fun _=>rfl) Tryz.underlying23 wEw (fun _=>True) (fun _ _ _=>wJw) g0_2
 have g0_4:∃ y,DataW.trod enc Tryz.prog W 0 (fun _=>true) true kf0 24 (([c0_0,c0_1,c0_2,c0_3].drop 2).take (Tryz.prog.cellsOf 24))=some y:=by have q:=hf0 2 _ rfl;rw [hc0] at q;exact q
 rw [wHj] at g0_4
 obtain ⟨_,g0_4⟩:=g0_4
 obtain ⟨Ai0_5,ki0_5,i0_5,e0_5,hSi0_5,_⟩:=wFI (f:=wAF) (sz:=3) (by decide) (fun _=>rfl) Tryz.underlying24 wFY (fun _=>True) (fun _ _ _=>wJb) g0_4
 have g0_6:∃ y,DataW.trod enc Tryz.prog W 0 (fun _=>true) true kf0 25 (([c0_0,c0_1,c0_2,c0_3].drop 3).take (Tryz.prog.cellsOf 25))=some y:=by have q:=hf0 3 _ rfl;rw [hc0] at q;exact q
 rw [wHk] at g0_6
 obtain ⟨_,g0_6⟩:=g0_6
 obtain ⟨Ai0_7,ki0_7,i0_7,e0_7,hSi0_7,_⟩:=wFI (f:=wAB) (sz:=4) (by decide) (fun _=>rfl) Tryz.underlying25 wFZ (fun _=>True) (fun _ _ _=>wJc) g0_6
 simp only [hU,hD,hH,nA,hJ,and_true] at e0_1 e0_3 e0_5 e0_7
 subst e0_1 e0_3 e0_5 e0_7
 obtain rfl:=nE (ys:=nB _) (by simpa using hc0)
 obtain ⟨cs1,rfl,_⟩:=okWide_struct Tryz.underlying29 (hval 1 29 v1 rfl rfl)
 obtain ⟨n1,hn1⟩:=h1
 have hq1:(nG cs1).cells.toList=cs1.toList:=by simp [nD]
 rw [hq1] at hn1
 obtain ⟨hl1,kf1,hf1⟩:=wDc Tryz.underlying29 hn1
 rw [wFo] at hl1
 obtain ⟨c1_0,c1_1,hc1⟩:=wFn hl1
 have g1_0:∃ y,DataW.trod enc Tryz.prog W 0 (fun _=>true) true kf1 3 (([c1_0,c1_1].drop 0).take (Tryz.prog.cellsOf 3))=some y:=by have q:=hf1 0 _ rfl;rw [hc1] at q;exact q
 rw [wAs] at g1_0
 obtain ⟨_,g1_0⟩:=g1_0
 obtain ⟨i1_1,e1_1,_,wi1_1⟩:=DataW.trod_int Tryz.underlying3 g1_0
 have g1_2:∃ y,DataW.trod enc Tryz.prog W 0 (fun _=>true) true kf1 3 (([c1_0,c1_1].drop 1).take (Tryz.prog.cellsOf 3))=some y:=by have q:=hf1 1 _ rfl;rw [hc1] at q;exact q
 rw [wAs] at g1_2
 obtain ⟨_,g1_2⟩:=g1_2
 obtain ⟨i1_3,e1_3,_,wi1_3⟩:=DataW.trod_int Tryz.underlying3 g1_2
 simp only [hU,hD,hH,nA,hJ,and_true] at e1_1 e1_3
 subst e1_1 e1_3
 obtain rfl:=nE (ys:=nB _) (by simpa using hc1)
 obtain ⟨cs2,rfl,_⟩:=okWide_struct Tryz.underlying29 (hval 2 29 v2 rfl rfl)
 obtain ⟨n2,hn2⟩:=h2
 have hq2:(nG cs2).cells.toList=cs2.toList:=by simp [nD]
 rw [hq2] at hn2
 obtain ⟨hl2,kf2,hf2⟩:=wDc Tryz.underlying29 hn2
 rw [wFo] at hl2
 obtain ⟨c2_0,c2_1,hc2⟩:=wFn hl2
 have g2_0:∃ y,DataW.trod enc Tryz.prog W 0 (fun _=>true) true kf2 3 (([c2_0,c2_1].drop 0).take (Tryz.prog.cellsOf 3))=some y:=by have q:=hf2 0 _ rfl;rw [hc2] at q;exact q
 rw [wAs] at g2_0
 obtain ⟨_,g2_0⟩:=g2_0
 obtain ⟨i2_1,e2_1,_,wi2_1⟩:=DataW.trod_int Tryz.underlying3 g2_0
 have g2_2:∃ y,DataW.trod enc Tryz.prog W 0 (fun _=>true) true kf2 3 (([c2_0,c2_1].drop 1).take (Tryz.prog.cellsOf 3))=some y:=by have q:=hf2 1 _ rfl;rw [hc2] at q;exact q
 rw [wAs] at g2_2
 obtain ⟨_,g2_2⟩:=g2_2
 obtain ⟨i2_3,e2_3,_,wi2_3⟩:=DataW.trod_int Tryz.underlying3 g2_2
 simp only [hU,hD,hH,nA,hJ,and_true] at e2_1 e2_3
 subst e2_1 e2_3
 obtain rfl:=nE (ys:=nB _) (by simpa using hc2)
 obtain ⟨A3,k3,xs3,rfl,hS3,_⟩:=wLS (f:=wAJ) (sz:=4) (by decide) (fun _=>rfl) Tryz.underlying89 wFp (fun _=>True) (fun _ _ _=>wJx) h3 (okWide_slice Tryz.underlying89 (hval 3 89 v3 rfl rfl))
 have hg:=wFF (⟨i0_1,i0_3,i0_5,i0_7⟩:wAA) Ai0_1 ki0_1 Ai0_3 ki0_3 Ai0_5 ki0_5 Ai0_7 ki0_7 (⟨i1_1,i1_3⟩:wAM)  (⟨i2_1,i2_3⟩:wAM)  xs3 A3 k3 W _ (St.start W) hSi0_1 hSi0_3 hSi0_5 hSi0_7 hS3 (wKr (⟨i0_1,i0_3,i0_5,i0_7⟩:wAA) (⟨i1_1,i1_3⟩:wAM) (⟨i2_1,i2_3⟩:wAM) xs3)
 refine Calls.mono' hg fun e W' ⟨v,he,φ',L',hst,hv,_⟩=>?_
 subst he;subst hv
 refine ⟨_,rfl,wLQ (P:=Tryz.prog) hW' rfl wJZ ?_ (t:=4) (by kernel_rfl) Tryz.underlying4 true rfl rfl rfl hst.kp0⟩
 rw [Tryz.params7]
 intro t ht
 simp only [List.mem_cons,List.not_mem_nil,or_false] at ht
 rcases ht with rfl | rfl | rfl | rfl
 ·exact ⟨by kernel_rfl,of_decide_eq_true (by kernel_rfl)⟩
 ·exact ⟨by kernel_rfl,of_decide_eq_true (by kernel_rfl)⟩
 ·exact ⟨by kernel_rfl,of_decide_eq_true (by kernel_rfl)⟩
 ·exact ⟨by kernel_rfl,of_decide_eq_true (by kernel_rfl)⟩
theorem wKt:laidOutB Tryz.prog=true:=by kernel_rfl
theorem wKu:mapsRowed Tryz.prog=true:=by kernel_rfl
theorem wKv:(Tryz.prog.stops == [])=true:=by kernel_rfl
theorem wKw:(Tryz.prog.stopKnobs == [])=true:=by kernel_rfl
theorem wKx:(Rows.chipChainsRow.inPlace == Tryz.prog.inPlace 7)=true:=by kernel_rfl
theorem wKy:(Rows.chipChainsRow.unfollowed == Tryz.prog.unfollowed 7)=true:=by kernel_rfl
theorem wKz:(Rows.chipChainsRow.recurses == Tryz.prog.recurses 7)=true:=by kernel_rfl
theorem wLA:(Rows.chipChainsRow.named == Tryz.prog.varsNamed 7)=true:=by kernel_rfl
theorem wLB:(Rows.chipChainsRow.plainKeys == Tryz.prog.plainKeys)=true:=by kernel_rfl
theorem wLC:Tryz.prog.stopsHeard=true:=by kernel_rfl
theorem wJy:Tryz.prog.mayEnter=true:=by kernel_rfl
theorem wJz:(Rows.chipChainsRow.lifted == Tryz.prog.liftsFinal)=true:=by kernel_rfl
theorem wKA:wGw Tryz.prog Tryz.f7 Rows.chipChainsSpec Rows.chipChainsRow=true:=by kernel_rfl
theorem wIL:joinedFacts Tryz.prog 7 Tryz.f7 Rows.chipChainsSpec Rows.chipChainsRow=true:=wLT wKt wKu wKv wKw wKx wKy wKz wLA wLB wLC wJy wJz wKA
theorem chip_chains:Rows.ChipChainsSaid :=
 OpenClaim.holds_of_wide 7 Tryz.f7 rfl rfl rfl rfl rfl rfl rfl ⟨rfl,rfl,rfl,rfl,rfl⟩ rfl rfl rfl rfl rfl (by kernel_rfl) Tryz.func7 wIL
  (of_decide_eq_true (by kernel_rfl)) (by unfold Func.isWrapper;rw [if_neg (by decide +kernel)];exact ⟨rfl,rfl⟩)
  (fun os started H enc _=>wIK os started H enc)
#print axioms chip_chains
end Go.Proofs.YtlnfbjphfoipaaaGreat
