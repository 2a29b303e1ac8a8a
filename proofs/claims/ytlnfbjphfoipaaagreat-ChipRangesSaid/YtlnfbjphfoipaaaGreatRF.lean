import Derived.Test.YtlnfbjphfoipaaaGreatRows
import Derived.Test.YtlnfbjphfoipaaaGreatR0
import Derived.Test.YtlnfbjphfoipaaaGreatR9
import Derived.Test.YtlnfbjphfoipaaaGreatR3
set_option linter.all false
open List renaming drop_succ_cons->hH,take_succ_cons->nA,drop_zero->nD,take_zero->nE,toArray->nG
open List.cons renaming injEq->nB
open Go.Value renaming cells->nH,agg->nJ
open Array renaming ext'->nI
namespace Go.Proofs.YtlnfbjphfoipaaaGreat
open Go.KL
open Go.ChangeShapes Go.WideShapes Go.ChangeAt Go.RowKit
theorem wLZ:ownKnob Tryz.prog.godebug=none:=by kernel_rfl
theorem wKd:laidOutB Tryz.prog=true:=by kernel_rfl
theorem wQO {H:Type} {enc:TypeId × Value->H} {P:Program} {w:World} {base:Nat} {spare:Nat->Bool} {held:Bool} {t0 t1 t2 t3 t4:TypeId} {args:Array Value} {ds:List (DataW H)} {ps:List MemPlace} (h:DataW.TrodAll enc P w base spare held [t0,t1,t2,t3,t4] args.toList ds ps) :
  ∃ v0 v1 v2 v3 v4 d0 d1 d2 d3 d4 p0 p1 p2 p3 p4,args=#[v0,v1,v2,v3,v4]/\ds=[d0,d1,d2,d3,d4]/\ps=p0 ++ p1 ++ p2 ++ p3 ++ p4/\DataW.Trod enc P w base spare held t0 v0 d0 p0/\DataW.Trod enc P w base spare held t1 v1 d1 p1/\DataW.Trod enc P w base spare held t2 v2 d2 p2/\DataW.Trod enc P w base spare held t3 v3 d3 p3/\DataW.Trod enc P w base spare held t4 v4 d4 p4:=by
 obtain ⟨v0,l0,d0,e0,p0,q0,hargs,rfl,rfl,h0,r0⟩:=trodAll_cons h
 obtain ⟨v1,l1,d1,e1,p1,q1,rfl,rfl,rfl,h1,r1⟩:=trodAll_cons r0
 obtain ⟨v2,l2,d2,e2,p2,q2,rfl,rfl,rfl,h2,r2⟩:=trodAll_cons r1
 obtain ⟨v3,l3,d3,e3,p3,q3,rfl,rfl,rfl,h3,r3⟩:=trodAll_cons r2
 obtain ⟨v4,l4,d4,e4,p4,q4,rfl,rfl,rfl,h4,r4⟩:=trodAll_cons r3
 obtain ⟨rfl,rfl,rfl⟩:=trodAll_nil r4
 exact ⟨v0,v1,v2,v3,v4,d0,d1,d2,d3,d4,p0,p1,p2,p3,p4,by cases args;simp_all,rfl,by simp,h0,h1,h2,h3,h4⟩
theorem wIS:Tryz.prog.cellsOf 27=4:=by kernel_rfl
theorem wHL {α:Type} {l:List α} (h:l.length=4):∃ c0 c1 c2 c3,l=[c0,c1,c2,c3] :=
 match l,h with
 | [c0,c1,c2,c3],_=>⟨c0,c1,c2,c3,rfl⟩
theorem wIT:Tryz.prog.cellsOf 22=1:=by kernel_rfl
theorem wMu {H:Type} {enc:TypeId × Value->H} {W:World} {n:Nat} {cs:List Value} {y:DataW H × List MemPlace} (h:DataW.trod enc Tryz.prog W 0 (fun _=>true) true n 3 cs=some y):∃ x,cs=KL.encI x/\True:=by
 obtain ⟨x,e,_,_⟩:=DataW.trod_int Tryz.underlying3 h
 exact ⟨x,e,trivial⟩
theorem wAp:Tryz.prog.cellsOf 3=1:=by kernel_rfl
theorem wIU:Tryz.prog.cellsOf 23=1:=by kernel_rfl
theorem wET:Tryz.prog.cellsOf 39=2:=by kernel_rfl
theorem wFT {α:Type} {l:List α} (h:l.length=2):∃ c0 c1,l=[c0,c1] :=
 match l,h with
 | [c0,c1],_=>⟨c0,c1,rfl⟩
theorem wLa {H:Type} {enc:TypeId × Value->H} {W:World} {n:Nat} {cs:List Value} {y:DataW H × List MemPlace} (h:DataW.trod enc Tryz.prog W 0 (fun _=>true) true n 39 cs=some y):∃ x,cs=wAB x/\True:=by
 obtain ⟨hl,k,hf⟩:=wDI Tryz.underlying39 h
 rw [wET] at hl
 obtain ⟨c0,c1,rfl⟩:=wFT hl
 have g0:∃ y,DataW.trod enc Tryz.prog W 0 (fun _=>true) true k 3 (([c0,c1].drop 0).take (Tryz.prog.cellsOf 3))=some y:=hf 0 _ rfl
 rw [wAp] at g0
 obtain ⟨_,g0⟩:=g0
 obtain ⟨i1,e1,_,_⟩:=DataW.trod_int Tryz.underlying3 g0
 have g2:∃ y,DataW.trod enc Tryz.prog W 0 (fun _=>true) true k 3 (([c0,c1].drop 1).take (Tryz.prog.cellsOf 3))=some y:=hf 1 _ rfl
 rw [wAp] at g2
 obtain ⟨_,g2⟩:=g2
 obtain ⟨i3,e3,_,_⟩:=DataW.trod_int Tryz.underlying3 g2
 simp only [nD,hH,nA,nE,nB,and_true] at e1 e3
 subst e1 e3
 exact ⟨⟨i1,i3⟩,rfl,trivial⟩
theorem wIV:Tryz.prog.cellsOf 24=1:=by kernel_rfl
theorem wFB:Tryz.prog.cellsOf 112=3:=by kernel_rfl
theorem wKe {α:Type} {l:List α} (h:l.length=3):∃ c0 c1 c2,l=[c0,c1,c2] :=
 match l,h with
 | [c0,c1,c2],_=>⟨c0,c1,c2,rfl⟩
theorem wKf {H:Type} {enc:TypeId × Value->H} {W:World} {n:Nat} {cs:List Value} {y:DataW H × List MemPlace} (h:DataW.trod enc Tryz.prog W 0 (fun _=>true) true n 112 cs=some y):∃ x,cs=wAD x/\True:=by
 obtain ⟨hl,k,hf⟩:=wDI Tryz.underlying112 h
 rw [wFB] at hl
 obtain ⟨c0,c1,c2,rfl⟩:=wKe hl
 have g0:∃ y,DataW.trod enc Tryz.prog W 0 (fun _=>true) true k 39 (([c0,c1,c2].drop 0).take (Tryz.prog.cellsOf 39))=some y:=hf 0 _ rfl
 rw [wET] at g0
 obtain ⟨_,g0⟩:=g0
 obtain ⟨_,k1,hf1⟩:=wDI Tryz.underlying39 g0
 have g2:∃ y,DataW.trod enc Tryz.prog W 0 (fun _=>true) true k1 3 (([c0,c1].drop 0).take (Tryz.prog.cellsOf 3))=some y:=hf1 0 _ rfl
 rw [wAp] at g2
 obtain ⟨_,g2⟩:=g2
 obtain ⟨i3,e3,_,_⟩:=DataW.trod_int Tryz.underlying3 g2
 have g4:∃ y,DataW.trod enc Tryz.prog W 0 (fun _=>true) true k1 3 (([c0,c1].drop 1).take (Tryz.prog.cellsOf 3))=some y:=hf1 1 _ rfl
 rw [wAp] at g4
 obtain ⟨_,g4⟩:=g4
 obtain ⟨i5,e5,_,_⟩:=DataW.trod_int Tryz.underlying3 g4
 have g6:∃ y,DataW.trod enc Tryz.prog W 0 (fun _=>true) true k 3 (([c0,c1,c2].drop 2).take (Tryz.prog.cellsOf 3))=some y:=hf 1 _ rfl
 rw [wAp] at g6
 obtain ⟨_,g6⟩:=g6
 obtain ⟨i7,e7,_,_⟩:=DataW.trod_int Tryz.underlying3 g6
 simp only [nD,hH,nA,nE,nB,and_true] at e3 e5 e7
 subst e3 e5 e7
 exact ⟨⟨⟨i3,i5⟩,i7⟩,rfl,trivial⟩
theorem wIW:Tryz.prog.cellsOf 25=1:=by kernel_rfl
theorem wFC:Tryz.prog.cellsOf 115=4:=by kernel_rfl
theorem wKg {H:Type} {enc:TypeId × Value->H} {W:World} {n:Nat} {cs:List Value} {y:DataW H × List MemPlace} (h:DataW.trod enc Tryz.prog W 0 (fun _=>true) true n 115 cs=some y):∃ x,cs=wAC x/\True:=by
 obtain ⟨hl,k,hf⟩:=wDI Tryz.underlying115 h
 rw [wFC] at hl
 obtain ⟨c0,c1,c2,c3,rfl⟩:=wHL hl
 have g0:∃ y,DataW.trod enc Tryz.prog W 0 (fun _=>true) true k 3 (([c0,c1,c2,c3].drop 0).take (Tryz.prog.cellsOf 3))=some y:=hf 0 _ rfl
 rw [wAp] at g0
 obtain ⟨_,g0⟩:=g0
 obtain ⟨i1,e1,_,_⟩:=DataW.trod_int Tryz.underlying3 g0
 have g2:∃ y,DataW.trod enc Tryz.prog W 0 (fun _=>true) true k 3 (([c0,c1,c2,c3].drop 1).take (Tryz.prog.cellsOf 3))=some y:=hf 1 _ rfl
 rw [wAp] at g2
 obtain ⟨_,g2⟩:=g2
 obtain ⟨i3,e3,_,_⟩:=DataW.trod_int Tryz.underlying3 g2
 have g4:∃ y,DataW.trod enc Tryz.prog W 0 (fun _=>true) true k 3 (([c0,c1,c2,c3].drop 2).take (Tryz.prog.cellsOf 3))=some y:=hf 2 _ rfl
 rw [wAp] at g4
 obtain ⟨_,g4⟩:=g4
 obtain ⟨i5,e5,_,_⟩:=DataW.trod_int Tryz.underlying3 g4
 have g6:∃ y,DataW.trod enc Tryz.prog W 0 (fun _=>true) true k 3 (([c0,c1,c2,c3].drop 3).take (Tryz.prog.cellsOf 3))=some y:=hf 3 _ rfl
 rw [wAp] at g6
 obtain ⟨_,g6⟩:=g6
 obtain ⟨i7,e7,_,_⟩:=DataW.trod_int Tryz.underlying3 g6
 simp only [nD,hH,nA,nE,nB,and_true] at e1 e3 e5 e7
 subst e1 e3 e5 e7
 exact ⟨⟨i1,i3,i5,i7⟩,rfl,trivial⟩
theorem wFU:Tryz.prog.cellsOf 29=2:=by kernel_rfl
set_option maxRecDepth 100000 in
theorem wIo (os:Os) (started:os.Started) (H:Type) (enc:TypeId × Value->H) :
  ReturnsInHanded {} Tryz.checked os 3 .any (Rows.chipRangesSpec.pre6 enc Tryz.prog Tryz.f3 Rows.chipRangesRow.domain false) (Rows.chipRangesSpec.post enc Tryz.prog Tryz.f3 false true false false):=by
 refine returnsInHanded_of_change (C:=Tryz.checked) wLZ started (by kernel_rfl) Tryz.func3
  (ChangeSpec.witness6 (enc:=enc) (C:=Tryz.checked) false ⟨#[],#[.agg #[.slice none 0 0,.slice none 0 0,.slice none 0 0,.slice none 0 0],.agg #[.int .i64 0,.int .i64 0],.agg #[.int .i64 0,.int .i64 0],.int .i64 0,.bool false],[]⟩ 8 (by kernel_rfl) (by kernel_rfl) (by kernel_rfl) (by kernel_rfl)) ?_
 intro W base args ds gs before hval0 hW hcnd _
 have hval:∀ (j:Nat) t v,Tryz.f3.params[j]?=some t->args[j]?=some v->Value.okWide Tryz.prog W .any base t v:=hval0
 have hW':=hW
 obtain ⟨p,q,hA0,hV,rfl,hfz,hnd⟩:=hW
 have hA:DataW.TrodAll enc Tryz.prog W 0 (fun _=>true) true Tryz.f3.params.toList args.toList ds p:=hA0
 rw [Tryz.params3] at hA hval
 obtain ⟨v0,v1,v2,v3,v4,d0,d1,d2,d3,d4,p0,p1,p2,p3,p4,rfl,rfl,rfl,h0,h1,h2,h3,h4⟩:=wQO hA
 obtain ⟨rfl,rfl⟩:=trodVars_none hV
 obtain ⟨cs0,rfl,_⟩:=okWide_struct Tryz.underlying27 (hval 0 27 v0 rfl rfl)
 obtain ⟨n0,hn0⟩:=h0
 have hq0:(nJ cs0).cells.toList=cs0.toList:=by simp [nH]
 rw [hq0] at hn0
 obtain ⟨hl0,kf0,hf0⟩:=wDI Tryz.underlying27 hn0
 rw [wIS] at hl0
 obtain ⟨c0_0,c0_1,c0_2,c0_3,hc0⟩:=wHL hl0
 have g0_0:∃ y,DataW.trod enc Tryz.prog W 0 (fun _=>true) true kf0 22 (([c0_0,c0_1,c0_2,c0_3].drop 0).take (Tryz.prog.cellsOf 22))=some y:=by have q:=hf0 0 _ rfl;rw [hc0] at q;exact q
 rw [wIT] at g0_0
 obtain ⟨_,g0_0⟩:=g0_0
 obtain ⟨Ai0_1,ki0_1,i0_1,e0_1,hSi0_1,_⟩:=wFY (f:=KL.encI) (sz:=1) (by decide) (fun _=>rfl) Tryz.underlying22 wAp (fun _=>True) (fun _ _ _=>wMu) g0_0
 have g0_2:∃ y,DataW.trod enc Tryz.prog W 0 (fun _=>true) true kf0 23 (([c0_0,c0_1,c0_2,c0_3].drop 1).take (Tryz.prog.cellsOf 23))=some y:=by have q:=hf0 1 _ rfl;rw [hc0] at q;exact q
 rw [wIU] at g0_2
 obtain ⟨_,g0_2⟩:=g0_2
 obtain ⟨Ai0_3,ki0_3,i0_3,e0_3,hSi0_3,_⟩:=wFY (f:=wAB) (sz:=2) (by decide) (fun _=>rfl) Tryz.underlying23 wET (fun _=>True) (fun _ _ _=>wLa) g0_2
 have g0_4:∃ y,DataW.trod enc Tryz.prog W 0 (fun _=>true) true kf0 24 (([c0_0,c0_1,c0_2,c0_3].drop 2).take (Tryz.prog.cellsOf 24))=some y:=by have q:=hf0 2 _ rfl;rw [hc0] at q;exact q
 rw [wIV] at g0_4
 obtain ⟨_,g0_4⟩:=g0_4
 obtain ⟨Ai0_5,ki0_5,i0_5,e0_5,hSi0_5,_⟩:=wFY (f:=wAD) (sz:=3) (by decide) (fun _=>rfl) Tryz.underlying24 wFB (fun _=>True) (fun _ _ _=>wKf) g0_4
 have g0_6:∃ y,DataW.trod enc Tryz.prog W 0 (fun _=>true) true kf0 25 (([c0_0,c0_1,c0_2,c0_3].drop 3).take (Tryz.prog.cellsOf 25))=some y:=by have q:=hf0 3 _ rfl;rw [hc0] at q;exact q
 rw [wIW] at g0_6
 obtain ⟨_,g0_6⟩:=g0_6
 obtain ⟨Ai0_7,ki0_7,i0_7,e0_7,hSi0_7,_⟩:=wFY (f:=wAC) (sz:=4) (by decide) (fun _=>rfl) Tryz.underlying25 wFC (fun _=>True) (fun _ _ _=>wKg) g0_6
 simp only [nD,hH,nA,nE,nB,and_true] at e0_1 e0_3 e0_5 e0_7
 subst e0_1 e0_3 e0_5 e0_7
 obtain rfl:=nI (ys:=nG _) (by simpa using hc0)
 obtain ⟨cs1,rfl,_⟩:=okWide_struct Tryz.underlying29 (hval 1 29 v1 rfl rfl)
 obtain ⟨n1,hn1⟩:=h1
 have hq1:(nJ cs1).cells.toList=cs1.toList:=by simp [nH]
 rw [hq1] at hn1
 obtain ⟨hl1,kf1,hf1⟩:=wDI Tryz.underlying29 hn1
 rw [wFU] at hl1
 obtain ⟨c1_0,c1_1,hc1⟩:=wFT hl1
 have g1_0:∃ y,DataW.trod enc Tryz.prog W 0 (fun _=>true) true kf1 3 (([c1_0,c1_1].drop 0).take (Tryz.prog.cellsOf 3))=some y:=by have q:=hf1 0 _ rfl;rw [hc1] at q;exact q
 rw [wAp] at g1_0
 obtain ⟨_,g1_0⟩:=g1_0
 obtain ⟨i1_1,e1_1,_,wi1_1⟩:=DataW.trod_int Tryz.underlying3 g1_0
 have g1_2:∃ y,DataW.trod enc Tryz.prog W 0 (fun _=>true) true kf1 3 (([c1_0,c1_1].drop 1).take (Tryz.prog.cellsOf 3))=some y:=by have q:=hf1 1 _ rfl;rw [hc1] at q;exact q
 rw [wAp] at g1_2
 obtain ⟨_,g1_2⟩:=g1_2
 obtain ⟨i1_3,e1_3,_,wi1_3⟩:=DataW.trod_int Tryz.underlying3 g1_2
 simp only [nD,hH,nA,nE,nB,and_true] at e1_1 e1_3
 subst e1_1 e1_3
 obtain rfl:=nI (ys:=nG _) (by simpa using hc1)
 obtain ⟨cs2,rfl,_⟩:=okWide_struct Tryz.underlying29 (hval 2 29 v2 rfl rfl)
 obtain ⟨n2,hn2⟩:=h2
 have hq2:(nJ cs2).cells.toList=cs2.toList:=by simp [nH]
 rw [hq2] at hn2
 obtain ⟨hl2,kf2,hf2⟩:=wDI Tryz.underlying29 hn2
 rw [wFU] at hl2
 obtain ⟨c2_0,c2_1,hc2⟩:=wFT hl2
 have g2_0:∃ y,DataW.trod enc Tryz.prog W 0 (fun _=>true) true kf2 3 (([c2_0,c2_1].drop 0).take (Tryz.prog.cellsOf 3))=some y:=by have q:=hf2 0 _ rfl;rw [hc2] at q;exact q
 rw [wAp] at g2_0
 obtain ⟨_,g2_0⟩:=g2_0
 obtain ⟨i2_1,e2_1,_,wi2_1⟩:=DataW.trod_int Tryz.underlying3 g2_0
 have g2_2:∃ y,DataW.trod enc Tryz.prog W 0 (fun _=>true) true kf2 3 (([c2_0,c2_1].drop 1).take (Tryz.prog.cellsOf 3))=some y:=by have q:=hf2 1 _ rfl;rw [hc2] at q;exact q
 rw [wAp] at g2_2
 obtain ⟨_,g2_2⟩:=g2_2
 obtain ⟨i2_3,e2_3,_,wi2_3⟩:=DataW.trod_int Tryz.underlying3 g2_2
 simp only [nD,hH,nA,nE,nB,and_true] at e2_1 e2_3
 subst e2_1 e2_3
 obtain rfl:=nI (ys:=nG _) (by simpa using hc2)
 obtain ⟨a3,rfl,rfl,rfl,wa3⟩:=open_int Tryz.underlying3 (hval 3 3 v3 rfl rfl) h3
 have hb3:-9223372036854775808 <= a3/\a3 <= 9223372036854775807:=by simpa [Lit.wf,IntKind.min,IntKind.max,IntKind.signed,IntKind.bits] using wa3
 obtain ⟨a4,rfl⟩:=okWide_bool Tryz.underlying4 (hval 4 4 v4 rfl rfl)
 have hg:=wEd (⟨i0_1,i0_3,i0_5,i0_7⟩:wAA) Ai0_1 ki0_1 Ai0_3 ki0_3 Ai0_5 ki0_5 Ai0_7 ki0_7 (⟨i1_1,i1_3⟩:wAM)  (⟨i2_1,i2_3⟩:wAM)  a3 a4 W _ (St.start W) hSi0_1 hSi0_3 hSi0_5 hSi0_7 (wMt (⟨i0_1,i0_3,i0_5,i0_7⟩:wAA) (⟨i1_1,i1_3⟩:wAM) (⟨i2_1,i2_3⟩:wAM) a3 a4 hb3.1 hb3.2)
 refine Calls.mono' hg fun e W' ⟨v,he,U',L',hst,hv,_⟩=>?_
 subst he;subst hv
 refine ⟨_,rfl,wNR (P:=Tryz.prog) hW' rfl wKd ?_ (t:=4) (by kernel_rfl) Tryz.underlying4 true rfl rfl rfl hst.kp0⟩
 rw [Tryz.params3]
 intro t ht
 simp only [List.mem_cons,List.not_mem_nil,or_false] at ht
 rcases ht with rfl | rfl | rfl | rfl | rfl
 ·exact ⟨by kernel_rfl,of_decide_eq_true (by kernel_rfl)⟩
 ·exact ⟨by kernel_rfl,of_decide_eq_true (by kernel_rfl)⟩
 ·exact ⟨by kernel_rfl,of_decide_eq_true (by kernel_rfl)⟩
 ·exact ⟨by kernel_rfl,of_decide_eq_true (by kernel_rfl)⟩
 ·exact ⟨by kernel_rfl,of_decide_eq_true (by kernel_rfl)⟩
theorem wMv:laidOutB Tryz.prog=true:=by kernel_rfl
theorem wMw:mapsRowed Tryz.prog=true:=by kernel_rfl
theorem wMx:(Tryz.prog.stops == [])=true:=by kernel_rfl
theorem wMy:(Tryz.prog.stopKnobs == [])=true:=by kernel_rfl
theorem wMz:(Rows.chipRangesRow.inPlace == Tryz.prog.inPlace 3)=true:=by kernel_rfl
theorem wNA:(Rows.chipRangesRow.unfollowed == Tryz.prog.unfollowed 3)=true:=by kernel_rfl
theorem wNB:(Rows.chipRangesRow.recurses == Tryz.prog.recurses 3)=true:=by kernel_rfl
theorem wNC:(Rows.chipRangesRow.named == Tryz.prog.varsNamed 3)=true:=by kernel_rfl
theorem wND:(Rows.chipRangesRow.plainKeys == Tryz.prog.plainKeys)=true:=by kernel_rfl
theorem wNE:Tryz.prog.stopsHeard=true:=by kernel_rfl
theorem wLb:Tryz.prog.mayEnter=true:=by kernel_rfl
theorem wLc:(Rows.chipRangesRow.lifted == Tryz.prog.liftsFinal)=true:=by kernel_rfl
theorem wLd:wGo Tryz.prog Tryz.f3 Rows.chipRangesSpec Rows.chipRangesRow=true:=by kernel_rfl
theorem wIp:joinedFacts Tryz.prog 3 Tryz.f3 Rows.chipRangesSpec Rows.chipRangesRow=true:=wNT wMv wMw wMx wMy wMz wNA wNB wNC wND wNE wLb wLc wLd
theorem chip_ranges:Rows.ChipRangesSaid :=
 OpenClaim.holds_of_wide 3 Tryz.f3 rfl rfl rfl rfl rfl rfl rfl ⟨rfl,rfl,rfl,rfl,rfl⟩ rfl rfl rfl rfl rfl (by kernel_rfl) Tryz.func3 wIp
  (of_decide_eq_true (by kernel_rfl)) (by unfold Func.isWrapper;rw [if_neg (by decide +kernel)];exact ⟨rfl,rfl⟩)
  (fun os started H enc _=>wIo os started H enc)
#print axioms chip_ranges
end Go.Proofs.YtlnfbjphfoipaaaGreat
