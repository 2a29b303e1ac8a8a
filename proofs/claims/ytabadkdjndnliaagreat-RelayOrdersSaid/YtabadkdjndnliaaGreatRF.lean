import Derived.Test.YtabadkdjndnliaaGreatRows
import Derived.Test.YtabadkdjndnliaaGreatR0
import Derived.Test.YtabadkdjndnliaaGreatR7
import Derived.Test.YtabadkdjndnliaaGreatR3
set_option linter.all false
open List renaming drop_succ_cons->hH,take_succ_cons->nA
open List.cons renaming injEq->nB
namespace Go.Proofs.YtabadkdjndnliaaGreat
open Go.KL
open Go.ChangeShapes Go.WideShapes Go.ChangeAt Go.RowKit
theorem wKS:ownKnob Tryz.prog.godebug=none:=by kernel_rfl
theorem wJT:laidOutB Tryz.prog=true:=by kernel_rfl
theorem wRA {H:Type} {enc:TypeId × Value->H} {P:Program} {w:World} {base:Nat} {spare:Nat->Bool} {held:Bool} {t0 t1 t2 t3 t4 t5:TypeId} {args:Array Value} {ds:List (DataW H)} {ps:List MemPlace} (h:DataW.TrodAll enc P w base spare held [t0,t1,t2,t3,t4,t5] args.toList ds ps) :
  ∃ v0 v1 v2 v3 v4 v5 d0 d1 d2 d3 d4 d5 p0 p1 p2 p3 p4 p5,args=#[v0,v1,v2,v3,v4,v5]/\ds=[d0,d1,d2,d3,d4,d5]/\ps=p0 ++ p1 ++ p2 ++ p3 ++ p4 ++ p5/\DataW.Trod enc P w base spare held t0 v0 d0 p0/\DataW.Trod enc P w base spare held t1 v1 d1 p1/\DataW.Trod enc P w base spare held t2 v2 d2 p2/\DataW.Trod enc P w base spare held t3 v3 d3 p3/\DataW.Trod enc P w base spare held t4 v4 d4 p4/\DataW.Trod enc P w base spare held t5 v5 d5 p5:=by
 obtain ⟨v0,l0,d0,e0,p0,q0,hargs,rfl,rfl,h0,r0⟩:=trodAll_cons h
 obtain ⟨v1,l1,d1,e1,p1,q1,rfl,rfl,rfl,h1,r1⟩:=trodAll_cons r0
 obtain ⟨v2,l2,d2,e2,p2,q2,rfl,rfl,rfl,h2,r2⟩:=trodAll_cons r1
 obtain ⟨v3,l3,d3,e3,p3,q3,rfl,rfl,rfl,h3,r3⟩:=trodAll_cons r2
 obtain ⟨v4,l4,d4,e4,p4,q4,rfl,rfl,rfl,h4,r4⟩:=trodAll_cons r3
 obtain ⟨v5,l5,d5,e5,p5,q5,rfl,rfl,rfl,h5,r5⟩:=trodAll_cons r4
 obtain ⟨rfl,rfl,rfl⟩:=trodAll_nil r5
 exact ⟨v0,v1,v2,v3,v4,v5,d0,d1,d2,d3,d4,d5,p0,p1,p2,p3,p4,p5,by cases args;simp_all,rfl,by simp,h0,h1,h2,h3,h4,h5⟩
theorem wHQ:Tryz.prog.cellsOf 24=6:=by kernel_rfl
theorem wJU {α:Type} {l:List α} (h:l.length=6):∃ c0 c1 c2 c3 c4 c5,l=[c0,c1,c2,c3,c4,c5] :=
 match l,h with
 | [c0,c1,c2,c3,c4,c5],_=>⟨c0,c1,c2,c3,c4,c5,rfl⟩
theorem wDP:Tryz.prog.cellsOf 22=1:=by kernel_rfl
theorem wDJ {H:Type} {enc:TypeId × Value->H} {W:World} {n:Nat} {cs:List Value} {y:DataW H × List MemPlace} (h:DataW.trod enc Tryz.prog W 0 (fun _=>true) true n 3 cs=some y):∃ x,cs=KL.encI x/\True:=by
 obtain ⟨x,e,_,_⟩:=DataW.trod_int Tryz.underlying3 h
 exact ⟨x,e,trivial⟩
theorem wBH:Tryz.prog.cellsOf 3=1:=by kernel_rfl
theorem wHR:Tryz.prog.cellsOf 93=2:=by kernel_rfl
theorem wJV {α:Type} {l:List α} (h:l.length=2):∃ c0 c1,l=[c0,c1] :=
 match l,h with
 | [c0,c1],_=>⟨c0,c1,rfl⟩
theorem wHS:Tryz.prog.cellsOf 46=1:=by kernel_rfl
theorem wKT {H:Type} {enc:TypeId × Value->H} {W:World} {n:Nat} {cs:List Value} {y:DataW H × List MemPlace} (h:DataW.trod enc Tryz.prog W 0 (fun _=>true) true n 22 cs=some y):∃ x,wDX.r (fun b=>W.heap[b]?) x cs:=by
 obtain ⟨Ax,kx,x,e,hSx,_⟩:=wET (f:=KL.encI) (sz:=1) (by decide) (fun _=>rfl) Tryz.underlying22 wBH (fun _=>True) (fun _ _ _=>wDJ) h
 refine ⟨x,?_⟩
 dsimp only [wDX]
 exact ⟨Ax,kx,e,hSx⟩
set_option maxRecDepth 100000 in
theorem wHd (os:Os) (started:os.Started) (H:Type) (enc:TypeId × Value->H) :
  ReturnsInHanded {} Tryz.checked os 6 .any (Rows.relayOrdersSpec.pre6 enc Tryz.prog Tryz.f6 Rows.relayOrdersRow.domain false) (Rows.relayOrdersSpec.post enc Tryz.prog Tryz.f6 false true false false):=by
 refine returnsInHanded_of_change (C:=Tryz.checked) wKS started (by kernel_rfl) Tryz.func6
  (ChangeSpec.witness6 (enc:=enc) (C:=Tryz.checked) false ⟨#[],#[.agg #[.slice none 0 0,.int .i64 0,.int .i64 0,.int .i64 0,.int .i64 0,.int .i64 0],.agg #[.slice none 0 0,.slice none 0 0],.slice none 0 0,.slice none 0 0,.slice none 0 0,.int .i64 0],[]⟩ 8 (by kernel_rfl) (by kernel_rfl) (by kernel_rfl) (by kernel_rfl)) ?_
 intro W base args ds gs before hval0 hW hcnd _
 have hval:∀ (j:Nat) t v,Tryz.f6.params[j]?=some t->args[j]?=some v->Value.okWide Tryz.prog W .any base t v:=hval0
 have hW':=hW
 obtain ⟨p,q,hA0,hV,rfl,hfz,hnd⟩:=hW
 have hA:DataW.TrodAll enc Tryz.prog W 0 (fun _=>true) true Tryz.f6.params.toList args.toList ds p:=hA0
 rw [Tryz.params6] at hA hval
 obtain ⟨v0,v1,v2,v3,v4,v5,d0,d1,d2,d3,d4,d5,p0,p1,p2,p3,p4,p5,rfl,rfl,rfl,h0,h1,h2,h3,h4,h5⟩:=wRA hA
 obtain ⟨rfl,rfl⟩:=trodVars_none hV
 obtain ⟨cs0,rfl,_⟩:=okWide_struct Tryz.underlying24 (hval 0 24 v0 rfl rfl)
 obtain ⟨n0,hn0⟩:=h0
 have hq0:(Value.agg cs0).cells.toList=cs0.toList:=by simp [Value.cells]
 rw [hq0] at hn0
 obtain ⟨hl0,kf0,hf0⟩:=wGb Tryz.underlying24 hn0
 rw [wHQ] at hl0
 obtain ⟨c0_0,c0_1,c0_2,c0_3,c0_4,c0_5,hc0⟩:=wJU hl0
 have g0_0:∃ y,DataW.trod enc Tryz.prog W 0 (fun _=>true) true kf0 22 (([c0_0,c0_1,c0_2,c0_3,c0_4,c0_5].drop 0).take (Tryz.prog.cellsOf 22))=some y:=by have q:=hf0 0 _ rfl;rw [hc0] at q;exact q
 rw [wDP] at g0_0
 obtain ⟨_,g0_0⟩:=g0_0
 obtain ⟨Ai0_1,ki0_1,i0_1,e0_1,hSi0_1,_⟩:=wET (f:=KL.encI) (sz:=1) (by decide) (fun _=>rfl) Tryz.underlying22 wBH (fun _=>True) (fun _ _ _=>wDJ) g0_0
 have g0_2:∃ y,DataW.trod enc Tryz.prog W 0 (fun _=>true) true kf0 3 (([c0_0,c0_1,c0_2,c0_3,c0_4,c0_5].drop 1).take (Tryz.prog.cellsOf 3))=some y:=by have q:=hf0 1 _ rfl;rw [hc0] at q;exact q
 rw [wBH] at g0_2
 obtain ⟨_,g0_2⟩:=g0_2
 obtain ⟨i0_3,e0_3,_,wi0_3⟩:=DataW.trod_int Tryz.underlying3 g0_2
 have g0_4:∃ y,DataW.trod enc Tryz.prog W 0 (fun _=>true) true kf0 3 (([c0_0,c0_1,c0_2,c0_3,c0_4,c0_5].drop 2).take (Tryz.prog.cellsOf 3))=some y:=by have q:=hf0 2 _ rfl;rw [hc0] at q;exact q
 rw [wBH] at g0_4
 obtain ⟨_,g0_4⟩:=g0_4
 obtain ⟨i0_5,e0_5,_,wi0_5⟩:=DataW.trod_int Tryz.underlying3 g0_4
 have g0_6:∃ y,DataW.trod enc Tryz.prog W 0 (fun _=>true) true kf0 3 (([c0_0,c0_1,c0_2,c0_3,c0_4,c0_5].drop 3).take (Tryz.prog.cellsOf 3))=some y:=by have q:=hf0 3 _ rfl;rw [hc0] at q;exact q
 rw [wBH] at g0_6
 obtain ⟨_,g0_6⟩:=g0_6
 obtain ⟨i0_7,e0_7,_,wi0_7⟩:=DataW.trod_int Tryz.underlying3 g0_6
 have g0_8:∃ y,DataW.trod enc Tryz.prog W 0 (fun _=>true) true kf0 3 (([c0_0,c0_1,c0_2,c0_3,c0_4,c0_5].drop 4).take (Tryz.prog.cellsOf 3))=some y:=by have q:=hf0 4 _ rfl;rw [hc0] at q;exact q
 rw [wBH] at g0_8
 obtain ⟨_,g0_8⟩:=g0_8
 obtain ⟨i0_9,e0_9,_,wi0_9⟩:=DataW.trod_int Tryz.underlying3 g0_8
 have g0_10:∃ y,DataW.trod enc Tryz.prog W 0 (fun _=>true) true kf0 3 (([c0_0,c0_1,c0_2,c0_3,c0_4,c0_5].drop 5).take (Tryz.prog.cellsOf 3))=some y:=by have q:=hf0 5 _ rfl;rw [hc0] at q;exact q
 rw [wBH] at g0_10
 obtain ⟨_,g0_10⟩:=g0_10
 obtain ⟨i0_11,e0_11,_,wi0_11⟩:=DataW.trod_int Tryz.underlying3 g0_10
 simp only [List.drop_zero,hH,nA,List.take_zero,nB,and_true] at e0_1 e0_3 e0_5 e0_7 e0_9 e0_11
 subst e0_1 e0_3 e0_5 e0_7 e0_9 e0_11
 obtain rfl:=Array.ext' (ys:=List.toArray _) (by simpa using hc0)
 obtain ⟨cs1,rfl,_⟩:=okWide_struct Tryz.underlying93 (hval 1 93 v1 rfl rfl)
 obtain ⟨n1,hn1⟩:=h1
 have hq1:(Value.agg cs1).cells.toList=cs1.toList:=by simp [Value.cells]
 rw [hq1] at hn1
 obtain ⟨hl1,kf1,hf1⟩:=wGb Tryz.underlying93 hn1
 rw [wHR] at hl1
 obtain ⟨c1_0,c1_1,hc1⟩:=wJV hl1
 have g1_0:∃ y,DataW.trod enc Tryz.prog W 0 (fun _=>true) true kf1 22 (([c1_0,c1_1].drop 0).take (Tryz.prog.cellsOf 22))=some y:=by have q:=hf1 0 _ rfl;rw [hc1] at q;exact q
 rw [wDP] at g1_0
 obtain ⟨_,g1_0⟩:=g1_0
 obtain ⟨Ai1_1,ki1_1,i1_1,e1_1,hSi1_1,_⟩:=wET (f:=KL.encI) (sz:=1) (by decide) (fun _=>rfl) Tryz.underlying22 wBH (fun _=>True) (fun _ _ _=>wDJ) g1_0
 have g1_2:∃ y,DataW.trod enc Tryz.prog W 0 (fun _=>true) true kf1 46 (([c1_0,c1_1].drop 1).take (Tryz.prog.cellsOf 46))=some y:=by have q:=hf1 1 _ rfl;rw [hc1] at q;exact q
 rw [wHS] at g1_2
 obtain ⟨_,g1_2⟩:=g1_2
 obtain ⟨Ai1_3,ki1_3,i1_3,e1_3,hSi1_3⟩:=wMT (R:=wDX) (by decide) Tryz.underlying46 wDP (fun _ _ _=>wKT) g1_2
 simp only [List.drop_zero,hH,nA,List.take_zero,nB,and_true] at e1_1 e1_3
 subst e1_1 e1_3
 obtain rfl:=Array.ext' (ys:=List.toArray _) (by simpa using hc1)
 obtain ⟨A2,k2,xs2,rfl,hS2,_⟩:=wGa (f:=KL.encI) (sz:=1) (by decide) (fun _=>rfl) Tryz.underlying22 wBH (fun _=>True) (fun _ _ _=>wDJ) h2 (okWide_slice Tryz.underlying22 (hval 2 22 v2 rfl rfl))
 obtain ⟨A3,k3,xs3,rfl,hS3,_⟩:=wGa (f:=KL.encI) (sz:=1) (by decide) (fun _=>rfl) Tryz.underlying22 wBH (fun _=>True) (fun _ _ _=>wDJ) h3 (okWide_slice Tryz.underlying22 (hval 3 22 v3 rfl rfl))
 obtain ⟨A4,k4,xs4,rfl,hS4,_⟩:=wGa (f:=KL.encI) (sz:=1) (by decide) (fun _=>rfl) Tryz.underlying22 wBH (fun _=>True) (fun _ _ _=>wDJ) h4 (okWide_slice Tryz.underlying22 (hval 4 22 v4 rfl rfl))
 obtain ⟨a5,rfl,rfl,rfl,wa5⟩:=open_int Tryz.underlying3 (hval 5 3 v5 rfl rfl) h5
 have hb5:-9223372036854775808 <= a5/\a5 <= 9223372036854775807:=by simpa [Lit.wf,IntKind.min,IntKind.max,IntKind.signed,IntKind.bits] using wa5
 have hg:=wDS (⟨i0_1,i0_3,i0_5,i0_7,i0_9,i0_11⟩:wAA) Ai0_1 ki0_1 (⟨i1_1,i1_3⟩:wAB) Ai1_1 ki1_1 Ai1_3 ki1_3 xs2 A2 k2 xs3 A3 k3 xs4 A4 k4 a5 W _ (St.start W) hSi0_1 hSi1_1 hSi1_3 hS2 hS3 hS4 (wLt (⟨i0_1,i0_3,i0_5,i0_7,i0_9,i0_11⟩:wAA) (⟨i1_1,i1_3⟩:wAB) xs2 xs3 xs4 a5 hb5.1 hb5.2)
 refine Calls.mono' hg fun e W' ⟨v,he,U',L',hst,hv,_⟩=>?_
 subst he;subst hv
 refine ⟨_,rfl,wMR (P:=Tryz.prog) hW' rfl wJT ?_ (t:=4) (by kernel_rfl) Tryz.underlying4 true rfl rfl rfl hst.kp0⟩
 rw [Tryz.params6]
 intro t ht
 simp only [List.mem_cons,List.not_mem_nil,or_false] at ht
 rcases ht with rfl | rfl | rfl | rfl | rfl | rfl
 ·exact ⟨by kernel_rfl,of_decide_eq_true (by kernel_rfl)⟩
 ·exact ⟨by kernel_rfl,of_decide_eq_true (by kernel_rfl)⟩
 ·exact ⟨by kernel_rfl,of_decide_eq_true (by kernel_rfl)⟩
 ·exact ⟨by kernel_rfl,of_decide_eq_true (by kernel_rfl)⟩
 ·exact ⟨by kernel_rfl,of_decide_eq_true (by kernel_rfl)⟩
 ·exact ⟨by kernel_rfl,of_decide_eq_true (by kernel_rfl)⟩
theorem wLu:laidOutB Tryz.prog=true:=by kernel_rfl
theorem wLv:mapsRowed Tryz.prog=true:=by kernel_rfl
theorem wLw:(Tryz.prog.stops == [])=true:=by kernel_rfl
theorem wLx:(Tryz.prog.stopKnobs == [])=true:=by kernel_rfl
theorem wLy:(Rows.relayOrdersRow.inPlace == Tryz.prog.inPlace 6)=true:=by kernel_rfl
theorem wLz:(Rows.relayOrdersRow.unfollowed == Tryz.prog.unfollowed 6)=true:=by kernel_rfl
theorem wMA:(Rows.relayOrdersRow.recurses == Tryz.prog.recurses 6)=true:=by kernel_rfl
theorem wMB:(Rows.relayOrdersRow.named == Tryz.prog.varsNamed 6)=true:=by kernel_rfl
theorem wMC:(Rows.relayOrdersRow.plainKeys == Tryz.prog.plainKeys)=true:=by kernel_rfl
theorem wMD:Tryz.prog.stopsHeard=true:=by kernel_rfl
theorem wKU:Tryz.prog.mayEnter=true:=by kernel_rfl
theorem wKV:(Rows.relayOrdersRow.lifted == Tryz.prog.liftsFinal)=true:=by kernel_rfl
theorem wKW:wFd Tryz.prog Tryz.f6 Rows.relayOrdersSpec Rows.relayOrdersRow=true:=by kernel_rfl
theorem wHe:joinedFacts Tryz.prog 6 Tryz.f6 Rows.relayOrdersSpec Rows.relayOrdersRow=true:=wMS wLu wLv wLw wLx wLy wLz wMA wMB wMC wMD wKU wKV wKW
theorem relay_orders:Rows.RelayOrdersSaid :=
 OpenClaim.holds_of_wide 6 Tryz.f6 rfl rfl rfl rfl rfl rfl rfl ⟨rfl,rfl,rfl,rfl,rfl⟩ rfl rfl rfl rfl rfl (by kernel_rfl) Tryz.func6 wHe
  (of_decide_eq_true (by kernel_rfl)) (by unfold Func.isWrapper;rw [if_neg (by decide +kernel)];exact ⟨rfl,rfl⟩)
  (fun os started H enc _=>wHd os started H enc)
#print axioms relay_orders
end Go.Proofs.YtabadkdjndnliaaGreat
