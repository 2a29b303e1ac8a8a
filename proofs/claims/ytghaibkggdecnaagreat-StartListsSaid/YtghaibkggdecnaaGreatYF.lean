import Derived.Test.YtghaibkggdecnaaGreatRows
import Derived.Test.YtghaibkggdecnaaGreatY0
import Derived.Test.YtghaibkggdecnaaGreatY9
import Derived.Test.YtghaibkggdecnaaGreatY4
set_option linter.all false
open List renaming drop_succ_cons->nA,take_succ_cons->nB
open List.cons renaming injEq->nD
namespace Go.Proofs.YtghaibkggdecnaaGreat
open Go.KL
open Go.ChangeShapes Go.WideShapes Go.ChangeAt Go.RowKit
theorem wKl:ownKnob Tryz.prog.godebug=none:=by kernel_rfl
theorem wJY:laidOutB Tryz.prog=true:=by kernel_rfl
theorem wNz {H:Type} {enc:TypeId × Value->H} {P:Program} {w:World} {base:Nat} {spare:Nat->Bool} {held:Bool} {t0 t1 t2 t3 t4:TypeId} {args:Array Value} {ds:List (DataW H)} {ps:List MemPlace} (h:DataW.TrodAll enc P w base spare held [t0,t1,t2,t3,t4] args.toList ds ps) :
  ∃ v0 v1 v2 v3 v4 d0 d1 d2 d3 d4 p0 p1 p2 p3 p4,args=#[v0,v1,v2,v3,v4]/\ds=[d0,d1,d2,d3,d4]/\ps=p0 ++ p1 ++ p2 ++ p3 ++ p4/\DataW.Trod enc P w base spare held t0 v0 d0 p0/\DataW.Trod enc P w base spare held t1 v1 d1 p1/\DataW.Trod enc P w base spare held t2 v2 d2 p2/\DataW.Trod enc P w base spare held t3 v3 d3 p3/\DataW.Trod enc P w base spare held t4 v4 d4 p4:=by
 obtain ⟨v0,l0,d0,e0,p0,q0,hargs,rfl,rfl,h0,r0⟩:=trodAll_cons h
 obtain ⟨v1,l1,d1,e1,p1,q1,rfl,rfl,rfl,h1,r1⟩:=trodAll_cons r0
 obtain ⟨v2,l2,d2,e2,p2,q2,rfl,rfl,rfl,h2,r2⟩:=trodAll_cons r1
 obtain ⟨v3,l3,d3,e3,p3,q3,rfl,rfl,rfl,h3,r3⟩:=trodAll_cons r2
 obtain ⟨v4,l4,d4,e4,p4,q4,rfl,rfl,rfl,h4,r4⟩:=trodAll_cons r3
 obtain ⟨rfl,rfl,rfl⟩:=trodAll_nil r4
 exact ⟨v0,v1,v2,v3,v4,d0,d1,d2,d3,d4,p0,p1,p2,p3,p4,by cases args;simp_all,rfl,by simp,h0,h1,h2,h3,h4⟩
theorem wEL:Tryz.prog.cellsOf 62=3:=by kernel_rfl
theorem wGY {α:Type} {l:List α} (h:l.length=3):∃ c0 c1 c2,l=[c0,c1,c2] :=
 match l,h with
 | [c0,c1,c2],_=>⟨c0,c1,c2,rfl⟩
theorem wCA:Tryz.prog.cellsOf 3=1:=by kernel_rfl
theorem wKm {H:Type} {enc:TypeId × Value->H} {W:World} {n:Nat} {cs:List Value} {y:DataW H × List MemPlace} (h:DataW.trod enc Tryz.prog W 0 (fun _=>true) true n 62 cs=some y):∃ x,cs=wAQ x/\True:=by
 obtain ⟨hl,k,hf⟩:=wFs Tryz.underlying62 h
 rw [wEL] at hl
 obtain ⟨c0,c1,c2,rfl⟩:=wGY hl
 have g0:∃ y,DataW.trod enc Tryz.prog W 0 (fun _=>true) true k 3 (([c0,c1,c2].drop 0).take (Tryz.prog.cellsOf 3))=some y:=hf 0 _ rfl
 rw [wCA] at g0
 obtain ⟨_,g0⟩:=g0
 obtain ⟨i1,e1,_,_⟩:=DataW.trod_int Tryz.underlying3 g0
 have g2:∃ y,DataW.trod enc Tryz.prog W 0 (fun _=>true) true k 3 (([c0,c1,c2].drop 1).take (Tryz.prog.cellsOf 3))=some y:=hf 1 _ rfl
 rw [wCA] at g2
 obtain ⟨_,g2⟩:=g2
 obtain ⟨i3,e3,_,_⟩:=DataW.trod_int Tryz.underlying3 g2
 have g4:∃ y,DataW.trod enc Tryz.prog W 0 (fun _=>true) true k 3 (([c0,c1,c2].drop 2).take (Tryz.prog.cellsOf 3))=some y:=hf 2 _ rfl
 rw [wCA] at g4
 obtain ⟨_,g4⟩:=g4
 obtain ⟨i5,e5,_,_⟩:=DataW.trod_int Tryz.underlying3 g4
 simp only [List.drop_zero,nA,nB,List.take_zero,nD,and_true] at e1 e3 e5
 subst e1 e3 e5
 exact ⟨⟨i1,i3,i5⟩,rfl,trivial⟩
theorem wEM:Tryz.prog.cellsOf 54=3:=by kernel_rfl
theorem wKn {H:Type} {enc:TypeId × Value->H} {W:World} {n:Nat} {cs:List Value} {y:DataW H × List MemPlace} (h:DataW.trod enc Tryz.prog W 0 (fun _=>true) true n 54 cs=some y):∃ x,cs=wAC x/\True:=by
 obtain ⟨hl,k,hf⟩:=wFs Tryz.underlying54 h
 rw [wEM] at hl
 obtain ⟨c0,c1,c2,rfl⟩:=wGY hl
 have g0:∃ y,DataW.trod enc Tryz.prog W 0 (fun _=>true) true k 3 (([c0,c1,c2].drop 0).take (Tryz.prog.cellsOf 3))=some y:=hf 0 _ rfl
 rw [wCA] at g0
 obtain ⟨_,g0⟩:=g0
 obtain ⟨i1,e1,_,_⟩:=DataW.trod_int Tryz.underlying3 g0
 have g2:∃ y,DataW.trod enc Tryz.prog W 0 (fun _=>true) true k 3 (([c0,c1,c2].drop 1).take (Tryz.prog.cellsOf 3))=some y:=hf 1 _ rfl
 rw [wCA] at g2
 obtain ⟨_,g2⟩:=g2
 obtain ⟨i3,e3,_,_⟩:=DataW.trod_int Tryz.underlying3 g2
 have g4:∃ y,DataW.trod enc Tryz.prog W 0 (fun _=>true) true k 3 (([c0,c1,c2].drop 2).take (Tryz.prog.cellsOf 3))=some y:=hf 2 _ rfl
 rw [wCA] at g4
 obtain ⟨_,g4⟩:=g4
 obtain ⟨i5,e5,_,_⟩:=DataW.trod_int Tryz.underlying3 g4
 simp only [List.drop_zero,nA,nB,List.take_zero,nD,and_true] at e1 e3 e5
 subst e1 e3 e5
 exact ⟨⟨i1,i3,i5⟩,rfl,trivial⟩
set_option maxRecDepth 100000 in
theorem wHk (os:Os) (started:os.Started) (H:Type) (enc:TypeId × Value->H) :
  ReturnsInHanded {} Tryz.checked os 10 .any (Rows.startListsSpec.pre6 enc Tryz.prog Tryz.f10 Rows.startListsRow.domain false) (Rows.startListsSpec.post enc Tryz.prog Tryz.f10 false true false false):=by
 refine returnsInHanded_of_change (C:=Tryz.checked) wKl started (by kernel_rfl) Tryz.func10
  (ChangeSpec.witness6 (enc:=enc) (C:=Tryz.checked) false ⟨#[],#[.slice none 0 0,.int .i64 0,.slice none 0 0,.int .i64 0,.int .i64 0],[]⟩ 8 (by kernel_rfl) (by kernel_rfl) (by kernel_rfl) (by kernel_rfl)) ?_
 intro W base args ds gs before hval0 hW hcnd _
 have hval:∀ (j:Nat) t v,Tryz.f10.params[j]?=some t->args[j]?=some v->Value.okWide Tryz.prog W .any base t v:=hval0
 have hW':=hW
 obtain ⟨p,q,hA0,hV,rfl,hfz,hnd⟩:=hW
 have hA:DataW.TrodAll enc Tryz.prog W 0 (fun _=>true) true Tryz.f10.params.toList args.toList ds p:=hA0
 rw [Tryz.params10] at hA hval
 obtain ⟨v0,v1,v2,v3,v4,d0,d1,d2,d3,d4,p0,p1,p2,p3,p4,rfl,rfl,rfl,h0,h1,h2,h3,h4⟩:=wNz hA
 obtain ⟨rfl,rfl⟩:=trodVars_none hV
 obtain ⟨A0,k0,xs0,rfl,hS0,_⟩:=wHu (f:=wAQ) (sz:=3) (by decide) (fun _=>rfl) Tryz.underlying58 wEL (fun _=>True) (fun _ _ _=>wKm) h0 (okWide_slice Tryz.underlying58 (hval 0 58 v0 rfl rfl))
 obtain ⟨a1,rfl,rfl,rfl,wa1⟩:=open_int Tryz.underlying3 (hval 1 3 v1 rfl rfl) h1
 have hb1:-9223372036854775808 <= a1/\a1 <= 9223372036854775807:=by simpa [Lit.wf,IntKind.min,IntKind.max,IntKind.signed,IntKind.bits] using wa1
 obtain ⟨A2,k2,xs2,rfl,hS2,_⟩:=wHu (f:=wAC) (sz:=3) (by decide) (fun _=>rfl) Tryz.underlying37 wEM (fun _=>True) (fun _ _ _=>wKn) h2 (okWide_slice Tryz.underlying37 (hval 2 37 v2 rfl rfl))
 obtain ⟨a3,rfl,rfl,rfl,wa3⟩:=open_int Tryz.underlying3 (hval 3 3 v3 rfl rfl) h3
 have hb3:-9223372036854775808 <= a3/\a3 <= 9223372036854775807:=by simpa [Lit.wf,IntKind.min,IntKind.max,IntKind.signed,IntKind.bits] using wa3
 obtain ⟨a4,rfl,rfl,rfl,wa4⟩:=open_int Tryz.underlying3 (hval 4 3 v4 rfl rfl) h4
 have hb4:-9223372036854775808 <= a4/\a4 <= 9223372036854775807:=by simpa [Lit.wf,IntKind.min,IntKind.max,IntKind.signed,IntKind.bits] using wa4
 have hg:=wDI xs0 A0 k0 a1 xs2 A2 k2 a3 a4 W _ (St.start W) hS0 hS2 (wMx xs0 a1 xs2 a3 a4 hb1.1 hb1.2 hb3.1 hb3.2 hb4.1 hb4.2)
 refine Calls.mono' hg fun e W' ⟨v,he,U',L',hst,hv,_⟩=>?_
 subst he;subst hv
 refine ⟨_,rfl,wLD (P:=Tryz.prog) hW' rfl wJY ?_ (t:=4) (by kernel_rfl) Tryz.underlying4 true rfl rfl rfl hst.kp0⟩
 rw [Tryz.params10]
 intro t ht
 simp only [List.mem_cons,List.not_mem_nil,or_false] at ht
 rcases ht with rfl | rfl | rfl | rfl | rfl
 ·exact ⟨by kernel_rfl,of_decide_eq_true (by kernel_rfl)⟩
 ·exact ⟨by kernel_rfl,of_decide_eq_true (by kernel_rfl)⟩
 ·exact ⟨by kernel_rfl,of_decide_eq_true (by kernel_rfl)⟩
 ·exact ⟨by kernel_rfl,of_decide_eq_true (by kernel_rfl)⟩
 ·exact ⟨by kernel_rfl,of_decide_eq_true (by kernel_rfl)⟩
theorem wMy:laidOutB Tryz.prog=true:=by kernel_rfl
theorem wMz:mapsRowed Tryz.prog=true:=by kernel_rfl
theorem wNA:(Tryz.prog.stops == [])=true:=by kernel_rfl
theorem wNB:(Tryz.prog.stopKnobs == [])=true:=by kernel_rfl
theorem wNC:(Rows.startListsRow.inPlace == Tryz.prog.inPlace 10)=true:=by kernel_rfl
theorem wND:(Rows.startListsRow.unfollowed == Tryz.prog.unfollowed 10)=true:=by kernel_rfl
theorem wNE:(Rows.startListsRow.recurses == Tryz.prog.recurses 10)=true:=by kernel_rfl
theorem wNF:(Rows.startListsRow.named == Tryz.prog.varsNamed 10)=true:=by kernel_rfl
theorem wNG:(Rows.startListsRow.plainKeys == Tryz.prog.plainKeys)=true:=by kernel_rfl
theorem wNH:Tryz.prog.stopsHeard=true:=by kernel_rfl
theorem wKo:Tryz.prog.mayEnter=true:=by kernel_rfl
theorem wKp:(Rows.startListsRow.lifted == Tryz.prog.liftsFinal)=true:=by kernel_rfl
theorem wKq:wFF Tryz.prog Tryz.f10 Rows.startListsSpec Rows.startListsRow=true:=by kernel_rfl
theorem wHl:joinedFacts Tryz.prog 10 Tryz.f10 Rows.startListsSpec Rows.startListsRow=true:=wLF wMy wMz wNA wNB wNC wND wNE wNF wNG wNH wKo wKp wKq
theorem start_lists:Rows.StartListsSaid :=
 OpenClaim.holds_of_wide 10 Tryz.f10 rfl rfl rfl rfl rfl rfl rfl ⟨rfl,rfl,rfl,rfl,rfl⟩ rfl rfl rfl rfl rfl (by kernel_rfl) Tryz.func10 wHl
  (of_decide_eq_true (by kernel_rfl)) (by unfold Func.isWrapper;rw [if_neg (by decide +kernel)];exact ⟨rfl,rfl⟩)
  (fun os started H enc _=>wHk os started H enc)
#print axioms start_lists
end Go.Proofs.YtghaibkggdecnaaGreat
