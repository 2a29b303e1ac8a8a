import Derived.Test.YtlnfbjphfoipaaaY0
import Derived.Lib.AppendZerosOnto
import Derived.Lib.AppendZeros
set_option linter.all false
open Bool renaming and_eq_true->hH,false_eq_true->nh,eq_false_iff->nz,not_eq_true'->kA,or_eq_true->kK
open Nat renaming eq_of_beq_eq_true->nA,beq->nB,le_refl->nH,blt_eq->nL,le_of_ble_eq_true->nO,ble_eq->nT,le_trans->nU,lt_of_lt_of_le->ng,le_of_mul_le_mul_right->nl,lt_or_ge->np,blt->nu,le_mul_of_pos_right->kH,add_mul->kM,mul_le_mul_right->kR
open List renaming getElem?_eq_some_iff->nD,getElem?_append_left->nE,replicate->nG,map_cons->nI,getElem?_eq_getElem->nM,mem_of_getElem?->nN,mem_append->nP,getElem?_append_right->nQ,mem_append_right->nR,mem_append_left->nS,zipWith->nV,getElem?_map->nW,getElem?_of_mem->nY,flatMap->nc,getElem?_cons_zero->nf,eq_nil_of_length_eq_zero->ni,mem_cons->nk,length->no,set->nt,length_append->ny,append_assoc->kB,pairwise_iff_getElem->kC,mem_map->kD,map_nil->kE,getElem?_eq_none->kO,mem_cons_of_mem->kQ,length_zipWith->kS,map_eq_nil_iff->kV,mem_singleton->kW,mem_cons_self->kX,getElem?_take->kY,toArray_range->kZ,size_toArray->kc,range->kl
open Array renaming ext'->nJ,range->na,getD_eq_getD_getElem?->nj,getElem?_replicate->kG,replicate->kL,getElem?_toList->kP,toList_append->kU,size_append->ke,toList_map->kg
open List.cons renaming injEq->nK
open Option.some renaming injEq->nX
open Int renaming ofNat_eq_natCast->nZ,toNat_natCast->nq,negSucc_eq->nv,ofNat->kJ
open Go.Value renaming int->nw,slice->kf
open Option renaming getD_none->kh,getD_some->ki,map_some->kj
open List.Perm renaming refl->km
namespace Go.KL
open Go.RowKit
open Go.KX (LoopAt Yd wOG Dfr wPD retM)
section
variable {B:Base} {U U':PHeap} {L M:List Res} {w w':World}
theorem St.keepX (h:St B U L w) {X:Nat->Prop} (K:Keep w w' X) (h1:∀ b,X b->U b=none/\B.mine b) (h2:∀ r ∈ L,∀ b,r.has b->¬ X b):St B U L w' :=
  ⟨K.os.trans h.os,K.tape.trans h.tape,K.output.trans h.output,nU h.size K.size,fun b hb hm=>(K.block b (ng hb h.size) fun hx=>hm (h1 b hx).2).trans (h.old b hb hm),
   fun b o hb=>(K.block b (wAY (h.fro b o hb)) fun hx=>by rw [(h1 b hx).1] at hb;cases hb).trans (h.fro b o hb),h.le,h.src,fun r hr=>(h.at_ r hr).keep K (h2 r hr),h.own,h.dj⟩
theorem St.left (h:St B U (L ++ M) w):St B U L w :=
 ⟨h.os,h.tape,h.output,h.size,h.old,h.fro,h.le,h.src,fun r hr=>h.at_ r (nS _ hr),fun r hr=>h.own r (nS _ hr),fun i j r s b hi hj =>
  h.dj i j r s b (by rw [nE (nD.1 hi).1];exact hi) (by rw [nE (nD.1 hj).1];exact hj)⟩
theorem St.addLast (h:St B U L w) {r:Res} {b:Nat} (hr:r.At w) (hb:r.has b) (hf:U b=none) (hm:B.mine b) (hn:∀ s ∈ L,¬ s.has b) (hu:∀ c,r.has c->c=b:=by intro c hc;cases hc;rfl):St B U (L ++ [r]) w:=by
 refine ⟨h.os,h.tape,h.output,h.size,h.old,h.fro,h.le,h.src,fun s hs=>?_,fun s hs c hc=>?_,fun i j s u c hi hj hs hu'=>?_⟩
 ·rcases nP.1 hs with hs | hs
  ·exact h.at_ s hs
  ·rw [kW.1 hs];exact hr
 ·rcases nP.1 hs with hs | hs
  ·exact h.own s hs c hc
  ·rw [kW.1 hs] at hc
   obtain rfl:=hu c hc
   exact ⟨hf,hm⟩
 ·have at_:∀ (i:Nat) (s:Res),(L ++ [r])[i]?=some s->L[i]?=some s \/ (i=L.length/\s=r):=by
   intro i s hi
   rcases np i L.length with hl | hl
   ·rw [nE hl] at hi;exact .inl hi
   ·rw [nQ hl] at hi
    have hz:i - L.length=0:=by
     have:=(nD.1 hi).1
     simp at this
     omega
    rw [hz] at hi
    simp at hi
    exact .inr ⟨by omega,hi.symm⟩
  rcases at_ i s hi with h1 | ⟨h1,rfl⟩ <;> rcases at_ j u hj with h2 | ⟨h2,rfl⟩
  ·exact h.dj i j s u c h1 h2 hs hu'
  ·obtain rfl:=hu c hu'
   exact absurd hs (hn s (nN h1))
  ·obtain rfl:=hu c hs
   exact absurd hu' (hn u (nN h2))
  ·omega
theorem St.putObj {l:Nat} {o o2:Obj} (h:St B U (.obj l o :: L) w) (K:Keep w w' (·=l)) (h2:w'.heap[l]?=some o2):St B U (.obj l o2 :: L) w' :=
 h.set (k:=0) (r:=.obj l o) (r':=.obj l o2) rfl (K.weak fun b _ e=>by rw [e];rfl) h2 fun b hb=>.inl hb
theorem St.outObj {l:Nat} {o:Obj} (h:St B U (.obj l o :: L) w) (K:Keep w w' (·=l)):St B U L w':=by
 have hm:=h.own (.obj l o) (by simp) l rfl
 have h0:St B U L w:=h.drop 0
 refine h0.keepX K (fun b e=>by rw [e];exact hm) fun r hr b hb e=>?_
 subst e
 obtain ⟨i,hi⟩:=nY hr
 have:=h.dj 0 (i + 1) (.obj b o) r b rfl (by simpa using hi) rfl hb
 omega
theorem St.outs {rbs:List Nat} {d:Obj} (h:St B U (L ++ rbs.map fun rb=>.obj rb d) w) (K:Keep w w' (· ∈ rbs)):St B U L w':=by
 refine h.left.keepX K (fun b hb=>?_) fun r hr b hb hm=>?_
 ·exact h.own (.obj b d) (nR _ (kD.2 ⟨b,hb,rfl⟩)) b rfl
 ·obtain ⟨i,hi⟩:=nY hr
  obtain ⟨j,hj⟩:=nY hm
  have hil:=(nD.1 hi).1
  have:=h.dj i (L.length + j) r (.obj b d) b (by rw [nE hil];exact hi) (by rw [nQ (by omega),show L.length + j - L.length=j by omega,nW,hj];rfl) hb rfl
  omega
end
def LR (N:Nat) (σ:Env) (t:List Nat) (asg body:Code) (rb:Nat) (fn:FuncId) (s:LoopState) (pend:Option Code) (o:Obj):Prop :=
 ∃ a D,Rep N D a σ/\o=.loop { state:=s,pending:=pend,fn,tmps:=a.tmps,params:=t.toArray,assign:=asg,body,defers:=rb }
theorem LR.at_ {N:Nat} {σ:Env} {t:List Nat} {asg body:Code} {rb:Nat} {fn:FuncId} {s:LoopState} {pend:Option Code} {o:Obj} {w:World} {l:Nat} (h:LR N σ t asg body rb fn s pend o) (hw:w.heap[l]?=some o):LoopAt w l N σ t asg body rb fn s pend:=by
 obtain ⟨a,D,h1,rfl⟩:=h
 exact ⟨a,D,h1,hw⟩
theorem LR.of {N:Nat} {σ:Env} {t:List Nat} {asg body:Code} {rb:Nat} {fn:FuncId} {s:LoopState} {pend:Option Code} {w:World} {l:Nat} (h:LoopAt w l N σ t asg body rb fn s pend):∃ o,w.heap[l]?=some o/\LR N σ t asg body rb fn s pend o:=by
 obtain ⟨a,D,h1,h2⟩:=h
 exact ⟨_,h2,a,D,h1,rfl⟩
def YOK (P:Program) (l:Nat) {X S E:Type} (ar:PHeap->X->List Value->Prop) (PY:S->PHeap->List Res->Prop) (PE:E->PHeap->List Res->Prop) (f:S->X->Option (S ⊕ E)) (U0:PHeap):Prop :=
 ∀ U w s x vs r L,PHeap.Le U0 U->St ⟨w,L,U⟩ U L w->PY s U L->ar U x vs->f s x=some r ->
  Yd P l vs w fun b w'=>∃ U' L',St ⟨w,L,U⟩ U' L' w'/\(match r with | .inl s'=>b=true/\PY s' U' L' | .inr e=>b=false/\PE e U' L')
def ItS (w:World) (L:List Res) (U:PHeap) {S E:Type} (PY:S->PHeap->List Res->Prop) (PE:E->PHeap->List Res->Prop) (r:S ⊕ E):Value->World->Prop:=fun _ w' =>
 ∃ U' L',St ⟨w,L,U⟩ U' L' w'/\(match r with | .inl s=>PY s U' L' | .inr e=>PE e U' L')
section
variable {r:Option Nat} {N:Nat} {P:Program} {l:List Oper} {Q:wDP} {D:List Deferred} {ks:List Nat} {B:Base} {U:PHeap} {L:List Res} {σ:Env} {w:World} {i d:Nat} {o:Oper} {s:Sch} {X S E:Type} {ar:PHeap->X->List Value->Prop}
 {PY:S->PHeap->List Res->Prop} {PE:E->PHeap->List Res->Prop} {f:S->X->Option (S ⊕ E)}
theorem OKS.yieldT (n:Nat) {y:Nat} {x:Operand} {args:Array Operand} {ty:Array TypeId} {vs:List Value} {st:S} {a:X} {rr:S ⊕ E} {U0:PHeap} (ho:l[i]?=some o) (hd:o.dst=some d) (hN:nu d N=true) (hw:wanted l σ o=true)
  (hop:o.op=.call { callee:=.value x,args:=args,argTypes:=ty }) (hx:ev σ x=.func (.yield y) #[] #[]) (ha:args.toList.map (ev σ)=vs) (hS:St B U L w) (hY:YOK P y ar PY PE f U0) (hle:PHeap.Le U0 U) (hP:PY st U (L.drop n)) (har:ar U a vs) (hf:f st a=some rr) (hk:wFf (kOf ks i)=false)
  (k:∀ U' L' b w',PHeap.Le U U'->St B U' (L.take n ++ L') w'->(match rr with | .inl s'=>b=true/\PY s' U' L' | .inr e=>b=false/\PE e U' L')->OKS N P l Q D ks s (upd σ d (.bool b)) w'):OKS N P l Q D ks (.fx i s .stop) σ w:=by
 have Y:=hY U w st a vs rr _ hle (hS.enterT n) hP har hf
 have R:=Go.KX.Yd.rounds (σ:=σ) hop hx ha Y
 refine ⟨⟨o,ho,dlt hd hN,.inl ⟨hw,.inr (.inr (.inr (R.mono ?_)))⟩⟩,trivial⟩
 rintro v w' ⟨b,rfl,U',L',h1,h2⟩
 obtain ⟨h3,h4⟩:=hS.backT n h1
 exact ⟨KeepD.of (.inl hk),by rw [wCg hd];exact k U' L' b w' h4 h3 h2⟩
def wPE:Exit->Option Code
 | .ret=>some .ret
 | .exit i=>some (.exit i)
 | _=>none
theorem CK.rangeY {g:Operand} {t:List Nat} {asg body:Code} {fi:FuncId} {fl cl:List Value} {s0:S} {rr:S ⊕ E} {exO:E->Exit} (hx:ev σ g=.func (.func fi) fl.toArray cl.toArray)
  (hcall:∀ (args:Array Value) (w:World),(callFunc fi args).run P w=.ok (.enter fi args) w) (hS:St B U L w) (ht:∀ x ∈ t,x < N) (hlen:∀ U x vs,ar U x vs->t.length=vs.length) (hex:∀ e,exO e=.ret \/ ∃ i,exO e=.exit i) (h0:PY s0 U L)
  (hit:∀ (l:Nat) (w1:World) (L1:List Res) (PY':S->PHeap->List Res->Prop) (PE':E->PHeap->List Res->Prop),St ⟨w1,L1,U⟩ U L1 w1->PY' s0 U L1->YOK P l ar PY' PE' f U->Gv P fi (fl ++ [.func (.yield l) #[] #[]] ++ cl) w1 (ItS w1 L1 U PY' PE' rr))
  (hbody:∀ (l rb:Nat) (fn:FuncId) s x vs r U' L' w' o B',PHeap.Le U U'->St B' U' (.obj l o :: L') w'->PY s U' L'->ar U' x vs->f s x=some r->∀ σ0,(∀ i,σ0 i=wOG σ t vs i) ->
   CK (some l) N P asg (fun D' e σ1 w1=>e=.normal/\D'=[]/\∃ U1 L1,St B' U1 (.obj l o :: L1) w1/\∀ w2 o2,St B' U1 (.obj l o2 :: L1) w2 ->
    CK (some l) N P body (fun _ e2 _ w3=>∃ U3 L3,St B' U3 (.obj l o2 :: L3) w3/\(match r with | .inl s'=>e2=.normal/\PY s' U3 L3 | .inr e'=>e2=exO e'/\PE e' U3 L3)) [] σ1 w2) [] σ0 w')
  (hk:∀ rb U' L' w',PHeap.Le U U'->St B U' (L' ++ [.obj rb (.deferred (some []))]) w'->(match rr with | .inl s=>PY s U' L'->Q (Go.KX.mark rb :: D) .normal σ w' | .inr e=>PE e U' L'->Q (Go.KX.mark rb :: D) (exO e) σ w')) :
  CK none N P (.rangeFunc g t.toArray asg body) Q D σ w:=by
 refine Go.KX.CK.rangeFunc hx hcall fun fn l rb w1 e1 e2 hl hd K hs=>?_
 obtain ⟨o,ho,hLR⟩:=LR.of hl
 have hlt:l < w1.heap.size:=wAY ho
 have hS0:=hS.grow K
 have hsz:∀ s ∈ L,∀ b,s.has b->b < w.heap.size:=fun s hs b hb=>(hS.at_ s hs).lt hb
 have hfree:∀ b,w.heap.size <= b->U b=none/\B.mine b:=fun b hb=>by
  refine ⟨?_,.inl (nU hS.size hb)⟩
  cases e:U b with
  | none=>rfl
  | some x=>have:=wAY (hS.fro b x e);omega
 have hS1:St B U (.obj l o :: L) w1:=by
  have h1:=hS0.addLast (r:=.obj l o) (b:=l) ho rfl (hfree l (by omega)).1 (hfree l (by omega)).2 fun s hs' e=>by have:=hsz s hs' l e;omega
  refine ⟨h1.os,h1.tape,h1.output,h1.size,h1.old,h1.fro,h1.le,h1.src,fun r hr=>h1.at_ r ?_,fun r hr=>h1.own r ?_,?_⟩
  ·rcases nk.1 hr with rfl | hr <;> simp [*]
  ·rcases nk.1 hr with rfl | hr <;> simp [*]
  ·intro i j r s b hi hj hr hs'
   cases i with
   | zero =>
    simp only [nf,nX] at hi;subst hi;cases hr
    cases j with
    | zero=>rfl
    | succ j=>have:=hsz s (nN (by simpa using hj)) _ hs';omega
   | succ i =>
    cases j with
    | zero=>simp only [nf,nX] at hj;subst hj;cases hs';have:=hsz r (nN (by simpa using hi)) _ hr;omega
    | succ j=>rw [hS0.dj i j r s b (by simpa using hi) (by simpa using hj) hr hs']
 have hS2:St B U ((.obj l o :: L) ++ [.obj rb (.deferred (some []))]) w1:=by
  refine hS1.addLast (b:=rb) hd rfl (hfree rb (by omega)).1 (hfree rb (by omega)).2 fun s hs' e=>?_
  rcases nk.1 hs' with rfl | hs'
  ·cases e;omega
  ·have:=hsz s hs' rb e;omega
 let PYl:S->PHeap->List Res->Prop:=fun s U L=>∃ o L',L=.obj l o :: L'/\LR N σ t asg body rb fn .ready none o/\PY s U L'
 let PEl:E->PHeap->List Res->Prop:=fun e U L=>∃ o L',L=.obj l o :: L'/\LR N σ t asg body rb fn .done (wPE (exO e)) o/\PE e U L'
 have hY:YOK P l ar PYl PEl f U:=by
  rintro U' w' s x vs r L3 hle hSt ⟨o',L',rfl,hLR',hP⟩ har hf
  refine Go.KX.Yd.of (hLR'.at_ (hSt.at_ (.obj l o') (by simp))) ht (hlen _ _ _ har) fun σ0 hσ0=>?_
  refine (hbody l rb fn s x vs r U' L' w' o' _ hle hSt hP har hf σ0 hσ0).mono ?_
  rintro D' e σ1 w1 ⟨rfl,rfl,U1,L1,hS1,hb⟩
  refine ⟨rfl,rfl,hLR'.at_ (hS1.at_ (.obj l o') (by simp)),fun w2 hl2 K2 _=>?_⟩
  obtain ⟨o2,ho2,hLR2⟩:=LR.of hl2
  refine (hb w2 o2 (hS1.putObj K2 ho2)).mono ?_
  rintro D2 e2 σ2 w3 ⟨U3,L3,hS3,hm⟩
  cases r with
  | inl s' =>
   obtain ⟨rfl,hP'⟩:=hm
   refine ⟨hLR2.at_ (hS3.at_ (.obj l o2) (by simp)),fun w4 hl4 K4 _=>?_⟩
   obtain ⟨o4,ho4,hLR4⟩:=LR.of hl4
   exact ⟨U3,_,hS3.putObj K4 ho4,rfl,o4,L3,rfl,hLR4,hP'⟩
  | inr e' =>
   obtain ⟨rfl,hP'⟩:=hm
   have fin:∀ w4 p,p=wPE (exO e')->LoopAt w4 l N σ t asg body rb fn .done p->Keep w3 w4 (·=l)->∃ U'' L'',St ⟨w',.obj l o' :: L',U'⟩ U'' L'' w4/\(false=false/\PEl e' U'' L''):=by
    rintro w4 p rfl hl4 K4
    obtain ⟨o4,ho4,hLR4⟩:=LR.of hl4
    exact ⟨U3,_,hS3.putObj K4 ho4,rfl,o4,L3,rfl,hLR4,hP'⟩
   have hB:=hLR2.at_ (hS3.at_ (.obj l o2) (by simp))
   rcases hex e' with he | ⟨i,he⟩
   ·rw [he] at fin ⊢
    exact ⟨hB,fun w4 hl4 K4 _=>fin w4 _ rfl hl4 K4⟩
   ·rw [he] at fin ⊢
    exact ⟨hB,fun w4 hl4 K4 _=>fin w4 _ rfl hl4 K4⟩
 have hE:St ⟨w1,.obj l o :: L,U⟩ U (.obj l o :: L) w1:=by have:=hS1.enterH (L.length + 1);simpa using this
 refine (hit l w1 (.obj l o :: L) PYl PEl hE ⟨o,L,rfl,hLR,h0⟩ hY).mono ?_
 rintro v w3 ⟨U',L3,g1,g2⟩
 obtain ⟨g3,g4⟩:=hS2.backH (L.length + 1) (own':=L3) (U':=U') (w':=w3) (by simpa using g1)
 have g3:St B U' (L3 ++ [.obj rb (.deferred (some []))]) w3:=by simpa using g3
 have hkk:=hk rb U'
 cases rr with
 | inl s' =>
  obtain ⟨o',L',rfl,hLR',hP⟩:=g2
  refine .inl ⟨hLR'.at_ (g3.at_ (.obj l o') (by simp)),fun w4 K4 _=>hkk L' w4 g4 ?_ hP⟩
  exact St.outObj (L:=L' ++ [.obj rb (.deferred (some []))]) (by simpa using g3) K4
 | inr e' =>
  obtain ⟨o',L',rfl,hLR',hP⟩:=g2
  refine .inr ⟨exO e',hex e',?_,fun w4 K4 _=>hkk L' w4 g4 ?_ hP⟩
  ·have:=hLR'.at_ (g3.at_ (.obj l o') (by simp))
   rcases hex e' with he | ⟨i,he⟩ <;> (rw [he] at this ⊢;exact this)
  ·exact St.outObj (L:=L' ++ [.obj rb (.deferred (some []))]) (by simpa using g3) K4
theorem wPi {rs:Array ResultVar} {R:Value->World->Prop} {rbs:List Nat} {e:Exit} (he:e=.normal \/ e=.ret) (hS:St B U (L ++ rbs.map fun rb=>.obj rb (.deferred (some []))) w)
  (k:∀ w',St B U L w'->∃ v,(wCN rs σ).run P w'=.ok v w'/\R v w'):retM P rs R (rbs.map Go.KX.mark) e σ w:=by
 have hn:rbs.Nodup:=by
  rw [List.Nodup,kC]
  intro i j hi hj hij e
  have at_:∀ (i:Nat) (h:i < rbs.length),(L ++ rbs.map fun rb=>Res.obj rb (.deferred (some [])))[L.length + i]?=some (.obj rbs[i] (.deferred (some []))):=fun i h=>by
   rw [nQ (by omega),show L.length + i - L.length=i by omega,nW,nM h]
   rfl
  have:=hS.dj _ _ _ _ rbs[i] (at_ i hi) (at_ j hj) rfl (by rw [e];rfl)
  omega
 have fin:∃ rbs':List Nat,rbs.map Go.KX.mark=rbs'.map Go.KX.mark/\rbs'.Nodup/\(∀ rb ∈ rbs',Dfr w rb)/\∀ w',Keep w w' (· ∈ rbs')->w'.heap.size=w.heap.size->∃ v,(wCN rs σ).run P w'=.ok v w'/\R v w' :=
  ⟨rbs,rfl,hn,fun rb hrb=>hS.at_ (.obj rb (.deferred (some []))) (nR _ (kD.2 ⟨rb,hrb,rfl⟩)),fun w' K _=>k w' (hS.outs K)⟩
 rcases he with rfl | rfl
 ·exact fin
 ·exact fin
end
end Go.KL
namespace Go.Proofs.Ytlnfbjphfoipaaa
open Go.KL
structure wAE where
 bytes:List Int
 next:Int
 state:Int
deriving DecidableEq,Inhabited,Repr
structure wAF where
 Lo:Int
 Hi:Int
deriving DecidableEq,Inhabited,Repr
structure wAI where
 Offset:wAF
 Error:Int
deriving DecidableEq,Inhabited,Repr
structure wAR where
 Skier:Int
 Mat:Int
 Clock:Int
 Time:Int
deriving DecidableEq,Inhabited,Repr
structure wAB where
 Starts:List Int
 Splits:List wAF
 Clocks:List wAI
 Readings:List wAR
deriving DecidableEq,Inhabited,Repr
structure wAQ where
 Skier:Int
 Mat:Int
deriving DecidableEq,Inhabited,Repr
structure wAC where
 skier:Int
 mat:Int
deriving DecidableEq,Inhabited,Repr
structure wAK where
 Kind:Int
 Skier:Int
 Index:Int
 Up:Bool
deriving DecidableEq,Inhabited,Repr
structure wAZ where
 step:wAK
 from_:Int
 to_:Int
 count:Int
deriving DecidableEq,Inhabited,Repr
structure wAb where
 Race:wAB
 number:List (wAC × Int)
 edges:List wAZ
structure wCa where
 far:List Int
 by_:List Int
deriving DecidableEq,Inhabited,Repr
def wCk (p0:List Int):Option (wAE) :=
 some (⟨p0,0,17⟩:wAE)
def wAL (p0:wAE) (p1:Int):Option (Int × wAE) :=
 if p1 <= 1 then
  some (0,p0)
 else
  if (↑p0.bytes.length:Int)=0 then
   some (0,p0)
  else
   (rem p0.next (↑p0.bytes.length:Int)).bind fun x10 =>
   (idx p0.bytes x10).bind fun x13 =>
   (quo p0.next (↑p0.bytes.length:Int)).bind fun x20 =>
   (rem (wEI ((wEI ((wEI ((wEI (p0.state * 45)) + (wEI x13))) + (wEI (77 * (wEI x20))))) + 1)) 65519).bind fun x32 =>
   if (wEI x20)=0 then
    if p1 <= 256 then
     (rem (w64 (wEI x13)) p1).bind fun x42 =>
     some (x42,(⟨p0.bytes,w64 (p0.next + 1),x32⟩:wAE))
    else
     (rem (w64 (wEI ((wEI (x32 * 256)) + (wEI x13)))) p1).bind fun x46 =>
     some (x46,(⟨p0.bytes,w64 (p0.next + 1),x32⟩:wAE))
   else
    (rem (w64 (wEI ((wEI (x32 * 256)) + (wEI x13)))) p1).bind fun x50 =>
    some (x50,(⟨p0.bytes,w64 (p0.next + 1),x32⟩:wAE))
def wAM (p0:wAE) (p1:Int) (p2:Int):Option (Int × wAE) :=
 (wAL p0 (w64 ((w64 (p2 - p1)) + 1))).bind fun (x2,x3) =>
 some (w64 (p1 + x2),x3)
def wBX (p0:wAE) (p1:Int) (p2:Int) (p3:Int):Option (wAB × (List (List Int)) × (List Int) × wAE) :=
 (wAM p0 1 p1).bind fun (x10,x11) =>
 (wBg 0 x10 (fun k62 (l53,x56,x57,l58) =>
  (wAL (⟨l53,x56,x57⟩:wAE) 4).bind fun (x142,x143) =>
  (wAL x143 3).bind fun (x156,x157) =>
  (app 8 l58 [w64 ((w64 (300 * x142)) + x156)]).bind fun x175 =>
  some (x157.bytes,x157.next,x157.state,x175)) (x11.bytes,x11.next,x11.state,[])).bind fun (y67,y68,y69,y70) =>
 (wAL (⟨y67,y68,y69⟩:wAE) p2).bind fun (x223,x224) =>
 (wBg 0 x223 (fun k274 (l265,x268,x269,l270) =>
  (wAM (⟨l265,x268,x269⟩:wAE) 3 9).bind fun (x305,x306) =>
  (wAL x306 30).bind fun (x353,x354) =>
  (app 16 l270 [(⟨w64 (100 * x305),w64 ((w64 (100 * x305)) + (w64 (10 * x353)))⟩:wAF)]).bind fun x372 =>
  some (x354.bytes,x354.next,x354.state,x372)) (x224.bytes,x224.next,x224.state,[])).bind fun (y279,y280,y281,y282) =>
 (wBg 0 (↑y70.length:Int) (fun k460 (l450,x453,x454,l455) =>
  (chk (↑k460:Int) y70.length).bind fun _ =>
  (wBg 0 (↑y282.length:Int) (fun k541 (l532,x535,x536,x537,l538) =>
   (chk (↑k541:Int) y282.length).bind fun _ =>
   (wAM (⟨l532,x535,x536⟩:wAE) ((gd y282 k541).Lo) ((gd y282 k541).Hi)).bind fun (x589,x590) =>
   (app 8 l538 [w64 (x537 + x589)]).bind fun x609 =>
   some (x590.bytes,x590.next,x590.state,w64 (x537 + x589),x609)) (l450,x453,x454,(gd y70 k460),[(gd y70 k460)])).bind fun (y546,y547,y548,y549,y550) =>
  (app 24 l455 [y550]).bind fun x672 =>
  some (y546,y547,y548,x672)) (y279,y280,y281,[])).bind fun (y465,y466,y467,y468) =>
 (wAM (⟨y465,y466,y467⟩:wAE) 1 3).bind fun (x726,x727) =>
 (wBg 0 x726 (fun k792 (l779,x782,x783,l784,l788) =>
  (wAM (⟨l779,x782,x783⟩:wAE) (-60) 20).bind fun (x826,x827) =>
  (wAL x827 50).bind fun (x840,x841) =>
  (wAL x841 6).bind fun (x854,x855) =>
  (app 24 l784 [(⟨(⟨x826,w64 (x826 + x840)⟩:wAF),x854⟩:wAI)]).bind fun x880 =>
  (wAM x855 x826 (w64 (x826 + x840))).bind fun (x888,x889) =>
  (app 8 l788 [x888]).bind fun x908 =>
  some (x889.bytes,x889.next,x889.state,x880,x908)) (x727.bytes,x727.next,x727.state,[],[])).bind fun (y797,y798,y799,y800,y801) =>
 (wAL (⟨y797,y798,y799⟩:wAE) (w64 (p3 + 1))).bind fun (x1667,x1668) =>
 (wBg 0 x1667 (fun k1736 (l1727,x1730,x1731,l1732) =>
  ((wAL (⟨l1727,x1730,x1731⟩:wAE) (↑y70.length:Int)).bind fun (x1833,x1834) =>
  (wAL x1834 (w64 ((↑y282.length:Int) + 1))).bind fun (x1847,x1848) =>
  (wAL x1848 (↑y800.length:Int)).bind fun (x1861,x1862) =>
  some (x1862.bytes,x1862.next,x1862.state,x1833,x1847,x1861)).bind fun (l1767,x1770,x1771,x1774,x1775,x1776) =>
  (chk x1776 y800.length).bind fun _ =>
  (idx y468 x1774).bind fun x2140 =>
  (idx x2140 x1775).bind fun x2156 =>
  (chk x1776 y801.length).bind fun _ =>
  (wAM (⟨l1767,x1770,x1771⟩:wAE) (w64 (-((gd y800 x1776.toNat).Error))) ((gd y800 x1776.toNat).Error)).bind fun (x2171,x2172) =>
  if (w64 (-((gd y800 x1776.toNat).Error))) <= (w64 ((w64 ((max 0 (w64 ((w64 (x2156 + (gd y801 x1776.toNat))) + x2171))) - x2156)) - (gd y801 x1776.toNat))) then
   if (w64 ((w64 ((max 0 (w64 ((w64 (x2156 + (gd y801 x1776.toNat))) + x2171))) - x2156)) - (gd y801 x1776.toNat))) <= ((gd y800 x1776.toNat).Error) then
    (app 32 l1732 [(⟨x1774,x1775,x1776,max 0 (w64 ((w64 (x2156 + (gd y801 x1776.toNat))) + x2171))⟩:wAR)]).bind fun x2225 =>
    some (x2172.bytes,x2172.next,x2172.state,x2225)
   else
    some (x2172.bytes,x2172.next,x2172.state,l1732)
  else
   some (x2172.bytes,x2172.next,x2172.state,l1732)) (x1668.bytes,x1668.next,x1668.state,[])).bind fun (y1741,y1742,y1743,y1744) =>
 some ((⟨y70,y282,y800,y1744⟩:wAB),y468,y801,(⟨y1741,y1742,y1743⟩:wAE))
def wBn (p0:Int) (p1:Int):Option (Int) :=
 if p1 <= 0 then
  some 0
 else
  (rem p0 p1).bind fun x4 =>
  (rem (w64 (x4 + p1)) p1).bind fun x7 =>
  some x7
def wCG (p0:Int) (p1:Int) (p2:Int):Option (Bool) :=
 if p1 <= p0 then
  some (decide (p0 <= p2))
 else
  some false
def wBo (p0:List Int) (p1:(Int->Option Bool)):Option (Bool) :=
 jn (wEn 0 (↑p0.length:Int) (fun k2 _ =>
  (idx p0 (↑k2:Int)).bind fun x22 =>
  (p1 x22).bind fun x30 =>
  if x30=true then
   some (.inl ())
  else
   esc (some false)) ()) fun _ =>
 some true
def wBv (p0:Int):Option (Bool) :=
 (wCG p0 0 360000).bind fun x1 =>
 some x1
def wBD (p0:List wAF) (p1:(wAF->Option Bool)):Option (Bool) :=
 jn (wEn 0 (↑p0.length:Int) (fun k2 _ =>
  (idx p0 (↑k2:Int)).bind fun x22 =>
  (p1 x22).bind fun x37 =>
  if x37=true then
   some (.inl ())
  else
   esc (some false)) ()) fun _ =>
 some true
def wBw (p0:wAF) (p1:Int) (p2:Int):Option (Bool) :=
 if p0.Lo <= p0.Hi then
  if p1 <= p0.Lo then
   some (decide (p0.Hi <= p2))
  else
   some false
 else
  some false
def wBx (p0:wAF):Option (Bool) :=
 (wBw p0 0 360000).bind fun x5 =>
 some x5
def wAx (p0:List wAI) (p1:(wAI->Option Bool)):Option (Bool) :=
 jn (wEn 0 (↑p0.length:Int) (fun k2 _ =>
  (idx p0 (↑k2:Int)).bind fun x22 =>
  (p1 x22).bind fun x37 =>
  if x37=true then
   some (.inl ())
  else
   esc (some false)) ()) fun _ =>
 some true
def wBy (p0:wAI):Option (Bool) :=
 (wBw p0.Offset (-36000) 36000).bind fun x5 =>
 if x5=true then
  (wCG p0.Error 0 600).bind fun x17 =>
  some x17
 else
  some false
def wAj (p0:List wAR) (p1:(wAR->Option Bool)):Option (Bool) :=
 jn (wEn 0 (↑p0.length:Int) (fun k2 _ =>
  (idx p0 (↑k2:Int)).bind fun x22 =>
  (p1 x22).bind fun x37 =>
  if x37=true then
   some (.inl ())
  else
   esc (some false)) ()) fun _ =>
 some true
def wBz (p0:wAR):Option (Bool) :=
 (wCG p0.Time 0 360000).bind fun x5 =>
 some x5
def wAl (p0:wAB) (p1:wAQ):Option (Bool) :=
 (wCG p1.Skier 0 (w64 ((↑p0.Starts.length:Int) - 1))).bind fun x9 =>
 if x9=true then
  (wCG p1.Mat 0 (↑p0.Splits.length:Int)).bind fun x21 =>
  some x21
 else
  some false
def wCA (p0:wAR) (p1:wAB):Option (Bool) :=
 (wAl p1 (⟨p0.Skier,p0.Mat⟩:wAQ)).bind fun x5 =>
 if x5=true then
  (wCG p0.Clock 0 (w64 ((↑p1.Clocks.length:Int) - 1))).bind fun x18 =>
  some x18
 else
  some false
def wDM (p0:wAB):Option (Int) :=
 (wCG (↑p0.Starts.length:Int) 1 8).bind fun x10 =>
 if x10=true then
  if 7 < (↑p0.Splits.length:Int) then
   some 2
  else
   if 4 < (↑p0.Clocks.length:Int) then
    some 2
   else
    if 40 < (↑p0.Readings.length:Int) then
     some 2
    else
     (wBo p0.Starts wBv).bind fun x35 =>
     if x35=true then
      (wBD p0.Splits wBx).bind fun x52 =>
      if x52=true then
       (wAx p0.Clocks wBy).bind fun x70 =>
       if x70=true then
        (wAj p0.Readings wBz).bind fun x92 =>
        if x92=true then
         (wAj p0.Readings (fun x=>wCA x p0)).bind fun x116 =>
         if x116=true then
          some 0
         else
          some 1
        else
         some 3
       else
        some 3
      else
       some 3
     else
      some 3
 else
  some 2
def wCV :Option (wAC) :=
 some (⟨-1,0⟩:wAC)
def wBY {S E:Type} (f:S->wAK->Option (S ⊕ E)) (s0:S) (p1:wAB):Option (S ⊕ E) :=
 jn (wEn 0 4 (fun k12 s10 =>
  (idx ([1,(↑p1.Splits.length:Int),(↑p1.Clocks.length:Int),(↑p1.Readings.length:Int)]:List Int) (↑k12:Int)).bind fun x33 =>
  (if (↑k12:Int)=2 then
   some (true,s10)
  else
   some (decide ((↑k12:Int)=3),s10)).bind fun (b37,s38) =>
  if b37=true then
   jn (wEn 0 1 (fun k78 s76 =>
    jn (wEn 0 x33 (fun k113 s111 =>
     (f s111 (⟨(↑k12:Int),(↑k78:Int),(↑k113:Int),true⟩:wAK)).bind fun yr141 =>
     match yr141 with
     | .inl s151 =>
      (f s151 (⟨(↑k12:Int),(↑k78:Int),(↑k113:Int),false⟩:wAK)).bind fun yr154 =>
      match yr154 with
      | .inl s164 =>
       some (.inl s164)
      | .inr s164 =>
       esc (esc (esc (some (.inr s164))))
     | .inr s151 =>
      esc (esc (esc (some (.inr s151))))) s76) fun y195 =>
    some (.inl y195)) s38) fun y219 =>
   some (.inl y219)
  else
   jn (wEn 0 (↑p1.Starts.length:Int) (fun k247 s245 =>
    jn (wEn 0 x33 (fun k282 s280 =>
     (f s280 (⟨(↑k12:Int),(↑k247:Int),(↑k282:Int),true⟩:wAK)).bind fun yr310 =>
     match yr310 with
     | .inl s320 =>
      (f s320 (⟨(↑k12:Int),(↑k247:Int),(↑k282:Int),false⟩:wAK)).bind fun yr323 =>
      match yr323 with
      | .inl s333 =>
       some (.inl s333)
      | .inr s333 =>
       esc (esc (esc (some (.inr s333))))
     | .inr s320 =>
      esc (esc (esc (some (.inr s320))))) s245) fun y364 =>
    some (.inl y364)) s38) fun y388 =>
   some (.inl y388)) s0) fun y409 =>
 some (.inl y409)
def wCK (p0:wAB):Option (Unit) :=
 some ()
def wDC (p0:wAB) (p1:wAK):Option (wAC × wAC) :=
 ((wCV).bind fun x22 =>
 some (x22.skier,x22.mat)).bind fun (x17,x18) =>
 some ((⟨x17,x18⟩:wAC),(⟨p1.Skier,0⟩:wAC))
def wDD (p0:wAB) (p1:wAK):Option (Int × Int) :=
 (idx p0.Starts p1.Skier).bind fun x11 =>
 some (x11,w64 (-x11))
def wDE (p0:wAB) (p1:wAK):Option (wAC × wAC) :=
 (some ()).bind fun _ =>
 some ((⟨p1.Skier,p1.Index⟩:wAC),(⟨p1.Skier,w64 (p1.Index + 1)⟩:wAC))
def wDF (p0:wAB) (p1:wAK):Option (Int × Int) :=
 (idx p0.Splits p1.Index).bind fun x11 =>
 some (x11.Hi,w64 (-x11.Lo))
def wBQ (p0:Int):Option (wAC) :=
 some (⟨-1,w64 (1 + p0)⟩:wAC)
def wDG (p0:wAB) (p1:wAK):Option (wAC × wAC) :=
 (wCV).bind fun x19 =>
 (wBQ p1.Index).bind fun x29 =>
 some (x19,x29)
def wDH (p0:wAB) (p1:wAK):Option (Int × Int) :=
 (idx p0.Clocks p1.Index).bind fun x11 =>
 some (w64 (-x11.Offset.Lo),x11.Offset.Hi)
def wCl (p0:wAB) (p1:wAK):Option (wAC × wAC) :=
 (idx p0.Readings p1.Index).bind fun x17 =>
 ((wBQ x17.Clock).bind fun x36 =>
 some (x36.skier,x36.mat)).bind fun (x31,x32) =>
 some ((⟨x31,x32⟩:wAC),(⟨x17.Skier,x17.Mat⟩:wAC))
def wCm (p0:wAB) (p1:wAK):Option (Int × Int) :=
 (idx p0.Readings p1.Index).bind fun x9 =>
 (idx p0.Clocks x9.Clock).bind fun x25 =>
 some (w64 (x9.Time + x25.Error),w64 (x25.Error - x9.Time))
def wBs :Option (Unit) :=
 some ()
def wBT (p0:wAB) (p1:wAK):Option (wAC × wAC × Int) :=
 if p1.Kind=0 then
  ((wBs).bind fun _ =>
  some ()).bind fun _ =>
  (wDC p0 p1).bind fun (x92,x93) =>
  (wDD p0 p1).bind fun (x113,x114) =>
  if p1.Up=true then
   (some ()).bind fun _ =>
   some (x92,x93,x113)
  else
   some (x93,x92,x114)
 else
  if p1.Kind=1 then
   ((wBs).bind fun _ =>
   some ()).bind fun _ =>
   (wDE p0 p1).bind fun (x251,x252) =>
   (wDF p0 p1).bind fun (x272,x273) =>
   if p1.Up=true then
    (some ()).bind fun _ =>
    some (x251,x252,x272)
   else
    some (x252,x251,x273)
  else
   if p1.Kind=2 then
    ((wBs).bind fun _ =>
    some ()).bind fun _ =>
    (wDG p0 p1).bind fun (x410,x411) =>
    (wDH p0 p1).bind fun (x431,x432) =>
    if p1.Up=true then
     (some ()).bind fun _ =>
     some (x410,x411,x431)
    else
     some (x411,x410,x432)
   else
    if p1.Kind=3 then
     ((wBs).bind fun _ =>
     some ()).bind fun _ =>
     (wCl p0 p1).bind fun (x569,x570) =>
     (wCm p0 p1).bind fun (x590,x591) =>
     if p1.Up=true then
      (some ()).bind fun _ =>
      some (x569,x570,x590)
     else
      some (x570,x569,x591)
    else
     (wBs).bind fun _ =>
     none
def wCn (p0:wAB):Option (wAb) :=
 ((wCV).bind fun x22 =>
 some (mput ([]:List (wAC × Int)) x22 0)).bind fun l13 =>
 (wCK p0).bind fun _ =>
 (wBY (S:=(List wAZ) × (List (wAC × Int))) (E:=Empty) (fun (l1591,l1595) x1616 =>
  (wBT p0 x1616).bind fun (x1652,x1653,x1654) =>
  (wBg 0 2 (fun k1692 l1689 =>
   (idx ([x1652,x1653]:List wAC) (↑k1692:Int)).bind fun x1718 =>
   if (wIC l1689 x1718)=true then
    some l1689
   else
    some (mput l1689 x1718 (↑(l1689.length):Int))) l1595).bind fun y1697 =>
  (app 56 l1591 [(⟨x1616,(wAg y1697 x1652 0),(wAg y1697 x1653 0),x1654⟩:wAZ)]).bind fun x1773 =>
  some (.inl (x1773,y1697))) ([],l13) p0).bind fun rr1606 =>
 match rr1606 with
 | .inl (y1845,y1846) =>
  some (⟨p0,y1846,y1845⟩:wAb)
 | .inr e1851 =>
  e1851.elim
def wCb (p0:wAB):Option ((Option wAb) × Int) :=
 (wDM p0).bind fun x5 =>
 if x5=0 then
  (wCn p0).bind fun x21 =>
  some ((some x21),0)
 else
  some (none,x5)
def wAq (p0:List wAQ) (p1:(wAQ->Option Bool)):Option (Bool) :=
 jn (wEn 0 (↑p0.length:Int) (fun k2 _ =>
  (idx p0 (↑k2:Int)).bind fun x22 =>
  (p1 x22).bind fun x37 =>
  if x37=true then
   some (.inl ())
  else
   esc (some false)) ()) fun _ =>
 some true
def wCo (p0 p1:Int):Option (Int × Int):=if 0 <= p0/\p0 < 18446744073709551616/\0 <= p1/\p1 < 18446744073709551616 then some (p0 * p1 / 18446744073709551616,p0 * p1 % 18446744073709551616) else none
def wAr (p0:List Int) (p1:Int):Option ((List Int)) :=
 if p1 < 0 then
  none
 else
  (wCo (wOM (↑p0.length:Int)) (wOM p1)).bind fun (x4,x5) =>
  (if 0 < x4 then
   some true
  else
   some (decide (9223372036854775807 < x5))).bind fun b15 =>
  if b15=true then
   none
  else
   (mkz 8 (w64 x5) (0:Int)).bind fun x35 =>
   (wOw x35 0 p0).bind fun x45 =>
   iter (fun (l58,x59) =>
    if x59 < (↑l58.length:Int) then
     (cut l58 x59 (↑(l58.length):Int)).bind fun x77 =>
     (cut l58 0 x59).bind fun x86 =>
     (wOw l58 x59 x86).bind fun x95 =>
     some (.inl (x95,w64 (x59 + (↑(min x86.length (x77.length)):Int))))
    else
     esc (some l58)) big (x45,(↑(min p0.length (x35.length)):Int))
def wAa (p0:wAb) (p1:Int) (p2:Bool):Option (wCa × Int × Bool) :=
 ((wAr [1125899906842624] (↑(p0.number.length):Int)).bind fun x28 =>
 (wAr [-1] (↑(p0.number.length):Int)).bind fun x51 =>
 some (x28,x51)).bind fun (l9,l12) =>
 (wBg 0 (↑l9.length:Int) (fun k1254 l1253 =>
  if p1 < 0 then
   (chk (↑k1254:Int) l1253.length).bind fun _ =>
   some (nt l1253 k1254 0)
  else
   if (↑k1254:Int)=p1 then
    (chk (↑k1254:Int) l1253.length).bind fun _ =>
    some (nt l1253 k1254 0)
   else
    some l1253) l9).bind fun y1259 =>
 jn (wEn 0 (w64 ((↑(p0.number.length):Int) + 1)) (fun k1336 (l1333,l1334,x1335) =>
  (wBg 0 (↑p0.edges.length:Int) (fun k1375 (l1372,l1373,x1374) =>
   ((idx p0.edges (↑k1375:Int)).bind fun x1412 =>
   if p2=true then
    (chk x1412.to_ l1372.length).bind fun _ =>
    if (gd l1372 x1412.to_.toNat) < 1125899906842624 then
     (chk x1412.from_ l1372.length).bind fun _ =>
     if (w64 ((gd l1372 x1412.to_.toNat) + x1412.count)) < (gd l1372 x1412.from_.toNat) then
      ((chk x1412.from_ l1373.length).bind fun _ =>
      some ()).bind fun _ =>
      some ((nt l1372 x1412.from_.toNat (w64 ((gd l1372 x1412.to_.toNat) + x1412.count))),(nt l1373 x1412.from_.toNat (↑k1375:Int)),x1412.from_)
     else
      some (l1372,l1373,x1374)
    else
     some (l1372,l1373,x1374)
   else
    (chk x1412.from_ l1372.length).bind fun _ =>
    if (gd l1372 x1412.from_.toNat) < 1125899906842624 then
     (chk x1412.to_ l1372.length).bind fun _ =>
     if (w64 ((gd l1372 x1412.from_.toNat) + x1412.count)) < (gd l1372 x1412.to_.toNat) then
      ((chk x1412.to_ l1373.length).bind fun _ =>
      some ()).bind fun _ =>
      some ((nt l1372 x1412.to_.toNat (w64 ((gd l1372 x1412.from_.toNat) + x1412.count))),(nt l1373 x1412.to_.toNat (↑k1375:Int)),x1412.to_)
     else
      some (l1372,l1373,x1374)
    else
     some (l1372,l1373,x1374)).bind fun (l1406,l1407,x1408) =>
   some (l1406,l1407,x1408)) (l1333,l1334,-1)).bind fun (y1380,y1381,y1382) =>
  if y1382 < 0 then
   esc (some ((⟨y1380,y1381⟩:wCa),0,true))
  else
   some (.inl (y1380,y1381,y1382))) (y1259,l12,-1)) fun (y1697,y1698,y1699) =>
 some ((⟨y1697,y1698⟩:wCa),y1699,false)
def wBp (p0:wAb):Option (Bool) :=
 (wAa p0 (-1) false).bind fun (x3,x4,x5) =>
 some x5
def wCH (p0:wAB) (p1:List wAQ):Option ((Option wAb) × Int) :=
 (wCb p0).bind fun (x5,x6) =>
 match x5 with
 | none =>
  if x6=0 then
   (wAq p1 (fun x=>wAl p0 x)).bind fun x40 =>
   if x40=true then
    none
   else
    some (none,1)
  else
   some (none,x6)
 | some x30 =>
  if x6=0 then
   (wAq p1 (fun x=>wAl p0 x)).bind fun x71 =>
   if x71=true then
    (wBp x30).bind fun x96 =>
    if x96=true then
     some ((some x30),0)
    else
     some (none,7)
   else
    some (none,1)
  else
   some (none,x6)
def wCL (p0:wAB) (p1:Int):Option ((Option wAb) × Int) :=
 (wCH p0 [(⟨0,p1⟩:wAQ)]).bind fun (x19,x20) =>
 match x19 with
 | none =>
  some (none,x20)
 | some x44 =>
  some ((some x44),x20)
def wBA (p0:wAb) (p1:Int):Option ((Arr Int 64)) :=
 (wBg 0 (↑p0.Race.Starts.length:Int) (fun k19 a18 =>
  (wAa p0 (wAg p0.number (⟨(↑k19:Int),p1⟩:wAC) 0) false).bind fun (x47,x48,x49) =>
  (wBg 0 (↑p0.Race.Starts.length:Int) (fun k79 a78 =>
   (chk (wAg p0.number (⟨(↑k79:Int),p1⟩:wAC) 0) x47.far.length).bind fun _ =>
   (chk (↑k19:Int) 8).bind fun _ =>
   (chk (↑k79:Int) 8).bind fun _ =>
   some (a78.set (k19 * 8 + k79) (gd x47.far (wAg p0.number (⟨(↑k79:Int),p1⟩:wAC) 0).toNat))) a18).bind fun y84 =>
  some y84) (Arr.fill 64 0)).bind fun y24 =>
 some y24
def wCM (p0:wAB) (p1:Int):Option ((List wAF) × Int) :=
 (wCL p0 p1).bind fun (x5,x6) =>
 match x5 with
 | none =>
  if x6=0 then
   none
  else
   some ([],x6)
 | some x30 =>
  if x6=0 then
   (wBA x30 p1).bind fun x48 =>
   (wBg 0 (↑p0.Starts.length:Int) (fun k83 l79 =>
    (wBg 0 (↑p0.Starts.length:Int) (fun k124 (x122,x123) =>
     (chk (↑k83:Int) 8).bind fun _ =>
     (chk (↑k124:Int) 8).bind fun _ =>
     if (x48.get (k83 * 8 + k124)) < 0 then
      if 0 < (x48.get (k124 * 8 + k83)) then
       some (w64 (x122 + 1),w64 (x123 + 1))
      else
       some (w64 (x122 + 1),x123)
     else
      if 0 < (x48.get (k124 * 8 + k83)) then
       some (x122,w64 (x123 + 1))
      else
       some (x122,x123)) (1,1)).bind fun (y129,y130) =>
    (app 16 l79 [(⟨y129,y130⟩:wAF)]).bind fun x207 =>
    some x207) []).bind fun y88 =>
   some (y88,0)
  else
   some ([],x6)
def wCc (p0:wAB) (p1:Int):Option ((List (List Int)) × Int) :=
 (wCL p0 p1).bind fun (x5,x6) =>
 match x5 with
 | none =>
  if x6=0 then
   none
  else
   some ([],x6)
 | some x30 =>
  if x6=0 then
   (wBA x30 p1).bind fun x51 =>
   (mkz 24 (↑p0.Starts.length:Int) ([]:List Int)).bind fun x69 =>
   (wBg 0 (↑x69.length:Int) (fun k91 l89 =>
    (wBg 0 (↑l89.length:Int) (fun k122 l120 =>
     (chk (↑k91:Int) 8).bind fun _ =>
     (chk (↑k122:Int) 8).bind fun _ =>
     if (x51.get (k91 * 8 + k122)) < 0 then
      (chk (↑k91:Int) l120.length).bind fun _ =>
      (app 8 (gd l120 k91) [(↑k122:Int)]).bind fun x167 =>
      some (nt l120 k91 x167)
     else
      some l120) l89).bind fun y127 =>
    some y127) x69).bind fun y96 =>
   some (y96,0)
  else
   some ([],x6)
def wAd (p0:List (List Int)) (p1:Int) (p2:Int):Option (Int) :=
 (wBg 0 (↑p0.length:Int) (fun k7 x6 =>
  (idx p0 (↑k7:Int)).bind fun x31 =>
  (idx x31 p2).bind fun x47 =>
  (idx p0 p1).bind fun x54 =>
  (idx x54 p2).bind fun x66 =>
  if x47 < x66 then
   some (w64 (x6 + 1))
  else
   some x6) 1).bind fun y12 =>
 some y12
def wBi (p0:Int) (p1:wAF):Option (Bool) :=
 if p1.Lo <= p0 then
  some (decide (p0 <= p1.Hi))
 else
  some false
def wAo (p0:Int) (p1:Int):Option (wAQ) :=
 some (⟨p0,p1⟩:wAQ)
def wCp (p0:wAQ):Option (wAC) :=
 some (⟨p0.Skier,p0.Mat⟩:wAC)
def wBf (p0:wAb) (p1:List Int):Option ((List (List Int)) × (List Int)) :=
 (idx p1 0).bind fun x3 =>
 (wBg 0 (↑p0.Race.Starts.length:Int) (fun k31 l26 =>
  (wBg 0 (w64 ((↑p0.Race.Splits.length:Int) + 1)) (fun k74 l70 =>
   (idx p1 (wAg p0.number (⟨(↑k31:Int),(↑k74:Int)⟩:wAC) 0)).bind fun x103 =>
   (app 8 l70 [w64 (x103 - x3)]).bind fun x117 =>
   some x117) []).bind fun y79 =>
  (app 24 l26 [y79]).bind fun x161 =>
  some x161) []).bind fun y36 =>
 (wBg 0 (↑p0.Race.Clocks.length:Int) (fun k215 l211 =>
  (wBQ (↑k215:Int)).bind fun x243 =>
  (idx p1 (wAg p0.number x243 0)).bind fun x253 =>
  (app 8 l211 [w64 (x3 - x253)]).bind fun x268 =>
  some x268) []).bind fun y220 =>
 some (y36,y220)
def wBt (p0:wAB) (p1:wAQ) (p2:Bool):Option ((List (List Int)) × (List Int) × Int) :=
 (wCH p0 [p1]).bind fun (x23,x24) =>
 match x23 with
 | none =>
  if x24=0 then
   none
  else
   some ([],[],x24)
 | some x48 =>
  if x24=0 then
   ((wCp p1).bind fun x81 =>
   (wAa x48 (wAg x48.number x81 0) (!p2)).bind fun (x96,x97,x98) =>
   some (x96.far,x96.by_)).bind fun (l72,l75) =>
   if p2=true then
    (wBf x48 l72).bind fun (x276,x277) =>
    some (x276,x277,0)
   else
    (wBg 0 (↑l72.length:Int) (fun k302 l301 =>
     (chk (↑k302:Int) l301.length).bind fun _ =>
     some (nt l301 k302 (w64 ((gd l301 k302) * (-1))))) l72).bind fun y307 =>
    (wBf x48 y307).bind fun (x368,x369) =>
    some (x368,x369,0)
  else
   some ([],[],x24)
def wBE (p0:wAB) (p1:List (List Int)) (p2:List Int):Option (Bool) :=
 if (↑p1.length:Int)=(↑p0.Starts.length:Int) then
  if (↑p2.length:Int)=(↑p0.Clocks.length:Int) then
   jn (wEn 0 (↑p1.length:Int) (fun k10 _ =>
    (idx p1 (↑k10:Int)).bind fun x32 =>
    if (↑x32.length:Int)=(w64 ((↑p0.Splits.length:Int) + 1)) then
     (idx x32 0).bind fun x49 =>
     (idx p0.Starts (↑k10:Int)).bind fun x56 =>
     if x49=x56 then
      jn (wEn 0 (↑p0.Splits.length:Int) (fun k67 _ =>
       (idx p0.Splits (↑k67:Int)).bind fun x93 =>
       (idx x32 (↑(k67 + 1):Int)).bind fun x125 =>
       (idx x32 (↑k67:Int)).bind fun x133 =>
       if x125 < x133 then
        esc (esc (some false))
       else
        if (w64 (x125 - x133)) < x93.Lo then
         esc (esc (some false))
        else
         if x93.Hi < (w64 (x125 - x133)) then
          esc (esc (some false))
         else
          some (.inl ())) ()) fun _ =>
      some (.inl ())
     else
      esc (some false)
    else
     esc (some false)) ()) fun _ =>
   jn (wEn 0 (↑p0.Clocks.length:Int) (fun k224 _ =>
    (idx p0.Clocks (↑k224:Int)).bind fun x246 =>
    (idx p2 (↑k224:Int)).bind fun x264 =>
    if x264 < x246.Offset.Lo then
     esc (some false)
    else
     if x246.Offset.Hi < x264 then
      esc (some false)
     else
      some (.inl ())) ()) fun _ =>
   jn (wEn 0 (↑p0.Readings.length:Int) (fun k304 _ =>
    (idx p0.Readings (↑k304:Int)).bind fun x326 =>
    (idx p1 x326.Skier).bind fun x345 =>
    (idx x345 x326.Mat).bind fun x360 =>
    (idx p2 x326.Clock).bind fun x367 =>
    (idx p0.Clocks x326.Clock).bind fun x377 =>
    if x377.Error < (w64 ((w64 (x326.Time - x360)) - x367)) then
     esc (some false)
    else
     if x377.Error < (w64 (-(w64 ((w64 (x326.Time - x360)) - x367)))) then
      esc (some false)
     else
      some (.inl ())) ()) fun _ =>
   some true
  else
   some false
 else
  some false
def wBZ (p0:wAb) (p1:wAC) (p2:wAC):Option (wAF) :=
 ((wAa p0 (wAg p0.number p1 0) false).bind fun (x26,x27,x28) =>
 some (x26.far,x26.by_)).bind fun (l17,l20) =>
 ((wAa p0 (wAg p0.number p2 0) false).bind fun (x145,x146,x147) =>
 some (x145.far,x145.by_)).bind fun (l131,l134) =>
 (chk (wAg p0.number p1 0) l131.length).bind fun _ =>
 (chk (wAg p0.number p2 0) l17.length).bind fun _ =>
 some (⟨w64 (-(gd l131 (wAg p0.number p1 0).toNat)),(gd l17 (wAg p0.number p2 0).toNat)⟩:wAF)
def wDo (p0:wAB) (p1:wAQ) (p2:wAQ):Option (wAF × Int) :=
 (wCH p0 [p1,p2]).bind fun (x31,x32) =>
 match x31 with
 | none =>
  if x32=0 then
   (wCp p1).bind fun x62 =>
   (wCp p2).bind fun x72 =>
   none
  else
   some ((⟨0,0⟩:wAF),x32)
 | some x56 =>
  if x32=0 then
   (wCp p1).bind fun x99 =>
   (wCp p2).bind fun x109 =>
   (wBZ x56 x99 x109).bind fun x129 =>
   some (x129,0)
  else
   some ((⟨0,0⟩:wAF),x32)
def wBb (p0:List Int) (p1:Int):Option (Int) :=
 jn (wEn 0 (↑p0.length:Int) (fun k2 _ =>
  (idx p0 (↑k2:Int)).bind fun x22 =>
  if p1=x22 then
   esc (some (↑k2:Int))
  else
   some (.inl ())) ()) fun _ =>
 some (-1)
def wAt (p0:List Int) (p1:Int):Option (Bool) :=
 (wBb p0 p1).bind fun x1 =>
 some (decide (0 <= x1))
def wCP:Option Bool:=some true
def wBG (p0:List Int) (p1:Int):Option (Bool) :=
 (wCk p0).bind fun x1 =>
 (wBX x1 7 5 14).bind fun (x16,x17,x18,x19) =>
 (wBn p1 (w64 ((↑x16.Splits.length:Int) + 1))).bind fun x57 =>
 (wCM x16 x57).bind fun (x100,x101) =>
 (wCc x16 x57).bind fun (x118,x119) =>
 if x101=0 then
  if x119=0 then
   if (↑x100.length:Int)=(↑x16.Starts.length:Int) then
    if (↑x118.length:Int)=(↑x100.length:Int) then
     jn (wEn 0 (↑x100.length:Int) (fun k163 _ =>
      (chk (↑k163:Int) x100.length).bind fun _ =>
      (wAd x17 (↑k163:Int) x57).bind fun x205 =>
      (wBi x205 (gd x100 k163)).bind fun x215 =>
      if x215=true then
       (idx x118 (↑k163:Int)).bind fun x227 =>
       if (↑x227.length:Int)=(w64 (((gd x100 k163).Lo) - 1)) then
        if (↑x100.length:Int) < ((gd x100 k163).Hi) then
         esc (some false)
        else
         jn (wEn 0 2 (fun k260 _ =>
          (chk (↑k260:Int) [true,false].length).bind fun _ =>
          (wAo (↑k163:Int) x57).bind fun x296 =>
          (wBt x16 x296 (gd [true,false] k260)).bind fun (x338,x339,x340) =>
          if x340=0 then
           (wBE x16 x338 x339).bind fun x403 =>
           if x403=true then
            (idx ([(gd x100 k163).Lo,(gd x100 k163).Hi]:List Int) (↑k260:Int)).bind fun x417 =>
            (wAd x338 (↑k163:Int) x57).bind fun x426 =>
            if x426=x417 then
             jn (wEn 0 (↑x227.length:Int) (fun k456 _ =>
              (idx x227 (↑k456:Int)).bind fun x488 =>
              if x488 < 0 then
               esc (esc (esc (some false)))
              else
               if (↑x100.length:Int) <= x488 then
                esc (esc (esc (some false)))
               else
                (idx x338 x488).bind fun x522 =>
                (idx x522 x57).bind fun x538 =>
                (idx x338 (↑k163:Int)).bind fun x545 =>
                (idx x545 x57).bind fun x557 =>
                if x557 <= x538 then
                 esc (esc (esc (some false)))
                else
                 some (.inl ())) ()) fun _ =>
             some (.inl ())
            else
             esc (esc (some false))
           else
            esc (esc (some false))
          else
           esc (esc (some false))) ()) fun _ =>
         jn (wEn 0 (↑x227.length:Int) (fun k653 _ =>
          (idx x227 (↑k653:Int)).bind fun x681 =>
          ((wAo (↑k163:Int) x57).bind fun x701 =>
          (wAo x681 x57).bind fun x711 =>
          (wDo x16 x701 x711).bind fun (x761,x762) =>
          some (x761.Lo,x761.Hi,x762)).bind fun (x691,x692,x693) =>
          if x693=0 then
           if 0 <= x692 then
            esc (esc (some false))
           else
            (idx x118 x681).bind fun x1103 =>
            (wAt x1103 (↑k163:Int)).bind fun x1117 =>
            if x1117=true then
             esc (esc (some false))
            else
             some (.inl ())
          else
           esc (esc (some false))) ()) fun _ =>
         some (.inl ())
       else
        esc (some false)
      else
       esc (some false)) ()) fun _ =>
     (wCP).bind fun x1187 =>
     some x1187
    else
     some false
   else
    some false
  else
   some false
 else
  some false
end Go.Proofs.Ytlnfbjphfoipaaa
namespace Go.KL
open Go.RowKit
section
variable {B:Base} {U:PHeap} {L:List Res} {w:World}
end
section
variable {P:Program} {N:Nat} {l:List Oper} {Q:wDP} {D:List Deferred} {ks:List Nat} {s:Sch} {σ:Env} {w:World} {B:Base} {U:PHeap} {L:List Res} {i d:Nat} {o:Oper}
end
end Go.KL
namespace Go.KL
open Go.RowKit
section
variable {B:Base} {U U':PHeap} {L:List Res} {w w':World}
theorem Res.At.agree {w2:World} {r:Res} (h:r.At w) (he:∀ b,r.has b->w2.heap[b]?=w.heap[b]?):r.At w2:=by
 cases r with
 | blk b T cs=>exact (he b rfl).trans h
 | obj b o=>exact (he b rfl).trans h
 | abs fp P=>exact ⟨h.2.2 w2 he,fun b hb=>wAY ((he b hb).trans (Array.getElem?_eq_getElem (h.2.1 b hb))),fun w3 h3=>h.2.2 w3 fun b hb=>(h3 b hb).trans (he b hb)⟩
 | row A c T sz cs =>
  rcases h with h | ⟨b,cur,rfl,h1,h2⟩
  ·exact .inl h
  ·exact .inr ⟨b,cur,rfl,(he b rfl).trans h1,h2⟩
def DjL (rs:List Res):Prop:=∀ (i j:Nat) (r s:Res) (b:Nat),rs[i]?=some r->rs[j]?=some s->r.has b->s.has b->i=j
def pack (p:Prop) (rs:List Res):Res:=.abs (fun b=>∃ r ∈ rs,r.has b) (fun w=>p/\(∀ r ∈ rs,r.At w)/\DjL rs)
theorem wPj {p:Prop} {rs:List Res} (hp:p) (ha:∀ r ∈ rs,r.At w) (hd:DjL rs):(pack p rs).At w :=
 ⟨⟨hp,ha,hd⟩,fun b ⟨r,hr,hb⟩=>(ha r hr).lt hb,fun w2 h2=>⟨hp,fun r hr=>(ha r hr).agree fun b hb=>h2 b ⟨r,hr,hb⟩,hd⟩⟩
theorem wMm {α:Type} {X Y:List α} {i:Nat} {r:α} (h:(X ++ Y)[i]?=some r):X[i]?=some r \/ (X.length <= i/\Y[i - X.length]?=some r):=by
 rcases np i X.length with h1 | h1
 ·rw [nE h1] at h;exact .inl h
 ·rw [nQ h1] at h;exact .inr ⟨h1,h⟩
theorem St.unpack {p:Prop} {rs:List Res} (h:St B U (pack p rs :: L) w):p/\St B U (rs ++ L) w:=by
 obtain ⟨⟨hp,ha,hd⟩,_⟩:=h.at_ _ (kX ..)
 have ho:=h.own _ (kX ..)
 refine ⟨hp,h.os,h.tape,h.output,h.size,h.old,h.fro,h.le,h.src,fun r hr=>?_,fun r hr b hb=>?_,fun i j r s b hi hj hr hs=>?_⟩
 ·rcases nP.1 hr with hr | hr
  ·exact ha r hr
  ·exact h.at_ r (kQ _ hr)
 ·rcases nP.1 hr with hr | hr
  ·exact ho b ⟨r,hr,hb⟩
  ·exact h.own r (kQ _ hr) b hb
 ·rcases wMm hi with hi | ⟨h1,hi⟩ <;> rcases wMm hj with hj | ⟨h2,hj⟩
  ·exact hd i j r s b hi hj hr hs
  ·have:=h.dj 0 (j - rs.length + 1) _ s b rfl (by simpa using hj) ⟨r,nN hi,hr⟩ hs;omega
  ·have:=h.dj (i - rs.length + 1) 0 r _ b (by simpa using hi) rfl hr ⟨s,nN hj,hs⟩;omega
  ·have:=h.dj (i - rs.length + 1) (j - rs.length + 1) r s b (by simpa using hi) (by simpa using hj) hr hs;omega
theorem St.pack {p:Prop} {rs:List Res} (hp:p) (h:St B U (rs ++ L) w):St B U (pack p rs :: L) w:=by
 refine ⟨h.os,h.tape,h.output,h.size,h.old,h.fro,h.le,h.src,fun r hr=>?_,fun r hr b hb=>?_,fun i j r s b hi hj hr hs=>?_⟩
 ·rcases nk.1 hr with rfl | hr
  ·refine wPj hp (fun r hr=>h.at_ r (nS _ hr)) fun i j r s b hi hj hr hs=>?_
   exact h.dj i j r s b (by rw [nE (nD.1 hi).1];exact hi) (by rw [nE (nD.1 hj).1];exact hj) hr hs
  ·exact h.at_ r (nR _ hr)
 ·rcases nk.1 hr with rfl | hr
  ·obtain ⟨r,hr,hb⟩:=hb
   exact h.own r (nS _ hr) b hb
  ·exact h.own r (nR _ hr) b hb
 ·have up:∀ (q:Nat) (t:Res),L[q]?=some t->(rs ++ L)[rs.length + q]?=some t:=fun q t hq=>by rw [nQ (by omega)];simpa using hq
  have lo:∀ (q:Nat) (t:Res),rs[q]?=some t->(rs ++ L)[q]?=some t:=fun q t hq=>by rw [nE (nD.1 hq).1];exact hq
  cases i with
  | zero =>
   simp only [nf,nX] at hi;subst hi
   cases j with
   | zero=>rfl
   | succ j =>
    obtain ⟨r,hr,hb⟩:=hr
    obtain ⟨q,hq⟩:=nY hr
    have:=h.dj q (rs.length + j) r s b (lo q r hq) (up j s (by simpa using hj)) hb hs
    have:=(nD.1 hq).1;omega
  | succ i =>
   cases j with
   | zero =>
    simp only [nf,nX] at hj;subst hj
    obtain ⟨s,hs,hb⟩:=hs
    obtain ⟨q,hq⟩:=nY hs
    have:=h.dj (rs.length + i) q r s b (up i r (by simpa using hi)) (lo q s hq) hr hb
    have:=(nD.1 hq).1;omega
   | succ j =>
    have:=h.dj (rs.length + i) (rs.length + j) r s b (up i r (by simpa using hi)) (up j s (by simpa using hj)) hr hs;omega
structure Hd where
 A:Option Addr
 n:Nat
 c:Nat
instance:Inhabited Hd:=⟨⟨none,0,0⟩⟩
def wFS (h:Hd):List Value:=[.slice h.A h.n h.c]
variable {α:Type} {T sz:Nat} {enc:α->List Value} {hs hs2:List Hd} {m m2:List (List α)}
def inR (T sz:Nat) (enc:α->List Value) (h:Hd) (l:List α):Res:=.row h.A h.c T sz (nc enc l)
def Fit (hs:List Hd) (m:List (List α)):Prop:=hs.map (·.n)=m.map no
def inn (T sz:Nat) (enc:α->List Value) (hs:List Hd) (m:List (List α)):Res:=pack (Fit hs m) (nV (inR T sz enc) hs m)
def wPF (T sz:Nat) (enc:α->List Value) (hs:List Hd) (m:List (List α)) (k:Nat):Res:=pack (Fit hs m/\k < m.length) ((nV (inR T sz enc) hs m).eraseIdx k)
theorem Fit.len (h:Fit hs m):hs.length=m.length:=by simpa using congrArg no h
theorem Fit.at_ (h:Fit hs m) {k:Nat} (hk:k < m.length):(gd hs k).n=(gd m k).length:=by
 have e:=congrArg (·[k]?) h
 have h1:=wBK (xs:=hs) (k:=k) (by rw [h.len];exact hk)
 have h2:=wBK (xs:=m) hk
 simpa [h1,h2] using e
theorem Fit.set (h:Fit hs m) {k:Nat} {A:Option Addr} {c:Nat} {l:List α}:Fit (hs.set k ⟨A,l.length,c⟩) (m.set k l):=by
 unfold Fit at *
 rw [List.map_set,List.map_set,h]
theorem St.innFit {j:Nat} (h:St B U L w) (hk:L[j]?=some (inn T sz enc hs m)):Fit hs m:=(h.at_ _ (nN hk)).1.1
theorem St.innHFit {j k:Nat} (h:St B U L w) (hk:L[j]?=some (wPF T sz enc hs m k)):Fit hs m/\k < m.length:=(h.at_ _ (nN hk)).1.1
theorem St.innNil (T sz:Nat) (enc:α->List Value) (h:St B U L w):St B U (inn T sz enc [] [] :: L) w:=St.pack (p:=Fit [] ([]:List (List α))) (rs:=[]) rfl h
theorem St.swap {r s:Res} (h:St B U (r :: s :: L) w):St B U (s :: r :: L) w:=by
 have:=h.front (k:=1) (r:=s) rfl
 exact this
theorem St.innNils (T sz:Nat) (enc:α->List Value) (h:St B U L w):∀ n:Nat,St B U (inn T sz enc (nG n ⟨none,0,0⟩) (nG n []) :: L) w:=by
 intro n
 refine St.pack (by simp [Fit]) ?_
 induction n with
 | zero=>exact h
 | succ n ih=>exact ih.nilrow T sz
theorem wRU (hf:Fit hs m) {k:Nat} (hk:k < m.length):(nV (inR T sz enc) hs m)[k]?=some (inR T sz enc (gd hs k) (gd m k)):=by
 rw [List.getElem?_zipWith,wBK (xs:=hs) (by rw [hf.len];exact hk),wBK (xs:=m) hk]
theorem wFj {β:Type}:∀ {l:List β} {i:Nat} (h:i < l.length),(l[i] :: l.eraseIdx i).Perm l
 | a :: l,0,_=>km _
 | a :: l,i + 1,h=>by
  have hi:i < l.length:=by simpa using h
  simp only [List.getElem_cons_succ,List.eraseIdx_cons_succ]
  exact (List.Perm.swap a l[i] _).trans ((wFj hi).cons a)
theorem wPG (L:List Res):DjL L ↔ L.Pairwise (fun r s=>∀ b,r.has b->¬ s.has b):=by
 rw [kC]
 constructor
 ·intro h i j hi hj hij b h1 h2
  have:=h i j _ _ b (nM hi) (nM hj) h1 h2
  omega
 ·intro h i j r s b hi hj h1 h2
  obtain ⟨hi',rfl⟩:=nD.1 hi
  obtain ⟨hj',rfl⟩:=nD.1 hj
  rcases Nat.lt_trichotomy i j with q | q | q
  ·exact absurd h2 (h i j hi' hj' q b h1)
  ·exact q
  ·exact absurd h1 (h j i hj' hi' q b h2)
theorem St.perm {L':List Res} (h:St B U L w) (p:L.Perm L'):St B U L' w :=
 ⟨h.os,h.tape,h.output,h.size,h.old,h.fro,h.le,h.src,fun r hr=>h.at_ r (p.mem_iff.2 hr),fun r hr=>h.own r (p.mem_iff.2 hr),
  (wPG L').2 ((p.pairwise_iff fun hab b h1 h2=>hab b h2 h1).1 ((wPG L).1 h.dj))⟩
theorem wPk (hs:List Hd) (m:List (List α)) (k:Nat) (h:Hd) (l:List α):nV (inR T sz enc) (hs.set k h) (m.set k l)=(nV (inR T sz enc) hs m).set k (inR T sz enc h l):=by
 induction hs generalizing m k with
 | nil=>simp
 | cons a hs ih =>
  cases m with
  | nil=>simp
  | cons b m =>
   cases k with
   | zero=>simp
   | succ k=>simp [ih]
theorem St.innTake {k:Nat} (h:St B U (inn T sz enc hs m :: L) w) (hk:k < m.length):St B U (.row (gd hs k).A (gd hs k).c T sz (nc enc (gd m k)) :: wPF T sz enc hs m k :: L) w:=by
 obtain ⟨p,h1⟩:=h.unpack
 have hl:k < (nV (inR T sz enc) hs m).length:=by rw [kS,p.len];omega
 have e:(nV (inR T sz enc) hs m)[k]=inR T sz enc (gd hs k) (gd m k):=by
  have:=wRU (T:=T) (sz:=sz) (enc:=enc) p hk
  rw [nM hl] at this
  exact Option.some.inj this
 have h2:=h1.perm ((wFj hl).symm.append_right L)
 rw [e] at h2
 refine St.swap (St.pack ⟨p,hk⟩ (h2.perm ?_))
 exact List.perm_middle.symm
theorem St.innPut {k:Nat} {A:Option Addr} {c:Nat} {l:List α} (h:St B U (.row A c T sz (nc enc l) :: wPF T sz enc hs m k :: L) w):St B U (inn T sz enc (hs.set k ⟨A,l.length,c⟩) (m.set k l) :: L) w:=by
 obtain ⟨⟨p,hk⟩,h1⟩:=h.swap.unpack
 refine St.pack p.set ?_
 rw [wPk]
 have hl:k < ((nV (inR T sz enc) hs m).set k (inR T sz enc ⟨A,l.length,c⟩ l)).length:=by rw [List.length_set,kS,p.len];omega
 have h2:=h1.perm List.perm_middle
 refine h2.perm (List.Perm.trans ?_ ((wFj hl).append_right L))
 rw [List.getElem_set_self,List.eraseIdx_set_eq]
 exact km _
theorem St.innFreeze {R:Rl (List α)} (hR:∀ U A c l,Sl U sz A c l.length (nc enc l)->R.r U l [.slice A l.length c]) (he:∀ x,(enc x).length=sz) (hz:0 < sz):∀ {hs:List Hd} {m:List (List α)} {U:PHeap} {L:List Res},Fit hs m->St B U (nV (inR T sz enc) hs m ++ L) w->∃ U',PHeap.Le U U'/\RlL U' R m (nc wFS hs)/\St B U' L w
 | [],[],U,L,_,h=>⟨U,PHeap.Le.refl U,RlL.nil,h⟩
 | [],_ :: _,_,_,p,_=>by cases p
 | _ :: _,[],_,_,p,_=>by cases p
 | a :: hs,l :: m,U,L,p,h=>by
  have p1:a.n=l.length/\Fit hs m:=by simpa [Fit] using p
  obtain ⟨U1,g1,g2,g3⟩:=St.freezeR (n:=l.length) (sz:=sz) h (k:=0) rfl (wAG he l) hz
  obtain ⟨U2,k1,k2,k3⟩:=St.innFreeze hR he hz p1.2 g3
  refine ⟨U2,g1.trans k1,?_,k3⟩
  have:=RlL.cons (hR U2 a.A a.c l (g2.le k1)) k2
  rw [<- p1.1] at this
  exact this
theorem St.freezeN {R:Rl (List α)} {A:Option Addr} {c S:Nat} (h:St B U (.row A c S 1 (nc wFS hs) :: inn T sz enc hs m :: L) w) (hR:∀ U A c l,Sl U sz A c l.length (nc enc l)->R.r U l [.slice A l.length c]) (he:∀ x,(enc x).length=sz) (hz:0 < sz) (hR1:R.sz=1) :
  ∃ U',PHeap.Le U U'/\SlR U' R A c m/\St B U' L w:=by
 obtain ⟨p,h1⟩:=h.swap.unpack
 obtain ⟨U1,g1,g2,g3⟩:=St.innFreeze hR he hz p h1
 obtain ⟨U2,k1,k2,k3⟩:=g3.freezeRR (k:=0) rfl g2 hR1 (by decide)
 exact ⟨U2,g1.trans k1,k2,k3⟩
theorem wRV {bytes:Nat} {n:Int} {xs:List (List α)} (h:mkz bytes n ([]:List α)=some xs):mkz bytes n (⟨none,0,0⟩:Hd)=some (nG xs.length ⟨none,0,0⟩)/\xs=nG xs.length []:=by
 unfold mkz at *
 split at h
 ·rename_i q
  cases h
  rw [if_pos q]
  simp
 ·cases h
theorem St.innMade {bytes:Nat} {n:Int} {xs:List (List α)} (T sz:Nat) (enc:α->List Value) (hm:mkz bytes n ([]:List α)=some xs) (h:St B U L w):St B U (inn T sz enc (nG xs.length (⟨none,0,0⟩:Hd)) xs :: L) w:=by
 have h1:=h.innNils T sz enc xs.length
 have e:=(wRV hm).2
 rw [<- e] at h1
 exact h1
end
section
variable {N:Nat} {P:Program} {l:List Oper} {Q:wDP} {D:List Deferred} {ks:List Nat} {σ:Env} {w:World} {i d:Nat} {s:Sch} {o:Oper} {B:Base} {U:PHeap} {L:List Res}
theorem RunsK.to {v v':Value} (h:RunsK P σ w o v) (e:v=v'):RunsK P σ w o v':=e ▸ h
theorem OKS.makeSliceN {α:Type} {t e:TypeId} {inf:TypeInfo} {x y:Operand} {n:Int} {xs:List (List α)} (ho:l[i]?=some o) (hd:o.dst=some d) (hN:nu d N=true) (hw:wanted l σ o=true) (hop:o.op=.makeSlice t x y)
  (ht:P.underlying t=some (.slice e)) (hi:P.info? e=some inf) (hz:inf.zero=some (.slice none 0 0)) (hc:(kf none 0 0).cells=#[.slice none 0 0]) (hs:inf.size=1) (hx:ev σ x=.int .i64 n) (hy:ev σ y=.int .i64 n) (hm:mkz inf.bytes n ([]:List α)=some xs) (hS:St B U L w)
  (k:∀ w' b,St B U (.row (some ⟨b,0,none⟩) xs.length e 1 (nc wFS (nG xs.length (⟨none,0,0⟩:Hd))) :: L) w'->OKS N P l Q D ks s (upd σ d (.slice (some ⟨b,0,none⟩) xs.length xs.length)) w'):OKS N P l Q D ks (.fx i s .stop) σ w:=by
 refine OKS.makeSliceR (z:=([]:List α)) ho hd hN hw hop ht hi hz hc hs hx hy hm hS fun w' b h=>k w' b ?_
 rw [wCi (enc:=wFS) (v:=.slice none 0 0) rfl]
 exact h
end
end Go.KL
namespace Go.KX
open Go.RowKit Go.KL
structure Gh where
 N:Nat
 σ:Env
 t:List Nat
 ac:Code
 bc:Code
 rb:Nat
 fn:FuncId
def g0:Gh:=⟨0,fun _=>undef,[],.skip,.skip,0,0⟩
structure Cl where
 b:Nat
 c:Nat
 g:Gh
abbrev Mu:=Pos->Option Cl
mutual
def Rv (μ:Mu):AV->Value->Prop
 | .int k n,v=>v=.int k n
 | .bool b,v=>v=.bool b
 | .ptr b off,v=>∃ c,μ b=some c/\v=.pointer (some ⟨c.1,off,none⟩)
 | .pnil,v=>v=.pointer none
 | .sl b off n c,v=>∃ d,μ b=some d/\n <= c/\v=.slice (some ⟨d.1,off,none⟩) n c
 | .rw b eo co n,v=>∃ d,μ b=some d/\eo + n <= d.2/\v=.slice (some ⟨d.1,co,none⟩) n (d.2 - eo)
 | .rz b eo,v=>∃ d,μ b=some d/\∃ o,v=.slice (some ⟨d.1,o,none⟩) 0 (d.2 - eo)
 | .snil,v=>v=.slice none 0 0
 | .map b,v=>∃ c,μ b=some c/\v=.map (some c.1)
 | .mnil,v=>v=.map none
 | .fn f fi ca,v=>∃ fv cv,RvL μ fi fv/\RvL μ ca cv/\v=.func (.func (f.nat - 1)) fv.toArray cv.toArray
 | .yld b,v=>∃ c,μ b=some c/\v=.func (.yield c.1) #[] #[]
 | .fnil,v=>v=.nilFunc
 | .agg l,v=>∃ vs,RvL μ l vs/\v=.agg vs.toArray
 | .tup l,v=>∃ vs,RvL μ l vs/\v=.tuple vs.toArray
def RvL (μ:Mu):List AV->List Value->Prop
 | [],vs=>vs=[]
 | a :: l,vs=>∃ v ws,Rv μ a v/\RvL μ l ws/\vs=v :: ws
end
def Mu.Le (μ μ':Mu):Prop:=∀ p c,μ p=some c->μ' p=some c
theorem Mu.Le.refl (μ:Mu):μ.Le μ:=fun _ _ h=>h
theorem Mu.Le.trans {a b c:Mu} (h:a.Le b) (k:b.Le c):a.Le c:=fun p x hx=>k p x (h p x hx)
mutual
theorem Rv.mono {μ μ':Mu} (hm:μ.Le μ'):∀ {a:AV} {v:Value},Rv μ a v->Rv μ' a v
 | .int _ _,_,h=>h
 | .bool _,_,h=>h
 | .ptr _ _,_,⟨c,h1,h2⟩=>⟨c,hm _ _ h1,h2⟩
 | .pnil,_,h=>h
 | .sl _ _ _ _,_,⟨c,h1,h2⟩=>⟨c,hm _ _ h1,h2⟩
 | .rw _ _ _ _,_,⟨c,h1,h2⟩=>⟨c,hm _ _ h1,h2⟩
 | .rz _ _,_,⟨c,h1,h2⟩=>⟨c,hm _ _ h1,h2⟩
 | .snil,_,h=>h
 | .map _,_,⟨c,h1,h2⟩=>⟨c,hm _ _ h1,h2⟩
 | .mnil,_,h=>h
 | .fn _ _ _,_,⟨fv,cv,h1,h2,h3⟩=>⟨fv,cv,RvL.mono hm h1,RvL.mono hm h2,h3⟩
 | .yld _,_,⟨c,h1,h2⟩=>⟨c,hm _ _ h1,h2⟩
 | .fnil,_,h=>h
 | .agg _,_,⟨vs,h1,h2⟩=>⟨vs,RvL.mono hm h1,h2⟩
 | .tup _,_,⟨vs,h1,h2⟩=>⟨vs,RvL.mono hm h1,h2⟩
theorem RvL.mono {μ μ':Mu} (hm:μ.Le μ'):∀ {l:List AV} {vs:List Value},RvL μ l vs->RvL μ' l vs
 | [],_,h=>h
 | _ :: _,_,⟨v,ws,h1,h2,h3⟩=>⟨v,ws,Rv.mono hm h1,RvL.mono hm h2,h3⟩
end
theorem wGh {μ:Mu}:RvL μ [] []:=rfl
theorem wBI {μ:Mu} {a:AV} {l:List AV} {v:Value} {vs:List Value} (h:Rv μ a v) (h':RvL μ l vs):RvL μ (a :: l) (v :: vs):=⟨v,vs,h,h',rfl⟩
theorem wCw {μ:Mu}:∀ {l:List AV} {vs:List Value},RvL μ l vs->vs.length=l.length
 | [],_,h=>by cases h;rfl
 | _ :: _,_,⟨_,_,_,h2,h3⟩=>by subst h3;simp [wCw h2]
theorem wDv {μ:Mu}:∀ {l k:List AV} {vs ws:List Value},RvL μ l vs->RvL μ k ws->RvL μ (l ++ k) (vs ++ ws)
 | [],_,_,_,h,h'=>by cases h;exact h'
 | _ :: _,_,_,_,⟨v,ws,h1,h2,h3⟩,h'=>by subst h3;exact wBI h1 (wDv h2 h')
theorem wEt {μ:Mu}:∀ {l:List AV} {vs:List Value},RvL μ l vs->∀ {i:Nat} {a:AV},l[i]?=some a->∃ v,vs[i]?=some v/\Rv μ a v
 | [],_,_,i,a,hi=>by simp at hi
 | b :: l,_,⟨v,ws,h1,h2,h3⟩,i,a,hi=>by
  subst h3
  cases i with
  | zero=>simp at hi;subst hi;exact ⟨v,rfl,h1⟩
  | succ i=>simpa using wEt h2 (i:=i) (by simpa using hi)
theorem wII {μ:Mu}:∀ {l:List AV} {vs:List Value} (n:Nat),RvL μ l vs->RvL μ (l.drop n) (vs.drop n)
 | _,_,0,h=>h
 | [],_,n + 1,h=>by cases h;exact rfl
 | _ :: _,_,n + 1,⟨_,_,_,h2,h3⟩=>by subst h3;exact wII n h2
theorem wIJ {μ:Mu}:∀ {l:List AV} {vs:List Value} (n:Nat),RvL μ l vs->RvL μ (l.take n) (vs.take n)
 | _,_,0,_=>rfl
 | [],_,n + 1,h=>by cases h;exact rfl
 | _ :: _,_,n + 1,⟨_,_,h1,h2,h3⟩=>by subst h3;exact wBI h1 (wIJ n h2)
theorem wGi {μ:Mu} {l:List AV} {vs:List Value} (h:RvL μ l vs):∀ n,RvL μ (rep n l) (nG n vs).flatten
 | 0=>rfl
 | n + 1=>by rw [List.replicate_succ,List.flatten_cons];exact wDv h (wGi h n)
section
variable {α:Type}
theorem wFy:∀ (l:List α) (n:Nat),nth l n=l[n]?
 | [],_=>rfl
 | _ :: _,0=>rfl
 | _ :: l,n + 1=>by show nth l n=_;rw [wFy l n];simp
theorem wEQ:∀ (l:List α),len l=l.length
 | []=>rfl
 | _ :: l=>by show Nat.succ (len l)=_;rw [wEQ l];rfl
theorem wFk {a:α} {o:Option (List α)} {r:List α} (h:wJa a o=some r):∃ r',o=some r'/\r=a :: r':=by
 cases o with
 | none=>cases h
 | some r'=>cases h;exact ⟨r',rfl,rfl⟩
theorem wJq:∀ {l:List α} {n:Nat} {r:List α},tk l n=some r->r=l.take n/\n <= l.length
 | [],0,r,h=>by cases h;simp
 | [],n + 1,r,h=>by cases h
 | a :: l,0,r,h=>by cases h;simp
 | a :: l,n + 1,r,h=>by
  obtain ⟨r',h1,rfl⟩:=wFk (show wJa a (tk l n)=some r from h)
  obtain ⟨h2,h3⟩:=wJq h1
  simp [h2,h3]
theorem wKZ:∀ {l:List α} {off n:Nat} {r:List α},sub l off n=some r->r=(l.drop off).take n/\off + n <= l.length
 | [],0,n,r,h=>by have:=wJq (l:=[]) (n:=n) h;simpa using this
 | [],off + 1,n,r,h=>by cases h
 | a :: l,0,n,r,h=>by have:=wJq (l:=a :: l) (n:=n) h;simpa using this
 | a :: l,off + 1,n,r,h=>by
  obtain ⟨h1,h2⟩:=wKZ (show sub l off n=some r from h)
  exact ⟨by simpa using h1,by simp;omega⟩
theorem wJr:∀ {l vs r:List α},ov l vs=some r->vs.length <= l.length/\r=vs ++ l.drop vs.length
 | [],[],r,h=>by cases h;simp
 | [],v :: vs,r,h=>by cases h
 | a :: l,[],r,h=>by cases h;simp
 | a :: l,v :: vs,r,h=>by
  obtain ⟨r',h1,rfl⟩:=wFk (show wJa v (ov l vs)=some r from h)
  obtain ⟨h2,h3⟩:=wJr h1
  subst h3
  exact ⟨by simpa using h2,by simp⟩
theorem wIu:∀ {l:List α} {off:Nat} {vs r:List α},wPb l off vs=some r->off + vs.length <= l.length/\r=l.take off ++ vs ++ l.drop (off + vs.length)
 | [],0,vs,r,h=>by have:=wJr (l:=[]) h;simp at this;simp [this]
 | [],off + 1,vs,r,h=>by cases h
 | a :: l,0,vs,r,h=>by have:=wJr (l:=a :: l) h;simp at this;simp [this]
 | a :: l,off + 1,vs,r,h=>by
  obtain ⟨r',h1,rfl⟩:=wFk (show wJa a (wPb l off vs)=some r from h)
  obtain ⟨h2,h3⟩:=wIu h1
  subst h3
  refine ⟨by simp;omega,?_⟩
  rw [show off + 1 + vs.length=(off + vs.length) + 1 from by omega]
  simp
end
theorem setN_eq:∀ (vs l:List Value) (off:Nat),off + vs.length <= l.length->wDm l off vs=l.take off ++ vs ++ l.drop (off + vs.length)
 | [],l,off,_=>by simp [wDm]
 | v :: vs,l,off,h=>by
  simp only [List.length_cons] at h
  have hlt:off < l.length:=by omega
  rw [wDm,setN_eq vs (l.set off v) (off + 1) (by simp;omega)]
  have h1:(l.set off v).take (off + 1)=l.take off ++ [v]:=by
   rw [List.take_set,List.take_add_one,nM hlt]
   rw [List.set_append_right _ _ (by simp;omega)]
   simp [Nat.min_eq_left (Nat.le_of_lt hlt)]
  rw [h1,List.drop_set_of_lt (by omega)]
  rw [show off + 1 + vs.length=off + (v :: vs).length from by simp;omega]
  simp
theorem wIK {μ:Mu} {l vs r:List AV} {L V:List Value} {off:Nat} (h:wPb l off vs=some r) (hl:RvL μ l L) (hv:RvL μ vs V):off + V.length <= L.length/\RvL μ r (wDm L off V):=by
 obtain ⟨h1,rfl⟩:=wIu h
 have e1:=wCw hl
 have e2:=wCw hv
 have h2:off + V.length <= L.length:=by omega
 refine ⟨h2,?_⟩
 rw [setN_eq V L off h2,e2]
 exact wDv (wDv (wIJ off hl) hv) (wII _ hl)
theorem wEu {μ:Mu} {l r:List AV} {L:List Value} {off n:Nat} (h:sub l off n=some r) (hl:RvL μ l L):RvL μ r ((L.drop off).take n)/\off + n <= L.length:=by
 obtain ⟨rfl,h1⟩:=wKZ h
 have e1:=wCw hl
 exact ⟨wIJ n (wII off hl),by omega⟩
theorem wRW {μ:Mu} {a:AV} {v:Value} (h:Rv μ a v) (h1:a.one=true):one v=true:=by
 cases a <;> simp only [Rv] at h <;> first | (cases h1;done) | (subst h;rfl) | (obtain ⟨_,_,_,_,_,rfl⟩:=h;rfl) | (obtain ⟨_,_,_,_,rfl⟩:=h;rfl) | (obtain ⟨_,_,_,rfl⟩:=h;rfl) | (obtain ⟨_,_,rfl⟩:=h;rfl)
theorem wDw {μ:Mu}:∀ {l:List AV} {vs:List Value},RvL μ l vs->wPc l=true->∀ v ∈ vs,one v=true
 | [],_,h,_=>by cases h;simp
 | a :: l,_,⟨v,ws,h1,h2,h3⟩,ho=>by
  subst h3
  have ho:(a.one && wPc l)=true:=ho
  rw [hH] at ho
  intro u hu
  rcases nk.1 hu with rfl | hu
  ·exact wRW h1 ho.1
  ·exact wDw h2 ho.2 u hu
theorem wGG {μ:Mu} {a:AV} {v:Value} (h:Rv μ a v):∃ vs,RvL μ a.cells vs/\v.cells=vs.toArray:=by
 cases a with
 | agg l=>obtain ⟨vs,h1,rfl⟩:=h;exact ⟨vs,h1,rfl⟩
 | tup l=>obtain ⟨vs,h1,rfl⟩:=h;exact ⟨[_],wBI ⟨vs,h1,rfl⟩ wGh,rfl⟩
 | _ =>
  refine ⟨[v],wBI h wGh,?_⟩
  simp only [Rv] at h
  first | (subst h;rfl) | (obtain ⟨_,_,_,_,_,rfl⟩:=h;rfl) | (obtain ⟨_,_,_,_,rfl⟩:=h;rfl) | (obtain ⟨_,_,_,rfl⟩:=h;rfl) | (obtain ⟨_,_,rfl⟩:=h;rfl)
end Go.KX
namespace Go.KX
noncomputable section
open Go.RowKit Go.KL
def EnvR (μ:Mu) (σA:Tr AV) (σ:Env):Prop:=∀ p:Pos,Rv μ (evA σA (.t p)) (σ (p.nat - 1))
theorem wJs (σA:Tr AV) (p:Pos):evA σA (.t p)=(σA.get p).getD u:=by
 show Option.rec (motive:=fun _=>AV) u (fun v=>v) (σA.get p)=_
 cases σA.get p <;> rfl
theorem EnvR.mono {μ μ':Mu} {σA:Tr AV} {σ:Env} (h:EnvR μ σA σ) (hm:μ.Le μ'):EnvR μ' σA σ:=fun p=>(h p).mono hm
theorem EnvR.put {μ:Mu} {σA:Tr AV} {σ:Env} (h:EnvR μ σA σ) {p:Pos} {a:AV} {v:Value} (hv:Rv μ a v):EnvR μ (σA.set p a) (upd σ (p.nat - 1) v):=by
 intro q
 rw [wJs,Tr.get_set]
 by_cases e:q=p
 ·subst e;rw [if_pos rfl,wCe];exact hv
 ·rw [if_neg e,wDV,<- wJs]
  ·exact h q
  ·intro e2
   have:=p.nat_pos;have:=q.nat_pos
   exact e (Pos.nat_inj (by omega))
theorem wMn (μ:Mu):Rv μ u undef:=⟨[],rfl,rfl⟩
theorem wKa {μ:Mu}:∀ {args:List AV} {vs:List Value},RvL μ args vs->∀ {p:Pos} {t:Tr AV} {σ σ':Env},EnvR μ t σ->(∀ i,i < p.nat - 1->σ' i=σ i)->(∀ j v,vs[j]?=some v->σ' (p.nat - 1 + j)=v) ->
  (∀ i,p.nat - 1 + vs.length <= i->σ' i=σ i)->EnvR μ (wLO args p t) σ'
 | [],_,h,p,t,σ,σ',hE,h1,_,h3=>by
  cases h
  intro q
  have:=hE q
  by_cases e:q.nat - 1 < p.nat - 1
  ·rw [h1 _ e];exact this
  ·rw [h3 _ (by simp;omega)];exact this
 | a :: l,_,⟨v,ws,h1,h2,h3⟩,p,t,σ,σ',hE,g1,g2,g3=>by
  subst h3
  have hp:=p.nat_pos
  refine wKa h2 (p:=p.succ) (hE.put (p:=p) h1) ?_ ?_ ?_
  ·intro i hi
   rw [Pos.nat_succ] at hi
   by_cases e:i=p.nat - 1
   ·subst e;rw [wCe];exact g2 0 v rfl
   ·rw [wDV _ _ e];exact g1 i (by omega)
  ·intro j x hx
   rw [Pos.nat_succ]
   have:=g2 (j + 1) x (by simpa using hx)
   rw [<- this];congr 1;omega
  ·intro i hi
   rw [Pos.nat_succ] at hi
   rw [wDV _ _ (by omega)]
   exact g3 i (by simp;omega)
theorem wPl {μ:Mu} {args:List AV} {vs:List Value} (h:RvL μ args vs):EnvR μ (wLO args .H .e) (wOs vs):=by
 have h0:EnvR μ .e (fun _=>undef):=by intro p;rw [wJs,Tr.get_e];exact wMn μ
 refine wKa h (p:=.H) h0 (fun i hi=>by simp [Pos.nat] at hi) (fun j v hv=>?_) (fun i hi=>?_)
 ·simp [wOs,Pos.nat,hv]
 ·simp only [Pos.nat] at hi
  simp [wOs,kO (by omega:vs.length <= i)]
mutual
def okc:AV->Value->Bool
 | .int k n,.int k' n'=>keq k k' && zeq n n'
 | .bool b,.bool b'=>b == b'
 | .pnil,.pointer none=>true
 | .snil,.slice none 0 0=>true
 | .mnil,.map none=>true
 | .fnil,.nilFunc=>true
 | .agg l,.agg vs=>wOU l vs.toList
 | .tup l,.tuple vs=>wOU l vs.toList
 | _,_=>false
def wOU:List AV->List Value->Bool
 | [],[]=>true
 | a :: l,v :: vs=>okc a v && wOU l vs
 | _,_=>false
end
theorem wKb:∀ {a b:Int},zeq a b=true ↔ a=b
 | .ofNat a,.ofNat b=>by simp [zeq];omega
 | .negSucc a,.negSucc b=>by simp [zeq]
 | .ofNat a,.negSucc b=>by simp [zeq]
 | .negSucc a,.ofNat b=>by simp [zeq]
theorem wDx (a b:Int):zeq a b=decide (a=b):=by
 by_cases h:a=b
 ·rw [wKb.2 h];simp [h]
 ·have:zeq a b ≠ true:=fun e=>h (wKb.1 e)
  simp [h,nz.2 this]
theorem wGj:∀ (a b:Int),zlt a b=decide (a < b)
 | .ofNat a,.ofNat b=>by
  simp only [zlt,nZ,Int.ofNat_lt]
  by_cases h:a < b
  ·simp [h,nL]
  ·simp [h,nz,nL]
 | .negSucc a,.negSucc b=>by
  simp only [zlt,nv]
  by_cases h:b < a
  ·have h2:-((a:Int) + 1) < -((b:Int) + 1):=by omega
   simp [h2,nL];exact h
  ·have h2:¬ -((a:Int) + 1) < -((b:Int) + 1):=by omega
   simp [h2,nz,nL];omega
 | .ofNat a,.negSucc b=>by
  simp only [zlt,nv,nZ]
  have h2:¬ (a:Int) < -((b:Int) + 1):=by omega
  simp [h2]
 | .negSucc a,.ofNat b=>by
  simp only [zlt,nv,nZ]
  have h2:-((a:Int) + 1) < (b:Int):=by omega
  simp [h2]
theorem wMo (a b:Int):zle a b=decide (a <= b):=by
 rw [zle,wGj]
 by_cases h:a <= b
 ·simp [h,Int.not_lt.2 h]
 ·simp [h,Int.not_le.1 h]
theorem wBN {a b:IntKind} (h:keq a b=true):a=b:=by cases a <;> cases b <;> first | rfl | cases h
mutual
theorem wMp (μ:Mu):∀ {a:AV} {v:Value},okc a v=true->Rv μ a v
 | .int k n,v,h=>by
  cases v <;> simp only [okc,hH,nh] at h
  rw [wBN h.1,wKb.1 h.2];rfl
 | .bool b,v,h=>by
  cases v <;> simp only [okc,beq_iff_eq,nh] at h
  subst h;rfl
 | .pnil,v,h=>by
  unfold okc at h
  split at h <;> first | rfl | (exfalso;simp_all;done) | simp_all [Rv]
 | .snil,v,h=>by
  unfold okc at h
  split at h <;> first | rfl | (exfalso;simp_all;done) | simp_all [Rv]
 | .mnil,v,h=>by
  unfold okc at h
  split at h <;> first | rfl | (exfalso;simp_all;done) | simp_all [Rv]
 | .fnil,v,h=>by
  cases v <;> simp only [okc,nh] at h
  rfl
 | .agg l,v,h=>by
  cases v <;> simp only [okc,nh] at h
  exact ⟨_,wFl μ h,by simp⟩
 | .tup l,v,h=>by
  cases v <;> simp only [okc,nh] at h
  exact ⟨_,wFl μ h,by simp⟩
 | .ptr _ _,v,h=>by simp [okc] at h
 | .sl _ _ _ _,v,h=>by simp [okc] at h
 | .rw _ _ _ _,v,h=>by simp [okc] at h
 | .rz _ _,v,h=>by simp [okc] at h
 | .map _,v,h=>by simp [okc] at h
 | .fn _ _ _,v,h=>by simp [okc] at h
 | .yld _,v,h=>by simp [okc] at h
theorem wFl (μ:Mu):∀ {l:List AV} {vs:List Value},wOU l vs=true->RvL μ l vs
 | [],[],_=>rfl
 | a :: l,v :: vs,h=>by
  simp only [wOU,hH] at h
  exact wBI (wMp μ h.1) (wFl μ h.2)
 | [],_ :: _,h=>by simp [wOU] at h
 | _ :: _,[],h=>by simp [wOU] at h
end
def wBr:AOd->Operand->Bool
 | .t p,.tmp t=>nB p.nat (t + 1)
 | .c a,.const v=>okc a v
 | .c (.fn f [] []),.func g=>nB f.nat (g + 1)
 | _,_=>false
def wIv:List AOd->List Operand->Bool
 | [],[]=>true
 | x :: l,y :: k=>wBr x y && wIv l k
 | _,_=>false
theorem wAN {μ:Mu} {σA:Tr AV} {σ:Env} {x:AOd} {y:Operand} (h:wBr x y=true) (hE:EnvR μ σA σ):Rv μ (evA σA x) (ev σ y):=by
 unfold wBr at h
 split at h
 ·rename_i p t
  have:=nA h
  have h2:=hE p
  rw [this] at h2
  exact h2
 ·exact wMp μ h
 ·rename_i f g
  have:=nA h
  exact ⟨[],[],rfl,rfl,by show Value.func (.func g) #[] #[]=_;rw [this];rfl⟩
 ·cases h
theorem wGH {μ:Mu} {σA:Tr AV} {σ:Env}:∀ {l:List AOd} {k:List Operand},wIv l k=true->EnvR μ σA σ->RvL μ (evs σA l) (k.map (ev σ))
 | [],[],_,_=>rfl
 | x :: l,y :: k,h,hE=>by
  simp only [wIv,hH] at h
  exact wBI (wAN h.1 hE) (wGH h.2 hE)
 | [],_ :: _,h,_=>by simp [wIv] at h
 | _ :: _,[],h,_=>by simp [wIv] at h
def MR {K:Type} (μ:Mu) (l:List (K × AV)) (t:List (K × Value)):Prop:=l.map (·.1)=t.map (·.1)/\RvL μ (l.map (·.2)) (t.map (·.2))
def mk2 (k:IntKind) (x:Int × Int):Value:=.agg #[.int k x.1,.int k x.2]
def exC:Ex->Exit
 | .nrm=>.normal
 | .exit i=>.exit i
 | .ret=>.ret
def lsC:LS->LoopState × Option Code
 | .ready=>(.ready,none)
 | .busy=>(.busy,none)
 | .done .ret=>(.done,some .ret)
 | .done (.exit i)=>(.done,some (.exit i))
 | .done .nrm=>(.ready,none)
abbrev Chk:=AC->Code->Nat->Prop
structure wLP (C:Chk) (μ:Mu) (w:World) (c:Cl) (σA:Tr AV) (t:List Pos) (asg body:AC) (s:LS):Prop where
 at_:LoopAt w c.1 c.g.N c.g.σ c.g.t c.g.ac c.g.bc c.g.rb c.g.fn (lsC s).1 (lsC s).2
 env:EnvR μ σA c.g.σ
 ht:t.map Pos.nat=c.g.t.map (· + 1)
 tN:∀ x ∈ c.g.t,x < c.g.N
 asg:C asg c.g.ac c.g.N
 body:C body c.g.bc c.g.N
def AbR (C:Chk) (P:Program) (μ:Mu) (w:World) (c:Cl):AB->Prop
 | .cells T l=>∃ vs,RvL μ l vs/\Blk w c.1 T vs
 | .row T sz l=>∃ vs,RvL μ l vs/\RowAt w (some ⟨c.1,0,none⟩) c.2 T sz vs
 | .map0=>∃ ck,w.heap[c.1]?=some (.map #[] ck)
 | .mapI k l=>∃ es ck t,w.heap[c.1]?=some (.map es ck)/\MpR es (fun n:Int=>nw k n) id t/\MR μ l t
 | .map2 k l=>∃ es ck t,w.heap[c.1]?=some (.map es ck)/\MpR es (mk2 k) id t/\MR μ l t
 | .loop σA t asg body s=>wLP C μ w c σA t asg body s
 | .dead=>True
def wLQ:AB->Prop
 | .dead=>False
 | _=>True
variable {C:Chk} {P:Program} {μ μ' μ'':Mu} {w w' w'':World} {h h' h'':AH}
theorem MR.mono {K:Type} {l:List (K × AV)} {t:List (K × Value)} (h:MR μ l t) (hm:μ.Le μ'):MR μ' l t:=⟨h.1,h.2.mono hm⟩
theorem AbR.mono {c:Cl} {B:AB} (h:AbR C P μ w c B) (hm:μ.Le μ'):AbR C P μ' w c B:=by
 cases B with
 | cells T l=>obtain ⟨vs,h1,h2⟩:=h;exact ⟨vs,h1.mono hm,h2⟩
 | row T sz l=>obtain ⟨vs,h1,h2⟩:=h;exact ⟨vs,h1.mono hm,h2⟩
 | map0=>exact h
 | mapI k l=>obtain ⟨es,ck,t,h1,h2,h3⟩:=h;exact ⟨es,ck,t,h1,h2,h3.mono hm⟩
 | map2 k l=>obtain ⟨es,ck,t,h1,h2,h3⟩:=h;exact ⟨es,ck,t,h1,h2,h3.mono hm⟩
 | loop σA t asg body s=>exact ⟨h.at_,h.env.mono hm,h.ht,h.tN,h.asg,h.body⟩
 | dead=>trivial
theorem AbR.keep {c:Cl} {B:AB} {X:Nat->Prop} (h:AbR C P μ w c B) (k:Keep w w' X) (hx:¬ X c.1):AbR C P μ w' c B:=by
 cases B with
 | cells T l=>obtain ⟨vs,h1,h2⟩:=h;exact ⟨vs,h1,h2.keep k hx⟩
 | row T sz l =>
  obtain ⟨vs,h1,h2⟩:=h
  refine ⟨vs,h1,?_⟩
  obtain ⟨cur,h3,h4⟩:=RowAt.cells h2
  exact .inr ⟨c.1,cur,rfl,(k.block _ (wAY h3) hx).trans h3,h4⟩
 | map0=>obtain ⟨ck,h1⟩:=h;exact ⟨ck,(k.block _ (wAY h1) hx).trans h1⟩
 | mapI _ l=>obtain ⟨es,ck,t,h1,h2⟩:=h;exact ⟨es,ck,t,(k.block _ (wAY h1) hx).trans h1,h2⟩
 | map2 _ l=>obtain ⟨es,ck,t,h1,h2⟩:=h;exact ⟨es,ck,t,(k.block _ (wAY h1) hx).trans h1,h2⟩
 | loop σA t asg body s=>exact ⟨h.at_.keep k hx,h.env,h.ht,h.tN,h.asg,h.body⟩
 | dead=>trivial
def img (μ:Mu) (fl:Nat) (c:Nat):Prop:=∃ p d,μ p=some d/\d.1=c/\fl <= p.nat
structure Ext (μ:Mu) (fl:Nat) (w:World) (μ':Mu) (w':World):Prop where
 mono:μ.Le μ'
 new:∀ p c,μ' p=some c->μ p=some c \/ img μ fl c.1 \/ w.heap.size <= c.1
 keep:Keep w w' (img μ fl)
theorem Ext.refl (μ:Mu) (fl:Nat) (w:World):Ext μ fl w μ w:=⟨Mu.Le.refl μ,fun _ _ h=>.inl h,Keep.refl w _⟩
theorem Ext.img {fl:Nat} {c:Nat} (E:Ext μ fl w μ' w') (hi:img μ' fl c):KX.img μ fl c \/ w.heap.size <= c:=by
 obtain ⟨p,d,h1,rfl,h2⟩:=hi
 rcases E.new p _ h1 with h3 | h3 | h3
 ·exact .inl ⟨p,d,h3,rfl,h2⟩
 ·exact .inl h3
 ·exact .inr h3
theorem Ext.trans {fl:Nat} (E:Ext μ fl w μ' w') (E':Ext μ' fl w' μ'' w''):Ext μ fl w μ'' w'':=by
 refine ⟨E.mono.trans E'.mono,fun p c hp=>?_,E.keep.step E'.keep fun i hi hm=>?_⟩
 ·rcases E'.new p c hp with h1 | h1 | h1
  ·exact E.new p c h1
  ·exact .inr (E.img h1)
  ·exact .inr (.inr (nU E.keep.size h1))
 ·rcases E.img hm with h1 | h1
  ·exact h1
  ·omega
structure Sim (C:Chk) (P:Program) (μ:Mu) (h:AH) (w:World):Prop where
 nx:∀ p,h.nx.nat <= p.nat->μ p=none
 lt:∀ p c,μ p=some c->c.1 < w.heap.size
 inj:∀ p q a b c d,h.m.get p=some a->h.m.get q=some b->wLQ a->wLQ b->μ p=some c->μ q=some d->c.1=d.1->p=q
 at_:∀ p b,h.m.get p=some b->∃ c,μ p=some c/\AbR C P μ w c b
theorem Sim.keep (S:Sim C P μ h w) (k:Keep w w' Non):Sim C P μ h w' :=
 ⟨S.nx,fun p c hp=>ng (S.lt p c hp) k.size,S.inj,fun p b hb=>let ⟨c,h1,h2⟩:=S.at_ p b hb;⟨c,h1,h2.keep k id⟩⟩
theorem Sim.floor (S:Sim C P μ h w) (f:Pos):Sim C P μ ⟨h.m,h.nx,f⟩ w:=⟨S.nx,S.lt,S.inj,S.at_⟩
theorem Sim.non (S:Sim C P μ h w) (E:Ext μ h.nx.nat w μ' w') (fl:Nat):Keep w w' Non/\Ext μ fl w μ' w':=by
 have hn:∀ c,¬ img μ h.nx.nat c:=fun c ⟨p,k,h1,_,h2⟩=>by rw [S.nx p h2] at h1;cases h1
 refine ⟨E.keep.weak fun i _ hi=>hn i hi,E.mono,fun p c hp=>?_,E.keep.weak fun i _ hi=>(hn i hi).elim⟩
 rcases E.new p c hp with h1 | h1 | h1
 ·exact .inl h1
 ·exact (hn _ h1).elim
 ·exact .inr (.inr h1)
theorem wIL {h h':AH} {p:Pos} {B:AB} (hp:h.put p B=some h'):h.fl.nat <= p.nat/\h'=⟨h.m.set p B,h.nx,h.fl⟩:=by
 unfold AH.put at hp
 split at hp
 ·cases hp
 ·rename_i hf
  cases hp
  refine ⟨?_,rfl⟩
  rcases np p.nat h.fl.nat with hlt | hge
  ·rw [(Pos.ltb_iff p h.fl false).2 (.inl hlt)] at hf;cases hf
  ·exact hge
theorem Sim.put {p:Pos} {B B':AB} {c:Cl} (S:Sim C P μ h w) (hp:h.put p B'=some h') (hB:h.m.get p=some B) (hl:wLQ B) (hc:μ p=some c) (K:Keep w w' (·=c.1)) (hB':AbR C P μ w' c B') :
  Sim C P μ h' w'/\Ext μ h.fl.nat w μ w'/\h'.fl=h.fl:=by
 obtain ⟨hf,rfl⟩:=wIL hp
 refine ⟨⟨S.nx,fun p c hp=>ng (S.lt p c hp) K.size,?_,?_⟩,⟨Mu.Le.refl μ,fun _ _ h=>.inl h,K.weak fun i _ e=>⟨p,c,hc,e.symm,hf⟩⟩,rfl⟩
 ·intro q r a b d e hq hr la lb hd he hde
  simp only [Tr.get_set] at hq hr
  split at hq <;> split at hr
  ·rename_i h1 h2;rw [h1,h2]
  ·rename_i h1 h2;exact (S.inj q r B b d e (h1 ▸ hB) hr hl lb hd he hde)
  ·rename_i h1 h2;exact (S.inj q r a B d e hq (h2 ▸ hB) la hl hd he hde)
  ·exact S.inj q r a b d e hq hr la lb hd he hde
 ·intro q b hq
  simp only [Tr.get_set] at hq
  split at hq
  ·rename_i h1;subst h1;cases hq;exact ⟨c,hc,hB'⟩
  ·rename_i h1
   obtain ⟨d,h2,h3⟩:=S.at_ q b hq
   refine ⟨d,h2,?_⟩
   by_cases lb:wLQ b
   ·exact h3.keep K fun e=>h1 (S.inj q p b B d c hq hB lb hl h2 hc e)
   ·cases b <;> first | trivial | exact (lb trivial).elim
def Mu.add (μ:Mu) (p:Pos) (c:Cl):Mu:=fun q=>if q=p then some c else μ q
theorem Mu.add_le {p:Pos} {c:Cl} (hn:μ p=none):μ.Le (μ.add p c):=by
 intro q d hq
 unfold Mu.add
 by_cases e:q=p
 ·subst e;rw [hn] at hq;cases hq
 ·rw [if_neg e];exact hq
theorem Mu.add_same (μ:Mu) (p:Pos) (c:Cl):μ.add p c p=some c:=by simp [Mu.add]
theorem Sim.push {c:Cl} {B:AB} (S:Sim C P μ h w) (K:Keep w w' Non) (hc:w.heap.size <= c.1) (hlt:c.1 < w'.heap.size) (hB:AbR C P (μ.add h.nx c) w' c B) :
  Sim C P (μ.add h.nx c) (h.push B) w'/\Ext μ h.fl.nat w (μ.add h.nx c) w'/\(h.push B).fl=h.fl/\(μ.add h.nx c) h.nx=some c:=by
 have hn:=S.nx h.nx (nH _)
 have hle:=Mu.add_le (c:=c) hn
 refine ⟨⟨?_,?_,?_,?_⟩,⟨hle,?_,K.weak fun _ _ h=>h.elim⟩,rfl,Mu.add_same _ _ _⟩
 ·intro p hp
  have hp:h.nx.succ.nat <= p.nat:=hp
  rw [Pos.nat_succ] at hp
  unfold Mu.add
  rw [if_neg (fun e=>by subst e;omega)]
  exact S.nx p (by omega)
 ·intro p d hd
  unfold Mu.add at hd
  split at hd
  ·cases hd;exact hlt
  ·exact ng (S.lt p d hd) K.size
 ·intro p q a b d e hp hq la lb hd he hde
  simp only [AH.push,Tr.get_set] at hp hq
  unfold Mu.add at hd he
  split at hd <;> split at he
  ·rename_i h1 h2;rw [h1,h2]
  ·cases hd;have:=S.lt _ _ he;omega
  ·cases he;have:=S.lt _ _ hd;omega
  ·rename_i h1 h2
   rw [if_neg h1] at hp
   rw [if_neg h2] at hq
   exact S.inj p q a b d e hp hq la lb hd he hde
 ·intro p b hb
  simp only [AH.push,Tr.get_set] at hb
  split at hb
  ·rename_i h1;subst h1;cases hb;exact ⟨c,Mu.add_same _ _ _,hB⟩
  ·obtain ⟨d,h2,h3⟩:=S.at_ p b hb
   exact ⟨d,hle _ _ h2,(h3.mono hle).keep K id⟩
 ·intro p d hd
  unfold Mu.add at hd
  split at hd
  ·cases hd;exact .inr (.inr hc)
  ·exact .inl hd
theorem Sim.move {p:Pos} {B B':AB} {c d:Cl} (S:Sim C P μ h w) (hp:h.put p .dead=some h') (hB:h.m.get p=some B) (hl:wLQ B) (hc:μ p=some c) (K:Keep w w' (·=c.1)) (hd:d.1=c.1 \/ w.heap.size <= d.1) (hlt:d.1 < w'.heap.size)
  (hB':AbR C P (μ.add h.nx d) w' d B'):Sim C P (μ.add h.nx d) (h'.push B') w'/\Ext μ h.fl.nat w (μ.add h.nx d) w'/\(h'.push B').fl=h.fl/\(μ.add h.nx d) h.nx=some d:=by
 obtain ⟨hf,rfl⟩:=wIL hp
 have hn:=S.nx h.nx (nH _)
 have hle:=Mu.add_le (c:=d) hn
 have hpn:p ≠ h.nx:=fun e=>by rw [e,hn] at hc;cases hc
 refine ⟨⟨?_,?_,?_,?_⟩,⟨hle,?_,K.weak fun i _ e=>⟨p,c,hc,e.symm,hf⟩⟩,rfl,Mu.add_same _ _ _⟩
 ·intro q hq
  have hq:h.nx.succ.nat <= q.nat:=hq
  rw [Pos.nat_succ] at hq
  unfold Mu.add
  rw [if_neg (fun e=>by subst e;omega)]
  exact S.nx q (by omega)
 ·intro q e he
  unfold Mu.add at he
  split at he
  ·cases he;exact hlt
  ·exact ng (S.lt q e he) K.size
 ·have key:∀ q b e,q ≠ h.nx->((h.m.set p .dead).set h.nx B').get q=some b->wLQ b->(μ.add h.nx d) q=some e->e.1 ≠ d.1:=by
   intro q b e hq hb lb he hed
   simp only [Tr.get_set,if_neg hq] at hb
   unfold Mu.add at he
   rw [if_neg hq] at he
   split at hb
   ·cases hb;exact lb
   ·rename_i hqp
    rcases hd with h1 | h1
    ·exact hqp (S.inj q p b B e c hb hB lb hl he hc (hed.trans h1))
    ·have:=S.lt _ _ he;omega
  intro q r a b e f hq hr la lb he hf hef
  by_cases e1:q=h.nx <;> by_cases e2:r=h.nx
  ·rw [e1,e2]
  ·subst e1;rw [Mu.add_same] at he;cases he;exact absurd hef.symm (key r b f e2 hr lb hf)
  ·subst e2;rw [Mu.add_same] at hf;cases hf;exact absurd hef (key q a e e1 hq la he)
  ·simp only [AH.push,Tr.get_set,if_neg e1,if_neg e2] at hq hr
   unfold Mu.add at he hf
   rw [if_neg e1] at he
   rw [if_neg e2] at hf
   split at hq
   ·cases hq;exact la.elim
   ·split at hr
    ·cases hr;exact lb.elim
    ·exact S.inj q r a b e f hq hr la lb he hf hef
 ·intro q b hb
  simp only [AH.push,Tr.get_set] at hb
  split at hb
  ·rename_i h1;subst h1;cases hb;exact ⟨d,Mu.add_same _ _ _,hB'⟩
  ·split at hb
   ·rename_i h1 h2;subst h2;cases hb;exact ⟨c,hle _ _ hc,trivial⟩
   ·rename_i h1 h2
    obtain ⟨e,h3,h4⟩:=S.at_ q b hb
    refine ⟨e,hle _ _ h3,?_⟩
    by_cases lb:wLQ b
    ·exact (h4.mono hle).keep K fun e'=>h2 (S.inj q p b B e c hb hB lb hl h3 hc e')
    ·cases b <;> first | trivial | exact (lb trivial).elim
 ·intro q e he
  unfold Mu.add at he
  split at he
  ·cases he
   rcases hd with h1 | h1
   ·exact .inr (.inl ⟨p,c,hc,h1.symm,hf⟩)
   ·exact .inr (.inr h1)
  ·exact .inl he
end
end Go.KX
namespace Go.KX
noncomputable section
open Go.RowKit Go.KL
def aggD:TypeDesc->Bool
 | .struct _ | .array _ _=>true
 | _=>false
def wEF (P:Program) (t:TypeId) (f:TypeDesc->Bool):Bool:=match P.underlying t with
 | some d=>f d
 | none=>false
def szT (P:Program) (t n:Nat):Bool:=match P.info? t with
 | some i=>nB i.size n
 | none=>false
def byT (P:Program) (t n:Nat):Bool:=match P.info? t with
 | some i=>nB i.bytes n
 | none=>false
def zT (P:Program) (t:TypeId) (z:List AV):Bool:=match P.info? t with
 | some i=>match i.zero with
  | some v=>wOU z v.cells.toList
  | none=>false
 | none=>false
section
variable {C:Chk} {P:Program} {μ μ':Mu} {w w':World} {h h':AH} {σ:Env} {σA:Tr AV} {t e:TypeId} {o:Oper}
theorem wAk {f:TypeDesc->Bool} (hc:wEF P t f=true):∃ d,P.underlying t=some d/\f d=true:=by
 unfold wEF at hc
 split at hc
 ·exact ⟨_,by assumption,hc⟩
 ·cases hc
theorem wAn {d:TypeDesc} (hu:P.underlying t=some d) (w:World):(underlying t).run P w=.ok d w:=run_underlying hu w
theorem wDe {n:Nat} (hc:szT P t n=true) (w:World):(sizeOf t).run P w=.ok n w:=by
 unfold szT at hc
 split at hc
 ·rename_i i hi
  rw [<- nA hc]
  simp [sizeOf,typeInfo,hi]
 ·cases hc
theorem wGI {n:Nat} (hc:szT P t n=true):∃ i,P.info? t=some i/\i.size=n:=by
 unfold szT at hc
 split at hc
 ·rename_i i hi;exact ⟨i,hi,nA hc⟩
 ·cases hc
theorem wGJ {n:Nat} (hc:byT P t n=true):∃ i,P.info? t=some i/\i.bytes=n:=by
 unfold byT at hc
 split at hc
 ·rename_i i hi;exact ⟨i,hi,nA hc⟩
 ·cases hc
theorem wEv {z:List AV} (hc:zT P t z=true):∃ i v,P.info? t=some i/\i.zero=some v/\∀ μ,RvL μ z v.cells.toList:=by
 unfold zT at hc
 split at hc
 ·rename_i i hi
  split at hc
  ·rename_i v hv;exact ⟨i,v,hi,hv,fun μ=>wFl μ hc⟩
  ·cases hc
 ·cases hc
theorem wDf {i:TypeInfo} {z:Value} (hi:P.info? t=some i) (hz:i.zero=some z) (w:World):(zeroValue t).run P w=.ok z w:=by
 simp [zeroValue,typeInfo,hi,hz]
theorem wGk {d:TypeDesc} (hu:P.underlying t=some d) (w:World):(isAgg t).run P w=.ok (aggD d) w:=by
 simp only [isAgg,Sem.run_bind,wAn hu,Result.andThen_ok]
 cases d <;> rfl
def wOV (P:Program) (t:TypeId) (b:Bool):Bool:=wEF P t fun d=>aggD d == b
theorem wER {b:Bool} (hc:wOV P t b=true) (w:World):(isAgg t).run P w=.ok b w:=by
 obtain ⟨d,h1,h2⟩:=wAk hc
 rw [wGk h1,eq_of_beq h2]
def OkP (P:Program) (op:Op) (f:Tr AV->AH->Option (AV × AH)):Prop :=
 ∀ σA h v h',f σA h=some (v,h')->h'=h/\∀ μ σ,EnvR μ σA σ->∃ cv,Rv μ v cv/\∀ (o:Oper) (w:World),o.op=op->Runs P σ w o cv w
def c_mv (x:AOd):Op->Bool
 | .move y | .assign y=>wBr x y
 | _=>false
theorem p_mv {x:AOd} {op:Op} (hc:c_mv x op=true):OkP P op (wQz x):=by
 intro σA h v h' hr
 cases hr
 refine ⟨rfl,fun μ σ hE=>?_⟩
 unfold c_mv at hc
 split at hc
 ·exact ⟨_,wAN hc hE,fun o w ho=>Runs.mv ho rfl⟩
 ·exact ⟨_,wAN hc hE,fun o w ho=>Runs.as ho rfl⟩
 ·cases hc
def wMq (c x y:AOd):Op->Bool
 | .pick c' x' y'=>wBr c c' && (wBr x x' && wBr y y')
 | _=>false
theorem wRX {c x y:AOd} {op:Op} (hc:wMq c x y op=true):OkP P op (wGa c x y):=by
 intro σA h v h' hr
 unfold wMq at hc
 split at hc
 ·rename_i c' x' y'
  simp only [hH] at hc
  unfold wGa at hr
  split at hr
  ·rename_i hb;cases hr
   exact ⟨rfl,fun μ σ hE=>⟨_,wAN hc.2.1 hE,fun o w ho=>Runs.pickT ho (by have:=wAN hc.1 hE;rw [hb] at this;exact this) rfl⟩⟩
  ·rename_i hb;cases hr
   exact ⟨rfl,fun μ σ hE=>⟨_,wAN hc.2.2 hE,fun o w ho=>Runs.pickF ho (by have:=wAN hc.1 hE;rw [hb] at this;exact this) rfl⟩⟩
  ·cases hr
 ·cases hc
def wMr (x:AOd):Op->Bool
 | .nilCheck y=>wBr x y
 | _=>false
theorem wRY {x:AOd} {op:Op} (hc:wMr x op=true):OkP P op (wGb x):=by
 intro σA h v h' hr
 unfold wMr at hc
 split at hc
 ·unfold wGb at hr
  split at hr
  ·rename_i hb;cases hr
   refine ⟨rfl,fun μ σ hE=>?_⟩
   have:=wAN hc hE;rw [hb] at this
   refine ⟨_,this,fun o w ho=>?_⟩
   obtain ⟨c,h1,h2⟩:=this
   rw [h2];exact Runs.nilp ho h2
  ·rename_i hb;cases hr
   refine ⟨rfl,fun μ σ hE=>?_⟩
   have:=wAN hc hE;rw [hb] at this
   refine ⟨_,this,fun o w ho=>?_⟩
   obtain ⟨fv,cv,_,_,h2⟩:=this
   rw [h2];exact Runs.nilf ho h2
  ·rename_i hb;cases hr
   refine ⟨rfl,fun μ σ hE=>?_⟩
   have:=wAN hc hE;rw [hb] at this
   refine ⟨_,this,fun o w ho=>?_⟩
   obtain ⟨c,h1,h2⟩:=this
   rw [h2];exact Runs.nily ho h2
  ·cases hr
 ·cases hc
theorem wIM {k:IntKind} {n:Int} (hk:inK k n=true):k.wrap n=n:=by
 unfold inK at hk
 split at hk <;> (try simp only [nL] at hk) <;> (try simp only [IntKind.wrap_i64,IntKind.wrap_u8,IntKind.wrap_u32,Go.IntKind.wrap_u64,nv,nZ]) <;> first | omega | cases hk
theorem wBO {x:Option AV} {v:AV} (hr:okV h x=some (v,h')):x=some v/\h'=h:=by
 cases x <;> cases hr;exact ⟨rfl,rfl⟩
theorem wBJ {α:Type} {b:Bool} {x:Option α} {v:α} (hr:ifO b x=some v):b=true/\x=some v:=by
 cases b
 ·cases hr
 ·exact ⟨rfl,hr⟩
theorem wHm {f:Int->Int->Int} {x y v:AV} (hr:wJb f x y=some v):∃ k a b,x=.int k a/\y=.int k b/\v=.int k (f a b)/\k.wrap (f a b)=f a b:=by
 unfold wJb at hr
 split at hr
 ·rename_i k a k' b
  split at hr
  ·rename_i hk
   split at hr
   ·rename_i hi;cases hr;exact ⟨k,a,b,rfl,by rw [wBN hk],rfl,wIM hi⟩
   ·cases hr
  ·cases hr
 ·cases hr
theorem wOW {f:Int->Int->Int} {x y v:AV} (hr:div f x y=some v):∃ k a b,x=.int k a/\y=.int k b/\v=.int k (f a b)/\k.wrap (f a b)=f a b/\b ≠ 0:=by
 unfold div at hr
 split at hr
 ·rename_i k a k' b
  split at hr
  ·rename_i hk
   split at hr
   ·cases hr
   ·rename_i hz
    split at hr
    ·rename_i hi;cases hr
     exact ⟨k,a,b,rfl,by rw [wBN hk],rfl,wIM hi,fun e=>by rw [wKb.2 e] at hz;cases hz⟩
    ·cases hr
  ·cases hr
 ·cases hr
theorem wMs {f:Int->Int->Bool} {x y v:AV} (hr:wOQ f x y=some v):∃ k a b,x=.int k a/\y=.int k b/\v=.bool (f a b):=by
 unfold wOQ at hr
 split at hr
 ·rename_i k a k' b
  split at hr
  ·rename_i hk;cases hr;exact ⟨k,a,b,rfl,by rw [wBN hk],rfl⟩
  ·cases hr
 ·cases hr
def wCW (b:BinOp) (x y:AOd):Op->Bool
 | .binOp b' _ x' y' _=>(b' == b) && (wBr x x' && wBr y y')
 | _=>false
theorem wFT {b:BinOp} {x y:AOd} {op:Op} (hc:wCW b x y op=true):∃ t x' y' t',op=.binOp b t x' y' t'/\wBr x x'=true/\wBr y y'=true:=by
 unfold wCW at hc
 split at hc
 ·rename_i b' t x' y' t'
  simp only [hH,beq_iff_eq] at hc
  obtain ⟨rfl,h1,h2⟩:=hc
  exact ⟨t,x',y',t',rfl,h1,h2⟩
 ·cases hc
theorem wJt {b:BinOp} {f:Int->Int->Int} {x y:AOd} {op:Op} (hc:wCW b x y op=true)
  (hrun:∀ (o:Oper) (σ:Env) (w:World) t x' y' t' k m n,o.op=.binOp b t x' y' t'->ev σ x'=.int k m->ev σ y'=.int k n->Runs P σ w o (.int k (k.wrap (f m n))) w) :
  OkP P op (fun σ h=>okV h (wJb f (evA σ x) (evA σ y))):=by
 intro σA h v h' hr
 obtain ⟨t,x',y',t',rfl,h1,h2⟩:=wFT hc
 obtain ⟨hr2,rfl⟩:=wBO hr
 obtain ⟨k,m,n,e1,e2,rfl,e3⟩:=wHm hr2
 refine ⟨rfl,fun μ σ hE=>⟨_,rfl,fun o w ho=>?_⟩⟩
 have g1:=wAN h1 hE;rw [e1] at g1
 have g2:=wAN h2 hE;rw [e2] at g2
 have:=hrun o σ w t x' y' t' k m n ho g1 g2
 rwa [e3] at this
theorem p_add {x y:AOd} {op:Op} (hc:wCW .add x y op=true):OkP P op (wMQ x y) :=
 wJt hc fun o σ w t x' y' t' k m n ho h1 h2=>⟨by rw [ho];rfl,by simp [execOp,ho,h1,h2,binOp,eqGuard,Op.intArith]⟩
theorem p_sub {x y:AOd} {op:Op} (hc:wCW .sub x y op=true):OkP P op (wMR x y) :=
 wJt hc fun o σ w t x' y' t' k m n ho h1 h2=>⟨by rw [ho];rfl,by simp [execOp,ho,h1,h2,binOp,eqGuard,Op.intArith];rfl⟩
theorem p_mul {x y:AOd} {op:Op} (hc:wCW .mul x y op=true):OkP P op (wMS x y) :=
 wJt hc fun o σ w t x' y' t' k m n ho h1 h2=>⟨by rw [ho];rfl,by simp [execOp,ho,h1,h2,binOp,eqGuard,Op.intArith]⟩
theorem wRZ {b:BinOp} {f:Int->Int->Int} {x y:AOd} {op:Op} (hc:wCW b x y op=true)
  (hrun:∀ (o:Oper) (σ:Env) (w:World) t x' y' t' k m n,o.op=.binOp b t x' y' t'->ev σ x'=.int k m->ev σ y'=.int k n->n ≠ 0->k.wrap (f m n)=f m n->Runs P σ w o (.int k (f m n)) w) :
  OkP P op (fun σ h=>okV h (div f (evA σ x) (evA σ y))):=by
 intro σA h v h' hr
 obtain ⟨t,x',y',t',rfl,h1,h2⟩:=wFT hc
 obtain ⟨hr2,rfl⟩:=wBO hr
 obtain ⟨k,m,n,e1,e2,rfl,e3,e4⟩:=wOW hr2
 refine ⟨rfl,fun μ σ hE=>⟨_,rfl,fun o w ho=>?_⟩⟩
 have g1:=wAN h1 hE;rw [e1] at g1
 have g2:=wAN h2 hE;rw [e2] at g2
 exact hrun o σ w t x' y' t' k m n ho g1 g2 e4 e3
theorem p_quo {x y:AOd} {op:Op} (hc:wCW .quo x y op=true):OkP P op (wMT x y) :=
 wRZ hc fun o σ w t x' y' t' k m n ho h1 h2 h3 h4=>⟨by rw [ho];rfl,by simp [execOp,ho,h1,h2,binOp,eqGuard,Op.intDiv,h3,h4]⟩
theorem p_rem {x y:AOd} {op:Op} (hc:wCW .rem x y op=true):OkP P op (wMU x y) :=
 wRZ hc fun o σ w t x' y' t' k m n ho h1 h2 h3 h4=>⟨by rw [ho];rfl,by simp [execOp,ho,h1,h2,binOp,eqGuard,Op.intDiv,h3]⟩
theorem wLR {b:BinOp} {f:Int->Int->Bool} {x y:AOd} {op:Op} (hc:wCW b x y op=true)
  (hrun:∀ (o:Oper) (σ:Env) (w:World) t x' y' t' k m n,o.op=.binOp b t x' y' t'->ev σ x'=.int k m->ev σ y'=.int k n->Runs P σ w o (.bool (f m n)) w) :
  OkP P op (fun σ h=>okV h (wOQ f (evA σ x) (evA σ y))):=by
 intro σA h v h' hr
 obtain ⟨t,x',y',t',rfl,h1,h2⟩:=wFT hc
 obtain ⟨hr2,rfl⟩:=wBO hr
 obtain ⟨k,m,n,e1,e2,rfl⟩:=wMs hr2
 refine ⟨rfl,fun μ σ hE=>⟨_,rfl,fun o w ho=>?_⟩⟩
 have g1:=wAN h1 hE;rw [e1] at g1
 have g2:=wAN h2 hE;rw [e2] at g2
 exact hrun o σ w t x' y' t' k m n ho g1 g2
theorem p_lss {x y:AOd} {op:Op} (hc:wCW .lss x y op=true):OkP P op (wMV x y) :=
 wLR hc fun o σ w t x' y' t' k m n ho h1 h2=>(Runs.lss ho h1 h2).to (by rw [wGj])
theorem p_leq {x y:AOd} {op:Op} (hc:wCW .leq x y op=true):OkP P op (wMW x y) :=
 wLR hc fun o σ w t x' y' t' k m n ho h1 h2=>(Runs.leq ho h1 h2).to (by rw [wMo])
theorem p_gtr {x y:AOd} {op:Op} (hc:wCW .gtr x y op=true):OkP P op (wMX x y) :=
 wLR hc fun o σ w t x' y' t' k m n ho h1 h2=>(Runs.gtr ho h1 h2).to (by rw [wGj])
theorem p_geq {x y:AOd} {op:Op} (hc:wCW .geq x y op=true):OkP P op (wMY x y) :=
 wLR hc fun o σ w t x' y' t' k m n ho h1 h2=>(Runs.geq ho h1 h2).to (by rw [wMo])
theorem p_eql {x y:AOd} {op:Op} (hc:wCW .eql x y op=true):OkP P op (wMZ x y) :=
 wLR hc fun o σ w t x' y' t' k m n ho h1 h2=>(Runs.eql ho h1 h2).to (by rw [wDx])
theorem p_neq {x y:AOd} {op:Op} (hc:wCW .neq x y op=true):OkP P op (wMa x y) :=
 wLR hc fun o σ w t x' y' t' k m n ho h1 h2=>(Runs.neq ho h1 h2).to (by rw [wDx];simp)
def wPm (x:AOd):Op->Bool
 | .unOp .neg _ y=>wBr x y
 | _=>false
theorem p_neg {x:AOd} {op:Op} (hc:wPm x op=true):OkP P op (wMb x):=by
 intro σA h v h' hr
 unfold wPm at hc
 split at hc
 ·obtain ⟨hr2,rfl⟩:=wBO hr
  obtain ⟨k,m,n,e1,e2,rfl,e3⟩:=wHm hr2
  rw [e2] at e1
  simp only at e1
  cases e1
  refine ⟨rfl,fun μ σ hE=>⟨_,rfl,fun o w ho=>?_⟩⟩
  have g2:=wAN hc hE;rw [e2] at g2
  refine ⟨by rw [ho];rfl,?_⟩
  have:ev σ _=.int k n:=g2
  simp only [execOp,ho,this,Op.unary,Op.intArith,Sem.run_bind,Sem.run_pure,Result.andThen_ok]
  rw [show (0:Int) - n=Int.sub 0 n from rfl,e3]
 ·cases hc
def wPn (x:AOd):Op->Bool
 | .unOp .not _ y=>wBr x y
 | _=>false
theorem p_not {x:AOd} {op:Op} (hc:wPn x op=true):OkP P op (wJf x):=by
 intro σA h v h' hr
 unfold wPn at hc
 split at hc
 ·unfold wJf at hr
  split at hr
  ·rename_i hb;cases hr
   refine ⟨rfl,fun μ σ hE=>⟨_,rfl,fun o w ho=>?_⟩⟩
   have g:=wAN hc hE;rw [hb] at g
   exact Runs.not ho g
  ·cases hr
 ·cases hc
def wMt:TypeDesc->Option IntKind
 | .int k=>some k
 | _=>none
def wPo (k:IntKind) (x:AOd):Op->Bool
 | .convert s t y=>wEF P s (fun d=>(wMt d).isSome) && (wEF P t (fun d=>match wMt d with | some k'=>keq k k' | none=>false) && wBr x y)
 | _=>false
theorem p_cvt {k:IntKind} {x:AOd} {op:Op} (hc:wPo (P:=P) k x op=true):OkP P op (wJg k x):=by
 intro σA h v h' hr
 unfold wPo at hc
 split at hc
 ·simp only [hH] at hc
  obtain ⟨c1,c2,c3⟩:=hc
  unfold wJg at hr
  split at hr
  ·rename_i k0 n hb
   obtain ⟨hi,hr⟩:=wBJ hr
   cases hr
   refine ⟨rfl,fun μ σ hE=>⟨_,rfl,fun o w ho=>?_⟩⟩
   have g:=wAN c3 hE;rw [hb] at g
   obtain ⟨d,d1,d2⟩:=wAk c1
   obtain ⟨e,e1,e2⟩:=wAk c2
   cases d <;> first | (cases d2;done) | skip
   cases e <;> first | (cases e2;done) | skip
   have:=wBN e2
   subst this
   have g':ev σ _=.int k0 n:=g
   exact ⟨by rw [ho];rfl,by simp [execOp,ho,g',convert,wAn d1,wAn e1,Conv.intToInt,wIM hi]⟩
  ·cases hr
 ·cases hc
def wPp (f:Pos) (fi ca:List AOd):Op->Bool
 | .makeFunc (.func g) fi' ca'=>nB f.nat (g + 1) && (wIv fi fi'.toList && wIv ca ca'.toList)
 | _=>false
theorem p_mkf {f:Pos} {fi ca:List AOd} {op:Op} (hc:wPp f fi ca op=true):OkP P op (wLN f fi ca):=by
 intro σA h v h' hr
 cases hr
 unfold wPp at hc
 split at hc
 ·simp only [hH] at hc
  obtain ⟨c1,c2,c3⟩:=hc
  refine ⟨rfl,fun μ σ hE=>⟨_,⟨_,_,wGH c2 hE,wGH c3 hE,rfl⟩,fun o w ho=>?_⟩⟩
  have e:=nA c1
  refine ⟨by rw [ho];rfl,?_⟩
  simp [execOp,ho,Instr.makeFunc,e,<- kg]
 ·cases hc
def wPq (i:Nat) (x:AOd):Op->Bool
 | .extract y j=>nB i j && wBr x y
 | _=>false
theorem p_ext {i:Nat} {x:AOd} {op:Op} (hc:wPq i x op=true):OkP P op (wJm i x):=by
 intro σA h v h' hr
 unfold wPq at hc
 split at hc
 ·simp only [hH] at hc
  have e:=nA hc.1
  subst e
  unfold wJm at hr
  split at hr
  ·rename_i l hb
   obtain ⟨hr2,rfl⟩:=wBO hr
   refine ⟨rfl,fun μ σ hE=>?_⟩
   have g:=wAN hc.2 hE;rw [hb] at g
   obtain ⟨vs,g1,g2⟩:=g
   rw [wFy] at hr2
   obtain ⟨cv,g3,g4⟩:=wEt g1 hr2
   exact ⟨cv,g4,fun o w ho=>Runs.ext ho g2 (by simpa using g3)⟩
  ·cases hr
 ·cases hc
end
end
end Go.KX
namespace Go.KX
noncomputable section
open Go.RowKit Go.KL
section
variable {C:Chk} {P:Program} {μ μ':Mu} {w w':World} {h h':AH} {σ:Env} {σA:Tr AV} {t e:TypeId} {o:Oper}
def wPr (P:Program) (ne:Bool) (x y:AOd):Op->Bool
 | .binOp b t x' y' _=>(match ne with | true=>b == .neq | false=>b == .eql) && (wEF P t (fun d=>match d with | .bool=>true | _=>false) && (wBr x x' && wBr y y'))
 | _=>false
theorem wHn (ne b:Bool):(ne != b)=(match ne with | true=>!b | false=>b):=by cases ne <;> cases b <;> rfl
theorem p_eqb {ne:Bool} {x y:AOd} {op:Op} (hc:wPr P ne x y op=true):OkP P op (wJc ne x y):=by
 intro σA h v h' hr
 unfold wPr at hc
 split at hc
 ·simp only [hH] at hc
  obtain ⟨c0,c1,c2,c3⟩:=hc
  unfold wJc at hr
  split at hr
  ·rename_i a b e1 e2
   cases hr
   refine ⟨rfl,fun μ σ hE=>⟨_,rfl,fun o w ho=>?_⟩⟩
   have g1:=wAN c2 hE;rw [e1] at g1
   have g2:=wAN c3 hE;rw [e2] at g2
   obtain ⟨d,d1,d2⟩:=wAk c1
   cases d <;> first | (cases d2;done) | skip
   cases ne
   ·have:=eq_of_beq c0;subst this
    exact (Runs.eqB ho g1 g2 (wAn d1)).to (by rw [wHn])
   ·have:=eq_of_beq c0;subst this
    exact (Runs.neB ho g1 g2 (wAn d1)).to (by rw [wHn])
  ·cases hr
 ·cases hc
def nilD (k:Nat) (d:TypeDesc):Bool:=match k,d with
 | 0,.pointer _=>true
 | 1,.slice _=>true
 | 2,.map _ _=>true
 | 3,.func _ _ _=>true
 | _,_=>false
theorem wMu {k:Nat} {d:TypeDesc} {a b:AV} {r:Bool} {x y:Value} (hu:P.underlying t=some d) (hd:nilD k d=true) (hr:wLJ k a b=some r) (hx:Rv μ a x) (hy:Rv μ b y) (w:World):(Op.equal t x y).run P w=.ok r w:=by
 unfold Op.equal Op.maxDepth
 rw [show (10000:Nat)=9999 + 1 from rfl,Op.equalIn]
 unfold wLJ at hr
 split at hr <;> cases hr <;> simp only [Rv] at hx hy <;> (cases d <;> first | (cases hd;done) | skip) <;>
  (try obtain ⟨_,_,_,_,_,rfl⟩:=hx) <;> (try obtain ⟨_,_,_,_,rfl⟩:=hx) <;> (try obtain ⟨_,_,_,rfl⟩:=hx) <;> (try obtain ⟨_,_,rfl⟩:=hx) <;> (try subst hx) <;>
  (try obtain ⟨_,_,_,_,_,rfl⟩:=hy) <;> (try obtain ⟨_,_,_,_,rfl⟩:=hy) <;> (try obtain ⟨_,_,_,rfl⟩:=hy) <;> (try obtain ⟨_,_,rfl⟩:=hy) <;> (try subst hy) <;>
  simp only [Sem.run_bind,wAn hu,Result.andThen_ok,Sem.run_pure] <;> rfl
theorem wJu {k:Nat} {a b:AV} {r:Bool} {x y:Value} (hr:wLJ k a b=some r) (hx:Rv μ a x) (hy:Rv μ b y) (op:BinOp) (p q:Operand) (w:World):(eqGuard op t p q x y).run P w=.ok () w:=by
 unfold wLJ at hr
 split at hr <;> cases hr <;> simp only [Rv] at hx hy <;>
  (try obtain ⟨_,_,_,_,_,rfl⟩:=hx) <;> (try obtain ⟨_,_,_,_,rfl⟩:=hx) <;> (try obtain ⟨_,_,_,rfl⟩:=hx) <;> (try obtain ⟨_,_,rfl⟩:=hx) <;> (try subst hx) <;>
  (try obtain ⟨_,_,_,_,_,rfl⟩:=hy) <;> (try obtain ⟨_,_,_,_,rfl⟩:=hy) <;> (try obtain ⟨_,_,_,rfl⟩:=hy) <;> (try obtain ⟨_,_,rfl⟩:=hy) <;> (try subst hy) <;>
  simp only [eqGuard] <;> (cases op <;> rfl)
def wPs (P:Program) (k:Nat) (ne:Bool) (x y:AOd):Op->Bool
 | .binOp b t x' y' _=>(match ne with | true=>b == .neq | false=>b == .eql) && (wEF P t (nilD k) && (wBr x x' && wBr y y'))
 | _=>false
theorem p_eqn {k:Nat} {ne:Bool} {x y:AOd} {op:Op} (hc:wPs P k ne x y op=true):OkP P op (wJd k ne x y):=by
 intro σA h v h' hr
 unfold wPs at hc
 split at hc
 ·rename_i b t x' y' t'
  simp only [hH] at hc
  obtain ⟨c0,c1,c2,c3⟩:=hc
  unfold wJd at hr
  split at hr
  ·rename_i r e1
   cases hr
   refine ⟨rfl,fun μ σ hE=>⟨_,rfl,fun o w ho=>?_⟩⟩
   have g1:=wAN c2 hE
   have g2:=wAN c3 hE
   obtain ⟨d,d1,d2⟩:=wAk c1
   have g3:=wMu d1 d2 e1 g1 g2
   have g4:=fun op=>wJu (P:=P) (t:=t) e1 g1 g2 op x' y'
   refine ⟨by rw [ho];rfl,?_⟩
   generalize hX:ev σ x'=X at g1 g3 g4
   generalize hY:ev σ y'=Y at g2 g3 g4
   have nint:(∀ k n,X ≠ .int k n)/\(∀ k n,X ≠ .float k n)/\(∀ k n m,X ≠ .complex k n m)/\(∀ s,X ≠ .string s):=by
    unfold wLJ at e1
    split at e1 <;> cases e1 <;> rename_i e2 e3 <;> rw [e2] at g1 <;> simp only [Rv] at g1 <;>
     (try obtain ⟨_,_,_,_,_,rfl⟩:=g1) <;> (try obtain ⟨_,_,_,_,rfl⟩:=g1) <;> (try obtain ⟨_,_,_,rfl⟩:=g1) <;> (try obtain ⟨_,_,rfl⟩:=g1) <;> (try subst g1) <;>
     exact ⟨by simp,by simp,by simp,by simp⟩
   obtain ⟨n1,n2,n3,n4⟩:=nint
   cases ne
   ·have:=eq_of_beq c0;subst this
    simp only [execOp,ho,Sem.run_bind,hX,hY,g4 .eql w,Result.andThen_ok]
    have:(binOp .eql t X Y).run P w=.ok (.bool r) w:=by
     cases X <;> first | exact absurd rfl (n1 _ _) | exact absurd rfl (n2 _ _) | exact absurd rfl (n3 _ _ _) | exact absurd rfl (n4 _) | (simp only [binOp,Sem.run_bind,g3 w,Result.andThen_ok];rfl)
    rw [this]
    simp [wHn]
   ·have:=eq_of_beq c0;subst this
    simp only [execOp,ho,Sem.run_bind,hX,hY,g4 .neq w,Result.andThen_ok]
    have:(binOp .neq t X Y).run P w=.ok (.bool (!r)) w:=by
     cases X <;> first | exact absurd rfl (n1 _ _) | exact absurd rfl (n2 _ _) | exact absurd rfl (n3 _ _ _) | exact absurd rfl (n4 _) | (simp only [binOp,Sem.run_bind,g3 w,Result.andThen_ok];rfl)
    rw [this]
    simp [wHn]
  ·cases hr
 ·cases hc
mutual
def Sh.depth:Sh->Nat
 | .int=>1
 | .bool=>1
 | .str fs=>wKc fs + 1
def wKc:List (Nat × Nat × Sh)->Nat
 | []=>0
 | (_,_,s) :: fs=>Nat.max s.depth (wKc fs)
end
mutual
def wJv (P:Program):Sh->TypeId->Bool
 | .int,t=>wEF P t fun d=>(wMt d).isSome
 | .bool,t=>wEF P t fun d=>match d with | .bool=>true | _=>false
 | .str fs,t=>(!P.stoodInHeld t) && wEF P t fun d=>match d with | .struct gs=>wLS P fs gs.toList | _=>false
def wLS (P:Program):List (Nat × Nat × Sh)->List Field->Bool
 | [],[]=>true
 | (off, sz, s) :: fs, g :: gs => (g.name != "_") && (nB g.offset off && (szT P g.type sz && (wJv P s g.type && wLS P fs gs)))
 | _,_=>false
end
theorem wMv {s:Sh} (hc:wJv P s t=true) (w:World):(isAgg t).run P w=.ok (match s with | .str _=>true | _=>false) w:=by
 cases s with
 | int =>
  obtain ⟨d,h1,h2⟩:=wAk hc
  rw [wGk h1];cases d <;> first | rfl | cases h2
 | bool =>
  obtain ⟨d,h1,h2⟩:=wAk hc
  rw [wGk h1];cases d <;> first | rfl | cases h2
 | str fs =>
  simp only [wJv,hH] at hc
  obtain ⟨d,h1,h2⟩:=wAk hc.2
  rw [wGk h1];cases d <;> first | rfl | cases h2
theorem wIw {s:Sh} {l:List AV} {vs:List Value} {off sz:Nat} {a:AV} (hc:wJv P s t=true) (hz:szT P t sz=true) (hp:wOR s l off sz=some a) (hl:RvL μ l vs):∃ v,Rv μ a v/\∀ w,(part t vs.toArray off).run P w=.ok v w:=by
 have hag:=wMv hc
 unfold wOR at hp
 split at hp
 ·split at hp
  ·rename_i r hs
   cases hp
   obtain ⟨h1,h2⟩:=wEu hs hl
   exact ⟨_,⟨_,h1,rfl⟩,fun w=>wCS hag (wDe hz) rfl⟩
  ·cases hp
 ·rename_i hne
  rw [wFy] at hp
  obtain ⟨v,h1,h2⟩:=wEt hl hp
  refine ⟨v,h2,fun w=>wEK (fun w=>?_) h1⟩
  rw [hag w]
  cases s <;> first | rfl | exact absurd rfl (hne _)
mutual
theorem wKd:∀ (s:Sh) (t:TypeId) (d:Nat) (a b:AV) (x y:Value) (r:Bool),wJv P s t=true->s.depth <= d->wOS s a b=some r->Rv μ a x->Rv μ b y->∀ w,(Op.equalIn d t x y).run P w=.ok r w
 | .int,t,d,a,b,x,y,r,hc,hd,hr,hx,hy,w=>by
  obtain ⟨d,rfl⟩:∃ e,d=e + 1:=⟨d - 1,by simp only [Sh.depth] at hd;omega⟩
  unfold wOS at hr
  split at hr <;> first | (cases hr;done) | skip
  all_goals (try (rename_i h0;cases h0))
  split at hr <;> cases hr
  rename_i hk
  obtain ⟨dd,d1,d2⟩:=wAk hc
  cases dd <;> first | (cases d2;done) | skip
  simp only [Rv] at hx hy
  subst hx hy
  have:=wBN hk;subst this
  simp [Op.equalIn,wAn d1,wDx,wJV]
 | .bool,t,d,a,b,x,y,r,hc,hd,hr,hx,hy,w=>by
  obtain ⟨d,rfl⟩:∃ e,d=e + 1:=⟨d - 1,by simp only [Sh.depth] at hd;omega⟩
  unfold wOS at hr
  split at hr <;> first | (cases hr;done) | skip
  all_goals (try (rename_i h0;cases h0))
  cases hr
  obtain ⟨dd,d1,d2⟩:=wAk hc
  cases dd <;> first | (cases d2;done) | skip
  simp only [Rv] at hx hy
  subst hx hy
  simp [Op.equalIn,wAn d1]
 | .str fs,t,d,a,b,x,y,r,hc,hd,hr,hx,hy,w=>by
  simp only [Sh.depth] at hd
  obtain ⟨d,rfl⟩:∃ e,d=e + 1:=⟨d - 1,by omega⟩
  unfold wOS at hr
  split at hr <;> first | (cases hr;done) | skip
  all_goals (try (rename_i h0;cases h0))
  simp only [wJv,hH,kA] at hc
  obtain ⟨dd,d1,d2⟩:=wAk hc.2
  cases dd <;> first | (cases d2;done) | skip
  rename_i gs
  obtain ⟨xs,h1,rfl⟩:=hx
  obtain ⟨ys,h2,rfl⟩:=hy
  have hf:P.fieldsOf t=gs:=by unfold Program.fieldsOf;rw [d1]
  rw [run_equalIn_agg w d t _ _ (by rw [hf];exact d1) hc.1,hf]
  exact wKe fs gs.toList d _ _ xs ys r d2 (by omega) hr h1 h2 w
theorem wKe:∀ (fs:List (Nat × Nat × Sh)) (gs:List Field) (d:Nat) (l k:List AV) (xs ys:List Value) (r:Bool),wLS P fs gs=true->wKc fs <= d->wRP fs l k=some r->RvL μ l xs->RvL μ k ys ->
  ∀ w,(Op.eqFields d xs.toArray ys.toArray gs).run P w=.ok r w
 | [],[],d,l,k,xs,ys,r,hc,hd,hr,hx,hy,w=>by
  simp only [wRP] at hr;cases hr;rfl
 | (off,sz,s) :: fs,g :: gs,d,l,k,xs,ys,r,hc,hd,hr,hx,hy,w=>by
  simp only [wLS,hH] at hc
  obtain ⟨c1,c2,c3,c4,c5⟩:=hc
  have e:=nA c2
  subst e
  simp only [wRP] at hr
  split at hr
  ·rename_i a b ha hb
   obtain ⟨u,u1,u2⟩:=wIw c4 c3 ha hx
   obtain ⟨v,v1,v2⟩:=wIw c4 c3 hb hy
   have hne : g.name ≠ "_" := by simpa using c1
   have hd1:s.depth <= d:=nU (Nat.le_max_left _ _) hd
   have hd2:wKc fs <= d:=nU (Nat.le_max_right _ _) hd
   cases hq:wOS s a b with
   | none=>rw [hq] at hr;cases hr
   | some q =>
    have hE:=wKd s g.type d a b u v q c4 hd1 hq u1 v1
    rw [hq] at hr
    cases q with
    | true =>
     simp only at hr
     have hF:=wKe fs gs d l k xs ys r c5 hd2 hr hx hy
     simp [Op.eqFields,hne,u2,v2,hE,hF,Result.andThen]
    | false =>
     simp only [nX] at hr
     subst hr
     simp [Op.eqFields,hne,u2,v2,hE,Result.andThen]
  ·cases hr
 | [],_ :: _,d,l,k,xs,ys,r,hc,hd,hr,hx,hy,w=>by simp [wLS] at hc
 | _ :: _,[],d,l,k,xs,ys,r,hc,hd,hr,hx,hy,w=>by simp [wLS] at hc
end
theorem wOX {fs:List (Nat × Nat × Sh)} {r:Bool}:∀ {a b:AV},wOS (.str fs) a b=some r->∃ l k,a=.agg l/\b=.agg k:=by
 intro a b h
 cases a <;> cases b <;> first | exact ⟨_,_,rfl,rfl⟩ | (simp [wOS] at h;done)
def wPt (P:Program) (ne:Bool) (s:Sh) (x y:AOd):Op->Bool
 | .binOp b t x' y' _=>(match ne with | true=>b == .neq | false=>b == .eql) && (Nat.ble s.depth 10000 && (wJv P s t && ((match s with | .str _=>true | _=>false) && ((!P.eqGuardType P.depth t) && (wBr x x' && wBr y y')))))
 | _=>false
theorem p_eqs {ne:Bool} {s:Sh} {x y:AOd} {op:Op} (hc:wPt P ne s x y op=true):OkP P op (wJe ne s x y):=by
 intro σA h v h' hr
 unfold wPt at hc
 split at hc
 ·rename_i b t x' y' t'
  simp only [hH,kA] at hc
  obtain ⟨c0,c1,c2,c3,c4,c5,c6⟩:=hc
  unfold wJe at hr
  split at hr
  ·rename_i r e1
   cases hr
   refine ⟨rfl,fun μ σ hE=>⟨_,rfl,fun o w ho=>?_⟩⟩
   have g1:=wAN c5 hE
   have g2:=wAN c6 hE
   have g3:∀ w,(Op.equal t (ev σ x') (ev σ y')).run P w=.ok r w:=wKd s t 10000 _ _ _ _ r c2 (nO c1) e1 g1 g2
   cases s <;> first | (cases c3;done) | skip
   obtain ⟨l,k,h1,h2⟩:=wOX e1
   rw [h1] at g1;rw [h2] at g2
   obtain ⟨xs,_,g1⟩:=g1
   obtain ⟨ys,_,g2⟩:=g2
   rw [g1,g2] at g3
   refine ⟨by rw [ho];rfl,?_⟩
   cases ne
   ·have:=eq_of_beq c0;subst this
    simp [execOp,ho,g1,g2,binOp,eqGuard,c4,g3,wHn]
   ·have:=eq_of_beq c0;subst this
    simp [execOp,ho,g1,g2,binOp,eqGuard,c4,g3,wHn]
  ·cases hr
 ·cases hc
end
end
end Go.KX
namespace Go.KX
noncomputable section
open Go.RowKit Go.KL
section
variable {C:Chk} {P:Program} {μ μ':Mu} {w w':World} {h h':AH} {σ:Env} {σA:Tr AV} {t e:TypeId} {o:Oper}
def wPu (P:Program) (off:Nat) (x:AOd):Op->Bool
 | .fieldAddr t y i=>wEF P t (fun d=>match d with
   | .struct fs=>match fs[i]? with
    | some f=>nB f.offset off && (match P.info? f.type with | some j=>nu 0 j.size | none=>false)
    | none=>false
   | _=>false) && wBr x y
 | _=>false
theorem p_fad {off:Nat} {x:AOd} {op:Op} (hc:wPu P off x op=true):OkP P op (wJi off x):=by
 intro σA h v h' hr
 unfold wPu at hc
 split at hc
 ·rename_i t y i
  simp only [hH] at hc
  obtain ⟨c1,c2⟩:=hc
  unfold wJi at hr
  split at hr
  ·rename_i b oo hb
   cases hr
   refine ⟨rfl,fun μ σ hE=>?_⟩
   have g:=wAN c2 hE;rw [hb] at g
   obtain ⟨c,g1,g2⟩:=g
   refine ⟨_,⟨c,g1,rfl⟩,fun o w ho=>?_⟩
   obtain ⟨d,d1,d2⟩:=wAk c1
   split at d2
   ·rename_i fs
    split at d2
    ·rename_i f hf
     simp only [hH] at d2
     have e:=nA d2.1
     subst e
     have d3:=d2.2
     split at d3
     ·rename_i j hj
      have hpos:0 < j.size:=by simpa [nL] using d3
      obtain ⟨n,hn⟩:∃ n,j.size=n + 1:=⟨j.size - 1,by omega⟩
      exact Runs.fa (n:=n) ho g2 (wAn d1) hf (fun w=>by rw [<- hn];simp [sizeOf,typeInfo,hj])
     ·cases d3
    ·cases d2
   ·cases d2
  ·cases hr
 ·cases hc
def wPv (P:Program) (off:Nat) (x:AOd):Op->Bool
 | .field t y i=>wEF P t (fun d=>match d with
   | .struct fs=>match fs[i]? with
    | some f=>nB f.offset off && wOV P f.type false
    | none=>false
   | _=>false) && wBr x y
 | _=>false
def wMw (P:Program) (off n:Nat) (x:AOd):Op->Bool
 | .field t y i=>wEF P t (fun d=>match d with
   | .struct fs=>match fs[i]? with
    | some f=>nB f.offset off && (wOV P f.type true && szT P f.type n)
    | none=>false
   | _=>false) && wBr x y
 | _=>false
theorem p_fld {off:Nat} {x:AOd} {op:Op} (hc:wPv P off x op=true):OkP P op (wJj off x):=by
 intro σA h v h' hr
 unfold wPv at hc
 split at hc
 ·rename_i t y i
  simp only [hH] at hc
  obtain ⟨c1,c2⟩:=hc
  unfold wJj at hr
  split at hr
  ·rename_i l hb
   obtain ⟨hr2,rfl⟩:=wBO hr
   refine ⟨rfl,fun μ σ hE=>?_⟩
   have g:=wAN c2 hE;rw [hb] at g
   obtain ⟨vs,g1,g2⟩:=g
   rw [wFy] at hr2
   obtain ⟨cv,g3,g4⟩:=wEt g1 hr2
   refine ⟨cv,g4,fun o w ho=>?_⟩
   obtain ⟨d,d1,d2⟩:=wAk c1
   split at d2
   ·split at d2
    ·rename_i f hf
     simp only [hH] at d2
     have e:=nA d2.1
     subst e
     exact Runs.fld ho g2 (wAn d1) hf (wEK (wER d2.2) g3)
    ·cases d2
   ·cases d2
  ·cases hr
 ·cases hc
theorem wDY {x:Option (List AV)} {v:AV} (hr:wHk x=some v):∃ l,x=some l/\v=.agg l:=by
 cases x <;> cases hr;exact ⟨_,rfl,rfl⟩
theorem wRa {off n:Nat} {x:AOd} {op:Op} (hc:wMw P off n x op=true):OkP P op (wGe off n x):=by
 intro σA h v h' hr
 unfold wMw at hc
 split at hc
 ·rename_i t y i
  simp only [hH] at hc
  obtain ⟨c1,c2⟩:=hc
  unfold wGe at hr
  split at hr
  ·rename_i l hb
   obtain ⟨hr2,rfl⟩:=wBO hr
   obtain ⟨r,hr3,rfl⟩:=wDY hr2
   refine ⟨rfl,fun μ σ hE=>?_⟩
   have g:=wAN c2 hE;rw [hb] at g
   obtain ⟨vs,g1,g2⟩:=g
   obtain ⟨g3,g4⟩:=wEu hr3 g1
   refine ⟨_,⟨_,g3,rfl⟩,fun o w ho=>?_⟩
   obtain ⟨d,d1,d2⟩:=wAk c1
   split at d2
   ·split at d2
    ·rename_i f hf
     simp only [hH] at d2
     have e:=nA d2.1
     subst e
     exact Runs.fld ho g2 (wAn d1) hf (wCS (wER d2.2.1) (wDe d2.2.2) rfl)
    ·cases d2
   ·cases d2
  ·cases hr
 ·cases hc
theorem wBq {a:AV} {n:Nat} (hr:wGY a=some n):a=.int .i64 n:=by
 unfold wGY at hr
 split at hr
 ·cases hr;rfl
 ·cases hr
def wPw (P:Program) (sz:Nat) (x y:AOd):Op->Bool
 | .indexAddr t x' y'=>wEF P t (fun d=>match d with
   | .slice e=>szT P e sz
   | _=>false) && (wBr x x' && wBr y y')
 | _=>false
theorem p_iad {sz:Nat} {x y:AOd} {op:Op} (hc:wPw P sz x y op=true):OkP P op (wJk sz x y):=by
 intro σA h v h' hr
 unfold wPw at hc
 split at hc
 ·rename_i t x' y'
  simp only [hH] at hc
  obtain ⟨c1,c2,c3⟩:=hc
  obtain ⟨d,d1,d2⟩:=wAk c1
  split at d2
  ·rename_i e
   unfold wJk at hr
   split at hr
   ·rename_i b off n c i hb hi
    obtain ⟨hlt,hr⟩:=wBJ hr
    cases hr
    have hlt:i < n:=by simpa [nL] using hlt
    have hi:=wBq hi
    refine ⟨rfl,fun μ σ hE=>?_⟩
    have g:=wAN c2 hE;rw [hb] at g
    have k:=wAN c3 hE;rw [hi] at k
    obtain ⟨m,g1,g2,g3⟩:=g
    refine ⟨_,⟨m,g1,rfl⟩,fun o w ho=>?_⟩
    have:=Runs.ia (P:=P) (o:=o) (w:=w) (i:=(i:Int)) ho g3 k (wAn d1) (wDe d2) (by omega) (by omega)
    simpa using this
   ·rename_i b eo co n i hb hi
    obtain ⟨hlt,hr⟩:=wBJ hr
    cases hr
    have hlt:i < n:=by simpa [nL] using hlt
    have hi:=wBq hi
    refine ⟨rfl,fun μ σ hE=>?_⟩
    have g:=wAN c2 hE;rw [hb] at g
    have k:=wAN c3 hE;rw [hi] at k
    obtain ⟨m,g1,g2,g3⟩:=g
    refine ⟨_,⟨m,g1,rfl⟩,fun o w ho=>?_⟩
    have:=Runs.ia (P:=P) (o:=o) (w:=w) (i:=(i:Int)) ho g3 k (wAn d1) (wDe d2) (by omega) (by omega)
    simpa using this
   ·cases hr
  ·cases d2
 ·cases hc
def wMx (P:Program) (sz n:Nat) (x y:AOd):Op->Bool
 | .indexAddr t x' y'=>wEF P t (fun d=>match d with
   | .array m e=>nB m n && szT P e sz
   | _=>false) && (wBr x x' && wBr y y')
 | _=>false
theorem wRb {sz n:Nat} {x y:AOd} {op:Op} (hc:wMx P sz n x y op=true):OkP P op (wGf sz n x y):=by
 intro σA h v h' hr
 unfold wMx at hc
 split at hc
 ·rename_i t x' y'
  simp only [hH] at hc
  obtain ⟨c1,c2,c3⟩:=hc
  obtain ⟨d,d1,d2⟩:=wAk c1
  split at d2
  ·rename_i m e
   simp only [hH] at d2
   have em:=nA d2.1
   subst em
   unfold wGf at hr
   split at hr
   ·rename_i b off i hb hi
    obtain ⟨hlt,hr⟩:=wBJ hr
    cases hr
    have hlt:i < m:=by simpa [nL] using hlt
    have hi:=wBq hi
    refine ⟨rfl,fun μ σ hE=>?_⟩
    have g:=wAN c2 hE;rw [hb] at g
    have k:=wAN c3 hE;rw [hi] at k
    obtain ⟨q,g1,g3⟩:=g
    refine ⟨_,⟨q,g1,rfl⟩,fun o w ho=>?_⟩
    have:=Runs.iaA (P:=P) (o:=o) (w:=w) (i:=(i:Int)) ho g3 k (wAn d1) (wDe d2.2) (by omega) (by omega)
    simpa using this
   ·cases hr
  ·cases d2
 ·cases hc
def c_ix (P:Program) (n:Nat) (x y:AOd):Op->Bool
 | .index t x' y'=>wEF P t (fun d=>match d with
   | .array m e=>nB m n && (szT P e 1 && wOV P e false)
   | _=>false) && (wBr x x' && wBr y y')
 | _=>false
theorem p_ix {n:Nat} {x y:AOd} {op:Op} (hc:c_ix P n x y op=true):OkP P op (wPf n x y):=by
 intro σA h v h' hr
 unfold c_ix at hc
 split at hc
 ·rename_i t x' y'
  simp only [hH] at hc
  obtain ⟨c1,c2,c3⟩:=hc
  obtain ⟨d,d1,d2⟩:=wAk c1
  split at d2
  ·rename_i m e
   simp only [hH] at d2
   have em:=nA d2.1
   subst em
   unfold wPf at hr
   split at hr
   ·rename_i l i hb hi
    obtain ⟨hlt,hr⟩:=wBJ hr
    obtain ⟨hr2,rfl⟩:=wBO hr
    have hlt:i < m:=by simpa [nL] using hlt
    have hi:=wBq hi
    refine ⟨rfl,fun μ σ hE=>?_⟩
    have g:=wAN c2 hE;rw [hb] at g
    have k:=wAN c3 hE;rw [hi] at k
    obtain ⟨vs,g1,g2⟩:=g
    rw [wFy] at hr2
    obtain ⟨cv,g3,g4⟩:=wEt g1 hr2
    refine ⟨cv,g4,fun o w ho=>?_⟩
    exact Runs.ixA (P:=P) (o:=o) (w:=w) (i:=(i:Int)) ho g2 k (wAn d1) (wDe d2.2.1) (by omega) (by omega) (wEK (wER d2.2.2) (by simpa using g3))
   ·cases hr
  ·cases d2
 ·cases hc
def wPx (P:Program) (sz n:Nat) (x y:AOd):Op->Bool
 | .index t x' y'=>wEF P t (fun d=>match d with
   | .array m e=>nB m n && (szT P e sz && wOV P e true)
   | _=>false) && (wBr x x' && wBr y y')
 | _=>false
theorem p_ixA {sz n:Nat} {x y:AOd} {op:Op} (hc:wPx P sz n x y op=true):OkP P op (wJl sz n x y):=by
 intro σA h v h' hr
 unfold wPx at hc
 split at hc
 ·rename_i t x' y'
  simp only [hH] at hc
  obtain ⟨c1,c2,c3⟩:=hc
  obtain ⟨d,d1,d2⟩:=wAk c1
  split at d2
  ·rename_i m e
   simp only [hH] at d2
   have em:=nA d2.1
   subst em
   unfold wJl at hr
   split at hr
   ·rename_i l i hb hi
    obtain ⟨hlt,hr⟩:=wBJ hr
    obtain ⟨hr2,rfl⟩:=wBO hr
    obtain ⟨r,hr3,rfl⟩:=wDY hr2
    have hlt:i < m:=by simpa [nL] using hlt
    have hi:=wBq hi
    refine ⟨rfl,fun μ σ hE=>?_⟩
    have g:=wAN c2 hE;rw [hb] at g
    have k:=wAN c3 hE;rw [hi] at k
    obtain ⟨vs,g1,g2⟩:=g
    obtain ⟨g3,g4⟩:=wEu hr3 g1
    refine ⟨_,⟨_,g3,rfl⟩,fun o w ho=>?_⟩
    exact Runs.ixA (P:=P) (o:=o) (w:=w) (i:=(i:Int)) ho g2 k (wAn d1) (wDe d2.2.1) (by omega) (by omega) (wCS (wER d2.2.2) (wDe d2.2.1) (by simp))
   ·cases hr
  ·cases d2
 ·cases hc
def wPH:Option AOd->Option Operand->Bool
 | none,none=>true
 | some x,some y=>wBr x y
 | _,_=>false
theorem wMy {x:Option AOd} {y:Option Operand} {r:Option Nat} (hr:bnd σA x=some r) (hc:wPH x y=true) (hE:EnvR μ σA σ):(r=none/\y=none) \/ ∃ n z,r=some n/\y=some z/\ev σ z=.int .i64 n:=by
 cases x with
 | none =>
  cases y with
  | none=>cases hr;exact .inl ⟨rfl,rfl⟩
  | some _=>cases hc
 | some x =>
  cases y with
  | none=>cases hc
  | some y =>
   simp only [bnd] at hr
   split at hr
   ·rename_i n hn
    cases hr
    have:=wAN (show wBr x y=true from hc) hE
    rw [wBq hn] at this
    exact .inr ⟨n,y,rfl,rfl,this⟩
   ·cases hr
def vI (n:Nat):Value:=.int .i64 (n:Int)
theorem wGl {P:Program} {n y:Nat} {code:BoundsCode} (hle:n <= y) (w:World):(Instr.sliceBound (vI n) y code).run P w=.ok n w:=by
 have h1:(n:Int) <= y:=by omega
 simp [Instr.sliceBound,vI,asIntOf,h1]
theorem wEa {P:Program} {s:Bool} {len cap:Nat} {lo hi mx:Option Nat} {l hh m:Nat} (hm:m=mx.getD cap) (hh':hh=hi.getD len) (hl:l=lo.getD 0) (h1:l <= hh) (h2:hh <= m) (h3:m <= cap) (hmh:mx.isSome=true->hi.isSome=true) (w:World) :
  (Instr.sliceBounds s len cap (lo.map vI) (hi.map vI) (mx.map vI)).run P w=.ok (l,hh,m) w:=by
 subst hm hh' hl
 unfold Instr.sliceBounds
 cases mx <;> cases hi <;> cases lo <;> simp only [kh,ki] at h1 h2 h3 <;> (try (simp at hmh;done)) <;> simp [wGl h1,wGl h2,wGl h3]
theorem wGm {x:Option AOd} {y:Option Operand} {r:Option Nat} (hr:bnd σA x=some r) (hc:wPH x y=true) (hE:EnvR μ σA σ):y.map (ev σ)=r.map vI:=by
 rcases wMy hr hc hE with ⟨rfl,rfl⟩ | ⟨n,z,rfl,rfl,h1⟩
 ·rfl
 ·simp [h1,vI]
theorem wEw (b off n:Nat):(Addr.add ⟨b,off,none⟩ n)=⟨b,off + n,none⟩:=wDA b off n
theorem wMz {P:Program} {sz:Nat} {a v:AV} {x:Value} {lo hi mx:Option Nat} (hr0:wRQ sz a (orD lo 0) hi mx=some v) (hx:Rv μ a x) (hmh:mx.isSome=true->hi.isSome=true) :
  ∃ A len cap cv l hh m,x=.slice A len cap/\Rv μ v cv/\(∀ s w,(Instr.sliceBounds s len cap (lo.map vI) (hi.map vI) (mx.map vI)).run P w=.ok (l,hh,m) w) /\
   cv=.slice (if m=l then A else A.map (·.add (l * sz))) (hh - l) (m - l):=by
 obtain ⟨l,hl,hr⟩:∃ l,lo.getD 0=l/\wRQ sz a l hi mx=some v:=⟨_,rfl,by rw [<- wMP];exact hr0⟩
 clear hr0
 unfold wRQ at hr
 split at hr
 ·obtain ⟨hb,hr⟩:=wBJ hr
  cases hr
  simp only [hH] at hb
  obtain ⟨⟨b1,b2⟩,b3⟩:=hb
  have l0:=nA b1
  have hx:x=.slice none 0 0:=hx
  subst hx
  have h2:hi.getD 0=0:=by cases hi with | none=>rfl | some n=>exact nA b2
  have h3:mx.getD 0=0:=by cases mx with | none=>rfl | some n=>exact nA b3
  refine ⟨none,0,0,_,0,0,0,rfl,(rfl:Rv μ .snil _),fun s w=>wEa h3.symm h2.symm (by rw [hl,l0]) (nH _) (nH _) (nH _) hmh w,by simp⟩
 ·rename_i b off n c
  obtain ⟨d,g1,g2,rfl⟩:=hx
  simp only [wMP] at hr
  obtain ⟨hb,hr⟩:=wBJ hr
  cases hr
  simp only [hH,nT] at hb
  obtain ⟨⟨b1,b2⟩,b3⟩:=hb
  refine ⟨_,n,c,_,l,hi.getD n,mx.getD c,rfl,⟨d,g1,by omega,rfl⟩,fun s w=>wEa rfl rfl hl.symm b1 b2 b3 hmh w,?_⟩
  by_cases e:mx.getD c=l
  ·simp [e]
  ·have:nB (mx.getD c) l=false:=by
    cases hq:nB (mx.getD c) l with
    | false=>rfl
    | true=>exact absurd (nA hq) e
   simp [e,this,wEw]
 ·rename_i b eo co n
  obtain ⟨d,g1,g2,rfl⟩:=hx
  simp only [wMP] at hr
  split at hr
  ·obtain ⟨hb,hr⟩:=wBJ hr
   simp only [hH,nT] at hb
   obtain ⟨b1,b2⟩:=hb
   have fin:∀ cv,cv=kf (if d.2 - eo=l then some ⟨d.1,co,none⟩ else (some (⟨d.1,co,none⟩:Addr)).map (·.add (l * sz))) (hi.getD n - l) (d.2 - eo - l)->Rv μ v cv ->
     ∃ A len cap cv l hh m,kf (some ⟨d.1,co,none⟩) n (d.2 - eo)=.slice A len cap/\Rv μ v cv/\(∀ s w,(Instr.sliceBounds s len cap (lo.map vI) (hi.map vI) ((none:Option Nat).map vI)).run P w=.ok (l,hh,m) w) /\
      cv=.slice (if m=l then A else A.map (·.add (l * sz))) (hh - l) (m - l):=fun cv e hv =>
    ⟨_,n,d.2 - eo,cv,l,hi.getD n,d.2 - eo,rfl,hv,fun s w=>wEa rfl rfl hl.symm b1 (by simp only [kh];omega) (nH _) hmh w,e⟩
   split at hr
   ·cases hr
    refine fin _ rfl ⟨d,g1,by omega,?_⟩
    simp [Addr.add]
   ·rename_i l0
    split at hr
    ·rename_i hlt
     cases hr
     have hlt:l < n:=by simpa [nL] using hlt
     refine fin _ rfl ⟨d,g1,by omega,?_⟩
     rw [if_neg (by omega)]
     simp [wEw,Nat.sub_sub]
    ·rename_i hlt
     cases hr
     have hlt:¬ l < n:=by
      intro hq
      have:nu l n=true:=by rw [nL];exact hq
      rw [this] at hlt;cases hlt
     have e1:hi.getD n - l=0:=by omega
     refine fin _ rfl ?_
     rw [e1]
     by_cases e2:d.2 - eo=l
     ·rw [if_pos e2];exact ⟨d,g1,co,by congr 1;omega⟩
     ·rw [if_neg e2];exact ⟨d,g1,co + l * sz,by simp only [kj,wEw];congr 1;omega⟩
  ·rename_i m
   obtain ⟨hb,hr⟩:=wBJ hr
   cases hr
   simp only [hH,nT] at hb
   obtain ⟨⟨b1,b2⟩,b3⟩:=hb
   refine ⟨_,n,d.2 - eo,_,l,hi.getD n,m,rfl,⟨d,g1,by omega,rfl⟩,fun s w=>wEa (mx:=some m) rfl rfl hl.symm b1 b2 (by simp only [ki];omega) hmh w,?_⟩
   by_cases e:m=l
   ·simp [e]
   ·have:nB m l=false:=by
     cases hq:nB m l with
     | false=>rfl
     | true=>exact absurd (nA hq) e
    simp [e,this,wEw]
 ·cases hr
def wPy (P:Program) (sz:Nat) (x:AOd) (lo hi mx:Option AOd):Op->Bool
 | .slice t y l m n=>wEF P t (fun d=>match d with
   | .slice e=>szT P e sz
   | _=>false) && (wBr x y && (wPH lo l && (wPH hi m && (wPH mx n && (!mx.isSome || hi.isSome)))))
 | _=>false
theorem p_slc {sz:Nat} {x:AOd} {lo hi mx:Option AOd} {op:Op} (hc:wPy P sz x lo hi mx op=true):OkP P op (wJh sz x lo hi mx):=by
 intro σA h v h' hr
 unfold wPy at hc
 split at hc
 ·rename_i t y l m n
  simp only [hH] at hc
  obtain ⟨c1,c2,c3,c4,c5,c6⟩:=hc
  obtain ⟨d,d1,d2⟩:=wAk c1
  split at d2
  ·rename_i e
   unfold wJh at hr
   split at hr
   ·rename_i rl rh rm h1 h2 h3
    obtain ⟨hr2,rfl⟩:=wBO hr
    refine ⟨rfl,fun μ σ hE=>?_⟩
    have hmh:rm.isSome=true->rh.isSome=true:=by
     intro hs
     rcases wMy h3 c5 hE with ⟨rfl,_⟩ | ⟨_,z,rfl,rfl,_⟩
     ·cases hs
     ·cases mx with
      | none=>simp [bnd] at h3
      | some _ =>
       cases hi with
       | none=>simp at c6
       | some _ =>
        rcases wMy h2 c4 hE with ⟨rfl,e0⟩ | ⟨_,_,rfl,_⟩
        ·subst e0;simp [wPH] at c4
        ·rfl
    obtain ⟨A,len,cap,cv,ll,hh,mm,e1,e2,e3,e4⟩:=wMz (P:=P) hr2 (wAN c2 hE) hmh
    refine ⟨cv,e2,fun o w ho=>⟨by rw [ho];rfl,?_⟩⟩
    have b1:=wGm h1 c3 hE
    have b2:=wGm h2 c4 hE
    have b3:=wGm h3 c5 hE
    simp [execOp,ho,Instr.sliceAt,Instr.slice,wAn d1,e1,b1,b2,b3,e3,wDe d2,e4]
   ·cases hr
  ·cases d2
 ·cases hc
def wNA (P:Program) (sz n:Nat) (x:AOd) (lo hi:Option AOd):Op->Bool
 | .slice t y l m none=>wEF P t (fun d=>match d with
   | .array k e=>nB k n && szT P e sz
   | _=>false) && (wBr x y && (wPH lo l && wPH hi m))
 | _=>false
theorem wRc {sz n:Nat} {x:AOd} {lo hi:Option AOd} {op:Op} (hc:wNA P sz n x lo hi op=true):OkP P op (wGd sz n x lo hi):=by
 intro σA h v h' hr
 unfold wNA at hc
 split at hc
 ·rename_i t y l m
  simp only [hH] at hc
  obtain ⟨c1,c2,c3,c4⟩:=hc
  obtain ⟨d,d1,d2⟩:=wAk c1
  split at d2
  ·rename_i k e
   simp only [hH] at d2
   have ek:=nA d2.1
   subst ek
   unfold wGd at hr
   split at hr
   ·rename_i rl rh b off h1 h2 hb
    obtain ⟨hr2,rfl⟩:=wBO hr
    refine ⟨rfl,fun μ σ hE=>?_⟩
    have g:=wAN c2 hE;rw [hb] at g
    obtain ⟨c,g1,g2⟩:=g
    obtain ⟨A,len,cap,cv,ll,hh,mm,e1,e2,e3,e4⟩:=wMz (P:=P) (μ:=μ) (x:=.slice (some ⟨c.1,off,none⟩) k k) hr2 ⟨c,g1,nH _,rfl⟩ (by intro hs;cases hs)
    cases e1
    refine ⟨cv,e2,fun o w ho=>⟨by rw [ho];rfl,?_⟩⟩
    have b1:=wGm h1 c3 hE
    have b2:=wGm h2 c4 hE
    have e3':=e3 false
    simp only [Option.map_none] at e3'
    simp [execOp,ho,Instr.sliceAt,wAn d1,g2,Instr.sureAddr,b1,b2,e3',wDe d2.2,e4]
    split <;> simp
   ·cases hr
  ·cases d2
 ·cases hc
end
end
end Go.KX
namespace Go.KX
noncomputable section
open Go.RowKit Go.KL
section
variable {C:Chk} {P:Program} {μ μ':Mu} {w w':World} {h h':AH} {σ:Env} {σA:Tr AV} {t e:TypeId} {o:Oper}
def wIx (place:Nat->Option (Nat × Nat)):List (Nat × Nat × AOd)->List (Nat × Operand)->Bool
 | [],[]=>true
 | (off,n,x) :: ps,(i,y) :: qs=>(match place i with | some (o,s)=>nB o off && nB s n | none=>false) && (wBr x y && wIx place ps qs)
 | _,_=>false
theorem wGn {place:Nat->Option (Nat × Nat)} (hE:EnvR μ σA σ):∀ {ps:List (Nat × Nat × AOd)} {qs:List (Nat × Operand)} {cs r:List AV} {CS:List Value},wIH σA cs ps=some r->wIx place ps qs=true->RvL μ cs CS ->
  ∃ R,lay place CS (qs.map fun (p:Nat × Operand)=>(p.1,ev σ p.2))=some R/\RvL μ r R/\R.length=CS.length
 | [],[],cs,r,CS,hr,_,hl=>by
  simp only [wIH] at hr;cases hr;exact ⟨CS,rfl,hl,rfl⟩
 | (off,n,x) :: ps,(i,y) :: qs,cs,r,CS,hr,hc,hl=>by
  simp only [wIx,hH] at hc
  obtain ⟨c1,c2,c3⟩:=hc
  split at c1
  ·rename_i o s hp
   simp only [hH] at c1
   have e1:=nA c1.1
   have e2:=nA c1.2
   subst e1 e2
   simp only [wIH] at hr
   split at hr
   ·rename_i hn
    have hn:=nA hn
    split at hr
    ·rename_i cs' ho
     obtain ⟨vs,v1,v2⟩:=wGG (wAN c2 hE)
     obtain ⟨g1,g2⟩:=wIK ho hl v1
     have hlen:vs.length=s:=by rw [wCw v1,<- wEQ,hn]
     obtain ⟨R,r1,r2,r3⟩:=wGn hE hr c3 g2
     refine ⟨R,?_,r2,by rw [r3,wBj]⟩
     rw [nI,lay,hp]
     simp only [v2,kc,hlen,beq_self_eq_true,Bool.true_and]
     rw [if_pos (by rw [nT];omega)]
     exact r1
    ·cases hr
   ·cases hr
  ·cases c1
 | [],_ :: _,cs,r,CS,hr,hc,hl=>by simp [wIx] at hc
 | _ :: _,[],cs,r,CS,hr,hc,hl=>by simp [wIx] at hc
def plL (P:Program):List Field->Option (List (Nat × Nat))
 | []=>some []
 | f :: fs=>match P.info? f.type,plL P fs with
  | some i,some l=>some ((f.offset,i.size) :: l)
  | _,_=>none
theorem wRd:∀ {fs:List Field} {pl:List (Nat × Nat)},plL P fs=some pl->wOy P fs.toArray pl:=by
 intro fs pl hp w
 rw [List.mapM_toArray]
 have key:∀ (fs:List Field) (pl:List (Nat × Nat)),plL P fs=some pl->((fs.mapM fun f=>do pure (f.offset,<- sizeOf f.type):Sem (List (Nat × Nat)))).run P w=.ok pl w:=by
  intro fs
  induction fs with
  | nil=>intro pl hp;cases hp;simp
  | cons f fs ih =>
   intro pl hp
   unfold plL at hp
   split at hp
   ·rename_i i l h1 h2
    cases hp
    have hs:(sizeOf f.type).run P w=.ok i.size w:=by simp [sizeOf,typeInfo,h1]
    simp only [List.mapM_cons,Sem.run_bind,hs,Result.andThen_ok,Sem.run_pure,ih l h2]
   ·cases hp
 have:=key fs pl hp
 simp only [Sem.run_map,this,Result.andThen_ok]
def wPz (P:Program) (z:List AV) (ps:List (Nat × Nat × AOd)):Op->Bool
 | .build t qs=>zT P t z && wEF P t (fun d=>match d with
   | .struct fs=>match plL P fs.toList with
    | some pl=>wIx (fun i=>pl[i]?) ps qs.toList
    | none=>false
   | .array _ e=>match P.info? e with
    | some j=>wIx (fun i=>some (i * j.size,j.size)) ps qs.toList
    | none=>false
   | _=>false)
 | _=>false
theorem p_bld {z:List AV} {ps:List (Nat × Nat × AOd)} {op:Op} (hc:wPz P z ps op=true):OkP P op (wMc z ps):=by
 intro σA h v h' hr
 unfold wPz at hc
 split at hc
 ·rename_i t qs
  simp only [hH] at hc
  obtain ⟨c1,c2⟩:=hc
  obtain ⟨hr2,rfl⟩:=wBO hr
  obtain ⟨r,hr3,rfl⟩:=wDY hr2
  obtain ⟨i,zv,z1,z2,z3⟩:=wEv c1
  obtain ⟨d,d1,d2⟩:=wAk c2
  refine ⟨rfl,fun μ σ hE=>?_⟩
  split at d2
  ·rename_i fs
   split at d2
   ·rename_i pl hpl
    obtain ⟨R,r1,r2,_⟩:=wGn hE hr3 d2 (z3 μ)
    refine ⟨_,⟨R,r2,rfl⟩,fun o w ho=>?_⟩
    exact Runs.build (P:=P) (ps:=qs.toList) (z:=zv.cells.toList) ho rfl (wDf z1 z2) ⟨fs,wAn d1,wRd hpl⟩ (by simp) r1
   ·cases d2
  ·rename_i n e
   split at d2
   ·rename_i j hj
    obtain ⟨R,r1,r2,_⟩:=wGn hE hr3 d2 (z3 μ)
    refine ⟨_,⟨R,r2,rfl⟩,fun o w ho=>?_⟩
    exact Runs.buildA (P:=P) (ps:=qs.toList) (z:=zv.cells.toList) ho rfl (wDf z1 z2) (wAn d1) (fun w=>by simp [sizeOf,typeInfo,hj]) (by simp) r1
   ·cases d2
  ·cases d2
 ·cases hc
def wLT (P:Program) (b:Builtin) (x:AOd):Op->Bool
 | .call c=>match c.callee with
  | .builtin b'=>(b' == b) && (match c.args.toList,c.argTypes.toList with
   | [y],[t]=>wEF P t (fun d=>match d with | .slice _=>true | _=>false) && wBr x y
   | _,_=>false)
  | _=>false
 | _=>false
theorem wKf {b:Builtin} {x:AOd} {op:Op} (hc:wLT P b x op=true):∃ y t e,op=.call { callee:=.builtin b,args:=#[y],argTypes:=#[t] }/\P.underlying t=some (.slice e)/\wBr x y=true:=by
 unfold wLT at hc
 split at hc
 ·rename_i c
  obtain ⟨ce,args,tys⟩:=c
  simp only at hc
  split at hc
  ·rename_i b'
   simp only [hH,beq_iff_eq] at hc
   obtain ⟨rfl,h2⟩:=hc
   split at h2
   ·rename_i y t h3 h4
    simp only [hH] at h2
    obtain ⟨d,d1,d2⟩:=wAk h2.1
    cases d <;> first | (cases d2;done) | skip
    refine ⟨y,t,_,?_,d1,h2.2⟩
    congr 2
    ·exact nJ (by simpa using h3)
    ·exact nJ (by simpa using h4)
   ·cases h2
  ·cases hc
 ·cases hc
theorem p_len {x:AOd} {op:Op} (hc:wLT P .len x op=true):OkP P op (wJn x):=by
 intro σA h v h' hr
 obtain ⟨y,t,e,rfl,d1,c2⟩:=wKf hc
 unfold wJn at hr
 split at hr <;> cases hr <;> rename_i hb
 ·refine ⟨rfl,fun μ σ hE=>⟨_,rfl,fun o w ho=>?_⟩⟩
  have g:=wAN c2 hE;rw [hb] at g
  exact Runs.len ho g (wAn d1)
 ·refine ⟨rfl,fun μ σ hE=>⟨_,rfl,fun o w ho=>?_⟩⟩
  have g:=wAN c2 hE;rw [hb] at g
  obtain ⟨c,_,_,g⟩:=g
  exact Runs.len ho g (wAn d1)
 ·refine ⟨rfl,fun μ σ hE=>⟨_,rfl,fun o w ho=>?_⟩⟩
  have g:=wAN c2 hE;rw [hb] at g
  obtain ⟨c,_,_,g⟩:=g
  exact Runs.len ho g (wAn d1)
 ·refine ⟨rfl,fun μ σ hE=>⟨_,rfl,fun o w ho=>?_⟩⟩
  have g:=wAN c2 hE;rw [hb] at g
  obtain ⟨c,_,q,g⟩:=g
  exact Runs.len ho g (wAn d1)
theorem Runs.cap {t e:TypeId} {x:Operand} {a:Option Addr} {n c:Nat} (ho:o.op=.call { callee:=.builtin .cap,args:=#[x],argTypes:=#[t] }) (hx:ev σ x=.slice a n c)
  (ht:∀ w,(underlying t).run P w=.ok (.slice e) w):Runs P σ w o (.int .i64 c) w :=
 ⟨by rw [ho];rfl,by simp [execOp,ho,resolve,invoke,builtin,Builtin.cap_,hx,ht,goInt]⟩
theorem p_cap {x:AOd} {op:Op} (hc:wLT P .cap x op=true):OkP P op (wJo x):=by
 intro σA h v h' hr
 obtain ⟨y,t,e,rfl,d1,c2⟩:=wKf hc
 unfold wJo at hr
 split at hr <;> cases hr <;> rename_i hb
 ·refine ⟨rfl,fun μ σ hE=>⟨_,rfl,fun o w ho=>?_⟩⟩
  have g:=wAN c2 hE;rw [hb] at g
  exact Runs.cap ho g (wAn d1)
 ·refine ⟨rfl,fun μ σ hE=>⟨_,rfl,fun o w ho=>?_⟩⟩
  have g:=wAN c2 hE;rw [hb] at g
  obtain ⟨c,_,_,g⟩:=g
  exact Runs.cap ho g (wAn d1)
def wRB (b:Builtin) (x y:AOd):Op->Bool
 | .call c=>match c.callee with
  | .builtin b'=>(b' == b) && (match c.args.toList with
   | [x',y']=>wBr x x' && wBr y y'
   | _=>false)
  | _=>false
 | _=>false
theorem wNB {b:Builtin} {x y:AOd} {op:Op} (hc:wRB b x y op=true):∃ x' y' tys,op=.call { callee:=.builtin b,args:=#[x',y'],argTypes:=tys }/\wBr x x'=true/\wBr y y'=true:=by
 unfold wRB at hc
 split at hc
 ·rename_i c
  obtain ⟨ce,args,tys⟩:=c
  simp only at hc
  split at hc
  ·rename_i b'
   simp only [hH,beq_iff_eq] at hc
   obtain ⟨rfl,h2⟩:=hc
   split at h2
   ·rename_i x' y' h3
    simp only [hH] at h2
    refine ⟨x',y',tys,?_,h2.1,h2.2⟩
    congr 2
    exact nJ (by simpa using h3)
   ·cases h2
  ·cases hc
 ·cases hc
theorem p_min {x y:AOd} {op:Op} (hc:wRB .min x y op=true):OkP P op (wMd x y):=by
 intro σA h v h' hr
 obtain ⟨x',y',tys,rfl,c1,c2⟩:=wNB hc
 obtain ⟨hr2,rfl⟩:=wBO hr
 split at hr2
 ·rename_i a b e1 e2
  cases hr2
  refine ⟨rfl,fun μ σ hE=>⟨_,rfl,fun o w ho=>?_⟩⟩
  have g1:=wAN c1 hE;rw [e1] at g1
  have g2:=wAN c2 hE;rw [e2] at g2
  refine (Runs.min ho g1 g2).to ?_
  have:(match zlt b a with | true=>b | false=>a)=Min.min a b:=by
   rw [wGj,Int.min_def]
   by_cases hq:b < a
   ·simp [hq,Int.not_le.2 hq]
   ·simp [hq,Int.not_lt.1 hq]
  exact congrArg (nw .i64) this.symm
 ·cases hr2
theorem p_max {x y:AOd} {op:Op} (hc:wRB .max x y op=true):OkP P op (wMe x y):=by
 intro σA h v h' hr
 obtain ⟨x',y',tys,rfl,c1,c2⟩:=wNB hc
 obtain ⟨hr2,rfl⟩:=wBO hr
 split at hr2
 ·rename_i a b e1 e2
  cases hr2
  refine ⟨rfl,fun μ σ hE=>⟨_,rfl,fun o w ho=>?_⟩⟩
  have g1:=wAN c1 hE;rw [e1] at g1
  have g2:=wAN c2 hE;rw [e2] at g2
  refine (Runs.max ho g1 g2).to ?_
  have:(match zlt a b with | true=>b | false=>a)=Max.max a b:=by
   rw [wGj,Int.max_def]
   by_cases hq:a < b
   ·simp [hq,Int.le_of_lt hq]
   ·by_cases hq2:a <= b
    ·have:a=b:=by omega
     simp [this]
    ·simp [hq,hq2]
  exact congrArg (nw .i64) this.symm
 ·cases hr2
def OkL (C:Chk) (P:Program) (op:Op) (f:Tr AV->AH->Option (AV × AH)):Prop :=
 ∀ σA h v h',f σA h=some (v,h')->h'=h/\∀ μ σ w,EnvR μ σA σ->Sim C P μ h w->∃ cv,Rv μ v cv/\∀ (o:Oper),o.op=op->RunsK P σ w o cv
theorem wEb {b:Pos} {l:List AV} (hr:wDX h b=some l) (S:Sim C P μ h w):∃ c vs,μ b=some c/\RvL μ l vs/\∀ w',Keep w w' Non->∀ j v,vs[j]?=some v->w'.cell? ⟨c.1,j,none⟩=some v:=by
 unfold wDX at hr
 split at hr
 ·rename_i B hB
  obtain ⟨c,h1,h2⟩:=S.at_ b B hB
  cases B <;> simp only [wKX] at hr <;> first | (cases hr;done) | cases hr
  ·obtain ⟨vs,h3,h4⟩:=h2
   exact ⟨c,vs,h1,h3,fun w' K j v hv=>(h4.non K).cell hv⟩
  ·obtain ⟨vs,h3,h4⟩:=h2
   refine ⟨c,vs,h1,h3,fun w' K j v hv=>?_⟩
   obtain ⟨cur,g1,g2,g3,g4,g5⟩:=RowAt.cells h4
   have g1':=(K.block _ (wAY g1) id).trans g1
   have:cur.toList[j]?=some v:=by
    rw [<- g5,kY] at hv
    split at hv
    ·exact hv
    ·cases hv
   simp only [World.cell?,g1']
   simpa using this
 ·cases hr
def wRe (P:Program) (x:AOd):Op->Bool
 | .load t y=>wOV P t false && wBr x y
 | _=>false
theorem l_ld {x:AOd} {op:Op} (hc:wRe P x op=true):OkL C P op (wOD x):=by
 intro σA h v h' hr
 unfold wRe at hc
 split at hc
 ·simp only [hH] at hc
  unfold wOD at hr
  split at hr
  ·rename_i b off hb
   split at hr
   ·rename_i l hl
    obtain ⟨hr2,rfl⟩:=wBO hr
    refine ⟨rfl,fun μ σ w hE S=>?_⟩
    obtain ⟨c,vs,h1,h2,h3⟩:=wEb hl S
    have g:=wAN hc.2 hE;rw [hb] at g
    obtain ⟨c',g1,g2⟩:=g
    rw [h1] at g1;cases g1
    rw [wFy] at hr2
    obtain ⟨cv,g3,g4⟩:=wEt h2 hr2
    exact ⟨cv,g4,fun o ho w' K=>Runs.ld ho g2 (wER hc.1) (h3 w' K _ _ g3)⟩
   ·cases hr
  ·cases hr
 ·cases hc
def wNC (P:Program) (n:Nat) (x:AOd):Op->Bool
 | .load t y=>(wOV P t true && szT P t n) && wBr x y
 | _=>false
theorem l_ldA {n:Nat} {x:AOd} {op:Op} (hc:wNC P n x op=true):OkL C P op (wHO n x):=by
 intro σA h v h' hr
 unfold wNC at hc
 split at hc
 ·simp only [hH] at hc
  unfold wHO at hr
  split at hr
  ·rename_i b off hb
   split at hr
   ·rename_i l hl
    obtain ⟨hr2,rfl⟩:=wBO hr
    obtain ⟨r,hr3,rfl⟩:=wDY hr2
    refine ⟨rfl,fun μ σ w hE S=>?_⟩
    obtain ⟨c,vs,h1,h2,h3⟩:=wEb hl S
    have g:=wAN hc.2 hE;rw [hb] at g
    obtain ⟨c',g1,g2⟩:=g
    rw [h1] at g1;cases g1
    obtain ⟨g3,g4⟩:=wEu hr3 h2
    refine ⟨_,⟨_,g3,rfl⟩,fun o ho w' K=>Runs.ldA ho g2 (wER hc.1.1) (wDe hc.1.2) (by simp;omega) fun j u hu=>?_⟩
    exact h3 w' K _ _ (wEM rfl j u hu)
   ·cases hr
  ·cases hr
 ·cases hc
def OkE (C:Chk) (P:Program) (op:Op) (f:Tr AV->AH->Option (AV × AH)):Prop :=
 ∀ σA h v h',f σA h=some (v,h')->∀ μ σ w,EnvR μ σA σ->Sim C P μ h w->∀ (o:Oper),o.op=op->∃ μ' w' cv,Ext μ h.fl.nat w μ' w'/\Sim C P μ' h' w'/\Rv μ' v cv/\h'.fl=h.fl/\Runs P σ w o cv w'
def OkU (C:Chk) (P:Program) (op:Op) (f:Tr AV->AH->Option (AV × AH)):Prop :=
 ∀ σA h v h',f σA h=some (v,h')->∀ μ σ w,EnvR μ σA σ->Sim C P μ h w->∀ (o:Oper),o.op=op->∃ μ' w',Ext μ h.fl.nat w μ' w'/\Sim C P μ' h' w'/\v=u/\h'.fl=h.fl/\Does P σ w o w'
theorem OkP.toL {op:Op} {f:Tr AV->AH->Option (AV × AH)} (hp:OkP P op f):OkL C P op f:=by
 intro σA h v h' hr
 obtain ⟨h1,h2⟩:=hp σA h v h' hr
 exact ⟨h1,fun μ σ w hE _=>let ⟨cv,g1,g2⟩:=h2 μ σ hE;⟨cv,g1,fun o ho w' _=>g2 o w' ho⟩⟩
theorem OkL.toE {op:Op} {f:Tr AV->AH->Option (AV × AH)} (hp:OkL C P op f):OkE C P op f:=by
 intro σA h v h' hr μ σ w hE S o ho
 obtain ⟨rfl,h2⟩:=hp σA h v h' hr
 obtain ⟨cv,g1,g2⟩:=h2 μ σ w hE S
 exact ⟨μ,w,cv,Ext.refl μ _ w,S,g1,rfl,g2 o ho w (Keep.refl w _)⟩
theorem wFU {T:TypeId} {z:List AV} {cs:List Value} (S:Sim C P μ h w) (hz:RvL μ z cs):∃ μ',Ext μ h.fl.nat w μ' (w.alloc (.cells cs.toArray T))/\Sim C P μ' (h.push (.cells T z)) (w.alloc (.cells cs.toArray T))/\(h.push (.cells T z)).fl=h.fl/\μ' h.nx=some ⟨w.heap.size,0,g0⟩:=by
 have hle:=Mu.add_le (c:=⟨w.heap.size,0,g0⟩) (S.nx h.nx (nH _))
 obtain ⟨h1,h2,h3,h4⟩:=S.push (w':=w.alloc (.cells cs.toArray T)) (c:=⟨w.heap.size,0,g0⟩) (B:=.cells T z) (wAw w _) (nH _) (by rw [wHh];exact Nat.lt_succ_self _) ⟨cs,hz.mono hle,wEJ w cs T⟩
 exact ⟨_,h2,h1,h3,h4⟩
def wND (P:Program) (T:Nat) (z:List AV):Op->Bool
 | .alloc t=>nB T t && zT P t z
 | _=>false
theorem e_new {T:Nat} {z:List AV} {op:Op} (hc:wND P T z op=true):OkE C P op (wPd T z):=by
 intro σA h v h' hr μ σ w hE S o ho
 cases hr
 unfold wND at hc
 split at hc
 ·simp only [hH] at hc
  have e:=nA hc.1
  subst e
  obtain ⟨i,zv,z1,z2,z3⟩:=wEv hc.2
  obtain ⟨μ',h1,h2,h3,h4⟩:=wFU (T:=T) S (z3 μ)
  refine ⟨μ',_,_,h1,h2,⟨_,h4,rfl⟩,h3,by rw [ho];rfl,?_⟩
  simp [execOp,ho,Instr.alloc,wDf z1 z2,newVar,newRow,newObj,Sem.run]
 ·cases hc
def wNE (T:Nat) (x:AOd):Op->Bool
 | .box t y=>nB T t && wBr x y
 | _=>false
theorem e_box {T:Nat} {x:AOd} {op:Op} (hc:wNE T x op=true):OkE C P op (wLM T x):=by
 intro σA h v h' hr μ σ w hE S o ho
 cases hr
 unfold wNE at hc
 split at hc
 ·simp only [hH] at hc
  have e:=nA hc.1
  subst e
  obtain ⟨vs,v1,v2⟩:=wGG (wAN hc.2 hE)
  obtain ⟨μ',h1,h2,h3,h4⟩:=wFU (T:=T) S v1
  refine ⟨μ',_,_,h1,h2,⟨_,h4,rfl⟩,h3,by rw [ho];rfl,?_⟩
  simp [execOp,ho,Instr.box,newVar,newRow,newObj,v2,Sem.run]
 ·cases hc
theorem wQA (S:Sim C P μ h w):∃ μ',Ext μ h.fl.nat w μ' (w.alloc (.map #[] 0))/\Sim C P μ' (h.push .map0) (w.alloc (.map #[] 0))/\(h.push .map0).fl=h.fl/\μ' h.nx=some ⟨w.heap.size,0,g0⟩:=by
 obtain ⟨h1,h2,h3,h4⟩:=S.push (w':=w.alloc (.map #[] 0)) (c:=⟨w.heap.size,0,g0⟩) (B:=.map0) (wAw w _) (nH _) (by rw [wHh];exact Nat.lt_succ_self _) ⟨0,heap_alloc_new w _⟩
 exact ⟨_,h2,h1,h3,h4⟩
def wNF:Op->Bool
 | .makeMap _ none=>true
 | _=>false
theorem e_mkm {op:Op} (hc:wNF op=true):OkE C P op wPe:=by
 intro σA h v h' hr μ σ w hE S o ho
 cases hr
 unfold wNF at hc
 split at hc
 ·obtain ⟨μ',h1,h2,h3,h4⟩:=wQA S
  refine ⟨μ',_,_,h1,h2,⟨_,h4,rfl⟩,h3,by rw [ho];rfl,?_⟩
  simp [execOp,ho,Instr.makeMap,newObj,Sem.run,Result.andThen]
 ·cases hc
theorem wEx {zc:Array Value} {n:Nat}:∀ c,((na (c * zc.size)).map (zc[· % zc.size]!)).toList=(nG c zc.toList).flatten \/ False:=by
 intro c
 left
 induction c with
 | zero=>simp
 | succ c ih =>
  rw [kg,Array.toList_range] at ih ⊢
  rw [Nat.succ_mul,List.range_add,List.map_append,ih,List.replicate_succ',List.flatten_append]
  congr 1
  simp only [List.map_map,List.flatten_singleton]
  apply List.ext_getElem
  ·simp
  ·intro i h1 h2
   simp at h1
   simp [Nat.add_mul_mod_self_right,Nat.mod_eq_of_lt h1,Nat.add_comm (c * zc.size) i,h1]
def wNG (P:Program) (T sz by_:Nat) (z:List AV) (x y:AOd):Op->Bool
 | .makeSlice t x' y'=>wEF P t (fun d=>match d with | .slice e=>nB e T | _=>false) && (szT P T sz && (byT P T by_ && (zT P T z && (nB (len z) sz && (wBr x x' && wBr y y')))))
 | _=>false
theorem e_mks {T sz by_:Nat} {z:List AV} {x y:AOd} {op:Op} (hc:wNG P T sz by_ z x y op=true):OkE C P op (wGc T sz by_ z x y):=by
 intro σA h v h' hr μ σ w hE S o ho
 unfold wNG at hc
 split at hc
 ·rename_i t x' y'
  simp only [hH] at hc
  obtain ⟨c1,c2,c3,c4,c5,c6,c7⟩:=hc
  obtain ⟨d,d1,d2⟩:=wAk c1
  split at d2 <;> first | (cases d2;done) | skip
  have e:=nA d2
  subst e
  rename_i e
  obtain ⟨i,i1,i2⟩:=wGI c2
  obtain ⟨i',j1,j2⟩:=wGJ c3
  obtain ⟨i'',zv,k1,k2,k3⟩:=wEv c4
  rw [i1] at j1 k1;cases j1;cases k1
  have hz:=nA c5
  unfold wGc at hr
  split at hr
  ·rename_i l c hl hcc
   obtain ⟨hb,hr⟩:=wBJ hr
   cases hr
   simp only [hH,nT] at hb
   obtain ⟨⟨⟨b1,b2⟩,b3⟩,b4⟩:=hb
   have hx:=wAN c6 hE;rw [wBq hl] at hx
   have hy:=wAN c7 hE;rw [wBq hcc] at hy
   have hx:ev σ x'=.int .i64 (l:Int):=hx
   have hy:ev σ y'=.int .i64 (c:Int):=hy
   have zlen:zv.cells.size=sz:=by rw [<- hz,wEQ,<- wCw (k3 μ)];simp
   have hrun:=run_makeSlice (P:=P) w t e i zv d1 i1 k2 .i64 .i64 (l:Int) (c:Int) (by omega) (by omega) (by rw [i2,nq];exact b2) (by rw [j2];have hb:=Int.ofNat_le.2 b3;rw [Int.natCast_mul] at hb;exact hb) (by omega)
   simp only [nq,i2] at hrun
   have hcells:(madeCells zv.cells (c * sz))=((nG c zv.cells.toList).flatten).toArray:=by
    apply nJ
    have:=wEx (zc:=zv.cells) (n:=0) c
    simp only [or_false] at this
    rw [zlen] at this
    show ((na (c * sz)).map (zv.cells[· % zv.cells.size]!)).toList=_
    rw [zlen,this]
   rw [hcells] at hrun
   obtain ⟨μ',h1,h2,h3,h4⟩:=wFU (T:=e) S (wGi (k3 μ) c)
   refine ⟨μ',_,_,h1,h2,⟨_,h4,b1,rfl⟩,h3,by rw [ho];rfl,?_⟩
   simp [execOp,ho,hx,hy,hrun,Result.andThen]
  ·cases hr
 ·cases hc
def wIy (P:Program) (T n:Nat) (z:List AV) (ps:List (Nat × Nat × AOd)):Op->Bool
 | .buildSlice t m qs=>nB m n && (wEF P t (fun d=>match d with | .slice e=>nB e T | _=>false) && (match P.info? T with
   | some i=>Nat.ble (n * i.size) 16777216 && (wIx (fun k=>some (k * i.size,i.size)) ps qs.toList && (match i.zero with
    | some v=>wOU z ((kl (n * i.size)).map fun k=>v.cells[k % v.cells.size]!)
    | none=>false))
   | none=>false))
 | _=>false
theorem wRf {T n:Nat} {z:List AV} {ps:List (Nat × Nat × AOd)} {op:Op} (hc:wIy P T n z ps op=true):OkE C P op (wEO T n z ps):=by
 intro σA h v h' hr μ σ w hE S o ho
 unfold wIy at hc
 split at hc
 ·rename_i t m qs
  simp only [hH] at hc
  obtain ⟨c1,c2,c3⟩:=hc
  have e:=nA c1
  subst e
  obtain ⟨d,d1,d2⟩:=wAk c2
  split at d2 <;> first | (cases d2;done) | skip
  have e:=nA d2
  subst e
  rename_i e
  split at c3
  ·rename_i i hi
   simp only [hH,nT] at c3
   obtain ⟨c3,c4,c5⟩:=c3
   split at c5
   ·rename_i zv hz
    unfold wEO at hr
    split at hr
    ·rename_i r hr3
     cases hr
     obtain ⟨R,r1,r2,r3⟩:=wGn hE hr3 c4 (wFl μ c5)
     have hf:=wDW _ _ _ _ r1
     obtain ⟨μ',h1,h2,h3,h4⟩:=wFU (T:=e) S r2
     refine ⟨μ',_,_,h1,h2,⟨_,h4,nH _,rfl⟩,h3,by rw [ho];rfl,?_⟩
     have hs:∀ w,(sizeOf e).run P w=.ok i.size w:=fun w=>by simp [sizeOf,typeInfo,hi]
     have hn':¬ m * i.size > 2 ^ 24:=by omega
     have hq:(qs.map fun (p:Nat × Operand)=>(p.1,ev σ p.2)).toList=qs.toList.map fun (p:Nat × Operand)=>(p.1,ev σ p.2):=by simp
     by_cases h0:m * i.size=0
     ·rw [h0] at hf
      simp only [List.range_zero,kE] at hf
      have hr0:(na 0).map (fun x=>(#[]:Array Value)[x % (#[]:Array Value).size]!)=#[]:=by rw [show (na 0)=#[] from rfl,Array.map_empty]
      have hn0:¬ (0:Nat) > 2 ^ 24:=by decide
      simp only [execOp,ho,Instr.buildSlice,Sem.run_bind,wAn d1,hs,Result.andThen_ok,h0,if_neg hn0,if_true,Sem.run_pure,hq,hr0,hf]
      simp [newRow,newObj,Sem.run,Result.andThen]
     ·have hzs:(na (m * i.size)).map (zv.cells[· % zv.cells.size]!)=((kl (m * i.size)).map fun k=>zv.cells[k % zv.cells.size]!).toArray:=by rw [<- kZ,List.map_toArray]
      simp only [execOp,ho,Instr.buildSlice,Sem.run_bind,wAn d1,hs,wDf hi hz,Result.andThen_ok,if_neg hn',if_neg h0,Sem.run_pure,hq,hzs,hf]
      simp [newRow,newObj,Sem.run,Result.andThen]
    ·cases hr
   ·cases c5
  ·cases c3
 ·cases hc
end
end
end Go.KX
namespace Go.KX
noncomputable section
open Go.RowKit Go.KL
section
variable {C:Chk} {P:Program} {μ μ':Mu} {w w':World} {h h':AH} {σ:Env} {σA:Tr AV} {t e:TypeId} {o:Oper}
theorem wFV {b:Pos} {off:Nat} {vs:List AV} {VS:List Value} {c:Cl} (hr:setAt h b off vs=some h') (S:Sim C P μ h w) (hv:RvL μ vs VS) (h1:∀ v ∈ VS,one v=true) (hc:μ b=some c) :
  ∃ w',(storeCells ⟨c.1,off,none⟩ VS).run P w=.ok () w'/\Sim C P μ h' w'/\Ext μ h.fl.nat w μ w'/\h'.fl=h.fl:=by
 unfold setAt at hr
 split at hr
 ·rename_i T l hB
  split at hr
  ·rename_i l' hl
   obtain ⟨c',g1,vs0,g2,g3⟩:=S.at_ b _ hB
   rw [hc] at g1;cases g1
   obtain ⟨k1,k2⟩:=wIK hl g2 hv
   obtain ⟨w',q1,q2,q3,q4⟩:=wCR (P:=P) off VS 0 vs0 w g3 k1 h1
   obtain ⟨s1,s2,s3⟩:=S.put hr hB trivial hc q3 (B':=.cells T l') ⟨_,k2,q2⟩
   exact ⟨w',q1,s1,s2,s3⟩
  ·cases hr
 ·rename_i T sz l hB
  split at hr
  ·rename_i l' hl
   obtain ⟨c',g1,vs0,g2,g3⟩:=S.at_ b _ hB
   rw [hc] at g1;cases g1
   obtain ⟨k1,k2⟩:=wIK hl g2 hv
   obtain ⟨cur,r1,r2,r3,r4,r5⟩:=RowAt.cells g3
   have hB':Blk w c.1 T cur.toList:=by unfold Blk;rw [r1]
   have hcl:vs0.length <= cur.toList.length:=by rw [<- r5];simp;omega
   obtain ⟨w',q1,q2,q3,q4⟩:=wCR (P:=P) off VS 0 cur.toList w hB' (by omega) h1
   obtain ⟨s1,s2,s3⟩:=S.put hr hB trivial hc q3 (B':=.row T sz l') ⟨_,k2,.inr ⟨c.1,(wDm cur.toList (off + 0) VS).toArray,rfl,q2,by rw [wBj];exact r2,r3,by simp [wBj,r4],by
    rw [wBj,Nat.add_zero]
    show (wDm cur.toList off VS).take vs0.length=_
    rw [wGV _ _ _ _ k1,r5]⟩⟩
   exact ⟨w',q1,s1,s2,s3⟩
  ·cases hr
 ·cases hr
def c_st (P:Program) (n:Nat) (x y:AOd):Op->Bool
 | .store t x' y'=>szT P t n && (wBr x x' && wBr y y')
 | _=>false
theorem u_st {n:Nat} {x y:AOd} {op:Op} (hc:c_st P n x y op=true):OkU C P op (wOz n x y):=by
 intro σA h v h' hr μ σ w hE S o ho
 unfold c_st at hc
 split at hc
 ·rename_i t x' y'
  simp only [hH] at hc
  obtain ⟨c1,c2,c3⟩:=hc
  unfold wOz at hr
  split at hr
  ·rename_i b off hb
   split at hr
   ·rename_i hk
    simp only [hH] at hk
    split at hr
    ·rename_i h1 hs
     cases hr
     have g:=wAN c2 hE;rw [hb] at g
     obtain ⟨c,g1,g2⟩:=g
     obtain ⟨VS,v1,v2⟩:=wGG (wAN c3 hE)
     obtain ⟨w',q1,q2,q3,q4⟩:=wFV hs S v1 (wDw v1 hk.2) g1
     have hn:=nA hk.1
     have hlen:VS.length=n:=by rw [wCw v1,<- wEQ,hn]
     refine ⟨μ,w',q3,q2,rfl,q4,by rw [ho];rfl,?_⟩
     simp [execOp,ho,Instr.storeAt,g2,Instr.sureAddr,storeVar,v2,wDe c1,hlen,q1]
    ·cases hr
   ·cases hr
  ·cases hr
 ·cases hc
theorem wIN {sz m:Nat} {a:AV} {l:List AV} {y:Value} (hr:slice h sz a=some (m,l)) (S:Sim C P μ h w) (hy:Rv μ a y) :
  ∃ A c VS,y=.slice A m c/\RvL μ l VS/\VS.length=m * sz/\(m=0 \/ ∃ ad,A=some ad/\∀ j u,VS[j]?=some u->w.cell? (ad.add j)=some u):=by
 have key:∀ (b:Pos) (off m:Nat) (c:Cl) (l0 r:List AV),μ b=some c->wDX h b=some l0->sub l0 off (m * sz)=some r->∃ VS,RvL μ r VS/\VS.length=m * sz/\∀ j u,VS[j]?=some u->w.cell? ((⟨c.1,off,none⟩:Addr).add j)=some u:=by
  intro b off m c l0 r hc hl hs
  obtain ⟨c',vs,h1,h2,h3⟩:=wEb hl S
  rw [hc] at h1;cases h1
  obtain ⟨g1,g2⟩:=wEu hs h2
  exact ⟨_,g1,by simp;omega,fun j u hu=>by rw [wEw];exact h3 w (Keep.refl w _) _ _ (wEM rfl j u hu)⟩
 unfold slice at hr
 split at hr
 ·cases hr
  have hy:y=.slice none 0 0:=hy
  exact ⟨none,0,[],hy,rfl,by simp,.inl rfl⟩
 ·cases hr
  obtain ⟨d,_,q,rfl⟩:=hy
  exact ⟨_,_,[],rfl,rfl,by simp,.inl rfl⟩
 ·split at hr
  ·rename_i l0 hl
   split at hr
   ·rename_i r hs
    cases hr
    obtain ⟨d,h1,_,rfl⟩:=hy
    obtain ⟨VS,v1,v2,v3⟩:=key _ _ _ _ _ _ h1 hl hs
    exact ⟨_,_,VS,rfl,v1,v2,.inr ⟨_,rfl,v3⟩⟩
   ·cases hr
  ·cases hr
 ·split at hr
  ·rename_i l0 hl
   split at hr
   ·rename_i r hs
    cases hr
    obtain ⟨d,h1,_,rfl⟩:=hy
    obtain ⟨VS,v1,v2,v3⟩:=key _ _ _ _ _ _ h1 hl hs
    exact ⟨_,_,VS,rfl,v1,v2,.inr ⟨_,rfl,v3⟩⟩
   ·cases hr
  ·cases hr
 ·cases hr
theorem wGo {A A2:Option Addr} {n c c2 ty:Nat} {inf:TypeInfo} (ht:P.underlying t=some (.slice e)) (hi:P.info? e=some inf) (hnc:n <= c):(Builtin.append_ #[t,t] ty #[.slice A n c,.slice A2 0 c2]).run P w=.ok (.slice A n c) w:=by
 have hs:∀ w,(sizeOf e).run P w=.ok inf.size w:=fun w=>by simp [sizeOf,typeInfo,hi]
 cases A <;> cases A2 <;> simp [Builtin.append_,wAn ht,hs,Builtin.lenOf,Builtin.firstCells,hnc,storeCells,loadCells,loadCellsFrom]
theorem wNH {T sz c:Nat} {l:List AV} {cs:List Value} {cur:Array Value} (S:Sim C P μ h w) (K:Keep w w' Non) (hl:RvL μ l cs) (hn:w'.heap[w.heap.size]?=some (.cells cur T (0,0))) (h1:cs.length <= c * sz) (h2:c <= maxLen) (h3:cur.size=c * sz) (h4:cur.toList.take cs.length=cs) :
  ∃ μ',Ext μ h.fl.nat w μ' w'/\Sim C P μ' (h.push (.row T sz l)) w'/\(h.push (.row T sz l)).fl=h.fl/\μ' h.nx=some ⟨w.heap.size,c,g0⟩:=by
 have hle:=Mu.add_le (c:=⟨w.heap.size,c,g0⟩) (S.nx h.nx (nH _))
 obtain ⟨q1,q2,q3,q4⟩:=S.push (w':=w') (c:=⟨w.heap.size,c,g0⟩) (B:=.row T sz l) K (nH _) (wAY hn) ⟨cs,hl.mono hle,.inr ⟨_,cur,rfl,hn,h1,h2,h3,h4⟩⟩
 exact ⟨_,q2,q1,q3,q4⟩
def wOY (P:Program) (T sz by_:Nat) (x y:AOd):Op->Bool
 | .call c=>match c.callee with
  | .builtin b=>(b == .append) && (match c.args.toList,c.argTypes.toList with
   | [x',y'],[t,t']=>nB t t' && (wEF P t (fun d=>match d with | .slice e=>nB e T | _=>false) && (wBr x x' && (wBr y y' && (szT P T sz && (byT P T by_ && (match P.info? T with
    | some i=>match i.zero with | some v=>nB v.cells.size sz && (nu 0 sz && nu 0 by_) | none=>false
    | none=>false))))))
   | _,_=>false)
  | _=>false
 | _=>false
theorem wOZ {T sz by_:Nat} {x y:AOd} {op:Op} (hc:wOY P T sz by_ x y op=true) :
  ∃ x' y' t i z,op=.call { callee:=.builtin .append,args:=#[x',y'],argTypes:=#[t,t] }/\P.underlying t=some (.slice T)/\wBr x x'=true/\wBr y y'=true/\P.info? T=some i/\i.zero=some z/\i.size=sz/\i.bytes=by_/\z.cells.size=sz/\0 < sz/\0 < by_:=by
 unfold wOY at hc
 split at hc
 ·rename_i c
  obtain ⟨ce,args,tys⟩:=c
  simp only at hc
  split at hc
  ·rename_i b
   simp only [hH,beq_iff_eq] at hc
   obtain ⟨rfl,h2⟩:=hc
   split at h2
   ·rename_i x' y' t t' h3 h4
    simp only [hH] at h2
    obtain ⟨a1,a2,a3,a4,a5,a6,a7⟩:=h2
    have e:=nA a1
    subst e
    obtain ⟨d,d1,d2⟩:=wAk a2
    split at d2 <;> first | (cases d2;done) | skip
    have e:=nA d2
    subst e
    obtain ⟨i,i1,i2⟩:=wGI a5
    obtain ⟨j,j1,j2⟩:=wGJ a6
    rw [i1] at j1;cases j1
    rw [i1] at a7
    simp only at a7
    split at a7
    ·rename_i z hz
     simp only [hH,nL] at a7
     refine ⟨x',y',t,i,z,?_,d1,a3,a4,i1,hz,i2,j2,nA a7.1,a7.2.1,a7.2.2⟩
     congr 2
     ·exact nJ (by simpa using h3)
     ·exact nJ (by simpa using h4)
    ·cases a7
   ·cases h2
  ·cases hc
 ·cases hc
theorem wRg (v:Value) (h1:one v=true):v.oneCell'=true:=by cases v <;> first | rfl | cases h1
theorem e_app {T sz by_:Nat} {x y:AOd} {op:Op} (hc:wOY P T sz by_ x y op=true):OkE C P op (wIn T sz by_ x y):=by
 intro σA h v h' hr μ σ w hE S o ho
 obtain ⟨x',y',t,i,z,rfl,ht,c1,c2,hi,hz,i2,j2,hzs,hsz,hby⟩:=wOZ hc
 unfold wIn at hr
 split at hr
 ·rename_i m news hs
  obtain ⟨hones,hr'⟩:=wBJ hr
  clear hr;have hr:=hr';clear hr'
  obtain ⟨A2,cc2,NS,e2,n1,n2,n3⟩:=wIN hs S (wAN c2 hE)
  have hx:=wAN c1 hE
  have h1:∀ u ∈ NS,u.oneCell'=true:=fun u hu=>wRg u (wDw n1 hones u hu)
  have fin:∀ {μ':Mu} {w':World} {cv:Value},Ext μ h.fl.nat w μ' w'->Sim C P μ' h' w'->Rv μ' v cv->h'.fl=h.fl->(Builtin.append_ #[t,t] o.type #[ev σ x',ev σ y']).run P w=.ok cv w' ->
    ∃ μ' w' cv,Ext μ h.fl.nat w μ' w'/\Sim C P μ' h' w'/\Rv μ' v cv/\h'.fl=h.fl/\Runs P σ w o cv w':=fun a b c d f =>
   ⟨_,_,_,a,b,c,d,by rw [ho];rfl,by simp [execOp,ho,resolve,invoke,builtin,f]⟩
  unfold app at hr
  split at hr
  ·have zero:∀ {A:Option Addr} {n c:Nat},ev σ x'=.slice A n c->n <= c->Rv μ v (.slice A n c)->h'=h->∃ μ' w' cv,Ext μ h.fl.nat w μ' w'/\Sim C P μ' h' w'/\Rv μ' v cv/\h'.fl=h.fl/\Runs P σ w o cv w':=by
    intro A n c hA hnc hv hh
    subst hh
    exact fin (Ext.refl μ _ w) S hv rfl (by rw [hA,e2];exact wGo ht hi hnc)
   split at hr <;> cases hr <;> rename_i hb <;> rw [hb] at hx
   ·have g:ev σ x'=.slice none 0 0:=hx
    exact zero g (nH _) rfl rfl
   ·obtain ⟨d,g1,g2,g3⟩:=hx
    exact zero g3 g2 ⟨d,g1,g2,rfl⟩ rfl
   ·obtain ⟨d,g1,g2,g3⟩:=hx
    exact zero g3 (by omega) ⟨d,g1,g2,rfl⟩ rfl
  ·rename_i m
   obtain ⟨ad,rfl,hcell⟩:∃ ad,A2=some ad/\∀ j u,NS[j]?=some u->w.cell? (ad.add j)=some u:=by
    rcases n3 with h0 | h0
    ·cases h0
    ·exact h0
   have maxb:(140737488355328:Nat) <= maxLen:=by decide
   have lenb:∀ n:Nat,n * by_ <= 140737488355328->n <= 140737488355328:=fun n hn=>nU (kH _ hby) hn
   split at hr
   ·rename_i hb
    rw [hb] at hx
    have hx:ev σ x'=.slice none 0 0:=hx
    obtain ⟨hble,hr'⟩:=wBJ hr
    clear hr;have hr:=hr';clear hr'
    cases hr
    have hble:=nO hble
    obtain ⟨A',c',w',r1,r2,r3,r4⟩:=wDB (P:=P) (w:=w) (A:=none) (c:=0) (n:=0) (cs:=[]) (ty:=o.type) (c2:=cc2) ht hi hz i2 hzs hsz (.inl ⟨rfl,rfl,rfl⟩) (by simp) n2 (.inr ⟨ad,rfl,hcell⟩) h1 (by rw [j2,Nat.zero_add];exact hble) (by omega)
    rcases r2 with ⟨_,_,q⟩ | ⟨b,cur,rfl,q1,q2,q3,q4,q5⟩
    ·exfalso
     have:([] ++ NS).length=0:=by rw [q];rfl
     rw [List.nil_append,n2] at this
     have:=Nat.mul_pos (Nat.succ_pos m) hsz
     omega
    ·have hb:w.heap.size <= b:=by
      rcases r4 b rfl with q | q
      ·cases q
      ·exact q
     have K:Keep w w' Non:=r3.weak fun i _ q=>by cases q
     rw [List.nil_append] at q2 q5
     have hle:=Mu.add_le (c:=⟨b,c',g0⟩) (S.nx h.nx (nH _))
     obtain ⟨s1,s2,s3,s4⟩:=S.push (w':=w') (c:=⟨b,c',g0⟩) (B:=.row T sz news) K hb (wAY q1) ⟨NS,n1.mono hle,.inr ⟨_,cur,rfl,q1,q2,q3,q4,q5⟩⟩
     refine fin s2 s1 ⟨_,s4,?_,?_⟩ s3 (by rw [hx,e2];exact r1)
     ·rw [n2] at q2
      have:=nl q2 hsz
      simpa using this
     ·simp
   ·rename_i b off n c hb
    rw [hb] at hx
    obtain ⟨d,g1,g2,g3⟩:=hx
    split at hr
    ·rename_i hle
     have hle:=nO hle
     split at hr
     ·rename_i h1' hset
      cases hr
      obtain ⟨w',q1,q2,q3,q4⟩:=wFV hset S n1 (wDw n1 hones) g1
      refine fin q3 q2 ⟨d,g1,hle,rfl⟩ q4 ?_
      rw [g3,e2]
      have hf:=run_firstCells_some (P:=P) w i.size (m + 1) ad (m + 1) cc2 NS (by rw [i2];exact n2) hcell
      rw [i2] at hf
      simp [Builtin.append_,wAn ht,sizeOf,typeInfo,hi,Builtin.lenOf,hle,hf,wEw,i2,q1]
     ·cases hr
    ·rename_i hlt
     obtain ⟨hble,hr'⟩:=wBJ hr
     clear hr;have hr:=hr';clear hr'
     have hble:=nO hble
     split at hr
     ·rename_i nn olds hold
      cases hr
      have hgt:c < n + (m + 1):=by
       rcases np c (n + (m + 1)) with q | q
       ·exact q
       ·have q':Nat.ble (n + (m + 1)) c=true:=by rw [nT];exact q
        rw [q'] at hlt;cases hlt
      obtain ⟨A1,cc1,OS,k1,k2,k3,k4⟩:=wIN hold S (show Rv μ (.sl b off n c) _ from ⟨d,g1,g2,rfl⟩)
      cases k1
      have hlen:=lenb _ hble
      have olds':∀ j v,OS[j]?=some v->w.cell? ((⟨d.1,off,none⟩:Addr).add j)=some v:=by
       rcases k4 with q | ⟨ad',q1,q2⟩
       ·intro j v hv
        have hnil:OS=[]:=ni (by rw [k3,q];simp)
        rw [hnil] at hv
        simp at hv
       ·cases q1;exact q2
      have hr:=run_append_grow (P:=P) w t o.type T i z ht hi hz ⟨d.1,off,none⟩ n c OS (by rw [i2];exact k3) olds' ad (m + 1) cc2 NS (by rw [i2];exact n2) hcell hgt (by omega) (growslice_fits hgt (by rw [j2];exact hble))
      have hge:=grownCap_ge w (n + (m + 1)) c T
      have hcm:grownCap w (n + (m + 1)) c T <= maxLen:=grownCap_le_maxLen w (n + (m + 1)) c T (by omega)
      have hlen2:(OS ++ NS).length=(n + (m + 1)) * sz:=by rw [ny,k3,n2,kM]
      obtain ⟨μ',s1,s2,s3,s4⟩:=wNH (T:=T) (sz:=sz) (c:=grownCap w (n + (m + 1)) c T) (w':=w.drew.alloc (.cells (OS.toArray ++ NS.toArray ++ Builtin.zeroCells z.cells (grownCap w (n + (m + 1)) c T - (n + (m + 1)))) T)) (cur:=OS.toArray ++ NS.toArray ++ Builtin.zeroCells z.cells (grownCap w (n + (m + 1)) c T - (n + (m + 1)))) S
       ((Keep.drew w).non (wAw w.drew _)) (wDv k2 n1) (heap_alloc_new w.drew _) (by rw [hlen2];exact kR _ hge) hcm
       (by
        simp only [ke,kc,size_zeroCells,hzs,k3,n2,<- kM]
        congr 1
        omega)
       (by simp only [kU,kB];rw [<- kB];exact List.take_left)
      refine fin s1 s2 ⟨_,s4,?_,?_⟩ s3 (by rw [g3,e2];exact hr)
      ·simpa using hge
      ·simp
     ·cases hr
   ·rename_i b eo co n hb
    rw [hb] at hx
    obtain ⟨d,g1,g2,g3⟩:=hx
    split at hr
    ·rename_i T' sz' l hB
     split at hr
     ·rename_i hin
      simp only [hH] at hin
      obtain ⟨p1,p2,p3,p4⟩:=hin
      have p1:=nO p1
      have p2:=nA p2
      have p3:=nA p3
      have p4:=nA p4
      subst p2 p3 p4
      split at hr
      ·rename_i h1' hset
       cases hr
       obtain ⟨d',k1,OS,k2,k3⟩:=S.at_ b _ hB
       rw [g1] at k1;cases k1
       obtain ⟨cur,r1,r2,_⟩:=RowAt.cells k3
       have hle:n + (m + 1) <= d.2:=by
        rw [wEQ,<- wCw k2] at p1
        exact nl (nU p1 r2) hsz
       obtain ⟨w',q1,q2,q3,q4⟩:=wFV hset S n1 (wDw n1 hones) g1
       refine fin q3 q2 ⟨d,g1,by omega,rfl⟩ q4 ?_
       rw [g3,e2]
       have hf:=run_firstCells_some (P:=P) w i.size (m + 1) ad (m + 1) cc2 NS (by rw [i2];exact n2) hcell
       rw [i2] at hf
       simp [Builtin.append_,wAn ht,sizeOf,typeInfo,hi,Builtin.lenOf,hle,hf,wEw,i2,q1]
      ·cases hr
     obtain ⟨hcond,hr'⟩:=wBJ hr
     clear hr;have hr:=hr';clear hr'
     simp only [hH] at hcond
     obtain ⟨⟨⟨⟨⟨q1,q2⟩,q3⟩,q4⟩,q5⟩,q6⟩:=hcond
     have q1:=nA q1
     have q2:=nA q2
     have q3:=nA q3
     have q4:=nA q4
     have q5:=nA q5
     have hble:=nO q6
     subst q1 q2 q3 q4
     split at hr
     ·rename_i h1' hput
      cases hr
      obtain ⟨d',k1,OS,k2,k3⟩:=S.at_ b _ hB
      rw [g1] at k1;cases k1
      have hol:OS.length=n * sz:=by rw [wCw k2,<- wEQ,<- q5]
      obtain ⟨A',c',w',r1,r2,r3,r4⟩:=wDB (P:=P) (w:=w) (A:=some ⟨d.1,0,none⟩) (c:=d.2) (n:=n) (cs:=OS) (ty:=o.type) (c2:=cc2) ht hi hz i2 hzs hsz k3 hol n2 (.inr ⟨ad,rfl,hcell⟩) h1 (by rw [j2];exact hble) (by omega)
      rcases r2 with ⟨_,_,q⟩ | ⟨b',cur,rfl,p1,p2,p3,p4,p5⟩
      ·exfalso
       have:(OS ++ NS).length=0:=by rw [q];rfl
       rw [ny,n2] at this
       have:=Nat.mul_pos (Nat.succ_pos m) hsz
       omega
      ·have hb':b'=d.1 \/ w.heap.size <= b':=by
        rcases r4 b' rfl with q | q
        ·cases q;exact .inl rfl
        ·exact .inr q
       have K:Keep w w' (·=d.1):=r3.weak fun i _ q=>by cases q;rfl
       have hle:=Mu.add_le (c:=⟨b',c',g0⟩) (S.nx h.nx (nH _))
       have hnx:h.nx=h.nx:=rfl
       obtain ⟨s1,s2,s3,s4⟩:=S.move (w':=w') (d:=⟨b',c',g0⟩) (B':=.row T sz (l ++ news)) hput hB trivial g1 K hb' (wAY p1) ⟨OS ++ NS,(wDv k2 n1).mono hle,.inr ⟨_,cur,rfl,p1,p2,p3,p4,p5⟩⟩
       refine fin s2 s1 ⟨_,s4,?_,?_⟩ s3 (by rw [g3,e2];simpa using r1)
       ·rw [ny,hol,n2,<- kM] at p2
        have:=nl p2 hsz
        simpa using this
       ·simp
     ·cases hr
    ·cases hr
   ·cases hr
 ·cases hr
def wQB (P:Program) (sz:Nat) (x y:AOd):Op->Bool
 | .call c=>match c.callee with
  | .builtin b=>(b == .copy) && (match c.args.toList,c.argTypes.toList with
   | [x',y'],t :: _=>wEF P t (fun d=>match d with | .slice e=>szT P e sz | _=>false) && (wBr x x' && wBr y y')
   | _,_=>false)
  | _=>false
 | _=>false
theorem e_cpy {sz:Nat} {x y:AOd} {op:Op} (hc:wQB P sz x y op=true):OkE C P op (wIo sz x y):=by
 intro σA h v h' hr μ σ w hE S o ho
 unfold wQB at hc
 split at hc
 ·rename_i c
  obtain ⟨ce,args,tys⟩:=c
  simp only at hc
  split at hc
  ·rename_i b
   simp only [hH,beq_iff_eq] at hc
   obtain ⟨rfl,h2⟩:=hc
   split at h2
   ·rename_i x' y' t ts h3 h4
    simp only [hH] at h2
    obtain ⟨a1,a2,a3⟩:=h2
    obtain ⟨d,d1,d2⟩:=wAk a1
    split at d2 <;> first | (cases d2;done) | skip
    rename_i e
    have ea:args=#[x',y']:=nJ (by simpa using h3)
    have et:tys[0]?=some t:=by rw [<- kP,h4];rfl
    unfold wIo at hr
    split at hr
    ·rename_i b off n cc m news hx hs
     split at hr
     ·rename_i vs hsub
      obtain ⟨hones,hr'⟩:=wBJ hr
      clear hr;have hr:=hr';clear hr'
      split at hr
      ·rename_i h1' hset
       cases hr
       have g:=wAN a2 hE;rw [hx] at g
       obtain ⟨c0,g1,_,g3⟩:=g
       obtain ⟨A2,cc2,NS,e2,n1,n2,n3⟩:=wIN hs S (wAN a3 hE)
       generalize hk:(if Nat.ble m n=true then m else n)=k at hsub ⊢
       have hmin:Nat.min m n=k:=by
        rw [<- hk]
        by_cases q:m <= n
        ·rw [if_pos (by rw [nT];exact q)];exact Nat.min_eq_left q
        ·rw [if_neg (by rw [nT];exact q)];exact Nat.min_eq_right (by omega)
       obtain ⟨k1,k2⟩:=wEu hsub n1
       rw [List.drop_zero] at k1
       obtain ⟨w',q1,q2,q3,q4⟩:=wFV hset S k1 (wDw k1 hones) g1
       refine ⟨μ,w',_,q3,q2,rfl,q4,by rw [ho];rfl,?_⟩
       have hf:∀ (w1:World),w1=w->(Builtin.firstCells sz k (.slice A2 m cc2)).run P w1=.ok (NS.take (k * sz)).toArray w1:=by
        intro w1 hw1
        subst hw1
        cases A2 with
        | none =>
         have hm:m=0:=by
          rcases n3 with q | ⟨_,q,_⟩
          ·exact q
          ·cases q
         have hN:NS=[]:=ni (by rw [n2,hm];simp)
         subst hN
         simp [Builtin.firstCells]
        | some ad =>
         have hcell:∀ j u,(NS.take (k * sz))[j]?=some u->w1.cell? (ad.add j)=some u:=by
          intro j u hu
          rw [kY] at hu
          split at hu
          ·rcases n3 with q | ⟨ad',q,q'⟩
           ·have hN:NS=[]:=ni (by rw [n2,q];simp)
            subst hN;simp at hu
           ·cases q;exact q' j u hu
          ·cases hu
         exact run_firstCells_some (P:=P) w1 sz k ad m cc2 (NS.take (k * sz)) (by rw [List.length_take];omega) hcell
       have hs2:=wDe d2
       simp [execOp,ho,ea,et,resolve,invoke,builtin,Builtin.copy_,wAn d1,g3,e2,Builtin.lenOf,hmin,hs2,hf w rfl,q1,goInt,Result.andThen]
      ·cases hr
     ·cases hr
    ·cases hr
   ·cases h2
  ·cases hc
 ·cases hc
def wQC (P:Program) (z:List AV) (x:AOd):Op->Bool
 | .call c=>match c.callee with
  | .builtin b=>(b == .clear) && (match c.args.toList,c.argTypes.toList with
   | [x'],[t]=>wEF P t (fun d=>match d with | .slice e=>zT P e z | _=>false) && wBr x x'
   | _,_=>false)
  | _=>false
 | _=>false
theorem wDh {zc:Array Value} (c:Nat):(Builtin.zeroCells zc c).toList=(nG c zc.toList).flatten:=by
 have:=wEx (zc:=zc) (n:=0) c
 simp only [or_false] at this
 exact this
def wQD (P:Program) (T sz by_:Nat) (z:List AV) (x y:AOd):Op->Bool
 | .call c=>match c.callee with
  | .builtin b=>(b == .append) && (match c.args.toList,c.argTypes.toList with
   | [x',y'],[t,t']=>wEF P t (fun d=>match d with | .slice e=>nB e T | _=>false) && (wEF P t' (fun d=>match d with | .int _=>true | _=>false) && (wBr x x' && (wBr y y' && (szT P T sz && (byT P T by_ && (zT P T z && (nB (len z) sz && (nu 0 sz && nu 0 by_))))))))
   | _,_=>false)
  | _=>false
 | _=>false
theorem e_apz {T sz by_:Nat} {z:List AV} {x y:AOd} {op:Op} (hc:wQD P T sz by_ z x y op=true):OkE C P op (wIs T sz by_ z x y):=by
 intro σA h v h' hr μ σ w hE S o ho
 unfold wQD at hc
 split at hc <;> first | (cases hc;done) | skip
 rename_i c
 obtain ⟨ce,args,tys⟩:=c
 simp only at hc
 split at hc <;> first | (cases hc;done) | skip
 rename_i b
 simp only [hH,beq_iff_eq] at hc
 obtain ⟨rfl,h2⟩:=hc
 split at h2 <;> first | (cases h2;done) | skip
 rename_i x' y' t t' h3 h4
 simp only [hH] at h2
 obtain ⟨a1,a2,a3,a4,a5,a6,a7,a8,a9,a10⟩:=h2
 have hargs:args=#[x',y']:=nJ (by simpa using h3)
 have htys:tys=#[t,t']:=nJ (by simpa using h4)
 subst hargs htys
 obtain ⟨d,d1,d2⟩:=wAk a1
 split at d2 <;> first | (cases d2;done) | skip
 have e:=nA d2
 subst e
 rename_i e
 obtain ⟨dn,n1,n2⟩:=wAk a2
 split at n2 <;> first | (cases n2;done) | skip
 rename_i kn
 obtain ⟨i,i1,i2⟩:=wGI a5
 obtain ⟨i',j1,j2⟩:=wGJ a6
 obtain ⟨i'',zv,k1,k2,k3⟩:=wEv a7
 rw [i1] at j1 k1;cases j1;cases k1
 have hz:=nA a8
 have hsz:0 < sz:=by simpa [nL] using a9
 have hx:=wAN a3 hE
 have hy:=wAN a4 hE
 have fin:∀ {μ':Mu} {w':World} {cv:Value},Ext μ h.fl.nat w μ' w'->Sim C P μ' h' w'->Rv μ' v cv->h'.fl=h.fl->(Builtin.append_ #[t,t'] o.type #[ev σ x',ev σ y']).run P w=.ok cv w' ->
   ∃ μ' w' cv,Ext μ h.fl.nat w μ' w'/\Sim C P μ' h' w'/\Rv μ' v cv/\h'.fl=h.fl/\Runs P σ w o cv w':=fun a b c d f =>
  ⟨_,_,_,a,b,c,d,by rw [ho];rfl,by simp [execOp,ho,resolve,invoke,builtin,f]⟩
 have zlen:zv.cells.size=sz:=by rw [<- hz,wEQ,<- wCw (k3 μ)];simp
 unfold wIs at hr
 split at hr
 ·rename_i nn hxs hn
  rw [hxs] at hx
  rw [wBq hn] at hy
  have hx:ev σ x'=.slice none 0 0:=hx
  have hy:ev σ y'=.int .i64 (nn:Int):=hy
  cases nn with
  | zero =>
   cases hr
   refine fin (Ext.refl μ _ w) S rfl rfl ?_
   rw [hx,hy]
   simp [Builtin.append_,run_underlying d1,run_underlying n1,sizeOf,typeInfo,i1,asInt,asIntOf,IntKind.wrap_i64]
  | succ m =>
   obtain ⟨hble,hr⟩:=wBJ hr
   have hble:=nO hble
   cases hr
   have hby:0 < by_:=by simpa [nL] using a10
   have hnb:m + 1 <= 140737488355328:=nU (kH _ hby) hble
   have hrun:=Go.Lib.run_append_nil_zeros (P:=P) w t t' o.type e i zv .i64 kn d1 n1 i1 k2 (m + 1) (by omega) (by rw [i2];exact hsz) (by omega) (by rw [j2];omega)
   have hge:=grownCap_ge w (m + 1) 0 e
   have maxb:(140737488355328:Nat) <= maxLen:=by decide
   have hcm:grownCap w (m + 1) 0 e <= maxLen:=grownCap_le_maxLen w (m + 1) 0 e (by omega)
   have hcs:((nG (m + 1) zv.cells.toList).flatten).length=(m + 1) * sz:=by rw [<- wDh];simp [size_zeroCells,zlen]
   obtain ⟨μ',s1,s2,s3,s4⟩:=wNH (T:=e) (sz:=sz) (c:=grownCap w (m + 1) 0 e) (w':=w.drew.alloc (.cells (Builtin.zeroCells zv.cells (m + 1) ++ Builtin.zeroCells zv.cells (grownCap w (m + 1) 0 e - (m + 1))) e)) (cur:=Builtin.zeroCells zv.cells (m + 1) ++ Builtin.zeroCells zv.cells (grownCap w (m + 1) 0 e - (m + 1))) S
    ((Keep.drew w).non (wAw w.drew _)) (wGi (k3 μ) (m + 1)) (heap_alloc_new w.drew _) (by rw [hcs];exact kR _ hge) hcm
    (by
     simp only [ke,size_zeroCells,zlen,<- kM]
     congr 1
     omega)
    (by
     rw [kU,wDh]
     exact List.take_left)
   refine fin s1 s2 ⟨_,s4,?_,?_⟩ s3 (by rw [hx,hy];exact hrun)
   ·simpa using hge
   ·simp
 ·cases hr
theorem e_clr {z:List AV} {x:AOd} {op:Op} (hc:wQC P z x op=true):OkE C P op (wIp z x):=by
 intro σA h v h' hr μ σ w hE S o ho
 unfold wQC at hc
 split at hc
 ·rename_i c
  obtain ⟨ce,args,tys⟩:=c
  simp only at hc
  split at hc
  ·rename_i b
   simp only [hH,beq_iff_eq] at hc
   obtain ⟨rfl,h2⟩:=hc
   split at h2
   ·rename_i x' t h3 h4
    simp only [hH] at h2
    obtain ⟨a1,a2⟩:=h2
    obtain ⟨d,d1,d2⟩:=wAk a1
    split at d2 <;> first | (cases d2;done) | skip
    rename_i e
    have ea:args=#[x']:=nJ (by simpa using h3)
    have et:tys=#[t]:=nJ (by simpa using h4)
    subst ea et
    have hx:=wAN a2 hE
    obtain ⟨i,zv,z1,z2,z3⟩:=wEv d2
    have zero:∀ {A:Option Addr} {c:Nat},ev σ x'=.slice A 0 c->v=u->h'=h->∃ μ' w' cv,Ext μ h.fl.nat w μ' w'/\Sim C P μ' h' w'/\Rv μ' v cv/\h'.fl=h.fl/\Runs P σ w o cv w':=by
     intro A c hA hv hh
     subst hv hh
     refine ⟨μ,w,undef,Ext.refl μ _ w,S,wMn μ,rfl,by rw [ho];rfl,?_⟩
     cases A <;> simp [execOp,ho,resolve,invoke,builtin,Builtin.clear_,hA,wAn d1,undef]
    have full:∀ {b:Pos} {c:Cl} {off n cap:Nat},μ b=some c->ev σ x'=.slice (some ⟨c.1,off,none⟩) n cap->clr h z b off n=some (v,h')->∃ μ' w' cv,Ext μ h.fl.nat w μ' w'/\Sim C P μ' h' w'/\Rv μ' v cv/\h'.fl=h.fl/\Runs P σ w o cv w':=by
     intro b c off n cap hb hA hr
     unfold clr at hr
     split at hr
     ·cases hr;exact zero hA rfl rfl
     ·rename_i n
      obtain ⟨hones,hr'⟩:=wBJ hr
      split at hr'
      ·rename_i h1' hset
       cases hr'
       have k1:=wGi (z3 μ) (n + 1)
       have k2:∀ v ∈ (nG (n + 1) zv.cells.toList).flatten,one v=true:=by
        intro v hv
        simp only [List.mem_flatten,List.mem_replicate] at hv
        obtain ⟨l,⟨_,rfl⟩,hv⟩:=hv
        exact wDw (z3 μ) hones v hv
       obtain ⟨w',q1,q2,q3,q4⟩:=wFV hset S k1 k2 hb
       refine ⟨μ,w',undef,q3,q2,wMn μ,q4,by rw [ho];rfl,?_⟩
       rw [<- wDh] at q1
       simp [execOp,ho,resolve,invoke,builtin,Builtin.clear_,hA,wAn d1,wDf z1 z2,q1,undef,Result.andThen]
      ·cases hr'
    unfold wIp at hr
    split at hr
    ·rename_i hb;rw [hb] at hx;obtain ⟨c,g1,_,g3⟩:=hx;exact full g1 g3 hr
    ·rename_i hb;rw [hb] at hx;obtain ⟨c,g1,_,g3⟩:=hx;exact full g1 g3 hr
    ·rename_i hb;rw [hb] at hx;cases hr;obtain ⟨c,g1,q,g3⟩:=hx;exact zero g3 rfl rfl
    ·rename_i hb;rw [hb] at hx;cases hr;have hx:ev σ x'=.slice none 0 0:=hx;exact zero hx rfl rfl
    ·cases hr
   ·cases h2
  ·cases hc
 ·cases hc
end
end
end Go.KX
namespace Go.KX
noncomputable section
open Go.RowKit Go.KL
section
variable {C:Chk} {P:Program} {μ μ':Mu} {w w':World} {h h':AH} {σ:Env} {σA:Tr AV} {t e:TypeId} {o:Oper} {K:Type} [DecidableEq K]
def wOH (P:Program) (two:Bool) (k:IntKind) (kt:TypeId):Bool:=match two with
 | false=>wEF P kt fun d=>match wMt d with | some k'=>keq k k' | none=>false
 | true=>(!P.stoodInHeld kt) && wEF P kt fun d=>match d with
  | .struct fs=>match fs.toList with
   | [f, g] => nB f.type g.type && (nB f.offset 0 && (nB g.offset 1 && ((f.name != "_") && ((g.name != "_") && wEF P f.type fun d => match wMt d with | some k' => keq k k' | none => false))))
   | _=>false
  | _=>false
theorem keyI {k:IntKind} {kt:TypeId} (hc:wOH P false k kt=true):KeyR P kt (fun n:Int=>nw k n):=by
 obtain ⟨d,d1,d2⟩:=wAk hc
 cases d <;> first | (cases d2;done) | skip
 have:=wBN d2
 subst this
 exact KeyR.ofInt d1
theorem wLU {k:IntKind} {kt:TypeId} (hc:wOH P true k kt=true):KeyR P kt (mk2 k):=by
 simp only [wOH,hH,kA] at hc
 obtain ⟨c0,c1⟩:=hc
 obtain ⟨d,d1,d2⟩:=wAk c1
 split at d2
 ·rename_i fs
  split at d2
  ·rename_i f g hfs
   simp only [hH] at d2
   obtain ⟨a1,a2,a3,a4,a5,a6⟩:=d2
   obtain ⟨di,i1,i2⟩:=wAk a6
   cases di <;> first | (cases i2;done) | skip
   have ek:=wBN i2
   subst ek
   have efs:fs=#[f,g]:=nJ (by simpa using hfs)
   subst efs
   have T:Two P kt f.type f g k:=⟨d1,rfl,nA a2,by simpa using a4,(nA a1).symm,nA a3,by simpa using a5,i1,fun w=>wGk i1 w,c0⟩
   exact T.keyR (mk2 k) (·.1) (·.2) (fun _=>rfl) fun x y h1 h2=>Prod.ext h1 h2
  ·cases d2
 ·cases d2
theorem mrI {l:List (Int × AV)} {tt:List (Int × Value)} (hm:MR μ l tt) (n:Int):(wLL l n=none/\wIe tt n=none) \/ ∃ a v,wLL l n=some a/\wIe tt n=some v/\Rv μ a v:=by
 induction l generalizing tt with
 | nil=>cases tt with
  | nil=>exact .inl ⟨rfl,rfl⟩
  | cons q tt=>have:=hm.1;simp at this
 | cons p l ih =>
  cases tt with
  | nil=>have:=hm.1;simp at this
  | cons q tt =>
   obtain ⟨a,x⟩:=p
   obtain ⟨b,v⟩:=q
   obtain ⟨h1,h2⟩:=hm
   simp only [nI,nK] at h1
   obtain ⟨v',ws,g1,g2,g3⟩:=h2
   simp only [nI,nK] at g3
   obtain ⟨rfl,rfl⟩:=g3
   obtain ⟨rfl,h1⟩:=h1
   simp only [wLL,wIe]
   by_cases e:n=a
   ·right;exact ⟨x,v,by simp [wDx,e],by simp [e],g1⟩
   ·have:=ih (tt:=tt) ⟨h1,g2⟩
    simpa [wDx,e] using this
theorem wQE {l:List (Int × AV)} {tt:List (Int × Value)} (hm:MR μ l tt) (n:Int) {a:AV} {v:Value} (hv:Rv μ a v):MR μ (wMM l n a) (mput tt n v):=by
 induction l generalizing tt with
 | nil=>cases tt with
  | nil=>exact ⟨rfl,wBI hv wGh⟩
  | cons q tt=>have:=hm.1;simp at this
 | cons p l ih =>
  cases tt with
  | nil=>have:=hm.1;simp at this
  | cons q tt =>
   obtain ⟨b,x⟩:=p
   obtain ⟨b',v0⟩:=q
   obtain ⟨h1,h2⟩:=hm
   simp only [nI,nK] at h1
   obtain ⟨v',ws,g1,g2,g3⟩:=h2
   simp only [nI,nK] at g3
   obtain ⟨rfl,rfl⟩:=g3
   obtain ⟨rfl,h1⟩:=h1
   simp only [wMM,mput,wDx]
   by_cases e:n=b
   ·simp only [e,decide_true,if_true]
    exact ⟨by simp [h1],wBI hv g2⟩
   ·have:=ih (tt:=tt) ⟨h1,g2⟩
    simp only [e,decide_false,if_false]
    exact ⟨by simp [this.1],wBI g1 this.2⟩
theorem wQF {l:List (Int × AV)} {tt:List (Int × Value)} (hm:MR μ l tt) (n:Int):MR μ (wMO l n) (mdel tt n):=by
 induction l generalizing tt with
 | nil=>cases tt with
  | nil=>exact ⟨rfl,rfl⟩
  | cons q tt=>have:=hm.1;simp at this
 | cons p l ih =>
  cases tt with
  | nil=>have:=hm.1;simp at this
  | cons q tt =>
   obtain ⟨b,x⟩:=p
   obtain ⟨b',v0⟩:=q
   obtain ⟨h1,h2⟩:=hm
   simp only [nI,nK] at h1
   obtain ⟨v',ws,g1,g2,g3⟩:=h2
   simp only [nI,nK] at g3
   obtain ⟨rfl,rfl⟩:=g3
   obtain ⟨rfl,h1⟩:=h1
   simp only [wMO,mdel,wDx]
   by_cases e:n=b
   ·simp only [e,decide_true,if_true]
    exact ⟨h1,g2⟩
   ·have:=ih (tt:=tt) ⟨h1,g2⟩
    simp only [e,decide_false,if_false]
    exact ⟨by simp [this.1],wBI g1 this.2⟩
theorem z2 (x y a b:Int):(zeq x a && zeq y b)=decide ((x,y)=(a,b)):=by
 rw [wDx,wDx]
 by_cases h1:x=a <;> by_cases h2:y=b <;> simp [h1,h2]
theorem mr2 {l:List ((Int × Int) × AV)} {tt:List ((Int × Int) × Value)} (hm:MR μ l tt) (x y:Int):(wLK l x y=none/\wIe tt (x,y)=none) \/ ∃ a v,wLK l x y=some a/\wIe tt (x,y)=some v/\Rv μ a v:=by
 induction l generalizing tt with
 | nil=>cases tt with
  | nil=>exact .inl ⟨rfl,rfl⟩
  | cons q tt=>have:=hm.1;simp at this
 | cons p l ih =>
  cases tt with
  | nil=>have:=hm.1;simp at this
  | cons q tt =>
   obtain ⟨⟨a,b⟩,x0⟩:=p
   obtain ⟨b',v⟩:=q
   obtain ⟨h1,h2⟩:=hm
   simp only [nI,nK] at h1
   obtain ⟨v',ws,g1,g2,g3⟩:=h2
   simp only [nI,nK] at g3
   obtain ⟨rfl,rfl⟩:=g3
   obtain ⟨rfl,h1⟩:=h1
   simp only [wLK,wIe,z2]
   by_cases e:(x,y)=(a,b)
   ·right;exact ⟨x0,v,by simp only [e,decide_true],by simp only [e,if_true],g1⟩
   ·have:=ih (tt:=tt) ⟨h1,g2⟩
    simp only [e,decide_false,if_false]
    exact this
theorem wQG {l:List ((Int × Int) × AV)} {tt:List ((Int × Int) × Value)} (hm:MR μ l tt) (x y:Int) {a:AV} {v:Value} (hv:Rv μ a v):MR μ (wML l x y a) (mput tt (x,y) v):=by
 induction l generalizing tt with
 | nil=>cases tt with
  | nil=>exact ⟨rfl,wBI hv wGh⟩
  | cons q tt=>have:=hm.1;simp at this
 | cons p l ih =>
  cases tt with
  | nil=>have:=hm.1;simp at this
  | cons q tt =>
   obtain ⟨⟨b1,b2⟩,x0⟩:=p
   obtain ⟨b',v0⟩:=q
   obtain ⟨h1,h2⟩:=hm
   simp only [nI,nK] at h1
   obtain ⟨v',ws,g1,g2,g3⟩:=h2
   simp only [nI,nK] at g3
   obtain ⟨rfl,rfl⟩:=g3
   obtain ⟨rfl,h1⟩:=h1
   simp only [wML,mput,z2]
   by_cases e:(x,y)=(b1,b2)
   ·simp only [e,decide_true,if_true]
    exact ⟨by simp [h1],wBI hv g2⟩
   ·have:=ih (tt:=tt) ⟨h1,g2⟩
    simp only [e,decide_false,if_false]
    exact ⟨by simp [this.1],wBI g1 this.2⟩
theorem wQH {l:List ((Int × Int) × AV)} {tt:List ((Int × Int) × Value)} (hm:MR μ l tt) (x y:Int):MR μ (wMN l x y) (mdel tt (x,y)):=by
 induction l generalizing tt with
 | nil=>cases tt with
  | nil=>exact ⟨rfl,rfl⟩
  | cons q tt=>have:=hm.1;simp at this
 | cons p l ih =>
  cases tt with
  | nil=>have:=hm.1;simp at this
  | cons q tt =>
   obtain ⟨⟨b1,b2⟩,x0⟩:=p
   obtain ⟨b',v0⟩:=q
   obtain ⟨h1,h2⟩:=hm
   simp only [nI,nK] at h1
   obtain ⟨v',ws,g1,g2,g3⟩:=h2
   simp only [nI,nK] at g3
   obtain ⟨rfl,rfl⟩:=g3
   obtain ⟨rfl,h1⟩:=h1
   simp only [wMN,mdel,z2]
   by_cases e:(x,y)=(b1,b2)
   ·simp only [e,decide_true,if_true]
    exact ⟨h1,g2⟩
   ·have:=ih (tt:=tt) ⟨h1,g2⟩
    simp only [e,decide_false,if_false]
    exact ⟨by simp [this.1],wBI g1 this.2⟩
theorem wRh {mt kt et:TypeId} {m ck:Nat} {es:Array MapEntry} {mk:K->Value} {tt:List (K × Value)} {a:K} {z:Value} {ok:Bool} (hm:w.heap[m]?=some (.map es ck)) (hu:P.underlying mt=some (.map kt et)) (R:KeyR P kt mk) (hz:∀ w,(zeroValue et).run P w=.ok z w) (hh:MpR es mk id tt) :
  (Instr.lookup mt (.map (some m)) (mk a) ok).run P w=.ok (if ok then .tuple #[wAg tt a z,.bool (wIC tt a)] else wAg tt a z) w:=by
 have hf:=R.find id es.toList tt a w hh
 have hg:=wEo tt a 0
 unfold wAg wIC
 simp [Instr.lookup,run_underlying hu,MapKept.run_getObj_map hm,R.chk,hf,Result.andThen,<- hg]
 cases e:wCf tt a 0 <;> simp [hz,Result.andThen]
theorem wQI {mt kt et:TypeId} {m ck:Nat} {es:Array MapEntry} {mk:K->Value} {tt:List (K × Value)} {a:K} {v:Value} (hm:w.heap[m]?=some (.map es ck)) (hu:P.underlying mt=some (.map kt et)) (R:KeyR P kt mk) (hh:MpR es mk id tt) :
  ∃ es' ck',MpR es' mk id (mput tt a v)/\(Instr.mapUpdate mt (.map (some m)) (mk a) v).run P w=.ok () (w.putObj m (.map es' ck')):=by
 have hf:=R.find id es.toList tt a w hh
 cases e:wCf tt a 0 with
 | none =>
  obtain ⟨e1,_⟩:=wEp e v
  refine ⟨es.push { key:=mk a,val:=v,born:=ck },ck + 1,?_,?_⟩
  ·unfold MpR at hh ⊢;rw [e1];simp [hh]
  ·simp [Instr.mapUpdate,run_underlying hu,MapKept.run_getObj_map hm,R.chk,hf,e,Result.andThen,MapKept.run_setObj_map _ hm]
   rfl
 | some p =>
  obtain ⟨q,u⟩:=p
  obtain ⟨_,h2,h3,_⟩:=wEq e v
  rw [Nat.sub_zero] at h2 h3
  have hq:q < tt.length:=(nD.1 h2).1
  have hl:es.size=tt.length:=by have:=congrArg no hh;simpa using this
  have hkq:((es[q]?).map (·.key)).getD (mk a)=mk a:=by
   have h4:(es.toList.map (fun e=>(e.key,e.val)))[q]?=some (mk a,u):=by rw [hh,nW,h2];rfl
   rw [nW] at h4
   cases h5:es.toList[q]? with
   | none=>rw [h5] at h4;cases h4
   | some e =>
    rw [h5] at h4
    simp only [kj,nX,Prod.mk.injEq] at h4
    have h6:es[q]?=some e:=by simpa using h5
    rw [h6];simp [h4.1]
  refine ⟨es.modify q fun e=>{ e with key:=mk a,val:=v },ck,?_,?_⟩
  ·unfold MpR at hh ⊢
   rw [h3]
   apply List.ext_getElem?
   intro n
   have hn:=congrArg (·[n]?) hh
   simp only [nW] at hn ⊢
   rw [List.getElem?_set]
   simp only [Array.toList_modify,List.getElem?_modify]
   by_cases hqn:q=n
   ·subst hqn
    have h5:es.toList[q]?=some (es.toList[q]'(by simpa [hl] using hq)):=nM _
    simp [h5,hq]
   ·simp only [hqn,if_false]
    simpa [hqn] using hn
  ·simp [Instr.mapUpdate,run_underlying hu,MapKept.run_getObj_map hm,R.chk,hf,e,Result.andThen,MapKept.run_setObj_map _ hm,Instr.keyThatStays,hkq,R.same]
   rfl
theorem wQJ {mt kt et ty:TypeId} {tys:Array TypeId} {m ck:Nat} {es:Array MapEntry} {mk:K->Value} {tt:List (K × Value)} {a:K} (hty:tys[0]?=some mt) (hm:w.heap[m]?=some (.map es ck)) (hu:P.underlying mt=some (.map kt et)) (R:KeyR P kt mk) (hh:MpR es mk id tt) :
  ∃ es' ck',MpR es' mk id (mdel tt a)/\(Builtin.delete_ tys ty #[.map (some m),mk a]).run P w=.ok (.tuple #[]) (w.putObj m (.map es' ck')):=by
 have hf:=R.find id es.toList tt a w hh
 cases e:wCf tt a 0 with
 | none =>
  obtain ⟨_,e1⟩:=wEp e (.bool true)
  refine ⟨es,ck,by rw [e1];exact hh,?_⟩
  simp [Builtin.delete_,hty,run_underlying hu,MapKept.run_getObj_map hm,R.chk,hf,e,Result.andThen,MapKept.run_setObj_map _ hm]
  rfl
 | some p =>
  obtain ⟨q,u⟩:=p
  obtain ⟨_,h2,_,h3⟩:=wEq e (.bool true)
  rw [Nat.sub_zero] at h2 h3
  refine ⟨es.eraseIdxIfInBounds q,ck,?_,?_⟩
  ·unfold MpR at hh ⊢
   rw [h3,<- wDu,<- hh,wDu]
   simp
  ·simp [Builtin.delete_,hty,run_underlying hu,MapKept.run_getObj_map hm,R.chk,hf,e,Result.andThen,MapKept.run_setObj_map _ hm]
   rfl
def wQK (C:Chk) (P:Program) (μ:Mu) (w:World) (c:Cl) (two:Bool) (k:IntKind) (kt:TypeId) (B:AB) (y:AV) (Y:Value):Prop :=
  ∃ (K:Type) (_:DecidableEq K) (mk:K->Value) (a:K) (es:Array MapEntry) (ck:Nat) (tt:List (K × Value)),Y=mk a/\w.heap[c.1]?=some (.map es ck)/\KeyR P kt mk/\MpR es mk id tt /\
   (∀ q,wGZ two k B y=some q->(q=none/\wIe tt a=none) \/ ∃ x v,q=some x/\wIe tt a=some v/\Rv μ x v) /\
   (∀ x v B',wOB two k B y x=some B'->Rv μ x v->wLQ B'/\∀ w' es' ck',w'.heap[c.1]?=some (.map es' ck')->MpR es' mk id (mput tt a v)->AbR C P μ w' c B') /\
   (∀ B',wOC two k B y=some B'->wLQ B'/\∀ w' es' ck',w'.heap[c.1]?=some (.map es' ck')->MpR es' mk id (mdel tt a)->AbR C P μ w' c B')
theorem wNI {two:Bool} {k:IntKind} {kt:TypeId} {B:AB} {y:AV} {Y:Value} {c:Cl} (hk:wOH P two k kt=true) (hB:AbR C P μ w c B) (hY:Rv μ y Y) (hr:(wGZ two k B y).isSome=true \/ (∃ v,(wOB two k B y v).isSome=true) \/ (wOC two k B y).isSome=true) :
  wQK C P μ w c two k kt B y Y/\wLQ B:=by
 have caseI:two=false->∀ (n:Int) (es:Array MapEntry) (ck:Nat) (tt:List (Int × Value)) (l:List (Int × AV)),y=.int k n->w.heap[c.1]?=some (.map es ck)->MpR es (fun n:Int=>nw k n) id tt->MR μ l tt ->
   (∀ q,wGZ two k B y=some q->q=wLL l n)->(∀ x B',wOB two k B y x=some B'->B'=.mapI k (wMM l n x))->(∀ B',wOC two k B y=some B'->B'=.mapI k (wMO l n) \/ (B'=.map0/\l=[]))->wQK C P μ w c two k kt B y Y:=by
  intro h2 n es ck tt l hy hm hp hM q1 q2 q3
  subst h2 hy
  have hY:Y=.int k n:=hY
  refine ⟨Int,inferInstance,fun n=>nw k n,n,es,ck,tt,hY,hm,keyI hk,hp,?_,?_,?_⟩
  ·intro q hq
   rw [q1 q hq]
   exact mrI hM n
  ·intro x v B' hB' hv
   have:=q2 x B' hB'
   subst this
   exact ⟨trivial,fun w' es' ck' g1 g2=>⟨es',ck',_,g1,g2,wQE hM n hv⟩⟩
  ·intro B' hB'
   rcases q3 B' hB' with rfl | ⟨rfl,rfl⟩
   ·exact ⟨trivial,fun w' es' ck' g1 g2=>⟨es',ck',_,g1,g2,wQF hM n⟩⟩
   ·refine ⟨trivial,fun w' es' ck' g1 g2=>⟨ck',?_⟩⟩
    cases tt with
    | cons p tt=>have:=hM.1;simp at this
    | nil =>
     have:es'=#[]:=by
      unfold MpR at g2
      simp only [mdel,kE,kV] at g2
      exact nJ (by simpa using g2)
     rw [this] at g1;exact g1
 have case2:two=true->∀ (n m:Int) (es:Array MapEntry) (ck:Nat) (tt:List ((Int × Int) × Value)) (l:List ((Int × Int) × AV)),y=.agg [.int k n,.int k m]->w.heap[c.1]?=some (.map es ck)->MpR es (mk2 k) id tt->MR μ l tt ->
   (∀ q,wGZ two k B y=some q->q=wLK l n m)->(∀ x B',wOB two k B y x=some B'->B'=.map2 k (wML l n m x))->(∀ B',wOC two k B y=some B'->B'=.map2 k (wMN l n m) \/ (B'=.map0/\l=[]))->wQK C P μ w c two k kt B y Y:=by
  intro h2 n m es ck tt l hy hm hp hM q1 q2 q3
  subst h2 hy
  have hY:Y=mk2 k (n,m):=by
   obtain ⟨vs,g1,rfl⟩:=hY
   obtain ⟨v1,ws,g2,g3,rfl⟩:=g1
   obtain ⟨v2,ws2,g4,g5,rfl⟩:=g3
   cases g5
   have g2:v1=.int k n:=g2
   have g4:v2=.int k m:=g4
   subst g2 g4
   rfl
  refine ⟨Int × Int,inferInstance,mk2 k,(n,m),es,ck,tt,hY,hm,wLU hk,hp,?_,?_,?_⟩
  ·intro q hq
   rw [q1 q hq]
   exact mr2 hM n m
  ·intro x v B' hB' hv
   have:=q2 x B' hB'
   subst this
   exact ⟨trivial,fun w' es' ck' g1 g2=>⟨es',ck',_,g1,g2,wQG hM n m hv⟩⟩
  ·intro B' hB'
   rcases q3 B' hB' with rfl | ⟨rfl,rfl⟩
   ·exact ⟨trivial,fun w' es' ck' g1 g2=>⟨es',ck',_,g1,g2,wQH hM n m⟩⟩
   ·refine ⟨trivial,fun w' es' ck' g1 g2=>⟨ck',?_⟩⟩
    cases tt with
    | cons p tt=>have:=hM.1;simp at this
    | nil =>
     have:es'=#[]:=by
      unfold MpR at g2
      simp only [mdel,kE,kV] at g2
      exact nJ (by simpa using g2)
     rw [this] at g1;exact g1
 have shape:(∃ n,two=false/\y=.int k n/\(B=.map0 \/ ∃ l,B=.mapI k l)) \/ (∃ n m,two=true/\y=.agg [.int k n,.int k m]/\(B=.map0 \/ ∃ l,B=.map2 k l)):=by
  have fI:∀ {k':IntKind} {b:Bool} {α:Type} {x:Option α},(ifO b x).isSome=true->b=true:=fun {k' b α x} hq=>by cases b <;> first | rfl | cases hq
  rcases hr with hr | ⟨v,hr⟩ | hr
  ·unfold wGZ at hr
   split at hr <;> first | (cases hr;done) | skip
   ·have:=wBN (fI (k':=k) hr);subst this;exact .inl ⟨_,rfl,rfl,.inl rfl⟩
   ·have:=fI (k':=k) hr;simp only [hH] at this
    have e1:=wBN this.1;have e2:=wBN this.2;subst e1 e2;exact .inr ⟨_,_,rfl,rfl,.inl rfl⟩
   ·have:=fI (k':=k) hr;simp only [hH] at this
    have e1:=wBN this.1;have e2:=wBN this.2;subst e1 e2;exact .inl ⟨_,rfl,rfl,.inr ⟨_,rfl⟩⟩
   ·have:=fI (k':=k) hr;simp only [hH] at this
    have e1:=wBN this.1;have e2:=wBN this.2.1;have e3:=wBN this.2.2;subst e1 e2 e3;exact .inr ⟨_,_,rfl,rfl,.inr ⟨_,rfl⟩⟩
  ·unfold wOB at hr
   split at hr <;> first | (cases hr;done) | skip
   ·have:=wBN (fI (k':=k) hr);subst this;exact .inl ⟨_,rfl,rfl,.inl rfl⟩
   ·have:=fI (k':=k) hr;simp only [hH] at this
    have e1:=wBN this.1;have e2:=wBN this.2;subst e1 e2;exact .inr ⟨_,_,rfl,rfl,.inl rfl⟩
   ·have:=fI (k':=k) hr;simp only [hH] at this
    have e1:=wBN this.1;have e2:=wBN this.2;subst e1 e2;exact .inl ⟨_,rfl,rfl,.inr ⟨_,rfl⟩⟩
   ·have:=fI (k':=k) hr;simp only [hH] at this
    have e1:=wBN this.1;have e2:=wBN this.2.1;have e3:=wBN this.2.2;subst e1 e2 e3;exact .inr ⟨_,_,rfl,rfl,.inr ⟨_,rfl⟩⟩
  ·unfold wOC at hr
   split at hr <;> first | (cases hr;done) | skip
   ·have:=wBN (fI (k':=k) hr);subst this;exact .inl ⟨_,rfl,rfl,.inl rfl⟩
   ·have:=fI (k':=k) hr;simp only [hH] at this
    have e1:=wBN this.1;have e2:=wBN this.2;subst e1 e2;exact .inr ⟨_,_,rfl,rfl,.inl rfl⟩
   ·have:=fI (k':=k) hr;simp only [hH] at this
    have e1:=wBN this.1;have e2:=wBN this.2;subst e1 e2;exact .inl ⟨_,rfl,rfl,.inr ⟨_,rfl⟩⟩
   ·have:=fI (k':=k) hr;simp only [hH] at this
    have e1:=wBN this.1;have e2:=wBN this.2.1;have e3:=wBN this.2.2;subst e1 e2 e3;exact .inr ⟨_,_,rfl,rfl,.inr ⟨_,rfl⟩⟩
 have iS:∀ {b:Bool} {α:Type} {x:Option α} {v:α},ifO b x=some v->x=some v:=fun hq=>(wBJ hq).2
 rcases shape with ⟨n,rfl,rfl,rfl | ⟨l,rfl⟩⟩ | ⟨n,m,rfl,rfl,rfl | ⟨l,rfl⟩⟩
 ·obtain ⟨ck,hm⟩:=hB
  refine ⟨?_,trivial⟩
  exact caseI rfl n #[] ck [] [] rfl hm rfl ⟨rfl,rfl⟩ (fun q hq=>by simp only [wGZ] at hq;cases iS hq;rfl) (fun x B' hq=>by simp only [wOB] at hq;cases iS hq;rfl) (fun B' hq=>by simp only [wOC] at hq;cases iS hq;exact .inr ⟨rfl,rfl⟩)
 ·obtain ⟨es,ck,tt,hm,hp,hM⟩:=hB
  refine ⟨?_,trivial⟩
  exact caseI rfl n es ck tt l rfl hm hp hM (fun q hq=>by simp only [wGZ] at hq;cases iS hq;rfl) (fun x B' hq=>by simp only [wOB] at hq;cases iS hq;rfl) (fun B' hq=>by simp only [wOC] at hq;cases iS hq;exact .inl rfl)
 ·obtain ⟨ck,hm⟩:=hB
  refine ⟨?_,trivial⟩
  exact case2 rfl n m #[] ck [] [] rfl hm rfl ⟨rfl,rfl⟩ (fun q hq=>by simp only [wGZ] at hq;cases iS hq;rfl) (fun x B' hq=>by simp only [wOB] at hq;cases iS hq;rfl) (fun B' hq=>by simp only [wOC] at hq;cases iS hq;exact .inr ⟨rfl,rfl⟩)
 ·obtain ⟨es,ck,tt,hm,hp,hM⟩:=hB
  refine ⟨?_,trivial⟩
  exact case2 rfl n m es ck tt l rfl hm hp hM (fun q hq=>by simp only [wGZ] at hq;cases iS hq;rfl) (fun x B' hq=>by simp only [wOB] at hq;cases iS hq;rfl) (fun B' hq=>by simp only [wOC] at hq;cases iS hq;exact .inl rfl)
def wRi (P:Program) (two:Bool) (k:IntKind) (ok:Bool) (z:AV) (x y:AOd):Op->Bool
 | .lookup t x' y' ok'=>wEF P t (fun d=>match d with
   | .map kt et=>wOH P two k kt && (match P.info? et with
    | some i=>match i.zero with | some v=>okc z v | none=>false
    | none=>false)
   | _=>false) && ((ok == ok') && (wBr x x' && wBr y y'))
 | _=>false
def lkV (ok:Bool) (z:AV) (q:Option AV):AV:=match ok with
 | true=>.tup [q.getD z,.bool q.isSome]
 | false=>q.getD z
theorem l_lk {two:Bool} {k:IntKind} {ok:Bool} {z:AV} {x y:AOd} {op:Op} (hc:wRi P two k ok z x y op=true):OkL C P op (wOE two k ok z x y):=by
 intro σA h v h' hr
 unfold wRi at hc
 split at hc
 ·rename_i t x' y' ok'
  simp only [hH,beq_iff_eq] at hc
  obtain ⟨c1,rfl,c2,c3⟩:=hc
  obtain ⟨d,d1,d2⟩:=wAk c1
  split at d2 <;> first | (cases d2;done) | skip
  rename_i kt et
  simp only [hH] at d2
  obtain ⟨k1,k2⟩:=d2
  split at k2 <;> first | (cases k2;done) | skip
  rename_i i hi
  split at k2 <;> first | (cases k2;done) | skip
  rename_i zv hz
  unfold wOE at hr
  split at hr <;> first | (cases hr;done) | skip
  rename_i b hx
  split at hr <;> first | (cases hr;done) | skip
  rename_i B hB
  have key:∀ q,wGZ two k B (evA σA y)=some q->h'=h->v=lkV ok z q->h'=h/\∀ μ σ w,EnvR μ σA σ->Sim C P μ h w->∃ cv,Rv μ v cv/\∀ (o:Oper),o.op=.lookup t x' y' ok->RunsK P σ w o cv:=by
   intro q hq hh hv
   subst hh hv
   refine ⟨rfl,fun μ σ w hE S=>?_⟩
   have g:=wAN c2 hE;rw [hx] at g
   obtain ⟨c,g1,g2⟩:=g
   obtain ⟨c',g3,g4⟩:=S.at_ b B hB
   rw [g1] at g3;cases g3
   obtain ⟨⟨K,_,mk,a,es,ck,tt,e1,e2,e3,e4,e5,_,_⟩,hl⟩:=wNI k1 g4 (wAN c3 hE) (.inl (by rw [hq];rfl))
   have hrun:∀ w',Keep w w' Non->∀ (o:Oper),o.op=.lookup t x' y' ok->Runs P σ w' o (if ok then .tuple #[wAg tt a zv,.bool (wIC tt a)] else wAg tt a zv) w':=by
    intro w' K o ho
    have hm:=(K.block _ (wAY e2) id).trans e2
    have:=wRh (P:=P) (ok:=ok) hm d1 e3 (wDf hi hz) e4 (a:=a)
    exact ⟨by rw [ho];rfl,by simp [execOp,ho,g2,e1,this,Result.andThen]⟩
   refine ⟨_,?_,fun o ho w' K=>hrun w' K o ho⟩
   have hval:Rv μ (q.getD z) (wAg tt a zv)/\q.isSome=wIC tt a:=by
    rcases e5 q hq with ⟨rfl,q2⟩ | ⟨x,v,rfl,q2,q3⟩
    ·unfold wAg wIC;rw [q2];exact ⟨wMp μ k2,rfl⟩
    ·unfold wAg wIC;rw [q2];exact ⟨q3,rfl⟩
   cases ok
   ·exact hval.1
   ·exact ⟨_,wBI hval.1 (wBI (v:=.bool (wIC tt a)) (by rw [<- hval.2];rfl) wGh),rfl⟩
  split at hr
  ·rename_i q hq
   cases hr
   exact key _ hq rfl (by cases ok <;> rfl)
  ·rename_i hq
   cases hr
   exact key _ hq rfl (by cases ok <;> rfl)
  ·cases hr
 ·cases hc
def wKg (P:Program) (two:Bool) (k:IntKind) (x y z:AOd):Op->Bool
 | .mapUpdate t x' y' z' | .insert t x' y' z'=>wEF P t (fun d=>match d with
   | .map kt et=>wOH P two k kt
   | _=>false) && (wBr x x' && (wBr y y' && wBr z z'))
 | _=>false
theorem wNJ {two:Bool} {k:IntKind} {x y z:AOd} {op:Op} (hc:wKg P two k x y z op=true):∃ t kt et x' y' z',(op=.mapUpdate t x' y' z' \/ op=.insert t x' y' z')/\P.underlying t=some (.map kt et)/\wOH P two k kt=true/\wBr x x'=true/\wBr y y'=true/\wBr z z'=true:=by
 have key:∀ {t:TypeId} {x' y' z':Operand},(wEF P t (fun d=>match d with | .map kt et=>wOH P two k kt | _=>false) && (wBr x x' && (wBr y y' && wBr z z')))=true->∃ kt et,P.underlying t=some (.map kt et)/\wOH P two k kt=true/\wBr x x'=true/\wBr y y'=true/\wBr z z'=true:=by
  intro t x' y' z' hq
  simp only [hH] at hq
  obtain ⟨d,d1,d2⟩:=wAk hq.1
  split at d2 <;> first | (cases d2;done) | skip
  exact ⟨_,_,d1,d2,hq.2⟩
 unfold wKg at hc
 split at hc
 ·obtain ⟨kt,et,g⟩:=key hc;exact ⟨_,kt,et,_,_,_,.inl rfl,g⟩
 ·obtain ⟨kt,et,g⟩:=key hc;exact ⟨_,kt,et,_,_,_,.inr rfl,g⟩
 ·cases hc
theorem wRj {two:Bool} {k:IntKind} {x y z:AOd} {op:Op} (hc:wKg P two k x y z op=true):OkU C P op (wFv two k x y z):=by
 intro σA h v h' hr μ σ w hE S o ho
 obtain ⟨t,kt,et,x',y',z',hop,d1,k1,c1,c2,c3⟩:=wNJ hc
 unfold wFv at hr
 split at hr <;> first | (cases hr;done) | skip
 rename_i b hx
 split at hr <;> first | (cases hr;done) | skip
 rename_i B hB
 split at hr <;> first | (cases hr;done) | skip
 rename_i B' hp
 split at hr <;> first | (cases hr;done) | skip
 rename_i h1' hput
 cases hr
 have g:=wAN c1 hE;rw [hx] at g
 obtain ⟨c,g1,g2⟩:=g
 obtain ⟨c',g3,g4⟩:=S.at_ b B hB
 rw [g1] at g3;cases g3
 obtain ⟨⟨K,_,mk,a,es,ck,tt,e1,e2,e3,e4,_,e6,_⟩,hl⟩:=wNI k1 g4 (wAN c2 hE) (.inr (.inl ⟨_,by rw [hp];rfl⟩))
 obtain ⟨es',ck',r1,r2⟩:=wQI (P:=P) (v:=ev σ z') e2 d1 e3 e4 (a:=a)
 obtain ⟨l1,l2⟩:=e6 _ (ev σ z') B' hp (wAN c3 hE)
 obtain ⟨s1,s2,s3⟩:=S.put hput hB hl g1 (wBk w c.1 (.map es' ck')) (l2 _ es' ck' (wEs _ (wAY e2)) r1)
 refine ⟨μ,_,s2,s1,rfl,s3,by rw [ho];rcases hop with e | e <;> (rw [e];rfl),?_⟩
 rcases hop with e | e <;> rw [e] at ho <;> simp [execOp,ho,g2,e1,r2,Result.andThen]
def wNK (P:Program) (two:Bool) (k:IntKind) (x y:AOd):Op->Bool
 | .call c=>match c.callee with
  | .builtin b=>(b == .delete) && (match c.args.toList,c.argTypes.toList with
   | [x',y'],t :: _=>wEF P t (fun d=>match d with | .map kt _=>wOH P two k kt | _=>false) && (wBr x x' && wBr y y')
   | _,_=>false)
  | _=>false
 | _=>false
theorem wRk {two:Bool} {k:IntKind} {x y:AOd} {op:Op} (hc:wNK P two k x y op=true):OkE C P op (wFw two k x y):=by
 intro σA h v h' hr μ σ w hE S o ho
 unfold wNK at hc
 split at hc <;> first | (cases hc;done) | skip
 rename_i c
 obtain ⟨ce,args,tys⟩:=c
 simp only at hc
 split at hc <;> first | (cases hc;done) | skip
 rename_i b
 simp only [hH,beq_iff_eq] at hc
 obtain ⟨rfl,h2⟩:=hc
 split at h2 <;> first | (cases h2;done) | skip
 rename_i x' y' t ts h3 h4
 simp only [hH] at h2
 obtain ⟨a1,a2,a3⟩:=h2
 obtain ⟨d,d1,d2⟩:=wAk a1
 split at d2 <;> first | (cases d2;done) | skip
 rename_i kt et
 have ea:args=#[x',y']:=nJ (by simpa using h3)
 have et':tys[0]?=some t:=by rw [<- kP,h4];rfl
 unfold wFw at hr
 split at hr <;> first | (cases hr;done) | skip
 rename_i b hx
 split at hr <;> first | (cases hr;done) | skip
 rename_i B hB
 split at hr <;> first | (cases hr;done) | skip
 rename_i B' hp
 split at hr <;> first | (cases hr;done) | skip
 rename_i h1' hput
 cases hr
 have g:=wAN a2 hE;rw [hx] at g
 obtain ⟨c,g1,g2⟩:=g
 obtain ⟨c',g3,g4⟩:=S.at_ b B hB
 rw [g1] at g3;cases g3
 obtain ⟨⟨K,_,mk,a,es,ck,tt,e1,e2,e3,e4,_,_,e7⟩,hl⟩:=wNI d2 g4 (wAN a3 hE) (.inr (.inr (by rw [hp];rfl)))
 obtain ⟨es',ck',r1,r2⟩:=wQJ (P:=P) (ty:=o.type) et' e2 d1 e3 e4 (a:=a)
 obtain ⟨l1,l2⟩:=e7 B' hp
 obtain ⟨s1,s2,s3⟩:=S.put hput hB hl g1 (wBk w c.1 (.map es' ck')) (l2 _ es' ck' (wEs _ (wAY e2)) r1)
 refine ⟨μ,_,_,s2,s1,wMn μ,s3,by rw [ho];rfl,?_⟩
 simp [execOp,ho,ea,resolve,invoke,builtin,g2,e1,r2,undef,Result.andThen]
def wIz (P:Program) (x:AOd):Op->Bool
 | .call c=>match c.callee with
  | .builtin b=>(b == .len) && (match c.args.toList,c.argTypes.toList with
   | [x'],[t]=>wEF P t (fun d=>match d with | .map _ _=>true | _=>false) && wBr x x'
   | _,_=>false)
  | _=>false
 | _=>false
theorem wRl {x:AOd} {op:Op} (hc:wIz P x op=true):OkL C P op (wEj x):=by
 intro σA h v h' hr
 unfold wIz at hc
 split at hc <;> first | (cases hc;done) | skip
 rename_i c
 obtain ⟨ce,args,tys⟩:=c
 simp only at hc
 split at hc <;> first | (cases hc;done) | skip
 rename_i b
 simp only [hH,beq_iff_eq] at hc
 obtain ⟨rfl,h2⟩:=hc
 split at h2 <;> first | (cases h2;done) | skip
 rename_i x' t h3 h4
 simp only [hH] at h2
 obtain ⟨a1,a2⟩:=h2
 obtain ⟨d,d1,d2⟩:=wAk a1
 split at d2 <;> first | (cases d2;done) | skip
 rename_i kt et
 have ea:args=#[x']:=nJ (by simpa using h3)
 have et':tys=#[t]:=nJ (by simpa using h4)
 subst ea et'
 unfold wEj at hr
 split at hr
 ·rename_i hx
  cases hr
  refine ⟨rfl,fun μ σ w hE S=>⟨_,rfl,fun o ho w' K=>?_⟩⟩
  have g:=wAN a2 hE;rw [hx] at g
  have g:ev σ x'=.map none:=g
  exact ⟨by rw [ho];rfl,by simp [execOp,ho,resolve,invoke,builtin,Builtin.len_,g,run_underlying d1,goInt,Result.andThen]⟩
 ·rename_i b hx
  split at hr <;> first | (cases hr;done) | skip
  rename_i B hB
  split at hr <;> first | (cases hr;done) | skip
  rename_i n hn
  cases hr
  refine ⟨rfl,fun μ σ w hE S=>⟨_,rfl,fun o ho w' K=>?_⟩⟩
  have g:=wAN a2 hE;rw [hx] at g
  obtain ⟨c,g1,g2⟩:=g
  obtain ⟨c',g3,g4⟩:=S.at_ b B hB
  rw [g1] at g3;cases g3
  have hmap:∃ es ck,w.heap[c.1]?=some (.map es ck)/\es.size=n:=by
   unfold lenB at hn
   split at hn <;> first | (cases hn;done) | skip
   ·cases hn;obtain ⟨ck,q⟩:=g4;exact ⟨_,ck,q,rfl⟩
   ·cases hn
    obtain ⟨es,ck,tt,q1,q2,q3⟩:=g4
    refine ⟨es,ck,q1,?_⟩
    have e1:=congrArg no q2
    have e2:=congrArg no q3.1
    simp at e1 e2
    rw [wEQ];omega
   ·cases hn
    obtain ⟨es,ck,tt,q1,q2,q3⟩:=g4
    refine ⟨es,ck,q1,?_⟩
    have e1:=congrArg no q2
    have e2:=congrArg no q3.1
    simp at e1 e2
    rw [wEQ];omega
  obtain ⟨es,ck,q1,q2⟩:=hmap
  have hm:=(K.block _ (wAY q1) id).trans q1
  refine ⟨by rw [ho];rfl,?_⟩
  simp [execOp,ho,resolve,invoke,builtin,Builtin.len_,g2,run_underlying d1,MapKept.run_getObj_map hm,goInt,Result.andThen,q2]
 ·cases hr
end
end
end Go.KX
namespace Go.KX
noncomputable section
open Go.RowKit Go.KL
def kdA:AOp->Nat
 | .mv _ | .pick _ _ _ | .nilc _ | .add _ _ | .sub _ _ | .mul _ _ | .quo _ _ | .rem _ _ | .lss _ _ | .leq _ _ | .gtr _ _ | .geq _ _ | .eql _ _ | .neq _ _ | .eqb _ _ _ | .eqn _ _ _ _ | .eqs _ _ _ _
 | .bad | .and _ _ | .shr _ _ | .ixs _ _ | .neg _ | .not _ | .cvt _ _ | .mkf _ _ _ | .slc _ _ _ _ _ | .slcA _ _ _ _ _ | .fad _ _ | .fld _ _ | .fldA _ _ _ | .iad _ _ _ | .iadA _ _ _ _ | .ix _ _ _ | .ixA _ _ _ _ | .ext _ _ | .bld _ _ | .len _ | .cap _ | .min _ _ | .max _ _=>3
 | .ld _ | .ldA _ _ | .lk _ _ _ _ _ _ | .lenM _=>1
 | .st _ _ _ | .mput _ _ _ _ _=>4
 | .call _ _=>5
 | _=>0
def wNL (x:AOd) (l:List AOd):Op->Bool
 | .call c=>match c.callee with
  | .value f=>wBr x f && wIv l c.args.toList
  | _=>false
 | _=>false
def wRC:List UInt8->List Nat->Bool
 | [],[]=>true
 | a :: l,b :: k=>nB a.toNat b && wRC l k
 | _,_=>false
theorem wNM:∀ {l:List UInt8} {k:List Nat},wRC l k=true->l.map UInt8.toNat=k
 | [],[],_=>rfl
 | a :: l,b :: k,h=>by
  simp only [wRC,hH] at h
  rw [nI,nA h.1,wNM h.2]
 | [],_ :: _,h=>by simp [wRC] at h
 | _ :: _,[],h=>by simp [wRC] at h
def wQL (P:Program) (l:List Nat) (y:AOd):Op->Bool
 | .index t (.const (.string s)) y'=>wEF P t (fun d=>match d with | .string=>true | _=>false) && (wRC s.data.toList l && wBr y y')
 | _=>false
def wGp (P:Program) (a:AOp) (op:Op):Bool:=match a with
 | .mv x=>c_mv x op
 | .pick c x y=>wMq c x y op
 | .new T z=>wND P T z op
 | .box T x=>wNE T x op
 | .ld x=>wRe P x op
 | .ldA n x=>wNC P n x op
 | .st n x y=>c_st P n x y op
 | .nilc x=>wMr x op
 | .add x y=>wCW .add x y op
 | .sub x y=>wCW .sub x y op
 | .mul x y=>wCW .mul x y op
 | .quo x y=>wCW .quo x y op
 | .rem x y=>wCW .rem x y op
 | .lss x y=>wCW .lss x y op
 | .leq x y=>wCW .leq x y op
 | .gtr x y=>wCW .gtr x y op
 | .geq x y=>wCW .geq x y op
 | .eql x y=>wCW .eql x y op
 | .neq x y=>wCW .neq x y op
 | .eqb ne x y=>wPr P ne x y op
 | .eqn k ne x y=>wPs P k ne x y op
 | .eqs ne s x y=>wPt P ne s x y op
 | .neg x=>wPm x op
 | .not x=>wPn x op
 | .cvt k x=>wPo (P:=P) k x op
 | .mkf f fi ca=>wPp f fi ca op
 | .mkm=>wNF op
 | .mks T sz by_ z x y=>wNG P T sz by_ z x y op
 | .slc sz x lo hi mx=>wPy P sz x lo hi mx op
 | .slcA sz n x lo hi=>wNA P sz n x lo hi op
 | .fad off x=>wPu P off x op
 | .fld off x=>wPv P off x op
 | .fldA off n x=>wMw P off n x op
 | .iad sz x y=>wPw P sz x y op
 | .iadA sz n x y=>wMx P sz n x y op
 | .ix n x y=>c_ix P n x y op
 | .ixA sz n x y=>wPx P sz n x y op
 | .lk two k ok z x y=>wRi P two k ok z x y op
 | .mput two k x y z=>wKg P two k x y z op
 | .mdel two k x y=>wNK P two k x y op
 | .ext i x=>wPq i x op
 | .bld z ps=>wPz P z ps op
 | .blds T n z ps=>wIy P T n z ps op
 | .len x=>wLT P .len x op
 | .lenM x=>wIz P x op
 | .cap x=>wLT P .cap x op
 | .app T sz by_ x y=>wOY P T sz by_ x y op
 | .cpy sz x y=>wQB P sz x y op
 | .clr z x=>wQC P z x op
 | .min x y=>wRB .min x y op
 | .max x y=>wRB .max x y op
 | .call x l=>wNL x l op
 | .bad=>true
 | .and x y=>wCW .and x y op
 | .shr x y=>wCW .shr x y op
 | .ixs l y=>wQL P l y op
 | .apz T sz by_ z x y=>wQD P T sz by_ z x y op
section
variable {C:Chk} {P:Program} {tb:Tr AF} {ex exY:Run}
theorem p_bad {op:Op}:OkP P op (wRR):=by
 intro σA h v h' hr
 cases hr
theorem p_and {x y:AOd} {op:Op} (hc:wCW .and x y op=true):OkP P op (wMf x y):=by
 intro σA h v h' hr
 obtain ⟨t,x',y',t',rfl,h1,h2⟩:=wFT hc
 obtain ⟨hr2,rfl⟩:=wBO hr
 split at hr2
 ·rename_i k a k' b ha hb
  split at hr2
  ·rename_i hk
   cases hr2
   have hk:=wBN hk
   subst hk
   refine ⟨rfl,fun μ σ hE=>⟨_,rfl,fun o w ho=>?_⟩⟩
   have g1:=wAN h1 hE;rw [ha] at g1
   have g2:=wAN h2 hE;rw [hb] at g2
   have g1:ev σ x'=.int k a:=g1
   have g2:ev σ y'=.int k b:=g2
   exact ⟨by rw [ho];rfl,by simp [execOp,ho,g1,g2,binOp,eqGuard,Op.intBits,andI]⟩
  ·cases hr2
 ·cases hr2
theorem p_shr {x y:AOd} {op:Op} (hc:wCW .shr x y op=true):OkP P op (wMg x y):=by
 intro σA h v h' hr
 obtain ⟨t,x',y',t',rfl,h1,h2⟩:=wFT hc
 obtain ⟨hr2,rfl⟩:=wBO hr
 split at hr2
 ·rename_i k a k' b ha hb
  cases hr2
  refine ⟨rfl,fun μ σ hE=>⟨_,rfl,fun o w ho=>?_⟩⟩
  have g1:=wAN h1 hE;rw [ha] at g1
  have g2:=wAN h2 hE;rw [hb] at g2
  have g1:ev σ x'=.int k a:=g1
  have g2:ev σ y'=.int k' (kJ b):=g2
  have hn:¬ (kJ b) < 0:=by simp
  exact ⟨by rw [ho];rfl,by simp [execOp,ho,g1,g2,binOp,eqGuard,Op.shift];intro hb0;omega⟩
 ·cases hr2
theorem p_ixs {l:List Nat} {y:AOd} {op:Op} (hc:wQL P l y op=true):OkP P op (wJp l y):=by
 intro σA h v h' hr
 unfold wQL at hc
 split at hc <;> first | (cases hc;done) | skip
 rename_i t s y'
 simp only [hH] at hc
 obtain ⟨c1,c2,c3⟩:=hc
 obtain ⟨d,d1,d2⟩:=wAk c1
 split at d2 <;> first | (cases d2;done) | skip
 have hl:=wNM c2
 unfold wJp at hr
 split at hr
 ·rename_i k i hy
  obtain ⟨hr2,rfl⟩:=wBO hr
  split at hr2
  ·rename_i b hb
   cases hr2
   rw [wFy,<- hl,nW] at hb
   have hi:i < s.data.toList.length:=by
    rcases np i s.data.toList.length with q | q
    ·exact q
    ·rw [kO q] at hb;cases hb
   have hi2:i < s.size:=by simpa using hi
   rw [nM hi] at hb
   have hb:(s.data.toList[i]).toNat=b:=by simpa using hb
   refine ⟨rfl,fun μ σ hE=>⟨_,rfl,fun o w ho=>?_⟩⟩
   have g:=wAN c3 hE;rw [hy] at g
   have g:ev σ y'=.int k (kJ i):=g
   have hx:ev σ (.const (.string s))=.string s:=rfl
   have hrun:=run_index_string (P:=P) w t s k (kJ i) d1
   rw [dif_pos ⟨by simp,by simpa using hi2⟩] at hrun
   have hbb:(s[(kJ i).toNat]'(by simpa using hi2)).toNat=b:=by rw [<- hb];rfl
   rw [hbb] at hrun
   simp only [nZ] at hrun
   exact ⟨by rw [ho];rfl,by simp only [execOp,ho,hx,g];simp [hrun]⟩
  ·cases hr2
 ·cases hr
theorem wHo {a:AOp} {op:Op} (hk:kdA a=3) (hc:wGp P a op=true):OkP P op (opY a tb ex exY):=by
 cases a <;> first
  | (simp [kdA] at hk;done)
  | exact p_bad | exact p_and hc | exact p_shr hc | exact p_ixs hc | exact p_mv hc | exact wRX hc | exact wRY hc | exact p_add hc | exact p_sub hc | exact p_mul hc | exact p_quo hc | exact p_rem hc
  | exact p_lss hc | exact p_leq hc | exact p_gtr hc | exact p_geq hc | exact p_eql hc | exact p_neq hc | exact p_eqb hc | exact p_eqn hc | exact p_eqs hc
  | exact p_neg hc | exact p_not hc | exact p_cvt hc | exact p_mkf hc | exact p_slc hc | exact wRc hc | exact p_fad hc | exact p_fld hc | exact wRa hc
  | exact p_iad hc | exact wRb hc | exact p_ix hc | exact p_ixA hc | exact p_ext hc | exact p_bld hc | exact p_len hc | exact p_cap hc | exact p_min hc | exact p_max hc
theorem wHp {a:AOp} {op:Op} (hk:kdA a=1 \/ kdA a=3) (hc:wGp P a op=true):OkL C P op (opY a tb ex exY):=by
 rcases hk with hk | hk
 ·cases a <;> first
   | (simp [kdA] at hk;done)
   | exact l_ld hc | exact l_ldA hc | exact l_lk hc | exact wRl hc
 ·exact (wHo hk hc).toL
theorem wRm {a:AOp} {op:Op} (hk:kdA a=0 \/ kdA a=1 \/ kdA a=3) (hc:wGp P a op=true):OkE C P op (opY a tb ex exY):=by
 rcases hk with hk | hk
 ·cases a <;> first
   | (simp [kdA] at hk;done)
   | exact e_new hc | exact e_box hc | exact e_mkm hc | exact e_mks hc | exact wRk hc | exact wRf hc | exact e_app hc | exact e_apz hc | exact e_cpy hc | exact e_clr hc
 ·exact (wHp hk hc).toE
theorem wRn {a:AOp} {op:Op} (hk:kdA a=4) (hc:wGp P a op=true):OkU C P op (opY a tb ex exY):=by
 cases a <;> first
  | (simp [kdA] at hk;done)
  | exact u_st hc | exact wRj hc
def wFz (C:Chk) (P:Program) (tb:Tr AF) (ex:Run):Prop:=∀ f args h v h',wIq tb ex f args h=some (v,h') ->
 (∀ (a:Array Value) (w:World),(callFunc (f.nat - 1) a).run P w=.ok (.enter (f.nat - 1) a) w) /\
 ∀ μ w vs,Sim C P μ h w->RvL μ args vs->Gv P (f.nat - 1) vs w fun cv w'=>∃ μ',Ext μ h.fl.nat w μ' w'/\Sim C P μ' h' w'/\Rv μ' v cv/\h'.fl=h.fl
def wEy (C:Chk) (P:Program) (ex:Run):Prop:=∀ b args h v h',wIr ex b args h=some (v,h') ->
 ∀ μ w x c,Sim C P μ h w->RvL μ args x->μ b=some c->Yd P c.1 x w fun t w'=>∃ μ',Ext μ h.fl.nat w μ' w'/\Sim C P μ' h' w'/\v=.bool t/\h'.fl=h.fl
def wGq (P:Program) (N:Nat) (l:List Oper) (a:AO):Bool:=match l[a.ix]? with
 | none=>false
 | some o=>wGp P a.op o.op && ((match a.dst,o.dst with
   | none,none=>true
   | some p,some d=>nB p.nat (d + 1) && nu d N
   | _,_=>false) && ((match a.grd,o.guard with
   | none,none=>true
   | some (p,b),some (j,b')=>(b == b') && (match (l[j]?).bind (·.dst) with | some d=>nB p.nat (d + 1) | none=>false)
   | _,_=>false) && ((match a.kd with
   | 3=>nB (kdA a.op) 3
   | 1=>nB (kdA a.op) 1 || nB (kdA a.op) 3
   | _=>true) && ((!Nat.beq (kdA a.op) 4 || o.dst.isNone) && !Nat.beq a.kd 1005))))
structure AOK (P:Program) (N:Nat) (l:List Oper) (a:AO) (o:Oper):Prop where
 get:l[a.ix]?=some o
 op:wGp P a.op o.op=true
 dst:(a.dst=none/\o.dst=none) \/ ∃ p d,a.dst=some p/\o.dst=some d/\d=p.nat - 1/\d < N
 grd:(a.grd=none/\o.guard=none) \/ ∃ p b j d,a.grd=some (p,b)/\o.guard=some (j,b)/\(l[j]?).bind (·.dst)=some d/\d=p.nat - 1
 k3:a.kd=3->kdA a.op=3
 k1:a.kd=1->kdA a.op=1 \/ kdA a.op=3
 un:kdA a.op=4->o.dst=none
 k5:a.kd ≠ 1005
theorem wDI {N:Nat} {l:List Oper} {a:AO} (hc:wGq P N l a=true):∃ o,AOK P N l a o:=by
 unfold wGq at hc
 split at hc
 ·cases hc
 ·rename_i o ho
  simp only [hH] at hc
  obtain ⟨c1,c2,c3,c4,c5,c6⟩:=hc
  refine ⟨o,ho,c1,?_,?_,?_,?_,?_,?_⟩
  ·split at c2
   ·rename_i h1 h2;exact .inl ⟨h1,h2⟩
   ·rename_i p d h1 h2
    simp only [hH,nL] at c2
    have:=nA c2.1
    exact .inr ⟨p,d,h1,h2,by rw [this];rfl,c2.2⟩
   ·cases c2
  ·split at c3
   ·rename_i h1 h2;exact .inl ⟨h1,h2⟩
   ·rename_i p b j b' h1 h2
    simp only [hH,beq_iff_eq] at c3
    obtain ⟨rfl,c3⟩:=c3
    split at c3
    ·rename_i d hd
     have:=nA c3
     exact .inr ⟨p,b,j,d,h1,h2,hd,by rw [this];rfl⟩
    ·cases c3
   ·cases c3
  ·intro hk;rw [hk] at c4;exact nA c4
  ·intro hk;rw [hk] at c4
   simp only [kK] at c4
   exact c4.imp nA nA
  ·intro hk;rw [hk] at c5
   simpa using c5
  ·intro hk;rw [hk] at c6
   simp at c6
theorem wIO {N:Nat} {l:List Oper} {a:AO} {o:Oper} {μ:Mu} {σA:Tr AV} {σ:Env} (A:AOK P N l a o) (hE:EnvR μ σA σ):wanted l σ o=wCj σA a.grd:=by
 unfold wanted
 rcases A.grd with ⟨h1,h2⟩ | ⟨p,b,j,d,h1,h2,h3,h4⟩
 ·rw [h1,h2];rfl
 ·rw [h1,h2]
  simp only [h3]
  show _=isB b (evA σA (.t p))
  have g:=hE p
  rw [<- h4] at g
  unfold isB
  cases hv:evA σA (.t p) <;> rw [hv] at g <;> simp only [Rv] at g <;>
   first | (rw [g];done) | (obtain ⟨_,_,_,_,_,g⟩:=g;rw [g];done) | (obtain ⟨_,_,_,_,g⟩:=g;rw [g];done) | (obtain ⟨_,_,_,g⟩:=g;rw [g];done) | (obtain ⟨_,_,g⟩:=g;rw [g];done) | (obtain ⟨_,g⟩:=g;rw [g];done) | rw [g]
theorem wEB {N:Nat} {l:List Oper} {a:AO} {o:Oper} {μ:Mu} {σA:Tr AV} {σ:Env} {v:AV} {cv:Value} (A:AOK P N l a o) (hE:EnvR μ σA σ) (hv:Rv μ v cv):EnvR μ (wGC a.dst σA v) (put' σ o cv):=by
 rcases A.dst with ⟨h1,h2⟩ | ⟨p,d,h1,h2,h3,_⟩
 ·rw [h1];unfold put';rw [h2];exact hE
 ·rw [h1];unfold put';rw [h2];subst h3;exact hE.put hv
theorem wHq {N:Nat} {l:List Oper} {a:AO} {o:Oper} (A:AOK P N l a o):∀ d,o.dst=some d->d < N:=by
 intro d hd
 rcases A.dst with ⟨_,h2⟩ | ⟨p,d',_,h2,_,h4⟩
 ·rw [h2] at hd;cases hd
 ·rw [h2] at hd;cases hd;exact h4
theorem wRo (HC:wFz C P tb ex) (HY:wEy C P exY) {N:Nat} {l:List Oper} {a:AO} {o:Oper} {μ:Mu} {σA:Tr AV} {σ:Env} {h h':AH} {v:AV} {w:World} (A:AOK P N l a o) (hw:wanted l σ o=true) (hr:opY a.op tb ex exY σA h=some (v,h')) (hE:EnvR μ σA σ) (S:Sim C P μ h w) :
  Step1 P l o σ w fun cv w'=>∃ μ',Ext μ h.fl.nat w μ' w'/\Sim C P μ' h' w'/\EnvR μ' (wGC a.dst σA v) (put' σ o cv)/\h'.fl=h.fl:=by
 have hop:=A.op
 by_cases k4:kdA a.op=4
 ·obtain ⟨μ',w',h1,h2,rfl,h4,h5⟩:=wRn (C:=C) k4 hop σA h v h' hr μ σ w hE S o rfl
  exact .inl ⟨hw,.inl ⟨A.un k4,w',h5,μ',h1,h2,wEB A (hE.mono h1.mono) (wMn μ'),h4⟩⟩
 ·by_cases k5:kdA a.op=5
  ·cases hq:a.op <;> rw [hq] at k5 <;> first | (simp [kdA] at k5;done) | skip
   rename_i x args
   rw [hq] at hop hr
   have hop:wNL x args o.op=true:=hop
   unfold wNL at hop
   split at hop <;> first | (cases hop;done) | skip
   rename_i c hoc
   obtain ⟨ce,cargs,tys⟩:=c
   simp only at hop
   split at hop <;> first | (cases hop;done) | skip
   rename_i f
   simp only [hH] at hop
   have hx:=wAN hop.1 hE
   have ha:=wGH hop.2 hE
   have hr:wFx x args tb ex exY σA h=some (v,h'):=hr
   unfold wFx at hr
   split at hr
   ·rename_i g fi ca hg
    rw [hg] at hx
    obtain ⟨fv,cv,g1,g2,g3⟩:=hx
    obtain ⟨hcall,hgv⟩:=HC _ _ _ _ _ hr
    have G:=hgv μ w _ S (wDv g1 (wDv ha g2))
    refine .inl ⟨hw,.inr (.inr (.inl ⟨_,_,_,Enters.mk (l:=cargs.toList) hoc g3 hcall rfl (by rw [kB]),G,?_⟩))⟩
    rintro cv' w' ⟨μ',h1,h2,h3,h4⟩
    exact ⟨μ',h1,h2,wEB A (hE.mono h1.mono) h3,h4⟩
   ·rename_i b hb
    rw [hb] at hx
    obtain ⟨c,g1,g2⟩:=hx
    have hy:=HY _ _ _ _ _ hr
    have Y:=hy μ w _ c S ha g1
    have R:=Yd.rounds (σ:=σ) hoc g2 rfl Y
    refine .inl ⟨hw,.inr (.inr (.inr (R.mono ?_)))⟩
    rintro cv w' ⟨t,rfl,μ',h1,h2,rfl,h4⟩
    exact ⟨μ',h1,h2,wEB A (hE.mono h1.mono) rfl,h4⟩
   ·cases hr
  ·have hk:kdA a.op=0 \/ kdA a.op=1 \/ kdA a.op=3:=by
    cases hq:a.op <;> rw [hq] at k4 k5 <;> simp [kdA] at k4 k5 ⊢
   obtain ⟨μ',w',cv,h1,h2,h3,h4,h5⟩:=wRm (C:=C) hk hop σA h v h' hr μ σ w hE S o rfl
   exact .inl ⟨hw,.inr (.inl ⟨cv,w',h5,μ',h1,h2,wEB A (hE.mono h1.mono) h3,h4⟩)⟩
theorem wRp (HC:wFz C P tb ex) (HY:wEy C P exY) {N:Nat} {l:List Oper} {a:AO} {o:Oper} {μ:Mu} {σA:Tr AV} {σ:Env} {h h':AH} {v:AV} {w:World} (A:AOK P N l a o) (hw:wanted l σ o=true) (hr:opK a.kd a.op tb ex exY σA h=some (v,h')) (hE:EnvR μ σA σ) (S:Sim C P μ h w) :
  Step1 P l o σ w fun cv w'=>(a.kd=2->Keep w w' Non)/\∃ μ',Ext μ h.fl.nat w μ' w'/\Sim C P μ' h' w'/\EnvR μ' (wGC a.dst σA v) (put' σ o cv)/\h'.fl=h.fl:=by
 by_cases k2:a.kd=2
 ·have hr:wPA a.op tb ex exY σA h=some (v,h'):=by rw [k2] at hr;exact hr
  unfold wPA at hr
  split at hr
  ·rename_i v0 h0 hq
   cases hr
   refine (wRo HC HY A hw hq hE (S.floor h.nx)).mono ?_
   rintro cv w' ⟨μ',h1,h2,h3,h4⟩
   obtain ⟨g1,g2⟩:=S.non h1 h.fl.nat
   exact ⟨fun _=>g1,μ',g2,h2.floor h.fl,h3,rfl⟩
  ·cases hr
 ·have hr:opY a.op tb ex exY σA h=some (v,h'):=by
   have hb:nB a.kd 2=false:=by
    cases hb:nB a.kd 2 with
    | false=>rfl
    | true=>exact absurd (nA hb) k2
   have:opK a.kd a.op=opY a.op:=by unfold opK;rw [hb]
   rw [this] at hr;exact hr
  exact (wRo HC HY A hw hr hE S).mono fun cv w' hq=>⟨fun e=>absurd e k2,hq⟩
def flK (k:Nat):Bool:=nB k 1 || nB k 3
def wJA:List AO->Sch
 | []=>.nil
 | a :: os=>match flK a.kd with
  | true=>.fl a.ix (wJA os)
  | false=>.fx a.ix (wJA os) .stop
theorem wJB (HC:wFz C P tb ex) (HY:wEy C P exY) {N:Nat} {l:List Oper} {ks:List Nat} {Q:wDP} {D:List Deferred}:∀ (os:List AO) (σA:Tr AV) (h:AH) (σA':Tr AV) (h':AH),wAf tb ex exY os σA h=some (σA',h') ->
  (∀ a ∈ os,wGq P N l a=true/\kOf ks a.ix=a.kd)->∀ (μ:Mu) (σ:Env) (w:World),Sim C P μ h w->EnvR μ σA σ ->
  (∀ μ' w' σ',Ext μ h.fl.nat w μ' w'->Sim C P μ' h' w'->EnvR μ' σA' σ'->h'.fl=h.fl->Q D .normal σ' w')->OKS N P l Q D ks (wJA os) σ w
 | [],σA,h,σA',h',hr,_,μ,σ,w,S,hE,hQ=>by
  rw [wAp] at hr;cases hr
  exact hQ μ w σ (Ext.refl μ _ w) S hE rfl
 | a :: os,σA,h,σA',h',hr,hc,μ,σ,w,S,hE,hQ=>by
  obtain ⟨hc1,hk⟩:=hc a (by simp)
  obtain ⟨o,A⟩:=wDI hc1
  have hc2:∀ b ∈ os,wGq P N l b=true/\kOf ks b.ix=b.kd:=fun b hb=>hc b (by simp [hb])
  rw [wAs] at hr
  have hw:=wIO A hE
  cases hwa:wCj σA a.grd with
  | false =>
   rw [hwa] at hr hw
   simp only at hr
   have IH:=wJB HC HY os _ h σA' h' hr hc2 μ (put' σ o undef) w S (wEB A hE (wMn μ)) hQ
   unfold wJA
   split
   ·exact ⟨o,A.get,wHq A,.inr ⟨hw,IH⟩⟩
   ·exact ⟨⟨o,A.get,wHq A,.inr ⟨hw,KeepD.refl l ks _ w,IH⟩⟩,trivial⟩
  | true =>
   rw [hwa] at hr hw
   simp only at hr
   split at hr
   ·rename_i r hop
    obtain ⟨v,h1⟩:=r
    simp only at hr
    unfold wJA
    split
    ·rename_i hfl
     have hk13:a.kd=1 \/ a.kd=3:=by
      unfold flK at hfl
      simp only [kK] at hfl
      exact hfl.imp nA nA
     have hop:opY a.op tb ex exY σA h=some (v,h1):=by
      rcases hk13 with e | e <;> (rw [e] at hop;exact hop)
     have hL:kdA a.op=1 \/ kdA a.op=3:=by
      rcases hk13 with e | e
      ·exact A.k1 e
      ·exact .inr (A.k3 e)
     obtain ⟨rfl,hh⟩:=wHp (C:=C) hL A.op σA h v h1 hop
     obtain ⟨cv,g1,g2⟩:=hh μ σ w hE S
     refine ⟨o,A.get,wHq A,.inl ⟨hw,?_⟩⟩
     by_cases k3:a.kd=3
     ·obtain ⟨_,hp⟩:=wHo (tb:=tb) (ex:=ex) (exY:=exY) (A.k3 k3) A.op σA h1 v h1 hop
      obtain ⟨cv,g1,g2⟩:=hp μ σ hE
      exact ⟨cv,fun w' _=>g2 o w' rfl,⟨fun _ w'=>g2 o w' rfl,fun _ w' _=>g2 o w' rfl⟩,wJB HC HY os _ h1 σA' h' hr hc2 μ _ w S (wEB A hE g1) hQ⟩
     ·exact ⟨cv,g2 o rfl,⟨fun e=>absurd (hk ▸ e) k3,fun e=>by rw [hk] at e;rcases hk13 with q | q <;> omega⟩,wJB HC HY os _ h1 σA' h' hr hc2 μ _ w S (wEB A hE g1) hQ⟩
    ·refine ⟨⟨o,A.get,wHq A,(wRp HC HY A hw hop hE S).mono ?_⟩,trivial⟩
     rintro cv w1 ⟨q0,μ1,q1,q2,q3,q4⟩
     refine ⟨⟨fun e=>q0 (hk ▸ e),fun e=>absurd (hk ▸ e) A.k5⟩,wJB HC HY os _ h1 σA' h' hr hc2 μ1 _ w1 q2 q3 fun μ' w' σ' r1 r2 r3 r4=>?_⟩
     rw [q4] at r1 r4
     exact hQ μ' w' σ' (q1.trans r1) r2 r3 r4
   ·cases hr
end
end
end Go.KX
namespace Go.KX
open Go.RowKit Go.KL
section
variable {C:Chk} {P:Program} {tb:Tr AF} {ex exY:Run}
def OkA (C:Chk) (P:Program) (op:Op) (f:Tr AV->AH->Option (AV × AH)):Prop :=
 ∀ σA h v h',f σA h=some (v,h')->∃ (B:AB) (vf:Pos->AV),h'=h.push B/\v=vf h.nx/\(∀ h2:AH,f σA h2=some (vf h2.nx,h2.push B))/\wLQ B/\∀ μ σ,EnvR μ σA σ->∀ o:Oper,o.op=op ->
  ∃ (ob:Obj) (val:Nat->Value),(∀ w:World,Runs P σ w o (val w.heap.size) (w.alloc ob)) /\
   (∀ μ' (w:World) b,μ.Le μ'->w.heap[b]?=some ob->AbR C P μ' w ⟨b,0,g0⟩ B)/\∀ μ' p b,μ' p=some ⟨b,0,g0⟩->Rv μ' (vf p) (val b)
theorem wLV {α:Type} {b:Bool} {x:Option α} (h:b=true):ifO b x=x:=by subst h;rfl
theorem a_new {T:Nat} {z:List AV} {op:Op} (hc:wND P T z op=true):OkA C P op (wPd T z):=by
 intro σA h v h' hr
 cases hr
 unfold wND at hc
 split at hc
 ·simp only [hH] at hc
  have e:=nA hc.1
  subst e
  obtain ⟨i,zv,z1,z2,z3⟩:=wEv hc.2
  refine ⟨.cells T z,fun p=>.ptr p 0,rfl,rfl,fun h2=>rfl,trivial,fun μ σ hE o ho=>?_⟩
  refine ⟨_,fun b=>.pointer (some ⟨b,0,none⟩),fun w=>⟨by rw [ho];rfl,?_⟩,fun μ' w b hm hb=>⟨_,z3 μ',hb⟩,fun μ' p b hp=>⟨_,hp,rfl⟩⟩
  simp [execOp,ho,Instr.alloc,wDf z1 z2,newVar,newRow,newObj,Sem.run]
 ·cases hc
theorem a_box {T:Nat} {x:AOd} {op:Op} (hc:wNE T x op=true):OkA C P op (wLM T x):=by
 intro σA h v h' hr
 cases hr
 unfold wNE at hc
 split at hc
 ·simp only [hH] at hc
  have e:=nA hc.1
  subst e
  refine ⟨.cells T _,fun p=>.ptr p 0,rfl,rfl,fun h2=>rfl,trivial,fun μ σ hE o ho=>?_⟩
  obtain ⟨vs,v1,v2⟩:=wGG (wAN hc.2 hE)
  refine ⟨.cells vs.toArray T,fun b=>.pointer (some ⟨b,0,none⟩),fun w=>⟨by rw [ho];rfl,?_⟩,fun μ' w b hm hb=>⟨vs,v1.mono hm,hb⟩,fun μ' p b hp=>⟨_,hp,rfl⟩⟩
  simp [execOp,ho,Instr.box,newVar,newRow,newObj,v2,Sem.run]
 ·cases hc
theorem a_mkm {op:Op} (hc:wNF op=true):OkA C P op wPe:=by
 intro σA h v h' hr
 cases hr
 unfold wNF at hc
 split at hc
 ·refine ⟨.map0,fun p=>.map p,rfl,rfl,fun h2=>rfl,trivial,fun μ σ hE o ho=>?_⟩
  refine ⟨.map #[] 0,fun b=>.map (some b),fun w=>⟨by rw [ho];rfl,?_⟩,fun μ' w b hm hb=>⟨0,hb⟩,fun μ' p b hp=>⟨_,hp,rfl⟩⟩
  simp [execOp,ho,Instr.makeMap,newObj,Sem.run,Result.andThen]
 ·cases hc
theorem a_mks {T sz by_:Nat} {z:List AV} {x y:AOd} {op:Op} (hc:wNG P T sz by_ z x y op=true):OkA C P op (wGc T sz by_ z x y):=by
 intro σA h v h' hr
 unfold wNG at hc
 split at hc
 ·rename_i t x' y'
  simp only [hH] at hc
  obtain ⟨c1,c2,c3,c4,c5,c6,c7⟩:=hc
  obtain ⟨d,d1,d2⟩:=wAk c1
  split at d2 <;> first | (cases d2;done) | skip
  have e:=nA d2
  subst e
  rename_i e
  obtain ⟨i,i1,i2⟩:=wGI c2
  obtain ⟨i',j1,j2⟩:=wGJ c3
  obtain ⟨i'',zv,k1,k2,k3⟩:=wEv c4
  rw [i1] at j1 k1;cases j1;cases k1
  have hz:=nA c5
  unfold wGc at hr
  split at hr
  ·rename_i l c hl hcc
   obtain ⟨hb,hr⟩:=wBJ hr
   cases hr
   simp only [hH,nT] at hb
   obtain ⟨⟨⟨b1,b2⟩,b3⟩,b4⟩:=hb
   refine ⟨.cells e (rep c z),fun p=>.sl p 0 l c,rfl,rfl,fun h2=>(by simp only [wGc,hl,hcc];exact wLV (by simp [b1,b2,b3,b4])),trivial,fun μ σ hE o ho=>?_⟩
   have hx:=wAN c6 hE;rw [wBq hl] at hx
   have hy:=wAN c7 hE;rw [wBq hcc] at hy
   have hx:ev σ x'=.int .i64 (l:Int):=hx
   have hy:ev σ y'=.int .i64 (c:Int):=hy
   have zlen:zv.cells.size=sz:=by rw [<- hz,wEQ,<- wCw (k3 μ)];simp
   have hcells:(madeCells zv.cells (c * sz))=((nG c zv.cells.toList).flatten).toArray:=by
    apply nJ
    have:=wEx (zc:=zv.cells) (n:=0) c
    simp only [or_false] at this
    rw [zlen] at this
    show ((na (c * sz)).map (zv.cells[· % zv.cells.size]!)).toList=_
    rw [zlen,this]
   refine ⟨.cells ((nG c zv.cells.toList).flatten).toArray e,fun b=>.slice (some ⟨b,0,none⟩) l c,fun w=>⟨by rw [ho];rfl,?_⟩,fun μ' w b hm hb=>⟨_,wGi (k3 μ') c,hb⟩,fun μ' p b hp=>⟨_,hp,b1,rfl⟩⟩
   have hrun:=run_makeSlice (P:=P) w t e i zv d1 i1 k2 .i64 .i64 (l:Int) (c:Int) (by omega) (by omega) (by rw [i2,nq];exact b2) (by rw [j2];have hb:=Int.ofNat_le.2 b3;rw [Int.natCast_mul] at hb;exact hb) (by omega)
   simp only [nq,i2] at hrun
   rw [hcells] at hrun
   simp [execOp,ho,hx,hy,hrun,Result.andThen]
  ·cases hr
 ·cases hc
theorem wRq {T n:Nat} {z:List AV} {ps:List (Nat × Nat × AOd)} {op:Op} (hc:wIy P T n z ps op=true):OkA C P op (wEO T n z ps):=by
 intro σA h v h' hr
 unfold wIy at hc
 split at hc
 ·rename_i t m qs
  simp only [hH] at hc
  obtain ⟨c1,c2,c3⟩:=hc
  have e:=nA c1
  subst e
  obtain ⟨d,d1,d2⟩:=wAk c2
  split at d2 <;> first | (cases d2;done) | skip
  have e:=nA d2
  subst e
  rename_i e
  split at c3
  ·rename_i i hi
   simp only [hH,nT] at c3
   obtain ⟨c3,c4,c5⟩:=c3
   split at c5
   ·rename_i zv hz
    unfold wEO at hr
    split at hr
    ·rename_i r hr3
     cases hr
     refine ⟨.cells e r,fun p=>.sl p 0 m m,rfl,rfl,fun h2=>by simp only [wEO,hr3],trivial,fun μ σ hE o ho=>?_⟩
     obtain ⟨R,r1,r2,r3⟩:=wGn hE hr3 c4 (wFl μ c5)
     have hf:=wDW _ _ _ _ r1
     refine ⟨.cells R.toArray e,fun b=>.slice (some ⟨b,0,none⟩) m m,fun w=>⟨by rw [ho];rfl,?_⟩,fun μ' w b hm hb=>⟨_,r2.mono hm,hb⟩,fun μ' p b hp=>⟨_,hp,nH _,rfl⟩⟩
     have hs:∀ w,(sizeOf e).run P w=.ok i.size w:=fun w=>by simp [sizeOf,typeInfo,hi]
     have hn':¬ m * i.size > 2 ^ 24:=by omega
     have hq:(qs.map fun (p:Nat × Operand)=>(p.1,ev σ p.2)).toList=qs.toList.map fun (p:Nat × Operand)=>(p.1,ev σ p.2):=by simp
     by_cases h0:m * i.size=0
     ·rw [h0] at hf
      simp only [List.range_zero,kE] at hf
      have hr0:(na 0).map (fun x=>(#[]:Array Value)[x % (#[]:Array Value).size]!)=#[]:=by rw [show (na 0)=#[] from rfl,Array.map_empty]
      have hn0:¬ (0:Nat) > 2 ^ 24:=by decide
      simp only [execOp,ho,Instr.buildSlice,Sem.run_bind,wAn d1,hs,Result.andThen_ok,h0,if_neg hn0,if_true,Sem.run_pure,hq,hr0,hf]
      simp [newRow,newObj,Sem.run,Result.andThen]
     ·have hzs:(na (m * i.size)).map (zv.cells[· % zv.cells.size]!)=((kl (m * i.size)).map fun k=>zv.cells[k % zv.cells.size]!).toArray:=by rw [<- kZ,List.map_toArray]
      simp only [execOp,ho,Instr.buildSlice,Sem.run_bind,wAn d1,hs,wDf hi hz,Result.andThen_ok,if_neg hn',if_neg h0,Sem.run_pure,hq,hzs,hf]
      simp [newRow,newObj,Sem.run,Result.andThen]
    ·cases hr
   ·cases c5
  ·cases c3
 ·cases hc
def wBL:AOp->List AOd
 | .mv x=>[x]
 | .pick c x y=>[c] ++ [x] ++ [y]
 | .new _ _=>[]
 | .box _ x=>[x]
 | .ld x=>[x]
 | .ldA _ x=>[x]
 | .st _ x y=>[x] ++ [y]
 | .nilc x=>[x]
 | .add x y=>[x] ++ [y]
 | .sub x y=>[x] ++ [y]
 | .mul x y=>[x] ++ [y]
 | .quo x y=>[x] ++ [y]
 | .rem x y=>[x] ++ [y]
 | .lss x y=>[x] ++ [y]
 | .leq x y=>[x] ++ [y]
 | .gtr x y=>[x] ++ [y]
 | .geq x y=>[x] ++ [y]
 | .eql x y=>[x] ++ [y]
 | .neq x y=>[x] ++ [y]
 | .eqb _ x y=>[x] ++ [y]
 | .eqn _ _ x y=>[x] ++ [y]
 | .eqs _ _ x y=>[x] ++ [y]
 | .neg x=>[x]
 | .not x=>[x]
 | .cvt _ x=>[x]
 | .mkf _ fi ca=>fi ++ ca
 | .mkm =>[]
 | .mks _ _ _ _ x y=>[x] ++ [y]
 | .slc _ x lo hi mx=>[x] ++ lo.toList ++ hi.toList ++ mx.toList
 | .slcA _ _ x lo hi=>[x] ++ lo.toList ++ hi.toList
 | .fad _ x=>[x]
 | .fld _ x=>[x]
 | .fldA _ _ x=>[x]
 | .iad _ x y=>[x] ++ [y]
 | .iadA _ _ x y=>[x] ++ [y]
 | .ix _ x y=>[x] ++ [y]
 | .ixA _ _ x y=>[x] ++ [y]
 | .lk _ _ _ _ x y=>[x] ++ [y]
 | .mput _ _ x y z=>[x] ++ [y] ++ [z]
 | .mdel _ _ x y=>[x] ++ [y]
 | .ext _ x=>[x]
 | .bld _ ps=>(ps.map fun q=>q.2.2)
 | .blds _ _ _ ps=>(ps.map fun q=>q.2.2)
 | .len x=>[x]
 | .lenM x=>[x]
 | .cap x=>[x]
 | .app _ _ _ x y=>[x] ++ [y]
 | .cpy _ x y=>[x] ++ [y]
 | .clr _ x=>[x]
 | .min x y=>[x] ++ [y]
 | .max x y=>[x] ++ [y]
 | .and x y=>[x] ++ [y]
 | .shr x y=>[x] ++ [y]
 | .ixs _ y=>[y]
 | .apz _ _ _ _ x y=>[x] ++ [y]
 | .call x l=>[x] ++ l
 | .bad=>[]
theorem wFW {σ1 σ2:Tr AV}:∀ {l:List AOd},(∀ x ∈ l,evA σ1 x=evA σ2 x)->evs σ1 l=evs σ2 l
 | [],_=>rfl
 | x :: l,h=>by
  show evA σ1 x :: evs σ1 l=evA σ2 x :: evs σ2 l
  rw [h x (by simp),wFW fun y hy=>h y (by simp [hy])]
theorem wEz {σ1 σ2:Tr AV}:∀ {ps:List (Nat × Nat × AOd)} {cs:List AV},(∀ q ∈ ps,evA σ1 q.2.2=evA σ2 q.2.2)->wIH σ1 cs ps=wIH σ2 cs ps
 | [],cs,_=>rfl
 | (off,n,x) :: ps,cs,h=>by
  have e:evA σ1 x=evA σ2 x:=h (off,n,x) (by simp)
  simp only [wIH,e]
  cases nB (len (evA σ2 x).cells) n with
  | false=>rfl
  | true =>
   cases wPb cs off (evA σ2 x).cells with
   | none=>rfl
   | some cs'=>exact wEz fun q hq=>h q (by simp [hq])
theorem wES {σ1 σ2:Tr AV} {o:Option AOd} (h:∀ x ∈ o.toList,evA σ1 x=evA σ2 x):bnd σ1 o=bnd σ2 o:=by
 cases o with
 | none=>rfl
 | some x =>
  have e:=h x (by simp)
  simp only [bnd,e]
theorem wNN {σ1 σ2:Tr AV} (op:AOp) (h:∀ x ∈ wBL op,evA σ1 x=evA σ2 x) (hh:AH):opY op tb ex exY σ1 hh=opY op tb ex exY σ2 hh:=by
 cases op with
 | bld z ps=>exact (show wMc z ps σ1 hh=wMc z ps σ2 hh by simp only [wMc];rw [wEz fun q hq=>h q.2.2 (kD.2 ⟨q,hq,rfl⟩)])
 | blds T n z ps=>exact (show wEO T n z ps σ1 hh=wEO T n z ps σ2 hh by simp only [wEO];rw [wEz fun q hq=>h q.2.2 (kD.2 ⟨q,hq,rfl⟩)])
 | mkf f fi ca=>exact (show wLN f fi ca σ1 hh=wLN f fi ca σ2 hh by simp only [wLN];rw [wFW fun x hx=>h x (nS _ hx),wFW fun x hx=>h x (nR _ hx)])
 | call x l=>exact (show wFx x l tb ex exY σ1 hh=wFx x l tb ex exY σ2 hh by simp only [wFx];rw [h x (nS _ (by simp)),wFW fun y hy=>h y (nR _ hy)])
 | slc sz x lo hi mx=>exact (show wJh sz x lo hi mx σ1 hh=wJh sz x lo hi mx σ2 hh by
   simp only [wJh]
   rw [h x (by simp [wBL]),wES fun y hy=>h y (by simp only [wBL,nP];exact .inl (.inl (.inr hy))),wES fun y hy=>h y (by simp only [wBL,nP];exact .inl (.inr hy)),wES fun y hy=>h y (by simp only [wBL,nP];exact .inr hy)])
 | slcA sz n x lo hi=>exact (show wGd sz n x lo hi σ1 hh=wGd sz n x lo hi σ2 hh by
   simp only [wGd]
   rw [h x (by simp [wBL]),wES fun y hy=>h y (by simp only [wBL,nP];exact .inl (.inr hy)),wES fun y hy=>h y (by simp only [wBL,nP];exact .inr hy)])
 | mv a_x=>exact (show wQz a_x σ1 hh=wQz a_x σ2 hh by simp only [wQz,h a_x (by simp [wBL])])
 | pick a_c a_x a_y=>exact (show wGa a_c a_x a_y σ1 hh=wGa a_c a_x a_y σ2 hh by simp only [wGa,h a_c (by simp [wBL]),h a_x (by simp [wBL]),h a_y (by simp [wBL])])
 | new a_T a_z=>rfl
 | box a_T a_x=>exact (show wLM a_T a_x σ1 hh=wLM a_T a_x σ2 hh by simp only [wLM,h a_x (by simp [wBL])])
 | ld a_x=>exact (show wOD a_x σ1 hh=wOD a_x σ2 hh by simp only [wOD,h a_x (by simp [wBL])])
 | ldA a_n a_x=>exact (show wHO a_n a_x σ1 hh=wHO a_n a_x σ2 hh by simp only [wHO,h a_x (by simp [wBL])])
 | st a_n a_x a_y=>exact (show wOz a_n a_x a_y σ1 hh=wOz a_n a_x a_y σ2 hh by simp only [wOz,h a_x (by simp [wBL]),h a_y (by simp [wBL])])
 | nilc a_x=>exact (show wGb a_x σ1 hh=wGb a_x σ2 hh by simp only [wGb,h a_x (by simp [wBL])])
 | add a_x a_y=>exact (show wMQ a_x a_y σ1 hh=wMQ a_x a_y σ2 hh by simp only [wMQ,h a_x (by simp [wBL]),h a_y (by simp [wBL])])
 | sub a_x a_y=>exact (show wMR a_x a_y σ1 hh=wMR a_x a_y σ2 hh by simp only [wMR,h a_x (by simp [wBL]),h a_y (by simp [wBL])])
 | mul a_x a_y=>exact (show wMS a_x a_y σ1 hh=wMS a_x a_y σ2 hh by simp only [wMS,h a_x (by simp [wBL]),h a_y (by simp [wBL])])
 | quo a_x a_y=>exact (show wMT a_x a_y σ1 hh=wMT a_x a_y σ2 hh by simp only [wMT,h a_x (by simp [wBL]),h a_y (by simp [wBL])])
 | rem a_x a_y=>exact (show wMU a_x a_y σ1 hh=wMU a_x a_y σ2 hh by simp only [wMU,h a_x (by simp [wBL]),h a_y (by simp [wBL])])
 | lss a_x a_y=>exact (show wMV a_x a_y σ1 hh=wMV a_x a_y σ2 hh by simp only [wMV,h a_x (by simp [wBL]),h a_y (by simp [wBL])])
 | leq a_x a_y=>exact (show wMW a_x a_y σ1 hh=wMW a_x a_y σ2 hh by simp only [wMW,h a_x (by simp [wBL]),h a_y (by simp [wBL])])
 | gtr a_x a_y=>exact (show wMX a_x a_y σ1 hh=wMX a_x a_y σ2 hh by simp only [wMX,h a_x (by simp [wBL]),h a_y (by simp [wBL])])
 | geq a_x a_y=>exact (show wMY a_x a_y σ1 hh=wMY a_x a_y σ2 hh by simp only [wMY,h a_x (by simp [wBL]),h a_y (by simp [wBL])])
 | eql a_x a_y=>exact (show wMZ a_x a_y σ1 hh=wMZ a_x a_y σ2 hh by simp only [wMZ,h a_x (by simp [wBL]),h a_y (by simp [wBL])])
 | neq a_x a_y=>exact (show wMa a_x a_y σ1 hh=wMa a_x a_y σ2 hh by simp only [wMa,h a_x (by simp [wBL]),h a_y (by simp [wBL])])
 | eqb a_ne a_x a_y=>exact (show wJc a_ne a_x a_y σ1 hh=wJc a_ne a_x a_y σ2 hh by simp only [wJc,h a_x (by simp [wBL]),h a_y (by simp [wBL])])
 | eqn a_k a_ne a_x a_y=>exact (show wJd a_k a_ne a_x a_y σ1 hh=wJd a_k a_ne a_x a_y σ2 hh by simp only [wJd,h a_x (by simp [wBL]),h a_y (by simp [wBL])])
 | eqs a_ne a_s a_x a_y=>exact (show wJe a_ne a_s a_x a_y σ1 hh=wJe a_ne a_s a_x a_y σ2 hh by simp only [wJe,h a_x (by simp [wBL]),h a_y (by simp [wBL])])
 | neg a_x=>exact (show wMb a_x σ1 hh=wMb a_x σ2 hh by simp only [wMb,h a_x (by simp [wBL])])
 | not a_x=>exact (show wJf a_x σ1 hh=wJf a_x σ2 hh by simp only [wJf,h a_x (by simp [wBL])])
 | cvt a_k a_x=>exact (show wJg a_k a_x σ1 hh=wJg a_k a_x σ2 hh by simp only [wJg,h a_x (by simp [wBL])])
 | mkm =>rfl
 | mks a_T a_sz a_bytes a_z a_x a_y=>exact (show wGc a_T a_sz a_bytes a_z a_x a_y σ1 hh=wGc a_T a_sz a_bytes a_z a_x a_y σ2 hh by simp only [wGc,h a_x (by simp [wBL]),h a_y (by simp [wBL])])
 | fad a_off a_x=>exact (show wJi a_off a_x σ1 hh=wJi a_off a_x σ2 hh by simp only [wJi,h a_x (by simp [wBL])])
 | fld a_off a_x=>exact (show wJj a_off a_x σ1 hh=wJj a_off a_x σ2 hh by simp only [wJj,h a_x (by simp [wBL])])
 | fldA a_off a_n a_x=>exact (show wGe a_off a_n a_x σ1 hh=wGe a_off a_n a_x σ2 hh by simp only [wGe,h a_x (by simp [wBL])])
 | iad a_sz a_x a_y=>exact (show wJk a_sz a_x a_y σ1 hh=wJk a_sz a_x a_y σ2 hh by simp only [wJk,h a_x (by simp [wBL]),h a_y (by simp [wBL])])
 | iadA a_sz a_n a_x a_y=>exact (show wGf a_sz a_n a_x a_y σ1 hh=wGf a_sz a_n a_x a_y σ2 hh by simp only [wGf,h a_x (by simp [wBL]),h a_y (by simp [wBL])])
 | ix a_n a_x a_y=>exact (show wPf a_n a_x a_y σ1 hh=wPf a_n a_x a_y σ2 hh by simp only [wPf,h a_x (by simp [wBL]),h a_y (by simp [wBL])])
 | ixA a_sz a_n a_x a_y=>exact (show wJl a_sz a_n a_x a_y σ1 hh=wJl a_sz a_n a_x a_y σ2 hh by simp only [wJl,h a_x (by simp [wBL]),h a_y (by simp [wBL])])
 | lk a_two a_k a_ok a_z a_x a_y=>exact (show wOE a_two a_k a_ok a_z a_x a_y σ1 hh=wOE a_two a_k a_ok a_z a_x a_y σ2 hh by simp only [wOE,h a_x (by simp [wBL]),h a_y (by simp [wBL])])
 | mput a_two a_k a_x a_y a_z=>exact (show wFv a_two a_k a_x a_y a_z σ1 hh=wFv a_two a_k a_x a_y a_z σ2 hh by simp only [wFv,h a_x (by simp [wBL]),h a_y (by simp [wBL]),h a_z (by simp [wBL])])
 | mdel a_two a_k a_x a_y=>exact (show wFw a_two a_k a_x a_y σ1 hh=wFw a_two a_k a_x a_y σ2 hh by simp only [wFw,h a_x (by simp [wBL]),h a_y (by simp [wBL])])
 | ext a_i a_x=>exact (show wJm a_i a_x σ1 hh=wJm a_i a_x σ2 hh by simp only [wJm,h a_x (by simp [wBL])])
 | len a_x=>exact (show wJn a_x σ1 hh=wJn a_x σ2 hh by simp only [wJn,h a_x (by simp [wBL])])
 | lenM a_x=>exact (show wEj a_x σ1 hh=wEj a_x σ2 hh by simp only [wEj,h a_x (by simp [wBL])])
 | cap a_x=>exact (show wJo a_x σ1 hh=wJo a_x σ2 hh by simp only [wJo,h a_x (by simp [wBL])])
 | app a_T a_sz a_bytes a_x a_y=>exact (show wIn a_T a_sz a_bytes a_x a_y σ1 hh=wIn a_T a_sz a_bytes a_x a_y σ2 hh by simp only [wIn,h a_x (by simp [wBL]),h a_y (by simp [wBL])])
 | cpy a_sz a_x a_y=>exact (show wIo a_sz a_x a_y σ1 hh=wIo a_sz a_x a_y σ2 hh by simp only [wIo,h a_x (by simp [wBL]),h a_y (by simp [wBL])])
 | clr a_z a_x=>exact (show wIp a_z a_x σ1 hh=wIp a_z a_x σ2 hh by simp only [wIp,h a_x (by simp [wBL])])
 | min a_x a_y=>exact (show wMd a_x a_y σ1 hh=wMd a_x a_y σ2 hh by simp only [wMd,h a_x (by simp [wBL]),h a_y (by simp [wBL])])
 | max a_x a_y=>exact (show wMe a_x a_y σ1 hh=wMe a_x a_y σ2 hh by simp only [wMe,h a_x (by simp [wBL]),h a_y (by simp [wBL])])
 | bad=>rfl
 | and a_x a_y=>exact (show wMf a_x a_y σ1 hh=wMf a_x a_y σ2 hh by simp only [wMf,h a_x (by simp [wBL]),h a_y (by simp [wBL])])
 | ixs a_l a_y=>exact (show wJp a_l a_y σ1 hh=wJp a_l a_y σ2 hh by simp only [wJp,h a_y (by simp [wBL])])
 | apz a_T a_sz a_b a_z a_x a_y=>exact (show wIs a_T a_sz a_b a_z a_x a_y σ1 hh=wIs a_T a_sz a_b a_z a_x a_y σ2 hh by simp only [wIs,h a_x (by simp [wBL]),h a_y (by simp [wBL])])
 | shr a_x a_y=>exact (show wMg a_x a_y σ1 hh=wMg a_x a_y σ2 hh by simp only [wMg,h a_x (by simp [wBL]),h a_y (by simp [wBL])])
variable {r:Option Nat} {N:Nat} {Q:wDP} {D:List Deferred} {l:List Oper}
theorem CK.anyRel {id:Nat} {σ:Env} {w:World} (hm:P.follows .mixedOrders=true) (hpr:∀ i,i < l.length->∀ j ∈ prI l i,j < i) (J:(Nat->Bool)->Env->World->Prop)
  (h0:J (fun _=>false) σ { w with drawn:=w.drawn + 1 })
  (step:∀ S i σ w,i < l.length->S i=false->(∀ j ∈ prI l i,S j=true)->(∀ k,k < l.length->S k=true->∀ j ∈ prI l k,S j=true)->(∀ k,S k=true->k < l.length)->J S σ w ->
   ∃ o,l[i]?=some o/\(∀ d,o.dst=some d->d < N)/\Step1 P l o σ w fun v w'=>J (fun k=>k == i || S k) (put' σ o v) w')
  (fin:∀ S σ w,(∀ i,i < l.length->S i=true)->J S σ w->Q D .normal σ w):CK r N P (.region id l.toArray true) Q D σ w:=by
 intro a ha
 refine wpIn_region_any hm ?_
 have prog:∀ (listed:Array Bool),listed.size=l.length->Region.ready .any l.toArray listed=[]->∀ i,i < l.length->listed.getD i false=true:=by
  intro listed hsz hnil i
  induction i using Nat.strongRecOn with
  | _ i ih =>
   intro hi
   cases hb:listed.getD i false with
   | true=>rfl
   | false =>
    have:i ∈ Region.ready .any l.toArray listed:=(wDS hsz).2 ⟨hi,hb,fun j hj=>ih j (hpr i hi j hj) (Nat.lt_trans (hpr i hi j hj) hi)⟩
    rw [hnil] at this;cases this
 have core:∀ (fuel:Nat) (listed:Array Bool) (σ:Env) (a:Act) (w:World),listed.size=l.length->Rep N D a σ->(∀ k,k < l.length->listed.getD k false=true->∀ j ∈ prI l k,listed.getD j false=true) ->
   J (fun i=>listed.getD i false) σ w->(listed.toList.filter (! ·)).length <= fuel->wpAnyIn (WF r) 0 P .any l.toArray (wHy N Q) fuel listed a w:=by
  intro fuel
  induction fuel with
  | zero =>
   intro listed σ a w hsz hr hdc hJ hf
   have hall:∀ i,i < l.length->listed.getD i false=true:=by
    intro i hi
    cases hb:listed.getD i false with
    | true=>rfl
    | false=>have:=wFP listed i (by omega) hb;omega
   refine ⟨?_,σ,D,hr,fin _ σ w hall hJ⟩
   cases hr:Region.ready .any l.toArray listed with
   | nil=>rfl
   | cons x xs =>
    have hx:x ∈ Region.ready .any l.toArray listed:=by rw [hr];simp
    obtain ⟨h1,h2,_⟩:=(wDS hsz).1 hx
    rw [hall x h1] at h2;cases h2
  | succ fuel ih =>
   intro listed σ a w hsz hr hdc hJ hf
   refine ⟨fun hnil=>⟨σ,D,hr,fin _ σ w (prog listed hsz hnil) hJ⟩,fun i hi=>?_⟩
   obtain ⟨hlt,hun,hpi⟩:=(wDS hsz).1 hi
   have hsz':(listed.setIfInBounds i true).size=l.length:=by simpa using hsz
   have hf':((listed.setIfInBounds i true).toList.filter (! ·)).length <= fuel:=by have:=wFP listed i (by omega) hun;omega
   have hS:∀ k,listed.getD k false=true->k < l.length:=by
    intro k hk
    rcases np k l.length with h | h
    ·exact h
    ·rw [nj,Array.getElem?_eq_none (by omega)] at hk;cases hk
   obtain ⟨o,ho,hN,hst⟩:=step _ i σ w hlt hun hpi hdc hS hJ
   refine wGT ho hr hN hst ?_
   intro v w' a' hr' hJ'
   refine ih _ (KL.put' σ o v) a' w' hsz' hr' ?_ ?_ hf'
   ·intro k hk hkl j hj
    rw [wFO (by omega)] at hkl ⊢
    rcases hkl with rfl | hkl
    ·exact .inr (hpi j hj)
    ·exact .inr (hdc k hk hkl j hj)
   ·have e:(fun k=>(listed.setIfInBounds i true).getD k false)=fun k=>k == i || listed.getD k false:=by
     funext k
     rw [Bool.eq_iff_iff,wFO (by omega),kK,beq_iff_eq]
    rw [e]
    exact hJ'
 have rep:∀ k,(kL l.toArray.size false).getD k false=false:=by
  intro k
  rw [nj,kG]
  split <;> rfl
 refine core l.toArray.size (kL l.toArray.size false) σ a _ (by simp) ha ?_ ?_ ?_
 ·intro k hk hkl
  rw [rep k] at hkl
  cases hkl
 ·have e:(fun i=>(kL l.toArray.size false).getD i false)=fun _=>false:=by
   funext i
   rw [nj,kG]
   split <;> rfl
  rw [e]
  exact h0
 ·exact nU (List.length_filter_le _ _) (by simp)
end
end Go.KX
