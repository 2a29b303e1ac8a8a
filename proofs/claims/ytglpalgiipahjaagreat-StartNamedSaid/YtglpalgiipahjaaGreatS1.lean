import Derived.Test.YtglpalgiipahjaaGreatS0
import Derived.Lib.AppendZerosOnto
import Derived.Lib.AppendZeros
set_option linter.all false
open Bool renaming and_eq_true->nA,or_eq_true->nU,false_eq_true->nY,not_eq_true'->np,eq_false_iff->kO
open Nat renaming eq_of_beq_eq_true->nB,beq->nD,le_refl->nG,blt_eq->nJ,le_of_ble_eq_true->nR,ble_eq->nT,blt->nX,le_trans->nf,lt_of_lt_of_le->ng,le_of_mul_le_mul_right->kB,lt_or_ge->kD,ble->kQ,le_mul_of_pos_right->kV,add_mul->kc,mul_le_mul_right->kg,zero_add->km
open List renaming getElem?_eq_some_iff->nE,flatMap->nI,getElem?_append_left->nK,replicate->nL,getElem?_append_right->nM,map_cons->nO,mem_append->nP,getElem?_eq_getElem->nQ,mem_of_getElem?->nS,zipWith->nV,mem_append_right->nW,mem_append_left->nZ,all_eq_true->nc,nil_append->nh,mem_cons->nj,getD_eq_getElem?_getD->nk,getElem?_map->nl,getElem?_of_mem->nq,getElem?_cons_zero->nu,eq_nil_of_length_eq_zero->nv,append_assoc->ny,cons_append->kA,length->kC,getElem?_eq_none->kE,range->kG,length_append->kK,ext_getElem?->kL,getElem?_set->kM,pairwise_iff_getElem->kP,mem_map->kR,map_nil->kS,map_append->kX,mem_cons_of_mem->kf,append_toArray->kh,length_zipWith->ki,map_eq_nil_iff->kk,mem_singleton->kl,mem_cons_self->ko,getElem?_take->kq,toArray_range->kr,size_toArray->ku
open List.cons renaming injEq->nH
open Array renaming ext'->nN,range->nt,getD_eq_getD_getElem?->nz,getElem?_replicate->kU,replicate->kZ,getElem?_toList->ke,toList_append->kj,size_append->kv,toList_map->ky
open Option.some renaming injEq->na,inj->aB
open Int renaming ofNat_eq_natCast->nr,toNat_natCast->nw,negSucc_eq->kH,natCast_mul->kW,ofNat->kY
open Go.Value renaming int->kJ,slice->kx
open Option renaming getD_none->kz,getD_some->aA,map_some->aC
open List.Perm renaming refl->aD
namespace Go.KL
open Go.RowKit
open Go.KX (LoopAt Yd wOt Dfr wQD retM)
section
variable {B:Base} {U U':PHeap} {L M:List Res} {w w':World}
theorem St.keepX (h:St B U L w) {X:Nat->Prop} (K:Keep w w' X) (h1:∀ b,X b->U b=none/\B.mine b) (h2:∀ r ∈ L,∀ b,r.has b->¬ X b):St B U L w' :=
  ⟨K.os.trans h.os,K.tape.trans h.tape,K.output.trans h.output,nf h.size K.size,fun b hb hm=>(K.block b (ng hb h.size) fun hx=>hm (h1 b hx).2).trans (h.old b hb hm),
   fun b o hb=>(K.block b (wAT (h.fro b o hb)) fun hx=>by rw [(h1 b hx).1] at hb;cases hb).trans (h.fro b o hb),h.le,h.src,fun r hr=>(h.at_ r hr).keep K (h2 r hr),h.own,h.dj⟩
theorem St.left (h:St B U (L ++ M) w):St B U L w :=
 ⟨h.os,h.tape,h.output,h.size,h.old,h.fro,h.le,h.src,fun r hr=>h.at_ r (nZ _ hr),fun r hr=>h.own r (nZ _ hr),fun i j r s b hi hj =>
  h.dj i j r s b (by rw [nK (nE.1 hi).1];exact hi) (by rw [nK (nE.1 hj).1];exact hj)⟩
theorem St.addLast (h:St B U L w) {r:Res} {b:Nat} (hr:r.At w) (hb:r.has b) (hf:U b=none) (hm:B.mine b) (hn:∀ s ∈ L,¬ s.has b) (hu:∀ c,r.has c->c=b:=by intro c hc;cases hc;rfl):St B U (L ++ [r]) w:=by
 refine ⟨h.os,h.tape,h.output,h.size,h.old,h.fro,h.le,h.src,fun s hs=>?_,fun s hs c hc=>?_,fun i j s u c hi hj hs hu'=>?_⟩
 ·rcases nP.1 hs with hs | hs
  ·exact h.at_ s hs
  ·rw [kl.1 hs];exact hr
 ·rcases nP.1 hs with hs | hs
  ·exact h.own s hs c hc
  ·rw [kl.1 hs] at hc
   obtain rfl:=hu c hc
   exact ⟨hf,hm⟩
 ·have at_:∀ (i:Nat) (s:Res),(L ++ [r])[i]?=some s->L[i]?=some s \/ (i=L.length/\s=r):=by
   intro i s hi
   rcases kD i L.length with hl | hl
   ·rw [nK hl] at hi;exact .inl hi
   ·rw [nM hl] at hi
    have hz:i - L.length=0:=by
     have:=(nE.1 hi).1
     simp at this
     omega
    rw [hz] at hi
    simp at hi
    exact .inr ⟨by omega,hi.symm⟩
  rcases at_ i s hi with h1 | ⟨h1,rfl⟩ <;> rcases at_ j u hj with h2 | ⟨h2,rfl⟩
  ·exact h.dj i j s u c h1 h2 hs hu'
  ·obtain rfl:=hu c hu'
   exact absurd hs (hn s (nS h1))
  ·obtain rfl:=hu c hs
   exact absurd hu' (hn u (nS h2))
  ·omega
theorem St.putObj {l:Nat} {o o2:Obj} (h:St B U (.obj l o :: L) w) (K:Keep w w' (·=l)) (h2:w'.heap[l]?=some o2):St B U (.obj l o2 :: L) w' :=
 h.set (k:=0) (r:=.obj l o) (r':=.obj l o2) rfl (K.weak fun b _ e=>by rw [e];rfl) h2 fun b hb=>.inl hb
theorem St.outObj {l:Nat} {o:Obj} (h:St B U (.obj l o :: L) w) (K:Keep w w' (·=l)):St B U L w':=by
 have hm:=h.own (.obj l o) (by simp) l rfl
 have h0:St B U L w:=h.drop 0
 refine h0.keepX K (fun b e=>by rw [e];exact hm) fun r hr b hb e=>?_
 subst e
 obtain ⟨i,hi⟩:=nq hr
 have:=h.dj 0 (i + 1) (.obj b o) r b rfl (by simpa using hi) rfl hb
 omega
theorem St.outs {rbs:List Nat} {d:Obj} (h:St B U (L ++ rbs.map fun rb=>.obj rb d) w) (K:Keep w w' (· ∈ rbs)):St B U L w':=by
 refine h.left.keepX K (fun b hb=>?_) fun r hr b hb hm=>?_
 ·exact h.own (.obj b d) (nW _ (kR.2 ⟨b,hb,rfl⟩)) b rfl
 ·obtain ⟨i,hi⟩:=nq hr
  obtain ⟨j,hj⟩:=nq hm
  have hil:=(nE.1 hi).1
  have:=h.dj i (L.length + j) r (.obj b d) b (by rw [nK hil];exact hi) (by rw [nM (by omega),show L.length + j - L.length=j by omega,nl,hj];rfl) hb rfl
  omega
end
def LR (N:Nat) (σ:Env) (t:List Nat) (asg body:Code) (rb:Nat) (fn:FuncId) (s:LoopState) (pend:Option Code) (o:Obj):Prop :=
 ∃ a D,Rep N D a σ/\o=.loop { state:=s,pending:=pend,fn,tmps:=a.tmps,params:=t.toArray,assign:=asg,body,defers:=rb }
theorem LR.at_ {N:Nat} {σ:Env} {t:List Nat} {asg body:Code} {rb:Nat} {fn:FuncId} {s:LoopState} {pend:Option Code} {o:Obj} {w:World} {l:Nat} (h:LR N σ t asg body rb fn s pend o) (hw:w.heap[l]?=some o):LoopAt w l N σ t asg body rb fn s pend:=by
 obtain ⟨a,D,h1,rfl⟩:=h
 exact ⟨a,D,h1,hw⟩
theorem LR.of {N:Nat} {σ:Env} {t:List Nat} {asg body:Code} {rb:Nat} {fn:FuncId} {s:LoopState} {pend:Option Code} {w:World} {l:Nat} (h:LoopAt w l N σ t asg body rb fn s pend):∃ o,w.heap[l]?=some o/\LR N σ t asg body rb fn s pend o:=by
 obtain ⟨a,D,h1,h2⟩:=h
 exact ⟨_,h2,a,D,h1,rfl⟩
def YOK (P:Program) (l:Nat) {X S E:Type} (ar:PHeap->X->List Value->Prop) (PY:S->PHeap->List Res->Prop) (PE:E->PHeap->List Res->Prop) (f:S->X->Option (S ⊕ E)) (U0:PHeap):Prop :=
 ∀ U w s x vs r L,PHeap.Le U0 U->St ⟨w,L,U⟩ U L w->PY s U L->ar U x vs->f s x=some r ->
  Yd P l vs w fun b w'=>∃ U' L',St ⟨w,L,U⟩ U' L' w'/\(match r with | .inl s'=>b=true/\PY s' U' L' | .inr e=>b=false/\PE e U' L')
def ItS (w:World) (L:List Res) (U:PHeap) {S E:Type} (PY:S->PHeap->List Res->Prop) (PE:E->PHeap->List Res->Prop) (r:S ⊕ E):Value->World->Prop:=fun _ w' =>
 ∃ U' L',St ⟨w,L,U⟩ U' L' w'/\(match r with | .inl s=>PY s U' L' | .inr e=>PE e U' L')
section
variable {r:Option Nat} {N:Nat} {P:Program} {l:List Oper} {Q:wDC} {D:List Deferred} {ks:List Nat} {B:Base} {U:PHeap} {L:List Res} {σ:Env} {w:World} {i d:Nat} {o:Oper} {s:Sch} {X S E:Type} {ar:PHeap->X->List Value->Prop}
 {PY:S->PHeap->List Res->Prop} {PE:E->PHeap->List Res->Prop} {f:S->X->Option (S ⊕ E)}
theorem OKS.yieldT (n:Nat) {y:Nat} {x:Operand} {args:Array Operand} {ty:Array TypeId} {vs:List Value} {st:S} {a:X} {rr:S ⊕ E} {U0:PHeap} (ho:l[i]?=some o) (hd:o.dst=some d) (hN:nX d N=true) (hw:wanted l σ o=true)
  (hop:o.op=.call { callee:=.value x,args:=args,argTypes:=ty }) (hx:ev σ x=.func (.yield y) #[] #[]) (ha:args.toList.map (ev σ)=vs) (hS:St B U L w) (hY:YOK P y ar PY PE f U0) (hle:PHeap.Le U0 U) (hP:PY st U (L.drop n)) (har:ar U a vs) (hf:f st a=some rr) (hk:wGC (kOf ks i)=false)
  (k:∀ U' L' b w',PHeap.Le U U'->St B U' (L.take n ++ L') w'->(match rr with | .inl s'=>b=true/\PY s' U' L' | .inr e=>b=false/\PE e U' L')->OKS N P l Q D ks s (upd σ d (.bool b)) w'):OKS N P l Q D ks (.fx i s .stop) σ w:=by
 have Y:=hY U w st a vs rr _ hle (hS.enterT n) hP har hf
 have R:=Go.KX.Yd.rounds (σ:=σ) hop hx ha Y
 refine ⟨⟨o,ho,dlt hd hN,.inl ⟨hw,.inr (.inr (.inr (R.mono ?_)))⟩⟩,trivial⟩
 rintro v w' ⟨b,rfl,U',L',h1,h2⟩
 obtain ⟨h3,h4⟩:=hS.backT n h1
 exact ⟨KeepD.of (.inl hk),by rw [wCf hd];exact k U' L' b w' h4 h3 h2⟩
def wQE:Exit->Option Code
 | .ret=>some .ret
 | .exit i=>some (.exit i)
 | _=>none
theorem CK.rangeY {g:Operand} {t:List Nat} {asg body:Code} {fi:FuncId} {fl cl:List Value} {s0:S} {rr:S ⊕ E} {exO:E->Exit} (hx:ev σ g=.func (.func fi) fl.toArray cl.toArray)
  (hcall:∀ (args:Array Value) (w:World),(callFunc fi args).run P w=.ok (.enter fi args) w) (hS:St B U L w) (ht:∀ x ∈ t,x < N) (hlen:∀ U x vs,ar U x vs->t.length=vs.length) (hex:∀ e,exO e=.ret \/ ∃ i,exO e=.exit i) (h0:PY s0 U L)
  (hit:∀ (l:Nat) (w1:World) (L1:List Res) (PY':S->PHeap->List Res->Prop) (PE':E->PHeap->List Res->Prop),St ⟨w1,L1,U⟩ U L1 w1->PY' s0 U L1->YOK P l ar PY' PE' f U->Gv P fi (fl ++ [.func (.yield l) #[] #[]] ++ cl) w1 (ItS w1 L1 U PY' PE' rr))
  (hbody:∀ (l rb:Nat) (fn:FuncId) s x vs r U' L' w' o B',PHeap.Le U U'->St B' U' (.obj l o :: L') w'->PY s U' L'->ar U' x vs->f s x=some r->∀ σ0,(∀ i,σ0 i=wOt σ t vs i) ->
   CK (some l) N P asg (fun D' e σ1 w1=>e=.normal/\D'=[]/\∃ U1 L1,St B' U1 (.obj l o :: L1) w1/\∀ w2 o2,St B' U1 (.obj l o2 :: L1) w2 ->
    CK (some l) N P body (fun _ e2 _ w3=>∃ U3 L3,St B' U3 (.obj l o2 :: L3) w3/\(match r with | .inl s'=>e2=.normal/\PY s' U3 L3 | .inr e'=>e2=exO e'/\PE e' U3 L3)) [] σ1 w2) [] σ0 w')
  (hk:∀ rb U' L' w',PHeap.Le U U'->St B U' (L' ++ [.obj rb (.deferred (some []))]) w'->(match rr with | .inl s=>PY s U' L'->Q (Go.KX.mark rb :: D) .normal σ w' | .inr e=>PE e U' L'->Q (Go.KX.mark rb :: D) (exO e) σ w')) :
  CK none N P (.rangeFunc g t.toArray asg body) Q D σ w:=by
 refine Go.KX.CK.rangeFunc hx hcall fun fn l rb w1 e1 e2 hl hd K hs=>?_
 obtain ⟨o,ho,hLR⟩:=LR.of hl
 have hlt:l < w1.heap.size:=wAT ho
 have hS0:=hS.grow K
 have hsz:∀ s ∈ L,∀ b,s.has b->b < w.heap.size:=fun s hs b hb=>(hS.at_ s hs).lt hb
 have hfree:∀ b,w.heap.size <= b->U b=none/\B.mine b:=fun b hb=>by
  refine ⟨?_,.inl (nf hS.size hb)⟩
  cases e:U b with
  | none=>rfl
  | some x=>have:=wAT (hS.fro b x e);omega
 have hS1:St B U (.obj l o :: L) w1:=by
  have h1:=hS0.addLast (r:=.obj l o) (b:=l) ho rfl (hfree l (by omega)).1 (hfree l (by omega)).2 fun s hs' e=>by have:=hsz s hs' l e;omega
  refine ⟨h1.os,h1.tape,h1.output,h1.size,h1.old,h1.fro,h1.le,h1.src,fun r hr=>h1.at_ r ?_,fun r hr=>h1.own r ?_,?_⟩
  ·rcases nj.1 hr with rfl | hr <;> simp [*]
  ·rcases nj.1 hr with rfl | hr <;> simp [*]
  ·intro i j r s b hi hj hr hs'
   cases i with
   | zero =>
    simp only [nu,na] at hi;subst hi;cases hr
    cases j with
    | zero=>rfl
    | succ j=>have:=hsz s (nS (by simpa using hj)) _ hs';omega
   | succ i =>
    cases j with
    | zero=>simp only [nu,na] at hj;subst hj;cases hs';have:=hsz r (nS (by simpa using hi)) _ hr;omega
    | succ j=>rw [hS0.dj i j r s b (by simpa using hi) (by simpa using hj) hr hs']
 have hS2:St B U ((.obj l o :: L) ++ [.obj rb (.deferred (some []))]) w1:=by
  refine hS1.addLast (b:=rb) hd rfl (hfree rb (by omega)).1 (hfree rb (by omega)).2 fun s hs' e=>?_
  rcases nj.1 hs' with rfl | hs'
  ·cases e;omega
  ·have:=hsz s hs' rb e;omega
 let PYl:S->PHeap->List Res->Prop:=fun s U L=>∃ o L',L=.obj l o :: L'/\LR N σ t asg body rb fn .ready none o/\PY s U L'
 let PEl:E->PHeap->List Res->Prop:=fun e U L=>∃ o L',L=.obj l o :: L'/\LR N σ t asg body rb fn .done (wQE (exO e)) o/\PE e U L'
 have hY:YOK P l ar PYl PEl f U:=by
  rintro U' w' s x vs r L3 hle hSt ⟨o',L',rfl,hLR',hP⟩ har hf
  refine Go.KX.Yd.of (hLR'.at_ (hSt.at_ (.obj l o') (by simp))) ht (hlen _ _ _ har) fun σ0 hσ0=>?_
  refine (hbody l rb fn s x vs r U' L' w' o' _ hle hSt hP har hf σ0 hσ0).mono ?_
  rintro D' e σ1 w1 ⟨rfl,rfl,U1,L1,hS1,hb⟩
  refine ⟨rfl,rfl,hLR'.at_ (hS1.at_ (.obj l o') (by simp)),fun w2 hl2 K2 _=>?_⟩
  obtain ⟨o2,ho2,hLR2⟩:=LR.of hl2
  refine (hb w2 o2 (hS1.putObj K2 ho2)).mono ?_
  rintro D2 e2 σ2 w3 ⟨U3,L3,hS3,hm⟩
  cases r with
  | inl s' =>
   obtain ⟨rfl,hP'⟩:=hm
   refine ⟨hLR2.at_ (hS3.at_ (.obj l o2) (by simp)),fun w4 hl4 K4 _=>?_⟩
   obtain ⟨o4,ho4,hLR4⟩:=LR.of hl4
   exact ⟨U3,_,hS3.putObj K4 ho4,rfl,o4,L3,rfl,hLR4,hP'⟩
  | inr e' =>
   obtain ⟨rfl,hP'⟩:=hm
   have fin:∀ w4 p,p=wQE (exO e')->LoopAt w4 l N σ t asg body rb fn .done p->Keep w3 w4 (·=l)->∃ U'' L'',St ⟨w',.obj l o' :: L',U'⟩ U'' L'' w4/\(false=false/\PEl e' U'' L''):=by
    rintro w4 p rfl hl4 K4
    obtain ⟨o4,ho4,hLR4⟩:=LR.of hl4
    exact ⟨U3,_,hS3.putObj K4 ho4,rfl,o4,L3,rfl,hLR4,hP'⟩
   have hB:=hLR2.at_ (hS3.at_ (.obj l o2) (by simp))
   rcases hex e' with he | ⟨i,he⟩
   ·rw [he] at fin ⊢
    exact ⟨hB,fun w4 hl4 K4 _=>fin w4 _ rfl hl4 K4⟩
   ·rw [he] at fin ⊢
    exact ⟨hB,fun w4 hl4 K4 _=>fin w4 _ rfl hl4 K4⟩
 have hE:St ⟨w1,.obj l o :: L,U⟩ U (.obj l o :: L) w1:=by have:=hS1.enterH (L.length + 1);simpa using this
 refine (hit l w1 (.obj l o :: L) PYl PEl hE ⟨o,L,rfl,hLR,h0⟩ hY).mono ?_
 rintro v w3 ⟨U',L3,g1,g2⟩
 obtain ⟨g3,g4⟩:=hS2.backH (L.length + 1) (own':=L3) (U':=U') (w':=w3) (by simpa using g1)
 have g3:St B U' (L3 ++ [.obj rb (.deferred (some []))]) w3:=by simpa using g3
 have hkk:=hk rb U'
 cases rr with
 | inl s' =>
  obtain ⟨o',L',rfl,hLR',hP⟩:=g2
  refine .inl ⟨hLR'.at_ (g3.at_ (.obj l o') (by simp)),fun w4 K4 _=>hkk L' w4 g4 ?_ hP⟩
  exact St.outObj (L:=L' ++ [.obj rb (.deferred (some []))]) (by simpa using g3) K4
 | inr e' =>
  obtain ⟨o',L',rfl,hLR',hP⟩:=g2
  refine .inr ⟨exO e',hex e',?_,fun w4 K4 _=>hkk L' w4 g4 ?_ hP⟩
  ·have:=hLR'.at_ (g3.at_ (.obj l o') (by simp))
   rcases hex e' with he | ⟨i,he⟩ <;> (rw [he] at this ⊢;exact this)
  ·exact St.outObj (L:=L' ++ [.obj rb (.deferred (some []))]) (by simpa using g3) K4
theorem wQi {rs:Array ResultVar} {R:Value->World->Prop} {rbs:List Nat} {e:Exit} (he:e=.normal \/ e=.ret) (hS:St B U (L ++ rbs.map fun rb=>.obj rb (.deferred (some []))) w)
  (k:∀ w',St B U L w'->∃ v,(wCR rs σ).run P w'=.ok v w'/\R v w'):retM P rs R (rbs.map Go.KX.mark) e σ w:=by
 have hn:rbs.Nodup:=by
  rw [List.Nodup,kP]
  intro i j hi hj hij e
  have at_:∀ (i:Nat) (h:i < rbs.length),(L ++ rbs.map fun rb=>Res.obj rb (.deferred (some [])))[L.length + i]?=some (.obj rbs[i] (.deferred (some []))):=fun i h=>by
   rw [nM (by omega),show L.length + i - L.length=i by omega,nl,nQ h]
   rfl
  have:=hS.dj _ _ _ _ rbs[i] (at_ i hi) (at_ j hj) rfl (by rw [e];rfl)
  omega
 have fin:∃ rbs':List Nat,rbs.map Go.KX.mark=rbs'.map Go.KX.mark/\rbs'.Nodup/\(∀ rb ∈ rbs',Dfr w rb)/\∀ w',Keep w w' (· ∈ rbs')->w'.heap.size=w.heap.size->∃ v,(wCR rs σ).run P w'=.ok v w'/\R v w' :=
  ⟨rbs,rfl,hn,fun rb hrb=>hS.at_ (.obj rb (.deferred (some []))) (nW _ (kR.2 ⟨rb,hrb,rfl⟩)),fun w' K _=>k w' (hS.outs K)⟩
 rcases he with rfl | rfl
 ·exact fin
 ·exact fin
end
end Go.KL
namespace Go.KL
def wPE (l:List Int):Option (List Int):=if l.length < 4611686018427387904 then some (l.mergeSort fun x y=>decide (x <= y)) else none
def ltB {α:Type} (h:α × α->Option Int) (x y:α):Bool:=match h (x,y) with
 | some n=>decide (n < 0)
 | none=>false
def Cmp {α:Type} (h:α × α->Option Int) (l:List α):Prop :=
 l.length < 4611686018427387904/\(∀ x ∈ l,∀ y ∈ l,(h (x,y)).isSome=true)/\(∀ x ∈ l,ltB h x x=false)/\(∀ x ∈ l,∀ y ∈ l,∀ z ∈ l,ltB h x y=true->ltB h y z=true->ltB h x z=true) /\
  (∀ x ∈ l,∀ y ∈ l,∀ z ∈ l,ltB h x y=false->ltB h y z=false->ltB h x z=false)/\(∀ x ∈ l,∀ y ∈ l,ltB h x y=false->ltB h y x=false->x=y)
open Classical in
noncomputable def wJy {α:Type} (h:α × α->Option Int) (l:List α):Option (List α):=if Cmp h l then some (l.mergeSort fun x y=>!ltB h y x) else none
theorem wHc {α:Type} {h:α × α->Option Int} {l r:List α} (e:wJy h l=some r):Cmp h l/\r=l.mergeSort fun x y=>!ltB h y x:=by
 unfold wJy at e
 split at e
 ·rename_i c
  exact ⟨c,(aB e).symm⟩
 ·cases e
theorem wKn {α:Type} {h:α × α->Option Int} {l:List α} (c:Cmp h l):wJy h l=some (l.mergeSort fun x y=>!ltB h y x):=if_pos c
end Go.KL
namespace Go.KL
open Go.RowKit
section
variable {B:Base} {U:PHeap} {L:List Res} {w:World}
theorem St.cutRowM {α:Type} {enc:α->List Value} {m:List α} {k c T sz b:Nat} {A:Option Addr} (h:St B U L w) (hk:L[k]?=some (.row A c T sz (nI enc m))):St B U (L.set k (.row A c T sz (nI enc (m.take b)))) w :=
 h.cutRow (a:=nI enc (m.take b)) (d:=nI enc (m.drop b)) (by rw [<- List.flatMap_append,List.take_append_drop];exact hk)
end
section
variable {P:Program} {N:Nat} {l:List Oper} {Q:wDC} {D:List Deferred} {ks:List Nat} {s:Sch} {σ:Env} {w:World} {B:Base} {U:PHeap} {L:List Res} {i d:Nat} {o:Oper}
theorem wHd (v:Value) (n:Nat):Builtin.zeroCells #[v] n=(nL n v).toArray:=by
 apply nN
 simp [Builtin.zeroCells,Nat.mod_one,List.map_const']
def appZ {α:Type} (bytes:Nat) (n:Int) (z:α):Option (List α):=if 0 < n/\n * bytes <= 140737488355328/\n <= 1099511627776 then some (nL n.toNat z) else none
theorem OKS.appendZ {α:Type} {t tn e:TypeId} {inf:TypeInfo} {v:Value} {x y:Operand} {n:Int} {bytes:Nat} {enc:α->List Value} {z:α} {xs:List α}
  (ho:l[i]?=some o) (hd:o.dst=some d) (hN:nX d N=true) (hw:wanted l σ o=true) (hop:o.op=.call { callee:=.builtin .append,args:=#[x,y],argTypes:=#[t,tn] })
  (ht:P.underlying t=some (.slice e)) (htn:P.underlying tn=some (.int .i64)) (hi:P.info? e=some inf) (hz:inf.zero=some v) (hc:v.cells=#[v]) (hs:inf.size=1) (hby:inf.bytes=bytes) (henc:enc z=[v])
  (hS:St B U L w) (hx:ev σ x=.slice none 0 0) (hy:ev σ y=.int .i64 n) (hm:appZ bytes n z=some xs) (hne:wGC (kOf ks i)=false)
  (k:∀ w' A c,St B U (.row A c e 1 (nI enc xs) :: L) w'->OKS N P l Q D ks s (upd σ d (.slice A xs.length c)) w'):OKS N P l Q D ks (.fx i s .stop) σ w:=by
 unfold appZ at hm
 split at hm
 ·rename_i h
  obtain ⟨h0,h1,h2⟩:=h
  cases hm
  obtain ⟨m,rfl⟩:=Int.eq_ofNat_of_zero_le (Int.le_of_lt h0)
  subst hby
  have h1':m * inf.bytes <= 140737488355328:=by
   have:=h1
   rw [<- kW] at this
   omega
  have hr:=Lib.run_append_grow_zeros (P:=P) w t tn o.type e inf v .i64 .i64 ht htn hi hz none 0 0 [] (run_firstCells_none w.drew inf.size 0 0 0) m (by omega) (by omega) (by omega) (by omega) (by omega) (by rw [km];exact growslice_fits (by omega) h1')
  have hG:=grownCap_ge w (0 + m) 0 e
  have hG2:=grownCap_le_maxLen w (0 + m) 0 e (by unfold maxLen;omega)
  generalize grownCap w (0 + m) 0 e=G at hr hG hG2
  have ec:(([]:List Value).toArray ++ Builtin.zeroCells v.cells m ++ Builtin.zeroCells v.cells (G - (0 + m)))=(nL G v).toArray:=by
   rw [hc,wHd,wHd,kh,kh,nh,List.replicate_append_replicate,show m + (G - (0 + m))=G by omega]
  rw [ec,km] at hr
  simp only [nw,List.length_replicate,wDU henc] at k
  have hk:=(Keep.drew w).trans' (wBB w.drew (.cells (nL G v).toArray e))
  refine OKS.v (v:=.slice (some ⟨w.heap.size,0,none⟩) m G) (w':=w.drew.alloc (.cells (nL G v).toArray e)) ho hd hN hw ⟨by rw [hop];rfl,?_⟩ (.inl hne) ?_
  ·simp [execOp,hop,resolve,invoke,builtin,hx,hy,hr,Result.andThen]
  ·exact k (w.drew.alloc (.cells (nL G v).toArray e)) (some ⟨w.heap.size,0,none⟩) G (hS.new hk (.inr ⟨_,(nL G v).toArray,rfl,wDi w.drew _ e,by simp;omega,hG2,by simp,by simp [List.take_replicate];omega⟩) rfl (nG _))
 ·cases hm
theorem Runs.capn {t e:TypeId} {x:Operand} (ho:o.op=.call { callee:=.builtin .cap,args:=#[x],argTypes:=#[t] }) (hx:ev σ x=.slice none 0 0)
  (ht:∀ w,(underlying t).run P w=.ok (.slice e) w):Runs P σ w o (.int .i64 0) w :=
 ⟨by rw [ho];rfl,by simp [execOp,ho,resolve,invoke,builtin,Builtin.cap_,hx,ht,goInt]⟩
theorem slc0 {A:Option Addr} {c sz:Nat}:kx (if c=(0:Int).toNat then A else A.map (·.add ((0:Int).toNat * sz))) ((0:Int).toNat - (0:Int).toNat) (c - (0:Int).toNat)=.slice A 0 c:=by
 have:A.map (·.add ((0:Int).toNat * sz))=A:=by
  cases A with
  | none=>rfl
  | some a=>simp [Addr.add]
 rw [this]
 simp
end
end Go.KL
namespace Go.KL
open Go.RowKit
section
variable {B:Base} {U U':PHeap} {L:List Res} {w w':World}
theorem Res.At.agree {w2:World} {r:Res} (h:r.At w) (he:∀ b,r.has b->w2.heap[b]?=w.heap[b]?):r.At w2:=by
 cases r with
 | blk b T cs=>exact (he b rfl).trans h
 | obj b o=>exact (he b rfl).trans h
 | abs fp P=>exact ⟨h.2.2 w2 he,fun b hb=>wAT ((he b hb).trans (Array.getElem?_eq_getElem (h.2.1 b hb))),fun w3 h3=>h.2.2 w3 fun b hb=>(h3 b hb).trans (he b hb)⟩
 | row A c T sz cs =>
  rcases h with h | ⟨b,cur,rfl,h1,h2⟩
  ·exact .inl h
  ·exact .inr ⟨b,cur,rfl,(he b rfl).trans h1,h2⟩
def DjL (rs:List Res):Prop:=∀ (i j:Nat) (r s:Res) (b:Nat),rs[i]?=some r->rs[j]?=some s->r.has b->s.has b->i=j
def pack (p:Prop) (rs:List Res):Res:=.abs (fun b=>∃ r ∈ rs,r.has b) (fun w=>p/\(∀ r ∈ rs,r.At w)/\DjL rs)
theorem wQj {p:Prop} {rs:List Res} (hp:p) (ha:∀ r ∈ rs,r.At w) (hd:DjL rs):(pack p rs).At w :=
 ⟨⟨hp,ha,hd⟩,fun b ⟨r,hr,hb⟩=>(ha r hr).lt hb,fun w2 h2=>⟨hp,fun r hr=>(ha r hr).agree fun b hb=>h2 b ⟨r,hr,hb⟩,hd⟩⟩
theorem wND {α:Type} {X Y:List α} {i:Nat} {r:α} (h:(X ++ Y)[i]?=some r):X[i]?=some r \/ (X.length <= i/\Y[i - X.length]?=some r):=by
 rcases kD i X.length with h1 | h1
 ·rw [nK h1] at h;exact .inl h
 ·rw [nM h1] at h;exact .inr ⟨h1,h⟩
theorem St.unpack {p:Prop} {rs:List Res} (h:St B U (pack p rs :: L) w):p/\St B U (rs ++ L) w:=by
 obtain ⟨⟨hp,ha,hd⟩,_⟩:=h.at_ _ (ko ..)
 have ho:=h.own _ (ko ..)
 refine ⟨hp,h.os,h.tape,h.output,h.size,h.old,h.fro,h.le,h.src,fun r hr=>?_,fun r hr b hb=>?_,fun i j r s b hi hj hr hs=>?_⟩
 ·rcases nP.1 hr with hr | hr
  ·exact ha r hr
  ·exact h.at_ r (kf _ hr)
 ·rcases nP.1 hr with hr | hr
  ·exact ho b ⟨r,hr,hb⟩
  ·exact h.own r (kf _ hr) b hb
 ·rcases wND hi with hi | ⟨h1,hi⟩ <;> rcases wND hj with hj | ⟨h2,hj⟩
  ·exact hd i j r s b hi hj hr hs
  ·have:=h.dj 0 (j - rs.length + 1) _ s b rfl (by simpa using hj) ⟨r,nS hi,hr⟩ hs;omega
  ·have:=h.dj (i - rs.length + 1) 0 r _ b (by simpa using hi) rfl hr ⟨s,nS hj,hs⟩;omega
  ·have:=h.dj (i - rs.length + 1) (j - rs.length + 1) r s b (by simpa using hi) (by simpa using hj) hr hs;omega
theorem St.pack {p:Prop} {rs:List Res} (hp:p) (h:St B U (rs ++ L) w):St B U (pack p rs :: L) w:=by
 refine ⟨h.os,h.tape,h.output,h.size,h.old,h.fro,h.le,h.src,fun r hr=>?_,fun r hr b hb=>?_,fun i j r s b hi hj hr hs=>?_⟩
 ·rcases nj.1 hr with rfl | hr
  ·refine wQj hp (fun r hr=>h.at_ r (nZ _ hr)) fun i j r s b hi hj hr hs=>?_
   exact h.dj i j r s b (by rw [nK (nE.1 hi).1];exact hi) (by rw [nK (nE.1 hj).1];exact hj) hr hs
  ·exact h.at_ r (nW _ hr)
 ·rcases nj.1 hr with rfl | hr
  ·obtain ⟨r,hr,hb⟩:=hb
   exact h.own r (nZ _ hr) b hb
  ·exact h.own r (nW _ hr) b hb
 ·have up:∀ (q:Nat) (t:Res),L[q]?=some t->(rs ++ L)[rs.length + q]?=some t:=fun q t hq=>by rw [nM (by omega)];simpa using hq
  have lo:∀ (q:Nat) (t:Res),rs[q]?=some t->(rs ++ L)[q]?=some t:=fun q t hq=>by rw [nK (nE.1 hq).1];exact hq
  cases i with
  | zero =>
   simp only [nu,na] at hi;subst hi
   cases j with
   | zero=>rfl
   | succ j =>
    obtain ⟨r,hr,hb⟩:=hr
    obtain ⟨q,hq⟩:=nq hr
    have:=h.dj q (rs.length + j) r s b (lo q r hq) (up j s (by simpa using hj)) hb hs
    have:=(nE.1 hq).1;omega
  | succ i =>
   cases j with
   | zero =>
    simp only [nu,na] at hj;subst hj
    obtain ⟨s,hs,hb⟩:=hs
    obtain ⟨q,hq⟩:=nq hs
    have:=h.dj (rs.length + i) q r s b (up i r (by simpa using hi)) (lo q s hq) hr hb
    have:=(nE.1 hq).1;omega
   | succ j =>
    have:=h.dj (rs.length + i) (rs.length + j) r s b (up i r (by simpa using hi)) (up j s (by simpa using hj)) hr hs;omega
structure Hd where
 A:Option Addr
 n:Nat
 c:Nat
instance:Inhabited Hd:=⟨⟨none,0,0⟩⟩
def wBX (h:Hd):List Value:=[.slice h.A h.n h.c]
variable {α:Type} {T sz:Nat} {enc:α->List Value} {hs hs2:List Hd} {m m2:List (List α)}
def inR (T sz:Nat) (enc:α->List Value) (h:Hd) (l:List α):Res:=.row h.A h.c T sz (nI enc l)
def Fit (hs:List Hd) (m:List (List α)):Prop:=hs.map (·.n)=m.map kC
def inn (T sz:Nat) (enc:α->List Value) (hs:List Hd) (m:List (List α)):Res:=pack (Fit hs m) (nV (inR T sz enc) hs m)
def wQF (T sz:Nat) (enc:α->List Value) (hs:List Hd) (m:List (List α)) (k:Nat):Res:=pack (Fit hs m/\k < m.length) ((nV (inR T sz enc) hs m).eraseIdx k)
theorem Fit.len (h:Fit hs m):hs.length=m.length:=by simpa using congrArg kC h
theorem Fit.at_ (h:Fit hs m) {k:Nat} (hk:k < m.length):(gd hs k).n=(gd m k).length:=by
 have e:=congrArg (·[k]?) h
 have h1:=wBM (xs:=hs) (k:=k) (by rw [h.len];exact hk)
 have h2:=wBM (xs:=m) hk
 simpa [h1,h2] using e
theorem Fit.set (h:Fit hs m) {k:Nat} {A:Option Addr} {c:Nat} {l:List α}:Fit (hs.set k ⟨A,l.length,c⟩) (m.set k l):=by
 unfold Fit at *
 rw [List.map_set,List.map_set,h]
theorem St.innFit {j:Nat} (h:St B U L w) (hk:L[j]?=some (inn T sz enc hs m)):Fit hs m:=(h.at_ _ (nS hk)).1.1
theorem St.innHFit {j k:Nat} (h:St B U L w) (hk:L[j]?=some (wQF T sz enc hs m k)):Fit hs m/\k < m.length:=(h.at_ _ (nS hk)).1.1
theorem St.innNil (T sz:Nat) (enc:α->List Value) (h:St B U L w):St B U (inn T sz enc [] [] :: L) w:=St.pack (p:=Fit [] ([]:List (List α))) (rs:=[]) rfl h
theorem St.innOne {A:Option Addr} {c:Nat} {l:List α} (h:St B U (.row A c T sz (nI enc l) :: L) w):St B U (inn T sz enc [⟨A,l.length,c⟩] [l] :: L) w:=St.pack (p:=Fit [⟨A,l.length,c⟩] [l]) (rs:=[.row A c T sz (nI enc l)]) rfl h
theorem St.swap {r s:Res} (h:St B U (r :: s :: L) w):St B U (s :: r :: L) w:=by
 have:=h.front (k:=1) (r:=s) rfl
 exact this
theorem St.innApp (h:St B U (inn T sz enc hs m :: inn T sz enc hs2 m2 :: L) w):St B U (inn T sz enc (hs ++ hs2) (m ++ m2) :: L) w:=by
 obtain ⟨p1,h1⟩:=h.swap.unpack
 have h2:St B U (inn T sz enc hs m :: (nV (inR T sz enc) hs2 m2 ++ L)) w:=by
  have:=h1.front (k:=(nV (inR T sz enc) hs2 m2).length) (r:=inn T sz enc hs m) (by rw [nM (nG _)];simp)
  rw [List.eraseIdx_append_of_length_le (nG _)] at this
  simpa using this
 obtain ⟨p2,h3⟩:=h2.unpack
 refine St.pack (by unfold Fit at *;rw [kX,kX,p1,p2]) ?_
 rw [List.zipWith_append p2.len]
 rw [ny]
 exact h3
theorem wSO (hf:Fit hs m) {k:Nat} (hk:k < m.length):(nV (inR T sz enc) hs m)[k]?=some (inR T sz enc (gd hs k) (gd m k)):=by
 rw [List.getElem?_zipWith,wBM (xs:=hs) (by rw [hf.len];exact hk),wBM (xs:=m) hk]
theorem wFm {β:Type}:∀ {l:List β} {i:Nat} (h:i < l.length),(l[i] :: l.eraseIdx i).Perm l
 | a :: l,0,_=>aD _
 | a :: l,i + 1,h=>by
  have hi:i < l.length:=by simpa using h
  simp only [List.getElem_cons_succ,List.eraseIdx_cons_succ]
  exact (List.Perm.swap a l[i] _).trans ((wFm hi).cons a)
theorem wQG (L:List Res):DjL L ↔ L.Pairwise (fun r s=>∀ b,r.has b->¬ s.has b):=by
 rw [kP]
 constructor
 ·intro h i j hi hj hij b h1 h2
  have:=h i j _ _ b (nQ hi) (nQ hj) h1 h2
  omega
 ·intro h i j r s b hi hj h1 h2
  obtain ⟨hi',rfl⟩:=nE.1 hi
  obtain ⟨hj',rfl⟩:=nE.1 hj
  rcases Nat.lt_trichotomy i j with q | q | q
  ·exact absurd h2 (h i j hi' hj' q b h1)
  ·exact q
  ·exact absurd h1 (h j i hj' hi' q b h2)
theorem St.perm {L':List Res} (h:St B U L w) (p:L.Perm L'):St B U L' w :=
 ⟨h.os,h.tape,h.output,h.size,h.old,h.fro,h.le,h.src,fun r hr=>h.at_ r (p.mem_iff.2 hr),fun r hr=>h.own r (p.mem_iff.2 hr),
  (wQG L').2 ((p.pairwise_iff fun hab b h1 h2=>hab b h2 h1).1 ((wQG L).1 h.dj))⟩
theorem wQk (hs:List Hd) (m:List (List α)) (k:Nat) (h:Hd) (l:List α):nV (inR T sz enc) (hs.set k h) (m.set k l)=(nV (inR T sz enc) hs m).set k (inR T sz enc h l):=by
 induction hs generalizing m k with
 | nil=>simp
 | cons a hs ih =>
  cases m with
  | nil=>simp
  | cons b m =>
   cases k with
   | zero=>simp
   | succ k=>simp [ih]
theorem St.innTake {k:Nat} (h:St B U (inn T sz enc hs m :: L) w) (hk:k < m.length):St B U (.row (gd hs k).A (gd hs k).c T sz (nI enc (gd m k)) :: wQF T sz enc hs m k :: L) w:=by
 obtain ⟨p,h1⟩:=h.unpack
 have hl:k < (nV (inR T sz enc) hs m).length:=by rw [ki,p.len];omega
 have e:(nV (inR T sz enc) hs m)[k]=inR T sz enc (gd hs k) (gd m k):=by
  have:=wSO (T:=T) (sz:=sz) (enc:=enc) p hk
  rw [nQ hl] at this
  exact aB this
 have h2:=h1.perm ((wFm hl).symm.append_right L)
 rw [e] at h2
 refine St.swap (St.pack ⟨p,hk⟩ (h2.perm ?_))
 exact List.perm_middle.symm
theorem St.innPut {k:Nat} {A:Option Addr} {c:Nat} {l:List α} (h:St B U (.row A c T sz (nI enc l) :: wQF T sz enc hs m k :: L) w):St B U (inn T sz enc (hs.set k ⟨A,l.length,c⟩) (m.set k l) :: L) w:=by
 obtain ⟨⟨p,hk⟩,h1⟩:=h.swap.unpack
 refine St.pack p.set ?_
 rw [wQk]
 have hl:k < ((nV (inR T sz enc) hs m).set k (inR T sz enc ⟨A,l.length,c⟩ l)).length:=by rw [List.length_set,ki,p.len];omega
 have h2:=h1.perm List.perm_middle
 refine h2.perm (List.Perm.trans ?_ ((wFm hl).append_right L))
 rw [List.getElem_set_self,List.eraseIdx_set_eq]
 exact aD _
theorem St.innBack {k:Nat} {l:List α} (h:St B U (.row (gd hs k).A (gd hs k).c T sz (nI enc l) :: wQF T sz enc hs m k :: L) w) (hl:l.length=(gd m k).length):St B U (inn T sz enc hs (m.set k l) :: L) w:=by
 obtain ⟨p,hk⟩:=h.innHFit (j:=1) rfl
 have:=h.innPut
 rw [show hs.set k ⟨(gd hs k).A,l.length,(gd hs k).c⟩=hs from ?_] at this
 ·exact this
 ·have h1:=wBM (xs:=hs) (k:=k) (by rw [p.len];exact hk)
  apply kL
  intro i
  rw [kM]
  split
  ·rename_i e;subst e
   rw [if_pos (by rw [p.len];exact hk),h1,hl,<- p.at_ hk]
  ·rfl
theorem St.innBack0 {k:Nat} (h:St B U (.row (gd hs k).A (gd hs k).c T sz (nI enc (gd m k)) :: wQF T sz enc hs m k :: L) w):St B U (inn T sz enc hs m :: L) w:=by
 obtain ⟨p,hk⟩:=h.innHFit (j:=1) rfl
 have h2:=h.innBack rfl
 rw [show m.set k (gd m k)=m from ?_] at h2
 ·exact h2
 ·have h1:=wBM (xs:=m) hk
  apply kL
  intro i
  rw [kM]
  split
  ·rename_i e;subst e
   first | exact h1.symm | simp [hk,h1]
  ·rfl
theorem St.innFreeze {R:Rl (List α)} (hR:∀ U A c l,Sl U sz A c l.length (nI enc l)->R.r U l [.slice A l.length c]) (he:∀ x,(enc x).length=sz) (hz:0 < sz):∀ {hs:List Hd} {m:List (List α)} {U:PHeap} {L:List Res},Fit hs m->St B U (nV (inR T sz enc) hs m ++ L) w->∃ U',PHeap.Le U U'/\RlL U' R m (nI wBX hs)/\St B U' L w
 | [],[],U,L,_,h=>⟨U,PHeap.Le.refl U,RlL.nil,h⟩
 | [],_ :: _,_,_,p,_=>by cases p
 | _ :: _,[],_,_,p,_=>by cases p
 | a :: hs,l :: m,U,L,p,h=>by
  have p1:a.n=l.length/\Fit hs m:=by simpa [Fit] using p
  obtain ⟨U1,g1,g2,g3⟩:=St.freezeR (n:=l.length) (sz:=sz) h (k:=0) rfl (wAB he l) hz
  obtain ⟨U2,k1,k2,k3⟩:=St.innFreeze hR he hz p1.2 g3
  refine ⟨U2,g1.trans k1,?_,k3⟩
  have:=RlL.cons (hR U2 a.A a.c l (g2.le k1)) k2
  rw [<- p1.1] at this
  exact this
theorem St.freezeN {R:Rl (List α)} {A:Option Addr} {c S:Nat} (h:St B U (.row A c S 1 (nI wBX hs) :: inn T sz enc hs m :: L) w) (hR:∀ U A c l,Sl U sz A c l.length (nI enc l)->R.r U l [.slice A l.length c]) (he:∀ x,(enc x).length=sz) (hz:0 < sz) (hR1:R.sz=1) :
  ∃ U',PHeap.Le U U'/\SlR U' R A c m/\St B U' L w:=by
 obtain ⟨p,h1⟩:=h.swap.unpack
 obtain ⟨U1,g1,g2,g3⟩:=St.innFreeze hR he hz p h1
 obtain ⟨U2,k1,k2,k3⟩:=g3.freezeRR (k:=0) rfl g2 hR1 (by decide)
 exact ⟨U2,g1.trans k1,k2,k3⟩
theorem wSP {bytes:Nat} {z:List (List α)} (h:app bytes m m2=some z) (p:Fit hs m) (p2:Fit hs2 m2):app bytes hs hs2=some (hs ++ hs2)/\z=m ++ m2:=by
 obtain ⟨rfl,hb⟩:=wMR h
 refine ⟨?_,rfl⟩
 unfold app
 rw [p.len,p2.len,if_pos hb]
theorem slen {σ:Env} {x:Operand} {A:Option Addr} {c:Nat} (h:ev σ x=.slice A m.length c) (p:Fit hs m):ev σ x=.slice A hs.length c:=by rw [h,p.len]
end
section
variable {N:Nat} {P:Program} {l:List Oper} {Q:wDC} {D:List Deferred} {ks:List Nat} {σ:Env} {w:World} {i d:Nat} {s:Sch} {o:Oper} {B:Base} {U:PHeap} {L:List Res}
theorem RunsK.to {v v':Value} (h:RunsK P σ w o v) (e:v=v'):RunsK P σ w o v':=e ▸ h
end
end Go.KL
namespace Go.KL
open Go.RowKit
section
variable {N:Nat} {P:Program} {l:List Oper} {Q:wDC} {D:List Deferred} {ks:List Nat} {s:Sch} {σ:Env} {w:World} {B:Base} {U:PHeap} {L:List Res} {i d:Nat} {o:Oper}
theorem slenA {α:Type} {n c:Nat} {A:Option Addr} {x:Operand} (a:Arr α n) (h:ev σ x=.slice A n c):ev σ x=.slice A a.l.length c:=by rw [h,a.h]
theorem St.freezeTA {α:Type} {f:α->List Value} {sz n k b:Nat} {T:TypeId} {a:Arr α n} (h:St B U L w) (hk:L[k]?=some (.blk b T (nI f a.l))) (hf:∀ x,(f x).length=sz) :
  ∃ U',PHeap.Le U U'/\Sl U' sz (some ⟨b,0,none⟩) n a.l.length (nI f a.l)/\St B U' (L.eraseIdx k) w/\∀ U2 L2 w2,PHeap.Le U' U2->St B U2 L2 w2->∃ U3,PHeap.Le U U3/\St B U3 (.blk b T (nI f a.l) :: L2) w2:=by
 obtain ⟨U',h1,h2,h3,h4⟩:=h.freezeTB hk
 refine ⟨U',h1,⟨by rw [wAB hf],by rw [a.h];exact nG _,.inr ⟨b,0,_,T,(0,0),rfl,h2,?_⟩⟩,h3,h4⟩
 have:(nI f a.l).length=a.l.length * sz:=wAB hf a.l
 rw [List.drop_zero]
 exact List.take_of_length_le (by simp [this])
end
end Go.KL
namespace Go.KX
open Go.RowKit Go.KL
structure Gh where
 N:Nat
 σ:Env
 t:List Nat
 ac:Code
 bc:Code
 rb:Nat
 fn:FuncId
def g0:Gh:=⟨0,fun _=>undef,[],.skip,.skip,0,0⟩
structure Cl where
 b:Nat
 c:Nat
 g:Gh
abbrev Mu:=Pos->Option Cl
mutual
def Rv (μ:Mu):AV->Value->Prop
 | .int k n,v=>v=.int k n
 | .bool b,v=>v=.bool b
 | .ptr b off,v=>∃ c,μ b=some c/\v=.pointer (some ⟨c.1,off,none⟩)
 | .pnil,v=>v=.pointer none
 | .sl b off n c,v=>∃ d,μ b=some d/\n <= c/\v=.slice (some ⟨d.1,off,none⟩) n c
 | .rw b eo co n,v=>∃ d,μ b=some d/\eo + n <= d.2/\v=.slice (some ⟨d.1,co,none⟩) n (d.2 - eo)
 | .rz b eo,v=>∃ d,μ b=some d/\∃ o,v=.slice (some ⟨d.1,o,none⟩) 0 (d.2 - eo)
 | .snil,v=>v=.slice none 0 0
 | .map b,v=>∃ c,μ b=some c/\v=.map (some c.1)
 | .mnil,v=>v=.map none
 | .fn f fi ca,v=>∃ fv cv,RvL μ fi fv/\RvL μ ca cv/\v=.func (.func (f.nat - 1)) fv.toArray cv.toArray
 | .yld b,v=>∃ c,μ b=some c/\v=.func (.yield c.1) #[] #[]
 | .fnil,v=>v=.nilFunc
 | .agg l,v=>∃ vs,RvL μ l vs/\v=.agg vs.toArray
 | .tup l,v=>∃ vs,RvL μ l vs/\v=.tuple vs.toArray
def RvL (μ:Mu):List AV->List Value->Prop
 | [],vs=>vs=[]
 | a :: l,vs=>∃ v ws,Rv μ a v/\RvL μ l ws/\vs=v :: ws
end
def Mu.Le (μ μ':Mu):Prop:=∀ p c,μ p=some c->μ' p=some c
theorem Mu.Le.refl (μ:Mu):μ.Le μ:=fun _ _ h=>h
theorem Mu.Le.trans {a b c:Mu} (h:a.Le b) (k:b.Le c):a.Le c:=fun p x hx=>k p x (h p x hx)
mutual
theorem Rv.mono {μ μ':Mu} (hm:μ.Le μ'):∀ {a:AV} {v:Value},Rv μ a v->Rv μ' a v
 | .int _ _,_,h=>h
 | .bool _,_,h=>h
 | .ptr _ _,_,⟨c,h1,h2⟩=>⟨c,hm _ _ h1,h2⟩
 | .pnil,_,h=>h
 | .sl _ _ _ _,_,⟨c,h1,h2⟩=>⟨c,hm _ _ h1,h2⟩
 | .rw _ _ _ _,_,⟨c,h1,h2⟩=>⟨c,hm _ _ h1,h2⟩
 | .rz _ _,_,⟨c,h1,h2⟩=>⟨c,hm _ _ h1,h2⟩
 | .snil,_,h=>h
 | .map _,_,⟨c,h1,h2⟩=>⟨c,hm _ _ h1,h2⟩
 | .mnil,_,h=>h
 | .fn _ _ _,_,⟨fv,cv,h1,h2,h3⟩=>⟨fv,cv,RvL.mono hm h1,RvL.mono hm h2,h3⟩
 | .yld _,_,⟨c,h1,h2⟩=>⟨c,hm _ _ h1,h2⟩
 | .fnil,_,h=>h
 | .agg _,_,⟨vs,h1,h2⟩=>⟨vs,RvL.mono hm h1,h2⟩
 | .tup _,_,⟨vs,h1,h2⟩=>⟨vs,RvL.mono hm h1,h2⟩
theorem RvL.mono {μ μ':Mu} (hm:μ.Le μ'):∀ {l:List AV} {vs:List Value},RvL μ l vs->RvL μ' l vs
 | [],_,h=>h
 | _ :: _,_,⟨v,ws,h1,h2,h3⟩=>⟨v,ws,Rv.mono hm h1,RvL.mono hm h2,h3⟩
end
theorem wGk {μ:Mu}:RvL μ [] []:=rfl
theorem wBc {μ:Mu} {a:AV} {l:List AV} {v:Value} {vs:List Value} (h:Rv μ a v) (h':RvL μ l vs):RvL μ (a :: l) (v :: vs):=⟨v,vs,h,h',rfl⟩
theorem wCo {μ:Mu}:∀ {l:List AV} {vs:List Value},RvL μ l vs->vs.length=l.length
 | [],_,h=>by cases h;rfl
 | _ :: _,_,⟨_,_,_,h2,h3⟩=>by subst h3;simp [wCo h2]
theorem wDr {μ:Mu}:∀ {l k:List AV} {vs ws:List Value},RvL μ l vs->RvL μ k ws->RvL μ (l ++ k) (vs ++ ws)
 | [],_,_,_,h,h'=>by cases h;exact h'
 | _ :: _,_,_,_,⟨v,ws,h1,h2,h3⟩,h'=>by subst h3;exact wBc h1 (wDr h2 h')
theorem wEy {μ:Mu}:∀ {l:List AV} {vs:List Value},RvL μ l vs->∀ {i:Nat} {a:AV},l[i]?=some a->∃ v,vs[i]?=some v/\Rv μ a v
 | [],_,_,i,a,hi=>by simp at hi
 | b :: l,_,⟨v,ws,h1,h2,h3⟩,i,a,hi=>by
  subst h3
  cases i with
  | zero=>simp at hi;subst hi;exact ⟨v,rfl,h1⟩
  | succ i=>simpa using wEy h2 (i:=i) (by simpa using hi)
theorem wHw {μ:Mu}:∀ {l:List AV} {vs:List Value} (n:Nat),RvL μ l vs->RvL μ (l.drop n) (vs.drop n)
 | _,_,0,h=>h
 | [],_,n + 1,h=>by cases h;exact rfl
 | _ :: _,_,n + 1,⟨_,_,_,h2,h3⟩=>by subst h3;exact wHw n h2
theorem wHx {μ:Mu}:∀ {l:List AV} {vs:List Value} (n:Nat),RvL μ l vs->RvL μ (l.take n) (vs.take n)
 | _,_,0,_=>rfl
 | [],_,n + 1,h=>by cases h;exact rfl
 | _ :: _,_,n + 1,⟨_,_,h1,h2,h3⟩=>by subst h3;exact wBc h1 (wHx n h2)
theorem wGl {μ:Mu} {l:List AV} {vs:List Value} (h:RvL μ l vs):∀ n,RvL μ (rep n l) (nL n vs).flatten
 | 0=>rfl
 | n + 1=>by rw [List.replicate_succ,List.flatten_cons];exact wDr h (wGl h n)
section
variable {α:Type}
theorem wGA:∀ (l:List α) (n:Nat),nth l n=l[n]?
 | [],_=>rfl
 | _ :: _,0=>rfl
 | _ :: l,n + 1=>by show nth l n=_;rw [wGA l n];simp
theorem wEP:∀ (l:List α),len l=l.length
 | []=>rfl
 | _ :: l=>by show Nat.succ (len l)=_;rw [wEP l];rfl
theorem wFn {a:α} {o:Option (List α)} {r:List α} (h:wJi a o=some r):∃ r',o=some r'/\r=a :: r':=by
 cases o with
 | none=>cases h
 | some r'=>cases h;exact ⟨r',rfl,rfl⟩
theorem wKC:∀ {l:List α} {n:Nat} {r:List α},tk l n=some r->r=l.take n/\n <= l.length
 | [],0,r,h=>by cases h;simp
 | [],n + 1,r,h=>by cases h
 | a :: l,0,r,h=>by cases h;simp
 | a :: l,n + 1,r,h=>by
  obtain ⟨r',h1,rfl⟩:=wFn (show wJi a (tk l n)=some r from h)
  obtain ⟨h2,h3⟩:=wKC h1
  simp [h2,h3]
theorem wKr:∀ {l:List α} {off n:Nat} {r:List α},sub l off n=some r->r=(l.drop off).take n/\off + n <= l.length
 | [],0,n,r,h=>by have:=wKC (l:=[]) (n:=n) h;simpa using this
 | [],off + 1,n,r,h=>by cases h
 | a :: l,0,n,r,h=>by have:=wKC (l:=a :: l) (n:=n) h;simpa using this
 | a :: l,off + 1,n,r,h=>by
  obtain ⟨h1,h2⟩:=wKr (show sub l off n=some r from h)
  exact ⟨by simpa using h1,by simp;omega⟩
theorem wKD:∀ {l vs r:List α},ov l vs=some r->vs.length <= l.length/\r=vs ++ l.drop vs.length
 | [],[],r,h=>by cases h;simp
 | [],v :: vs,r,h=>by cases h
 | a :: l,[],r,h=>by cases h;simp
 | a :: l,v :: vs,r,h=>by
  obtain ⟨r',h1,rfl⟩:=wFn (show wJi v (ov l vs)=some r from h)
  obtain ⟨h2,h3⟩:=wKD h1
  subst h3
  exact ⟨by simpa using h2,by simp⟩
theorem wIy:∀ {l:List α} {off:Nat} {vs r:List α},wQa l off vs=some r->off + vs.length <= l.length/\r=l.take off ++ vs ++ l.drop (off + vs.length)
 | [],0,vs,r,h=>by have:=wKD (l:=[]) h;simp at this;simp [this]
 | [],off + 1,vs,r,h=>by cases h
 | a :: l,0,vs,r,h=>by have:=wKD (l:=a :: l) h;simp at this;simp [this]
 | a :: l,off + 1,vs,r,h=>by
  obtain ⟨r',h1,rfl⟩:=wFn (show wJi a (wQa l off vs)=some r from h)
  obtain ⟨h2,h3⟩:=wIy h1
  subst h3
  refine ⟨by simp;omega,?_⟩
  rw [show off + 1 + vs.length=(off + vs.length) + 1 from by omega]
  simp
end
theorem setN_eq:∀ (vs l:List Value) (off:Nat),off + vs.length <= l.length->wEA l off vs=l.take off ++ vs ++ l.drop (off + vs.length)
 | [],l,off,_=>by simp [wEA]
 | v :: vs,l,off,h=>by
  simp only [List.length_cons] at h
  have hlt:off < l.length:=by omega
  rw [wEA,setN_eq vs (l.set off v) (off + 1) (by simp;omega)]
  have h1:(l.set off v).take (off + 1)=l.take off ++ [v]:=by
   rw [List.take_set,List.take_add_one,nQ hlt]
   rw [List.set_append_right _ _ (by simp;omega)]
   simp [Nat.min_eq_left (Nat.le_of_lt hlt)]
  rw [h1,List.drop_set_of_lt (by omega)]
  rw [show off + 1 + vs.length=off + (v :: vs).length from by simp;omega]
  simp
theorem wHy {μ:Mu} {l vs r:List AV} {L V:List Value} {off:Nat} (h:wQa l off vs=some r) (hl:RvL μ l L) (hv:RvL μ vs V):off + V.length <= L.length/\RvL μ r (wEA L off V):=by
 obtain ⟨h1,rfl⟩:=wIy h
 have e1:=wCo hl
 have e2:=wCo hv
 have h2:off + V.length <= L.length:=by omega
 refine ⟨h2,?_⟩
 rw [setN_eq V L off h2,e2]
 exact wDr (wDr (wHx off hl) hv) (wHw _ hl)
theorem wEz {μ:Mu} {l r:List AV} {L:List Value} {off n:Nat} (h:sub l off n=some r) (hl:RvL μ l L):RvL μ r ((L.drop off).take n)/\off + n <= L.length:=by
 obtain ⟨rfl,h1⟩:=wKr h
 have e1:=wCo hl
 exact ⟨wHx n (wHw off hl),by omega⟩
theorem wSQ {μ:Mu} {a:AV} {v:Value} (h:Rv μ a v) (h1:a.one=true):one v=true:=by
 cases a <;> simp only [Rv] at h <;> first | (cases h1;done) | (subst h;rfl) | (obtain ⟨_,_,_,_,_,rfl⟩:=h;rfl) | (obtain ⟨_,_,_,_,rfl⟩:=h;rfl) | (obtain ⟨_,_,_,rfl⟩:=h;rfl) | (obtain ⟨_,_,rfl⟩:=h;rfl)
theorem wDs {μ:Mu}:∀ {l:List AV} {vs:List Value},RvL μ l vs->wQb l=true->∀ v ∈ vs,one v=true
 | [],_,h,_=>by cases h;simp
 | a :: l,_,⟨v,ws,h1,h2,h3⟩,ho=>by
  subst h3
  have ho:(a.one && wQb l)=true:=ho
  rw [nA] at ho
  intro u hu
  rcases nj.1 hu with rfl | hu
  ·exact wSQ h1 ho.1
  ·exact wDs h2 ho.2 u hu
theorem wGK {μ:Mu} {a:AV} {v:Value} (h:Rv μ a v):∃ vs,RvL μ a.cells vs/\v.cells=vs.toArray:=by
 cases a with
 | agg l=>obtain ⟨vs,h1,rfl⟩:=h;exact ⟨vs,h1,rfl⟩
 | tup l=>obtain ⟨vs,h1,rfl⟩:=h;exact ⟨[_],wBc ⟨vs,h1,rfl⟩ wGk,rfl⟩
 | _ =>
  refine ⟨[v],wBc h wGk,?_⟩
  simp only [Rv] at h
  first | (subst h;rfl) | (obtain ⟨_,_,_,_,_,rfl⟩:=h;rfl) | (obtain ⟨_,_,_,_,rfl⟩:=h;rfl) | (obtain ⟨_,_,_,rfl⟩:=h;rfl) | (obtain ⟨_,_,rfl⟩:=h;rfl)
end Go.KX
namespace Go.KX
noncomputable section
open Go.RowKit Go.KL
def EnvR (μ:Mu) (σA:Tr AV) (σ:Env):Prop:=∀ p:Pos,Rv μ (evA σA (.t p)) (σ (p.nat - 1))
theorem wKE (σA:Tr AV) (p:Pos):evA σA (.t p)=(σA.get p).getD u:=by
 show Option.rec (motive:=fun _=>AV) u (fun v=>v) (σA.get p)=_
 cases σA.get p <;> rfl
theorem EnvR.mono {μ μ':Mu} {σA:Tr AV} {σ:Env} (h:EnvR μ σA σ) (hm:μ.Le μ'):EnvR μ' σA σ:=fun p=>(h p).mono hm
theorem EnvR.put {μ:Mu} {σA:Tr AV} {σ:Env} (h:EnvR μ σA σ) {p:Pos} {a:AV} {v:Value} (hv:Rv μ a v):EnvR μ (σA.set p a) (upd σ (p.nat - 1) v):=by
 intro q
 rw [wKE,Tr.get_set]
 by_cases e:q=p
 ·subst e;rw [if_pos rfl,wCd];exact hv
 ·rw [if_neg e,wDI,<- wKE]
  ·exact h q
  ·intro e2
   have:=p.nat_pos;have:=q.nat_pos
   exact e (Pos.nat_inj (by omega))
theorem wNE (μ:Mu):Rv μ u undef:=⟨[],rfl,rfl⟩
theorem wKs {μ:Mu}:∀ {args:List AV} {vs:List Value},RvL μ args vs->∀ {p:Pos} {t:Tr AV} {σ σ':Env},EnvR μ t σ->(∀ i,i < p.nat - 1->σ' i=σ i)->(∀ j v,vs[j]?=some v->σ' (p.nat - 1 + j)=v) ->
  (∀ i,p.nat - 1 + vs.length <= i->σ' i=σ i)->EnvR μ (wMs args p t) σ'
 | [],_,h,p,t,σ,σ',hE,h1,_,h3=>by
  cases h
  intro q
  have:=hE q
  by_cases e:q.nat - 1 < p.nat - 1
  ·rw [h1 _ e];exact this
  ·rw [h3 _ (by simp;omega)];exact this
 | a :: l,_,⟨v,ws,h1,h2,h3⟩,p,t,σ,σ',hE,g1,g2,g3=>by
  subst h3
  have hp:=p.nat_pos
  refine wKs h2 (p:=p.succ) (hE.put (p:=p) h1) ?_ ?_ ?_
  ·intro i hi
   rw [Pos.nat_succ] at hi
   by_cases e:i=p.nat - 1
   ·subst e;rw [wCd];exact g2 0 v rfl
   ·rw [wDI _ _ e];exact g1 i (by omega)
  ·intro j x hx
   rw [Pos.nat_succ]
   have:=g2 (j + 1) x (by simpa using hx)
   rw [<- this];congr 1;omega
  ·intro i hi
   rw [Pos.nat_succ] at hi
   rw [wDI _ _ (by omega)]
   exact g3 i (by simp;omega)
theorem wQl {μ:Mu} {args:List AV} {vs:List Value} (h:RvL μ args vs):EnvR μ (wMs args .H .e) (wPt vs):=by
 have h0:EnvR μ .e (fun _=>undef):=by intro p;rw [wKE,Tr.get_e];exact wNE μ
 refine wKs h (p:=.H) h0 (fun i hi=>by simp [Pos.nat] at hi) (fun j v hv=>?_) (fun i hi=>?_)
 ·simp [wPt,Pos.nat,hv]
 ·simp only [Pos.nat] at hi
  simp [wPt,kE (by omega:vs.length <= i)]
mutual
def okc:AV->Value->Bool
 | .int k n,.int k' n'=>keq k k' && zeq n n'
 | .bool b,.bool b'=>b == b'
 | .pnil,.pointer none=>true
 | .snil,.slice none 0 0=>true
 | .mnil,.map none=>true
 | .fnil,.nilFunc=>true
 | .agg l,.agg vs=>wPG l vs.toList
 | .tup l,.tuple vs=>wPG l vs.toList
 | _,_=>false
def wPG:List AV->List Value->Bool
 | [],[]=>true
 | a :: l,v :: vs=>okc a v && wPG l vs
 | _,_=>false
end
theorem wKt:∀ {a b:Int},zeq a b=true ↔ a=b
 | .ofNat a,.ofNat b=>by simp [zeq];omega
 | .negSucc a,.negSucc b=>by simp [zeq]
 | .ofNat a,.negSucc b=>by simp [zeq]
 | .negSucc a,.ofNat b=>by simp [zeq]
theorem wDt (a b:Int):zeq a b=decide (a=b):=by
 by_cases h:a=b
 ·rw [wKt.2 h];simp [h]
 ·have:zeq a b ≠ true:=fun e=>h (wKt.1 e)
  simp [h,kO.2 this]
theorem wGm:∀ (a b:Int),zlt a b=decide (a < b)
 | .ofNat a,.ofNat b=>by
  simp only [zlt,nr,Int.ofNat_lt]
  by_cases h:a < b
  ·simp [h,nJ]
  ·simp [h,kO,nJ]
 | .negSucc a,.negSucc b=>by
  simp only [zlt,kH]
  by_cases h:b < a
  ·have h2:-((a:Int) + 1) < -((b:Int) + 1):=by omega
   simp [h2,nJ];exact h
  ·have h2:¬ -((a:Int) + 1) < -((b:Int) + 1):=by omega
   simp [h2,kO,nJ];omega
 | .ofNat a,.negSucc b=>by
  simp only [zlt,kH,nr]
  have h2:¬ (a:Int) < -((b:Int) + 1):=by omega
  simp [h2]
 | .negSucc a,.ofNat b=>by
  simp only [zlt,kH,nr]
  have h2:-((a:Int) + 1) < (b:Int):=by omega
  simp [h2]
theorem wNF (a b:Int):zle a b=decide (a <= b):=by
 rw [zle,wGm]
 by_cases h:a <= b
 ·simp [h,Int.not_lt.2 h]
 ·simp [h,Int.not_le.1 h]
theorem wBi {a b:IntKind} (h:keq a b=true):a=b:=by cases a <;> cases b <;> first | rfl | cases h
mutual
theorem wNG (μ:Mu):∀ {a:AV} {v:Value},okc a v=true->Rv μ a v
 | .int k n,v,h=>by
  cases v <;> simp only [okc,nA,nY] at h
  rw [wBi h.1,wKt.1 h.2];rfl
 | .bool b,v,h=>by
  cases v <;> simp only [okc,beq_iff_eq,nY] at h
  subst h;rfl
 | .pnil,v,h=>by
  unfold okc at h
  split at h <;> first | rfl | (exfalso;simp_all;done) | simp_all [Rv]
 | .snil,v,h=>by
  unfold okc at h
  split at h <;> first | rfl | (exfalso;simp_all;done) | simp_all [Rv]
 | .mnil,v,h=>by
  unfold okc at h
  split at h <;> first | rfl | (exfalso;simp_all;done) | simp_all [Rv]
 | .fnil,v,h=>by
  cases v <;> simp only [okc,nY] at h
  rfl
 | .agg l,v,h=>by
  cases v <;> simp only [okc,nY] at h
  exact ⟨_,wFo μ h,by simp⟩
 | .tup l,v,h=>by
  cases v <;> simp only [okc,nY] at h
  exact ⟨_,wFo μ h,by simp⟩
 | .ptr _ _,v,h=>by simp [okc] at h
 | .sl _ _ _ _,v,h=>by simp [okc] at h
 | .rw _ _ _ _,v,h=>by simp [okc] at h
 | .rz _ _,v,h=>by simp [okc] at h
 | .map _,v,h=>by simp [okc] at h
 | .fn _ _ _,v,h=>by simp [okc] at h
 | .yld _,v,h=>by simp [okc] at h
theorem wFo (μ:Mu):∀ {l:List AV} {vs:List Value},wPG l vs=true->RvL μ l vs
 | [],[],_=>rfl
 | a :: l,v :: vs,h=>by
  simp only [wPG,nA] at h
  exact wBc (wNG μ h.1) (wFo μ h.2)
 | [],_ :: _,h=>by simp [wPG] at h
 | _ :: _,[],h=>by simp [wPG] at h
end
def wCB:AOd->Operand->Bool
 | .t p,.tmp t=>nD p.nat (t + 1)
 | .c a,.const v=>okc a v
 | .c (.fn f [] []),.func g=>nD f.nat (g + 1)
 | _,_=>false
def wIz:List AOd->List Operand->Bool
 | [],[]=>true
 | x :: l,y :: k=>wCB x y && wIz l k
 | _,_=>false
theorem wAI {μ:Mu} {σA:Tr AV} {σ:Env} {x:AOd} {y:Operand} (h:wCB x y=true) (hE:EnvR μ σA σ):Rv μ (evA σA x) (ev σ y):=by
 unfold wCB at h
 split at h
 ·rename_i p t
  have:=nB h
  have h2:=hE p
  rw [this] at h2
  exact h2
 ·exact wNG μ h
 ·rename_i f g
  have:=nB h
  exact ⟨[],[],rfl,rfl,by show Value.func (.func g) #[] #[]=_;rw [this];rfl⟩
 ·cases h
theorem wGL {μ:Mu} {σA:Tr AV} {σ:Env}:∀ {l:List AOd} {k:List Operand},wIz l k=true->EnvR μ σA σ->RvL μ (evs σA l) (k.map (ev σ))
 | [],[],_,_=>rfl
 | x :: l,y :: k,h,hE=>by
  simp only [wIz,nA] at h
  exact wBc (wAI h.1 hE) (wGL h.2 hE)
 | [],_ :: _,h,_=>by simp [wIz] at h
 | _ :: _,[],h,_=>by simp [wIz] at h
def MR {K:Type} (μ:Mu) (l:List (K × AV)) (t:List (K × Value)):Prop:=l.map (·.1)=t.map (·.1)/\RvL μ (l.map (·.2)) (t.map (·.2))
def mk2 (k:IntKind) (x:Int × Int):Value:=.agg #[.int k x.1,.int k x.2]
def exC:Ex->Exit
 | .nrm=>.normal
 | .exit i=>.exit i
 | .ret=>.ret
def lsC:LS->LoopState × Option Code
 | .ready=>(.ready,none)
 | .busy=>(.busy,none)
 | .done .ret=>(.done,some .ret)
 | .done (.exit i)=>(.done,some (.exit i))
 | .done .nrm=>(.ready,none)
abbrev Chk:=AC->Code->Nat->Prop
structure wLj (C:Chk) (μ:Mu) (w:World) (c:Cl) (σA:Tr AV) (t:List Pos) (asg body:AC) (s:LS):Prop where
 at_:LoopAt w c.1 c.g.N c.g.σ c.g.t c.g.ac c.g.bc c.g.rb c.g.fn (lsC s).1 (lsC s).2
 env:EnvR μ σA c.g.σ
 ht:t.map Pos.nat=c.g.t.map (· + 1)
 tN:∀ x ∈ c.g.t,x < c.g.N
 asg:C asg c.g.ac c.g.N
 body:C body c.g.bc c.g.N
def AbR (C:Chk) (P:Program) (μ:Mu) (w:World) (c:Cl):AB->Prop
 | .cells T l=>∃ vs,RvL μ l vs/\Blk w c.1 T vs
 | .row T sz l=>∃ vs,RvL μ l vs/\RowAt w (some ⟨c.1,0,none⟩) c.2 T sz vs
 | .map0=>∃ ck,w.heap[c.1]?=some (.map #[] ck)
 | .mapI k l=>∃ es ck t,w.heap[c.1]?=some (.map es ck)/\MpR es (fun n:Int=>kJ k n) id t/\MR μ l t
 | .map2 k l=>∃ es ck t,w.heap[c.1]?=some (.map es ck)/\MpR es (mk2 k) id t/\MR μ l t
 | .loop σA t asg body s=>wLj C μ w c σA t asg body s
 | .dead=>True
def wLk:AB->Prop
 | .dead=>False
 | _=>True
variable {C:Chk} {P:Program} {μ μ' μ'':Mu} {w w' w'':World} {h h' h'':AH}
theorem MR.mono {K:Type} {l:List (K × AV)} {t:List (K × Value)} (h:MR μ l t) (hm:μ.Le μ'):MR μ' l t:=⟨h.1,h.2.mono hm⟩
theorem AbR.mono {c:Cl} {B:AB} (h:AbR C P μ w c B) (hm:μ.Le μ'):AbR C P μ' w c B:=by
 cases B with
 | cells T l=>obtain ⟨vs,h1,h2⟩:=h;exact ⟨vs,h1.mono hm,h2⟩
 | row T sz l=>obtain ⟨vs,h1,h2⟩:=h;exact ⟨vs,h1.mono hm,h2⟩
 | map0=>exact h
 | mapI k l=>obtain ⟨es,ck,t,h1,h2,h3⟩:=h;exact ⟨es,ck,t,h1,h2,h3.mono hm⟩
 | map2 k l=>obtain ⟨es,ck,t,h1,h2,h3⟩:=h;exact ⟨es,ck,t,h1,h2,h3.mono hm⟩
 | loop σA t asg body s=>exact ⟨h.at_,h.env.mono hm,h.ht,h.tN,h.asg,h.body⟩
 | dead=>trivial
theorem AbR.keep {c:Cl} {B:AB} {X:Nat->Prop} (h:AbR C P μ w c B) (k:Keep w w' X) (hx:¬ X c.1):AbR C P μ w' c B:=by
 cases B with
 | cells T l=>obtain ⟨vs,h1,h2⟩:=h;exact ⟨vs,h1,h2.keep k hx⟩
 | row T sz l =>
  obtain ⟨vs,h1,h2⟩:=h
  refine ⟨vs,h1,?_⟩
  obtain ⟨cur,h3,h4⟩:=RowAt.cells h2
  exact .inr ⟨c.1,cur,rfl,(k.block _ (wAT h3) hx).trans h3,h4⟩
 | map0=>obtain ⟨ck,h1⟩:=h;exact ⟨ck,(k.block _ (wAT h1) hx).trans h1⟩
 | mapI _ l=>obtain ⟨es,ck,t,h1,h2⟩:=h;exact ⟨es,ck,t,(k.block _ (wAT h1) hx).trans h1,h2⟩
 | map2 _ l=>obtain ⟨es,ck,t,h1,h2⟩:=h;exact ⟨es,ck,t,(k.block _ (wAT h1) hx).trans h1,h2⟩
 | loop σA t asg body s=>exact ⟨h.at_.keep k hx,h.env,h.ht,h.tN,h.asg,h.body⟩
 | dead=>trivial
def img (μ:Mu) (fl:Nat) (c:Nat):Prop:=∃ p d,μ p=some d/\d.1=c/\fl <= p.nat
structure Ext (μ:Mu) (fl:Nat) (w:World) (μ':Mu) (w':World):Prop where
 mono:μ.Le μ'
 new:∀ p c,μ' p=some c->μ p=some c \/ img μ fl c.1 \/ w.heap.size <= c.1
 keep:Keep w w' (img μ fl)
theorem Ext.refl (μ:Mu) (fl:Nat) (w:World):Ext μ fl w μ w:=⟨Mu.Le.refl μ,fun _ _ h=>.inl h,Keep.refl w _⟩
theorem Ext.img {fl:Nat} {c:Nat} (E:Ext μ fl w μ' w') (hi:img μ' fl c):KX.img μ fl c \/ w.heap.size <= c:=by
 obtain ⟨p,d,h1,rfl,h2⟩:=hi
 rcases E.new p _ h1 with h3 | h3 | h3
 ·exact .inl ⟨p,d,h3,rfl,h2⟩
 ·exact .inl h3
 ·exact .inr h3
theorem Ext.trans {fl:Nat} (E:Ext μ fl w μ' w') (E':Ext μ' fl w' μ'' w''):Ext μ fl w μ'' w'':=by
 refine ⟨E.mono.trans E'.mono,fun p c hp=>?_,E.keep.step E'.keep fun i hi hm=>?_⟩
 ·rcases E'.new p c hp with h1 | h1 | h1
  ·exact E.new p c h1
  ·exact .inr (E.img h1)
  ·exact .inr (.inr (nf E.keep.size h1))
 ·rcases E.img hm with h1 | h1
  ·exact h1
  ·omega
structure Sim (C:Chk) (P:Program) (μ:Mu) (h:AH) (w:World):Prop where
 nx:∀ p,h.nx.nat <= p.nat->μ p=none
 lt:∀ p c,μ p=some c->c.1 < w.heap.size
 inj:∀ p q a b c d,h.m.get p=some a->h.m.get q=some b->wLk a->wLk b->μ p=some c->μ q=some d->c.1=d.1->p=q
 at_:∀ p b,h.m.get p=some b->∃ c,μ p=some c/\AbR C P μ w c b
theorem Sim.keep (S:Sim C P μ h w) (k:Keep w w' Non):Sim C P μ h w' :=
 ⟨S.nx,fun p c hp=>ng (S.lt p c hp) k.size,S.inj,fun p b hb=>let ⟨c,h1,h2⟩:=S.at_ p b hb;⟨c,h1,h2.keep k id⟩⟩
theorem Sim.floor (S:Sim C P μ h w) (f:Pos):Sim C P μ ⟨h.m,h.nx,f⟩ w:=⟨S.nx,S.lt,S.inj,S.at_⟩
theorem Sim.non (S:Sim C P μ h w) (E:Ext μ h.nx.nat w μ' w') (fl:Nat):Keep w w' Non/\Ext μ fl w μ' w':=by
 have hn:∀ c,¬ img μ h.nx.nat c:=fun c ⟨p,k,h1,_,h2⟩=>by rw [S.nx p h2] at h1;cases h1
 refine ⟨E.keep.weak fun i _ hi=>hn i hi,E.mono,fun p c hp=>?_,E.keep.weak fun i _ hi=>(hn i hi).elim⟩
 rcases E.new p c hp with h1 | h1 | h1
 ·exact .inl h1
 ·exact (hn _ h1).elim
 ·exact .inr (.inr h1)
theorem wHz {h h':AH} {p:Pos} {B:AB} (hp:h.put p B=some h'):h.fl.nat <= p.nat/\h'=⟨h.m.set p B,h.nx,h.fl⟩:=by
 unfold AH.put at hp
 split at hp
 ·cases hp
 ·rename_i hf
  cases hp
  refine ⟨?_,rfl⟩
  rcases kD p.nat h.fl.nat with hlt | hge
  ·rw [(Pos.ltb_iff p h.fl false).2 (.inl hlt)] at hf;cases hf
  ·exact hge
theorem Sim.put {p:Pos} {B B':AB} {c:Cl} (S:Sim C P μ h w) (hp:h.put p B'=some h') (hB:h.m.get p=some B) (hl:wLk B) (hc:μ p=some c) (K:Keep w w' (·=c.1)) (hB':AbR C P μ w' c B') :
  Sim C P μ h' w'/\Ext μ h.fl.nat w μ w'/\h'.fl=h.fl:=by
 obtain ⟨hf,rfl⟩:=wHz hp
 refine ⟨⟨S.nx,fun p c hp=>ng (S.lt p c hp) K.size,?_,?_⟩,⟨Mu.Le.refl μ,fun _ _ h=>.inl h,K.weak fun i _ e=>⟨p,c,hc,e.symm,hf⟩⟩,rfl⟩
 ·intro q r a b d e hq hr la lb hd he hde
  simp only [Tr.get_set] at hq hr
  split at hq <;> split at hr
  ·rename_i h1 h2;rw [h1,h2]
  ·rename_i h1 h2;exact (S.inj q r B b d e (h1 ▸ hB) hr hl lb hd he hde)
  ·rename_i h1 h2;exact (S.inj q r a B d e hq (h2 ▸ hB) la hl hd he hde)
  ·exact S.inj q r a b d e hq hr la lb hd he hde
 ·intro q b hq
  simp only [Tr.get_set] at hq
  split at hq
  ·rename_i h1;subst h1;cases hq;exact ⟨c,hc,hB'⟩
  ·rename_i h1
   obtain ⟨d,h2,h3⟩:=S.at_ q b hq
   refine ⟨d,h2,?_⟩
   by_cases lb:wLk b
   ·exact h3.keep K fun e=>h1 (S.inj q p b B d c hq hB lb hl h2 hc e)
   ·cases b <;> first | trivial | exact (lb trivial).elim
def Mu.add (μ:Mu) (p:Pos) (c:Cl):Mu:=fun q=>if q=p then some c else μ q
theorem Mu.add_le {p:Pos} {c:Cl} (hn:μ p=none):μ.Le (μ.add p c):=by
 intro q d hq
 unfold Mu.add
 by_cases e:q=p
 ·subst e;rw [hn] at hq;cases hq
 ·rw [if_neg e];exact hq
theorem Mu.add_same (μ:Mu) (p:Pos) (c:Cl):μ.add p c p=some c:=by simp [Mu.add]
theorem Sim.push {c:Cl} {B:AB} (S:Sim C P μ h w) (K:Keep w w' Non) (hc:w.heap.size <= c.1) (hlt:c.1 < w'.heap.size) (hB:AbR C P (μ.add h.nx c) w' c B) :
  Sim C P (μ.add h.nx c) (h.push B) w'/\Ext μ h.fl.nat w (μ.add h.nx c) w'/\(h.push B).fl=h.fl/\(μ.add h.nx c) h.nx=some c:=by
 have hn:=S.nx h.nx (nG _)
 have hle:=Mu.add_le (c:=c) hn
 refine ⟨⟨?_,?_,?_,?_⟩,⟨hle,?_,K.weak fun _ _ h=>h.elim⟩,rfl,Mu.add_same _ _ _⟩
 ·intro p hp
  have hp:h.nx.succ.nat <= p.nat:=hp
  rw [Pos.nat_succ] at hp
  unfold Mu.add
  rw [if_neg (fun e=>by subst e;omega)]
  exact S.nx p (by omega)
 ·intro p d hd
  unfold Mu.add at hd
  split at hd
  ·cases hd;exact hlt
  ·exact ng (S.lt p d hd) K.size
 ·intro p q a b d e hp hq la lb hd he hde
  simp only [AH.push,Tr.get_set] at hp hq
  unfold Mu.add at hd he
  split at hd <;> split at he
  ·rename_i h1 h2;rw [h1,h2]
  ·cases hd;have:=S.lt _ _ he;omega
  ·cases he;have:=S.lt _ _ hd;omega
  ·rename_i h1 h2
   rw [if_neg h1] at hp
   rw [if_neg h2] at hq
   exact S.inj p q a b d e hp hq la lb hd he hde
 ·intro p b hb
  simp only [AH.push,Tr.get_set] at hb
  split at hb
  ·rename_i h1;subst h1;cases hb;exact ⟨c,Mu.add_same _ _ _,hB⟩
  ·obtain ⟨d,h2,h3⟩:=S.at_ p b hb
   exact ⟨d,hle _ _ h2,(h3.mono hle).keep K id⟩
 ·intro p d hd
  unfold Mu.add at hd
  split at hd
  ·cases hd;exact .inr (.inr hc)
  ·exact .inl hd
theorem Sim.move {p:Pos} {B B':AB} {c d:Cl} (S:Sim C P μ h w) (hp:h.put p .dead=some h') (hB:h.m.get p=some B) (hl:wLk B) (hc:μ p=some c) (K:Keep w w' (·=c.1)) (hd:d.1=c.1 \/ w.heap.size <= d.1) (hlt:d.1 < w'.heap.size)
  (hB':AbR C P (μ.add h.nx d) w' d B'):Sim C P (μ.add h.nx d) (h'.push B') w'/\Ext μ h.fl.nat w (μ.add h.nx d) w'/\(h'.push B').fl=h.fl/\(μ.add h.nx d) h.nx=some d:=by
 obtain ⟨hf,rfl⟩:=wHz hp
 have hn:=S.nx h.nx (nG _)
 have hle:=Mu.add_le (c:=d) hn
 have hpn:p ≠ h.nx:=fun e=>by rw [e,hn] at hc;cases hc
 refine ⟨⟨?_,?_,?_,?_⟩,⟨hle,?_,K.weak fun i _ e=>⟨p,c,hc,e.symm,hf⟩⟩,rfl,Mu.add_same _ _ _⟩
 ·intro q hq
  have hq:h.nx.succ.nat <= q.nat:=hq
  rw [Pos.nat_succ] at hq
  unfold Mu.add
  rw [if_neg (fun e=>by subst e;omega)]
  exact S.nx q (by omega)
 ·intro q e he
  unfold Mu.add at he
  split at he
  ·cases he;exact hlt
  ·exact ng (S.lt q e he) K.size
 ·have key:∀ q b e,q ≠ h.nx->((h.m.set p .dead).set h.nx B').get q=some b->wLk b->(μ.add h.nx d) q=some e->e.1 ≠ d.1:=by
   intro q b e hq hb lb he hed
   simp only [Tr.get_set,if_neg hq] at hb
   unfold Mu.add at he
   rw [if_neg hq] at he
   split at hb
   ·cases hb;exact lb
   ·rename_i hqp
    rcases hd with h1 | h1
    ·exact hqp (S.inj q p b B e c hb hB lb hl he hc (hed.trans h1))
    ·have:=S.lt _ _ he;omega
  intro q r a b e f hq hr la lb he hf hef
  by_cases e1:q=h.nx <;> by_cases e2:r=h.nx
  ·rw [e1,e2]
  ·subst e1;rw [Mu.add_same] at he;cases he;exact absurd hef.symm (key r b f e2 hr lb hf)
  ·subst e2;rw [Mu.add_same] at hf;cases hf;exact absurd hef (key q a e e1 hq la he)
  ·simp only [AH.push,Tr.get_set,if_neg e1,if_neg e2] at hq hr
   unfold Mu.add at he hf
   rw [if_neg e1] at he
   rw [if_neg e2] at hf
   split at hq
   ·cases hq;exact la.elim
   ·split at hr
    ·cases hr;exact lb.elim
    ·exact S.inj q r a b e f hq hr la lb he hf hef
 ·intro q b hb
  simp only [AH.push,Tr.get_set] at hb
  split at hb
  ·rename_i h1;subst h1;cases hb;exact ⟨d,Mu.add_same _ _ _,hB'⟩
  ·split at hb
   ·rename_i h1 h2;subst h2;cases hb;exact ⟨c,hle _ _ hc,trivial⟩
   ·rename_i h1 h2
    obtain ⟨e,h3,h4⟩:=S.at_ q b hb
    refine ⟨e,hle _ _ h3,?_⟩
    by_cases lb:wLk b
    ·exact (h4.mono hle).keep K fun e'=>h2 (S.inj q p b B e c hb hB lb hl h3 hc e')
    ·cases b <;> first | trivial | exact (lb trivial).elim
 ·intro q e he
  unfold Mu.add at he
  split at he
  ·cases he
   rcases hd with h1 | h1
   ·exact .inr (.inl ⟨p,c,hc,h1.symm,hf⟩)
   ·exact .inr (.inr h1)
  ·exact .inl he
end
end Go.KX
namespace Go.KX
noncomputable section
open Go.RowKit Go.KL
def aggD:TypeDesc->Bool
 | .struct _ | .array _ _=>true
 | _=>false
def wEE (P:Program) (t:TypeId) (f:TypeDesc->Bool):Bool:=match P.underlying t with
 | some d=>f d
 | none=>false
def szT (P:Program) (t n:Nat):Bool:=match P.info? t with
 | some i=>nD i.size n
 | none=>false
def byT (P:Program) (t n:Nat):Bool:=match P.info? t with
 | some i=>nD i.bytes n
 | none=>false
def zT (P:Program) (t:TypeId) (z:List AV):Bool:=match P.info? t with
 | some i=>match i.zero with
  | some v=>wPG z v.cells.toList
  | none=>false
 | none=>false
section
variable {C:Chk} {P:Program} {μ μ':Mu} {w w':World} {h h':AH} {σ:Env} {σA:Tr AV} {t e:TypeId} {o:Oper}
theorem wAi {f:TypeDesc->Bool} (hc:wEE P t f=true):∃ d,P.underlying t=some d/\f d=true:=by
 unfold wEE at hc
 split at hc
 ·exact ⟨_,by assumption,hc⟩
 ·cases hc
theorem wAs {d:TypeDesc} (hu:P.underlying t=some d) (w:World):(underlying t).run P w=.ok d w:=run_underlying hu w
theorem wDW {n:Nat} (hc:szT P t n=true) (w:World):(sizeOf t).run P w=.ok n w:=by
 unfold szT at hc
 split at hc
 ·rename_i i hi
  rw [<- nB hc]
  simp [sizeOf,typeInfo,hi]
 ·cases hc
theorem wGM {n:Nat} (hc:szT P t n=true):∃ i,P.info? t=some i/\i.size=n:=by
 unfold szT at hc
 split at hc
 ·rename_i i hi;exact ⟨i,hi,nB hc⟩
 ·cases hc
theorem wGN {n:Nat} (hc:byT P t n=true):∃ i,P.info? t=some i/\i.bytes=n:=by
 unfold byT at hc
 split at hc
 ·rename_i i hi;exact ⟨i,hi,nB hc⟩
 ·cases hc
theorem wFA {z:List AV} (hc:zT P t z=true):∃ i v,P.info? t=some i/\i.zero=some v/\∀ μ,RvL μ z v.cells.toList:=by
 unfold zT at hc
 split at hc
 ·rename_i i hi
  split at hc
  ·rename_i v hv;exact ⟨i,v,hi,hv,fun μ=>wFo μ hc⟩
  ·cases hc
 ·cases hc
theorem wDX {i:TypeInfo} {z:Value} (hi:P.info? t=some i) (hz:i.zero=some z) (w:World):(zeroValue t).run P w=.ok z w:=by
 simp [zeroValue,typeInfo,hi,hz]
theorem wGn {d:TypeDesc} (hu:P.underlying t=some d) (w:World):(isAgg t).run P w=.ok (aggD d) w:=by
 simp only [isAgg,Sem.run_bind,wAs hu,Result.andThen_ok]
 cases d <;> rfl
def wPH (P:Program) (t:TypeId) (b:Bool):Bool:=wEE P t fun d=>aggD d == b
theorem wEQ {b:Bool} (hc:wPH P t b=true) (w:World):(isAgg t).run P w=.ok b w:=by
 obtain ⟨d,h1,h2⟩:=wAi hc
 rw [wGn h1,eq_of_beq h2]
def OkP (P:Program) (op:Op) (f:Tr AV->AH->Option (AV × AH)):Prop :=
 ∀ σA h v h',f σA h=some (v,h')->h'=h/\∀ μ σ,EnvR μ σA σ->∃ cv,Rv μ v cv/\∀ (o:Oper) (w:World),o.op=op->Runs P σ w o cv w
def c_mv (x:AOd):Op->Bool
 | .move y | .assign y=>wCB x y
 | _=>false
theorem p_mv {x:AOd} {op:Op} (hc:c_mv x op=true):OkP P op (wRv x):=by
 intro σA h v h' hr
 cases hr
 refine ⟨rfl,fun μ σ hE=>?_⟩
 unfold c_mv at hc
 split at hc
 ·exact ⟨_,wAI hc hE,fun o w ho=>Runs.mv ho rfl⟩
 ·exact ⟨_,wAI hc hE,fun o w ho=>Runs.as ho rfl⟩
 ·cases hc
def wNH (c x y:AOd):Op->Bool
 | .pick c' x' y'=>wCB c c' && (wCB x x' && wCB y y')
 | _=>false
theorem wSR {c x y:AOd} {op:Op} (hc:wNH c x y op=true):OkP P op (wGc c x y):=by
 intro σA h v h' hr
 unfold wNH at hc
 split at hc
 ·rename_i c' x' y'
  simp only [nA] at hc
  unfold wGc at hr
  split at hr
  ·rename_i hb;cases hr
   exact ⟨rfl,fun μ σ hE=>⟨_,wAI hc.2.1 hE,fun o w ho=>Runs.pickT ho (by have:=wAI hc.1 hE;rw [hb] at this;exact this) rfl⟩⟩
  ·rename_i hb;cases hr
   exact ⟨rfl,fun μ σ hE=>⟨_,wAI hc.2.2 hE,fun o w ho=>Runs.pickF ho (by have:=wAI hc.1 hE;rw [hb] at this;exact this) rfl⟩⟩
  ·cases hr
 ·cases hc
def wNI (x:AOd):Op->Bool
 | .nilCheck y=>wCB x y
 | _=>false
theorem wSS {x:AOd} {op:Op} (hc:wNI x op=true):OkP P op (wGd x):=by
 intro σA h v h' hr
 unfold wNI at hc
 split at hc
 ·unfold wGd at hr
  split at hr
  ·rename_i hb;cases hr
   refine ⟨rfl,fun μ σ hE=>?_⟩
   have:=wAI hc hE;rw [hb] at this
   refine ⟨_,this,fun o w ho=>?_⟩
   obtain ⟨c,h1,h2⟩:=this
   rw [h2];exact Runs.nilp ho h2
  ·rename_i hb;cases hr
   refine ⟨rfl,fun μ σ hE=>?_⟩
   have:=wAI hc hE;rw [hb] at this
   refine ⟨_,this,fun o w ho=>?_⟩
   obtain ⟨fv,cv,_,_,h2⟩:=this
   rw [h2];exact Runs.nilf ho h2
  ·rename_i hb;cases hr
   refine ⟨rfl,fun μ σ hE=>?_⟩
   have:=wAI hc hE;rw [hb] at this
   refine ⟨_,this,fun o w ho=>?_⟩
   obtain ⟨c,h1,h2⟩:=this
   rw [h2];exact Runs.nily ho h2
  ·cases hr
 ·cases hc
theorem wIA {k:IntKind} {n:Int} (hk:inK k n=true):k.wrap n=n:=by
 unfold inK at hk
 split at hk <;> (try simp only [nJ] at hk) <;> (try simp only [IntKind.wrap_i64,IntKind.wrap_u8,IntKind.wrap_u32,Go.IntKind.wrap_u64,kH,nr]) <;> first | omega | cases hk
theorem wBl {x:Option AV} {v:AV} (hr:okV h x=some (v,h')):x=some v/\h'=h:=by
 cases x <;> cases hr;exact ⟨rfl,rfl⟩
theorem wBd {α:Type} {b:Bool} {x:Option α} {v:α} (hr:ifO b x=some v):b=true/\x=some v:=by
 cases b
 ·cases hr
 ·exact ⟨rfl,hr⟩
theorem wHe {f:Int->Int->Int} {x y v:AV} (hr:wJj f x y=some v):∃ k a b,x=.int k a/\y=.int k b/\v=.int k (f a b)/\k.wrap (f a b)=f a b:=by
 unfold wJj at hr
 split at hr
 ·rename_i k a k' b
  split at hr
  ·rename_i hk
   split at hr
   ·rename_i hi;cases hr;exact ⟨k,a,b,rfl,by rw [wBi hk],rfl,wIA hi⟩
   ·cases hr
  ·cases hr
 ·cases hr
theorem wPI {f:Int->Int->Int} {x y v:AV} (hr:div f x y=some v):∃ k a b,x=.int k a/\y=.int k b/\v=.int k (f a b)/\k.wrap (f a b)=f a b/\b ≠ 0:=by
 unfold div at hr
 split at hr
 ·rename_i k a k' b
  split at hr
  ·rename_i hk
   split at hr
   ·cases hr
   ·rename_i hz
    split at hr
    ·rename_i hi;cases hr
     exact ⟨k,a,b,rfl,by rw [wBi hk],rfl,wIA hi,fun e=>by rw [wKt.2 e] at hz;cases hz⟩
    ·cases hr
  ·cases hr
 ·cases hr
theorem wNJ {f:Int->Int->Bool} {x y v:AV} (hr:wPA f x y=some v):∃ k a b,x=.int k a/\y=.int k b/\v=.bool (f a b):=by
 unfold wPA at hr
 split at hr
 ·rename_i k a k' b
  split at hr
  ·rename_i hk;cases hr;exact ⟨k,a,b,rfl,by rw [wBi hk],rfl⟩
  ·cases hr
 ·cases hr
def wCX (b:BinOp) (x y:AOd):Op->Bool
 | .binOp b' _ x' y' _=>(b' == b) && (wCB x x' && wCB y y')
 | _=>false
theorem wFU {b:BinOp} {x y:AOd} {op:Op} (hc:wCX b x y op=true):∃ t x' y' t',op=.binOp b t x' y' t'/\wCB x x'=true/\wCB y y'=true:=by
 unfold wCX at hc
 split at hc
 ·rename_i b' t x' y' t'
  simp only [nA,beq_iff_eq] at hc
  obtain ⟨rfl,h1,h2⟩:=hc
  exact ⟨t,x',y',t',rfl,h1,h2⟩
 ·cases hc
theorem wKF {b:BinOp} {f:Int->Int->Int} {x y:AOd} {op:Op} (hc:wCX b x y op=true)
  (hrun:∀ (o:Oper) (σ:Env) (w:World) t x' y' t' k m n,o.op=.binOp b t x' y' t'->ev σ x'=.int k m->ev σ y'=.int k n->Runs P σ w o (.int k (k.wrap (f m n))) w) :
  OkP P op (fun σ h=>okV h (wJj f (evA σ x) (evA σ y))):=by
 intro σA h v h' hr
 obtain ⟨t,x',y',t',rfl,h1,h2⟩:=wFU hc
 obtain ⟨hr2,rfl⟩:=wBl hr
 obtain ⟨k,m,n,e1,e2,rfl,e3⟩:=wHe hr2
 refine ⟨rfl,fun μ σ hE=>⟨_,rfl,fun o w ho=>?_⟩⟩
 have g1:=wAI h1 hE;rw [e1] at g1
 have g2:=wAI h2 hE;rw [e2] at g2
 have:=hrun o σ w t x' y' t' k m n ho g1 g2
 rwa [e3] at this
theorem p_add {x y:AOd} {op:Op} (hc:wCX .add x y op=true):OkP P op (wMd x y) :=
 wKF hc fun o σ w t x' y' t' k m n ho h1 h2=>⟨by rw [ho];rfl,by simp [execOp,ho,h1,h2,binOp,eqGuard,Op.intArith]⟩
theorem p_sub {x y:AOd} {op:Op} (hc:wCX .sub x y op=true):OkP P op (wMe x y) :=
 wKF hc fun o σ w t x' y' t' k m n ho h1 h2=>⟨by rw [ho];rfl,by simp [execOp,ho,h1,h2,binOp,eqGuard,Op.intArith];rfl⟩
theorem p_mul {x y:AOd} {op:Op} (hc:wCX .mul x y op=true):OkP P op (wMf x y) :=
 wKF hc fun o σ w t x' y' t' k m n ho h1 h2=>⟨by rw [ho];rfl,by simp [execOp,ho,h1,h2,binOp,eqGuard,Op.intArith]⟩
theorem wST {b:BinOp} {f:Int->Int->Int} {x y:AOd} {op:Op} (hc:wCX b x y op=true)
  (hrun:∀ (o:Oper) (σ:Env) (w:World) t x' y' t' k m n,o.op=.binOp b t x' y' t'->ev σ x'=.int k m->ev σ y'=.int k n->n ≠ 0->k.wrap (f m n)=f m n->Runs P σ w o (.int k (f m n)) w) :
  OkP P op (fun σ h=>okV h (div f (evA σ x) (evA σ y))):=by
 intro σA h v h' hr
 obtain ⟨t,x',y',t',rfl,h1,h2⟩:=wFU hc
 obtain ⟨hr2,rfl⟩:=wBl hr
 obtain ⟨k,m,n,e1,e2,rfl,e3,e4⟩:=wPI hr2
 refine ⟨rfl,fun μ σ hE=>⟨_,rfl,fun o w ho=>?_⟩⟩
 have g1:=wAI h1 hE;rw [e1] at g1
 have g2:=wAI h2 hE;rw [e2] at g2
 exact hrun o σ w t x' y' t' k m n ho g1 g2 e4 e3
theorem p_quo {x y:AOd} {op:Op} (hc:wCX .quo x y op=true):OkP P op (wMg x y) :=
 wST hc fun o σ w t x' y' t' k m n ho h1 h2 h3 h4=>⟨by rw [ho];rfl,by simp [execOp,ho,h1,h2,binOp,eqGuard,Op.intDiv,h3,h4]⟩
theorem p_rem {x y:AOd} {op:Op} (hc:wCX .rem x y op=true):OkP P op (wMh x y) :=
 wST hc fun o σ w t x' y' t' k m n ho h1 h2 h3 h4=>⟨by rw [ho];rfl,by simp [execOp,ho,h1,h2,binOp,eqGuard,Op.intDiv,h3]⟩
theorem wLl {b:BinOp} {f:Int->Int->Bool} {x y:AOd} {op:Op} (hc:wCX b x y op=true)
  (hrun:∀ (o:Oper) (σ:Env) (w:World) t x' y' t' k m n,o.op=.binOp b t x' y' t'->ev σ x'=.int k m->ev σ y'=.int k n->Runs P σ w o (.bool (f m n)) w) :
  OkP P op (fun σ h=>okV h (wPA f (evA σ x) (evA σ y))):=by
 intro σA h v h' hr
 obtain ⟨t,x',y',t',rfl,h1,h2⟩:=wFU hc
 obtain ⟨hr2,rfl⟩:=wBl hr
 obtain ⟨k,m,n,e1,e2,rfl⟩:=wNJ hr2
 refine ⟨rfl,fun μ σ hE=>⟨_,rfl,fun o w ho=>?_⟩⟩
 have g1:=wAI h1 hE;rw [e1] at g1
 have g2:=wAI h2 hE;rw [e2] at g2
 exact hrun o σ w t x' y' t' k m n ho g1 g2
theorem p_lss {x y:AOd} {op:Op} (hc:wCX .lss x y op=true):OkP P op (wMi x y) :=
 wLl hc fun o σ w t x' y' t' k m n ho h1 h2=>(Runs.lss ho h1 h2).to (by rw [wGm])
theorem p_leq {x y:AOd} {op:Op} (hc:wCX .leq x y op=true):OkP P op (wMj x y) :=
 wLl hc fun o σ w t x' y' t' k m n ho h1 h2=>(Runs.leq ho h1 h2).to (by rw [wNF])
theorem p_gtr {x y:AOd} {op:Op} (hc:wCX .gtr x y op=true):OkP P op (wMk x y) :=
 wLl hc fun o σ w t x' y' t' k m n ho h1 h2=>(Runs.gtr ho h1 h2).to (by rw [wGm])
theorem p_geq {x y:AOd} {op:Op} (hc:wCX .geq x y op=true):OkP P op (wMl x y) :=
 wLl hc fun o σ w t x' y' t' k m n ho h1 h2=>(Runs.geq ho h1 h2).to (by rw [wNF])
theorem p_eql {x y:AOd} {op:Op} (hc:wCX .eql x y op=true):OkP P op (wMm x y) :=
 wLl hc fun o σ w t x' y' t' k m n ho h1 h2=>(Runs.eql ho h1 h2).to (by rw [wDt])
theorem p_neq {x y:AOd} {op:Op} (hc:wCX .neq x y op=true):OkP P op (wMn x y) :=
 wLl hc fun o σ w t x' y' t' k m n ho h1 h2=>(Runs.neq ho h1 h2).to (by rw [wDt];simp)
def wQm (x:AOd):Op->Bool
 | .unOp .neg _ y=>wCB x y
 | _=>false
theorem p_neg {x:AOd} {op:Op} (hc:wQm x op=true):OkP P op (wMo x):=by
 intro σA h v h' hr
 unfold wQm at hc
 split at hc
 ·obtain ⟨hr2,rfl⟩:=wBl hr
  obtain ⟨k,m,n,e1,e2,rfl,e3⟩:=wHe hr2
  rw [e2] at e1
  simp only at e1
  cases e1
  refine ⟨rfl,fun μ σ hE=>⟨_,rfl,fun o w ho=>?_⟩⟩
  have g2:=wAI hc hE;rw [e2] at g2
  refine ⟨by rw [ho];rfl,?_⟩
  have:ev σ _=.int k n:=g2
  simp only [execOp,ho,this,Op.unary,Op.intArith,Sem.run_bind,Sem.run_pure,Result.andThen_ok]
  rw [show (0:Int) - n=Int.sub 0 n from rfl,e3]
 ·cases hc
def wQn (x:AOd):Op->Bool
 | .unOp .not _ y=>wCB x y
 | _=>false
theorem p_not {x:AOd} {op:Op} (hc:wQn x op=true):OkP P op (wJn x):=by
 intro σA h v h' hr
 unfold wQn at hc
 split at hc
 ·unfold wJn at hr
  split at hr
  ·rename_i hb;cases hr
   refine ⟨rfl,fun μ σ hE=>⟨_,rfl,fun o w ho=>?_⟩⟩
   have g:=wAI hc hE;rw [hb] at g
   exact Runs.not ho g
  ·cases hr
 ·cases hc
def wNK:TypeDesc->Option IntKind
 | .int k=>some k
 | _=>none
def wQo (k:IntKind) (x:AOd):Op->Bool
 | .convert s t y=>wEE P s (fun d=>(wNK d).isSome) && (wEE P t (fun d=>match wNK d with | some k'=>keq k k' | none=>false) && wCB x y)
 | _=>false
theorem p_cvt {k:IntKind} {x:AOd} {op:Op} (hc:wQo (P:=P) k x op=true):OkP P op (wJo k x):=by
 intro σA h v h' hr
 unfold wQo at hc
 split at hc
 ·simp only [nA] at hc
  obtain ⟨c1,c2,c3⟩:=hc
  unfold wJo at hr
  split at hr
  ·rename_i k0 n hb
   obtain ⟨hi,hr⟩:=wBd hr
   cases hr
   refine ⟨rfl,fun μ σ hE=>⟨_,rfl,fun o w ho=>?_⟩⟩
   have g:=wAI c3 hE;rw [hb] at g
   obtain ⟨d,d1,d2⟩:=wAi c1
   obtain ⟨e,e1,e2⟩:=wAi c2
   cases d <;> first | (cases d2;done) | skip
   cases e <;> first | (cases e2;done) | skip
   have:=wBi e2
   subst this
   have g':ev σ _=.int k0 n:=g
   exact ⟨by rw [ho];rfl,by simp [execOp,ho,g',convert,wAs d1,wAs e1,Conv.intToInt,wIA hi]⟩
  ·cases hr
 ·cases hc
def wQp (f:Pos) (fi ca:List AOd):Op->Bool
 | .makeFunc (.func g) fi' ca'=>nD f.nat (g + 1) && (wIz fi fi'.toList && wIz ca ca'.toList)
 | _=>false
theorem p_mkf {f:Pos} {fi ca:List AOd} {op:Op} (hc:wQp f fi ca op=true):OkP P op (wLe f fi ca):=by
 intro σA h v h' hr
 cases hr
 unfold wQp at hc
 split at hc
 ·simp only [nA] at hc
  obtain ⟨c1,c2,c3⟩:=hc
  refine ⟨rfl,fun μ σ hE=>⟨_,⟨_,_,wGL c2 hE,wGL c3 hE,rfl⟩,fun o w ho=>?_⟩⟩
  have e:=nB c1
  refine ⟨by rw [ho];rfl,?_⟩
  simp [execOp,ho,Instr.makeFunc,e,<- ky]
 ·cases hc
def wQq (i:Nat) (x:AOd):Op->Bool
 | .extract y j=>nD i j && wCB x y
 | _=>false
theorem p_ext {i:Nat} {x:AOd} {op:Op} (hc:wQq i x op=true):OkP P op (wJu i x):=by
 intro σA h v h' hr
 unfold wQq at hc
 split at hc
 ·simp only [nA] at hc
  have e:=nB hc.1
  subst e
  unfold wJu at hr
  split at hr
  ·rename_i l hb
   obtain ⟨hr2,rfl⟩:=wBl hr
   refine ⟨rfl,fun μ σ hE=>?_⟩
   have g:=wAI hc.2 hE;rw [hb] at g
   obtain ⟨vs,g1,g2⟩:=g
   rw [wGA] at hr2
   obtain ⟨cv,g3,g4⟩:=wEy g1 hr2
   exact ⟨cv,g4,fun o w ho=>Runs.ext ho g2 (by simpa using g3)⟩
  ·cases hr
 ·cases hc
end
end
end Go.KX
namespace Go.KX
noncomputable section
open Go.RowKit Go.KL
section
variable {C:Chk} {P:Program} {μ μ':Mu} {w w':World} {h h':AH} {σ:Env} {σA:Tr AV} {t e:TypeId} {o:Oper}
def wQr (P:Program) (ne:Bool) (x y:AOd):Op->Bool
 | .binOp b t x' y' _=>(match ne with | true=>b == .neq | false=>b == .eql) && (wEE P t (fun d=>match d with | .bool=>true | _=>false) && (wCB x x' && wCB y y'))
 | _=>false
theorem wHf (ne b:Bool):(ne != b)=(match ne with | true=>!b | false=>b):=by cases ne <;> cases b <;> rfl
theorem p_eqb {ne:Bool} {x y:AOd} {op:Op} (hc:wQr P ne x y op=true):OkP P op (wJk ne x y):=by
 intro σA h v h' hr
 unfold wQr at hc
 split at hc
 ·simp only [nA] at hc
  obtain ⟨c0,c1,c2,c3⟩:=hc
  unfold wJk at hr
  split at hr
  ·rename_i a b e1 e2
   cases hr
   refine ⟨rfl,fun μ σ hE=>⟨_,rfl,fun o w ho=>?_⟩⟩
   have g1:=wAI c2 hE;rw [e1] at g1
   have g2:=wAI c3 hE;rw [e2] at g2
   obtain ⟨d,d1,d2⟩:=wAi c1
   cases d <;> first | (cases d2;done) | skip
   cases ne
   ·have:=eq_of_beq c0;subst this
    exact (Runs.eqB ho g1 g2 (wAs d1)).to (by rw [wHf])
   ·have:=eq_of_beq c0;subst this
    exact (Runs.neB ho g1 g2 (wAs d1)).to (by rw [wHf])
  ·cases hr
 ·cases hc
def nilD (k:Nat) (d:TypeDesc):Bool:=match k,d with
 | 0,.pointer _=>true
 | 1,.slice _=>true
 | 2,.map _ _=>true
 | 3,.func _ _ _=>true
 | _,_=>false
theorem wNL {k:Nat} {d:TypeDesc} {a b:AV} {r:Bool} {x y:Value} (hu:P.underlying t=some d) (hd:nilD k d=true) (hr:wLa k a b=some r) (hx:Rv μ a x) (hy:Rv μ b y) (w:World):(Op.equal t x y).run P w=.ok r w:=by
 unfold Op.equal Op.maxDepth
 rw [show (10000:Nat)=9999 + 1 from rfl,Op.equalIn]
 unfold wLa at hr
 split at hr <;> cases hr <;> simp only [Rv] at hx hy <;> (cases d <;> first | (cases hd;done) | skip) <;>
  (try obtain ⟨_,_,_,_,_,rfl⟩:=hx) <;> (try obtain ⟨_,_,_,_,rfl⟩:=hx) <;> (try obtain ⟨_,_,_,rfl⟩:=hx) <;> (try obtain ⟨_,_,rfl⟩:=hx) <;> (try subst hx) <;>
  (try obtain ⟨_,_,_,_,_,rfl⟩:=hy) <;> (try obtain ⟨_,_,_,_,rfl⟩:=hy) <;> (try obtain ⟨_,_,_,rfl⟩:=hy) <;> (try obtain ⟨_,_,rfl⟩:=hy) <;> (try subst hy) <;>
  simp only [Sem.run_bind,wAs hu,Result.andThen_ok,Sem.run_pure] <;> rfl
theorem wKG {k:Nat} {a b:AV} {r:Bool} {x y:Value} (hr:wLa k a b=some r) (hx:Rv μ a x) (hy:Rv μ b y) (op:BinOp) (p q:Operand) (w:World):(eqGuard op t p q x y).run P w=.ok () w:=by
 unfold wLa at hr
 split at hr <;> cases hr <;> simp only [Rv] at hx hy <;>
  (try obtain ⟨_,_,_,_,_,rfl⟩:=hx) <;> (try obtain ⟨_,_,_,_,rfl⟩:=hx) <;> (try obtain ⟨_,_,_,rfl⟩:=hx) <;> (try obtain ⟨_,_,rfl⟩:=hx) <;> (try subst hx) <;>
  (try obtain ⟨_,_,_,_,_,rfl⟩:=hy) <;> (try obtain ⟨_,_,_,_,rfl⟩:=hy) <;> (try obtain ⟨_,_,_,rfl⟩:=hy) <;> (try obtain ⟨_,_,rfl⟩:=hy) <;> (try subst hy) <;>
  simp only [eqGuard] <;> (cases op <;> rfl)
def wQs (P:Program) (k:Nat) (ne:Bool) (x y:AOd):Op->Bool
 | .binOp b t x' y' _=>(match ne with | true=>b == .neq | false=>b == .eql) && (wEE P t (nilD k) && (wCB x x' && wCB y y'))
 | _=>false
theorem p_eqn {k:Nat} {ne:Bool} {x y:AOd} {op:Op} (hc:wQs P k ne x y op=true):OkP P op (wJl k ne x y):=by
 intro σA h v h' hr
 unfold wQs at hc
 split at hc
 ·rename_i b t x' y' t'
  simp only [nA] at hc
  obtain ⟨c0,c1,c2,c3⟩:=hc
  unfold wJl at hr
  split at hr
  ·rename_i r e1
   cases hr
   refine ⟨rfl,fun μ σ hE=>⟨_,rfl,fun o w ho=>?_⟩⟩
   have g1:=wAI c2 hE
   have g2:=wAI c3 hE
   obtain ⟨d,d1,d2⟩:=wAi c1
   have g3:=wNL d1 d2 e1 g1 g2
   have g4:=fun op=>wKG (P:=P) (t:=t) e1 g1 g2 op x' y'
   refine ⟨by rw [ho];rfl,?_⟩
   generalize hX:ev σ x'=X at g1 g3 g4
   generalize hY:ev σ y'=Y at g2 g3 g4
   have nint:(∀ k n,X ≠ .int k n)/\(∀ k n,X ≠ .float k n)/\(∀ k n m,X ≠ .complex k n m)/\(∀ s,X ≠ .string s):=by
    unfold wLa at e1
    split at e1 <;> cases e1 <;> rename_i e2 e3 <;> rw [e2] at g1 <;> simp only [Rv] at g1 <;>
     (try obtain ⟨_,_,_,_,_,rfl⟩:=g1) <;> (try obtain ⟨_,_,_,_,rfl⟩:=g1) <;> (try obtain ⟨_,_,_,rfl⟩:=g1) <;> (try obtain ⟨_,_,rfl⟩:=g1) <;> (try subst g1) <;>
     exact ⟨by simp,by simp,by simp,by simp⟩
   obtain ⟨n1,n2,n3,n4⟩:=nint
   cases ne
   ·have:=eq_of_beq c0;subst this
    simp only [execOp,ho,Sem.run_bind,hX,hY,g4 .eql w,Result.andThen_ok]
    have:(binOp .eql t X Y).run P w=.ok (.bool r) w:=by
     cases X <;> first | exact absurd rfl (n1 _ _) | exact absurd rfl (n2 _ _) | exact absurd rfl (n3 _ _ _) | exact absurd rfl (n4 _) | (simp only [binOp,Sem.run_bind,g3 w,Result.andThen_ok];rfl)
    rw [this]
    simp [wHf]
   ·have:=eq_of_beq c0;subst this
    simp only [execOp,ho,Sem.run_bind,hX,hY,g4 .neq w,Result.andThen_ok]
    have:(binOp .neq t X Y).run P w=.ok (.bool (!r)) w:=by
     cases X <;> first | exact absurd rfl (n1 _ _) | exact absurd rfl (n2 _ _) | exact absurd rfl (n3 _ _ _) | exact absurd rfl (n4 _) | (simp only [binOp,Sem.run_bind,g3 w,Result.andThen_ok];rfl)
    rw [this]
    simp [wHf]
  ·cases hr
 ·cases hc
mutual
def Sh.depth:Sh->Nat
 | .int=>1
 | .bool=>1
 | .str fs=>wKu fs + 1
def wKu:List (Nat × Nat × Sh)->Nat
 | []=>0
 | (_,_,s) :: fs=>Nat.max s.depth (wKu fs)
end
mutual
def wKH (P:Program):Sh->TypeId->Bool
 | .int,t=>wEE P t fun d=>(wNK d).isSome
 | .bool,t=>wEE P t fun d=>match d with | .bool=>true | _=>false
 | .str fs,t=>(!P.stoodInHeld t) && wEE P t fun d=>match d with | .struct gs=>wLm P fs gs.toList | _=>false
def wLm (P:Program):List (Nat × Nat × Sh)->List Field->Bool
 | [],[]=>true
 | (off, sz, s) :: fs, g :: gs => (g.name != "_") && (nD g.offset off && (szT P g.type sz && (wKH P s g.type && wLm P fs gs)))
 | _,_=>false
end
theorem wNM {s:Sh} (hc:wKH P s t=true) (w:World):(isAgg t).run P w=.ok (match s with | .str _=>true | _=>false) w:=by
 cases s with
 | int =>
  obtain ⟨d,h1,h2⟩:=wAi hc
  rw [wGn h1];cases d <;> first | rfl | cases h2
 | bool =>
  obtain ⟨d,h1,h2⟩:=wAi hc
  rw [wGn h1];cases d <;> first | rfl | cases h2
 | str fs =>
  simp only [wKH,nA] at hc
  obtain ⟨d,h1,h2⟩:=wAi hc.2
  rw [wGn h1];cases d <;> first | rfl | cases h2
theorem wJA {s:Sh} {l:List AV} {vs:List Value} {off sz:Nat} {a:AV} (hc:wKH P s t=true) (hz:szT P t sz=true) (hp:wPB s l off sz=some a) (hl:RvL μ l vs):∃ v,Rv μ a v/\∀ w,(part t vs.toArray off).run P w=.ok v w:=by
 have hag:=wNM hc
 unfold wPB at hp
 split at hp
 ·split at hp
  ·rename_i r hs
   cases hp
   obtain ⟨h1,h2⟩:=wEz hs hl
   exact ⟨_,⟨_,h1,rfl⟩,fun w=>wEb hag (wDW hz) rfl⟩
  ·cases hp
 ·rename_i hne
  rw [wGA] at hp
  obtain ⟨v,h1,h2⟩:=wEy hl hp
  refine ⟨v,h2,fun w=>wDJ (fun w=>?_) h1⟩
  rw [hag w]
  cases s <;> first | rfl | exact absurd rfl (hne _)
mutual
theorem wKv:∀ (s:Sh) (t:TypeId) (d:Nat) (a b:AV) (x y:Value) (r:Bool),wKH P s t=true->s.depth <= d->wPC s a b=some r->Rv μ a x->Rv μ b y->∀ w,(Op.equalIn d t x y).run P w=.ok r w
 | .int,t,d,a,b,x,y,r,hc,hd,hr,hx,hy,w=>by
  obtain ⟨d,rfl⟩:∃ e,d=e + 1:=⟨d - 1,by simp only [Sh.depth] at hd;omega⟩
  unfold wPC at hr
  split at hr <;> first | (cases hr;done) | skip
  all_goals (try (rename_i h0;cases h0))
  split at hr <;> cases hr
  rename_i hk
  obtain ⟨dd,d1,d2⟩:=wAi hc
  cases dd <;> first | (cases d2;done) | skip
  simp only [Rv] at hx hy
  subst hx hy
  have:=wBi hk;subst this
  simp [Op.equalIn,wAs d1,wDt,wJd]
 | .bool,t,d,a,b,x,y,r,hc,hd,hr,hx,hy,w=>by
  obtain ⟨d,rfl⟩:∃ e,d=e + 1:=⟨d - 1,by simp only [Sh.depth] at hd;omega⟩
  unfold wPC at hr
  split at hr <;> first | (cases hr;done) | skip
  all_goals (try (rename_i h0;cases h0))
  cases hr
  obtain ⟨dd,d1,d2⟩:=wAi hc
  cases dd <;> first | (cases d2;done) | skip
  simp only [Rv] at hx hy
  subst hx hy
  simp [Op.equalIn,wAs d1]
 | .str fs,t,d,a,b,x,y,r,hc,hd,hr,hx,hy,w=>by
  simp only [Sh.depth] at hd
  obtain ⟨d,rfl⟩:∃ e,d=e + 1:=⟨d - 1,by omega⟩
  unfold wPC at hr
  split at hr <;> first | (cases hr;done) | skip
  all_goals (try (rename_i h0;cases h0))
  simp only [wKH,nA,np] at hc
  obtain ⟨dd,d1,d2⟩:=wAi hc.2
  cases dd <;> first | (cases d2;done) | skip
  rename_i gs
  obtain ⟨xs,h1,rfl⟩:=hx
  obtain ⟨ys,h2,rfl⟩:=hy
  have hf:P.fieldsOf t=gs:=by unfold Program.fieldsOf;rw [d1]
  rw [run_equalIn_agg w d t _ _ (by rw [hf];exact d1) hc.1,hf]
  exact wKw fs gs.toList d _ _ xs ys r d2 (by omega) hr h1 h2 w
theorem wKw:∀ (fs:List (Nat × Nat × Sh)) (gs:List Field) (d:Nat) (l k:List AV) (xs ys:List Value) (r:Bool),wLm P fs gs=true->wKu fs <= d->wSJ fs l k=some r->RvL μ l xs->RvL μ k ys ->
  ∀ w,(Op.eqFields d xs.toArray ys.toArray gs).run P w=.ok r w
 | [],[],d,l,k,xs,ys,r,hc,hd,hr,hx,hy,w=>by
  simp only [wSJ] at hr;cases hr;rfl
 | (off,sz,s) :: fs,g :: gs,d,l,k,xs,ys,r,hc,hd,hr,hx,hy,w=>by
  simp only [wLm,nA] at hc
  obtain ⟨c1,c2,c3,c4,c5⟩:=hc
  have e:=nB c2
  subst e
  simp only [wSJ] at hr
  split at hr
  ·rename_i a b ha hb
   obtain ⟨u,u1,u2⟩:=wJA c4 c3 ha hx
   obtain ⟨v,v1,v2⟩:=wJA c4 c3 hb hy
   have hne : g.name ≠ "_" := by simpa using c1
   have hd1:s.depth <= d:=nf (Nat.le_max_left _ _) hd
   have hd2:wKu fs <= d:=nf (Nat.le_max_right _ _) hd
   cases hq:wPC s a b with
   | none=>rw [hq] at hr;cases hr
   | some q =>
    have hE:=wKv s g.type d a b u v q c4 hd1 hq u1 v1
    rw [hq] at hr
    cases q with
    | true =>
     simp only at hr
     have hF:=wKw fs gs d l k xs ys r c5 hd2 hr hx hy
     simp [Op.eqFields,hne,u2,v2,hE,hF,Result.andThen]
    | false =>
     simp only [na] at hr
     subst hr
     simp [Op.eqFields,hne,u2,v2,hE,Result.andThen]
  ·cases hr
 | [],_ :: _,d,l,k,xs,ys,r,hc,hd,hr,hx,hy,w=>by simp [wLm] at hc
 | _ :: _,[],d,l,k,xs,ys,r,hc,hd,hr,hx,hy,w=>by simp [wLm] at hc
end
theorem wPJ {fs:List (Nat × Nat × Sh)} {r:Bool}:∀ {a b:AV},wPC (.str fs) a b=some r->∃ l k,a=.agg l/\b=.agg k:=by
 intro a b h
 cases a <;> cases b <;> first | exact ⟨_,_,rfl,rfl⟩ | (simp [wPC] at h;done)
def wQt (P:Program) (ne:Bool) (s:Sh) (x y:AOd):Op->Bool
 | .binOp b t x' y' _=>(match ne with | true=>b == .neq | false=>b == .eql) && (kQ s.depth 10000 && (wKH P s t && ((match s with | .str _=>true | _=>false) && ((!P.eqGuardType P.depth t) && (wCB x x' && wCB y y')))))
 | _=>false
theorem p_eqs {ne:Bool} {s:Sh} {x y:AOd} {op:Op} (hc:wQt P ne s x y op=true):OkP P op (wJm ne s x y):=by
 intro σA h v h' hr
 unfold wQt at hc
 split at hc
 ·rename_i b t x' y' t'
  simp only [nA,np] at hc
  obtain ⟨c0,c1,c2,c3,c4,c5,c6⟩:=hc
  unfold wJm at hr
  split at hr
  ·rename_i r e1
   cases hr
   refine ⟨rfl,fun μ σ hE=>⟨_,rfl,fun o w ho=>?_⟩⟩
   have g1:=wAI c5 hE
   have g2:=wAI c6 hE
   have g3:∀ w,(Op.equal t (ev σ x') (ev σ y')).run P w=.ok r w:=wKv s t 10000 _ _ _ _ r c2 (nR c1) e1 g1 g2
   cases s <;> first | (cases c3;done) | skip
   obtain ⟨l,k,h1,h2⟩:=wPJ e1
   rw [h1] at g1;rw [h2] at g2
   obtain ⟨xs,_,g1⟩:=g1
   obtain ⟨ys,_,g2⟩:=g2
   rw [g1,g2] at g3
   refine ⟨by rw [ho];rfl,?_⟩
   cases ne
   ·have:=eq_of_beq c0;subst this
    simp [execOp,ho,g1,g2,binOp,eqGuard,c4,g3,wHf]
   ·have:=eq_of_beq c0;subst this
    simp [execOp,ho,g1,g2,binOp,eqGuard,c4,g3,wHf]
  ·cases hr
 ·cases hc
end
end
end Go.KX
namespace Go.KX
noncomputable section
open Go.RowKit Go.KL
section
variable {C:Chk} {P:Program} {μ μ':Mu} {w w':World} {h h':AH} {σ:Env} {σA:Tr AV} {t e:TypeId} {o:Oper}
def wQu (P:Program) (off:Nat) (x:AOd):Op->Bool
 | .fieldAddr t y i=>wEE P t (fun d=>match d with
   | .struct fs=>match fs[i]? with
    | some f=>nD f.offset off && (match P.info? f.type with | some j=>nX 0 j.size | none=>false)
    | none=>false
   | _=>false) && wCB x y
 | _=>false
theorem p_fad {off:Nat} {x:AOd} {op:Op} (hc:wQu P off x op=true):OkP P op (wJq off x):=by
 intro σA h v h' hr
 unfold wQu at hc
 split at hc
 ·rename_i t y i
  simp only [nA] at hc
  obtain ⟨c1,c2⟩:=hc
  unfold wJq at hr
  split at hr
  ·rename_i b oo hb
   cases hr
   refine ⟨rfl,fun μ σ hE=>?_⟩
   have g:=wAI c2 hE;rw [hb] at g
   obtain ⟨c,g1,g2⟩:=g
   refine ⟨_,⟨c,g1,rfl⟩,fun o w ho=>?_⟩
   obtain ⟨d,d1,d2⟩:=wAi c1
   split at d2
   ·rename_i fs
    split at d2
    ·rename_i f hf
     simp only [nA] at d2
     have e:=nB d2.1
     subst e
     have d3:=d2.2
     split at d3
     ·rename_i j hj
      have hpos:0 < j.size:=by simpa [nJ] using d3
      obtain ⟨n,hn⟩:∃ n,j.size=n + 1:=⟨j.size - 1,by omega⟩
      exact Runs.fa (n:=n) ho g2 (wAs d1) hf (fun w=>by rw [<- hn];simp [sizeOf,typeInfo,hj])
     ·cases d3
    ·cases d2
   ·cases d2
  ·cases hr
 ·cases hc
def wQv (P:Program) (off:Nat) (x:AOd):Op->Bool
 | .field t y i=>wEE P t (fun d=>match d with
   | .struct fs=>match fs[i]? with
    | some f=>nD f.offset off && wPH P f.type false
    | none=>false
   | _=>false) && wCB x y
 | _=>false
def wNN (P:Program) (off n:Nat) (x:AOd):Op->Bool
 | .field t y i=>wEE P t (fun d=>match d with
   | .struct fs=>match fs[i]? with
    | some f=>nD f.offset off && (wPH P f.type true && szT P f.type n)
    | none=>false
   | _=>false) && wCB x y
 | _=>false
theorem p_fld {off:Nat} {x:AOd} {op:Op} (hc:wQv P off x op=true):OkP P op (wJr off x):=by
 intro σA h v h' hr
 unfold wQv at hc
 split at hc
 ·rename_i t y i
  simp only [nA] at hc
  obtain ⟨c1,c2⟩:=hc
  unfold wJr at hr
  split at hr
  ·rename_i l hb
   obtain ⟨hr2,rfl⟩:=wBl hr
   refine ⟨rfl,fun μ σ hE=>?_⟩
   have g:=wAI c2 hE;rw [hb] at g
   obtain ⟨vs,g1,g2⟩:=g
   rw [wGA] at hr2
   obtain ⟨cv,g3,g4⟩:=wEy g1 hr2
   refine ⟨cv,g4,fun o w ho=>?_⟩
   obtain ⟨d,d1,d2⟩:=wAi c1
   split at d2
   ·split at d2
    ·rename_i f hf
     simp only [nA] at d2
     have e:=nB d2.1
     subst e
     exact Runs.fld ho g2 (wAs d1) hf (wDJ (wEQ d2.2) g3)
    ·cases d2
   ·cases d2
  ·cases hr
 ·cases hc
theorem wDO {x:Option (List AV)} {v:AV} (hr:wHa x=some v):∃ l,x=some l/\v=.agg l:=by
 cases x <;> cases hr;exact ⟨_,rfl,rfl⟩
theorem wSU {off n:Nat} {x:AOd} {op:Op} (hc:wNN P off n x op=true):OkP P op (wGg off n x):=by
 intro σA h v h' hr
 unfold wNN at hc
 split at hc
 ·rename_i t y i
  simp only [nA] at hc
  obtain ⟨c1,c2⟩:=hc
  unfold wGg at hr
  split at hr
  ·rename_i l hb
   obtain ⟨hr2,rfl⟩:=wBl hr
   obtain ⟨r,hr3,rfl⟩:=wDO hr2
   refine ⟨rfl,fun μ σ hE=>?_⟩
   have g:=wAI c2 hE;rw [hb] at g
   obtain ⟨vs,g1,g2⟩:=g
   obtain ⟨g3,g4⟩:=wEz hr3 g1
   refine ⟨_,⟨_,g3,rfl⟩,fun o w ho=>?_⟩
   obtain ⟨d,d1,d2⟩:=wAi c1
   split at d2
   ·split at d2
    ·rename_i f hf
     simp only [nA] at d2
     have e:=nB d2.1
     subst e
     exact Runs.fld ho g2 (wAs d1) hf (wEb (wEQ d2.2.1) (wDW d2.2.2) rfl)
    ·cases d2
   ·cases d2
  ·cases hr
 ·cases hc
theorem wCA {a:AV} {n:Nat} (hr:wGa a=some n):a=.int .i64 n:=by
 unfold wGa at hr
 split at hr
 ·cases hr;rfl
 ·cases hr
def wQw (P:Program) (sz:Nat) (x y:AOd):Op->Bool
 | .indexAddr t x' y'=>wEE P t (fun d=>match d with
   | .slice e=>szT P e sz
   | _=>false) && (wCB x x' && wCB y y')
 | _=>false
theorem p_iad {sz:Nat} {x y:AOd} {op:Op} (hc:wQw P sz x y op=true):OkP P op (wJs sz x y):=by
 intro σA h v h' hr
 unfold wQw at hc
 split at hc
 ·rename_i t x' y'
  simp only [nA] at hc
  obtain ⟨c1,c2,c3⟩:=hc
  obtain ⟨d,d1,d2⟩:=wAi c1
  split at d2
  ·rename_i e
   unfold wJs at hr
   split at hr
   ·rename_i b off n c i hb hi
    obtain ⟨hlt,hr⟩:=wBd hr
    cases hr
    have hlt:i < n:=by simpa [nJ] using hlt
    have hi:=wCA hi
    refine ⟨rfl,fun μ σ hE=>?_⟩
    have g:=wAI c2 hE;rw [hb] at g
    have k:=wAI c3 hE;rw [hi] at k
    obtain ⟨m,g1,g2,g3⟩:=g
    refine ⟨_,⟨m,g1,rfl⟩,fun o w ho=>?_⟩
    have:=Runs.ia (P:=P) (o:=o) (w:=w) (i:=(i:Int)) ho g3 k (wAs d1) (wDW d2) (by omega) (by omega)
    simpa using this
   ·rename_i b eo co n i hb hi
    obtain ⟨hlt,hr⟩:=wBd hr
    cases hr
    have hlt:i < n:=by simpa [nJ] using hlt
    have hi:=wCA hi
    refine ⟨rfl,fun μ σ hE=>?_⟩
    have g:=wAI c2 hE;rw [hb] at g
    have k:=wAI c3 hE;rw [hi] at k
    obtain ⟨m,g1,g2,g3⟩:=g
    refine ⟨_,⟨m,g1,rfl⟩,fun o w ho=>?_⟩
    have:=Runs.ia (P:=P) (o:=o) (w:=w) (i:=(i:Int)) ho g3 k (wAs d1) (wDW d2) (by omega) (by omega)
    simpa using this
   ·cases hr
  ·cases d2
 ·cases hc
def wNO (P:Program) (sz n:Nat) (x y:AOd):Op->Bool
 | .indexAddr t x' y'=>wEE P t (fun d=>match d with
   | .array m e=>nD m n && szT P e sz
   | _=>false) && (wCB x x' && wCB y y')
 | _=>false
theorem wSV {sz n:Nat} {x y:AOd} {op:Op} (hc:wNO P sz n x y op=true):OkP P op (wGh sz n x y):=by
 intro σA h v h' hr
 unfold wNO at hc
 split at hc
 ·rename_i t x' y'
  simp only [nA] at hc
  obtain ⟨c1,c2,c3⟩:=hc
  obtain ⟨d,d1,d2⟩:=wAi c1
  split at d2
  ·rename_i m e
   simp only [nA] at d2
   have em:=nB d2.1
   subst em
   unfold wGh at hr
   split at hr
   ·rename_i b off i hb hi
    obtain ⟨hlt,hr⟩:=wBd hr
    cases hr
    have hlt:i < m:=by simpa [nJ] using hlt
    have hi:=wCA hi
    refine ⟨rfl,fun μ σ hE=>?_⟩
    have g:=wAI c2 hE;rw [hb] at g
    have k:=wAI c3 hE;rw [hi] at k
    obtain ⟨q,g1,g3⟩:=g
    refine ⟨_,⟨q,g1,rfl⟩,fun o w ho=>?_⟩
    have:=Runs.iaA (P:=P) (o:=o) (w:=w) (i:=(i:Int)) ho g3 k (wAs d1) (wDW d2.2) (by omega) (by omega)
    simpa using this
   ·cases hr
  ·cases d2
 ·cases hc
def c_ix (P:Program) (n:Nat) (x y:AOd):Op->Bool
 | .index t x' y'=>wEE P t (fun d=>match d with
   | .array m e=>nD m n && (szT P e 1 && wPH P e false)
   | _=>false) && (wCB x x' && wCB y y')
 | _=>false
theorem p_ix {n:Nat} {x y:AOd} {op:Op} (hc:c_ix P n x y op=true):OkP P op (wQe n x y):=by
 intro σA h v h' hr
 unfold c_ix at hc
 split at hc
 ·rename_i t x' y'
  simp only [nA] at hc
  obtain ⟨c1,c2,c3⟩:=hc
  obtain ⟨d,d1,d2⟩:=wAi c1
  split at d2
  ·rename_i m e
   simp only [nA] at d2
   have em:=nB d2.1
   subst em
   unfold wQe at hr
   split at hr
   ·rename_i l i hb hi
    obtain ⟨hlt,hr⟩:=wBd hr
    obtain ⟨hr2,rfl⟩:=wBl hr
    have hlt:i < m:=by simpa [nJ] using hlt
    have hi:=wCA hi
    refine ⟨rfl,fun μ σ hE=>?_⟩
    have g:=wAI c2 hE;rw [hb] at g
    have k:=wAI c3 hE;rw [hi] at k
    obtain ⟨vs,g1,g2⟩:=g
    rw [wGA] at hr2
    obtain ⟨cv,g3,g4⟩:=wEy g1 hr2
    refine ⟨cv,g4,fun o w ho=>?_⟩
    exact Runs.ixA (P:=P) (o:=o) (w:=w) (i:=(i:Int)) ho g2 k (wAs d1) (wDW d2.2.1) (by omega) (by omega) (wDJ (wEQ d2.2.2) (by simpa using g3))
   ·cases hr
  ·cases d2
 ·cases hc
def wQx (P:Program) (sz n:Nat) (x y:AOd):Op->Bool
 | .index t x' y'=>wEE P t (fun d=>match d with
   | .array m e=>nD m n && (szT P e sz && wPH P e true)
   | _=>false) && (wCB x x' && wCB y y')
 | _=>false
theorem p_ixA {sz n:Nat} {x y:AOd} {op:Op} (hc:wQx P sz n x y op=true):OkP P op (wJt sz n x y):=by
 intro σA h v h' hr
 unfold wQx at hc
 split at hc
 ·rename_i t x' y'
  simp only [nA] at hc
  obtain ⟨c1,c2,c3⟩:=hc
  obtain ⟨d,d1,d2⟩:=wAi c1
  split at d2
  ·rename_i m e
   simp only [nA] at d2
   have em:=nB d2.1
   subst em
   unfold wJt at hr
   split at hr
   ·rename_i l i hb hi
    obtain ⟨hlt,hr⟩:=wBd hr
    obtain ⟨hr2,rfl⟩:=wBl hr
    obtain ⟨r,hr3,rfl⟩:=wDO hr2
    have hlt:i < m:=by simpa [nJ] using hlt
    have hi:=wCA hi
    refine ⟨rfl,fun μ σ hE=>?_⟩
    have g:=wAI c2 hE;rw [hb] at g
    have k:=wAI c3 hE;rw [hi] at k
    obtain ⟨vs,g1,g2⟩:=g
    obtain ⟨g3,g4⟩:=wEz hr3 g1
    refine ⟨_,⟨_,g3,rfl⟩,fun o w ho=>?_⟩
    exact Runs.ixA (P:=P) (o:=o) (w:=w) (i:=(i:Int)) ho g2 k (wAs d1) (wDW d2.2.1) (by omega) (by omega) (wEb (wEQ d2.2.2) (wDW d2.2.1) (by simp))
   ·cases hr
  ·cases d2
 ·cases hc
def wQH:Option AOd->Option Operand->Bool
 | none,none=>true
 | some x,some y=>wCB x y
 | _,_=>false
theorem wNP {x:Option AOd} {y:Option Operand} {r:Option Nat} (hr:bnd σA x=some r) (hc:wQH x y=true) (hE:EnvR μ σA σ):(r=none/\y=none) \/ ∃ n z,r=some n/\y=some z/\ev σ z=.int .i64 n:=by
 cases x with
 | none =>
  cases y with
  | none=>cases hr;exact .inl ⟨rfl,rfl⟩
  | some _=>cases hc
 | some x =>
  cases y with
  | none=>cases hc
  | some y =>
   simp only [bnd] at hr
   split at hr
   ·rename_i n hn
    cases hr
    have:=wAI (show wCB x y=true from hc) hE
    rw [wCA hn] at this
    exact .inr ⟨n,y,rfl,rfl,this⟩
   ·cases hr
def vI (n:Nat):Value:=.int .i64 (n:Int)
theorem wGo {P:Program} {n y:Nat} {code:BoundsCode} (hle:n <= y) (w:World):(Instr.sliceBound (vI n) y code).run P w=.ok n w:=by
 have h1:(n:Int) <= y:=by omega
 simp [Instr.sliceBound,vI,asIntOf,h1]
theorem wEd {P:Program} {s:Bool} {len cap:Nat} {lo hi mx:Option Nat} {l hh m:Nat} (hm:m=mx.getD cap) (hh':hh=hi.getD len) (hl:l=lo.getD 0) (h1:l <= hh) (h2:hh <= m) (h3:m <= cap) (hmh:mx.isSome=true->hi.isSome=true) (w:World) :
  (Instr.sliceBounds s len cap (lo.map vI) (hi.map vI) (mx.map vI)).run P w=.ok (l,hh,m) w:=by
 subst hm hh' hl
 unfold Instr.sliceBounds
 cases mx <;> cases hi <;> cases lo <;> simp only [kz,aA] at h1 h2 h3 <;> (try (simp at hmh;done)) <;> simp [wGo h1,wGo h2,wGo h3]
theorem wGp {x:Option AOd} {y:Option Operand} {r:Option Nat} (hr:bnd σA x=some r) (hc:wQH x y=true) (hE:EnvR μ σA σ):y.map (ev σ)=r.map vI:=by
 rcases wNP hr hc hE with ⟨rfl,rfl⟩ | ⟨n,z,rfl,rfl,h1⟩
 ·rfl
 ·simp [h1,vI]
theorem wFB (b off n:Nat):(Addr.add ⟨b,off,none⟩ n)=⟨b,off + n,none⟩:=wDn b off n
theorem wNQ {P:Program} {sz:Nat} {a v:AV} {x:Value} {lo hi mx:Option Nat} (hr0:wSK sz a (orD lo 0) hi mx=some v) (hx:Rv μ a x) (hmh:mx.isSome=true->hi.isSome=true) :
  ∃ A len cap cv l hh m,x=.slice A len cap/\Rv μ v cv/\(∀ s w,(Instr.sliceBounds s len cap (lo.map vI) (hi.map vI) (mx.map vI)).run P w=.ok (l,hh,m) w) /\
   cv=.slice (if m=l then A else A.map (·.add (l * sz))) (hh - l) (m - l):=by
 obtain ⟨l,hl,hr⟩:∃ l,lo.getD 0=l/\wSK sz a l hi mx=some v:=⟨_,rfl,by rw [<- wMc];exact hr0⟩
 clear hr0
 unfold wSK at hr
 split at hr
 ·obtain ⟨hb,hr⟩:=wBd hr
  cases hr
  simp only [nA] at hb
  obtain ⟨⟨b1,b2⟩,b3⟩:=hb
  have l0:=nB b1
  have hx:x=.slice none 0 0:=hx
  subst hx
  have h2:hi.getD 0=0:=by cases hi with | none=>rfl | some n=>exact nB b2
  have h3:mx.getD 0=0:=by cases mx with | none=>rfl | some n=>exact nB b3
  refine ⟨none,0,0,_,0,0,0,rfl,(rfl:Rv μ .snil _),fun s w=>wEd h3.symm h2.symm (by rw [hl,l0]) (nG _) (nG _) (nG _) hmh w,by simp⟩
 ·rename_i b off n c
  obtain ⟨d,g1,g2,rfl⟩:=hx
  simp only [wMc] at hr
  obtain ⟨hb,hr⟩:=wBd hr
  cases hr
  simp only [nA,nT] at hb
  obtain ⟨⟨b1,b2⟩,b3⟩:=hb
  refine ⟨_,n,c,_,l,hi.getD n,mx.getD c,rfl,⟨d,g1,by omega,rfl⟩,fun s w=>wEd rfl rfl hl.symm b1 b2 b3 hmh w,?_⟩
  by_cases e:mx.getD c=l
  ·simp [e]
  ·have:nD (mx.getD c) l=false:=by
    cases hq:nD (mx.getD c) l with
    | false=>rfl
    | true=>exact absurd (nB hq) e
   simp [e,this,wFB]
 ·rename_i b eo co n
  obtain ⟨d,g1,g2,rfl⟩:=hx
  simp only [wMc] at hr
  split at hr
  ·obtain ⟨hb,hr⟩:=wBd hr
   simp only [nA,nT] at hb
   obtain ⟨b1,b2⟩:=hb
   have fin:∀ cv,cv=kx (if d.2 - eo=l then some ⟨d.1,co,none⟩ else (some (⟨d.1,co,none⟩:Addr)).map (·.add (l * sz))) (hi.getD n - l) (d.2 - eo - l)->Rv μ v cv ->
     ∃ A len cap cv l hh m,kx (some ⟨d.1,co,none⟩) n (d.2 - eo)=.slice A len cap/\Rv μ v cv/\(∀ s w,(Instr.sliceBounds s len cap (lo.map vI) (hi.map vI) ((none:Option Nat).map vI)).run P w=.ok (l,hh,m) w) /\
      cv=.slice (if m=l then A else A.map (·.add (l * sz))) (hh - l) (m - l):=fun cv e hv =>
    ⟨_,n,d.2 - eo,cv,l,hi.getD n,d.2 - eo,rfl,hv,fun s w=>wEd rfl rfl hl.symm b1 (by simp only [kz];omega) (nG _) hmh w,e⟩
   split at hr
   ·cases hr
    refine fin _ rfl ⟨d,g1,by omega,?_⟩
    simp [Addr.add]
   ·rename_i l0
    split at hr
    ·rename_i hlt
     cases hr
     have hlt:l < n:=by simpa [nJ] using hlt
     refine fin _ rfl ⟨d,g1,by omega,?_⟩
     rw [if_neg (by omega)]
     simp [wFB,Nat.sub_sub]
    ·rename_i hlt
     cases hr
     have hlt:¬ l < n:=by
      intro hq
      have:nX l n=true:=by rw [nJ];exact hq
      rw [this] at hlt;cases hlt
     have e1:hi.getD n - l=0:=by omega
     refine fin _ rfl ?_
     rw [e1]
     by_cases e2:d.2 - eo=l
     ·rw [if_pos e2];exact ⟨d,g1,co,by congr 1;omega⟩
     ·rw [if_neg e2];exact ⟨d,g1,co + l * sz,by simp only [aC,wFB];congr 1;omega⟩
  ·rename_i m
   obtain ⟨hb,hr⟩:=wBd hr
   cases hr
   simp only [nA,nT] at hb
   obtain ⟨⟨b1,b2⟩,b3⟩:=hb
   refine ⟨_,n,d.2 - eo,_,l,hi.getD n,m,rfl,⟨d,g1,by omega,rfl⟩,fun s w=>wEd (mx:=some m) rfl rfl hl.symm b1 b2 (by simp only [aA];omega) hmh w,?_⟩
   by_cases e:m=l
   ·simp [e]
   ·have:nD m l=false:=by
     cases hq:nD m l with
     | false=>rfl
     | true=>exact absurd (nB hq) e
    simp [e,this,wFB]
 ·cases hr
def wQy (P:Program) (sz:Nat) (x:AOd) (lo hi mx:Option AOd):Op->Bool
 | .slice t y l m n=>wEE P t (fun d=>match d with
   | .slice e=>szT P e sz
   | _=>false) && (wCB x y && (wQH lo l && (wQH hi m && (wQH mx n && (!mx.isSome || hi.isSome)))))
 | _=>false
theorem p_slc {sz:Nat} {x:AOd} {lo hi mx:Option AOd} {op:Op} (hc:wQy P sz x lo hi mx op=true):OkP P op (wJp sz x lo hi mx):=by
 intro σA h v h' hr
 unfold wQy at hc
 split at hc
 ·rename_i t y l m n
  simp only [nA] at hc
  obtain ⟨c1,c2,c3,c4,c5,c6⟩:=hc
  obtain ⟨d,d1,d2⟩:=wAi c1
  split at d2
  ·rename_i e
   unfold wJp at hr
   split at hr
   ·rename_i rl rh rm h1 h2 h3
    obtain ⟨hr2,rfl⟩:=wBl hr
    refine ⟨rfl,fun μ σ hE=>?_⟩
    have hmh:rm.isSome=true->rh.isSome=true:=by
     intro hs
     rcases wNP h3 c5 hE with ⟨rfl,_⟩ | ⟨_,z,rfl,rfl,_⟩
     ·cases hs
     ·cases mx with
      | none=>simp [bnd] at h3
      | some _ =>
       cases hi with
       | none=>simp at c6
       | some _ =>
        rcases wNP h2 c4 hE with ⟨rfl,e0⟩ | ⟨_,_,rfl,_⟩
        ·subst e0;simp [wQH] at c4
        ·rfl
    obtain ⟨A,len,cap,cv,ll,hh,mm,e1,e2,e3,e4⟩:=wNQ (P:=P) hr2 (wAI c2 hE) hmh
    refine ⟨cv,e2,fun o w ho=>⟨by rw [ho];rfl,?_⟩⟩
    have b1:=wGp h1 c3 hE
    have b2:=wGp h2 c4 hE
    have b3:=wGp h3 c5 hE
    simp [execOp,ho,Instr.sliceAt,Instr.slice,wAs d1,e1,b1,b2,b3,e3,wDW d2,e4]
   ·cases hr
  ·cases d2
 ·cases hc
def wNR (P:Program) (sz n:Nat) (x:AOd) (lo hi:Option AOd):Op->Bool
 | .slice t y l m none=>wEE P t (fun d=>match d with
   | .array k e=>nD k n && szT P e sz
   | _=>false) && (wCB x y && (wQH lo l && wQH hi m))
 | _=>false
theorem wSW {sz n:Nat} {x:AOd} {lo hi:Option AOd} {op:Op} (hc:wNR P sz n x lo hi op=true):OkP P op (wGf sz n x lo hi):=by
 intro σA h v h' hr
 unfold wNR at hc
 split at hc
 ·rename_i t y l m
  simp only [nA] at hc
  obtain ⟨c1,c2,c3,c4⟩:=hc
  obtain ⟨d,d1,d2⟩:=wAi c1
  split at d2
  ·rename_i k e
   simp only [nA] at d2
   have ek:=nB d2.1
   subst ek
   unfold wGf at hr
   split at hr
   ·rename_i rl rh b off h1 h2 hb
    obtain ⟨hr2,rfl⟩:=wBl hr
    refine ⟨rfl,fun μ σ hE=>?_⟩
    have g:=wAI c2 hE;rw [hb] at g
    obtain ⟨c,g1,g2⟩:=g
    obtain ⟨A,len,cap,cv,ll,hh,mm,e1,e2,e3,e4⟩:=wNQ (P:=P) (μ:=μ) (x:=.slice (some ⟨c.1,off,none⟩) k k) hr2 ⟨c,g1,nG _,rfl⟩ (by intro hs;cases hs)
    cases e1
    refine ⟨cv,e2,fun o w ho=>⟨by rw [ho];rfl,?_⟩⟩
    have b1:=wGp h1 c3 hE
    have b2:=wGp h2 c4 hE
    have e3':=e3 false
    simp only [Option.map_none] at e3'
    simp [execOp,ho,Instr.sliceAt,wAs d1,g2,Instr.sureAddr,b1,b2,e3',wDW d2.2,e4]
    split <;> simp
   ·cases hr
  ·cases d2
 ·cases hc
end
end
end Go.KX
namespace Go.KX
noncomputable section
open Go.RowKit Go.KL
section
variable {C:Chk} {P:Program} {μ μ':Mu} {w w':World} {h h':AH} {σ:Env} {σA:Tr AV} {t e:TypeId} {o:Oper}
def wJB (place:Nat->Option (Nat × Nat)):List (Nat × Nat × AOd)->List (Nat × Operand)->Bool
 | [],[]=>true
 | (off,n,x) :: ps,(i,y) :: qs=>(match place i with | some (o,s)=>nD o off && nD s n | none=>false) && (wCB x y && wJB place ps qs)
 | _,_=>false
theorem wGq {place:Nat->Option (Nat × Nat)} (hE:EnvR μ σA σ):∀ {ps:List (Nat × Nat × AOd)} {qs:List (Nat × Operand)} {cs r:List AV} {CS:List Value},wHu σA cs ps=some r->wJB place ps qs=true->RvL μ cs CS ->
  ∃ R,lay place CS (qs.map fun (p:Nat × Operand)=>(p.1,ev σ p.2))=some R/\RvL μ r R/\R.length=CS.length
 | [],[],cs,r,CS,hr,_,hl=>by
  simp only [wHu] at hr;cases hr;exact ⟨CS,rfl,hl,rfl⟩
 | (off,n,x) :: ps,(i,y) :: qs,cs,r,CS,hr,hc,hl=>by
  simp only [wJB,nA] at hc
  obtain ⟨c1,c2,c3⟩:=hc
  split at c1
  ·rename_i o s hp
   simp only [nA] at c1
   have e1:=nB c1.1
   have e2:=nB c1.2
   subst e1 e2
   simp only [wHu] at hr
   split at hr
   ·rename_i hn
    have hn:=nB hn
    split at hr
    ·rename_i cs' ho
     obtain ⟨vs,v1,v2⟩:=wGK (wAI c2 hE)
     obtain ⟨g1,g2⟩:=wHy ho hl v1
     have hlen:vs.length=s:=by rw [wCo v1,<- wEP,hn]
     obtain ⟨R,r1,r2,r3⟩:=wGq hE hr c3 g2
     refine ⟨R,?_,r2,by rw [r3,wCI]⟩
     rw [nO,lay,hp]
     simp only [v2,ku,hlen,beq_self_eq_true,Bool.true_and]
     rw [if_pos (by rw [nT];omega)]
     exact r1
    ·cases hr
   ·cases hr
  ·cases c1
 | [],_ :: _,cs,r,CS,hr,hc,hl=>by simp [wJB] at hc
 | _ :: _,[],cs,r,CS,hr,hc,hl=>by simp [wJB] at hc
def plL (P:Program):List Field->Option (List (Nat × Nat))
 | []=>some []
 | f :: fs=>match P.info? f.type,plL P fs with
  | some i,some l=>some ((f.offset,i.size) :: l)
  | _,_=>none
theorem wSX:∀ {fs:List Field} {pl:List (Nat × Nat)},plL P fs=some pl->wPy P fs.toArray pl:=by
 intro fs pl hp w
 rw [List.mapM_toArray]
 have key:∀ (fs:List Field) (pl:List (Nat × Nat)),plL P fs=some pl->((fs.mapM fun f=>do pure (f.offset,<- sizeOf f.type):Sem (List (Nat × Nat)))).run P w=.ok pl w:=by
  intro fs
  induction fs with
  | nil=>intro pl hp;cases hp;simp
  | cons f fs ih =>
   intro pl hp
   unfold plL at hp
   split at hp
   ·rename_i i l h1 h2
    cases hp
    have hs:(sizeOf f.type).run P w=.ok i.size w:=by simp [sizeOf,typeInfo,h1]
    simp only [List.mapM_cons,Sem.run_bind,hs,Result.andThen_ok,Sem.run_pure,ih l h2]
   ·cases hp
 have:=key fs pl hp
 simp only [Sem.run_map,this,Result.andThen_ok]
def wQz (P:Program) (z:List AV) (ps:List (Nat × Nat × AOd)):Op->Bool
 | .build t qs=>zT P t z && wEE P t (fun d=>match d with
   | .struct fs=>match plL P fs.toList with
    | some pl=>wJB (fun i=>pl[i]?) ps qs.toList
    | none=>false
   | .array _ e=>match P.info? e with
    | some j=>wJB (fun i=>some (i * j.size,j.size)) ps qs.toList
    | none=>false
   | _=>false)
 | _=>false
theorem p_bld {z:List AV} {ps:List (Nat × Nat × AOd)} {op:Op} (hc:wQz P z ps op=true):OkP P op (wMp z ps):=by
 intro σA h v h' hr
 unfold wQz at hc
 split at hc
 ·rename_i t qs
  simp only [nA] at hc
  obtain ⟨c1,c2⟩:=hc
  obtain ⟨hr2,rfl⟩:=wBl hr
  obtain ⟨r,hr3,rfl⟩:=wDO hr2
  obtain ⟨i,zv,z1,z2,z3⟩:=wFA c1
  obtain ⟨d,d1,d2⟩:=wAi c2
  refine ⟨rfl,fun μ σ hE=>?_⟩
  split at d2
  ·rename_i fs
   split at d2
   ·rename_i pl hpl
    obtain ⟨R,r1,r2,_⟩:=wGq hE hr3 d2 (z3 μ)
    refine ⟨_,⟨R,r2,rfl⟩,fun o w ho=>?_⟩
    exact Runs.build (P:=P) (ps:=qs.toList) (z:=zv.cells.toList) ho rfl (wDX z1 z2) ⟨fs,wAs d1,wSX hpl⟩ (by simp) r1
   ·cases d2
  ·rename_i n e
   split at d2
   ·rename_i j hj
    obtain ⟨R,r1,r2,_⟩:=wGq hE hr3 d2 (z3 μ)
    refine ⟨_,⟨R,r2,rfl⟩,fun o w ho=>?_⟩
    exact Runs.buildA (P:=P) (ps:=qs.toList) (z:=zv.cells.toList) ho rfl (wDX z1 z2) (wAs d1) (fun w=>by simp [sizeOf,typeInfo,hj]) (by simp) r1
   ·cases d2
  ·cases d2
 ·cases hc
def wLn (P:Program) (b:Builtin) (x:AOd):Op->Bool
 | .call c=>match c.callee with
  | .builtin b'=>(b' == b) && (match c.args.toList,c.argTypes.toList with
   | [y],[t]=>wEE P t (fun d=>match d with | .slice _=>true | _=>false) && wCB x y
   | _,_=>false)
  | _=>false
 | _=>false
theorem wKx {b:Builtin} {x:AOd} {op:Op} (hc:wLn P b x op=true):∃ y t e,op=.call { callee:=.builtin b,args:=#[y],argTypes:=#[t] }/\P.underlying t=some (.slice e)/\wCB x y=true:=by
 unfold wLn at hc
 split at hc
 ·rename_i c
  obtain ⟨ce,args,tys⟩:=c
  simp only at hc
  split at hc
  ·rename_i b'
   simp only [nA,beq_iff_eq] at hc
   obtain ⟨rfl,h2⟩:=hc
   split at h2
   ·rename_i y t h3 h4
    simp only [nA] at h2
    obtain ⟨d,d1,d2⟩:=wAi h2.1
    cases d <;> first | (cases d2;done) | skip
    refine ⟨y,t,_,?_,d1,h2.2⟩
    congr 2
    ·exact nN (by simpa using h3)
    ·exact nN (by simpa using h4)
   ·cases h2
  ·cases hc
 ·cases hc
theorem p_len {x:AOd} {op:Op} (hc:wLn P .len x op=true):OkP P op (wJv x):=by
 intro σA h v h' hr
 obtain ⟨y,t,e,rfl,d1,c2⟩:=wKx hc
 unfold wJv at hr
 split at hr <;> cases hr <;> rename_i hb
 ·refine ⟨rfl,fun μ σ hE=>⟨_,rfl,fun o w ho=>?_⟩⟩
  have g:=wAI c2 hE;rw [hb] at g
  exact Runs.len ho g (wAs d1)
 ·refine ⟨rfl,fun μ σ hE=>⟨_,rfl,fun o w ho=>?_⟩⟩
  have g:=wAI c2 hE;rw [hb] at g
  obtain ⟨c,_,_,g⟩:=g
  exact Runs.len ho g (wAs d1)
 ·refine ⟨rfl,fun μ σ hE=>⟨_,rfl,fun o w ho=>?_⟩⟩
  have g:=wAI c2 hE;rw [hb] at g
  obtain ⟨c,_,_,g⟩:=g
  exact Runs.len ho g (wAs d1)
 ·refine ⟨rfl,fun μ σ hE=>⟨_,rfl,fun o w ho=>?_⟩⟩
  have g:=wAI c2 hE;rw [hb] at g
  obtain ⟨c,_,q,g⟩:=g
  exact Runs.len ho g (wAs d1)
theorem Runs.cap {t e:TypeId} {x:Operand} {a:Option Addr} {n c:Nat} (ho:o.op=.call { callee:=.builtin .cap,args:=#[x],argTypes:=#[t] }) (hx:ev σ x=.slice a n c)
  (ht:∀ w,(underlying t).run P w=.ok (.slice e) w):Runs P σ w o (.int .i64 c) w :=
 ⟨by rw [ho];rfl,by simp [execOp,ho,resolve,invoke,builtin,Builtin.cap_,hx,ht,goInt]⟩
theorem p_cap {x:AOd} {op:Op} (hc:wLn P .cap x op=true):OkP P op (wJw x):=by
 intro σA h v h' hr
 obtain ⟨y,t,e,rfl,d1,c2⟩:=wKx hc
 unfold wJw at hr
 split at hr <;> cases hr <;> rename_i hb
 ·refine ⟨rfl,fun μ σ hE=>⟨_,rfl,fun o w ho=>?_⟩⟩
  have g:=wAI c2 hE;rw [hb] at g
  exact Runs.cap ho g (wAs d1)
 ·refine ⟨rfl,fun μ σ hE=>⟨_,rfl,fun o w ho=>?_⟩⟩
  have g:=wAI c2 hE;rw [hb] at g
  obtain ⟨c,_,_,g⟩:=g
  exact Runs.cap ho g (wAs d1)
def wRx (b:Builtin) (x y:AOd):Op->Bool
 | .call c=>match c.callee with
  | .builtin b'=>(b' == b) && (match c.args.toList with
   | [x',y']=>wCB x x' && wCB y y'
   | _=>false)
  | _=>false
 | _=>false
theorem wNS {b:Builtin} {x y:AOd} {op:Op} (hc:wRx b x y op=true):∃ x' y' tys,op=.call { callee:=.builtin b,args:=#[x',y'],argTypes:=tys }/\wCB x x'=true/\wCB y y'=true:=by
 unfold wRx at hc
 split at hc
 ·rename_i c
  obtain ⟨ce,args,tys⟩:=c
  simp only at hc
  split at hc
  ·rename_i b'
   simp only [nA,beq_iff_eq] at hc
   obtain ⟨rfl,h2⟩:=hc
   split at h2
   ·rename_i x' y' h3
    simp only [nA] at h2
    refine ⟨x',y',tys,?_,h2.1,h2.2⟩
    congr 2
    exact nN (by simpa using h3)
   ·cases h2
  ·cases hc
 ·cases hc
theorem p_min {x y:AOd} {op:Op} (hc:wRx .min x y op=true):OkP P op (wMq x y):=by
 intro σA h v h' hr
 obtain ⟨x',y',tys,rfl,c1,c2⟩:=wNS hc
 obtain ⟨hr2,rfl⟩:=wBl hr
 split at hr2
 ·rename_i a b e1 e2
  cases hr2
  refine ⟨rfl,fun μ σ hE=>⟨_,rfl,fun o w ho=>?_⟩⟩
  have g1:=wAI c1 hE;rw [e1] at g1
  have g2:=wAI c2 hE;rw [e2] at g2
  refine (Runs.min ho g1 g2).to ?_
  have:(match zlt b a with | true=>b | false=>a)=Min.min a b:=by
   rw [wGm,Int.min_def]
   by_cases hq:b < a
   ·simp [hq,Int.not_le.2 hq]
   ·simp [hq,Int.not_lt.1 hq]
  exact congrArg (kJ .i64) this.symm
 ·cases hr2
theorem p_max {x y:AOd} {op:Op} (hc:wRx .max x y op=true):OkP P op (wMr x y):=by
 intro σA h v h' hr
 obtain ⟨x',y',tys,rfl,c1,c2⟩:=wNS hc
 obtain ⟨hr2,rfl⟩:=wBl hr
 split at hr2
 ·rename_i a b e1 e2
  cases hr2
  refine ⟨rfl,fun μ σ hE=>⟨_,rfl,fun o w ho=>?_⟩⟩
  have g1:=wAI c1 hE;rw [e1] at g1
  have g2:=wAI c2 hE;rw [e2] at g2
  refine (Runs.max ho g1 g2).to ?_
  have:(match zlt a b with | true=>b | false=>a)=Max.max a b:=by
   rw [wGm,Int.max_def]
   by_cases hq:a < b
   ·simp [hq,Int.le_of_lt hq]
   ·by_cases hq2:a <= b
    ·have:a=b:=by omega
     simp [this]
    ·simp [hq,hq2]
  exact congrArg (kJ .i64) this.symm
 ·cases hr2
def OkL (C:Chk) (P:Program) (op:Op) (f:Tr AV->AH->Option (AV × AH)):Prop :=
 ∀ σA h v h',f σA h=some (v,h')->h'=h/\∀ μ σ w,EnvR μ σA σ->Sim C P μ h w->∃ cv,Rv μ v cv/\∀ (o:Oper),o.op=op->RunsK P σ w o cv
theorem wEe {b:Pos} {l:List AV} (hr:wDN h b=some l) (S:Sim C P μ h w):∃ c vs,μ b=some c/\RvL μ l vs/\∀ w',Keep w w' Non->∀ j v,vs[j]?=some v->w'.cell? ⟨c.1,j,none⟩=some v:=by
 unfold wDN at hr
 split at hr
 ·rename_i B hB
  obtain ⟨c,h1,h2⟩:=S.at_ b B hB
  cases B <;> simp only [wKl] at hr <;> first | (cases hr;done) | cases hr
  ·obtain ⟨vs,h3,h4⟩:=h2
   exact ⟨c,vs,h1,h3,fun w' K j v hv=>(h4.non K).cell hv⟩
  ·obtain ⟨vs,h3,h4⟩:=h2
   refine ⟨c,vs,h1,h3,fun w' K j v hv=>?_⟩
   obtain ⟨cur,g1,g2,g3,g4,g5⟩:=RowAt.cells h4
   have g1':=(K.block _ (wAT g1) id).trans g1
   have:cur.toList[j]?=some v:=by
    rw [<- g5,kq] at hv
    split at hv
    ·exact hv
    ·cases hv
   simp only [World.cell?,g1']
   simpa using this
 ·cases hr
def wSY (P:Program) (x:AOd):Op->Bool
 | .load t y=>wPH P t false && wCB x y
 | _=>false
theorem l_ld {x:AOd} {op:Op} (hc:wSY P x op=true):OkL C P op (wOr x):=by
 intro σA h v h' hr
 unfold wSY at hc
 split at hc
 ·simp only [nA] at hc
  unfold wOr at hr
  split at hr
  ·rename_i b off hb
   split at hr
   ·rename_i l hl
    obtain ⟨hr2,rfl⟩:=wBl hr
    refine ⟨rfl,fun μ σ w hE S=>?_⟩
    obtain ⟨c,vs,h1,h2,h3⟩:=wEe hl S
    have g:=wAI hc.2 hE;rw [hb] at g
    obtain ⟨c',g1,g2⟩:=g
    rw [h1] at g1;cases g1
    rw [wGA] at hr2
    obtain ⟨cv,g3,g4⟩:=wEy h2 hr2
    exact ⟨cv,g4,fun o ho w' K=>Runs.ld ho g2 (wEQ hc.1) (h3 w' K _ _ g3)⟩
   ·cases hr
  ·cases hr
 ·cases hc
def wNT (P:Program) (n:Nat) (x:AOd):Op->Bool
 | .load t y=>(wPH P t true && szT P t n) && wCB x y
 | _=>false
theorem l_ldA {n:Nat} {x:AOd} {op:Op} (hc:wNT P n x op=true):OkL C P op (wHP n x):=by
 intro σA h v h' hr
 unfold wNT at hc
 split at hc
 ·simp only [nA] at hc
  unfold wHP at hr
  split at hr
  ·rename_i b off hb
   split at hr
   ·rename_i l hl
    obtain ⟨hr2,rfl⟩:=wBl hr
    obtain ⟨r,hr3,rfl⟩:=wDO hr2
    refine ⟨rfl,fun μ σ w hE S=>?_⟩
    obtain ⟨c,vs,h1,h2,h3⟩:=wEe hl S
    have g:=wAI hc.2 hE;rw [hb] at g
    obtain ⟨c',g1,g2⟩:=g
    rw [h1] at g1;cases g1
    obtain ⟨g3,g4⟩:=wEz hr3 h2
    refine ⟨_,⟨_,g3,rfl⟩,fun o ho w' K=>Runs.ldA ho g2 (wEQ hc.1.1) (wDW hc.1.2) (by simp;omega) fun j u hu=>?_⟩
    exact h3 w' K _ _ (wEL rfl j u hu)
   ·cases hr
  ·cases hr
 ·cases hc
def OkE (C:Chk) (P:Program) (op:Op) (f:Tr AV->AH->Option (AV × AH)):Prop :=
 ∀ σA h v h',f σA h=some (v,h')->∀ μ σ w,EnvR μ σA σ->Sim C P μ h w->∀ (o:Oper),o.op=op->∃ μ' w' cv,Ext μ h.fl.nat w μ' w'/\Sim C P μ' h' w'/\Rv μ' v cv/\h'.fl=h.fl/\Runs P σ w o cv w'
def OkU (C:Chk) (P:Program) (op:Op) (f:Tr AV->AH->Option (AV × AH)):Prop :=
 ∀ σA h v h',f σA h=some (v,h')->∀ μ σ w,EnvR μ σA σ->Sim C P μ h w->∀ (o:Oper),o.op=op->∃ μ' w',Ext μ h.fl.nat w μ' w'/\Sim C P μ' h' w'/\v=u/\h'.fl=h.fl/\Does P σ w o w'
theorem OkP.toL {op:Op} {f:Tr AV->AH->Option (AV × AH)} (hp:OkP P op f):OkL C P op f:=by
 intro σA h v h' hr
 obtain ⟨h1,h2⟩:=hp σA h v h' hr
 exact ⟨h1,fun μ σ w hE _=>let ⟨cv,g1,g2⟩:=h2 μ σ hE;⟨cv,g1,fun o ho w' _=>g2 o w' ho⟩⟩
theorem OkL.toE {op:Op} {f:Tr AV->AH->Option (AV × AH)} (hp:OkL C P op f):OkE C P op f:=by
 intro σA h v h' hr μ σ w hE S o ho
 obtain ⟨rfl,h2⟩:=hp σA h v h' hr
 obtain ⟨cv,g1,g2⟩:=h2 μ σ w hE S
 exact ⟨μ,w,cv,Ext.refl μ _ w,S,g1,rfl,g2 o ho w (Keep.refl w _)⟩
theorem wFV {T:TypeId} {z:List AV} {cs:List Value} (S:Sim C P μ h w) (hz:RvL μ z cs):∃ μ',Ext μ h.fl.nat w μ' (w.alloc (.cells cs.toArray T))/\Sim C P μ' (h.push (.cells T z)) (w.alloc (.cells cs.toArray T))/\(h.push (.cells T z)).fl=h.fl/\μ' h.nx=some ⟨w.heap.size,0,g0⟩:=by
 have hle:=Mu.add_le (c:=⟨w.heap.size,0,g0⟩) (S.nx h.nx (nG _))
 obtain ⟨h1,h2,h3,h4⟩:=S.push (w':=w.alloc (.cells cs.toArray T)) (c:=⟨w.heap.size,0,g0⟩) (B:=.cells T z) (wBB w _) (nG _) (by rw [wHW];exact Nat.lt_succ_self _) ⟨cs,hz.mono hle,wDi w cs T⟩
 exact ⟨_,h2,h1,h3,h4⟩
def wNU (P:Program) (T:Nat) (z:List AV):Op->Bool
 | .alloc t=>nD T t && zT P t z
 | _=>false
theorem e_new {T:Nat} {z:List AV} {op:Op} (hc:wNU P T z op=true):OkE C P op (wQc T z):=by
 intro σA h v h' hr μ σ w hE S o ho
 cases hr
 unfold wNU at hc
 split at hc
 ·simp only [nA] at hc
  have e:=nB hc.1
  subst e
  obtain ⟨i,zv,z1,z2,z3⟩:=wFA hc.2
  obtain ⟨μ',h1,h2,h3,h4⟩:=wFV (T:=T) S (z3 μ)
  refine ⟨μ',_,_,h1,h2,⟨_,h4,rfl⟩,h3,by rw [ho];rfl,?_⟩
  simp [execOp,ho,Instr.alloc,wDX z1 z2,newVar,newRow,newObj,Sem.run]
 ·cases hc
def wNV (T:Nat) (x:AOd):Op->Bool
 | .box t y=>nD T t && wCB x y
 | _=>false
theorem e_box {T:Nat} {x:AOd} {op:Op} (hc:wNV T x op=true):OkE C P op (wLd T x):=by
 intro σA h v h' hr μ σ w hE S o ho
 cases hr
 unfold wNV at hc
 split at hc
 ·simp only [nA] at hc
  have e:=nB hc.1
  subst e
  obtain ⟨vs,v1,v2⟩:=wGK (wAI hc.2 hE)
  obtain ⟨μ',h1,h2,h3,h4⟩:=wFV (T:=T) S v1
  refine ⟨μ',_,_,h1,h2,⟨_,h4,rfl⟩,h3,by rw [ho];rfl,?_⟩
  simp [execOp,ho,Instr.box,newVar,newRow,newObj,v2,Sem.run]
 ·cases hc
theorem wRA (S:Sim C P μ h w):∃ μ',Ext μ h.fl.nat w μ' (w.alloc (.map #[] 0))/\Sim C P μ' (h.push .map0) (w.alloc (.map #[] 0))/\(h.push .map0).fl=h.fl/\μ' h.nx=some ⟨w.heap.size,0,g0⟩:=by
 obtain ⟨h1,h2,h3,h4⟩:=S.push (w':=w.alloc (.map #[] 0)) (c:=⟨w.heap.size,0,g0⟩) (B:=.map0) (wBB w _) (nG _) (by rw [wHW];exact Nat.lt_succ_self _) ⟨0,heap_alloc_new w _⟩
 exact ⟨_,h2,h1,h3,h4⟩
def wNW:Op->Bool
 | .makeMap _ none=>true
 | _=>false
theorem e_mkm {op:Op} (hc:wNW op=true):OkE C P op wQd:=by
 intro σA h v h' hr μ σ w hE S o ho
 cases hr
 unfold wNW at hc
 split at hc
 ·obtain ⟨μ',h1,h2,h3,h4⟩:=wRA S
  refine ⟨μ',_,_,h1,h2,⟨_,h4,rfl⟩,h3,by rw [ho];rfl,?_⟩
  simp [execOp,ho,Instr.makeMap,newObj,Sem.run,Result.andThen]
 ·cases hc
theorem wFC {zc:Array Value} {n:Nat}:∀ c,((nt (c * zc.size)).map (zc[· % zc.size]!)).toList=(nL c zc.toList).flatten \/ False:=by
 intro c
 left
 induction c with
 | zero=>simp
 | succ c ih =>
  rw [ky,Array.toList_range] at ih ⊢
  rw [Nat.succ_mul,List.range_add,kX,ih,List.replicate_succ',List.flatten_append]
  congr 1
  simp only [List.map_map,List.flatten_singleton]
  apply List.ext_getElem
  ·simp
  ·intro i h1 h2
   simp at h1
   simp [Nat.add_mul_mod_self_right,Nat.mod_eq_of_lt h1,Nat.add_comm (c * zc.size) i,h1]
def wNX (P:Program) (T sz by_:Nat) (z:List AV) (x y:AOd):Op->Bool
 | .makeSlice t x' y'=>wEE P t (fun d=>match d with | .slice e=>nD e T | _=>false) && (szT P T sz && (byT P T by_ && (zT P T z && (nD (len z) sz && (wCB x x' && wCB y y')))))
 | _=>false
theorem e_mks {T sz by_:Nat} {z:List AV} {x y:AOd} {op:Op} (hc:wNX P T sz by_ z x y op=true):OkE C P op (wGe T sz by_ z x y):=by
 intro σA h v h' hr μ σ w hE S o ho
 unfold wNX at hc
 split at hc
 ·rename_i t x' y'
  simp only [nA] at hc
  obtain ⟨c1,c2,c3,c4,c5,c6,c7⟩:=hc
  obtain ⟨d,d1,d2⟩:=wAi c1
  split at d2 <;> first | (cases d2;done) | skip
  have e:=nB d2
  subst e
  rename_i e
  obtain ⟨i,i1,i2⟩:=wGM c2
  obtain ⟨i',j1,j2⟩:=wGN c3
  obtain ⟨i'',zv,k1,k2,k3⟩:=wFA c4
  rw [i1] at j1 k1;cases j1;cases k1
  have hz:=nB c5
  unfold wGe at hr
  split at hr
  ·rename_i l c hl hcc
   obtain ⟨hb,hr⟩:=wBd hr
   cases hr
   simp only [nA,nT] at hb
   obtain ⟨⟨⟨b1,b2⟩,b3⟩,b4⟩:=hb
   have hx:=wAI c6 hE;rw [wCA hl] at hx
   have hy:=wAI c7 hE;rw [wCA hcc] at hy
   have hx:ev σ x'=.int .i64 (l:Int):=hx
   have hy:ev σ y'=.int .i64 (c:Int):=hy
   have zlen:zv.cells.size=sz:=by rw [<- hz,wEP,<- wCo (k3 μ)];simp
   have hrun:=run_makeSlice (P:=P) w t e i zv d1 i1 k2 .i64 .i64 (l:Int) (c:Int) (by omega) (by omega) (by rw [i2,nw];exact b2) (by rw [j2];have hb:=Int.ofNat_le.2 b3;rw [kW] at hb;exact hb) (by omega)
   simp only [nw,i2] at hrun
   have hcells:(madeCells zv.cells (c * sz))=((nL c zv.cells.toList).flatten).toArray:=by
    apply nN
    have:=wFC (zc:=zv.cells) (n:=0) c
    simp only [or_false] at this
    rw [zlen] at this
    show ((nt (c * sz)).map (zv.cells[· % zv.cells.size]!)).toList=_
    rw [zlen,this]
   rw [hcells] at hrun
   obtain ⟨μ',h1,h2,h3,h4⟩:=wFV (T:=e) S (wGl (k3 μ) c)
   refine ⟨μ',_,_,h1,h2,⟨_,h4,b1,rfl⟩,h3,by rw [ho];rfl,?_⟩
   simp [execOp,ho,hx,hy,hrun,Result.andThen]
  ·cases hr
 ·cases hc
def wJC (P:Program) (T n:Nat) (z:List AV) (ps:List (Nat × Nat × AOd)):Op->Bool
 | .buildSlice t m qs=>nD m n && (wEE P t (fun d=>match d with | .slice e=>nD e T | _=>false) && (match P.info? T with
   | some i=>kQ (n * i.size) 16777216 && (wJB (fun k=>some (k * i.size,i.size)) ps qs.toList && (match i.zero with
    | some v=>wPG z ((kG (n * i.size)).map fun k=>v.cells[k % v.cells.size]!)
    | none=>false))
   | none=>false))
 | _=>false
theorem wSZ {T n:Nat} {z:List AV} {ps:List (Nat × Nat × AOd)} {op:Op} (hc:wJC P T n z ps op=true):OkE C P op (wEN T n z ps):=by
 intro σA h v h' hr μ σ w hE S o ho
 unfold wJC at hc
 split at hc
 ·rename_i t m qs
  simp only [nA] at hc
  obtain ⟨c1,c2,c3⟩:=hc
  have e:=nB c1
  subst e
  obtain ⟨d,d1,d2⟩:=wAi c2
  split at d2 <;> first | (cases d2;done) | skip
  have e:=nB d2
  subst e
  rename_i e
  split at c3
  ·rename_i i hi
   simp only [nA,nT] at c3
   obtain ⟨c3,c4,c5⟩:=c3
   split at c5
   ·rename_i zv hz
    unfold wEN at hr
    split at hr
    ·rename_i r hr3
     cases hr
     obtain ⟨R,r1,r2,r3⟩:=wGq hE hr3 c4 (wFo μ c5)
     have hf:=wDM _ _ _ _ r1
     obtain ⟨μ',h1,h2,h3,h4⟩:=wFV (T:=e) S r2
     refine ⟨μ',_,_,h1,h2,⟨_,h4,nG _,rfl⟩,h3,by rw [ho];rfl,?_⟩
     have hs:∀ w,(sizeOf e).run P w=.ok i.size w:=fun w=>by simp [sizeOf,typeInfo,hi]
     have hn':¬ m * i.size > 2 ^ 24:=by omega
     have hq:(qs.map fun (p:Nat × Operand)=>(p.1,ev σ p.2)).toList=qs.toList.map fun (p:Nat × Operand)=>(p.1,ev σ p.2):=by simp
     by_cases h0:m * i.size=0
     ·rw [h0] at hf
      simp only [List.range_zero,kS] at hf
      have hr0:(nt 0).map (fun x=>(#[]:Array Value)[x % (#[]:Array Value).size]!)=#[]:=by rw [show (nt 0)=#[] from rfl,Array.map_empty]
      have hn0:¬ (0:Nat) > 2 ^ 24:=by decide
      simp only [execOp,ho,Instr.buildSlice,Sem.run_bind,wAs d1,hs,Result.andThen_ok,h0,if_neg hn0,if_true,Sem.run_pure,hq,hr0,hf]
      simp [newRow,newObj,Sem.run,Result.andThen]
     ·have hzs:(nt (m * i.size)).map (zv.cells[· % zv.cells.size]!)=((kG (m * i.size)).map fun k=>zv.cells[k % zv.cells.size]!).toArray:=by rw [<- kr,List.map_toArray]
      simp only [execOp,ho,Instr.buildSlice,Sem.run_bind,wAs d1,hs,wDX hi hz,Result.andThen_ok,if_neg hn',if_neg h0,Sem.run_pure,hq,hzs,hf]
      simp [newRow,newObj,Sem.run,Result.andThen]
    ·cases hr
   ·cases c5
  ·cases c3
 ·cases hc
end
end
end Go.KX
namespace Go.KX
noncomputable section
open Go.RowKit Go.KL
section
variable {C:Chk} {P:Program} {μ μ':Mu} {w w':World} {h h':AH} {σ:Env} {σA:Tr AV} {t e:TypeId} {o:Oper}
theorem wFW {b:Pos} {off:Nat} {vs:List AV} {VS:List Value} {c:Cl} (hr:setAt h b off vs=some h') (S:Sim C P μ h w) (hv:RvL μ vs VS) (h1:∀ v ∈ VS,one v=true) (hc:μ b=some c) :
  ∃ w',(storeCells ⟨c.1,off,none⟩ VS).run P w=.ok () w'/\Sim C P μ h' w'/\Ext μ h.fl.nat w μ w'/\h'.fl=h.fl:=by
 unfold setAt at hr
 split at hr
 ·rename_i T l hB
  split at hr
  ·rename_i l' hl
   obtain ⟨c',g1,vs0,g2,g3⟩:=S.at_ b _ hB
   rw [hc] at g1;cases g1
   obtain ⟨k1,k2⟩:=wHy hl g2 hv
   obtain ⟨w',q1,q2,q3,q4⟩:=wCU (P:=P) off VS 0 vs0 w g3 k1 h1
   obtain ⟨s1,s2,s3⟩:=S.put hr hB trivial hc q3 (B':=.cells T l') ⟨_,k2,q2⟩
   exact ⟨w',q1,s1,s2,s3⟩
  ·cases hr
 ·rename_i T sz l hB
  split at hr
  ·rename_i l' hl
   obtain ⟨c',g1,vs0,g2,g3⟩:=S.at_ b _ hB
   rw [hc] at g1;cases g1
   obtain ⟨k1,k2⟩:=wHy hl g2 hv
   obtain ⟨cur,r1,r2,r3,r4,r5⟩:=RowAt.cells g3
   have hB':Blk w c.1 T cur.toList:=by unfold Blk;rw [r1]
   have hcl:vs0.length <= cur.toList.length:=by rw [<- r5];simp;omega
   obtain ⟨w',q1,q2,q3,q4⟩:=wCU (P:=P) off VS 0 cur.toList w hB' (by omega) h1
   obtain ⟨s1,s2,s3⟩:=S.put hr hB trivial hc q3 (B':=.row T sz l') ⟨_,k2,.inr ⟨c.1,(wEA cur.toList (off + 0) VS).toArray,rfl,q2,by rw [wCI];exact r2,r3,by simp [wCI,r4],by
    rw [wCI,Nat.add_zero]
    show (wEA cur.toList off VS).take vs0.length=_
    rw [wIk _ _ _ _ k1,r5]⟩⟩
   exact ⟨w',q1,s1,s2,s3⟩
  ·cases hr
 ·cases hr
def c_st (P:Program) (n:Nat) (x y:AOd):Op->Bool
 | .store t x' y'=>szT P t n && (wCB x x' && wCB y y')
 | _=>false
theorem u_st {n:Nat} {x y:AOd} {op:Op} (hc:c_st P n x y op=true):OkU C P op (wPz n x y):=by
 intro σA h v h' hr μ σ w hE S o ho
 unfold c_st at hc
 split at hc
 ·rename_i t x' y'
  simp only [nA] at hc
  obtain ⟨c1,c2,c3⟩:=hc
  unfold wPz at hr
  split at hr
  ·rename_i b off hb
   split at hr
   ·rename_i hk
    simp only [nA] at hk
    split at hr
    ·rename_i h1 hs
     cases hr
     have g:=wAI c2 hE;rw [hb] at g
     obtain ⟨c,g1,g2⟩:=g
     obtain ⟨VS,v1,v2⟩:=wGK (wAI c3 hE)
     obtain ⟨w',q1,q2,q3,q4⟩:=wFW hs S v1 (wDs v1 hk.2) g1
     have hn:=nB hk.1
     have hlen:VS.length=n:=by rw [wCo v1,<- wEP,hn]
     refine ⟨μ,w',q3,q2,rfl,q4,by rw [ho];rfl,?_⟩
     simp [execOp,ho,Instr.storeAt,g2,Instr.sureAddr,storeVar,v2,wDW c1,hlen,q1]
    ·cases hr
   ·cases hr
  ·cases hr
 ·cases hc
theorem wIB {sz m:Nat} {a:AV} {l:List AV} {y:Value} (hr:slice h sz a=some (m,l)) (S:Sim C P μ h w) (hy:Rv μ a y) :
  ∃ A c VS,y=.slice A m c/\RvL μ l VS/\VS.length=m * sz/\(m=0 \/ ∃ ad,A=some ad/\∀ j u,VS[j]?=some u->w.cell? (ad.add j)=some u):=by
 have key:∀ (b:Pos) (off m:Nat) (c:Cl) (l0 r:List AV),μ b=some c->wDN h b=some l0->sub l0 off (m * sz)=some r->∃ VS,RvL μ r VS/\VS.length=m * sz/\∀ j u,VS[j]?=some u->w.cell? ((⟨c.1,off,none⟩:Addr).add j)=some u:=by
  intro b off m c l0 r hc hl hs
  obtain ⟨c',vs,h1,h2,h3⟩:=wEe hl S
  rw [hc] at h1;cases h1
  obtain ⟨g1,g2⟩:=wEz hs h2
  exact ⟨_,g1,by simp;omega,fun j u hu=>by rw [wFB];exact h3 w (Keep.refl w _) _ _ (wEL rfl j u hu)⟩
 unfold slice at hr
 split at hr
 ·cases hr
  have hy:y=.slice none 0 0:=hy
  exact ⟨none,0,[],hy,rfl,by simp,.inl rfl⟩
 ·cases hr
  obtain ⟨d,_,q,rfl⟩:=hy
  exact ⟨_,_,[],rfl,rfl,by simp,.inl rfl⟩
 ·split at hr
  ·rename_i l0 hl
   split at hr
   ·rename_i r hs
    cases hr
    obtain ⟨d,h1,_,rfl⟩:=hy
    obtain ⟨VS,v1,v2,v3⟩:=key _ _ _ _ _ _ h1 hl hs
    exact ⟨_,_,VS,rfl,v1,v2,.inr ⟨_,rfl,v3⟩⟩
   ·cases hr
  ·cases hr
 ·split at hr
  ·rename_i l0 hl
   split at hr
   ·rename_i r hs
    cases hr
    obtain ⟨d,h1,_,rfl⟩:=hy
    obtain ⟨VS,v1,v2,v3⟩:=key _ _ _ _ _ _ h1 hl hs
    exact ⟨_,_,VS,rfl,v1,v2,.inr ⟨_,rfl,v3⟩⟩
   ·cases hr
  ·cases hr
 ·cases hr
theorem wGr {A A2:Option Addr} {n c c2 ty:Nat} {inf:TypeInfo} (ht:P.underlying t=some (.slice e)) (hi:P.info? e=some inf) (hnc:n <= c):(Builtin.append_ #[t,t] ty #[.slice A n c,.slice A2 0 c2]).run P w=.ok (.slice A n c) w:=by
 have hs:∀ w,(sizeOf e).run P w=.ok inf.size w:=fun w=>by simp [sizeOf,typeInfo,hi]
 cases A <;> cases A2 <;> simp [Builtin.append_,wAs ht,hs,Builtin.lenOf,Builtin.firstCells,hnc,storeCells,loadCells,loadCellsFrom]
theorem wNY {T sz c:Nat} {l:List AV} {cs:List Value} {cur:Array Value} (S:Sim C P μ h w) (K:Keep w w' Non) (hl:RvL μ l cs) (hn:w'.heap[w.heap.size]?=some (.cells cur T (0,0))) (h1:cs.length <= c * sz) (h2:c <= maxLen) (h3:cur.size=c * sz) (h4:cur.toList.take cs.length=cs) :
  ∃ μ',Ext μ h.fl.nat w μ' w'/\Sim C P μ' (h.push (.row T sz l)) w'/\(h.push (.row T sz l)).fl=h.fl/\μ' h.nx=some ⟨w.heap.size,c,g0⟩:=by
 have hle:=Mu.add_le (c:=⟨w.heap.size,c,g0⟩) (S.nx h.nx (nG _))
 obtain ⟨q1,q2,q3,q4⟩:=S.push (w':=w') (c:=⟨w.heap.size,c,g0⟩) (B:=.row T sz l) K (nG _) (wAT hn) ⟨cs,hl.mono hle,.inr ⟨_,cur,rfl,hn,h1,h2,h3,h4⟩⟩
 exact ⟨_,q2,q1,q3,q4⟩
def wPK (P:Program) (T sz by_:Nat) (x y:AOd):Op->Bool
 | .call c=>match c.callee with
  | .builtin b=>(b == .append) && (match c.args.toList,c.argTypes.toList with
   | [x',y'],[t,t']=>nD t t' && (wEE P t (fun d=>match d with | .slice e=>nD e T | _=>false) && (wCB x x' && (wCB y y' && (szT P T sz && (byT P T by_ && (match P.info? T with
    | some i=>match i.zero with | some v=>nD v.cells.size sz && (nX 0 sz && nX 0 by_) | none=>false
    | none=>false))))))
   | _,_=>false)
  | _=>false
 | _=>false
theorem wPL {T sz by_:Nat} {x y:AOd} {op:Op} (hc:wPK P T sz by_ x y op=true) :
  ∃ x' y' t i z,op=.call { callee:=.builtin .append,args:=#[x',y'],argTypes:=#[t,t] }/\P.underlying t=some (.slice T)/\wCB x x'=true/\wCB y y'=true/\P.info? T=some i/\i.zero=some z/\i.size=sz/\i.bytes=by_/\z.cells.size=sz/\0 < sz/\0 < by_:=by
 unfold wPK at hc
 split at hc
 ·rename_i c
  obtain ⟨ce,args,tys⟩:=c
  simp only at hc
  split at hc
  ·rename_i b
   simp only [nA,beq_iff_eq] at hc
   obtain ⟨rfl,h2⟩:=hc
   split at h2
   ·rename_i x' y' t t' h3 h4
    simp only [nA] at h2
    obtain ⟨a1,a2,a3,a4,a5,a6,a7⟩:=h2
    have e:=nB a1
    subst e
    obtain ⟨d,d1,d2⟩:=wAi a2
    split at d2 <;> first | (cases d2;done) | skip
    have e:=nB d2
    subst e
    obtain ⟨i,i1,i2⟩:=wGM a5
    obtain ⟨j,j1,j2⟩:=wGN a6
    rw [i1] at j1;cases j1
    rw [i1] at a7
    simp only at a7
    split at a7
    ·rename_i z hz
     simp only [nA,nJ] at a7
     refine ⟨x',y',t,i,z,?_,d1,a3,a4,i1,hz,i2,j2,nB a7.1,a7.2.1,a7.2.2⟩
     congr 2
     ·exact nN (by simpa using h3)
     ·exact nN (by simpa using h4)
    ·cases a7
   ·cases h2
  ·cases hc
 ·cases hc
theorem wSa (v:Value) (h1:one v=true):v.oneCell'=true:=by cases v <;> first | rfl | cases h1
theorem e_app {T sz by_:Nat} {x y:AOd} {op:Op} (hc:wPK P T sz by_ x y op=true):OkE C P op (wIo T sz by_ x y):=by
 intro σA h v h' hr μ σ w hE S o ho
 obtain ⟨x',y',t,i,z,rfl,ht,c1,c2,hi,hz,i2,j2,hzs,hsz,hby⟩:=wPL hc
 unfold wIo at hr
 split at hr
 ·rename_i m news hs
  obtain ⟨hones,hr'⟩:=wBd hr
  clear hr;have hr:=hr';clear hr'
  obtain ⟨A2,cc2,NS,e2,n1,n2,n3⟩:=wIB hs S (wAI c2 hE)
  have hx:=wAI c1 hE
  have h1:∀ u ∈ NS,u.oneCell'=true:=fun u hu=>wSa u (wDs n1 hones u hu)
  have fin:∀ {μ':Mu} {w':World} {cv:Value},Ext μ h.fl.nat w μ' w'->Sim C P μ' h' w'->Rv μ' v cv->h'.fl=h.fl->(Builtin.append_ #[t,t] o.type #[ev σ x',ev σ y']).run P w=.ok cv w' ->
    ∃ μ' w' cv,Ext μ h.fl.nat w μ' w'/\Sim C P μ' h' w'/\Rv μ' v cv/\h'.fl=h.fl/\Runs P σ w o cv w':=fun a b c d f =>
   ⟨_,_,_,a,b,c,d,by rw [ho];rfl,by simp [execOp,ho,resolve,invoke,builtin,f]⟩
  unfold app at hr
  split at hr
  ·have zero:∀ {A:Option Addr} {n c:Nat},ev σ x'=.slice A n c->n <= c->Rv μ v (.slice A n c)->h'=h->∃ μ' w' cv,Ext μ h.fl.nat w μ' w'/\Sim C P μ' h' w'/\Rv μ' v cv/\h'.fl=h.fl/\Runs P σ w o cv w':=by
    intro A n c hA hnc hv hh
    subst hh
    exact fin (Ext.refl μ _ w) S hv rfl (by rw [hA,e2];exact wGr ht hi hnc)
   split at hr <;> cases hr <;> rename_i hb <;> rw [hb] at hx
   ·have g:ev σ x'=.slice none 0 0:=hx
    exact zero g (nG _) rfl rfl
   ·obtain ⟨d,g1,g2,g3⟩:=hx
    exact zero g3 g2 ⟨d,g1,g2,rfl⟩ rfl
   ·obtain ⟨d,g1,g2,g3⟩:=hx
    exact zero g3 (by omega) ⟨d,g1,g2,rfl⟩ rfl
  ·rename_i m
   obtain ⟨ad,rfl,hcell⟩:∃ ad,A2=some ad/\∀ j u,NS[j]?=some u->w.cell? (ad.add j)=some u:=by
    rcases n3 with h0 | h0
    ·cases h0
    ·exact h0
   have maxb:(140737488355328:Nat) <= maxLen:=by decide
   have lenb:∀ n:Nat,n * by_ <= 140737488355328->n <= 140737488355328:=fun n hn=>nf (kV _ hby) hn
   split at hr
   ·rename_i hb
    rw [hb] at hx
    have hx:ev σ x'=.slice none 0 0:=hx
    obtain ⟨hble,hr'⟩:=wBd hr
    clear hr;have hr:=hr';clear hr'
    cases hr
    have hble:=nR hble
    obtain ⟨A',c',w',r1,r2,r3,r4⟩:=wCw (P:=P) (w:=w) (A:=none) (c:=0) (n:=0) (cs:=[]) (ty:=o.type) (c2:=cc2) ht hi hz i2 hzs hsz (.inl ⟨rfl,rfl,rfl⟩) (by simp) n2 (.inr ⟨ad,rfl,hcell⟩) h1 (by rw [j2,km];exact hble) (by omega)
    rcases r2 with ⟨_,_,q⟩ | ⟨b,cur,rfl,q1,q2,q3,q4,q5⟩
    ·exfalso
     have:([] ++ NS).length=0:=by rw [q];rfl
     rw [nh,n2] at this
     have:=Nat.mul_pos (Nat.succ_pos m) hsz
     omega
    ·have hb:w.heap.size <= b:=by
      rcases r4 b rfl with q | q
      ·cases q
      ·exact q
     have K:Keep w w' Non:=r3.weak fun i _ q=>by cases q
     rw [nh] at q2 q5
     have hle:=Mu.add_le (c:=⟨b,c',g0⟩) (S.nx h.nx (nG _))
     obtain ⟨s1,s2,s3,s4⟩:=S.push (w':=w') (c:=⟨b,c',g0⟩) (B:=.row T sz news) K hb (wAT q1) ⟨NS,n1.mono hle,.inr ⟨_,cur,rfl,q1,q2,q3,q4,q5⟩⟩
     refine fin s2 s1 ⟨_,s4,?_,?_⟩ s3 (by rw [hx,e2];exact r1)
     ·rw [n2] at q2
      have:=kB q2 hsz
      simpa using this
     ·simp
   ·rename_i b off n c hb
    rw [hb] at hx
    obtain ⟨d,g1,g2,g3⟩:=hx
    split at hr
    ·rename_i hle
     have hle:=nR hle
     split at hr
     ·rename_i h1' hset
      cases hr
      obtain ⟨w',q1,q2,q3,q4⟩:=wFW hset S n1 (wDs n1 hones) g1
      refine fin q3 q2 ⟨d,g1,hle,rfl⟩ q4 ?_
      rw [g3,e2]
      have hf:=run_firstCells_some (P:=P) w i.size (m + 1) ad (m + 1) cc2 NS (by rw [i2];exact n2) hcell
      rw [i2] at hf
      simp [Builtin.append_,wAs ht,sizeOf,typeInfo,hi,Builtin.lenOf,hle,hf,wFB,i2,q1]
     ·cases hr
    ·rename_i hlt
     obtain ⟨hble,hr'⟩:=wBd hr
     clear hr;have hr:=hr';clear hr'
     have hble:=nR hble
     split at hr
     ·rename_i nn olds hold
      cases hr
      have hgt:c < n + (m + 1):=by
       rcases kD c (n + (m + 1)) with q | q
       ·exact q
       ·have q':kQ (n + (m + 1)) c=true:=by rw [nT];exact q
        rw [q'] at hlt;cases hlt
      obtain ⟨A1,cc1,OS,k1,k2,k3,k4⟩:=wIB hold S (show Rv μ (.sl b off n c) _ from ⟨d,g1,g2,rfl⟩)
      cases k1
      have hlen:=lenb _ hble
      have olds':∀ j v,OS[j]?=some v->w.cell? ((⟨d.1,off,none⟩:Addr).add j)=some v:=by
       rcases k4 with q | ⟨ad',q1,q2⟩
       ·intro j v hv
        have hnil:OS=[]:=nv (by rw [k3,q];simp)
        rw [hnil] at hv
        simp at hv
       ·cases q1;exact q2
      have hr:=run_append_grow (P:=P) w t o.type T i z ht hi hz ⟨d.1,off,none⟩ n c OS (by rw [i2];exact k3) olds' ad (m + 1) cc2 NS (by rw [i2];exact n2) hcell hgt (by omega) (growslice_fits hgt (by rw [j2];exact hble))
      have hge:=grownCap_ge w (n + (m + 1)) c T
      have hcm:grownCap w (n + (m + 1)) c T <= maxLen:=grownCap_le_maxLen w (n + (m + 1)) c T (by omega)
      have hlen2:(OS ++ NS).length=(n + (m + 1)) * sz:=by rw [kK,k3,n2,kc]
      obtain ⟨μ',s1,s2,s3,s4⟩:=wNY (T:=T) (sz:=sz) (c:=grownCap w (n + (m + 1)) c T) (w':=w.drew.alloc (.cells (OS.toArray ++ NS.toArray ++ Builtin.zeroCells z.cells (grownCap w (n + (m + 1)) c T - (n + (m + 1)))) T)) (cur:=OS.toArray ++ NS.toArray ++ Builtin.zeroCells z.cells (grownCap w (n + (m + 1)) c T - (n + (m + 1)))) S
       ((Keep.drew w).non (wBB w.drew _)) (wDr k2 n1) (heap_alloc_new w.drew _) (by rw [hlen2];exact kg _ hge) hcm
       (by
        simp only [kv,ku,size_zeroCells,hzs,k3,n2,<- kc]
        congr 1
        omega)
       (by simp only [kj,ny];rw [<- ny];exact List.take_left)
      refine fin s1 s2 ⟨_,s4,?_,?_⟩ s3 (by rw [g3,e2];exact hr)
      ·simpa using hge
      ·simp
     ·cases hr
   ·rename_i b eo co n hb
    rw [hb] at hx
    obtain ⟨d,g1,g2,g3⟩:=hx
    split at hr
    ·rename_i T' sz' l hB
     split at hr
     ·rename_i hin
      simp only [nA] at hin
      obtain ⟨p1,p2,p3,p4⟩:=hin
      have p1:=nR p1
      have p2:=nB p2
      have p3:=nB p3
      have p4:=nB p4
      subst p2 p3 p4
      split at hr
      ·rename_i h1' hset
       cases hr
       obtain ⟨d',k1,OS,k2,k3⟩:=S.at_ b _ hB
       rw [g1] at k1;cases k1
       obtain ⟨cur,r1,r2,_⟩:=RowAt.cells k3
       have hle:n + (m + 1) <= d.2:=by
        rw [wEP,<- wCo k2] at p1
        exact kB (nf p1 r2) hsz
       obtain ⟨w',q1,q2,q3,q4⟩:=wFW hset S n1 (wDs n1 hones) g1
       refine fin q3 q2 ⟨d,g1,by omega,rfl⟩ q4 ?_
       rw [g3,e2]
       have hf:=run_firstCells_some (P:=P) w i.size (m + 1) ad (m + 1) cc2 NS (by rw [i2];exact n2) hcell
       rw [i2] at hf
       simp [Builtin.append_,wAs ht,sizeOf,typeInfo,hi,Builtin.lenOf,hle,hf,wFB,i2,q1]
      ·cases hr
     obtain ⟨hcond,hr'⟩:=wBd hr
     clear hr;have hr:=hr';clear hr'
     simp only [nA] at hcond
     obtain ⟨⟨⟨⟨⟨q1,q2⟩,q3⟩,q4⟩,q5⟩,q6⟩:=hcond
     have q1:=nB q1
     have q2:=nB q2
     have q3:=nB q3
     have q4:=nB q4
     have q5:=nB q5
     have hble:=nR q6
     subst q1 q2 q3 q4
     split at hr
     ·rename_i h1' hput
      cases hr
      obtain ⟨d',k1,OS,k2,k3⟩:=S.at_ b _ hB
      rw [g1] at k1;cases k1
      have hol:OS.length=n * sz:=by rw [wCo k2,<- wEP,<- q5]
      obtain ⟨A',c',w',r1,r2,r3,r4⟩:=wCw (P:=P) (w:=w) (A:=some ⟨d.1,0,none⟩) (c:=d.2) (n:=n) (cs:=OS) (ty:=o.type) (c2:=cc2) ht hi hz i2 hzs hsz k3 hol n2 (.inr ⟨ad,rfl,hcell⟩) h1 (by rw [j2];exact hble) (by omega)
      rcases r2 with ⟨_,_,q⟩ | ⟨b',cur,rfl,p1,p2,p3,p4,p5⟩
      ·exfalso
       have:(OS ++ NS).length=0:=by rw [q];rfl
       rw [kK,n2] at this
       have:=Nat.mul_pos (Nat.succ_pos m) hsz
       omega
      ·have hb':b'=d.1 \/ w.heap.size <= b':=by
        rcases r4 b' rfl with q | q
        ·cases q;exact .inl rfl
        ·exact .inr q
       have K:Keep w w' (·=d.1):=r3.weak fun i _ q=>by cases q;rfl
       have hle:=Mu.add_le (c:=⟨b',c',g0⟩) (S.nx h.nx (nG _))
       have hnx:h.nx=h.nx:=rfl
       obtain ⟨s1,s2,s3,s4⟩:=S.move (w':=w') (d:=⟨b',c',g0⟩) (B':=.row T sz (l ++ news)) hput hB trivial g1 K hb' (wAT p1) ⟨OS ++ NS,(wDr k2 n1).mono hle,.inr ⟨_,cur,rfl,p1,p2,p3,p4,p5⟩⟩
       refine fin s2 s1 ⟨_,s4,?_,?_⟩ s3 (by rw [g3,e2];simpa using r1)
       ·rw [kK,hol,n2,<- kc] at p2
        have:=kB p2 hsz
        simpa using this
       ·simp
     ·cases hr
    ·cases hr
   ·cases hr
 ·cases hr
def wRB (P:Program) (sz:Nat) (x y:AOd):Op->Bool
 | .call c=>match c.callee with
  | .builtin b=>(b == .copy) && (match c.args.toList,c.argTypes.toList with
   | [x',y'],t :: _=>wEE P t (fun d=>match d with | .slice e=>szT P e sz | _=>false) && (wCB x x' && wCB y y')
   | _,_=>false)
  | _=>false
 | _=>false
theorem e_cpy {sz:Nat} {x y:AOd} {op:Op} (hc:wRB P sz x y op=true):OkE C P op (wIp sz x y):=by
 intro σA h v h' hr μ σ w hE S o ho
 unfold wRB at hc
 split at hc
 ·rename_i c
  obtain ⟨ce,args,tys⟩:=c
  simp only at hc
  split at hc
  ·rename_i b
   simp only [nA,beq_iff_eq] at hc
   obtain ⟨rfl,h2⟩:=hc
   split at h2
   ·rename_i x' y' t ts h3 h4
    simp only [nA] at h2
    obtain ⟨a1,a2,a3⟩:=h2
    obtain ⟨d,d1,d2⟩:=wAi a1
    split at d2 <;> first | (cases d2;done) | skip
    rename_i e
    have ea:args=#[x',y']:=nN (by simpa using h3)
    have et:tys[0]?=some t:=by rw [<- ke,h4];rfl
    unfold wIp at hr
    split at hr
    ·rename_i b off n cc m news hx hs
     split at hr
     ·rename_i vs hsub
      obtain ⟨hones,hr'⟩:=wBd hr
      clear hr;have hr:=hr';clear hr'
      split at hr
      ·rename_i h1' hset
       cases hr
       have g:=wAI a2 hE;rw [hx] at g
       obtain ⟨c0,g1,_,g3⟩:=g
       obtain ⟨A2,cc2,NS,e2,n1,n2,n3⟩:=wIB hs S (wAI a3 hE)
       generalize hk:(if kQ m n=true then m else n)=k at hsub ⊢
       have hmin:Nat.min m n=k:=by
        rw [<- hk]
        by_cases q:m <= n
        ·rw [if_pos (by rw [nT];exact q)];exact Nat.min_eq_left q
        ·rw [if_neg (by rw [nT];exact q)];exact Nat.min_eq_right (by omega)
       obtain ⟨k1,k2⟩:=wEz hsub n1
       rw [List.drop_zero] at k1
       obtain ⟨w',q1,q2,q3,q4⟩:=wFW hset S k1 (wDs k1 hones) g1
       refine ⟨μ,w',_,q3,q2,rfl,q4,by rw [ho];rfl,?_⟩
       have hf:∀ (w1:World),w1=w->(Builtin.firstCells sz k (.slice A2 m cc2)).run P w1=.ok (NS.take (k * sz)).toArray w1:=by
        intro w1 hw1
        subst hw1
        cases A2 with
        | none =>
         have hm:m=0:=by
          rcases n3 with q | ⟨_,q,_⟩
          ·exact q
          ·cases q
         have hN:NS=[]:=nv (by rw [n2,hm];simp)
         subst hN
         simp [Builtin.firstCells]
        | some ad =>
         have hcell:∀ j u,(NS.take (k * sz))[j]?=some u->w1.cell? (ad.add j)=some u:=by
          intro j u hu
          rw [kq] at hu
          split at hu
          ·rcases n3 with q | ⟨ad',q,q'⟩
           ·have hN:NS=[]:=nv (by rw [n2,q];simp)
            subst hN;simp at hu
           ·cases q;exact q' j u hu
          ·cases hu
         exact run_firstCells_some (P:=P) w1 sz k ad m cc2 (NS.take (k * sz)) (by rw [List.length_take];omega) hcell
       have hs2:=wDW d2
       simp [execOp,ho,ea,et,resolve,invoke,builtin,Builtin.copy_,wAs d1,g3,e2,Builtin.lenOf,hmin,hs2,hf w rfl,q1,goInt,Result.andThen]
      ·cases hr
     ·cases hr
    ·cases hr
   ·cases h2
  ·cases hc
 ·cases hc
def wRC (P:Program) (z:List AV) (x:AOd):Op->Bool
 | .call c=>match c.callee with
  | .builtin b=>(b == .clear) && (match c.args.toList,c.argTypes.toList with
   | [x'],[t]=>wEE P t (fun d=>match d with | .slice e=>zT P e z | _=>false) && wCB x x'
   | _,_=>false)
  | _=>false
 | _=>false
theorem wDZ {zc:Array Value} (c:Nat):(Builtin.zeroCells zc c).toList=(nL c zc.toList).flatten:=by
 have:=wFC (zc:=zc) (n:=0) c
 simp only [or_false] at this
 exact this
def wRD (P:Program) (T sz by_:Nat) (z:List AV) (x y:AOd):Op->Bool
 | .call c=>match c.callee with
  | .builtin b=>(b == .append) && (match c.args.toList,c.argTypes.toList with
   | [x',y'],[t,t']=>wEE P t (fun d=>match d with | .slice e=>nD e T | _=>false) && (wEE P t' (fun d=>match d with | .int _=>true | _=>false) && (wCB x x' && (wCB y y' && (szT P T sz && (byT P T by_ && (zT P T z && (nD (len z) sz && (nX 0 sz && nX 0 by_))))))))
   | _,_=>false)
  | _=>false
 | _=>false
theorem e_apz {T sz by_:Nat} {z:List AV} {x y:AOd} {op:Op} (hc:wRD P T sz by_ z x y op=true):OkE C P op (wIt T sz by_ z x y):=by
 intro σA h v h' hr μ σ w hE S o ho
 unfold wRD at hc
 split at hc <;> first | (cases hc;done) | skip
 rename_i c
 obtain ⟨ce,args,tys⟩:=c
 simp only at hc
 split at hc <;> first | (cases hc;done) | skip
 rename_i b
 simp only [nA,beq_iff_eq] at hc
 obtain ⟨rfl,h2⟩:=hc
 split at h2 <;> first | (cases h2;done) | skip
 rename_i x' y' t t' h3 h4
 simp only [nA] at h2
 obtain ⟨a1,a2,a3,a4,a5,a6,a7,a8,a9,a10⟩:=h2
 have hargs:args=#[x',y']:=nN (by simpa using h3)
 have htys:tys=#[t,t']:=nN (by simpa using h4)
 subst hargs htys
 obtain ⟨d,d1,d2⟩:=wAi a1
 split at d2 <;> first | (cases d2;done) | skip
 have e:=nB d2
 subst e
 rename_i e
 obtain ⟨dn,n1,n2⟩:=wAi a2
 split at n2 <;> first | (cases n2;done) | skip
 rename_i kn
 obtain ⟨i,i1,i2⟩:=wGM a5
 obtain ⟨i',j1,j2⟩:=wGN a6
 obtain ⟨i'',zv,k1,k2,k3⟩:=wFA a7
 rw [i1] at j1 k1;cases j1;cases k1
 have hz:=nB a8
 have hsz:0 < sz:=by simpa [nJ] using a9
 have hx:=wAI a3 hE
 have hy:=wAI a4 hE
 have fin:∀ {μ':Mu} {w':World} {cv:Value},Ext μ h.fl.nat w μ' w'->Sim C P μ' h' w'->Rv μ' v cv->h'.fl=h.fl->(Builtin.append_ #[t,t'] o.type #[ev σ x',ev σ y']).run P w=.ok cv w' ->
   ∃ μ' w' cv,Ext μ h.fl.nat w μ' w'/\Sim C P μ' h' w'/\Rv μ' v cv/\h'.fl=h.fl/\Runs P σ w o cv w':=fun a b c d f =>
  ⟨_,_,_,a,b,c,d,by rw [ho];rfl,by simp [execOp,ho,resolve,invoke,builtin,f]⟩
 have zlen:zv.cells.size=sz:=by rw [<- hz,wEP,<- wCo (k3 μ)];simp
 unfold wIt at hr
 split at hr
 ·rename_i nn hxs hn
  rw [hxs] at hx
  rw [wCA hn] at hy
  have hx:ev σ x'=.slice none 0 0:=hx
  have hy:ev σ y'=.int .i64 (nn:Int):=hy
  cases nn with
  | zero =>
   cases hr
   refine fin (Ext.refl μ _ w) S rfl rfl ?_
   rw [hx,hy]
   simp [Builtin.append_,run_underlying d1,run_underlying n1,sizeOf,typeInfo,i1,asInt,asIntOf,IntKind.wrap_i64]
  | succ m =>
   obtain ⟨hble,hr⟩:=wBd hr
   have hble:=nR hble
   cases hr
   have hby:0 < by_:=by simpa [nJ] using a10
   have hnb:m + 1 <= 140737488355328:=nf (kV _ hby) hble
   have hrun:=Go.Lib.run_append_nil_zeros (P:=P) w t t' o.type e i zv .i64 kn d1 n1 i1 k2 (m + 1) (by omega) (by rw [i2];exact hsz) (by omega) (by rw [j2];omega)
   have hge:=grownCap_ge w (m + 1) 0 e
   have maxb:(140737488355328:Nat) <= maxLen:=by decide
   have hcm:grownCap w (m + 1) 0 e <= maxLen:=grownCap_le_maxLen w (m + 1) 0 e (by omega)
   have hcs:((nL (m + 1) zv.cells.toList).flatten).length=(m + 1) * sz:=by rw [<- wDZ];simp [size_zeroCells,zlen]
   obtain ⟨μ',s1,s2,s3,s4⟩:=wNY (T:=e) (sz:=sz) (c:=grownCap w (m + 1) 0 e) (w':=w.drew.alloc (.cells (Builtin.zeroCells zv.cells (m + 1) ++ Builtin.zeroCells zv.cells (grownCap w (m + 1) 0 e - (m + 1))) e)) (cur:=Builtin.zeroCells zv.cells (m + 1) ++ Builtin.zeroCells zv.cells (grownCap w (m + 1) 0 e - (m + 1))) S
    ((Keep.drew w).non (wBB w.drew _)) (wGl (k3 μ) (m + 1)) (heap_alloc_new w.drew _) (by rw [hcs];exact kg _ hge) hcm
    (by
     simp only [kv,size_zeroCells,zlen,<- kc]
     congr 1
     omega)
    (by
     rw [kj,wDZ]
     exact List.take_left)
   refine fin s1 s2 ⟨_,s4,?_,?_⟩ s3 (by rw [hx,hy];exact hrun)
   ·simpa using hge
   ·simp
 ·cases hr
theorem e_clr {z:List AV} {x:AOd} {op:Op} (hc:wRC P z x op=true):OkE C P op (wIq z x):=by
 intro σA h v h' hr μ σ w hE S o ho
 unfold wRC at hc
 split at hc
 ·rename_i c
  obtain ⟨ce,args,tys⟩:=c
  simp only at hc
  split at hc
  ·rename_i b
   simp only [nA,beq_iff_eq] at hc
   obtain ⟨rfl,h2⟩:=hc
   split at h2
   ·rename_i x' t h3 h4
    simp only [nA] at h2
    obtain ⟨a1,a2⟩:=h2
    obtain ⟨d,d1,d2⟩:=wAi a1
    split at d2 <;> first | (cases d2;done) | skip
    rename_i e
    have ea:args=#[x']:=nN (by simpa using h3)
    have et:tys=#[t]:=nN (by simpa using h4)
    subst ea et
    have hx:=wAI a2 hE
    obtain ⟨i,zv,z1,z2,z3⟩:=wFA d2
    have zero:∀ {A:Option Addr} {c:Nat},ev σ x'=.slice A 0 c->v=u->h'=h->∃ μ' w' cv,Ext μ h.fl.nat w μ' w'/\Sim C P μ' h' w'/\Rv μ' v cv/\h'.fl=h.fl/\Runs P σ w o cv w':=by
     intro A c hA hv hh
     subst hv hh
     refine ⟨μ,w,undef,Ext.refl μ _ w,S,wNE μ,rfl,by rw [ho];rfl,?_⟩
     cases A <;> simp [execOp,ho,resolve,invoke,builtin,Builtin.clear_,hA,wAs d1,undef]
    have full:∀ {b:Pos} {c:Cl} {off n cap:Nat},μ b=some c->ev σ x'=.slice (some ⟨c.1,off,none⟩) n cap->clr h z b off n=some (v,h')->∃ μ' w' cv,Ext μ h.fl.nat w μ' w'/\Sim C P μ' h' w'/\Rv μ' v cv/\h'.fl=h.fl/\Runs P σ w o cv w':=by
     intro b c off n cap hb hA hr
     unfold clr at hr
     split at hr
     ·cases hr;exact zero hA rfl rfl
     ·rename_i n
      obtain ⟨hones,hr'⟩:=wBd hr
      split at hr'
      ·rename_i h1' hset
       cases hr'
       have k1:=wGl (z3 μ) (n + 1)
       have k2:∀ v ∈ (nL (n + 1) zv.cells.toList).flatten,one v=true:=by
        intro v hv
        simp only [List.mem_flatten,List.mem_replicate] at hv
        obtain ⟨l,⟨_,rfl⟩,hv⟩:=hv
        exact wDs (z3 μ) hones v hv
       obtain ⟨w',q1,q2,q3,q4⟩:=wFW hset S k1 k2 hb
       refine ⟨μ,w',undef,q3,q2,wNE μ,q4,by rw [ho];rfl,?_⟩
       rw [<- wDZ] at q1
       simp [execOp,ho,resolve,invoke,builtin,Builtin.clear_,hA,wAs d1,wDX z1 z2,q1,undef,Result.andThen]
      ·cases hr'
    unfold wIq at hr
    split at hr
    ·rename_i hb;rw [hb] at hx;obtain ⟨c,g1,_,g3⟩:=hx;exact full g1 g3 hr
    ·rename_i hb;rw [hb] at hx;obtain ⟨c,g1,_,g3⟩:=hx;exact full g1 g3 hr
    ·rename_i hb;rw [hb] at hx;cases hr;obtain ⟨c,g1,q,g3⟩:=hx;exact zero g3 rfl rfl
    ·rename_i hb;rw [hb] at hx;cases hr;have hx:ev σ x'=.slice none 0 0:=hx;exact zero hx rfl rfl
    ·cases hr
   ·cases h2
  ·cases hc
 ·cases hc
end
end
end Go.KX
namespace Go.KX
noncomputable section
open Go.RowKit Go.KL
section
variable {C:Chk} {P:Program} {μ μ':Mu} {w w':World} {h h':AH} {σ:Env} {σA:Tr AV} {t e:TypeId} {o:Oper} {K:Type} [DecidableEq K]
def wOu (P:Program) (two:Bool) (k:IntKind) (kt:TypeId):Bool:=match two with
 | false=>wEE P kt fun d=>match wNK d with | some k'=>keq k k' | none=>false
 | true=>(!P.stoodInHeld kt) && wEE P kt fun d=>match d with
  | .struct fs=>match fs.toList with
   | [f, g] => nD f.type g.type && (nD f.offset 0 && (nD g.offset 1 && ((f.name != "_") && ((g.name != "_") && wEE P f.type fun d => match wNK d with | some k' => keq k k' | none => false))))
   | _=>false
  | _=>false
theorem keyI {k:IntKind} {kt:TypeId} (hc:wOu P false k kt=true):KeyR P kt (fun n:Int=>kJ k n):=by
 obtain ⟨d,d1,d2⟩:=wAi hc
 cases d <;> first | (cases d2;done) | skip
 have:=wBi d2
 subst this
 exact KeyR.ofInt d1
theorem wLo {k:IntKind} {kt:TypeId} (hc:wOu P true k kt=true):KeyR P kt (mk2 k):=by
 simp only [wOu,nA,np] at hc
 obtain ⟨c0,c1⟩:=hc
 obtain ⟨d,d1,d2⟩:=wAi c1
 split at d2
 ·rename_i fs
  split at d2
  ·rename_i f g hfs
   simp only [nA] at d2
   obtain ⟨a1,a2,a3,a4,a5,a6⟩:=d2
   obtain ⟨di,i1,i2⟩:=wAi a6
   cases di <;> first | (cases i2;done) | skip
   have ek:=wBi i2
   subst ek
   have efs:fs=#[f,g]:=nN (by simpa using hfs)
   subst efs
   have T:Two P kt f.type f g k:=⟨d1,rfl,nB a2,by simpa using a4,(nB a1).symm,nB a3,by simpa using a5,i1,fun w=>wGn i1 w,c0⟩
   exact T.keyR (mk2 k) (·.1) (·.2) (fun _=>rfl) fun x y h1 h2=>Prod.ext h1 h2
  ·cases d2
 ·cases d2
theorem mrI {l:List (Int × AV)} {tt:List (Int × Value)} (hm:MR μ l tt) (n:Int):(wLc l n=none/\wGI tt n=none) \/ ∃ a v,wLc l n=some a/\wGI tt n=some v/\Rv μ a v:=by
 induction l generalizing tt with
 | nil=>cases tt with
  | nil=>exact .inl ⟨rfl,rfl⟩
  | cons q tt=>have:=hm.1;simp at this
 | cons p l ih =>
  cases tt with
  | nil=>have:=hm.1;simp at this
  | cons q tt =>
   obtain ⟨a,x⟩:=p
   obtain ⟨b,v⟩:=q
   obtain ⟨h1,h2⟩:=hm
   simp only [nO,nH] at h1
   obtain ⟨v',ws,g1,g2,g3⟩:=h2
   simp only [nO,nH] at g3
   obtain ⟨rfl,rfl⟩:=g3
   obtain ⟨rfl,h1⟩:=h1
   simp only [wLc,wGI]
   by_cases e:n=a
   ·right;exact ⟨x,v,by simp [wDt,e],by simp [e],g1⟩
   ·have:=ih (tt:=tt) ⟨h1,g2⟩
    simpa [wDt,e] using this
theorem wRE {l:List (Int × AV)} {tt:List (Int × Value)} (hm:MR μ l tt) (n:Int) {a:AV} {v:Value} (hv:Rv μ a v):MR μ (wMZ l n a) (mput tt n v):=by
 induction l generalizing tt with
 | nil=>cases tt with
  | nil=>exact ⟨rfl,wBc hv wGk⟩
  | cons q tt=>have:=hm.1;simp at this
 | cons p l ih =>
  cases tt with
  | nil=>have:=hm.1;simp at this
  | cons q tt =>
   obtain ⟨b,x⟩:=p
   obtain ⟨b',v0⟩:=q
   obtain ⟨h1,h2⟩:=hm
   simp only [nO,nH] at h1
   obtain ⟨v',ws,g1,g2,g3⟩:=h2
   simp only [nO,nH] at g3
   obtain ⟨rfl,rfl⟩:=g3
   obtain ⟨rfl,h1⟩:=h1
   simp only [wMZ,mput,wDt]
   by_cases e:n=b
   ·simp only [e,decide_true,if_true]
    exact ⟨by simp [h1],wBc hv g2⟩
   ·have:=ih (tt:=tt) ⟨h1,g2⟩
    simp only [e,decide_false,if_false]
    exact ⟨by simp [this.1],wBc g1 this.2⟩
theorem wRF {l:List (Int × AV)} {tt:List (Int × Value)} (hm:MR μ l tt) (n:Int):MR μ (wMb l n) (mdel tt n):=by
 induction l generalizing tt with
 | nil=>cases tt with
  | nil=>exact ⟨rfl,rfl⟩
  | cons q tt=>have:=hm.1;simp at this
 | cons p l ih =>
  cases tt with
  | nil=>have:=hm.1;simp at this
  | cons q tt =>
   obtain ⟨b,x⟩:=p
   obtain ⟨b',v0⟩:=q
   obtain ⟨h1,h2⟩:=hm
   simp only [nO,nH] at h1
   obtain ⟨v',ws,g1,g2,g3⟩:=h2
   simp only [nO,nH] at g3
   obtain ⟨rfl,rfl⟩:=g3
   obtain ⟨rfl,h1⟩:=h1
   simp only [wMb,mdel,wDt]
   by_cases e:n=b
   ·simp only [e,decide_true,if_true]
    exact ⟨h1,g2⟩
   ·have:=ih (tt:=tt) ⟨h1,g2⟩
    simp only [e,decide_false,if_false]
    exact ⟨by simp [this.1],wBc g1 this.2⟩
theorem z2 (x y a b:Int):(zeq x a && zeq y b)=decide ((x,y)=(a,b)):=by
 rw [wDt,wDt]
 by_cases h1:x=a <;> by_cases h2:y=b <;> simp [h1,h2]
theorem mr2 {l:List ((Int × Int) × AV)} {tt:List ((Int × Int) × Value)} (hm:MR μ l tt) (x y:Int):(wLb l x y=none/\wGI tt (x,y)=none) \/ ∃ a v,wLb l x y=some a/\wGI tt (x,y)=some v/\Rv μ a v:=by
 induction l generalizing tt with
 | nil=>cases tt with
  | nil=>exact .inl ⟨rfl,rfl⟩
  | cons q tt=>have:=hm.1;simp at this
 | cons p l ih =>
  cases tt with
  | nil=>have:=hm.1;simp at this
  | cons q tt =>
   obtain ⟨⟨a,b⟩,x0⟩:=p
   obtain ⟨b',v⟩:=q
   obtain ⟨h1,h2⟩:=hm
   simp only [nO,nH] at h1
   obtain ⟨v',ws,g1,g2,g3⟩:=h2
   simp only [nO,nH] at g3
   obtain ⟨rfl,rfl⟩:=g3
   obtain ⟨rfl,h1⟩:=h1
   simp only [wLb,wGI,z2]
   by_cases e:(x,y)=(a,b)
   ·right;exact ⟨x0,v,by simp only [e,decide_true],by simp only [e,if_true],g1⟩
   ·have:=ih (tt:=tt) ⟨h1,g2⟩
    simp only [e,decide_false,if_false]
    exact this
theorem wRG {l:List ((Int × Int) × AV)} {tt:List ((Int × Int) × Value)} (hm:MR μ l tt) (x y:Int) {a:AV} {v:Value} (hv:Rv μ a v):MR μ (wMY l x y a) (mput tt (x,y) v):=by
 induction l generalizing tt with
 | nil=>cases tt with
  | nil=>exact ⟨rfl,wBc hv wGk⟩
  | cons q tt=>have:=hm.1;simp at this
 | cons p l ih =>
  cases tt with
  | nil=>have:=hm.1;simp at this
  | cons q tt =>
   obtain ⟨⟨b1,b2⟩,x0⟩:=p
   obtain ⟨b',v0⟩:=q
   obtain ⟨h1,h2⟩:=hm
   simp only [nO,nH] at h1
   obtain ⟨v',ws,g1,g2,g3⟩:=h2
   simp only [nO,nH] at g3
   obtain ⟨rfl,rfl⟩:=g3
   obtain ⟨rfl,h1⟩:=h1
   simp only [wMY,mput,z2]
   by_cases e:(x,y)=(b1,b2)
   ·simp only [e,decide_true,if_true]
    exact ⟨by simp [h1],wBc hv g2⟩
   ·have:=ih (tt:=tt) ⟨h1,g2⟩
    simp only [e,decide_false,if_false]
    exact ⟨by simp [this.1],wBc g1 this.2⟩
theorem wRH {l:List ((Int × Int) × AV)} {tt:List ((Int × Int) × Value)} (hm:MR μ l tt) (x y:Int):MR μ (wMa l x y) (mdel tt (x,y)):=by
 induction l generalizing tt with
 | nil=>cases tt with
  | nil=>exact ⟨rfl,rfl⟩
  | cons q tt=>have:=hm.1;simp at this
 | cons p l ih =>
  cases tt with
  | nil=>have:=hm.1;simp at this
  | cons q tt =>
   obtain ⟨⟨b1,b2⟩,x0⟩:=p
   obtain ⟨b',v0⟩:=q
   obtain ⟨h1,h2⟩:=hm
   simp only [nO,nH] at h1
   obtain ⟨v',ws,g1,g2,g3⟩:=h2
   simp only [nO,nH] at g3
   obtain ⟨rfl,rfl⟩:=g3
   obtain ⟨rfl,h1⟩:=h1
   simp only [wMa,mdel,z2]
   by_cases e:(x,y)=(b1,b2)
   ·simp only [e,decide_true,if_true]
    exact ⟨h1,g2⟩
   ·have:=ih (tt:=tt) ⟨h1,g2⟩
    simp only [e,decide_false,if_false]
    exact ⟨by simp [this.1],wBc g1 this.2⟩
theorem wSb {mt kt et:TypeId} {m ck:Nat} {es:Array MapEntry} {mk:K->Value} {tt:List (K × Value)} {a:K} {z:Value} {ok:Bool} (hm:w.heap[m]?=some (.map es ck)) (hu:P.underlying mt=some (.map kt et)) (R:KeyR P kt mk) (hz:∀ w,(zeroValue et).run P w=.ok z w) (hh:MpR es mk id tt) :
  (Instr.lookup mt (.map (some m)) (mk a) ok).run P w=.ok (if ok then .tuple #[wCb tt a z,.bool (wIg tt a)] else wCb tt a z) w:=by
 have hf:=R.find id es.toList tt a w hh
 have hg:=wEr tt a 0
 unfold wCb wIg
 simp [Instr.lookup,run_underlying hu,MapKept.run_getObj_map hm,R.chk,hf,Result.andThen,<- hg]
 cases e:wCe tt a 0 <;> simp [hz,Result.andThen]
theorem wRI {mt kt et:TypeId} {m ck:Nat} {es:Array MapEntry} {mk:K->Value} {tt:List (K × Value)} {a:K} {v:Value} (hm:w.heap[m]?=some (.map es ck)) (hu:P.underlying mt=some (.map kt et)) (R:KeyR P kt mk) (hh:MpR es mk id tt) :
  ∃ es' ck',MpR es' mk id (mput tt a v)/\(Instr.mapUpdate mt (.map (some m)) (mk a) v).run P w=.ok () (w.putObj m (.map es' ck')):=by
 have hf:=R.find id es.toList tt a w hh
 cases e:wCe tt a 0 with
 | none =>
  obtain ⟨e1,_⟩:=wEs e v
  refine ⟨es.push { key:=mk a,val:=v,born:=ck },ck + 1,?_,?_⟩
  ·unfold MpR at hh ⊢;rw [e1];simp [hh]
  ·simp [Instr.mapUpdate,run_underlying hu,MapKept.run_getObj_map hm,R.chk,hf,e,Result.andThen,MapKept.run_setObj_map _ hm]
   rfl
 | some p =>
  obtain ⟨q,u⟩:=p
  obtain ⟨_,h2,h3,_⟩:=wEt e v
  rw [Nat.sub_zero] at h2 h3
  have hq:q < tt.length:=(nE.1 h2).1
  have hl:es.size=tt.length:=by have:=congrArg kC hh;simpa using this
  have hkq:((es[q]?).map (·.key)).getD (mk a)=mk a:=by
   have h4:(es.toList.map (fun e=>(e.key,e.val)))[q]?=some (mk a,u):=by rw [hh,nl,h2];rfl
   rw [nl] at h4
   cases h5:es.toList[q]? with
   | none=>rw [h5] at h4;cases h4
   | some e =>
    rw [h5] at h4
    simp only [aC,na,Prod.mk.injEq] at h4
    have h6:es[q]?=some e:=by simpa using h5
    rw [h6];simp [h4.1]
  refine ⟨es.modify q fun e=>{ e with key:=mk a,val:=v },ck,?_,?_⟩
  ·unfold MpR at hh ⊢
   rw [h3]
   apply kL
   intro n
   have hn:=congrArg (·[n]?) hh
   simp only [nl] at hn ⊢
   rw [kM]
   simp only [Array.toList_modify,List.getElem?_modify]
   by_cases hqn:q=n
   ·subst hqn
    have h5:es.toList[q]?=some (es.toList[q]'(by simpa [hl] using hq)):=nQ _
    simp [h5,hq]
   ·simp only [hqn,if_false]
    simpa [hqn] using hn
  ·simp [Instr.mapUpdate,run_underlying hu,MapKept.run_getObj_map hm,R.chk,hf,e,Result.andThen,MapKept.run_setObj_map _ hm,Instr.keyThatStays,hkq,R.same]
   rfl
theorem wRJ {mt kt et ty:TypeId} {tys:Array TypeId} {m ck:Nat} {es:Array MapEntry} {mk:K->Value} {tt:List (K × Value)} {a:K} (hty:tys[0]?=some mt) (hm:w.heap[m]?=some (.map es ck)) (hu:P.underlying mt=some (.map kt et)) (R:KeyR P kt mk) (hh:MpR es mk id tt) :
  ∃ es' ck',MpR es' mk id (mdel tt a)/\(Builtin.delete_ tys ty #[.map (some m),mk a]).run P w=.ok (.tuple #[]) (w.putObj m (.map es' ck')):=by
 have hf:=R.find id es.toList tt a w hh
 cases e:wCe tt a 0 with
 | none =>
  obtain ⟨_,e1⟩:=wEs e (.bool true)
  refine ⟨es,ck,by rw [e1];exact hh,?_⟩
  simp [Builtin.delete_,hty,run_underlying hu,MapKept.run_getObj_map hm,R.chk,hf,e,Result.andThen,MapKept.run_setObj_map _ hm]
  rfl
 | some p =>
  obtain ⟨q,u⟩:=p
  obtain ⟨_,h2,_,h3⟩:=wEt e (.bool true)
  rw [Nat.sub_zero] at h2 h3
  refine ⟨es.eraseIdxIfInBounds q,ck,?_,?_⟩
  ·unfold MpR at hh ⊢
   rw [h3,<- wDp,<- hh,wDp]
   simp
  ·simp [Builtin.delete_,hty,run_underlying hu,MapKept.run_getObj_map hm,R.chk,hf,e,Result.andThen,MapKept.run_setObj_map _ hm]
   rfl
def wRK (C:Chk) (P:Program) (μ:Mu) (w:World) (c:Cl) (two:Bool) (k:IntKind) (kt:TypeId) (B:AB) (y:AV) (Y:Value):Prop :=
  ∃ (K:Type) (_:DecidableEq K) (mk:K->Value) (a:K) (es:Array MapEntry) (ck:Nat) (tt:List (K × Value)),Y=mk a/\w.heap[c.1]?=some (.map es ck)/\KeyR P kt mk/\MpR es mk id tt /\
   (∀ q,wGb two k B y=some q->(q=none/\wGI tt a=none) \/ ∃ x v,q=some x/\wGI tt a=some v/\Rv μ x v) /\
   (∀ x v B',wOp two k B y x=some B'->Rv μ x v->wLk B'/\∀ w' es' ck',w'.heap[c.1]?=some (.map es' ck')->MpR es' mk id (mput tt a v)->AbR C P μ w' c B') /\
   (∀ B',wOq two k B y=some B'->wLk B'/\∀ w' es' ck',w'.heap[c.1]?=some (.map es' ck')->MpR es' mk id (mdel tt a)->AbR C P μ w' c B')
theorem wNZ {two:Bool} {k:IntKind} {kt:TypeId} {B:AB} {y:AV} {Y:Value} {c:Cl} (hk:wOu P two k kt=true) (hB:AbR C P μ w c B) (hY:Rv μ y Y) (hr:(wGb two k B y).isSome=true \/ (∃ v,(wOp two k B y v).isSome=true) \/ (wOq two k B y).isSome=true) :
  wRK C P μ w c two k kt B y Y/\wLk B:=by
 have caseI:two=false->∀ (n:Int) (es:Array MapEntry) (ck:Nat) (tt:List (Int × Value)) (l:List (Int × AV)),y=.int k n->w.heap[c.1]?=some (.map es ck)->MpR es (fun n:Int=>kJ k n) id tt->MR μ l tt ->
   (∀ q,wGb two k B y=some q->q=wLc l n)->(∀ x B',wOp two k B y x=some B'->B'=.mapI k (wMZ l n x))->(∀ B',wOq two k B y=some B'->B'=.mapI k (wMb l n) \/ (B'=.map0/\l=[]))->wRK C P μ w c two k kt B y Y:=by
  intro h2 n es ck tt l hy hm hp hM q1 q2 q3
  subst h2 hy
  have hY:Y=.int k n:=hY
  refine ⟨Int,inferInstance,fun n=>kJ k n,n,es,ck,tt,hY,hm,keyI hk,hp,?_,?_,?_⟩
  ·intro q hq
   rw [q1 q hq]
   exact mrI hM n
  ·intro x v B' hB' hv
   have:=q2 x B' hB'
   subst this
   exact ⟨trivial,fun w' es' ck' g1 g2=>⟨es',ck',_,g1,g2,wRE hM n hv⟩⟩
  ·intro B' hB'
   rcases q3 B' hB' with rfl | ⟨rfl,rfl⟩
   ·exact ⟨trivial,fun w' es' ck' g1 g2=>⟨es',ck',_,g1,g2,wRF hM n⟩⟩
   ·refine ⟨trivial,fun w' es' ck' g1 g2=>⟨ck',?_⟩⟩
    cases tt with
    | cons p tt=>have:=hM.1;simp at this
    | nil =>
     have:es'=#[]:=by
      unfold MpR at g2
      simp only [mdel,kS,kk] at g2
      exact nN (by simpa using g2)
     rw [this] at g1;exact g1
 have case2:two=true->∀ (n m:Int) (es:Array MapEntry) (ck:Nat) (tt:List ((Int × Int) × Value)) (l:List ((Int × Int) × AV)),y=.agg [.int k n,.int k m]->w.heap[c.1]?=some (.map es ck)->MpR es (mk2 k) id tt->MR μ l tt ->
   (∀ q,wGb two k B y=some q->q=wLb l n m)->(∀ x B',wOp two k B y x=some B'->B'=.map2 k (wMY l n m x))->(∀ B',wOq two k B y=some B'->B'=.map2 k (wMa l n m) \/ (B'=.map0/\l=[]))->wRK C P μ w c two k kt B y Y:=by
  intro h2 n m es ck tt l hy hm hp hM q1 q2 q3
  subst h2 hy
  have hY:Y=mk2 k (n,m):=by
   obtain ⟨vs,g1,rfl⟩:=hY
   obtain ⟨v1,ws,g2,g3,rfl⟩:=g1
   obtain ⟨v2,ws2,g4,g5,rfl⟩:=g3
   cases g5
   have g2:v1=.int k n:=g2
   have g4:v2=.int k m:=g4
   subst g2 g4
   rfl
  refine ⟨Int × Int,inferInstance,mk2 k,(n,m),es,ck,tt,hY,hm,wLo hk,hp,?_,?_,?_⟩
  ·intro q hq
   rw [q1 q hq]
   exact mr2 hM n m
  ·intro x v B' hB' hv
   have:=q2 x B' hB'
   subst this
   exact ⟨trivial,fun w' es' ck' g1 g2=>⟨es',ck',_,g1,g2,wRG hM n m hv⟩⟩
  ·intro B' hB'
   rcases q3 B' hB' with rfl | ⟨rfl,rfl⟩
   ·exact ⟨trivial,fun w' es' ck' g1 g2=>⟨es',ck',_,g1,g2,wRH hM n m⟩⟩
   ·refine ⟨trivial,fun w' es' ck' g1 g2=>⟨ck',?_⟩⟩
    cases tt with
    | cons p tt=>have:=hM.1;simp at this
    | nil =>
     have:es'=#[]:=by
      unfold MpR at g2
      simp only [mdel,kS,kk] at g2
      exact nN (by simpa using g2)
     rw [this] at g1;exact g1
 have shape:(∃ n,two=false/\y=.int k n/\(B=.map0 \/ ∃ l,B=.mapI k l)) \/ (∃ n m,two=true/\y=.agg [.int k n,.int k m]/\(B=.map0 \/ ∃ l,B=.map2 k l)):=by
  have fI:∀ {k':IntKind} {b:Bool} {α:Type} {x:Option α},(ifO b x).isSome=true->b=true:=fun {k' b α x} hq=>by cases b <;> first | rfl | cases hq
  rcases hr with hr | ⟨v,hr⟩ | hr
  ·unfold wGb at hr
   split at hr <;> first | (cases hr;done) | skip
   ·have:=wBi (fI (k':=k) hr);subst this;exact .inl ⟨_,rfl,rfl,.inl rfl⟩
   ·have:=fI (k':=k) hr;simp only [nA] at this
    have e1:=wBi this.1;have e2:=wBi this.2;subst e1 e2;exact .inr ⟨_,_,rfl,rfl,.inl rfl⟩
   ·have:=fI (k':=k) hr;simp only [nA] at this
    have e1:=wBi this.1;have e2:=wBi this.2;subst e1 e2;exact .inl ⟨_,rfl,rfl,.inr ⟨_,rfl⟩⟩
   ·have:=fI (k':=k) hr;simp only [nA] at this
    have e1:=wBi this.1;have e2:=wBi this.2.1;have e3:=wBi this.2.2;subst e1 e2 e3;exact .inr ⟨_,_,rfl,rfl,.inr ⟨_,rfl⟩⟩
  ·unfold wOp at hr
   split at hr <;> first | (cases hr;done) | skip
   ·have:=wBi (fI (k':=k) hr);subst this;exact .inl ⟨_,rfl,rfl,.inl rfl⟩
   ·have:=fI (k':=k) hr;simp only [nA] at this
    have e1:=wBi this.1;have e2:=wBi this.2;subst e1 e2;exact .inr ⟨_,_,rfl,rfl,.inl rfl⟩
   ·have:=fI (k':=k) hr;simp only [nA] at this
    have e1:=wBi this.1;have e2:=wBi this.2;subst e1 e2;exact .inl ⟨_,rfl,rfl,.inr ⟨_,rfl⟩⟩
   ·have:=fI (k':=k) hr;simp only [nA] at this
    have e1:=wBi this.1;have e2:=wBi this.2.1;have e3:=wBi this.2.2;subst e1 e2 e3;exact .inr ⟨_,_,rfl,rfl,.inr ⟨_,rfl⟩⟩
  ·unfold wOq at hr
   split at hr <;> first | (cases hr;done) | skip
   ·have:=wBi (fI (k':=k) hr);subst this;exact .inl ⟨_,rfl,rfl,.inl rfl⟩
   ·have:=fI (k':=k) hr;simp only [nA] at this
    have e1:=wBi this.1;have e2:=wBi this.2;subst e1 e2;exact .inr ⟨_,_,rfl,rfl,.inl rfl⟩
   ·have:=fI (k':=k) hr;simp only [nA] at this
    have e1:=wBi this.1;have e2:=wBi this.2;subst e1 e2;exact .inl ⟨_,rfl,rfl,.inr ⟨_,rfl⟩⟩
   ·have:=fI (k':=k) hr;simp only [nA] at this
    have e1:=wBi this.1;have e2:=wBi this.2.1;have e3:=wBi this.2.2;subst e1 e2 e3;exact .inr ⟨_,_,rfl,rfl,.inr ⟨_,rfl⟩⟩
 have iS:∀ {b:Bool} {α:Type} {x:Option α} {v:α},ifO b x=some v->x=some v:=fun hq=>(wBd hq).2
 rcases shape with ⟨n,rfl,rfl,rfl | ⟨l,rfl⟩⟩ | ⟨n,m,rfl,rfl,rfl | ⟨l,rfl⟩⟩
 ·obtain ⟨ck,hm⟩:=hB
  refine ⟨?_,trivial⟩
  exact caseI rfl n #[] ck [] [] rfl hm rfl ⟨rfl,rfl⟩ (fun q hq=>by simp only [wGb] at hq;cases iS hq;rfl) (fun x B' hq=>by simp only [wOp] at hq;cases iS hq;rfl) (fun B' hq=>by simp only [wOq] at hq;cases iS hq;exact .inr ⟨rfl,rfl⟩)
 ·obtain ⟨es,ck,tt,hm,hp,hM⟩:=hB
  refine ⟨?_,trivial⟩
  exact caseI rfl n es ck tt l rfl hm hp hM (fun q hq=>by simp only [wGb] at hq;cases iS hq;rfl) (fun x B' hq=>by simp only [wOp] at hq;cases iS hq;rfl) (fun B' hq=>by simp only [wOq] at hq;cases iS hq;exact .inl rfl)
 ·obtain ⟨ck,hm⟩:=hB
  refine ⟨?_,trivial⟩
  exact case2 rfl n m #[] ck [] [] rfl hm rfl ⟨rfl,rfl⟩ (fun q hq=>by simp only [wGb] at hq;cases iS hq;rfl) (fun x B' hq=>by simp only [wOp] at hq;cases iS hq;rfl) (fun B' hq=>by simp only [wOq] at hq;cases iS hq;exact .inr ⟨rfl,rfl⟩)
 ·obtain ⟨es,ck,tt,hm,hp,hM⟩:=hB
  refine ⟨?_,trivial⟩
  exact case2 rfl n m es ck tt l rfl hm hp hM (fun q hq=>by simp only [wGb] at hq;cases iS hq;rfl) (fun x B' hq=>by simp only [wOp] at hq;cases iS hq;rfl) (fun B' hq=>by simp only [wOq] at hq;cases iS hq;exact .inl rfl)
def wSc (P:Program) (two:Bool) (k:IntKind) (ok:Bool) (z:AV) (x y:AOd):Op->Bool
 | .lookup t x' y' ok'=>wEE P t (fun d=>match d with
   | .map kt et=>wOu P two k kt && (match P.info? et with
    | some i=>match i.zero with | some v=>okc z v | none=>false
    | none=>false)
   | _=>false) && ((ok == ok') && (wCB x x' && wCB y y'))
 | _=>false
def lkV (ok:Bool) (z:AV) (q:Option AV):AV:=match ok with
 | true=>.tup [q.getD z,.bool q.isSome]
 | false=>q.getD z
theorem l_lk {two:Bool} {k:IntKind} {ok:Bool} {z:AV} {x y:AOd} {op:Op} (hc:wSc P two k ok z x y op=true):OkL C P op (wOs two k ok z x y):=by
 intro σA h v h' hr
 unfold wSc at hc
 split at hc
 ·rename_i t x' y' ok'
  simp only [nA,beq_iff_eq] at hc
  obtain ⟨c1,rfl,c2,c3⟩:=hc
  obtain ⟨d,d1,d2⟩:=wAi c1
  split at d2 <;> first | (cases d2;done) | skip
  rename_i kt et
  simp only [nA] at d2
  obtain ⟨k1,k2⟩:=d2
  split at k2 <;> first | (cases k2;done) | skip
  rename_i i hi
  split at k2 <;> first | (cases k2;done) | skip
  rename_i zv hz
  unfold wOs at hr
  split at hr <;> first | (cases hr;done) | skip
  rename_i b hx
  split at hr <;> first | (cases hr;done) | skip
  rename_i B hB
  have key:∀ q,wGb two k B (evA σA y)=some q->h'=h->v=lkV ok z q->h'=h/\∀ μ σ w,EnvR μ σA σ->Sim C P μ h w->∃ cv,Rv μ v cv/\∀ (o:Oper),o.op=.lookup t x' y' ok->RunsK P σ w o cv:=by
   intro q hq hh hv
   subst hh hv
   refine ⟨rfl,fun μ σ w hE S=>?_⟩
   have g:=wAI c2 hE;rw [hx] at g
   obtain ⟨c,g1,g2⟩:=g
   obtain ⟨c',g3,g4⟩:=S.at_ b B hB
   rw [g1] at g3;cases g3
   obtain ⟨⟨K,_,mk,a,es,ck,tt,e1,e2,e3,e4,e5,_,_⟩,hl⟩:=wNZ k1 g4 (wAI c3 hE) (.inl (by rw [hq];rfl))
   have hrun:∀ w',Keep w w' Non->∀ (o:Oper),o.op=.lookup t x' y' ok->Runs P σ w' o (if ok then .tuple #[wCb tt a zv,.bool (wIg tt a)] else wCb tt a zv) w':=by
    intro w' K o ho
    have hm:=(K.block _ (wAT e2) id).trans e2
    have:=wSb (P:=P) (ok:=ok) hm d1 e3 (wDX hi hz) e4 (a:=a)
    exact ⟨by rw [ho];rfl,by simp [execOp,ho,g2,e1,this,Result.andThen]⟩
   refine ⟨_,?_,fun o ho w' K=>hrun w' K o ho⟩
   have hval:Rv μ (q.getD z) (wCb tt a zv)/\q.isSome=wIg tt a:=by
    rcases e5 q hq with ⟨rfl,q2⟩ | ⟨x,v,rfl,q2,q3⟩
    ·unfold wCb wIg;rw [q2];exact ⟨wNG μ k2,rfl⟩
    ·unfold wCb wIg;rw [q2];exact ⟨q3,rfl⟩
   cases ok
   ·exact hval.1
   ·exact ⟨_,wBc hval.1 (wBc (v:=.bool (wIg tt a)) (by rw [<- hval.2];rfl) wGk),rfl⟩
  split at hr
  ·rename_i q hq
   cases hr
   exact key _ hq rfl (by cases ok <;> rfl)
  ·rename_i hq
   cases hr
   exact key _ hq rfl (by cases ok <;> rfl)
  ·cases hr
 ·cases hc
def wKy (P:Program) (two:Bool) (k:IntKind) (x y z:AOd):Op->Bool
 | .mapUpdate t x' y' z' | .insert t x' y' z'=>wEE P t (fun d=>match d with
   | .map kt et=>wOu P two k kt
   | _=>false) && (wCB x x' && (wCB y y' && wCB z z'))
 | _=>false
theorem wNa {two:Bool} {k:IntKind} {x y z:AOd} {op:Op} (hc:wKy P two k x y z op=true):∃ t kt et x' y' z',(op=.mapUpdate t x' y' z' \/ op=.insert t x' y' z')/\P.underlying t=some (.map kt et)/\wOu P two k kt=true/\wCB x x'=true/\wCB y y'=true/\wCB z z'=true:=by
 have key:∀ {t:TypeId} {x' y' z':Operand},(wEE P t (fun d=>match d with | .map kt et=>wOu P two k kt | _=>false) && (wCB x x' && (wCB y y' && wCB z z')))=true->∃ kt et,P.underlying t=some (.map kt et)/\wOu P two k kt=true/\wCB x x'=true/\wCB y y'=true/\wCB z z'=true:=by
  intro t x' y' z' hq
  simp only [nA] at hq
  obtain ⟨d,d1,d2⟩:=wAi hq.1
  split at d2 <;> first | (cases d2;done) | skip
  exact ⟨_,_,d1,d2,hq.2⟩
 unfold wKy at hc
 split at hc
 ·obtain ⟨kt,et,g⟩:=key hc;exact ⟨_,kt,et,_,_,_,.inl rfl,g⟩
 ·obtain ⟨kt,et,g⟩:=key hc;exact ⟨_,kt,et,_,_,_,.inr rfl,g⟩
 ·cases hc
theorem wSd {two:Bool} {k:IntKind} {x y z:AOd} {op:Op} (hc:wKy P two k x y z op=true):OkU C P op (wFx two k x y z):=by
 intro σA h v h' hr μ σ w hE S o ho
 obtain ⟨t,kt,et,x',y',z',hop,d1,k1,c1,c2,c3⟩:=wNa hc
 unfold wFx at hr
 split at hr <;> first | (cases hr;done) | skip
 rename_i b hx
 split at hr <;> first | (cases hr;done) | skip
 rename_i B hB
 split at hr <;> first | (cases hr;done) | skip
 rename_i B' hp
 split at hr <;> first | (cases hr;done) | skip
 rename_i h1' hput
 cases hr
 have g:=wAI c1 hE;rw [hx] at g
 obtain ⟨c,g1,g2⟩:=g
 obtain ⟨c',g3,g4⟩:=S.at_ b B hB
 rw [g1] at g3;cases g3
 obtain ⟨⟨K,_,mk,a,es,ck,tt,e1,e2,e3,e4,_,e6,_⟩,hl⟩:=wNZ k1 g4 (wAI c2 hE) (.inr (.inl ⟨_,by rw [hp];rfl⟩))
 obtain ⟨es',ck',r1,r2⟩:=wRI (P:=P) (v:=ev σ z') e2 d1 e3 e4 (a:=a)
 obtain ⟨l1,l2⟩:=e6 _ (ev σ z') B' hp (wAI c3 hE)
 obtain ⟨s1,s2,s3⟩:=S.put hput hB hl g1 (wBw w c.1 (.map es' ck')) (l2 _ es' ck' (wEv _ (wAT e2)) r1)
 refine ⟨μ,_,s2,s1,rfl,s3,by rw [ho];rcases hop with e | e <;> (rw [e];rfl),?_⟩
 rcases hop with e | e <;> rw [e] at ho <;> simp [execOp,ho,g2,e1,r2,Result.andThen]
def wNb (P:Program) (two:Bool) (k:IntKind) (x y:AOd):Op->Bool
 | .call c=>match c.callee with
  | .builtin b=>(b == .delete) && (match c.args.toList,c.argTypes.toList with
   | [x',y'],t :: _=>wEE P t (fun d=>match d with | .map kt _=>wOu P two k kt | _=>false) && (wCB x x' && wCB y y')
   | _,_=>false)
  | _=>false
 | _=>false
theorem wSe {two:Bool} {k:IntKind} {x y:AOd} {op:Op} (hc:wNb P two k x y op=true):OkE C P op (wFy two k x y):=by
 intro σA h v h' hr μ σ w hE S o ho
 unfold wNb at hc
 split at hc <;> first | (cases hc;done) | skip
 rename_i c
 obtain ⟨ce,args,tys⟩:=c
 simp only at hc
 split at hc <;> first | (cases hc;done) | skip
 rename_i b
 simp only [nA,beq_iff_eq] at hc
 obtain ⟨rfl,h2⟩:=hc
 split at h2 <;> first | (cases h2;done) | skip
 rename_i x' y' t ts h3 h4
 simp only [nA] at h2
 obtain ⟨a1,a2,a3⟩:=h2
 obtain ⟨d,d1,d2⟩:=wAi a1
 split at d2 <;> first | (cases d2;done) | skip
 rename_i kt et
 have ea:args=#[x',y']:=nN (by simpa using h3)
 have et':tys[0]?=some t:=by rw [<- ke,h4];rfl
 unfold wFy at hr
 split at hr <;> first | (cases hr;done) | skip
 rename_i b hx
 split at hr <;> first | (cases hr;done) | skip
 rename_i B hB
 split at hr <;> first | (cases hr;done) | skip
 rename_i B' hp
 split at hr <;> first | (cases hr;done) | skip
 rename_i h1' hput
 cases hr
 have g:=wAI a2 hE;rw [hx] at g
 obtain ⟨c,g1,g2⟩:=g
 obtain ⟨c',g3,g4⟩:=S.at_ b B hB
 rw [g1] at g3;cases g3
 obtain ⟨⟨K,_,mk,a,es,ck,tt,e1,e2,e3,e4,_,_,e7⟩,hl⟩:=wNZ d2 g4 (wAI a3 hE) (.inr (.inr (by rw [hp];rfl)))
 obtain ⟨es',ck',r1,r2⟩:=wRJ (P:=P) (ty:=o.type) et' e2 d1 e3 e4 (a:=a)
 obtain ⟨l1,l2⟩:=e7 B' hp
 obtain ⟨s1,s2,s3⟩:=S.put hput hB hl g1 (wBw w c.1 (.map es' ck')) (l2 _ es' ck' (wEv _ (wAT e2)) r1)
 refine ⟨μ,_,_,s2,s1,wNE μ,s3,by rw [ho];rfl,?_⟩
 simp [execOp,ho,ea,resolve,invoke,builtin,g2,e1,r2,undef,Result.andThen]
def wJD (P:Program) (x:AOd):Op->Bool
 | .call c=>match c.callee with
  | .builtin b=>(b == .len) && (match c.args.toList,c.argTypes.toList with
   | [x'],[t]=>wEE P t (fun d=>match d with | .map _ _=>true | _=>false) && wCB x x'
   | _,_=>false)
  | _=>false
 | _=>false
theorem wSf {x:AOd} {op:Op} (hc:wJD P x op=true):OkL C P op (wEk x):=by
 intro σA h v h' hr
 unfold wJD at hc
 split at hc <;> first | (cases hc;done) | skip
 rename_i c
 obtain ⟨ce,args,tys⟩:=c
 simp only at hc
 split at hc <;> first | (cases hc;done) | skip
 rename_i b
 simp only [nA,beq_iff_eq] at hc
 obtain ⟨rfl,h2⟩:=hc
 split at h2 <;> first | (cases h2;done) | skip
 rename_i x' t h3 h4
 simp only [nA] at h2
 obtain ⟨a1,a2⟩:=h2
 obtain ⟨d,d1,d2⟩:=wAi a1
 split at d2 <;> first | (cases d2;done) | skip
 rename_i kt et
 have ea:args=#[x']:=nN (by simpa using h3)
 have et':tys=#[t]:=nN (by simpa using h4)
 subst ea et'
 unfold wEk at hr
 split at hr
 ·rename_i hx
  cases hr
  refine ⟨rfl,fun μ σ w hE S=>⟨_,rfl,fun o ho w' K=>?_⟩⟩
  have g:=wAI a2 hE;rw [hx] at g
  have g:ev σ x'=.map none:=g
  exact ⟨by rw [ho];rfl,by simp [execOp,ho,resolve,invoke,builtin,Builtin.len_,g,run_underlying d1,goInt,Result.andThen]⟩
 ·rename_i b hx
  split at hr <;> first | (cases hr;done) | skip
  rename_i B hB
  split at hr <;> first | (cases hr;done) | skip
  rename_i n hn
  cases hr
  refine ⟨rfl,fun μ σ w hE S=>⟨_,rfl,fun o ho w' K=>?_⟩⟩
  have g:=wAI a2 hE;rw [hx] at g
  obtain ⟨c,g1,g2⟩:=g
  obtain ⟨c',g3,g4⟩:=S.at_ b B hB
  rw [g1] at g3;cases g3
  have hmap:∃ es ck,w.heap[c.1]?=some (.map es ck)/\es.size=n:=by
   unfold lenB at hn
   split at hn <;> first | (cases hn;done) | skip
   ·cases hn;obtain ⟨ck,q⟩:=g4;exact ⟨_,ck,q,rfl⟩
   ·cases hn
    obtain ⟨es,ck,tt,q1,q2,q3⟩:=g4
    refine ⟨es,ck,q1,?_⟩
    have e1:=congrArg kC q2
    have e2:=congrArg kC q3.1
    simp at e1 e2
    rw [wEP];omega
   ·cases hn
    obtain ⟨es,ck,tt,q1,q2,q3⟩:=g4
    refine ⟨es,ck,q1,?_⟩
    have e1:=congrArg kC q2
    have e2:=congrArg kC q3.1
    simp at e1 e2
    rw [wEP];omega
  obtain ⟨es,ck,q1,q2⟩:=hmap
  have hm:=(K.block _ (wAT q1) id).trans q1
  refine ⟨by rw [ho];rfl,?_⟩
  simp [execOp,ho,resolve,invoke,builtin,Builtin.len_,g2,run_underlying d1,MapKept.run_getObj_map hm,goInt,Result.andThen,q2]
 ·cases hr
end
end
end Go.KX
namespace Go.KX
noncomputable section
open Go.RowKit Go.KL
def kdA:AOp->Nat
 | .mv _ | .pick _ _ _ | .nilc _ | .add _ _ | .sub _ _ | .mul _ _ | .quo _ _ | .rem _ _ | .lss _ _ | .leq _ _ | .gtr _ _ | .geq _ _ | .eql _ _ | .neq _ _ | .eqb _ _ _ | .eqn _ _ _ _ | .eqs _ _ _ _
 | .bad | .and _ _ | .shr _ _ | .ixs _ _ | .neg _ | .not _ | .cvt _ _ | .mkf _ _ _ | .slc _ _ _ _ _ | .slcA _ _ _ _ _ | .fad _ _ | .fld _ _ | .fldA _ _ _ | .iad _ _ _ | .iadA _ _ _ _ | .ix _ _ _ | .ixA _ _ _ _ | .ext _ _ | .bld _ _ | .len _ | .cap _ | .min _ _ | .max _ _=>3
 | .ld _ | .ldA _ _ | .lk _ _ _ _ _ _ | .lenM _=>1
 | .st _ _ _ | .mput _ _ _ _ _=>4
 | .call _ _=>5
 | _=>0
def wNc (x:AOd) (l:List AOd):Op->Bool
 | .call c=>match c.callee with
  | .value f=>wCB x f && wIz l c.args.toList
  | _=>false
 | _=>false
def wRy:List UInt8->List Nat->Bool
 | [],[]=>true
 | a :: l,b :: k=>nD a.toNat b && wRy l k
 | _,_=>false
theorem wNd:∀ {l:List UInt8} {k:List Nat},wRy l k=true->l.map UInt8.toNat=k
 | [],[],_=>rfl
 | a :: l,b :: k,h=>by
  simp only [wRy,nA] at h
  rw [nO,nB h.1,wNd h.2]
 | [],_ :: _,h=>by simp [wRy] at h
 | _ :: _,[],h=>by simp [wRy] at h
def wRL (P:Program) (l:List Nat) (y:AOd):Op->Bool
 | .index t (.const (.string s)) y'=>wEE P t (fun d=>match d with | .string=>true | _=>false) && (wRy s.data.toList l && wCB y y')
 | _=>false
def wGs (P:Program) (a:AOp) (op:Op):Bool:=match a with
 | .mv x=>c_mv x op
 | .pick c x y=>wNH c x y op
 | .new T z=>wNU P T z op
 | .box T x=>wNV T x op
 | .ld x=>wSY P x op
 | .ldA n x=>wNT P n x op
 | .st n x y=>c_st P n x y op
 | .nilc x=>wNI x op
 | .add x y=>wCX .add x y op
 | .sub x y=>wCX .sub x y op
 | .mul x y=>wCX .mul x y op
 | .quo x y=>wCX .quo x y op
 | .rem x y=>wCX .rem x y op
 | .lss x y=>wCX .lss x y op
 | .leq x y=>wCX .leq x y op
 | .gtr x y=>wCX .gtr x y op
 | .geq x y=>wCX .geq x y op
 | .eql x y=>wCX .eql x y op
 | .neq x y=>wCX .neq x y op
 | .eqb ne x y=>wQr P ne x y op
 | .eqn k ne x y=>wQs P k ne x y op
 | .eqs ne s x y=>wQt P ne s x y op
 | .neg x=>wQm x op
 | .not x=>wQn x op
 | .cvt k x=>wQo (P:=P) k x op
 | .mkf f fi ca=>wQp f fi ca op
 | .mkm=>wNW op
 | .mks T sz by_ z x y=>wNX P T sz by_ z x y op
 | .slc sz x lo hi mx=>wQy P sz x lo hi mx op
 | .slcA sz n x lo hi=>wNR P sz n x lo hi op
 | .fad off x=>wQu P off x op
 | .fld off x=>wQv P off x op
 | .fldA off n x=>wNN P off n x op
 | .iad sz x y=>wQw P sz x y op
 | .iadA sz n x y=>wNO P sz n x y op
 | .ix n x y=>c_ix P n x y op
 | .ixA sz n x y=>wQx P sz n x y op
 | .lk two k ok z x y=>wSc P two k ok z x y op
 | .mput two k x y z=>wKy P two k x y z op
 | .mdel two k x y=>wNb P two k x y op
 | .ext i x=>wQq i x op
 | .bld z ps=>wQz P z ps op
 | .blds T n z ps=>wJC P T n z ps op
 | .len x=>wLn P .len x op
 | .lenM x=>wJD P x op
 | .cap x=>wLn P .cap x op
 | .app T sz by_ x y=>wPK P T sz by_ x y op
 | .cpy sz x y=>wRB P sz x y op
 | .clr z x=>wRC P z x op
 | .min x y=>wRx .min x y op
 | .max x y=>wRx .max x y op
 | .call x l=>wNc x l op
 | .bad=>true
 | .and x y=>wCX .and x y op
 | .shr x y=>wCX .shr x y op
 | .ixs l y=>wRL P l y op
 | .apz T sz by_ z x y=>wRD P T sz by_ z x y op
section
variable {C:Chk} {P:Program} {tb:Tr AF} {ex exY:Run}
theorem p_bad {op:Op}:OkP P op (wSL):=by
 intro σA h v h' hr
 cases hr
theorem p_and {x y:AOd} {op:Op} (hc:wCX .and x y op=true):OkP P op (wMt x y):=by
 intro σA h v h' hr
 obtain ⟨t,x',y',t',rfl,h1,h2⟩:=wFU hc
 obtain ⟨hr2,rfl⟩:=wBl hr
 split at hr2
 ·rename_i k a k' b ha hb
  split at hr2
  ·rename_i hk
   cases hr2
   have hk:=wBi hk
   subst hk
   refine ⟨rfl,fun μ σ hE=>⟨_,rfl,fun o w ho=>?_⟩⟩
   have g1:=wAI h1 hE;rw [ha] at g1
   have g2:=wAI h2 hE;rw [hb] at g2
   have g1:ev σ x'=.int k a:=g1
   have g2:ev σ y'=.int k b:=g2
   exact ⟨by rw [ho];rfl,by simp [execOp,ho,g1,g2,binOp,eqGuard,Op.intBits,andI]⟩
  ·cases hr2
 ·cases hr2
theorem p_shr {x y:AOd} {op:Op} (hc:wCX .shr x y op=true):OkP P op (wMu x y):=by
 intro σA h v h' hr
 obtain ⟨t,x',y',t',rfl,h1,h2⟩:=wFU hc
 obtain ⟨hr2,rfl⟩:=wBl hr
 split at hr2
 ·rename_i k a k' b ha hb
  cases hr2
  refine ⟨rfl,fun μ σ hE=>⟨_,rfl,fun o w ho=>?_⟩⟩
  have g1:=wAI h1 hE;rw [ha] at g1
  have g2:=wAI h2 hE;rw [hb] at g2
  have g1:ev σ x'=.int k a:=g1
  have g2:ev σ y'=.int k' (kY b):=g2
  have hn:¬ (kY b) < 0:=by simp
  exact ⟨by rw [ho];rfl,by simp [execOp,ho,g1,g2,binOp,eqGuard,Op.shift];intro hb0;omega⟩
 ·cases hr2
theorem p_ixs {l:List Nat} {y:AOd} {op:Op} (hc:wRL P l y op=true):OkP P op (wJx l y):=by
 intro σA h v h' hr
 unfold wRL at hc
 split at hc <;> first | (cases hc;done) | skip
 rename_i t s y'
 simp only [nA] at hc
 obtain ⟨c1,c2,c3⟩:=hc
 obtain ⟨d,d1,d2⟩:=wAi c1
 split at d2 <;> first | (cases d2;done) | skip
 have hl:=wNd c2
 unfold wJx at hr
 split at hr
 ·rename_i k i hy
  obtain ⟨hr2,rfl⟩:=wBl hr
  split at hr2
  ·rename_i b hb
   cases hr2
   rw [wGA,<- hl,nl] at hb
   have hi:i < s.data.toList.length:=by
    rcases kD i s.data.toList.length with q | q
    ·exact q
    ·rw [kE q] at hb;cases hb
   have hi2:i < s.size:=by simpa using hi
   rw [nQ hi] at hb
   have hb:(s.data.toList[i]).toNat=b:=by simpa using hb
   refine ⟨rfl,fun μ σ hE=>⟨_,rfl,fun o w ho=>?_⟩⟩
   have g:=wAI c3 hE;rw [hy] at g
   have g:ev σ y'=.int k (kY i):=g
   have hx:ev σ (.const (.string s))=.string s:=rfl
   have hrun:=run_index_string (P:=P) w t s k (kY i) d1
   rw [dif_pos ⟨by simp,by simpa using hi2⟩] at hrun
   have hbb:(s[(kY i).toNat]'(by simpa using hi2)).toNat=b:=by rw [<- hb];rfl
   rw [hbb] at hrun
   simp only [nr] at hrun
   exact ⟨by rw [ho];rfl,by simp only [execOp,ho,hx,g];simp [hrun]⟩
  ·cases hr2
 ·cases hr
theorem wHg {a:AOp} {op:Op} (hk:kdA a=3) (hc:wGs P a op=true):OkP P op (opY a tb ex exY):=by
 cases a <;> first
  | (simp [kdA] at hk;done)
  | exact p_bad | exact p_and hc | exact p_shr hc | exact p_ixs hc | exact p_mv hc | exact wSR hc | exact wSS hc | exact p_add hc | exact p_sub hc | exact p_mul hc | exact p_quo hc | exact p_rem hc
  | exact p_lss hc | exact p_leq hc | exact p_gtr hc | exact p_geq hc | exact p_eql hc | exact p_neq hc | exact p_eqb hc | exact p_eqn hc | exact p_eqs hc
  | exact p_neg hc | exact p_not hc | exact p_cvt hc | exact p_mkf hc | exact p_slc hc | exact wSW hc | exact p_fad hc | exact p_fld hc | exact wSU hc
  | exact p_iad hc | exact wSV hc | exact p_ix hc | exact p_ixA hc | exact p_ext hc | exact p_bld hc | exact p_len hc | exact p_cap hc | exact p_min hc | exact p_max hc
theorem wHh {a:AOp} {op:Op} (hk:kdA a=1 \/ kdA a=3) (hc:wGs P a op=true):OkL C P op (opY a tb ex exY):=by
 rcases hk with hk | hk
 ·cases a <;> first
   | (simp [kdA] at hk;done)
   | exact l_ld hc | exact l_ldA hc | exact l_lk hc | exact wSf hc
 ·exact (wHg hk hc).toL
theorem wSg {a:AOp} {op:Op} (hk:kdA a=0 \/ kdA a=1 \/ kdA a=3) (hc:wGs P a op=true):OkE C P op (opY a tb ex exY):=by
 rcases hk with hk | hk
 ·cases a <;> first
   | (simp [kdA] at hk;done)
   | exact e_new hc | exact e_box hc | exact e_mkm hc | exact e_mks hc | exact wSe hc | exact wSZ hc | exact e_app hc | exact e_apz hc | exact e_cpy hc | exact e_clr hc
 ·exact (wHh hk hc).toE
theorem wSh {a:AOp} {op:Op} (hk:kdA a=4) (hc:wGs P a op=true):OkU C P op (opY a tb ex exY):=by
 cases a <;> first
  | (simp [kdA] at hk;done)
  | exact u_st hc | exact wSd hc
def wGB (C:Chk) (P:Program) (tb:Tr AF) (ex:Run):Prop:=∀ f args h v h',wIr tb ex f args h=some (v,h') ->
 (∀ (a:Array Value) (w:World),(callFunc (f.nat - 1) a).run P w=.ok (.enter (f.nat - 1) a) w) /\
 ∀ μ w vs,Sim C P μ h w->RvL μ args vs->Gv P (f.nat - 1) vs w fun cv w'=>∃ μ',Ext μ h.fl.nat w μ' w'/\Sim C P μ' h' w'/\Rv μ' v cv/\h'.fl=h.fl
def wFD (C:Chk) (P:Program) (ex:Run):Prop:=∀ b args h v h',wIs ex b args h=some (v,h') ->
 ∀ μ w x c,Sim C P μ h w->RvL μ args x->μ b=some c->Yd P c.1 x w fun t w'=>∃ μ',Ext μ h.fl.nat w μ' w'/\Sim C P μ' h' w'/\v=.bool t/\h'.fl=h.fl
def wGt (P:Program) (N:Nat) (l:List Oper) (a:AO):Bool:=match l[a.ix]? with
 | none=>false
 | some o=>wGs P a.op o.op && ((match a.dst,o.dst with
   | none,none=>true
   | some p,some d=>nD p.nat (d + 1) && nX d N
   | _,_=>false) && ((match a.grd,o.guard with
   | none,none=>true
   | some (p,b),some (j,b')=>(b == b') && (match (l[j]?).bind (·.dst) with | some d=>nD p.nat (d + 1) | none=>false)
   | _,_=>false) && ((match a.kd with
   | 3=>nD (kdA a.op) 3
   | 1=>nD (kdA a.op) 1 || nD (kdA a.op) 3
   | _=>true) && ((!Nat.beq (kdA a.op) 4 || o.dst.isNone) && !Nat.beq a.kd 1005))))
structure AOK (P:Program) (N:Nat) (l:List Oper) (a:AO) (o:Oper):Prop where
 get:l[a.ix]?=some o
 op:wGs P a.op o.op=true
 dst:(a.dst=none/\o.dst=none) \/ ∃ p d,a.dst=some p/\o.dst=some d/\d=p.nat - 1/\d < N
 grd:(a.grd=none/\o.guard=none) \/ ∃ p b j d,a.grd=some (p,b)/\o.guard=some (j,b)/\(l[j]?).bind (·.dst)=some d/\d=p.nat - 1
 k3:a.kd=3->kdA a.op=3
 k1:a.kd=1->kdA a.op=1 \/ kdA a.op=3
 un:kdA a.op=4->o.dst=none
 k5:a.kd ≠ 1005
theorem wCx {N:Nat} {l:List Oper} {a:AO} (hc:wGt P N l a=true):∃ o,AOK P N l a o:=by
 unfold wGt at hc
 split at hc
 ·cases hc
 ·rename_i o ho
  simp only [nA] at hc
  obtain ⟨c1,c2,c3,c4,c5,c6⟩:=hc
  refine ⟨o,ho,c1,?_,?_,?_,?_,?_,?_⟩
  ·split at c2
   ·rename_i h1 h2;exact .inl ⟨h1,h2⟩
   ·rename_i p d h1 h2
    simp only [nA,nJ] at c2
    have:=nB c2.1
    exact .inr ⟨p,d,h1,h2,by rw [this];rfl,c2.2⟩
   ·cases c2
  ·split at c3
   ·rename_i h1 h2;exact .inl ⟨h1,h2⟩
   ·rename_i p b j b' h1 h2
    simp only [nA,beq_iff_eq] at c3
    obtain ⟨rfl,c3⟩:=c3
    split at c3
    ·rename_i d hd
     have:=nB c3
     exact .inr ⟨p,b,j,d,h1,h2,hd,by rw [this];rfl⟩
    ·cases c3
   ·cases c3
  ·intro hk;rw [hk] at c4;exact nB c4
  ·intro hk;rw [hk] at c4
   simp only [nU] at c4
   exact c4.imp nB nB
  ·intro hk;rw [hk] at c5
   simpa using c5
  ·intro hk;rw [hk] at c6
   simp at c6
theorem wIC {N:Nat} {l:List Oper} {a:AO} {o:Oper} {μ:Mu} {σA:Tr AV} {σ:Env} (A:AOK P N l a o) (hE:EnvR μ σA σ):wanted l σ o=wCg σA a.grd:=by
 unfold wanted
 rcases A.grd with ⟨h1,h2⟩ | ⟨p,b,j,d,h1,h2,h3,h4⟩
 ·rw [h1,h2];rfl
 ·rw [h1,h2]
  simp only [h3]
  show _=isB b (evA σA (.t p))
  have g:=hE p
  rw [<- h4] at g
  unfold isB
  cases hv:evA σA (.t p) <;> rw [hv] at g <;> simp only [Rv] at g <;>
   first | (rw [g];done) | (obtain ⟨_,_,_,_,_,g⟩:=g;rw [g];done) | (obtain ⟨_,_,_,_,g⟩:=g;rw [g];done) | (obtain ⟨_,_,_,g⟩:=g;rw [g];done) | (obtain ⟨_,_,g⟩:=g;rw [g];done) | (obtain ⟨_,g⟩:=g;rw [g];done) | rw [g]
theorem wEB {N:Nat} {l:List Oper} {a:AO} {o:Oper} {μ:Mu} {σA:Tr AV} {σ:Env} {v:AV} {cv:Value} (A:AOK P N l a o) (hE:EnvR μ σA σ) (hv:Rv μ v cv):EnvR μ (wGE a.dst σA v) (put' σ o cv):=by
 rcases A.dst with ⟨h1,h2⟩ | ⟨p,d,h1,h2,h3,_⟩
 ·rw [h1];unfold put';rw [h2];exact hE
 ·rw [h1];unfold put';rw [h2];subst h3;exact hE.put hv
theorem wHi {N:Nat} {l:List Oper} {a:AO} {o:Oper} (A:AOK P N l a o):∀ d,o.dst=some d->d < N:=by
 intro d hd
 rcases A.dst with ⟨_,h2⟩ | ⟨p,d',_,h2,_,h4⟩
 ·rw [h2] at hd;cases hd
 ·rw [h2] at hd;cases hd;exact h4
theorem wSi (HC:wGB C P tb ex) (HY:wFD C P exY) {N:Nat} {l:List Oper} {a:AO} {o:Oper} {μ:Mu} {σA:Tr AV} {σ:Env} {h h':AH} {v:AV} {w:World} (A:AOK P N l a o) (hw:wanted l σ o=true) (hr:opY a.op tb ex exY σA h=some (v,h')) (hE:EnvR μ σA σ) (S:Sim C P μ h w) :
  Step1 P l o σ w fun cv w'=>∃ μ',Ext μ h.fl.nat w μ' w'/\Sim C P μ' h' w'/\EnvR μ' (wGE a.dst σA v) (put' σ o cv)/\h'.fl=h.fl:=by
 have hop:=A.op
 by_cases k4:kdA a.op=4
 ·obtain ⟨μ',w',h1,h2,rfl,h4,h5⟩:=wSh (C:=C) k4 hop σA h v h' hr μ σ w hE S o rfl
  exact .inl ⟨hw,.inl ⟨A.un k4,w',h5,μ',h1,h2,wEB A (hE.mono h1.mono) (wNE μ'),h4⟩⟩
 ·by_cases k5:kdA a.op=5
  ·cases hq:a.op <;> rw [hq] at k5 <;> first | (simp [kdA] at k5;done) | skip
   rename_i x args
   rw [hq] at hop hr
   have hop:wNc x args o.op=true:=hop
   unfold wNc at hop
   split at hop <;> first | (cases hop;done) | skip
   rename_i c hoc
   obtain ⟨ce,cargs,tys⟩:=c
   simp only at hop
   split at hop <;> first | (cases hop;done) | skip
   rename_i f
   simp only [nA] at hop
   have hx:=wAI hop.1 hE
   have ha:=wGL hop.2 hE
   have hr:wFz x args tb ex exY σA h=some (v,h'):=hr
   unfold wFz at hr
   split at hr
   ·rename_i g fi ca hg
    rw [hg] at hx
    obtain ⟨fv,cv,g1,g2,g3⟩:=hx
    obtain ⟨hcall,hgv⟩:=HC _ _ _ _ _ hr
    have G:=hgv μ w _ S (wDr g1 (wDr ha g2))
    refine .inl ⟨hw,.inr (.inr (.inl ⟨_,_,_,Enters.mk (l:=cargs.toList) hoc g3 hcall rfl (by rw [ny]),G,?_⟩))⟩
    rintro cv' w' ⟨μ',h1,h2,h3,h4⟩
    exact ⟨μ',h1,h2,wEB A (hE.mono h1.mono) h3,h4⟩
   ·rename_i b hb
    rw [hb] at hx
    obtain ⟨c,g1,g2⟩:=hx
    have hy:=HY _ _ _ _ _ hr
    have Y:=hy μ w _ c S ha g1
    have R:=Yd.rounds (σ:=σ) hoc g2 rfl Y
    refine .inl ⟨hw,.inr (.inr (.inr (R.mono ?_)))⟩
    rintro cv w' ⟨t,rfl,μ',h1,h2,rfl,h4⟩
    exact ⟨μ',h1,h2,wEB A (hE.mono h1.mono) rfl,h4⟩
   ·cases hr
  ·have hk:kdA a.op=0 \/ kdA a.op=1 \/ kdA a.op=3:=by
    cases hq:a.op <;> rw [hq] at k4 k5 <;> simp [kdA] at k4 k5 ⊢
   obtain ⟨μ',w',cv,h1,h2,h3,h4,h5⟩:=wSg (C:=C) hk hop σA h v h' hr μ σ w hE S o rfl
   exact .inl ⟨hw,.inr (.inl ⟨cv,w',h5,μ',h1,h2,wEB A (hE.mono h1.mono) h3,h4⟩)⟩
theorem wSj (HC:wGB C P tb ex) (HY:wFD C P exY) {N:Nat} {l:List Oper} {a:AO} {o:Oper} {μ:Mu} {σA:Tr AV} {σ:Env} {h h':AH} {v:AV} {w:World} (A:AOK P N l a o) (hw:wanted l σ o=true) (hr:opK a.kd a.op tb ex exY σA h=some (v,h')) (hE:EnvR μ σA σ) (S:Sim C P μ h w) :
  Step1 P l o σ w fun cv w'=>(a.kd=2->Keep w w' Non)/\∃ μ',Ext μ h.fl.nat w μ' w'/\Sim C P μ' h' w'/\EnvR μ' (wGE a.dst σA v) (put' σ o cv)/\h'.fl=h.fl:=by
 by_cases k2:a.kd=2
 ·have hr:wQA a.op tb ex exY σA h=some (v,h'):=by rw [k2] at hr;exact hr
  unfold wQA at hr
  split at hr
  ·rename_i v0 h0 hq
   cases hr
   refine (wSi HC HY A hw hq hE (S.floor h.nx)).mono ?_
   rintro cv w' ⟨μ',h1,h2,h3,h4⟩
   obtain ⟨g1,g2⟩:=S.non h1 h.fl.nat
   exact ⟨fun _=>g1,μ',g2,h2.floor h.fl,h3,rfl⟩
  ·cases hr
 ·have hr:opY a.op tb ex exY σA h=some (v,h'):=by
   have hb:nD a.kd 2=false:=by
    cases hb:nD a.kd 2 with
    | false=>rfl
    | true=>exact absurd (nB hb) k2
   have:opK a.kd a.op=opY a.op:=by unfold opK;rw [hb]
   rw [this] at hr;exact hr
  exact (wSi HC HY A hw hr hE S).mono fun cv w' hq=>⟨fun e=>absurd e k2,hq⟩
def flK (k:Nat):Bool:=nD k 1 || nD k 3
def wJE:List AO->Sch
 | []=>.nil
 | a :: os=>match flK a.kd with
  | true=>.fl a.ix (wJE os)
  | false=>.fx a.ix (wJE os) .stop
theorem wJF (HC:wGB C P tb ex) (HY:wFD C P exY) {N:Nat} {l:List Oper} {ks:List Nat} {Q:wDC} {D:List Deferred}:∀ (os:List AO) (σA:Tr AV) (h:AH) (σA':Tr AV) (h':AH),wAc tb ex exY os σA h=some (σA',h') ->
  (∀ a ∈ os,wGt P N l a=true/\kOf ks a.ix=a.kd)->∀ (μ:Mu) (σ:Env) (w:World),Sim C P μ h w->EnvR μ σA σ ->
  (∀ μ' w' σ',Ext μ h.fl.nat w μ' w'->Sim C P μ' h' w'->EnvR μ' σA' σ'->h'.fl=h.fl->Q D .normal σ' w')->OKS N P l Q D ks (wJE os) σ w
 | [],σA,h,σA',h',hr,_,μ,σ,w,S,hE,hQ=>by
  rw [wAy] at hr;cases hr
  exact hQ μ w σ (Ext.refl μ _ w) S hE rfl
 | a :: os,σA,h,σA',h',hr,hc,μ,σ,w,S,hE,hQ=>by
  obtain ⟨hc1,hk⟩:=hc a (by simp)
  obtain ⟨o,A⟩:=wCx hc1
  have hc2:∀ b ∈ os,wGt P N l b=true/\kOf ks b.ix=b.kd:=fun b hb=>hc b (by simp [hb])
  rw [wBA] at hr
  have hw:=wIC A hE
  cases hwa:wCg σA a.grd with
  | false =>
   rw [hwa] at hr hw
   simp only at hr
   have IH:=wJF HC HY os _ h σA' h' hr hc2 μ (put' σ o undef) w S (wEB A hE (wNE μ)) hQ
   unfold wJE
   split
   ·exact ⟨o,A.get,wHi A,.inr ⟨hw,IH⟩⟩
   ·exact ⟨⟨o,A.get,wHi A,.inr ⟨hw,KeepD.refl l ks _ w,IH⟩⟩,trivial⟩
  | true =>
   rw [hwa] at hr hw
   simp only at hr
   split at hr
   ·rename_i r hop
    obtain ⟨v,h1⟩:=r
    simp only at hr
    unfold wJE
    split
    ·rename_i hfl
     have hk13:a.kd=1 \/ a.kd=3:=by
      unfold flK at hfl
      simp only [nU] at hfl
      exact hfl.imp nB nB
     have hop:opY a.op tb ex exY σA h=some (v,h1):=by
      rcases hk13 with e | e <;> (rw [e] at hop;exact hop)
     have hL:kdA a.op=1 \/ kdA a.op=3:=by
      rcases hk13 with e | e
      ·exact A.k1 e
      ·exact .inr (A.k3 e)
     obtain ⟨rfl,hh⟩:=wHh (C:=C) hL A.op σA h v h1 hop
     obtain ⟨cv,g1,g2⟩:=hh μ σ w hE S
     refine ⟨o,A.get,wHi A,.inl ⟨hw,?_⟩⟩
     by_cases k3:a.kd=3
     ·obtain ⟨_,hp⟩:=wHg (tb:=tb) (ex:=ex) (exY:=exY) (A.k3 k3) A.op σA h1 v h1 hop
      obtain ⟨cv,g1,g2⟩:=hp μ σ hE
      exact ⟨cv,fun w' _=>g2 o w' rfl,⟨fun _ w'=>g2 o w' rfl,fun _ w' _=>g2 o w' rfl⟩,wJF HC HY os _ h1 σA' h' hr hc2 μ _ w S (wEB A hE g1) hQ⟩
     ·exact ⟨cv,g2 o rfl,⟨fun e=>absurd (hk ▸ e) k3,fun e=>by rw [hk] at e;rcases hk13 with q | q <;> omega⟩,wJF HC HY os _ h1 σA' h' hr hc2 μ _ w S (wEB A hE g1) hQ⟩
    ·refine ⟨⟨o,A.get,wHi A,(wSj HC HY A hw hop hE S).mono ?_⟩,trivial⟩
     rintro cv w1 ⟨q0,μ1,q1,q2,q3,q4⟩
     refine ⟨⟨fun e=>q0 (hk ▸ e),fun e=>absurd (hk ▸ e) A.k5⟩,wJF HC HY os _ h1 σA' h' hr hc2 μ1 _ w1 q2 q3 fun μ' w' σ' r1 r2 r3 r4=>?_⟩
     rw [q4] at r1 r4
     exact hQ μ' w' σ' (q1.trans r1) r2 r3 r4
   ·cases hr
end
end
end Go.KX
namespace Go.KX
open Go.RowKit Go.KL
section
variable {C:Chk} {P:Program} {tb:Tr AF} {ex exY:Run}
def OkA (C:Chk) (P:Program) (op:Op) (f:Tr AV->AH->Option (AV × AH)):Prop :=
 ∀ σA h v h',f σA h=some (v,h')->∃ (B:AB) (vf:Pos->AV),h'=h.push B/\v=vf h.nx/\(∀ h2:AH,f σA h2=some (vf h2.nx,h2.push B))/\wLk B/\∀ μ σ,EnvR μ σA σ->∀ o:Oper,o.op=op ->
  ∃ (ob:Obj) (val:Nat->Value),(∀ w:World,Runs P σ w o (val w.heap.size) (w.alloc ob)) /\
   (∀ μ' (w:World) b,μ.Le μ'->w.heap[b]?=some ob->AbR C P μ' w ⟨b,0,g0⟩ B)/\∀ μ' p b,μ' p=some ⟨b,0,g0⟩->Rv μ' (vf p) (val b)
theorem wLp {α:Type} {b:Bool} {x:Option α} (h:b=true):ifO b x=x:=by subst h;rfl
theorem a_new {T:Nat} {z:List AV} {op:Op} (hc:wNU P T z op=true):OkA C P op (wQc T z):=by
 intro σA h v h' hr
 cases hr
 unfold wNU at hc
 split at hc
 ·simp only [nA] at hc
  have e:=nB hc.1
  subst e
  obtain ⟨i,zv,z1,z2,z3⟩:=wFA hc.2
  refine ⟨.cells T z,fun p=>.ptr p 0,rfl,rfl,fun h2=>rfl,trivial,fun μ σ hE o ho=>?_⟩
  refine ⟨_,fun b=>.pointer (some ⟨b,0,none⟩),fun w=>⟨by rw [ho];rfl,?_⟩,fun μ' w b hm hb=>⟨_,z3 μ',hb⟩,fun μ' p b hp=>⟨_,hp,rfl⟩⟩
  simp [execOp,ho,Instr.alloc,wDX z1 z2,newVar,newRow,newObj,Sem.run]
 ·cases hc
theorem a_box {T:Nat} {x:AOd} {op:Op} (hc:wNV T x op=true):OkA C P op (wLd T x):=by
 intro σA h v h' hr
 cases hr
 unfold wNV at hc
 split at hc
 ·simp only [nA] at hc
  have e:=nB hc.1
  subst e
  refine ⟨.cells T _,fun p=>.ptr p 0,rfl,rfl,fun h2=>rfl,trivial,fun μ σ hE o ho=>?_⟩
  obtain ⟨vs,v1,v2⟩:=wGK (wAI hc.2 hE)
  refine ⟨.cells vs.toArray T,fun b=>.pointer (some ⟨b,0,none⟩),fun w=>⟨by rw [ho];rfl,?_⟩,fun μ' w b hm hb=>⟨vs,v1.mono hm,hb⟩,fun μ' p b hp=>⟨_,hp,rfl⟩⟩
  simp [execOp,ho,Instr.box,newVar,newRow,newObj,v2,Sem.run]
 ·cases hc
theorem a_mkm {op:Op} (hc:wNW op=true):OkA C P op wQd:=by
 intro σA h v h' hr
 cases hr
 unfold wNW at hc
 split at hc
 ·refine ⟨.map0,fun p=>.map p,rfl,rfl,fun h2=>rfl,trivial,fun μ σ hE o ho=>?_⟩
  refine ⟨.map #[] 0,fun b=>.map (some b),fun w=>⟨by rw [ho];rfl,?_⟩,fun μ' w b hm hb=>⟨0,hb⟩,fun μ' p b hp=>⟨_,hp,rfl⟩⟩
  simp [execOp,ho,Instr.makeMap,newObj,Sem.run,Result.andThen]
 ·cases hc
theorem a_mks {T sz by_:Nat} {z:List AV} {x y:AOd} {op:Op} (hc:wNX P T sz by_ z x y op=true):OkA C P op (wGe T sz by_ z x y):=by
 intro σA h v h' hr
 unfold wNX at hc
 split at hc
 ·rename_i t x' y'
  simp only [nA] at hc
  obtain ⟨c1,c2,c3,c4,c5,c6,c7⟩:=hc
  obtain ⟨d,d1,d2⟩:=wAi c1
  split at d2 <;> first | (cases d2;done) | skip
  have e:=nB d2
  subst e
  rename_i e
  obtain ⟨i,i1,i2⟩:=wGM c2
  obtain ⟨i',j1,j2⟩:=wGN c3
  obtain ⟨i'',zv,k1,k2,k3⟩:=wFA c4
  rw [i1] at j1 k1;cases j1;cases k1
  have hz:=nB c5
  unfold wGe at hr
  split at hr
  ·rename_i l c hl hcc
   obtain ⟨hb,hr⟩:=wBd hr
   cases hr
   simp only [nA,nT] at hb
   obtain ⟨⟨⟨b1,b2⟩,b3⟩,b4⟩:=hb
   refine ⟨.cells e (rep c z),fun p=>.sl p 0 l c,rfl,rfl,fun h2=>(by simp only [wGe,hl,hcc];exact wLp (by simp [b1,b2,b3,b4])),trivial,fun μ σ hE o ho=>?_⟩
   have hx:=wAI c6 hE;rw [wCA hl] at hx
   have hy:=wAI c7 hE;rw [wCA hcc] at hy
   have hx:ev σ x'=.int .i64 (l:Int):=hx
   have hy:ev σ y'=.int .i64 (c:Int):=hy
   have zlen:zv.cells.size=sz:=by rw [<- hz,wEP,<- wCo (k3 μ)];simp
   have hcells:(madeCells zv.cells (c * sz))=((nL c zv.cells.toList).flatten).toArray:=by
    apply nN
    have:=wFC (zc:=zv.cells) (n:=0) c
    simp only [or_false] at this
    rw [zlen] at this
    show ((nt (c * sz)).map (zv.cells[· % zv.cells.size]!)).toList=_
    rw [zlen,this]
   refine ⟨.cells ((nL c zv.cells.toList).flatten).toArray e,fun b=>.slice (some ⟨b,0,none⟩) l c,fun w=>⟨by rw [ho];rfl,?_⟩,fun μ' w b hm hb=>⟨_,wGl (k3 μ') c,hb⟩,fun μ' p b hp=>⟨_,hp,b1,rfl⟩⟩
   have hrun:=run_makeSlice (P:=P) w t e i zv d1 i1 k2 .i64 .i64 (l:Int) (c:Int) (by omega) (by omega) (by rw [i2,nw];exact b2) (by rw [j2];have hb:=Int.ofNat_le.2 b3;rw [kW] at hb;exact hb) (by omega)
   simp only [nw,i2] at hrun
   rw [hcells] at hrun
   simp [execOp,ho,hx,hy,hrun,Result.andThen]
  ·cases hr
 ·cases hc
theorem wSk {T n:Nat} {z:List AV} {ps:List (Nat × Nat × AOd)} {op:Op} (hc:wJC P T n z ps op=true):OkA C P op (wEN T n z ps):=by
 intro σA h v h' hr
 unfold wJC at hc
 split at hc
 ·rename_i t m qs
  simp only [nA] at hc
  obtain ⟨c1,c2,c3⟩:=hc
  have e:=nB c1
  subst e
  obtain ⟨d,d1,d2⟩:=wAi c2
  split at d2 <;> first | (cases d2;done) | skip
  have e:=nB d2
  subst e
  rename_i e
  split at c3
  ·rename_i i hi
   simp only [nA,nT] at c3
   obtain ⟨c3,c4,c5⟩:=c3
   split at c5
   ·rename_i zv hz
    unfold wEN at hr
    split at hr
    ·rename_i r hr3
     cases hr
     refine ⟨.cells e r,fun p=>.sl p 0 m m,rfl,rfl,fun h2=>by simp only [wEN,hr3],trivial,fun μ σ hE o ho=>?_⟩
     obtain ⟨R,r1,r2,r3⟩:=wGq hE hr3 c4 (wFo μ c5)
     have hf:=wDM _ _ _ _ r1
     refine ⟨.cells R.toArray e,fun b=>.slice (some ⟨b,0,none⟩) m m,fun w=>⟨by rw [ho];rfl,?_⟩,fun μ' w b hm hb=>⟨_,r2.mono hm,hb⟩,fun μ' p b hp=>⟨_,hp,nG _,rfl⟩⟩
     have hs:∀ w,(sizeOf e).run P w=.ok i.size w:=fun w=>by simp [sizeOf,typeInfo,hi]
     have hn':¬ m * i.size > 2 ^ 24:=by omega
     have hq:(qs.map fun (p:Nat × Operand)=>(p.1,ev σ p.2)).toList=qs.toList.map fun (p:Nat × Operand)=>(p.1,ev σ p.2):=by simp
     by_cases h0:m * i.size=0
     ·rw [h0] at hf
      simp only [List.range_zero,kS] at hf
      have hr0:(nt 0).map (fun x=>(#[]:Array Value)[x % (#[]:Array Value).size]!)=#[]:=by rw [show (nt 0)=#[] from rfl,Array.map_empty]
      have hn0:¬ (0:Nat) > 2 ^ 24:=by decide
      simp only [execOp,ho,Instr.buildSlice,Sem.run_bind,wAs d1,hs,Result.andThen_ok,h0,if_neg hn0,if_true,Sem.run_pure,hq,hr0,hf]
      simp [newRow,newObj,Sem.run,Result.andThen]
     ·have hzs:(nt (m * i.size)).map (zv.cells[· % zv.cells.size]!)=((kG (m * i.size)).map fun k=>zv.cells[k % zv.cells.size]!).toArray:=by rw [<- kr,List.map_toArray]
      simp only [execOp,ho,Instr.buildSlice,Sem.run_bind,wAs d1,hs,wDX hi hz,Result.andThen_ok,if_neg hn',if_neg h0,Sem.run_pure,hq,hzs,hf]
      simp [newRow,newObj,Sem.run,Result.andThen]
    ·cases hr
   ·cases c5
  ·cases c3
 ·cases hc
def wBe:AOp->List AOd
 | .mv x=>[x]
 | .pick c x y=>[c] ++ [x] ++ [y]
 | .new _ _=>[]
 | .box _ x=>[x]
 | .ld x=>[x]
 | .ldA _ x=>[x]
 | .st _ x y=>[x] ++ [y]
 | .nilc x=>[x]
 | .add x y=>[x] ++ [y]
 | .sub x y=>[x] ++ [y]
 | .mul x y=>[x] ++ [y]
 | .quo x y=>[x] ++ [y]
 | .rem x y=>[x] ++ [y]
 | .lss x y=>[x] ++ [y]
 | .leq x y=>[x] ++ [y]
 | .gtr x y=>[x] ++ [y]
 | .geq x y=>[x] ++ [y]
 | .eql x y=>[x] ++ [y]
 | .neq x y=>[x] ++ [y]
 | .eqb _ x y=>[x] ++ [y]
 | .eqn _ _ x y=>[x] ++ [y]
 | .eqs _ _ x y=>[x] ++ [y]
 | .neg x=>[x]
 | .not x=>[x]
 | .cvt _ x=>[x]
 | .mkf _ fi ca=>fi ++ ca
 | .mkm =>[]
 | .mks _ _ _ _ x y=>[x] ++ [y]
 | .slc _ x lo hi mx=>[x] ++ lo.toList ++ hi.toList ++ mx.toList
 | .slcA _ _ x lo hi=>[x] ++ lo.toList ++ hi.toList
 | .fad _ x=>[x]
 | .fld _ x=>[x]
 | .fldA _ _ x=>[x]
 | .iad _ x y=>[x] ++ [y]
 | .iadA _ _ x y=>[x] ++ [y]
 | .ix _ x y=>[x] ++ [y]
 | .ixA _ _ x y=>[x] ++ [y]
 | .lk _ _ _ _ x y=>[x] ++ [y]
 | .mput _ _ x y z=>[x] ++ [y] ++ [z]
 | .mdel _ _ x y=>[x] ++ [y]
 | .ext _ x=>[x]
 | .bld _ ps=>(ps.map fun q=>q.2.2)
 | .blds _ _ _ ps=>(ps.map fun q=>q.2.2)
 | .len x=>[x]
 | .lenM x=>[x]
 | .cap x=>[x]
 | .app _ _ _ x y=>[x] ++ [y]
 | .cpy _ x y=>[x] ++ [y]
 | .clr _ x=>[x]
 | .min x y=>[x] ++ [y]
 | .max x y=>[x] ++ [y]
 | .and x y=>[x] ++ [y]
 | .shr x y=>[x] ++ [y]
 | .ixs _ y=>[y]
 | .apz _ _ _ _ x y=>[x] ++ [y]
 | .call x l=>[x] ++ l
 | .bad=>[]
theorem wFX {σ1 σ2:Tr AV}:∀ {l:List AOd},(∀ x ∈ l,evA σ1 x=evA σ2 x)->evs σ1 l=evs σ2 l
 | [],_=>rfl
 | x :: l,h=>by
  show evA σ1 x :: evs σ1 l=evA σ2 x :: evs σ2 l
  rw [h x (by simp),wFX fun y hy=>h y (by simp [hy])]
theorem wFE {σ1 σ2:Tr AV}:∀ {ps:List (Nat × Nat × AOd)} {cs:List AV},(∀ q ∈ ps,evA σ1 q.2.2=evA σ2 q.2.2)->wHu σ1 cs ps=wHu σ2 cs ps
 | [],cs,_=>rfl
 | (off,n,x) :: ps,cs,h=>by
  have e:evA σ1 x=evA σ2 x:=h (off,n,x) (by simp)
  simp only [wHu,e]
  cases nD (len (evA σ2 x).cells) n with
  | false=>rfl
  | true =>
   cases wQa cs off (evA σ2 x).cells with
   | none=>rfl
   | some cs'=>exact wFE fun q hq=>h q (by simp [hq])
theorem wER {σ1 σ2:Tr AV} {o:Option AOd} (h:∀ x ∈ o.toList,evA σ1 x=evA σ2 x):bnd σ1 o=bnd σ2 o:=by
 cases o with
 | none=>rfl
 | some x =>
  have e:=h x (by simp)
  simp only [bnd,e]
theorem wNe {σ1 σ2:Tr AV} (op:AOp) (h:∀ x ∈ wBe op,evA σ1 x=evA σ2 x) (hh:AH):opY op tb ex exY σ1 hh=opY op tb ex exY σ2 hh:=by
 cases op with
 | bld z ps=>exact (show wMp z ps σ1 hh=wMp z ps σ2 hh by simp only [wMp];rw [wFE fun q hq=>h q.2.2 (kR.2 ⟨q,hq,rfl⟩)])
 | blds T n z ps=>exact (show wEN T n z ps σ1 hh=wEN T n z ps σ2 hh by simp only [wEN];rw [wFE fun q hq=>h q.2.2 (kR.2 ⟨q,hq,rfl⟩)])
 | mkf f fi ca=>exact (show wLe f fi ca σ1 hh=wLe f fi ca σ2 hh by simp only [wLe];rw [wFX fun x hx=>h x (nZ _ hx),wFX fun x hx=>h x (nW _ hx)])
 | call x l=>exact (show wFz x l tb ex exY σ1 hh=wFz x l tb ex exY σ2 hh by simp only [wFz];rw [h x (nZ _ (by simp)),wFX fun y hy=>h y (nW _ hy)])
 | slc sz x lo hi mx=>exact (show wJp sz x lo hi mx σ1 hh=wJp sz x lo hi mx σ2 hh by
   simp only [wJp]
   rw [h x (by simp [wBe]),wER fun y hy=>h y (by simp only [wBe,nP];exact .inl (.inl (.inr hy))),wER fun y hy=>h y (by simp only [wBe,nP];exact .inl (.inr hy)),wER fun y hy=>h y (by simp only [wBe,nP];exact .inr hy)])
 | slcA sz n x lo hi=>exact (show wGf sz n x lo hi σ1 hh=wGf sz n x lo hi σ2 hh by
   simp only [wGf]
   rw [h x (by simp [wBe]),wER fun y hy=>h y (by simp only [wBe,nP];exact .inl (.inr hy)),wER fun y hy=>h y (by simp only [wBe,nP];exact .inr hy)])
 | mv a_x=>exact (show wRv a_x σ1 hh=wRv a_x σ2 hh by simp only [wRv,h a_x (by simp [wBe])])
 | pick a_c a_x a_y=>exact (show wGc a_c a_x a_y σ1 hh=wGc a_c a_x a_y σ2 hh by simp only [wGc,h a_c (by simp [wBe]),h a_x (by simp [wBe]),h a_y (by simp [wBe])])
 | new a_T a_z=>rfl
 | box a_T a_x=>exact (show wLd a_T a_x σ1 hh=wLd a_T a_x σ2 hh by simp only [wLd,h a_x (by simp [wBe])])
 | ld a_x=>exact (show wOr a_x σ1 hh=wOr a_x σ2 hh by simp only [wOr,h a_x (by simp [wBe])])
 | ldA a_n a_x=>exact (show wHP a_n a_x σ1 hh=wHP a_n a_x σ2 hh by simp only [wHP,h a_x (by simp [wBe])])
 | st a_n a_x a_y=>exact (show wPz a_n a_x a_y σ1 hh=wPz a_n a_x a_y σ2 hh by simp only [wPz,h a_x (by simp [wBe]),h a_y (by simp [wBe])])
 | nilc a_x=>exact (show wGd a_x σ1 hh=wGd a_x σ2 hh by simp only [wGd,h a_x (by simp [wBe])])
 | add a_x a_y=>exact (show wMd a_x a_y σ1 hh=wMd a_x a_y σ2 hh by simp only [wMd,h a_x (by simp [wBe]),h a_y (by simp [wBe])])
 | sub a_x a_y=>exact (show wMe a_x a_y σ1 hh=wMe a_x a_y σ2 hh by simp only [wMe,h a_x (by simp [wBe]),h a_y (by simp [wBe])])
 | mul a_x a_y=>exact (show wMf a_x a_y σ1 hh=wMf a_x a_y σ2 hh by simp only [wMf,h a_x (by simp [wBe]),h a_y (by simp [wBe])])
 | quo a_x a_y=>exact (show wMg a_x a_y σ1 hh=wMg a_x a_y σ2 hh by simp only [wMg,h a_x (by simp [wBe]),h a_y (by simp [wBe])])
 | rem a_x a_y=>exact (show wMh a_x a_y σ1 hh=wMh a_x a_y σ2 hh by simp only [wMh,h a_x (by simp [wBe]),h a_y (by simp [wBe])])
 | lss a_x a_y=>exact (show wMi a_x a_y σ1 hh=wMi a_x a_y σ2 hh by simp only [wMi,h a_x (by simp [wBe]),h a_y (by simp [wBe])])
 | leq a_x a_y=>exact (show wMj a_x a_y σ1 hh=wMj a_x a_y σ2 hh by simp only [wMj,h a_x (by simp [wBe]),h a_y (by simp [wBe])])
 | gtr a_x a_y=>exact (show wMk a_x a_y σ1 hh=wMk a_x a_y σ2 hh by simp only [wMk,h a_x (by simp [wBe]),h a_y (by simp [wBe])])
 | geq a_x a_y=>exact (show wMl a_x a_y σ1 hh=wMl a_x a_y σ2 hh by simp only [wMl,h a_x (by simp [wBe]),h a_y (by simp [wBe])])
 | eql a_x a_y=>exact (show wMm a_x a_y σ1 hh=wMm a_x a_y σ2 hh by simp only [wMm,h a_x (by simp [wBe]),h a_y (by simp [wBe])])
 | neq a_x a_y=>exact (show wMn a_x a_y σ1 hh=wMn a_x a_y σ2 hh by simp only [wMn,h a_x (by simp [wBe]),h a_y (by simp [wBe])])
 | eqb a_ne a_x a_y=>exact (show wJk a_ne a_x a_y σ1 hh=wJk a_ne a_x a_y σ2 hh by simp only [wJk,h a_x (by simp [wBe]),h a_y (by simp [wBe])])
 | eqn a_k a_ne a_x a_y=>exact (show wJl a_k a_ne a_x a_y σ1 hh=wJl a_k a_ne a_x a_y σ2 hh by simp only [wJl,h a_x (by simp [wBe]),h a_y (by simp [wBe])])
 | eqs a_ne a_s a_x a_y=>exact (show wJm a_ne a_s a_x a_y σ1 hh=wJm a_ne a_s a_x a_y σ2 hh by simp only [wJm,h a_x (by simp [wBe]),h a_y (by simp [wBe])])
 | neg a_x=>exact (show wMo a_x σ1 hh=wMo a_x σ2 hh by simp only [wMo,h a_x (by simp [wBe])])
 | not a_x=>exact (show wJn a_x σ1 hh=wJn a_x σ2 hh by simp only [wJn,h a_x (by simp [wBe])])
 | cvt a_k a_x=>exact (show wJo a_k a_x σ1 hh=wJo a_k a_x σ2 hh by simp only [wJo,h a_x (by simp [wBe])])
 | mkm =>rfl
 | mks a_T a_sz a_bytes a_z a_x a_y=>exact (show wGe a_T a_sz a_bytes a_z a_x a_y σ1 hh=wGe a_T a_sz a_bytes a_z a_x a_y σ2 hh by simp only [wGe,h a_x (by simp [wBe]),h a_y (by simp [wBe])])
 | fad a_off a_x=>exact (show wJq a_off a_x σ1 hh=wJq a_off a_x σ2 hh by simp only [wJq,h a_x (by simp [wBe])])
 | fld a_off a_x=>exact (show wJr a_off a_x σ1 hh=wJr a_off a_x σ2 hh by simp only [wJr,h a_x (by simp [wBe])])
 | fldA a_off a_n a_x=>exact (show wGg a_off a_n a_x σ1 hh=wGg a_off a_n a_x σ2 hh by simp only [wGg,h a_x (by simp [wBe])])
 | iad a_sz a_x a_y=>exact (show wJs a_sz a_x a_y σ1 hh=wJs a_sz a_x a_y σ2 hh by simp only [wJs,h a_x (by simp [wBe]),h a_y (by simp [wBe])])
 | iadA a_sz a_n a_x a_y=>exact (show wGh a_sz a_n a_x a_y σ1 hh=wGh a_sz a_n a_x a_y σ2 hh by simp only [wGh,h a_x (by simp [wBe]),h a_y (by simp [wBe])])
 | ix a_n a_x a_y=>exact (show wQe a_n a_x a_y σ1 hh=wQe a_n a_x a_y σ2 hh by simp only [wQe,h a_x (by simp [wBe]),h a_y (by simp [wBe])])
 | ixA a_sz a_n a_x a_y=>exact (show wJt a_sz a_n a_x a_y σ1 hh=wJt a_sz a_n a_x a_y σ2 hh by simp only [wJt,h a_x (by simp [wBe]),h a_y (by simp [wBe])])
 | lk a_two a_k a_ok a_z a_x a_y=>exact (show wOs a_two a_k a_ok a_z a_x a_y σ1 hh=wOs a_two a_k a_ok a_z a_x a_y σ2 hh by simp only [wOs,h a_x (by simp [wBe]),h a_y (by simp [wBe])])
 | mput a_two a_k a_x a_y a_z=>exact (show wFx a_two a_k a_x a_y a_z σ1 hh=wFx a_two a_k a_x a_y a_z σ2 hh by simp only [wFx,h a_x (by simp [wBe]),h a_y (by simp [wBe]),h a_z (by simp [wBe])])
 | mdel a_two a_k a_x a_y=>exact (show wFy a_two a_k a_x a_y σ1 hh=wFy a_two a_k a_x a_y σ2 hh by simp only [wFy,h a_x (by simp [wBe]),h a_y (by simp [wBe])])
 | ext a_i a_x=>exact (show wJu a_i a_x σ1 hh=wJu a_i a_x σ2 hh by simp only [wJu,h a_x (by simp [wBe])])
 | len a_x=>exact (show wJv a_x σ1 hh=wJv a_x σ2 hh by simp only [wJv,h a_x (by simp [wBe])])
 | lenM a_x=>exact (show wEk a_x σ1 hh=wEk a_x σ2 hh by simp only [wEk,h a_x (by simp [wBe])])
 | cap a_x=>exact (show wJw a_x σ1 hh=wJw a_x σ2 hh by simp only [wJw,h a_x (by simp [wBe])])
 | app a_T a_sz a_bytes a_x a_y=>exact (show wIo a_T a_sz a_bytes a_x a_y σ1 hh=wIo a_T a_sz a_bytes a_x a_y σ2 hh by simp only [wIo,h a_x (by simp [wBe]),h a_y (by simp [wBe])])
 | cpy a_sz a_x a_y=>exact (show wIp a_sz a_x a_y σ1 hh=wIp a_sz a_x a_y σ2 hh by simp only [wIp,h a_x (by simp [wBe]),h a_y (by simp [wBe])])
 | clr a_z a_x=>exact (show wIq a_z a_x σ1 hh=wIq a_z a_x σ2 hh by simp only [wIq,h a_x (by simp [wBe])])
 | min a_x a_y=>exact (show wMq a_x a_y σ1 hh=wMq a_x a_y σ2 hh by simp only [wMq,h a_x (by simp [wBe]),h a_y (by simp [wBe])])
 | max a_x a_y=>exact (show wMr a_x a_y σ1 hh=wMr a_x a_y σ2 hh by simp only [wMr,h a_x (by simp [wBe]),h a_y (by simp [wBe])])
 | bad=>rfl
 | and a_x a_y=>exact (show wMt a_x a_y σ1 hh=wMt a_x a_y σ2 hh by simp only [wMt,h a_x (by simp [wBe]),h a_y (by simp [wBe])])
 | ixs a_l a_y=>exact (show wJx a_l a_y σ1 hh=wJx a_l a_y σ2 hh by simp only [wJx,h a_y (by simp [wBe])])
 | apz a_T a_sz a_b a_z a_x a_y=>exact (show wIt a_T a_sz a_b a_z a_x a_y σ1 hh=wIt a_T a_sz a_b a_z a_x a_y σ2 hh by simp only [wIt,h a_x (by simp [wBe]),h a_y (by simp [wBe])])
 | shr a_x a_y=>exact (show wMu a_x a_y σ1 hh=wMu a_x a_y σ2 hh by simp only [wMu,h a_x (by simp [wBe]),h a_y (by simp [wBe])])
variable {r:Option Nat} {N:Nat} {Q:wDC} {D:List Deferred} {l:List Oper}
theorem CK.anyRel {id:Nat} {σ:Env} {w:World} (hm:P.follows .mixedOrders=true) (hpr:∀ i,i < l.length->∀ j ∈ prI l i,j < i) (J:(Nat->Bool)->Env->World->Prop)
  (h0:J (fun _=>false) σ { w with drawn:=w.drawn + 1 })
  (step:∀ S i σ w,i < l.length->S i=false->(∀ j ∈ prI l i,S j=true)->(∀ k,k < l.length->S k=true->∀ j ∈ prI l k,S j=true)->(∀ k,S k=true->k < l.length)->J S σ w ->
   ∃ o,l[i]?=some o/\(∀ d,o.dst=some d->d < N)/\Step1 P l o σ w fun v w'=>J (fun k=>k == i || S k) (put' σ o v) w')
  (fin:∀ S σ w,(∀ i,i < l.length->S i=true)->J S σ w->Q D .normal σ w):CK r N P (.region id l.toArray true) Q D σ w:=by
 intro a ha
 refine wpIn_region_any hm ?_
 have prog:∀ (listed:Array Bool),listed.size=l.length->Region.ready .any l.toArray listed=[]->∀ i,i < l.length->listed.getD i false=true:=by
  intro listed hsz hnil i
  induction i using Nat.strongRecOn with
  | _ i ih =>
   intro hi
   cases hb:listed.getD i false with
   | true=>rfl
   | false =>
    have:i ∈ Region.ready .any l.toArray listed:=(wDG hsz).2 ⟨hi,hb,fun j hj=>ih j (hpr i hi j hj) (Nat.lt_trans (hpr i hi j hj) hi)⟩
    rw [hnil] at this;cases this
 have core:∀ (fuel:Nat) (listed:Array Bool) (σ:Env) (a:Act) (w:World),listed.size=l.length->Rep N D a σ->(∀ k,k < l.length->listed.getD k false=true->∀ j ∈ prI l k,listed.getD j false=true) ->
   J (fun i=>listed.getD i false) σ w->(listed.toList.filter (! ·)).length <= fuel->wpAnyIn (WF r) 0 P .any l.toArray (wHM N Q) fuel listed a w:=by
  intro fuel
  induction fuel with
  | zero =>
   intro listed σ a w hsz hr hdc hJ hf
   have hall:∀ i,i < l.length->listed.getD i false=true:=by
    intro i hi
    cases hb:listed.getD i false with
    | true=>rfl
    | false=>have:=wFR listed i (by omega) hb;omega
   refine ⟨?_,σ,D,hr,fin _ σ w hall hJ⟩
   cases hr:Region.ready .any l.toArray listed with
   | nil=>rfl
   | cons x xs =>
    have hx:x ∈ Region.ready .any l.toArray listed:=by rw [hr];simp
    obtain ⟨h1,h2,_⟩:=(wDG hsz).1 hx
    rw [hall x h1] at h2;cases h2
  | succ fuel ih =>
   intro listed σ a w hsz hr hdc hJ hf
   refine ⟨fun hnil=>⟨σ,D,hr,fin _ σ w (prog listed hsz hnil) hJ⟩,fun i hi=>?_⟩
   obtain ⟨hlt,hun,hpi⟩:=(wDG hsz).1 hi
   have hsz':(listed.setIfInBounds i true).size=l.length:=by simpa using hsz
   have hf':((listed.setIfInBounds i true).toList.filter (! ·)).length <= fuel:=by have:=wFR listed i (by omega) hun;omega
   have hS:∀ k,listed.getD k false=true->k < l.length:=by
    intro k hk
    rcases kD k l.length with h | h
    ·exact h
    ·rw [nz,Array.getElem?_eq_none (by omega)] at hk;cases hk
   obtain ⟨o,ho,hN,hst⟩:=step _ i σ w hlt hun hpi hdc hS hJ
   refine wGV ho hr hN hst ?_
   intro v w' a' hr' hJ'
   refine ih _ (KL.put' σ o v) a' w' hsz' hr' ?_ ?_ hf'
   ·intro k hk hkl j hj
    rw [wFQ (by omega)] at hkl ⊢
    rcases hkl with rfl | hkl
    ·exact .inr (hpi j hj)
    ·exact .inr (hdc k hk hkl j hj)
   ·have e:(fun k=>(listed.setIfInBounds i true).getD k false)=fun k=>k == i || listed.getD k false:=by
     funext k
     rw [Bool.eq_iff_iff,wFQ (by omega),nU,beq_iff_eq]
    rw [e]
    exact hJ'
 have rep:∀ k,(kZ l.toArray.size false).getD k false=false:=by
  intro k
  rw [nz,kU]
  split <;> rfl
 refine core l.toArray.size (kZ l.toArray.size false) σ a _ (by simp) ha ?_ ?_ ?_
 ·intro k hk hkl
  rw [rep k] at hkl
  cases hkl
 ·have e:(fun i=>(kZ l.toArray.size false).getD i false)=fun _=>false:=by
   funext i
   rw [nz,kU]
   split <;> rfl
  rw [e]
  exact h0
 ·exact nf (List.length_filter_le _ _) (by simp)
end
end Go.KX
namespace Go.KX
noncomputable section
open Go.RowKit Go.KL
def wCZ:List AOd->List Pos
 | []=>[]
 | .t p :: l=>p :: wCZ l
 | .c _ :: l=>wCZ l
def wMJ:AOp->Bool
 | .new _ _ | .box _ _ | .mkm | .mks _ _ _ _ _ _ | .blds _ _ _ _=>true
 | _=>false
def wCH (a:AO):List Pos:=wCZ (wBe a.op) ++ (match a.grd with | some (p,_)=>[p] | none=>[])
def Sub (a:AOp) (o:Oper):Prop:=∀ t,Operand.tmp t ∈ o.op.operands->∃ p ∈ wCZ (wBe a),p.nat - 1=t
def wKz (l:List Oper) (x i:Nat):Prop:=∀ S:Nat->Bool,(∀ k,k < l.length->S k=true->∀ j ∈ prI l k,S j=true)->(∀ j ∈ prI l i,S j=true)->S x=true
def wGu (acc:List Nat):List Nat->Nat
 | []=>0
 | p :: ps=>wGu acc ps ||| (2 ^ p ||| acc.getD p 0)
def wQI (acc:List Nat):List Oper->List Nat
 | []=>acc
 | o :: r=>wQI (acc ++ [wGu acc (wLW o)]) r
theorem wHj {acc:List Nat} {x:Nat}:∀ {ps:List Nat},(wGu acc ps).testBit x=true->∃ p ∈ ps,x=p \/ (acc.getD p 0).testBit x=true
 | [],h=>by simp [wGu] at h
 | p :: ps,h=>by
  simp only [wGu,Nat.testBit_or,nU,Nat.testBit_two_pow,decide_eq_true_eq] at h
  rcases h with h | h | h
  ·obtain ⟨q,h1,h2⟩:=wHj h
   exact ⟨q,by simp [h1],h2⟩
  ·exact ⟨p,by simp,.inl h.symm⟩
  ·exact ⟨p,by simp,.inr h⟩
theorem wKI {l:List Oper} (hpr:∀ i,i < l.length->∀ j ∈ prI l i,j < i):∀ (rest done:List Oper) (acc:List Nat),l=done ++ rest->acc.length=done.length->(∀ i x,(acc.getD i 0).testBit x=true->wKz l x i) ->
  ∀ i x,((wQI acc rest).getD i 0).testBit x=true->wKz l x i
 | [],done,acc,_,_,h,i,x,hx=>h i x hx
 | o :: r,done,acc,hl,hlen,h,i,x,hx=>by
  refine wKI hpr r (done ++ [o]) (acc ++ [wGu acc (wLW o)]) (by rw [hl];simp) (by simp [hlen]) ?_ i x hx
  intro i x hx
  rcases Nat.lt_trichotomy i acc.length with hi | hi | hi
  ·rw [nk,nK hi,<- nk] at hx
   exact h i x hx
  ·rw [nk,hi,nM (nG _),Nat.sub_self] at hx
   have hx:(wGu acc (wLW o)).testBit x=true:=hx
   have hlt:done.length < l.length:=by rw [hl];simp
   have hp:prI l done.length=wLW o:=by
    unfold prI
    rw [hl,nM (nG _),Nat.sub_self]
    rfl
   obtain ⟨p,h1,h2⟩:=wHj hx
   intro S hdc hS
   rw [hi,hlen] at hS
   have hSp:S p=true:=hS p (by rw [hp];exact h1)
   rcases h2 with rfl | h2
   ·exact hSp
   ·have:=hpr _ hlt p (by rw [hp];exact h1)
    exact h p x h2 S hdc (hdc p (by omega) hSp)
  ·rw [nk,kE (by simp;omega)] at hx
   simp at hx
def dne (b:AO) (p:Pos):Bool:=match b.dst with
 | none=>true
 | some q=>!Pos.beq q p
def subB (a:AOp) (o:Oper):Bool:=o.op.operands.toList.all fun
 | .tmp t=>(wCZ (wBe a)).any fun p=>nD p.nat (t + 1)
 | _=>true
def kdOK (a:AO):Bool:=wCE a.kd || (a.dst.isSome && (nD a.kd 1 || (nD a.kd 3 || ((nD a.kd 6 && nD (kdA a.op) 3) || ((nD a.kd 4 && wMJ a.op) || (kQ 8 a.kd && nD (kdA a.op) 1))))))
def zld (m kd:Nat):Nat->List AO->Bool
 | _,[]=>true
 | n,b :: d=>(!Nat.beq b.kd 0 || (m.testBit b.ix || nX (n + 8) kd)) && zld m kd (match wCE b.kd with | true=>n + 1 | false=>n) d
def zop (m:Nat) (l:List Oper) (d:List AO) (a:AO) (t:List AO):Bool :=
 (!wCE a.kd || d.all fun b=>m.testBit b.ix) &&
 ((match a.dst with | none=>true | some p=>d.all (fun b=>dne b p) && t.all (fun b=>dne b p)) &&
 ((wCH a).all (fun p=>dne a p && (t.all (fun b=>dne b p) && d.all (fun b=>dne b p || (m.testBit b.ix && (!(nD a.kd 1 || (nD a.kd 3 || kQ 8 a.kd)) || !(nD b.kd 4 || nD b.kd 6)))))) &&
 ((!Nat.beq a.kd 1 || d.all fun b=>!Nat.beq b.kd 0 || m.testBit b.ix) && (!Nat.ble 8 a.kd || zld m a.kd 0 d) &&
 (t.all (fun b=>!Nat.beq b.ix a.ix) &&
 (kdOK a && (match l[a.ix]? with | none=>false | some o=>!wBp o && subB a.op o))))))
def zgo (an:List Nat) (l:List Oper) (d:List AO):List AO->Bool
 | []=>true
 | a :: t=>zop (an.getD a.ix 0) l d a t && zgo an l (a :: d) t
def wRM (a:AO):Bool:=nD a.kd 0 && (match a.op with | .mv _=>true | _=>false)
def wRN:List AO->List AO
 | []=>[]
 | a :: t=>match wRM a with
  | true=>[]
  | false=>a :: wRN t
def wPM:List AO->List AO
 | []=>[]
 | a :: t=>match wRM a with
  | true=>a :: t
  | false=>wPM t
theorem wQJ:∀ os:List AO,os=wRN os ++ wPM os
 | []=>rfl
 | a :: t=>by
  unfold wRN wPM
  cases wRM a with
  | true=>rfl
  | false=>exact congrArg (a :: ·) (wQJ t)
def ztl (an:List Nat) (l:List Oper) (os:List AO):Bool :=
 ((wPM os).all (fun a=>nX a.kd 8) && (wRN os).all fun a=>nX a.kd 8 || ((wCH a).all (fun p=>(wPM os).all fun b=>dne b p) && (match a.dst with | some p=>(wPM os).all fun b=>dne b p | none=>true))) && (zgo an l [] (wRN os) && (zgo an l [] (wPM os) && (wPM os).all fun b=>(wRN os).all fun a=>!Nat.beq a.ix b.ix && (an.getD b.ix 0).testBit a.ix))
def chkZ (l:List Oper) (os:List AO):Bool :=
 (kG l.length).all (fun i=>(prI l i).all (nX · i)) && ((kG l.length).all (fun i=>os.any fun a=>nD a.ix i) && (zgo (wQI [] l) l [] os || ztl (wQI [] l) l os))
def wOv (l:List AO):Nat:=l.countP fun b=>wCE b.kd
structure ZOK (P:Program) (N:Nat) (l:List Oper) (os:List AO):Prop where
 ao:∀ a ∈ os,wGt P N l a=true
 one:os.Pairwise fun a b=>a.ix ≠ b.ix
 pr:∀ i,i < l.length->∀ j ∈ prI l i,j < i
 anc:∀ s a t,os=s ++ a :: t->wCE a.kd=true->∀ b ∈ s,wKz l b.ix a.ix
 wr:∀ s a t,os=s ++ a :: t->∀ p,a.dst=some p->∀ b ∈ s ++ t,b.dst ≠ some p
 rd:∀ s a t,os=s ++ a :: t->∀ p ∈ wCH a,∀ b ∈ a :: t,b.dst ≠ some p
 rdS:∀ a ∈ os,∀ p ∈ wCH a,∀ b ∈ os,b.dst=some p->wKz l b.ix a.ix
 kd:∀ a ∈ os,wCE a.kd=true \/ (a.dst ≠ none/\(a.kd=1 \/ a.kd=3 \/ (a.kd=6/\kdA a.op=3) \/ (a.kd=4/\wMJ a.op=true) \/ (8 <= a.kd/\kdA a.op=1)))
 cl:∀ a ∈ os,a.kd=1 \/ a.kd=3 \/ 8 <= a.kd->∀ p ∈ wCH a,∀ b ∈ os,b.dst=some p->b.kd ≠ 4/\b.kd ≠ 6
 sel:∀ a ∈ os,∀ o,l[a.ix]?=some o->wBp o=false
 sub:∀ a ∈ os,∀ o,l[a.ix]?=some o->Sub a.op o
 ld:∀ s a t,os=s ++ a :: t->a.kd=1->∀ b ∈ s,b.kd=0->wKz l b.ix a.ix
 ld8:∀ s a t,os=s ++ a :: t->8 <= a.kd->∀ s1 b s2,s=s1 ++ b :: s2->b.kd=0->wKz l b.ix a.ix \/ wOv s2 + 8 < a.kd
theorem wQK {m kd:Nat}:∀ (x:List AO) (b:AO) (y:List AO) (n:Nat),zld m kd n (x ++ b :: y)=true->b.kd=0->m.testBit b.ix=true \/ n + wOv x + 8 < kd
 | [],b,y,n,h,h0=>by
  rw [nh,zld,h0] at h
  simp only [nA,nU,nJ] at h
  rcases h.1 with g | g | g
  ·exact absurd g (by decide)
  ·exact .inl g
  ·exact .inr g
 | c :: x,b,y,n,h,h0=>by
  rw [kA,zld] at h
  simp only [nA] at h
  have:=wQK x b y _ h.2 h0
  refine this.imp id fun h=>?_
  unfold wOv at h ⊢
  rw [List.countP_cons]
  cases hf:wCE c.kd <;> rw [hf] at h <;> simp only [if_true,if_false,nY] at h ⊢ <;> omega
theorem Pos.beq_self:∀ p:Pos,p.beq p=true
 | .H=>rfl
 | .O p=>Pos.beq_self p
 | .I p=>Pos.beq_self p
theorem wGv {b:AO} {p:Pos} (h:dne b p=true):b.dst ≠ some p:=by
 intro e
 unfold dne at h
 rw [e] at h
 simp [Pos.beq_self] at h
theorem wQL {an:List Nat} {l:List Oper}:∀ (os d:List AO),zgo an l d os=true->∀ s a t,os=s ++ a :: t->zop (an.getD a.ix 0) l (s.reverse ++ d) a t=true
 | [],d,_,s,a,t,e=>by simp at e
 | b :: os,d,h,[],a,t,e=>by
  simp only [nh,nH] at e
  obtain ⟨rfl,rfl⟩:=e
  simp only [zgo,nA] at h
  exact h.1
 | b :: os,d,h,c :: s,a,t,e=>by
  simp only [kA,nH] at e
  obtain ⟨rfl,rfl⟩:=e
  simp only [zgo,nA] at h
  have:=wQL (s ++ a :: t) (b :: d) h.2 s a t rfl
  simpa using this
theorem wSl {α:Type} {R:α->α->Prop}:∀ (l:List α),(∀ s a t,l=s ++ a :: t->∀ b ∈ t,R a b)->l.Pairwise R
 | [],_=>List.Pairwise.nil
 | a :: l,h=>List.pairwise_cons.2 ⟨fun b hb=>h [] a l rfl b hb,wSl l fun s b t e=>h (a :: s) b t (by rw [e];rfl)⟩
theorem wLA {P:Program} {N:Nat} {l:List Oper} {os:List AO} (hao:∀ a ∈ os,wGt P N l a=true) (hpr:∀ i,i < l.length->∀ j ∈ prI l i,j < i) (hz:zgo (wQI [] l) l [] os=true):ZOK P N l os:=by
 have han:∀ i x,((wQI [] l).getD i 0).testBit x=true->wKz l x i:=wKI hpr l [] [] rfl rfl fun i x h=>by simp at h
 have key:∀ s a t,os=s ++ a :: t->zop ((wQI [] l).getD a.ix 0) l s.reverse a t=true:=fun s a t e=>by
  have:=wQL os [] hz s a t e
  rwa [List.append_nil] at this
 have wLo:∀ s a t,os=s ++ a :: t ->
   (wCE a.kd=true->∀ b ∈ s,wKz l b.ix a.ix)/\(∀ p,a.dst=some p->∀ b ∈ s ++ t,b.dst ≠ some p) /\
   (∀ p ∈ wCH a,(∀ b ∈ a :: t,b.dst ≠ some p)/\∀ b ∈ s,b.dst=some p->wKz l b.ix a.ix/\(a.kd=1 \/ a.kd=3 \/ 8 <= a.kd->b.kd ≠ 4/\b.kd ≠ 6)) /\
   ((a.kd=1->∀ b ∈ s,b.kd=0->wKz l b.ix a.ix)/\(8 <= a.kd->∀ s1 b s2,s=s1 ++ b :: s2->b.kd=0->wKz l b.ix a.ix \/ wOv s2 + 8 < a.kd))/\(∀ b ∈ t,a.ix ≠ b.ix)/\kdOK a=true/\(∀ o,l[a.ix]?=some o->wBp o=false/\subB a.op o=true):=by
  intro s a t e
  have hk:=key s a t e
  unfold zop at hk
  simp only [nA,nc,List.mem_reverse,nU,np] at hk
  obtain ⟨k1,k2,k3,⟨k4,k8⟩,k5,k6,k7⟩:=hk
  refine ⟨fun hf b hb=>?_,fun p hp b hb=>?_,fun p hp=>⟨fun b hb=>?_,fun b hb hd=>?_⟩,⟨fun h1 b hb h0=>?_,fun h8 s1 b s2 es h0=>?_⟩,fun b hb he=>?_,k6,fun o ho=>?_⟩
  ·rcases k1 with k1 | k1
   ·rw [hf] at k1;cases k1
   ·exact han _ _ (k1 b hb)
  ·rw [hp] at k2
   simp only [nA,nc,List.mem_reverse] at k2
   rcases nP.1 hb with hb | hb
   ·exact wGv (k2.1 b hb)
   ·exact wGv (k2.2 b hb)
  ·obtain ⟨g1,g2,g3⟩:=k3 p hp
   rcases nj.1 hb with rfl | hb
   ·exact wGv g1
   ·exact wGv (g2 b hb)
  ·obtain ⟨g1,g2,g3⟩:=k3 p hp
   rcases g3 b hb with g | ⟨g,g'⟩
   ·exact absurd hd (wGv g)
   ·refine ⟨han _ _ g,fun hk=>?_⟩
    rcases g' with g' | g'
    ·rcases hk with hk | hk | hk
     ·rw [hk] at g';exact absurd g' (by decide)
     ·rw [hk] at g';exact absurd g' (by decide)
     ·simp only [Bool.or_eq_false_iff] at g'
      have h8:kQ 8 a.kd=true:=by rw [nT];exact hk
      rw [g'.2.2] at h8
      cases h8
    ·constructor <;> intro h4 <;> rw [h4] at g' <;> exact absurd g' (by decide)
  ·rcases k4 with k4 | k4
   ·rw [h1] at k4;exact absurd k4 (by decide)
   ·rcases k4 b hb with g | g
    ·rw [h0] at g;exact absurd g (by decide)
    ·exact han _ _ g
  ·rcases k8 with k8 | k8
   ·rw [<- Bool.not_eq_true,nT] at k8
    exact absurd h8 k8
   ·rw [es,List.reverse_append,List.reverse_cons,ny] at k8
    rcases wQK s2.reverse b (s1.reverse) 0 (by simpa using k8) h0 with g | g
    ·exact .inl (han _ _ g)
    ·refine .inr ?_
     unfold wOv at g ⊢
     rw [List.countP_reverse] at g
     omega
  ·have:=k5 b hb
   rw [he] at this
   simp at this
  ·rw [ho] at k7
   simpa using k7
 have mem:∀ a ∈ os,∃ s t,os=s ++ a :: t:=fun a ha=>List.append_of_mem ha
 refine ⟨hao,wSl os fun s a t e=>(wLo s a t e).2.2.2.2.1,hpr,fun s a t e=>(wLo s a t e).1,fun s a t e=>(wLo s a t e).2.1,fun s a t e p hp=>((wLo s a t e).2.2.1 p hp).1,fun a ha p hp b hb hd=>?_,fun a ha=>?_,fun a ha hk p hp b hb hd=>?_,fun a ha o ho=>?_,fun a ha o ho=>?_,fun s a t e=>(wLo s a t e).2.2.2.1.1,fun s a t e=>(wLo s a t e).2.2.2.1.2⟩
 ·obtain ⟨s,t,e⟩:=mem a ha
  obtain ⟨g1,g2⟩:=(wLo s a t e).2.2.1 p hp
  rw [e] at hb
  rcases nP.1 hb with hb | hb
  ·exact (g2 b hb hd).1
  ·exact absurd hd (g1 b hb)
 ·obtain ⟨s,t,e⟩:=mem a ha
  have hk:=(wLo s a t e).2.2.2.2.2.1
  unfold kdOK at hk
  simp only [nU,nA] at hk
  rcases hk with hk | ⟨h1,hk⟩
  ·exact .inl hk
  ·refine .inr ⟨fun e=>(by rw [e] at h1;cases h1),?_⟩
   rcases hk with hk | hk | ⟨hk,h2⟩ | ⟨hk,h2⟩ | ⟨hk,h2⟩
   ·exact .inl (nB hk)
   ·exact .inr (.inl (nB hk))
   ·exact .inr (.inr (.inl ⟨nB hk,nB h2⟩))
   ·exact .inr (.inr (.inr (.inl ⟨nB hk,h2⟩)))
   ·exact .inr (.inr (.inr (.inr ⟨by rwa [nT] at hk,nB h2⟩)))
 ·obtain ⟨s,t,e⟩:=mem a ha
  obtain ⟨g1,g2⟩:=(wLo s a t e).2.2.1 p hp
  rw [e] at hb
  rcases nP.1 hb with hb | hb
  ·exact (g2 b hb hd).2 hk
  ·exact absurd hd (g1 b hb)
 ·obtain ⟨s,t,e⟩:=mem a ha
  exact ((wLo s a t e).2.2.2.2.2.2 o ho).1
 ·obtain ⟨s,t,e⟩:=mem a ha
  have h1:=((wLo s a t e).2.2.2.2.2.2 o ho).2
  unfold subB at h1
  rw [nc] at h1
  intro x hx
  have:=h1 (.tmp x) (by simpa using hx)
  simp only [List.any_eq_true] at this
  obtain ⟨p,g1,g2⟩:=this
  exact ⟨p,g1,by rw [nB g2];rfl⟩
structure ZAll (P:Program) (N:Nat) (l:List Oper) (os A B:List AO):Prop where
 eq:os=A ++ B
 za:ZOK P N l A
 zb:ZOK P N l B
 cross:∀ b ∈ B,∀ a ∈ A,a.ix ≠ b.ix/\wKz l a.ix b.ix
 low:∀ b ∈ B,b.kd < 8
 far:∀ a ∈ A,8 <= a.kd->∀ p,p ∈ wCH a \/ a.dst=some p->∀ b ∈ B,b.dst ≠ some p
 all:∀ i,i < l.length->∃ a ∈ os,a.ix=i
theorem wNf {P:Program} {N:Nat} {l:List Oper} {os:List AO} (hao:∀ a ∈ os,wGt P N l a=true) (h:chkZ l os=true):∃ A B,ZAll P N l os A B:=by
 unfold chkZ at h
 rw [nA,nA,nU] at h
 obtain ⟨hpr0,hall0,hz⟩:=h
 simp only [nc,List.mem_range,nJ,List.any_eq_true] at hpr0 hall0
 have hpr:∀ i,i < l.length->∀ j ∈ prI l i,j < i:=hpr0
 have hall:∀ i,i < l.length->∃ a ∈ os,a.ix=i:=fun i hi=>by
  obtain ⟨a,h1,h2⟩:=hall0 i hi
  exact ⟨a,h1,nB h2⟩
 have han:∀ i x,((wQI [] l).getD i 0).testBit x=true->wKz l x i:=wKI hpr l [] [] rfl rfl fun i x h=>by simp at h
 rcases hz with hz | hz
 ·exact ⟨os,[],by simp,wLA hao hpr hz,wLA (fun a ha=>by simp at ha) hpr rfl,fun b hb=>by simp at hb,fun b hb=>by simp at hb,fun a _ _ p _ b hb=>by simp at hb,hall⟩
 ·unfold ztl at hz
  simp only [nA,nc,nJ,np] at hz
  obtain ⟨⟨h1,h5⟩,h2,h3,h4⟩:=hz
  have e:=wQJ os
  refine ⟨wRN os,wPM os,e,wLA (fun a ha=>hao a (by rw [e];simp [ha])) hpr h2,wLA (fun a ha=>hao a (by rw [e];simp [ha])) hpr h3,fun b hb a ha=>⟨fun e=>?_,han _ _ (h4 b hb a ha).2⟩,h1,fun a ha h8 p hp b hb=>?_,hall⟩
  ·have:=(h4 b hb a ha).1
   rw [e] at this
   simp at this
  ·have h6:=h5 a ha
   simp only [nU,nA,nc,nJ] at h6
   rcases h6 with h6 | ⟨h6,h7⟩
   ·omega
   ·rcases hp with hp | hp
    ·exact wGv (h6 p hp b hb)
    ·rw [hp] at h7
     simp only [nc] at h7
     exact wGv (h7 b hb)
theorem wID {tb:Tr AF} {ex exY:Run} {σf:Tr AV} {h:AH}:∀ (x y:List AO) (n:Nat),wJb tb ex exY σf h n (x ++ y)=true->wJb tb ex exY σf h n x=true
 | [],_,_,_=>rfl
 | a :: x,y,n,hl=>by
  rw [kA,wEO] at hl
  rw [wEO]
  cases hf:wCE a.kd with
  | true =>
   rw [hf] at hl
   exact wID x y _ hl
  | false =>
   rw [hf] at hl
   simp only [nA] at hl ⊢
   exact ⟨hl.1,wID x y _ hl.2⟩
theorem wKJ {tb:Tr AF} {ex exY:Run} {σf:Tr AV} {h:AH}:∀ (x:List AO) (a:AO) (y:List AO) (n:Nat),wJb tb ex exY σf h n (x ++ a :: y)=true->wCE a.kd=false->n + wOv x + 8 < a.kd->wHb tb ex exY σf h a=true
 | [],a,y,n,hl,hf,hn=>by
  rw [nh,wEO,hf] at hl
  simp only [nA] at hl
  have hb:nX (n + 8) a.kd=true:=by rw [nJ];exact hn
  rw [hb] at hl
  exact hl.1
 | c :: x,a,y,n,hl,hf,hn=>by
  rw [kA,wEO] at hl
  unfold wOv at hn
  rw [List.countP_cons] at hn
  cases hc:wCE c.kd with
  | true =>
   rw [hc] at hl hn
   exact wKJ x a y _ hl hf (by unfold wOv;simp only [if_true] at hn;omega)
  | false =>
   rw [hc] at hl hn
   simp only [nA] at hl
   exact wKJ x a y _ hl.2 hf (by unfold wOv;simp only [if_false,nY] at hn;omega)
def LCK (tb:Tr AF) (ex exY:Run) (os:List AO) (σ0:Tr AV) (h0:AH) (σf:Tr AV):Prop :=
 ∀ s b t,os=s ++ b :: t->b.kd=0->∀ σ1 h1,wAc tb ex exY s σ0 h0=some (σ1,h1)->wJb tb ex exY σf h1 0 t=true
theorem wKK {tb:Tr AF} {ex exY:Run}:∀ (os:List AO) (σ:Tr AV) (h:AH) (r:Tr AV × AH),wMv tb ex exY os σ h=some r->wAc tb ex exY os σ h=some r/\LCK tb ex exY os σ h r.1
 | [],σ,h,r,hr=>by
  rw [wPD] at hr
  exact ⟨by rw [wAy];exact hr,fun s b t e=>by simp at e⟩
 | o :: os,σ,h,r,hr=>by
  rw [wMw] at hr
  split at hr
  ·cases hr
  ·rename_i q hq
   split at hr
   ·cases hr
   ·rename_i r' hr'
    have e:r'=r:=by
     split at hr
     ·split at hr
      ·cases hr;rfl
      ·cases hr
     ·cases hr;rfl
    subst e
    obtain ⟨g1,g2⟩:=wKK os _ _ _ hr'
    have g0:∀ s,wAc tb ex exY (o :: s) σ h=wAc tb ex exY s q.1 q.2:=by
     intro s
     rw [wBA]
     unfold wQh at hq
     cases hw:wCg σ o.grd with
     | true =>
      rw [hw] at hq
      simp only at hq ⊢
      split at hq
      ·rename_i y hy
       cases hq
       rfl
      ·cases hq
     | false =>
      rw [hw] at hq
      cases hq
      rfl
    refine ⟨by rw [g0];exact g1,fun s b t e h0 σ1 h1 hs=>?_⟩
    cases s with
    | nil =>
     simp only [nh,nH] at e
     obtain ⟨rfl,rfl⟩:=e
     rw [wAy] at hs
     cases hs
     have hb:nD o.kd 0=true:=by rw [h0];rfl
     rw [hb] at hr
     simp only at hr
     split at hr
     ·assumption
     ·cases hr
    | cons c s =>
     simp only [kA,nH] at e
     obtain ⟨rfl,rfl⟩:=e
     rw [g0] at hs
     exact g2 s b t rfl h0 σ1 h1 hs
theorem wLB {tb:Tr AF} {ex exY:Run} {os:List AO} {σ:Tr AV} {h:AH} {σf:Tr AV} (hk:∀ a ∈ os,a.kd < 8):LCK tb ex exY os σ h σf:=by
 intro s b t e _ σ1 h1 _
 have:∀ (l:List AO) (n:Nat),(∀ a ∈ l,a.kd < 8)->wJb tb ex exY σf h1 n l=true:=by
  intro l
  induction l with
  | nil=>intro n _;rfl
  | cons a l ih =>
   intro n hl
   rw [wEO]
   have ha:=hl a (by simp)
   have hb:nX (n + 8) a.kd=false:=by rw [<- Bool.not_eq_true,nJ];omega
   cases wCE a.kd with
   | true=>exact ih _ fun b hb=>hl b (by simp [hb])
   | false =>
    simp only [hb,Bool.true_and]
    exact ih _ fun b hb=>hl b (by simp [hb])
 exact this t 0 fun a ha=>hk a (by rw [e];simp [ha])
end
end Go.KX
namespace Go.KX
noncomputable section
open Go.RowKit Go.KL
def kdAt (i:Nat):List AO->Nat
 | []=>0
 | a :: os=>match nD a.ix i with
  | true=>a.kd
  | false=>kdAt i os
def lazyA (os:List AO):Bool:=os.any fun a=>nX 3 a.kd
def chkR (P:Program) (N:Nat) (os:List AO) (l:List Oper) (draw:Bool):Bool :=
 let ks:=(kG l.length).map fun i=>kdAt i os
 os.all (fun a=>wGt P N l a && nD (kOf ks a.ix) a.kd) && (match draw with
  | true=>(match lazyA os with
   | true=>os.all (fun a=>nX a.kd 8) && chkZ l os
   | false=>wMP l ks (wJE os))
  | false=>inOrder 0 (wJE os) l.length)
def wLq (N:Nat):List Pos->List Nat->Bool
 | [],[]=>true
 | t :: ts,p :: ps=>(nD t.nat (p + 1) && nX p N) && wLq N ts ps
 | _,_=>false
theorem wLC {N:Nat}:∀ {ts:List Pos} {ps:List Nat},wLq N ts ps=true->ts.map Pos.nat=ps.map (· + 1)/\∀ x ∈ ps,x < N
 | [],[],_=>by simp
 | t :: ts,p :: ps,h=>by
  simp only [wLq,nA,nJ] at h
  obtain ⟨⟨h1,h2⟩,h3⟩:=h
  obtain ⟨h4,h5⟩:=wLC h3
  refine ⟨by simp [h4,nB h1],?_⟩
  intro x hx
  rcases nj.1 hx with rfl | hx
  ·exact h2
  ·exact h5 x hx
 | [],_ :: _,h=>by simp [wLq] at h
 | _ :: _,[],h=>by simp [wLq] at h
theorem wLD {μ:Mu}:∀ {ts:List Pos} {ns:List Nat} {σA σB:Tr AV} {σ:Env} {as:List AV} {vs:List Value},wQg σA ts as=some σB->ts.map Pos.nat=ns.map (· + 1)->RvL μ as vs->EnvR μ σA σ->EnvR μ σB (wOt σ ns vs)/\ns.length=vs.length
 | [],ns,σA,σB,σ,as,vs,hs,hn,hv,hE=>by
  cases ns with
  | cons _ _=>simp at hn
  | nil =>
   cases as with
   | cons _ _=>simp [wQg] at hs
   | nil=>cases hv;simp only [wQg,na] at hs;subst hs;exact ⟨hE,rfl⟩
 | t :: ts,ns,σA,σB,σ,as,vs,hs,hn,hv,hE=>by
  cases ns with
  | nil=>simp at hn
  | cons n ns =>
   cases as with
   | nil=>simp [wQg] at hs
   | cons a as =>
    obtain ⟨v,ws,h1,h2,rfl⟩:=hv
    simp only [nO,nH] at hn
    have hp:=hE.put (p:=t) h1
    have e:t.nat - 1=n:=by omega
    rw [e] at hp
    obtain ⟨g1,g2⟩:=wLD (ts:=ts) (ns:=ns) (σA:=σA.set t a) (σ:=upd σ n v) (by simpa [wQg] using hs) hn.2 h2 hp
    exact ⟨g1,by simp [g2]⟩
def wFY (P:Program) (N:Nat):AC->Code->Bool
 | .skip,.skip=>true
 | .skip,.label _=>true
 | .rg os,.region _ ops draw=>chkR P N os ops.toList draw
 | .rl os,.region _ ops draw=>draw && (os.all (fun a=>wGt P N ops.toList a) && chkZ ops.toList os)
 | .seq a b,.seq c d=>wFY P N a c && wFY P N b d
 | .cond x a b,.cond y c d=>wCB x y && (wFY P N a c && wFY P N b d)
 | .block i a,.block j c=>nD i j && wFY P N a c
 | .loop a,.loop c=>wFY P N a c
 | .scope a,.scope c=>wFY P N a c
 | .rf g t asg body,.rangeFunc g' ps asg' body'=>wCB g g' && (wLq N t ps.toList && (wFY P N asg asg' && wFY P N body body'))
 | .exit i,.exit j=>nD i j
 | .ret,.ret=>true
 | _,_=>false
def CC (P:Program):Chk:=fun a c N=>wFY P N a c=true
section
variable {P:Program} {tb:Tr AF} {μ μ' μ'':Mu} {w w' w'':World} {h h' h'':AH} {σ:Env} {σA:Tr AV}
def Mk (μ:Mu) (w:World) (n0:Nat) (D:List Deferred):Prop:=∃ rbs:List Nat,D=rbs.map mark/\rbs.Nodup/\∀ rb ∈ rbs,Dfr w rb/\n0 <= rb/\∀ p c,μ p=some c->c.1 ≠ rb
theorem Mk.nil (μ:Mu) (w:World) (n0:Nat):Mk μ w n0 []:=⟨[],rfl,by simp,by simp⟩
theorem Mk.ext {n0 fl:Nat} {D:List Deferred} (M:Mk μ w n0 D) (E:Ext μ fl w μ' w'):Mk μ' w' n0 D:=by
 obtain ⟨rbs,h1,h2,h3⟩:=M
 refine ⟨rbs,h1,h2,fun rb hrb=>?_⟩
 obtain ⟨g1,g2,g3⟩:=h3 rb hrb
 refine ⟨g1.keep E.keep fun ⟨p,d,q1,q2,_⟩=>g3 p d q1 q2,g2,fun p c hp=>?_⟩
 rcases E.new p c hp with q | ⟨p',d,q1,q2,_⟩ | q
 ·exact g3 p c q
 ·rw [<- q2];exact g3 p' d q1
 ·have:=g1.lt;omega
def PostX (P:Program) (μ:Mu) (fl:Pos) (w:World) (n0:Nat) (rr:Option Nat) (D:List Deferred) (e:Ex) (σA':Tr AV) (h':AH):wDC:=fun D' e' σ' w' =>
 e'=exC e/\∃ μ',Ext μ fl.nat w μ' w'/\Sim (CC P) P μ' h' w'/\EnvR μ' σA' σ'/\Mk μ' w' n0 D'/\h'.fl=fl/\(rr.isSome=true->D'=D)
def wJG (P:Program) (ex:Run) (r:Bool):Prop:=∀ c σA h e σA' h',ex c σA h=some (e,σA',h')->∀ code N,wFY P N c code=true->∀ (rr:Option Nat) (μ:Mu) (σ:Env) (w:World) (D:List Deferred) (n0:Nat),
 rr.isSome=r->Sim (CC P) P μ h w->EnvR μ σA σ->Mk μ w n0 D->n0 <= w.heap.size->CK rr N P code (PostX P μ h.fl w n0 rr D e σA' h') D σ w
def wNg (P:Program) (ex:Run) (r:Bool) (m:Nat):Prop:=∀ c σA h e σA' h',ex (.loop c) σA h=some (e,σA',h')->∀ code N,wFY P N c code=true->∀ (rr:Option Nat) (μ:Mu) (σ:Env) (w:World) (D:List Deferred) (n0:Nat),
 rr.isSome=r->Sim (CC P) P μ h w->EnvR μ σA σ->Mk μ w n0 D->n0 <= w.heap.size->∀ a,Rep N D a σ->Code.roundsIn (WF rr) 0 P code (wHM N (PostX P μ h.fl w n0 rr D e σA' h')) m a w
theorem PostX.trans {fl:Pos} {n0:Nat} {rr:Option Nat} {D D1 D':List Deferred} {e:Ex} {e':Exit} {σA':Tr AV} {σ':Env} (E:Ext μ fl.nat w μ' w') (hD:rr.isSome=true->D1=D) (hP:PostX P μ' fl w' n0 rr D1 e σA' h' D' e' σ' w''):PostX P μ fl w n0 rr D e σA' h' D' e' σ' w'':=by
 obtain ⟨h1,μ2,h2,h3,h4,h5,h6,h7⟩:=hP
 exact ⟨h1,μ2,E.trans h2,h3,h4,h5,h6,fun hr=>(h7 hr).trans (hD hr)⟩
theorem wGw {F:Fence} {n:Nat} {c:Code} {Q Q':Exit->Act->World->Prop} (hQ:∀ e a w,Q e a w->Q' e a w):∀ (m:Nat) (a:Act) (w:World),Code.roundsIn F n P c Q m a w->Code.roundsIn F n P c Q' m a w
 | 0,_,_,h=>h.elim
 | m + 1,a,w,h=>by
  rw [roundsIn_succ] at h ⊢
  refine wpIn_mono h fun e a w q=>?_
  cases e with
  | normal=>exact wGw hQ m a w q
  | _=>exact hQ _ _ _ q
theorem Ext.drew (μ:Mu) (fl:Nat) (w:World):Ext μ fl w μ { w with drawn:=w.drawn + 1 }:=⟨Mu.Le.refl μ,fun _ _ h=>.inl h,(Keep.drew w).weak fun _ _ h=>h.elim⟩
theorem Sim.keepX {C:Chk} {X:Nat->Prop} (S:Sim C P μ h w) (K:Keep w w' X) (hX:∀ p c,μ p=some c->¬ X c.1):Sim C P μ h w' :=
 ⟨S.nx,fun p c hp=>ng (S.lt p c hp) K.size,S.inj,fun p b hb=>let ⟨c,h1,h2⟩:=S.at_ p b hb;⟨c,h1,h2.keep K (hX p c h1)⟩⟩
def wEC (P:Program):List AR->List ResultVar->Bool
 | [],[]=>true
 | .t p :: l,.tmp t :: k=>nD p.nat (t + 1) && wEC P l k
 | .c p n :: l,.cell a t :: k=>nD p.nat (a + 1) && ((match n with | none=>wPH P t false | some n=>wPH P t true && szT P t n) && wEC P l k)
 | _,_=>false
def chkF (P:Program) (k:Nat) (af:AF):Bool:=match P.funcs[k]? with
 | none=>false
 | some fn=>match fn.body with
  | none=>false
  | some c => nD fn.ntmps af.n && (wEC P af.res fn.results.toList && (!(fn.name == "runtime.NumGoroutine") && wFY P fn.ntmps af.body c))
theorem wKL {C:Chk} (hE:EnvR μ σA σ) (S:Sim C P μ h w):∀ {l:List AR} {k:List ResultVar} {vs:List AV},wEC P l k=true->wRw σA h l=some vs->∃ VS,RvL μ vs VS/\wRu P w σ k VS
 | [],[],vs,_,hr=>by simp only [wRw] at hr;cases hr;exact ⟨[],rfl,trivial⟩
 | .t p :: l,.tmp t :: k,vs,hc,hr=>by
  simp only [wEC,nA] at hc
  simp only [wRw,res1] at hr
  split at hr
  ·rename_i vs' hvs
   cases hr
   obtain ⟨VS,g1,g2⟩:=wKL hE S hc.2 hvs
   have e:=nB hc.1
   have g:=hE p
   rw [e] at g
   exact ⟨_,wBc g g1,rfl,g2⟩
  ·cases hr
 | .c p n :: l,.cell a t :: k,vs,hc,hr=>by
  simp only [wEC,nA] at hc
  obtain ⟨c1,c2,c3⟩:=hc
  have e:=nB c1
  have g:=hE p
  rw [e] at g
  rw [wRw] at hr
  split at hr
  ·rename_i v hv
   split at hr
   ·rename_i vs' hvs
    cases hr
    obtain ⟨VS,g1,g2⟩:=wKL hE S c3 hvs
    simp only [res1] at hv
    split at hv
    ·rename_i b off hb
     split at hv
     ·rename_i cl hcl
      obtain ⟨c,ws,q1,q2,q3⟩:=wEe hcl S
      rw [hb] at g
      obtain ⟨c',k1,k2⟩:=g
      rw [q1] at k1;cases k1
      have k2:σ a=.pointer (some ⟨c.1,off,none⟩):=k2
      split at hv
      ·rw [wGA] at hv
       obtain ⟨cv,r1,r2⟩:=wEy q2 hv
       refine ⟨_,wBc r2 g1,⟨_,k2,?_⟩,g2⟩
       simp [loadVar,wEQ c2,load,Sem.run,q3 w (Keep.refl w _) _ _ r1]
      ·rename_i n
       simp only [nA] at c2
       obtain ⟨r,hr3,rfl⟩:=wDO hv
       obtain ⟨r1,r2⟩:=wEz hr3 q2
       refine ⟨_,wBc ⟨_,r1,rfl⟩ g1,⟨_,k2,?_⟩,g2⟩
       have:=KL.run_loadCells (P:=P) (w:=w) (b:=c.1) (off:=off) (n:=n) ((ws.drop off).take n) (by simp;omega) fun j u hu=>q3 w (Keep.refl w _) _ _ (wEL rfl j u hu)
       simp [loadVar,wEQ c2.1,wDW c2.2,this]
     ·cases hv
    ·cases hv
   ·cases hr
  ·cases hr
 | [],_ :: _,_,hc,_=>by simp [wEC] at hc
 | .t _ :: _,[],_,hc,_=>by simp [wEC] at hc
 | .c _ _ :: _,[],_,hc,_=>by simp [wEC] at hc
 | .t _ :: _,.cell _ _ :: _,_,hc,_=>by simp [wEC] at hc
 | .c _ _ :: _,.tmp _ :: _,_,hc,_=>by simp [wEC] at hc
theorem wRO {C:Chk} {l:List AR} {rs:Array ResultVar} {v:AV} (hE:EnvR μ σA σ) (S:Sim C P μ h w) (hc:wEC P l rs.toList=true) (hr:wQf σA h l=some (v,h')):h'=h/\∃ cv,Rv μ v cv/\(wCR rs σ).run P w=.ok cv w:=by
 unfold wQf at hr
 split at hr
 ·rename_i vs hvs
  cases hr
  refine ⟨rfl,?_⟩
  obtain ⟨VS,g1,g2⟩:=wKL hE S hc hvs
  have hrs:rs=rs.toList.toArray:=by simp
  unfold tupA
  split
  ·rename_i v
   obtain ⟨cv,ws,q1,q2,q3⟩:=g1
   cases q2
   subst q3
   refine ⟨cv,q1,?_⟩
   have hl:∃ r,rs=#[r]:=by
    cases hq:rs.toList with
    | nil=>rw [hq] at g2;exact g2.elim
    | cons r k =>
     cases k with
     | nil=>exact ⟨r,nN (by simpa using hq)⟩
     | cons r' k=>rw [hq] at g2;cases r <;> cases r' <;> exact g2.2.elim
   obtain ⟨r,rfl⟩:=hl
   exact wMU g2
  ·rename_i hne
   refine ⟨_,⟨VS,g1,rfl⟩,?_⟩
   rw [hrs]
   refine resLn g2 ?_
   have hl:=wCo g1
   cases hb:VS.length == 1 with
   | false=>rfl
   | true =>
    have:vs.length=1:=by rw [<- hl];exact eq_of_beq hb
    obtain ⟨v,hv⟩:=List.length_eq_one_iff.1 this
    exact absurd hv (hne v)
 ·cases hr
def wLr (P:Program) (tb:Tr AF):Prop:=∀ p af,tb.get p=some af->chkF P (p.nat - 1) af=true
theorem wNh (T:wLr P tb) {ex:Run} (HE:wJG P ex false):wGB (CC P) P tb ex:=by
 intro f args h v h' hr
 unfold wIr at hr
 split at hr
 ·rename_i af haf
  have hcf:=T f af haf
  unfold chkF at hcf
  split at hcf
  ·cases hcf
  ·rename_i fn hfn
   split at hcf
   ·cases hcf
   ·rename_i c hbody
    simp only [nA,np] at hcf
    obtain ⟨c1,c2,c3,c4⟩:=hcf
    refine ⟨fun a w=>?_,fun μ w vs S hv=>?_⟩
    ·have c3' : ¬ fn.name = "runtime.NumGoroutine" := by simpa using c3
     simp [callFunc,program,Sem.run,hfn,hbody,c3']
    ·split at hr
     ·rename_i hle
      have hle:=nR hle
      have e1:=nB c1
      have key:∀ e σA' h1,ex af.body (wMs args .H .e) h=some (e,σA',h1)->(e=.nrm \/ e=.ret)->wQf σA' h1 af.res=some (v,h')->Gv P (f.nat - 1) vs w fun cv w'=>∃ μ',Ext μ h.fl.nat w μ' w'/\Sim (CC P) P μ' h' w'/\Rv μ' v cv/\h'.fl=h.fl:=by
       intro e σA' h1 hx he hres
       refine Gv.ofM hfn hbody rfl rfl (by rw [wCo hv,<- wEP,e1];exact hle) ?_
       refine (HE _ _ _ _ _ _ hx c fn.ntmps c4 none μ (wPt vs) w [] w.heap.size rfl S (wQl hv) (Mk.nil μ w _) (nG _)).mono ?_
       rintro D' e' σ' w' ⟨rfl,μ',q1,q2,q3,q4,q5,_⟩
       obtain ⟨rbs,m1,m2,m3⟩:=q4
       have fin:∃ rbs:List Nat,D'=rbs.map mark/\rbs.Nodup/\(∀ rb ∈ rbs,Dfr w' rb)/\∀ w2,Keep w' w2 (· ∈ rbs)->w2.heap.size=w'.heap.size->∃ cv,(wCR fn.results σ').run P w2=.ok cv w2/\∃ μ',Ext μ h.fl.nat w μ' w2/\Sim (CC P) P μ' h' w2/\Rv μ' v cv/\h'.fl=h.fl:=by
        refine ⟨rbs,m1,m2,fun rb hrb=>(m3 rb hrb).1,fun w2 K hs=>?_⟩
        have S2:=q2.keepX K fun p c hp hm=>(m3 _ hm).2.2 p c hp rfl
        obtain ⟨rfl,cv,r1,r2⟩:=wRO q3 S2 c2 hres
        refine ⟨cv,r2,μ',⟨q1.mono,q1.new,?_⟩,S2,r1,q5⟩
        exact q1.keep.step K fun i hi hm=>absurd (m3 i hm).2.1 (Nat.not_le.2 hi)
       rcases he with rfl | rfl
       ·exact fin
       ·exact fin
      split at hr
      ·exact key _ _ _ (by assumption) (.inl rfl) hr
      ·exact key _ _ _ (by assumption) (.inr rfl) hr
      ·cases hr
     ·cases hr
 ·cases hr
theorem wPN {ex:Run} (HE:wJG P ex true):wFD (CC P) P ex:=by
 intro b args h v h' hr
 unfold wIs at hr
 split at hr
 ·rename_i σA t asg body hB
  intro μ w xv c S hx hc
  split at hr <;> first | (cases hr;done) | skip
  rename_i σS hset
  split at hr <;> first | (cases hr;done) | skip
  rename_i σ1 h1 hasg
  split at hr <;> first | (cases hr;done) | skip
  rename_i σx tx ax bx hB1
  split at hr <;> first | (cases hr;done) | skip
  rename_i h2 hput2
  split at hr <;> first | (cases hr;done) | skip
  rename_i e σ3 h3 hbody
  split at hr <;> first | (cases hr;done) | skip
  rename_i σy ty ay by_ hB3
  split at hr <;> first | (cases hr;done) | skip
  rename_i h4 hput4
  cases hr
  obtain ⟨c',g1,g2⟩:=S.at_ b _ hB
  rw [hc] at g1;cases g1
  have L:wLj (CC P) μ w c σA t asg body .ready:=g2
  obtain ⟨hSE,hSl⟩:=wLD hset L.ht hx L.env
  refine Yd.of L.at_ L.tN hSl fun σ0 hσ0=>?_
  have hE0:EnvR μ σS σ0:=by
   intro p
   rw [hσ0];exact hSE p
  refine (HE _ _ _ _ _ _ hasg c.g.ac c.g.N L.asg (some c.1) μ σ0 w [] 0 rfl S hE0 (Mk.nil μ w _) (Nat.zero_le _)).mono ?_
  rintro D' e' σ' w1 ⟨rfl,μ1,q1,q2,q3,q4,q5,q6⟩
  have hc1:=q1.mono b c hc
  obtain ⟨c',r1,r2⟩:=q2.at_ b _ hB1
  rw [hc1] at r1;cases r1
  have L1:wLj (CC P) μ1 w1 c σx tx ax bx .ready:=r2
  refine ⟨rfl,q6 rfl,L1.at_,fun w2 hl2 K hs=>?_⟩
  obtain ⟨s1,s2,s3⟩:=q2.put hput2 hB1 trivial hc1 K (B':=.loop σA t asg body .busy) ⟨hl2,L.env.mono q1.mono,L.ht,L.tN,L.asg,L.body⟩
  rw [q5] at s2 s3
  refine (HE _ _ _ _ _ _ hbody c.g.bc c.g.N L.body (some c.1) μ1 σ' w2 [] 0 rfl s1 q3 (Mk.nil μ1 w2 _) (Nat.zero_le _)).mono ?_
  rintro D'' e'' σ'' w3 ⟨rfl,μ3,t1,t2,t3,t4,t5,t6⟩
  rw [s3] at t1 t5
  have hc3:=t1.mono b c hc1
  obtain ⟨c',u1,u2⟩:=t2.at_ b _ hB3
  rw [hc3] at u1;cases u1
  have L3:wLj (CC P) μ3 w3 c σy ty ay by_ .busy:=u2
  have fin:∀ w4,LoopAt w4 c.1 c.g.N c.g.σ c.g.t c.g.ac c.g.bc c.g.rb c.g.fn (lsC e.done).1 (lsC e.done).2->Keep w3 w4 (·=c.1)->∃ μ',Ext μ h.fl.nat w μ' w4/\Sim (CC P) P μ' h' w4/\AV.bool e.go=.bool e.go/\h'.fl=h.fl:=by
   intro w4 hl4 K4
   obtain ⟨v1,v2,v3⟩:=t2.put hput4 hB3 trivial hc3 K4 (B':=.loop σA t asg body e.done) ⟨hl4,(L.env.mono q1.mono).mono t1.mono,L.ht,L.tN,L.asg,L.body⟩
   rw [t5] at v2 v3
   exact ⟨μ3,(q1.trans s2).trans (t1.trans v2),v1,rfl,v3⟩
  cases e with
  | nrm=>exact ⟨L3.at_,fun w4 hl K4 _=>fin w4 hl K4⟩
  | ret=>exact ⟨L3.at_,fun w4 hl K4 _=>fin w4 hl K4⟩
  | exit i=>exact ⟨L3.at_,fun w4 hl K4 _=>fin w4 hl K4⟩
 ·cases hr
end
end
end Go.KX
