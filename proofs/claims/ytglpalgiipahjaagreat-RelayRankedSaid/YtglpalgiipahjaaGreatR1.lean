import Derived.Test.YtglpalgiipahjaaGreatR0
import Derived.Lib.AppendZerosOnto
import Derived.Lib.AppendZeros
set_option linter.all false
open Bool renaming and_eq_true->nA,or_eq_true->nO,false_eq_true->nS,not_eq_true'->na,eq_false_iff->kO
open Nat renaming eq_of_beq_eq_true->nB,beq->nD,le_refl->nG,blt_eq->nH,le_of_ble_eq_true->nL,ble_eq->nN,lt_of_lt_of_le->nQ,blt->nR,le_trans->nV,le_of_mul_le_mul_right->nz,lt_or_ge->kD,ble->kP,le_mul_of_pos_right->kV,add_mul->kZ,mul_le_mul_right->ke,zero_add->kj
open List.cons renaming injEq->nE
open List renaming replicate->nI,map_cons->nK,mem_append->nM,getElem?_append_right->nP,getElem?_append_left->nT,getElem?_eq_some_iff->nU,all_eq_true->nW,nil_append->nX,getD_eq_getElem?_getD->nY,getElem?_map->nZ,getElem?_eq_getElem->nj,eq_nil_of_length_eq_zero->nk,mem_append_right->nq,mem_append_left->nu,mem_of_getElem?->nv,cons_append->nw,mem_cons->ny,append_assoc->kA,getElem?_eq_none->kC,getElem?_of_mem->kE,flatMap->kG,range->kH,length->kK,length_append->kM,mem_map->kQ,map_nil->kR,getElem?_cons_zero->kU,append_toArray->kf,map_eq_nil_iff->kh,mem_singleton->ki,getElem?_take->kk,toArray_range->kl,size_toArray->km
open Array renaming ext'->nJ,range->nh,getD_eq_getD_getElem?->nr,getElem?_replicate->kS,replicate->kY,getElem?_toList->kc,toList_append->kg,size_append->ko,toList_map->kr
open Int renaming ofNat_eq_natCast->ng,toNat_natCast->np,negSucc_eq->kJ,natCast_mul->kW,ofNat->kX
open Option.some renaming injEq->nl
open Go.Value renaming int->kL,slice->kq
open Option renaming getD_none->ku,getD_some->kv,map_some->kx
namespace Go.KL
open Go.RowKit
open Go.KX (LoopAt Yd wQm Dfr wSC retM)
section
variable {B:Base} {φ φ':PHeap} {L M:List Res} {w w':World}
theorem St.keepX (h:St B φ L w) {X:Nat->Prop} (K:Keep w w' X) (h1:∀ b,X b->φ b=none/\B.mine b) (h2:∀ r ∈ L,∀ b,r.has b->¬ X b):St B φ L w' :=
  ⟨K.os.trans h.os,K.tape.trans h.tape,K.output.trans h.output,nV h.size K.size,fun b hb hm=>(K.block b (nQ hb h.size) fun hx=>hm (h1 b hx).2).trans (h.old b hb hm),
   fun b o hb=>(K.block b (wAc (h.fro b o hb)) fun hx=>by rw [(h1 b hx).1] at hb;cases hb).trans (h.fro b o hb),h.le,h.src,fun r hr=>(h.at_ r hr).keep K (h2 r hr),h.own,h.dj⟩
theorem St.left (h:St B φ (L ++ M) w):St B φ L w :=
 ⟨h.os,h.tape,h.output,h.size,h.old,h.fro,h.le,h.src,fun r hr=>h.at_ r (nu _ hr),fun r hr=>h.own r (nu _ hr),fun i j r s b hi hj =>
  h.dj i j r s b (by rw [nT (nU.1 hi).1];exact hi) (by rw [nT (nU.1 hj).1];exact hj)⟩
theorem St.addLast (h:St B φ L w) {r:Res} {b:Nat} (hr:r.At w) (hb:r.has b) (hf:φ b=none) (hm:B.mine b) (hn:∀ s ∈ L,¬ s.has b) (hu:∀ c,r.has c->c=b:=by intro c hc;cases hc;rfl):St B φ (L ++ [r]) w:=by
 refine ⟨h.os,h.tape,h.output,h.size,h.old,h.fro,h.le,h.src,fun s hs=>?_,fun s hs c hc=>?_,fun i j s u c hi hj hs hu'=>?_⟩
 ·rcases nM.1 hs with hs | hs
  ·exact h.at_ s hs
  ·rw [ki.1 hs];exact hr
 ·rcases nM.1 hs with hs | hs
  ·exact h.own s hs c hc
  ·rw [ki.1 hs] at hc
   obtain rfl:=hu c hc
   exact ⟨hf,hm⟩
 ·have at_:∀ (i:Nat) (s:Res),(L ++ [r])[i]?=some s->L[i]?=some s \/ (i=L.length/\s=r):=by
   intro i s hi
   rcases kD i L.length with hl | hl
   ·rw [nT hl] at hi;exact .inl hi
   ·rw [nP hl] at hi
    have hz:i - L.length=0:=by
     have:=(nU.1 hi).1
     simp at this
     omega
    rw [hz] at hi
    simp at hi
    exact .inr ⟨by omega,hi.symm⟩
  rcases at_ i s hi with h1 | ⟨h1,rfl⟩ <;> rcases at_ j u hj with h2 | ⟨h2,rfl⟩
  ·exact h.dj i j s u c h1 h2 hs hu'
  ·obtain rfl:=hu c hu'
   exact absurd hs (hn s (nv h1))
  ·obtain rfl:=hu c hs
   exact absurd hu' (hn u (nv h2))
  ·omega
theorem St.putObj {l:Nat} {o o2:Obj} (h:St B φ (.obj l o :: L) w) (K:Keep w w' (·=l)) (h2:w'.heap[l]?=some o2):St B φ (.obj l o2 :: L) w' :=
 h.set (k:=0) (r:=.obj l o) (r':=.obj l o2) rfl (K.weak fun b _ e=>by rw [e];rfl) h2 fun b hb=>.inl hb
theorem St.outObj {l:Nat} {o:Obj} (h:St B φ (.obj l o :: L) w) (K:Keep w w' (·=l)):St B φ L w':=by
 have hm:=h.own (.obj l o) (by simp) l rfl
 have h0:St B φ L w:=h.drop 0
 refine h0.keepX K (fun b e=>by rw [e];exact hm) fun r hr b hb e=>?_
 subst e
 obtain ⟨i,hi⟩:=kE hr
 have:=h.dj 0 (i + 1) (.obj b o) r b rfl (by simpa using hi) rfl hb
 omega
theorem St.outs {rbs:List Nat} {d:Obj} (h:St B φ (L ++ rbs.map fun rb=>.obj rb d) w) (K:Keep w w' (· ∈ rbs)):St B φ L w':=by
 refine h.left.keepX K (fun b hb=>?_) fun r hr b hb hm=>?_
 ·exact h.own (.obj b d) (nq _ (kQ.2 ⟨b,hb,rfl⟩)) b rfl
 ·obtain ⟨i,hi⟩:=kE hr
  obtain ⟨j,hj⟩:=kE hm
  have hil:=(nU.1 hi).1
  have:=h.dj i (L.length + j) r (.obj b d) b (by rw [nT hil];exact hi) (by rw [nP (by omega),show L.length + j - L.length=j by omega,nZ,hj];rfl) hb rfl
  omega
end
def LR (N:Nat) (σ:Env) (t:List Nat) (asg body:Code) (rb:Nat) (fn:FuncId) (s:LoopState) (pend:Option Code) (o:Obj):Prop :=
 ∃ a D,Rep N D a σ/\o=.loop { state:=s,pending:=pend,fn,tmps:=a.tmps,params:=t.toArray,assign:=asg,body,defers:=rb }
theorem LR.at_ {N:Nat} {σ:Env} {t:List Nat} {asg body:Code} {rb:Nat} {fn:FuncId} {s:LoopState} {pend:Option Code} {o:Obj} {w:World} {l:Nat} (h:LR N σ t asg body rb fn s pend o) (hw:w.heap[l]?=some o):LoopAt w l N σ t asg body rb fn s pend:=by
 obtain ⟨a,D,h1,rfl⟩:=h
 exact ⟨a,D,h1,hw⟩
theorem LR.of {N:Nat} {σ:Env} {t:List Nat} {asg body:Code} {rb:Nat} {fn:FuncId} {s:LoopState} {pend:Option Code} {w:World} {l:Nat} (h:LoopAt w l N σ t asg body rb fn s pend):∃ o,w.heap[l]?=some o/\LR N σ t asg body rb fn s pend o:=by
 obtain ⟨a,D,h1,h2⟩:=h
 exact ⟨_,h2,a,D,h1,rfl⟩
def YOK (P:Program) (l:Nat) {X S E:Type} (ar:PHeap->X->List Value->Prop) (PY:S->PHeap->List Res->Prop) (PE:E->PHeap->List Res->Prop) (f:S->X->Option (S ⊕ E)) (φ0:PHeap):Prop :=
 ∀ φ w s x vs r L,PHeap.Le φ0 φ->St ⟨w,L,φ⟩ φ L w->PY s φ L->ar φ x vs->f s x=some r ->
  Yd P l vs w fun b w'=>∃ φ' L',St ⟨w,L,φ⟩ φ' L' w'/\(match r with | .inl s'=>b=true/\PY s' φ' L' | .inr e=>b=false/\PE e φ' L')
def ItS (w:World) (L:List Res) (φ:PHeap) {S E:Type} (PY:S->PHeap->List Res->Prop) (PE:E->PHeap->List Res->Prop) (r:S ⊕ E):Value->World->Prop:=fun _ w' =>
 ∃ φ' L',St ⟨w,L,φ⟩ φ' L' w'/\(match r with | .inl s=>PY s φ' L' | .inr e=>PE e φ' L')
section
variable {r:Option Nat} {N:Nat} {P:Program} {l:List Oper} {Q:wEB} {D:List Deferred} {ks:List Nat} {B:Base} {φ:PHeap} {L:List Res} {σ:Env} {w:World} {i d:Nat} {o:Oper} {s:Sch} {X S E:Type} {ar:PHeap->X->List Value->Prop}
 {PY:S->PHeap->List Res->Prop} {PE:E->PHeap->List Res->Prop} {f:S->X->Option (S ⊕ E)}
theorem OKS.yieldT (n:Nat) {y:Nat} {x:Operand} {args:Array Operand} {ty:Array TypeId} {vs:List Value} {st:S} {a:X} {rr:S ⊕ E} {φ0:PHeap} (ho:l[i]?=some o) (hd:o.dst=some d) (hN:nR d N=true) (hw:wanted l σ o=true)
  (hop:o.op=.call { callee:=.value x,args:=args,argTypes:=ty }) (hx:ev σ x=.func (.yield y) #[] #[]) (ha:args.toList.map (ev σ)=vs) (hS:St B φ L w) (hY:YOK P y ar PY PE f φ0) (hle:PHeap.Le φ0 φ) (hP:PY st φ (L.drop n)) (har:ar φ a vs) (hf:f st a=some rr) (hk:wHa (kOf ks i)=false)
  (k:∀ φ' L' b w',PHeap.Le φ φ'->St B φ' (L.take n ++ L') w'->(match rr with | .inl s'=>b=true/\PY s' φ' L' | .inr e=>b=false/\PE e φ' L')->OKS N P l Q D ks s (upd σ d (.bool b)) w'):OKS N P l Q D ks (.fx i s .stop) σ w:=by
 have Y:=hY φ w st a vs rr _ hle (hS.enterT n) hP har hf
 have R:=Go.KX.Yd.rounds (σ:=σ) hop hx ha Y
 refine ⟨⟨o,ho,dlt hd hN,.inl ⟨hw,.inr (.inr (.inr (R.mono ?_)))⟩⟩,trivial⟩
 rintro v w' ⟨b,rfl,φ',L',h1,h2⟩
 obtain ⟨h3,h4⟩:=hS.backT n h1
 exact ⟨KeepD.of (.inl hk),by rw [wDZ hd];exact k φ' L' b w' h4 h3 h2⟩
def wSD:Exit->Option Code
 | .ret=>some .ret
 | .exit i=>some (.exit i)
 | _=>none
theorem CK.rangeY {g:Operand} {t:List Nat} {asg body:Code} {fi:FuncId} {fl cl:List Value} {s0:S} {rr:S ⊕ E} {exO:E->Exit} (hx:ev σ g=.func (.func fi) fl.toArray cl.toArray)
  (hcall:∀ (args:Array Value) (w:World),(callFunc fi args).run P w=.ok (.enter fi args) w) (hS:St B φ L w) (ht:∀ x ∈ t,x < N) (hlen:∀ φ x vs,ar φ x vs->t.length=vs.length) (hex:∀ e,exO e=.ret \/ ∃ i,exO e=.exit i) (h0:PY s0 φ L)
  (hit:∀ (l:Nat) (w1:World) (L1:List Res) (PY':S->PHeap->List Res->Prop) (PE':E->PHeap->List Res->Prop),St ⟨w1,L1,φ⟩ φ L1 w1->PY' s0 φ L1->YOK P l ar PY' PE' f φ->Gv P fi (fl ++ [.func (.yield l) #[] #[]] ++ cl) w1 (ItS w1 L1 φ PY' PE' rr))
  (hbody:∀ (l rb:Nat) (fn:FuncId) s x vs r φ' L' w' o B',PHeap.Le φ φ'->St B' φ' (.obj l o :: L') w'->PY s φ' L'->ar φ' x vs->f s x=some r->∀ σ0,(∀ i,σ0 i=wQm σ t vs i) ->
   CK (some l) N P asg (fun D' e σ1 w1=>e=.normal/\D'=[]/\∃ φ1 L1,St B' φ1 (.obj l o :: L1) w1/\∀ w2 o2,St B' φ1 (.obj l o2 :: L1) w2 ->
    CK (some l) N P body (fun _ e2 _ w3=>∃ φ3 L3,St B' φ3 (.obj l o2 :: L3) w3/\(match r with | .inl s'=>e2=.normal/\PY s' φ3 L3 | .inr e'=>e2=exO e'/\PE e' φ3 L3)) [] σ1 w2) [] σ0 w')
  (hk:∀ rb φ' L' w',PHeap.Le φ φ'->St B φ' (L' ++ [.obj rb (.deferred (some []))]) w'->(match rr with | .inl s=>PY s φ' L'->Q (Go.KX.mark rb :: D) .normal σ w' | .inr e=>PE e φ' L'->Q (Go.KX.mark rb :: D) (exO e) σ w')) :
  CK none N P (.rangeFunc g t.toArray asg body) Q D σ w:=by
 refine Go.KX.CK.rangeFunc hx hcall fun fn l rb w1 e1 e2 hl hd K hs=>?_
 obtain ⟨o,ho,hLR⟩:=LR.of hl
 have hlt:l < w1.heap.size:=wAc ho
 have hS0:=hS.grow K
 have hsz:∀ s ∈ L,∀ b,s.has b->b < w.heap.size:=fun s hs b hb=>(hS.at_ s hs).lt hb
 have hfree:∀ b,w.heap.size <= b->φ b=none/\B.mine b:=fun b hb=>by
  refine ⟨?_,.inl (nV hS.size hb)⟩
  cases e:φ b with
  | none=>rfl
  | some x=>have:=wAc (hS.fro b x e);omega
 have hS1:St B φ (.obj l o :: L) w1:=by
  have h1:=hS0.addLast (r:=.obj l o) (b:=l) ho rfl (hfree l (by omega)).1 (hfree l (by omega)).2 fun s hs' e=>by have:=hsz s hs' l e;omega
  refine ⟨h1.os,h1.tape,h1.output,h1.size,h1.old,h1.fro,h1.le,h1.src,fun r hr=>h1.at_ r ?_,fun r hr=>h1.own r ?_,?_⟩
  ·rcases ny.1 hr with rfl | hr <;> simp [*]
  ·rcases ny.1 hr with rfl | hr <;> simp [*]
  ·intro i j r s b hi hj hr hs'
   cases i with
   | zero =>
    simp only [kU,nl] at hi;subst hi;cases hr
    cases j with
    | zero=>rfl
    | succ j=>have:=hsz s (nv (by simpa using hj)) _ hs';omega
   | succ i =>
    cases j with
    | zero=>simp only [kU,nl] at hj;subst hj;cases hs';have:=hsz r (nv (by simpa using hi)) _ hr;omega
    | succ j=>rw [hS0.dj i j r s b (by simpa using hi) (by simpa using hj) hr hs']
 have hS2:St B φ ((.obj l o :: L) ++ [.obj rb (.deferred (some []))]) w1:=by
  refine hS1.addLast (b:=rb) hd rfl (hfree rb (by omega)).1 (hfree rb (by omega)).2 fun s hs' e=>?_
  rcases ny.1 hs' with rfl | hs'
  ·cases e;omega
  ·have:=hsz s hs' rb e;omega
 let PYl:S->PHeap->List Res->Prop:=fun s φ L=>∃ o L',L=.obj l o :: L'/\LR N σ t asg body rb fn .ready none o/\PY s φ L'
 let PEl:E->PHeap->List Res->Prop:=fun e φ L=>∃ o L',L=.obj l o :: L'/\LR N σ t asg body rb fn .done (wSD (exO e)) o/\PE e φ L'
 have hY:YOK P l ar PYl PEl f φ:=by
  rintro φ' w' s x vs r L3 hle hSt ⟨o',L',rfl,hLR',hP⟩ har hf
  refine Go.KX.Yd.of (hLR'.at_ (hSt.at_ (.obj l o') (by simp))) ht (hlen _ _ _ har) fun σ0 hσ0=>?_
  refine (hbody l rb fn s x vs r φ' L' w' o' _ hle hSt hP har hf σ0 hσ0).mono ?_
  rintro D' e σ1 w1 ⟨rfl,rfl,φ1,L1,hS1,hb⟩
  refine ⟨rfl,rfl,hLR'.at_ (hS1.at_ (.obj l o') (by simp)),fun w2 hl2 K2 _=>?_⟩
  obtain ⟨o2,ho2,hLR2⟩:=LR.of hl2
  refine (hb w2 o2 (hS1.putObj K2 ho2)).mono ?_
  rintro D2 e2 σ2 w3 ⟨φ3,L3,hS3,hm⟩
  cases r with
  | inl s' =>
   obtain ⟨rfl,hP'⟩:=hm
   refine ⟨hLR2.at_ (hS3.at_ (.obj l o2) (by simp)),fun w4 hl4 K4 _=>?_⟩
   obtain ⟨o4,ho4,hLR4⟩:=LR.of hl4
   exact ⟨φ3,_,hS3.putObj K4 ho4,rfl,o4,L3,rfl,hLR4,hP'⟩
  | inr e' =>
   obtain ⟨rfl,hP'⟩:=hm
   have fin:∀ w4 p,p=wSD (exO e')->LoopAt w4 l N σ t asg body rb fn .done p->Keep w3 w4 (·=l)->∃ φ'' L'',St ⟨w',.obj l o' :: L',φ'⟩ φ'' L'' w4/\(false=false/\PEl e' φ'' L''):=by
    rintro w4 p rfl hl4 K4
    obtain ⟨o4,ho4,hLR4⟩:=LR.of hl4
    exact ⟨φ3,_,hS3.putObj K4 ho4,rfl,o4,L3,rfl,hLR4,hP'⟩
   have hB:=hLR2.at_ (hS3.at_ (.obj l o2) (by simp))
   rcases hex e' with he | ⟨i,he⟩
   ·rw [he] at fin ⊢
    exact ⟨hB,fun w4 hl4 K4 _=>fin w4 _ rfl hl4 K4⟩
   ·rw [he] at fin ⊢
    exact ⟨hB,fun w4 hl4 K4 _=>fin w4 _ rfl hl4 K4⟩
 have hE:St ⟨w1,.obj l o :: L,φ⟩ φ (.obj l o :: L) w1:=by have:=hS1.enterH (L.length + 1);simpa using this
 refine (hit l w1 (.obj l o :: L) PYl PEl hE ⟨o,L,rfl,hLR,h0⟩ hY).mono ?_
 rintro v w3 ⟨φ',L3,g1,g2⟩
 obtain ⟨g3,g4⟩:=hS2.backH (L.length + 1) (own':=L3) (φ':=φ') (w':=w3) (by simpa using g1)
 have g3:St B φ' (L3 ++ [.obj rb (.deferred (some []))]) w3:=by simpa using g3
 have hkk:=hk rb φ'
 cases rr with
 | inl s' =>
  obtain ⟨o',L',rfl,hLR',hP⟩:=g2
  refine .inl ⟨hLR'.at_ (g3.at_ (.obj l o') (by simp)),fun w4 K4 _=>hkk L' w4 g4 ?_ hP⟩
  exact St.outObj (L:=L' ++ [.obj rb (.deferred (some []))]) (by simpa using g3) K4
 | inr e' =>
  obtain ⟨o',L',rfl,hLR',hP⟩:=g2
  refine .inr ⟨exO e',hex e',?_,fun w4 K4 _=>hkk L' w4 g4 ?_ hP⟩
  ·have:=hLR'.at_ (g3.at_ (.obj l o') (by simp))
   rcases hex e' with he | ⟨i,he⟩ <;> (rw [he] at this ⊢;exact this)
  ·exact St.outObj (L:=L' ++ [.obj rb (.deferred (some []))]) (by simpa using g3) K4
theorem wEK {rs:Array ResultVar} {R:Value->World->Prop} {rbs:List Nat} {e:Exit} (he:e=.normal \/ e=.ret) (hS:St B φ (L ++ rbs.map fun rb=>.obj rb (.deferred (some []))) w)
  (k:∀ w',St B φ L w'->∃ v,(wDU rs σ).run P w'=.ok v w'/\R v w'):retM P rs R (rbs.map Go.KX.mark) e σ w:=by
 have hn:rbs.Nodup:=by
  rw [List.Nodup,List.pairwise_iff_getElem]
  intro i j hi hj hij e
  have at_:∀ (i:Nat) (h:i < rbs.length),(L ++ rbs.map fun rb=>Res.obj rb (.deferred (some [])))[L.length + i]?=some (.obj rbs[i] (.deferred (some []))):=fun i h=>by
   rw [nP (by omega),show L.length + i - L.length=i by omega,nZ,nj h]
   rfl
  have:=hS.dj _ _ _ _ rbs[i] (at_ i hi) (at_ j hj) rfl (by rw [e];rfl)
  omega
 have fin:∃ rbs':List Nat,rbs.map Go.KX.mark=rbs'.map Go.KX.mark/\rbs'.Nodup/\(∀ rb ∈ rbs',Dfr w rb)/\∀ w',Keep w w' (· ∈ rbs')->w'.heap.size=w.heap.size->∃ v,(wDU rs σ).run P w'=.ok v w'/\R v w' :=
  ⟨rbs,rfl,hn,fun rb hrb=>hS.at_ (.obj rb (.deferred (some []))) (nq _ (kQ.2 ⟨rb,hrb,rfl⟩)),fun w' K _=>k w' (hS.outs K)⟩
 rcases he with rfl | rfl
 ·exact fin
 ·exact fin
end
end Go.KL
namespace Go.KL
def wQx (l:List Int):Option (List Int):=if l.length < 4611686018427387904 then some (l.mergeSort fun x y=>decide (x <= y)) else none
def ltB {α:Type} (h:α × α->Option Int) (x y:α):Bool:=match h (x,y) with
 | some n=>decide (n < 0)
 | none=>false
def Cmp {α:Type} (h:α × α->Option Int) (l:List α):Prop :=
 l.length < 4611686018427387904/\(∀ x ∈ l,∀ y ∈ l,(h (x,y)).isSome=true)/\(∀ x ∈ l,ltB h x x=false)/\(∀ x ∈ l,∀ y ∈ l,∀ z ∈ l,ltB h x y=true->ltB h y z=true->ltB h x z=true) /\
  (∀ x ∈ l,∀ y ∈ l,∀ z ∈ l,ltB h x y=false->ltB h y z=false->ltB h x z=false)/\(∀ x ∈ l,∀ y ∈ l,ltB h x y=false->ltB h y x=false->x=y)
open Classical in
noncomputable def wLw {α:Type} (h:α × α->Option Int) (l:List α):Option (List α):=if Cmp h l then some (l.mergeSort fun x y=>!ltB h y x) else none
theorem wNi {α:Type} {h:α × α->Option Int} {l r:List α} (e:wLw h l=some r):Cmp h l/\r=l.mergeSort fun x y=>!ltB h y x:=by
 unfold wLw at e
 split at e
 ·rename_i c
  exact ⟨c,(Option.some.inj e).symm⟩
 ·cases e
theorem wMl {α:Type} {h:α × α->Option Int} {l:List α} (c:Cmp h l):wLw h l=some (l.mergeSort fun x y=>!ltB h y x):=if_pos c
end Go.KL
namespace Go.KL
open Go.RowKit
section
variable {B:Base} {φ:PHeap} {L:List Res} {w:World}
theorem St.cutRowM {α:Type} {enc:α->List Value} {m:List α} {k c T sz b:Nat} {A:Option Addr} (h:St B φ L w) (hk:L[k]?=some (.row A c T sz (kG enc m))):St B φ (L.set k (.row A c T sz (kG enc (m.take b)))) w :=
 h.cutRow (a:=kG enc (m.take b)) (d:=kG enc (m.drop b)) (by rw [<- List.flatMap_append,List.take_append_drop];exact hk)
end
section
variable {P:Program} {N:Nat} {l:List Oper} {Q:wEB} {D:List Deferred} {ks:List Nat} {s:Sch} {σ:Env} {w:World} {B:Base} {φ:PHeap} {L:List Res} {i d:Nat} {o:Oper}
theorem wJT (v:Value) (n:Nat):Builtin.zeroCells #[v] n=(nI n v).toArray:=by
 apply nJ
 simp [Builtin.zeroCells,Nat.mod_one,List.map_const']
def appZ {α:Type} (bytes:Nat) (n:Int) (z:α):Option (List α):=if 0 < n/\n * bytes <= 140737488355328/\n <= 1099511627776 then some (nI n.toNat z) else none
theorem OKS.appendZ {α:Type} {t tn e:TypeId} {inf:TypeInfo} {v:Value} {x y:Operand} {n:Int} {bytes:Nat} {enc:α->List Value} {z:α} {xs:List α}
  (ho:l[i]?=some o) (hd:o.dst=some d) (hN:nR d N=true) (hw:wanted l σ o=true) (hop:o.op=.call { callee:=.builtin .append,args:=#[x,y],argTypes:=#[t,tn] })
  (ht:P.underlying t=some (.slice e)) (htn:P.underlying tn=some (.int .i64)) (hi:P.info? e=some inf) (hz:inf.zero=some v) (hc:v.cells=#[v]) (hs:inf.size=1) (hby:inf.bytes=bytes) (henc:enc z=[v])
  (hS:St B φ L w) (hx:ev σ x=.slice none 0 0) (hy:ev σ y=.int .i64 n) (hm:appZ bytes n z=some xs) (hne:wHa (kOf ks i)=false)
  (k:∀ w' A c,St B φ (.row A c e 1 (kG enc xs) :: L) w'->OKS N P l Q D ks s (upd σ d (.slice A xs.length c)) w'):OKS N P l Q D ks (.fx i s .stop) σ w:=by
 unfold appZ at hm
 split at hm
 ·rename_i h
  obtain ⟨h0,h1,h2⟩:=h
  cases hm
  obtain ⟨m,rfl⟩:=Int.eq_ofNat_of_zero_le (Int.le_of_lt h0)
  subst hby
  have h1':m * inf.bytes <= 140737488355328:=by
   have:=h1
   rw [<- kW] at this
   omega
  have hr:=Lib.run_append_grow_zeros (P:=P) w t tn o.type e inf v .i64 .i64 ht htn hi hz none 0 0 [] (run_firstCells_none w.drew inf.size 0 0 0) m (by omega) (by omega) (by omega) (by omega) (by omega) (by rw [kj];exact growslice_fits (by omega) h1')
  have hG:=grownCap_ge w (0 + m) 0 e
  have hG2:=grownCap_le_maxLen w (0 + m) 0 e (by unfold maxLen;omega)
  generalize grownCap w (0 + m) 0 e=G at hr hG hG2
  have ec:(([]:List Value).toArray ++ Builtin.zeroCells v.cells m ++ Builtin.zeroCells v.cells (G - (0 + m)))=(nI G v).toArray:=by
   rw [hc,wJT,wJT,kf,kf,nX,List.replicate_append_replicate,show m + (G - (0 + m))=G by omega]
  rw [ec,kj] at hr
  simp only [np,List.length_replicate,wEY henc] at k
  have hk:=(Keep.drew w).trans' (wBF w.drew (.cells (nI G v).toArray e))
  refine OKS.v (v:=.slice (some ⟨w.heap.size,0,none⟩) m G) (w':=w.drew.alloc (.cells (nI G v).toArray e)) ho hd hN hw ⟨by rw [hop];rfl,?_⟩ (.inl hne) ?_
  ·simp [execOp,hop,resolve,invoke,builtin,hx,hy,hr,Result.andThen]
  ·exact k (w.drew.alloc (.cells (nI G v).toArray e)) (some ⟨w.heap.size,0,none⟩) G (hS.new hk (.inr ⟨_,(nI G v).toArray,rfl,wEH w.drew _ e,by simp;omega,hG2,by simp,by simp [List.take_replicate];omega⟩) rfl (nG _))
 ·cases hm
theorem Runs.capn {t e:TypeId} {x:Operand} (ho:o.op=.call { callee:=.builtin .cap,args:=#[x],argTypes:=#[t] }) (hx:ev σ x=.slice none 0 0)
  (ht:∀ w,(underlying t).run P w=.ok (.slice e) w):Runs P σ w o (.int .i64 0) w :=
 ⟨by rw [ho];rfl,by simp [execOp,ho,resolve,invoke,builtin,Builtin.cap_,hx,ht,goInt]⟩
theorem slc0 {A:Option Addr} {c sz:Nat}:kq (if c=(0:Int).toNat then A else A.map (·.add ((0:Int).toNat * sz))) ((0:Int).toNat - (0:Int).toNat) (c - (0:Int).toNat)=.slice A 0 c:=by
 have:A.map (·.add ((0:Int).toNat * sz))=A:=by
  cases A with
  | none=>rfl
  | some a=>simp [Addr.add]
 rw [this]
 simp
end
end Go.KL
namespace Go.KL
open Go.RowKit
section
variable {K V:Type} [DecidableEq K] {P:Program} {σ:Env} {o:Oper} {B:Base} {φ φ':PHeap} {L:List Res} {w:World} {m ck:Nat} {es:Array MapEntry} {mk:K->Value} {mv:V->Value} {t:List (K × V)}
def MpF {K V:Type} (φ:PHeap) (m:Nat) (es:Array MapEntry) (ck:Nat) (mk:K->Value) (mv:V->Value) (l:List (K × V)):Prop:=φ m=some (.map es ck)/\MpR es mk mv l
theorem MpF.le {K V:Type} {mk:K->Value} {mv:V->Value} {t:List (K × V)} (h:MpF φ m es ck mk mv t) (l:PHeap.Le φ φ'):MpF φ' m es ck mk mv t:=⟨l _ _ h.1,h.2⟩
theorem St.freezeM {K V:Type} {mk:K->Value} {mv:V->Value} {t:List (K × V)} (h:St B φ L w) {k:Nat} (hk:L[k]?=some (.obj m (.map es ck))) (hr:MpR es mk mv t) :
  ∃ φ',PHeap.Le φ φ'/\MpF φ' m es ck mk mv t/\St B φ' (L.eraseIdx k) w:=by
 obtain ⟨φ',h1,h2,h3⟩:=h.freezeO hk
 exact ⟨φ',h1,⟨h2,hr⟩,h3⟩
theorem St.lookupF1 {mt kt et:TypeId} {x y:Operand} {a:K} {z:V} (hS:St B φ L w) (hF:MpF φ m es ck mk mv t) (hop:o.op=.lookup mt x y false) (hx:ev σ x=.map (some m)) (hy:ev σ y=mk a)
  (hu:P.underlying mt=some (.map kt et)) (R:KeyR P kt mk) (hz:∀ w,(zeroValue et).run P w=.ok (mv z) w):wFw P σ w o (mv (wCt t a z)):=by
 intro w' kw
 refine ⟨by rw [hop];rfl,?_⟩
 have hf:=R.find mv es.toList t a w' hF.2
 have hm:=(hS.grow kw).fro _ _ hF.1
 have hg:=wFy t a 0
 unfold wCt
 simp [execOp,hop,hx,hy,Instr.lookup,run_underlying hu,MapKept.run_getObj_map hm,R.chk,hf,Result.andThen,<- hg]
 cases e:wDY t a 0 <;> simp [hz,Result.andThen]
end
end Go.KL
namespace Go.KX
open Go.RowKit Go.KL
structure Gh where
 N:Nat
 σ:Env
 t:List Nat
 ac:Code
 bc:Code
 rb:Nat
 fn:FuncId
def g0:Gh:=⟨0,fun _=>undef,[],.skip,.skip,0,0⟩
structure Cl where
 b:Nat
 c:Nat
 g:Gh
abbrev Mu:=Pos->Option Cl
mutual
def Rv (μ:Mu):AV->Value->Prop
 | .int k n,v=>v=.int k n
 | .bool b,v=>v=.bool b
 | .ptr b off,v=>∃ c,μ b=some c/\v=.pointer (some ⟨c.1,off,none⟩)
 | .pnil,v=>v=.pointer none
 | .sl b off n c,v=>∃ d,μ b=some d/\n <= c/\v=.slice (some ⟨d.1,off,none⟩) n c
 | .rw b eo co n,v=>∃ d,μ b=some d/\eo + n <= d.2/\v=.slice (some ⟨d.1,co,none⟩) n (d.2 - eo)
 | .rz b eo,v=>∃ d,μ b=some d/\∃ o,v=.slice (some ⟨d.1,o,none⟩) 0 (d.2 - eo)
 | .snil,v=>v=.slice none 0 0
 | .map b,v=>∃ c,μ b=some c/\v=.map (some c.1)
 | .mnil,v=>v=.map none
 | .fn f fi ca,v=>∃ fv cv,RvL μ fi fv/\RvL μ ca cv/\v=.func (.func (f.nat - 1)) fv.toArray cv.toArray
 | .yld b,v=>∃ c,μ b=some c/\v=.func (.yield c.1) #[] #[]
 | .fnil,v=>v=.nilFunc
 | .agg l,v=>∃ vs,RvL μ l vs/\v=.agg vs.toArray
 | .tup l,v=>∃ vs,RvL μ l vs/\v=.tuple vs.toArray
def RvL (μ:Mu):List AV->List Value->Prop
 | [],vs=>vs=[]
 | a :: l,vs=>∃ v ws,Rv μ a v/\RvL μ l ws/\vs=v :: ws
end
def Mu.Le (μ μ':Mu):Prop:=∀ p c,μ p=some c->μ' p=some c
theorem Mu.Le.refl (μ:Mu):μ.Le μ:=fun _ _ h=>h
theorem Mu.Le.trans {a b c:Mu} (h:a.Le b) (k:b.Le c):a.Le c:=fun p x hx=>k p x (h p x hx)
mutual
theorem Rv.mono {μ μ':Mu} (hm:μ.Le μ'):∀ {a:AV} {v:Value},Rv μ a v->Rv μ' a v
 | .int _ _,_,h=>h
 | .bool _,_,h=>h
 | .ptr _ _,_,⟨c,h1,h2⟩=>⟨c,hm _ _ h1,h2⟩
 | .pnil,_,h=>h
 | .sl _ _ _ _,_,⟨c,h1,h2⟩=>⟨c,hm _ _ h1,h2⟩
 | .rw _ _ _ _,_,⟨c,h1,h2⟩=>⟨c,hm _ _ h1,h2⟩
 | .rz _ _,_,⟨c,h1,h2⟩=>⟨c,hm _ _ h1,h2⟩
 | .snil,_,h=>h
 | .map _,_,⟨c,h1,h2⟩=>⟨c,hm _ _ h1,h2⟩
 | .mnil,_,h=>h
 | .fn _ _ _,_,⟨fv,cv,h1,h2,h3⟩=>⟨fv,cv,RvL.mono hm h1,RvL.mono hm h2,h3⟩
 | .yld _,_,⟨c,h1,h2⟩=>⟨c,hm _ _ h1,h2⟩
 | .fnil,_,h=>h
 | .agg _,_,⟨vs,h1,h2⟩=>⟨vs,RvL.mono hm h1,h2⟩
 | .tup _,_,⟨vs,h1,h2⟩=>⟨vs,RvL.mono hm h1,h2⟩
theorem RvL.mono {μ μ':Mu} (hm:μ.Le μ'):∀ {l:List AV} {vs:List Value},RvL μ l vs->RvL μ' l vs
 | [],_,h=>h
 | _ :: _,_,⟨v,ws,h1,h2,h3⟩=>⟨v,ws,Rv.mono hm h1,RvL.mono hm h2,h3⟩
end
theorem wIQ {μ:Mu}:RvL μ [] []:=rfl
theorem wCD {μ:Mu} {a:AV} {l:List AV} {v:Value} {vs:List Value} (h:Rv μ a v) (h':RvL μ l vs):RvL μ (a :: l) (v :: vs):=⟨v,vs,h,h',rfl⟩
theorem wDl {μ:Mu}:∀ {l:List AV} {vs:List Value},RvL μ l vs->vs.length=l.length
 | [],_,h=>by cases h;rfl
 | _ :: _,_,⟨_,_,_,h2,h3⟩=>by subst h3;simp [wDl h2]
theorem wEt {μ:Mu}:∀ {l k:List AV} {vs ws:List Value},RvL μ l vs->RvL μ k ws->RvL μ (l ++ k) (vs ++ ws)
 | [],_,_,_,h,h'=>by cases h;exact h'
 | _ :: _,_,_,_,⟨v,ws,h1,h2,h3⟩,h'=>by subst h3;exact wCD h1 (wEt h2 h')
theorem wGE {μ:Mu}:∀ {l:List AV} {vs:List Value},RvL μ l vs->∀ {i:Nat} {a:AV},l[i]?=some a->∃ v,vs[i]?=some v/\Rv μ a v
 | [],_,_,i,a,hi=>by simp at hi
 | b :: l,_,⟨v,ws,h1,h2,h3⟩,i,a,hi=>by
  subst h3
  cases i with
  | zero=>simp at hi;subst hi;exact ⟨v,rfl,h1⟩
  | succ i=>simpa using wGE h2 (i:=i) (by simpa using hi)
theorem wJv {μ:Mu}:∀ {l:List AV} {vs:List Value} (n:Nat),RvL μ l vs->RvL μ (l.drop n) (vs.drop n)
 | _,_,0,h=>h
 | [],_,n + 1,h=>by cases h;exact rfl
 | _ :: _,_,n + 1,⟨_,_,_,h2,h3⟩=>by subst h3;exact wJv n h2
theorem wJw {μ:Mu}:∀ {l:List AV} {vs:List Value} (n:Nat),RvL μ l vs->RvL μ (l.take n) (vs.take n)
 | _,_,0,_=>rfl
 | [],_,n + 1,h=>by cases h;exact rfl
 | _ :: _,_,n + 1,⟨_,_,h1,h2,h3⟩=>by subst h3;exact wCD h1 (wJw n h2)
theorem wIR {μ:Mu} {l:List AV} {vs:List Value} (h:RvL μ l vs):∀ n,RvL μ (rep n l) (nI n vs).flatten
 | 0=>rfl
 | n + 1=>by rw [List.replicate_succ,List.flatten_cons];exact wEt h (wIR h n)
section
variable {α:Type}
theorem wHY:∀ (l:List α) (n:Nat),nth l n=l[n]?
 | [],_=>rfl
 | _ :: _,0=>rfl
 | _ :: l,n + 1=>by show nth l n=_;rw [wHY l n];simp
theorem wFQ:∀ (l:List α),len l=l.length
 | []=>rfl
 | _ :: l=>by show Nat.succ (len l)=_;rw [wFQ l];rfl
theorem wHC {a:α} {o:Option (List α)} {r:List α} (h:wLg a o=some r):∃ r',o=some r'/\r=a :: r':=by
 cases o with
 | none=>cases h
 | some r'=>cases h;exact ⟨r',rfl,rfl⟩
theorem wLz:∀ {l:List α} {n:Nat} {r:List α},tk l n=some r->r=l.take n/\n <= l.length
 | [],0,r,h=>by cases h;simp
 | [],n + 1,r,h=>by cases h
 | a :: l,0,r,h=>by cases h;simp
 | a :: l,n + 1,r,h=>by
  obtain ⟨r',h1,rfl⟩:=wHC (show wLg a (tk l n)=some r from h)
  obtain ⟨h2,h3⟩:=wLz h1
  simp [h2,h3]
theorem wMn:∀ {l:List α} {off n:Nat} {r:List α},sub l off n=some r->r=(l.drop off).take n/\off + n <= l.length
 | [],0,n,r,h=>by have:=wLz (l:=[]) (n:=n) h;simpa using this
 | [],off + 1,n,r,h=>by cases h
 | a :: l,0,n,r,h=>by have:=wLz (l:=a :: l) (n:=n) h;simpa using this
 | a :: l,off + 1,n,r,h=>by
  obtain ⟨h1,h2⟩:=wMn (show sub l off n=some r from h)
  exact ⟨by simpa using h1,by simp;omega⟩
theorem wMA:∀ {l vs r:List α},ov l vs=some r->vs.length <= l.length/\r=vs ++ l.drop vs.length
 | [],[],r,h=>by cases h;simp
 | [],v :: vs,r,h=>by cases h
 | a :: l,[],r,h=>by cases h;simp
 | a :: l,v :: vs,r,h=>by
  obtain ⟨r',h1,rfl⟩:=wHC (show wLg v (ov l vs)=some r from h)
  obtain ⟨h2,h3⟩:=wMA h1
  subst h3
  exact ⟨by simpa using h2,by simp⟩
theorem wKx:∀ {l:List α} {off:Nat} {vs r:List α},wSY l off vs=some r->off + vs.length <= l.length/\r=l.take off ++ vs ++ l.drop (off + vs.length)
 | [],0,vs,r,h=>by have:=wMA (l:=[]) h;simp at this;simp [this]
 | [],off + 1,vs,r,h=>by cases h
 | a :: l,0,vs,r,h=>by have:=wMA (l:=a :: l) h;simp at this;simp [this]
 | a :: l,off + 1,vs,r,h=>by
  obtain ⟨r',h1,rfl⟩:=wHC (show wLg a (wSY l off vs)=some r from h)
  obtain ⟨h2,h3⟩:=wKx h1
  subst h3
  refine ⟨by simp;omega,?_⟩
  rw [show off + 1 + vs.length=(off + vs.length) + 1 from by omega]
  simp
end
theorem wPP:∀ (vs l:List Value) (off:Nat),off + vs.length <= l.length->wGa l off vs=l.take off ++ vs ++ l.drop (off + vs.length)
 | [],l,off,_=>by simp [wGa]
 | v :: vs,l,off,h=>by
  simp only [List.length_cons] at h
  have hlt:off < l.length:=by omega
  rw [wGa,wPP vs (l.set off v) (off + 1) (by simp;omega)]
  have h1:(l.set off v).take (off + 1)=l.take off ++ [v]:=by
   rw [List.take_set,List.take_add_one,nj hlt]
   rw [List.set_append_right _ _ (by simp;omega)]
   simp [Nat.min_eq_left (Nat.le_of_lt hlt)]
  rw [h1,List.drop_set_of_lt (by omega)]
  rw [show off + 1 + vs.length=off + (v :: vs).length from by simp;omega]
  simp
theorem wJx {μ:Mu} {l vs r:List AV} {L V:List Value} {off:Nat} (h:wSY l off vs=some r) (hl:RvL μ l L) (hv:RvL μ vs V):off + V.length <= L.length/\RvL μ r (wGa L off V):=by
 obtain ⟨h1,rfl⟩:=wKx h
 have e1:=wDl hl
 have e2:=wDl hv
 have h2:off + V.length <= L.length:=by omega
 refine ⟨h2,?_⟩
 rw [wPP V L off h2,e2]
 exact wEt (wEt (wJw off hl) hv) (wJv _ hl)
theorem wGF {μ:Mu} {l r:List AV} {L:List Value} {off n:Nat} (h:sub l off n=some r) (hl:RvL μ l L):RvL μ r ((L.drop off).take n)/\off + n <= L.length:=by
 obtain ⟨rfl,h1⟩:=wMn h
 have e1:=wDl hl
 exact ⟨wJw n (wJv off hl),by omega⟩
theorem wUV {μ:Mu} {a:AV} {v:Value} (h:Rv μ a v) (h1:a.one=true):one v=true:=by
 cases a <;> simp only [Rv] at h <;> first | (cases h1;done) | (subst h;rfl) | (obtain ⟨_,_,_,_,_,rfl⟩:=h;rfl) | (obtain ⟨_,_,_,_,rfl⟩:=h;rfl) | (obtain ⟨_,_,_,rfl⟩:=h;rfl) | (obtain ⟨_,_,rfl⟩:=h;rfl)
theorem wEu {μ:Mu}:∀ {l:List AV} {vs:List Value},RvL μ l vs->wSZ l=true->∀ v ∈ vs,one v=true
 | [],_,h,_=>by cases h;simp
 | a :: l,_,⟨v,ws,h1,h2,h3⟩,ho=>by
  subst h3
  have ho:(a.one && wSZ l)=true:=ho
  rw [nA] at ho
  intro u hu
  rcases ny.1 hu with rfl | hu
  ·exact wUV h1 ho.1
  ·exact wEu h2 ho.2 u hu
theorem wHn {μ:Mu} {a:AV} {v:Value} (h:Rv μ a v):∃ vs,RvL μ a.cells vs/\v.cells=vs.toArray:=by
 cases a with
 | agg l=>obtain ⟨vs,h1,rfl⟩:=h;exact ⟨vs,h1,rfl⟩
 | tup l=>obtain ⟨vs,h1,rfl⟩:=h;exact ⟨[_],wCD ⟨vs,h1,rfl⟩ wIQ,rfl⟩
 | _ =>
  refine ⟨[v],wCD h wIQ,?_⟩
  simp only [Rv] at h
  first | (subst h;rfl) | (obtain ⟨_,_,_,_,_,rfl⟩:=h;rfl) | (obtain ⟨_,_,_,_,rfl⟩:=h;rfl) | (obtain ⟨_,_,_,rfl⟩:=h;rfl) | (obtain ⟨_,_,rfl⟩:=h;rfl)
end Go.KX
namespace Go.KX
noncomputable section
open Go.RowKit Go.KL
def EnvR (μ:Mu) (σA:Tr AV) (σ:Env):Prop:=∀ p:Pos,Rv μ (evA σA (.t p)) (σ (p.nat - 1))
theorem wMB (σA:Tr AV) (p:Pos):evA σA (.t p)=(σA.get p).getD u:=by
 show Option.rec (motive:=fun _=>AV) u (fun v=>v) (σA.get p)=_
 cases σA.get p <;> rfl
theorem EnvR.mono {μ μ':Mu} {σA:Tr AV} {σ:Env} (h:EnvR μ σA σ) (hm:μ.Le μ'):EnvR μ' σA σ:=fun p=>(h p).mono hm
theorem EnvR.put {μ:Mu} {σA:Tr AV} {σ:Env} (h:EnvR μ σA σ) {p:Pos} {a:AV} {v:Value} (hv:Rv μ a v):EnvR μ (σA.set p a) (upd σ (p.nat - 1) v):=by
 intro q
 rw [wMB,Tr.get_set]
 by_cases e:q=p
 ·subst e;rw [if_pos rfl,wCe];exact hv
 ·rw [if_neg e,wCb,<- wMB]
  ·exact h q
  ·intro e2
   have:=p.nat_pos;have:=q.nat_pos
   exact e (Pos.nat_inj (by omega))
theorem wPQ (μ:Mu):Rv μ u undef:=⟨[],rfl,rfl⟩
theorem wMo {μ:Mu}:∀ {args:List AV} {vs:List Value},RvL μ args vs->∀ {p:Pos} {t:Tr AV} {σ σ':Env},EnvR μ t σ->(∀ i,i < p.nat - 1->σ' i=σ i)->(∀ j v,vs[j]?=some v->σ' (p.nat - 1 + j)=v) ->
  (∀ i,p.nat - 1 + vs.length <= i->σ' i=σ i)->EnvR μ (wNh args p t) σ'
 | [],_,h,p,t,σ,σ',hE,h1,_,h3=>by
  cases h
  intro q
  have:=hE q
  by_cases e:q.nat - 1 < p.nat - 1
  ·rw [h1 _ e];exact this
  ·rw [h3 _ (by simp;omega)];exact this
 | a :: l,_,⟨v,ws,h1,h2,h3⟩,p,t,σ,σ',hE,g1,g2,g3=>by
  subst h3
  have hp:=p.nat_pos
  refine wMo h2 (p:=p.succ) (hE.put (p:=p) h1) ?_ ?_ ?_
  ·intro i hi
   rw [Pos.nat_succ] at hi
   by_cases e:i=p.nat - 1
   ·subst e;rw [wCe];exact g2 0 v rfl
   ·rw [wCb _ _ e];exact g1 i (by omega)
  ·intro j x hx
   rw [Pos.nat_succ]
   have:=g2 (j + 1) x (by simpa using hx)
   rw [<- this];congr 1;omega
  ·intro i hi
   rw [Pos.nat_succ] at hi
   rw [wCb _ _ (by omega)]
   exact g3 i (by simp;omega)
theorem wSf {μ:Mu} {args:List AV} {vs:List Value} (h:RvL μ args vs):EnvR μ (wNh args .H .e) (wRs vs):=by
 have h0:EnvR μ .e (fun _=>undef):=by intro p;rw [wMB,Tr.get_e];exact wPQ μ
 refine wMo h (p:=.H) h0 (fun i hi=>by simp [Pos.nat] at hi) (fun j v hv=>?_) (fun i hi=>?_)
 ·simp [wRs,Pos.nat,hv]
 ·simp only [Pos.nat] at hi
  simp [wRs,kC (by omega:vs.length <= i)]
mutual
def okc:AV->Value->Bool
 | .int k n,.int k' n'=>keq k k' && zeq n n'
 | .bool b,.bool b'=>b == b'
 | .pnil,.pointer none=>true
 | .snil,.slice none 0 0=>true
 | .mnil,.map none=>true
 | .fnil,.nilFunc=>true
 | .agg l,.agg vs=>wRB l vs.toList
 | .tup l,.tuple vs=>wRB l vs.toList
 | _,_=>false
def wRB:List AV->List Value->Bool
 | [],[]=>true
 | a :: l,v :: vs=>okc a v && wRB l vs
 | _,_=>false
end
theorem wMp:∀ {a b:Int},zeq a b=true ↔ a=b
 | .ofNat a,.ofNat b=>by simp [zeq];omega
 | .negSucc a,.negSucc b=>by simp [zeq]
 | .ofNat a,.negSucc b=>by simp [zeq]
 | .negSucc a,.ofNat b=>by simp [zeq]
theorem wEv (a b:Int):zeq a b=decide (a=b):=by
 by_cases h:a=b
 ·rw [wMp.2 h];simp [h]
 ·have:zeq a b ≠ true:=fun e=>h (wMp.1 e)
  simp [h,kO.2 this]
theorem wIS:∀ (a b:Int),zlt a b=decide (a < b)
 | .ofNat a,.ofNat b=>by
  simp only [zlt,ng,Int.ofNat_lt]
  by_cases h:a < b
  ·simp [h,nH]
  ·simp [h,kO,nH]
 | .negSucc a,.negSucc b=>by
  simp only [zlt,kJ]
  by_cases h:b < a
  ·have h2:-((a:Int) + 1) < -((b:Int) + 1):=by omega
   simp [h2,nH];exact h
  ·have h2:¬ -((a:Int) + 1) < -((b:Int) + 1):=by omega
   simp [h2,kO,nH];omega
 | .ofNat a,.negSucc b=>by
  simp only [zlt,kJ,ng]
  have h2:¬ (a:Int) < -((b:Int) + 1):=by omega
  simp [h2]
 | .negSucc a,.ofNat b=>by
  simp only [zlt,kJ,ng]
  have h2:-((a:Int) + 1) < (b:Int):=by omega
  simp [h2]
theorem wPR (a b:Int):zle a b=decide (a <= b):=by
 rw [zle,wIS]
 by_cases h:a <= b
 ·simp [h,Int.not_lt.2 h]
 ·simp [h,Int.not_le.1 h]
theorem wCJ {a b:IntKind} (h:keq a b=true):a=b:=by cases a <;> cases b <;> first | rfl | cases h
mutual
theorem wPS (μ:Mu):∀ {a:AV} {v:Value},okc a v=true->Rv μ a v
 | .int k n,v,h=>by
  cases v <;> simp only [okc,nA,nS] at h
  rw [wCJ h.1,wMp.1 h.2];rfl
 | .bool b,v,h=>by
  cases v <;> simp only [okc,beq_iff_eq,nS] at h
  subst h;rfl
 | .pnil,v,h=>by
  unfold okc at h
  split at h <;> first | rfl | (exfalso;simp_all;done) | simp_all [Rv]
 | .snil,v,h=>by
  unfold okc at h
  split at h <;> first | rfl | (exfalso;simp_all;done) | simp_all [Rv]
 | .mnil,v,h=>by
  unfold okc at h
  split at h <;> first | rfl | (exfalso;simp_all;done) | simp_all [Rv]
 | .fnil,v,h=>by
  cases v <;> simp only [okc,nS] at h
  rfl
 | .agg l,v,h=>by
  cases v <;> simp only [okc,nS] at h
  exact ⟨_,wHD μ h,by simp⟩
 | .tup l,v,h=>by
  cases v <;> simp only [okc,nS] at h
  exact ⟨_,wHD μ h,by simp⟩
 | .ptr _ _,v,h=>by simp [okc] at h
 | .sl _ _ _ _,v,h=>by simp [okc] at h
 | .rw _ _ _ _,v,h=>by simp [okc] at h
 | .rz _ _,v,h=>by simp [okc] at h
 | .map _,v,h=>by simp [okc] at h
 | .fn _ _ _,v,h=>by simp [okc] at h
 | .yld _,v,h=>by simp [okc] at h
theorem wHD (μ:Mu):∀ {l:List AV} {vs:List Value},wRB l vs=true->RvL μ l vs
 | [],[],_=>rfl
 | a :: l,v :: vs,h=>by
  simp only [wRB,nA] at h
  exact wCD (wPS μ h.1) (wHD μ h.2)
 | [],_ :: _,h=>by simp [wRB] at h
 | _ :: _,[],h=>by simp [wRB] at h
end
def wCu:AOd->Operand->Bool
 | .t p,.tmp t=>nD p.nat (t + 1)
 | .c a,.const v=>okc a v
 | .c (.fn f [] []),.func g=>nD f.nat (g + 1)
 | _,_=>false
def wKy:List AOd->List Operand->Bool
 | [],[]=>true
 | x :: l,y :: k=>wCu x y && wKy l k
 | _,_=>false
theorem wAP {μ:Mu} {σA:Tr AV} {σ:Env} {x:AOd} {y:Operand} (h:wCu x y=true) (hE:EnvR μ σA σ):Rv μ (evA σA x) (ev σ y):=by
 unfold wCu at h
 split at h
 ·rename_i p t
  have:=nB h
  have h2:=hE p
  rw [this] at h2
  exact h2
 ·exact wPS μ h
 ·rename_i f g
  have:=nB h
  exact ⟨[],[],rfl,rfl,by show Value.func (.func g) #[] #[]=_;rw [this];rfl⟩
 ·cases h
theorem wHo {μ:Mu} {σA:Tr AV} {σ:Env}:∀ {l:List AOd} {k:List Operand},wKy l k=true->EnvR μ σA σ->RvL μ (evs σA l) (k.map (ev σ))
 | [],[],_,_=>rfl
 | x :: l,y :: k,h,hE=>by
  simp only [wKy,nA] at h
  exact wCD (wAP h.1 hE) (wHo h.2 hE)
 | [],_ :: _,h,_=>by simp [wKy] at h
 | _ :: _,[],h,_=>by simp [wKy] at h
def MR {K:Type} (μ:Mu) (l:List (K × AV)) (t:List (K × Value)):Prop:=l.map (·.1)=t.map (·.1)/\RvL μ (l.map (·.2)) (t.map (·.2))
def mk2 (k:IntKind) (x:Int × Int):Value:=.agg #[.int k x.1,.int k x.2]
def exC:Ex->Exit
 | .nrm=>.normal
 | .exit i=>.exit i
 | .ret=>.ret
def lsC:LS->LoopState × Option Code
 | .ready=>(.ready,none)
 | .busy=>(.busy,none)
 | .done .ret=>(.done,some .ret)
 | .done (.exit i)=>(.done,some (.exit i))
 | .done .nrm=>(.ready,none)
abbrev Chk:=AC->Code->Nat->Prop
structure wNj (C:Chk) (μ:Mu) (w:World) (c:Cl) (σA:Tr AV) (t:List Pos) (asg body:AC) (s:LS):Prop where
 at_:LoopAt w c.1 c.g.N c.g.σ c.g.t c.g.ac c.g.bc c.g.rb c.g.fn (lsC s).1 (lsC s).2
 env:EnvR μ σA c.g.σ
 ht:t.map Pos.nat=c.g.t.map (· + 1)
 tN:∀ x ∈ c.g.t,x < c.g.N
 asg:C asg c.g.ac c.g.N
 body:C body c.g.bc c.g.N
def AbR (C:Chk) (P:Program) (μ:Mu) (w:World) (c:Cl):AB->Prop
 | .cells T l=>∃ vs,RvL μ l vs/\Blk w c.1 T vs
 | .row T sz l=>∃ vs,RvL μ l vs/\RowAt w (some ⟨c.1,0,none⟩) c.2 T sz vs
 | .map0=>∃ ck,w.heap[c.1]?=some (.map #[] ck)
 | .mapI k l=>∃ es ck t,w.heap[c.1]?=some (.map es ck)/\MpR es (fun n:Int=>kL k n) id t/\MR μ l t
 | .map2 k l=>∃ es ck t,w.heap[c.1]?=some (.map es ck)/\MpR es (mk2 k) id t/\MR μ l t
 | .loop σA t asg body s=>wNj C μ w c σA t asg body s
 | .dead=>True
def wNk:AB->Prop
 | .dead=>False
 | _=>True
variable {C:Chk} {P:Program} {μ μ' μ'':Mu} {w w' w'':World} {h h' h'':AH}
theorem MR.mono {K:Type} {l:List (K × AV)} {t:List (K × Value)} (h:MR μ l t) (hm:μ.Le μ'):MR μ' l t:=⟨h.1,h.2.mono hm⟩
theorem AbR.mono {c:Cl} {B:AB} (h:AbR C P μ w c B) (hm:μ.Le μ'):AbR C P μ' w c B:=by
 cases B with
 | cells T l=>obtain ⟨vs,h1,h2⟩:=h;exact ⟨vs,h1.mono hm,h2⟩
 | row T sz l=>obtain ⟨vs,h1,h2⟩:=h;exact ⟨vs,h1.mono hm,h2⟩
 | map0=>exact h
 | mapI k l=>obtain ⟨es,ck,t,h1,h2,h3⟩:=h;exact ⟨es,ck,t,h1,h2,h3.mono hm⟩
 | map2 k l=>obtain ⟨es,ck,t,h1,h2,h3⟩:=h;exact ⟨es,ck,t,h1,h2,h3.mono hm⟩
 | loop σA t asg body s=>exact ⟨h.at_,h.env.mono hm,h.ht,h.tN,h.asg,h.body⟩
 | dead=>trivial
theorem AbR.keep {c:Cl} {B:AB} {X:Nat->Prop} (h:AbR C P μ w c B) (k:Keep w w' X) (hx:¬ X c.1):AbR C P μ w' c B:=by
 cases B with
 | cells T l=>obtain ⟨vs,h1,h2⟩:=h;exact ⟨vs,h1,h2.keep k hx⟩
 | row T sz l =>
  obtain ⟨vs,h1,h2⟩:=h
  refine ⟨vs,h1,?_⟩
  obtain ⟨cur,h3,h4⟩:=RowAt.cells h2
  exact .inr ⟨c.1,cur,rfl,(k.block _ (wAc h3) hx).trans h3,h4⟩
 | map0=>obtain ⟨ck,h1⟩:=h;exact ⟨ck,(k.block _ (wAc h1) hx).trans h1⟩
 | mapI _ l=>obtain ⟨es,ck,t,h1,h2⟩:=h;exact ⟨es,ck,t,(k.block _ (wAc h1) hx).trans h1,h2⟩
 | map2 _ l=>obtain ⟨es,ck,t,h1,h2⟩:=h;exact ⟨es,ck,t,(k.block _ (wAc h1) hx).trans h1,h2⟩
 | loop σA t asg body s=>exact ⟨h.at_.keep k hx,h.env,h.ht,h.tN,h.asg,h.body⟩
 | dead=>trivial
def img (μ:Mu) (fl:Nat) (c:Nat):Prop:=∃ p d,μ p=some d/\d.1=c/\fl <= p.nat
structure Ext (μ:Mu) (fl:Nat) (w:World) (μ':Mu) (w':World):Prop where
 mono:μ.Le μ'
 new:∀ p c,μ' p=some c->μ p=some c \/ img μ fl c.1 \/ w.heap.size <= c.1
 keep:Keep w w' (img μ fl)
theorem Ext.refl (μ:Mu) (fl:Nat) (w:World):Ext μ fl w μ w:=⟨Mu.Le.refl μ,fun _ _ h=>.inl h,Keep.refl w _⟩
theorem Ext.img {fl:Nat} {c:Nat} (E:Ext μ fl w μ' w') (hi:img μ' fl c):KX.img μ fl c \/ w.heap.size <= c:=by
 obtain ⟨p,d,h1,rfl,h2⟩:=hi
 rcases E.new p _ h1 with h3 | h3 | h3
 ·exact .inl ⟨p,d,h3,rfl,h2⟩
 ·exact .inl h3
 ·exact .inr h3
theorem Ext.trans {fl:Nat} (E:Ext μ fl w μ' w') (E':Ext μ' fl w' μ'' w''):Ext μ fl w μ'' w'':=by
 refine ⟨E.mono.trans E'.mono,fun p c hp=>?_,E.keep.step E'.keep fun i hi hm=>?_⟩
 ·rcases E'.new p c hp with h1 | h1 | h1
  ·exact E.new p c h1
  ·exact .inr (E.img h1)
  ·exact .inr (.inr (nV E.keep.size h1))
 ·rcases E.img hm with h1 | h1
  ·exact h1
  ·omega
structure Sim (C:Chk) (P:Program) (μ:Mu) (h:AH) (w:World):Prop where
 nx:∀ p,h.nx.nat <= p.nat->μ p=none
 lt:∀ p c,μ p=some c->c.1 < w.heap.size
 inj:∀ p q a b c d,h.m.get p=some a->h.m.get q=some b->wNk a->wNk b->μ p=some c->μ q=some d->c.1=d.1->p=q
 at_:∀ p b,h.m.get p=some b->∃ c,μ p=some c/\AbR C P μ w c b
theorem Sim.keep (S:Sim C P μ h w) (k:Keep w w' Non):Sim C P μ h w' :=
 ⟨S.nx,fun p c hp=>nQ (S.lt p c hp) k.size,S.inj,fun p b hb=>let ⟨c,h1,h2⟩:=S.at_ p b hb;⟨c,h1,h2.keep k id⟩⟩
theorem Sim.floor (S:Sim C P μ h w) (f:Pos):Sim C P μ ⟨h.m,h.nx,f⟩ w:=⟨S.nx,S.lt,S.inj,S.at_⟩
theorem Sim.non (S:Sim C P μ h w) (E:Ext μ h.nx.nat w μ' w') (fl:Nat):Keep w w' Non/\Ext μ fl w μ' w':=by
 have hn:∀ c,¬ img μ h.nx.nat c:=fun c ⟨p,k,h1,_,h2⟩=>by rw [S.nx p h2] at h1;cases h1
 refine ⟨E.keep.weak fun i _ hi=>hn i hi,E.mono,fun p c hp=>?_,E.keep.weak fun i _ hi=>(hn i hi).elim⟩
 rcases E.new p c hp with h1 | h1 | h1
 ·exact .inl h1
 ·exact (hn _ h1).elim
 ·exact .inr (.inr h1)
theorem wJy {h h':AH} {p:Pos} {B:AB} (hp:h.put p B=some h'):h.fl.nat <= p.nat/\h'=⟨h.m.set p B,h.nx,h.fl⟩:=by
 unfold AH.put at hp
 split at hp
 ·cases hp
 ·rename_i hf
  cases hp
  refine ⟨?_,rfl⟩
  rcases kD p.nat h.fl.nat with hlt | hge
  ·rw [(Pos.ltb_iff p h.fl false).2 (.inl hlt)] at hf;cases hf
  ·exact hge
theorem Sim.put {p:Pos} {B B':AB} {c:Cl} (S:Sim C P μ h w) (hp:h.put p B'=some h') (hB:h.m.get p=some B) (hl:wNk B) (hc:μ p=some c) (K:Keep w w' (·=c.1)) (hB':AbR C P μ w' c B') :
  Sim C P μ h' w'/\Ext μ h.fl.nat w μ w'/\h'.fl=h.fl:=by
 obtain ⟨hf,rfl⟩:=wJy hp
 refine ⟨⟨S.nx,fun p c hp=>nQ (S.lt p c hp) K.size,?_,?_⟩,⟨Mu.Le.refl μ,fun _ _ h=>.inl h,K.weak fun i _ e=>⟨p,c,hc,e.symm,hf⟩⟩,rfl⟩
 ·intro q r a b d e hq hr la lb hd he hde
  simp only [Tr.get_set] at hq hr
  split at hq <;> split at hr
  ·rename_i h1 h2;rw [h1,h2]
  ·rename_i h1 h2;exact (S.inj q r B b d e (h1 ▸ hB) hr hl lb hd he hde)
  ·rename_i h1 h2;exact (S.inj q r a B d e hq (h2 ▸ hB) la hl hd he hde)
  ·exact S.inj q r a b d e hq hr la lb hd he hde
 ·intro q b hq
  simp only [Tr.get_set] at hq
  split at hq
  ·rename_i h1;subst h1;cases hq;exact ⟨c,hc,hB'⟩
  ·rename_i h1
   obtain ⟨d,h2,h3⟩:=S.at_ q b hq
   refine ⟨d,h2,?_⟩
   by_cases lb:wNk b
   ·exact h3.keep K fun e=>h1 (S.inj q p b B d c hq hB lb hl h2 hc e)
   ·cases b <;> first | trivial | exact (lb trivial).elim
def Mu.add (μ:Mu) (p:Pos) (c:Cl):Mu:=fun q=>if q=p then some c else μ q
theorem Mu.add_le {p:Pos} {c:Cl} (hn:μ p=none):μ.Le (μ.add p c):=by
 intro q d hq
 unfold Mu.add
 by_cases e:q=p
 ·subst e;rw [hn] at hq;cases hq
 ·rw [if_neg e];exact hq
theorem Mu.add_same (μ:Mu) (p:Pos) (c:Cl):μ.add p c p=some c:=by simp [Mu.add]
theorem Sim.push {c:Cl} {B:AB} (S:Sim C P μ h w) (K:Keep w w' Non) (hc:w.heap.size <= c.1) (hlt:c.1 < w'.heap.size) (hB:AbR C P (μ.add h.nx c) w' c B) :
  Sim C P (μ.add h.nx c) (h.push B) w'/\Ext μ h.fl.nat w (μ.add h.nx c) w'/\(h.push B).fl=h.fl/\(μ.add h.nx c) h.nx=some c:=by
 have hn:=S.nx h.nx (nG _)
 have hle:=Mu.add_le (c:=c) hn
 refine ⟨⟨?_,?_,?_,?_⟩,⟨hle,?_,K.weak fun _ _ h=>h.elim⟩,rfl,Mu.add_same _ _ _⟩
 ·intro p hp
  have hp:h.nx.succ.nat <= p.nat:=hp
  rw [Pos.nat_succ] at hp
  unfold Mu.add
  rw [if_neg (fun e=>by subst e;omega)]
  exact S.nx p (by omega)
 ·intro p d hd
  unfold Mu.add at hd
  split at hd
  ·cases hd;exact hlt
  ·exact nQ (S.lt p d hd) K.size
 ·intro p q a b d e hp hq la lb hd he hde
  simp only [AH.push,Tr.get_set] at hp hq
  unfold Mu.add at hd he
  split at hd <;> split at he
  ·rename_i h1 h2;rw [h1,h2]
  ·cases hd;have:=S.lt _ _ he;omega
  ·cases he;have:=S.lt _ _ hd;omega
  ·rename_i h1 h2
   rw [if_neg h1] at hp
   rw [if_neg h2] at hq
   exact S.inj p q a b d e hp hq la lb hd he hde
 ·intro p b hb
  simp only [AH.push,Tr.get_set] at hb
  split at hb
  ·rename_i h1;subst h1;cases hb;exact ⟨c,Mu.add_same _ _ _,hB⟩
  ·obtain ⟨d,h2,h3⟩:=S.at_ p b hb
   exact ⟨d,hle _ _ h2,(h3.mono hle).keep K id⟩
 ·intro p d hd
  unfold Mu.add at hd
  split at hd
  ·cases hd;exact .inr (.inr hc)
  ·exact .inl hd
theorem Sim.move {p:Pos} {B B':AB} {c d:Cl} (S:Sim C P μ h w) (hp:h.put p .dead=some h') (hB:h.m.get p=some B) (hl:wNk B) (hc:μ p=some c) (K:Keep w w' (·=c.1)) (hd:d.1=c.1 \/ w.heap.size <= d.1) (hlt:d.1 < w'.heap.size)
  (hB':AbR C P (μ.add h.nx d) w' d B'):Sim C P (μ.add h.nx d) (h'.push B') w'/\Ext μ h.fl.nat w (μ.add h.nx d) w'/\(h'.push B').fl=h.fl/\(μ.add h.nx d) h.nx=some d:=by
 obtain ⟨hf,rfl⟩:=wJy hp
 have hn:=S.nx h.nx (nG _)
 have hle:=Mu.add_le (c:=d) hn
 have hpn:p ≠ h.nx:=fun e=>by rw [e,hn] at hc;cases hc
 refine ⟨⟨?_,?_,?_,?_⟩,⟨hle,?_,K.weak fun i _ e=>⟨p,c,hc,e.symm,hf⟩⟩,rfl,Mu.add_same _ _ _⟩
 ·intro q hq
  have hq:h.nx.succ.nat <= q.nat:=hq
  rw [Pos.nat_succ] at hq
  unfold Mu.add
  rw [if_neg (fun e=>by subst e;omega)]
  exact S.nx q (by omega)
 ·intro q e he
  unfold Mu.add at he
  split at he
  ·cases he;exact hlt
  ·exact nQ (S.lt q e he) K.size
 ·have key:∀ q b e,q ≠ h.nx->((h.m.set p .dead).set h.nx B').get q=some b->wNk b->(μ.add h.nx d) q=some e->e.1 ≠ d.1:=by
   intro q b e hq hb lb he hed
   simp only [Tr.get_set,if_neg hq] at hb
   unfold Mu.add at he
   rw [if_neg hq] at he
   split at hb
   ·cases hb;exact lb
   ·rename_i hqp
    rcases hd with h1 | h1
    ·exact hqp (S.inj q p b B e c hb hB lb hl he hc (hed.trans h1))
    ·have:=S.lt _ _ he;omega
  intro q r a b e f hq hr la lb he hf hef
  by_cases e1:q=h.nx <;> by_cases e2:r=h.nx
  ·rw [e1,e2]
  ·subst e1;rw [Mu.add_same] at he;cases he;exact absurd hef.symm (key r b f e2 hr lb hf)
  ·subst e2;rw [Mu.add_same] at hf;cases hf;exact absurd hef (key q a e e1 hq la he)
  ·simp only [AH.push,Tr.get_set,if_neg e1,if_neg e2] at hq hr
   unfold Mu.add at he hf
   rw [if_neg e1] at he
   rw [if_neg e2] at hf
   split at hq
   ·cases hq;exact la.elim
   ·split at hr
    ·cases hr;exact lb.elim
    ·exact S.inj q r a b e f hq hr la lb he hf hef
 ·intro q b hb
  simp only [AH.push,Tr.get_set] at hb
  split at hb
  ·rename_i h1;subst h1;cases hb;exact ⟨d,Mu.add_same _ _ _,hB'⟩
  ·split at hb
   ·rename_i h1 h2;subst h2;cases hb;exact ⟨c,hle _ _ hc,trivial⟩
   ·rename_i h1 h2
    obtain ⟨e,h3,h4⟩:=S.at_ q b hb
    refine ⟨e,hle _ _ h3,?_⟩
    by_cases lb:wNk b
    ·exact (h4.mono hle).keep K fun e'=>h2 (S.inj q p b B e c hb hB lb hl h3 hc e')
    ·cases b <;> first | trivial | exact (lb trivial).elim
 ·intro q e he
  unfold Mu.add at he
  split at he
  ·cases he
   rcases hd with h1 | h1
   ·exact .inr (.inl ⟨p,c,hc,h1.symm,hf⟩)
   ·exact .inr (.inr h1)
  ·exact .inl he
end
end Go.KX
namespace Go.KX
noncomputable section
open Go.RowKit Go.KL
def aggD:TypeDesc->Bool
 | .struct _ | .array _ _=>true
 | _=>false
def wFI (P:Program) (t:TypeId) (f:TypeDesc->Bool):Bool:=match P.underlying t with
 | some d=>f d
 | none=>false
def szT (P:Program) (t n:Nat):Bool:=match P.info? t with
 | some i=>nD i.size n
 | none=>false
def byT (P:Program) (t n:Nat):Bool:=match P.info? t with
 | some i=>nD i.bytes n
 | none=>false
def zT (P:Program) (t:TypeId) (z:List AV):Bool:=match P.info? t with
 | some i=>match i.zero with
  | some v=>wRB z v.cells.toList
  | none=>false
 | none=>false
section
variable {C:Chk} {P:Program} {μ μ':Mu} {w w':World} {h h':AH} {σ:Env} {σA:Tr AV} {t e:TypeId} {o:Oper}
theorem wAy {f:TypeDesc->Bool} (hc:wFI P t f=true):∃ d,P.underlying t=some d/\f d=true:=by
 unfold wFI at hc
 split at hc
 ·exact ⟨_,by assumption,hc⟩
 ·cases hc
theorem wBE {d:TypeDesc} (hu:P.underlying t=some d) (w:World):(underlying t).run P w=.ok d w:=run_underlying hu w
theorem wEZ {n:Nat} (hc:szT P t n=true) (w:World):(sizeOf t).run P w=.ok n w:=by
 unfold szT at hc
 split at hc
 ·rename_i i hi
  rw [<- nB hc]
  simp [sizeOf,typeInfo,hi]
 ·cases hc
theorem wHp {n:Nat} (hc:szT P t n=true):∃ i,P.info? t=some i/\i.size=n:=by
 unfold szT at hc
 split at hc
 ·rename_i i hi;exact ⟨i,hi,nB hc⟩
 ·cases hc
theorem wHq {n:Nat} (hc:byT P t n=true):∃ i,P.info? t=some i/\i.bytes=n:=by
 unfold byT at hc
 split at hc
 ·rename_i i hi;exact ⟨i,hi,nB hc⟩
 ·cases hc
theorem wGG {z:List AV} (hc:zT P t z=true):∃ i v,P.info? t=some i/\i.zero=some v/\∀ μ,RvL μ z v.cells.toList:=by
 unfold zT at hc
 split at hc
 ·rename_i i hi
  split at hc
  ·rename_i v hv;exact ⟨i,v,hi,hv,fun μ=>wHD μ hc⟩
  ·cases hc
 ·cases hc
theorem wEa {i:TypeInfo} {z:Value} (hi:P.info? t=some i) (hz:i.zero=some z) (w:World):(zeroValue t).run P w=.ok z w:=by
 simp [zeroValue,typeInfo,hi,hz]
theorem wIT {d:TypeDesc} (hu:P.underlying t=some d) (w:World):(isAgg t).run P w=.ok (aggD d) w:=by
 simp only [isAgg,Sem.run_bind,wBE hu,Result.andThen_ok]
 cases d <;> rfl
def wRC (P:Program) (t:TypeId) (b:Bool):Bool:=wFI P t fun d=>aggD d == b
theorem wFR {b:Bool} (hc:wRC P t b=true) (w:World):(isAgg t).run P w=.ok b w:=by
 obtain ⟨d,h1,h2⟩:=wAy hc
 rw [wIT h1,eq_of_beq h2]
def OkP (P:Program) (op:Op) (f:Tr AV->AH->Option (AV × AH)):Prop :=
 ∀ σA h v h',f σA h=some (v,h')->h'=h/\∀ μ σ,EnvR μ σA σ->∃ cv,Rv μ v cv/\∀ (o:Oper) (w:World),o.op=op->Runs P σ w o cv w
def c_mv (x:AOd):Op->Bool
 | .move y | .assign y=>wCu x y
 | _=>false
theorem p_mv {x:AOd} {op:Op} (hc:c_mv x op=true):OkP P op (wUB x):=by
 intro σA h v h' hr
 cases hr
 refine ⟨rfl,fun μ σ hE=>?_⟩
 unfold c_mv at hc
 split at hc
 ·exact ⟨_,wAP hc hE,fun o w ho=>Runs.mv ho rfl⟩
 ·exact ⟨_,wAP hc hE,fun o w ho=>Runs.as ho rfl⟩
 ·cases hc
def wPT (c x y:AOd):Op->Bool
 | .pick c' x' y'=>wCu c c' && (wCu x x' && wCu y y')
 | _=>false
theorem wUW {c x y:AOd} {op:Op} (hc:wPT c x y op=true):OkP P op (wII c x y):=by
 intro σA h v h' hr
 unfold wPT at hc
 split at hc
 ·rename_i c' x' y'
  simp only [nA] at hc
  unfold wII at hr
  split at hr
  ·rename_i hb;cases hr
   exact ⟨rfl,fun μ σ hE=>⟨_,wAP hc.2.1 hE,fun o w ho=>Runs.pickT ho (by have:=wAP hc.1 hE;rw [hb] at this;exact this) rfl⟩⟩
  ·rename_i hb;cases hr
   exact ⟨rfl,fun μ σ hE=>⟨_,wAP hc.2.2 hE,fun o w ho=>Runs.pickF ho (by have:=wAP hc.1 hE;rw [hb] at this;exact this) rfl⟩⟩
  ·cases hr
 ·cases hc
def wPU (x:AOd):Op->Bool
 | .nilCheck y=>wCu x y
 | _=>false
theorem wUX {x:AOd} {op:Op} (hc:wPU x op=true):OkP P op (wIJ x):=by
 intro σA h v h' hr
 unfold wPU at hc
 split at hc
 ·unfold wIJ at hr
  split at hr
  ·rename_i hb;cases hr
   refine ⟨rfl,fun μ σ hE=>?_⟩
   have:=wAP hc hE;rw [hb] at this
   refine ⟨_,this,fun o w ho=>?_⟩
   obtain ⟨c,h1,h2⟩:=this
   rw [h2];exact Runs.nilp ho h2
  ·rename_i hb;cases hr
   refine ⟨rfl,fun μ σ hE=>?_⟩
   have:=wAP hc hE;rw [hb] at this
   refine ⟨_,this,fun o w ho=>?_⟩
   obtain ⟨fv,cv,_,_,h2⟩:=this
   rw [h2];exact Runs.nilf ho h2
  ·rename_i hb;cases hr
   refine ⟨rfl,fun μ σ hE=>?_⟩
   have:=wAP hc hE;rw [hb] at this
   refine ⟨_,this,fun o w ho=>?_⟩
   obtain ⟨c,h1,h2⟩:=this
   rw [h2];exact Runs.nily ho h2
  ·cases hr
 ·cases hc
theorem wJz {k:IntKind} {n:Int} (hk:inK k n=true):k.wrap n=n:=by
 unfold inK at hk
 split at hk <;> (try simp only [nH] at hk) <;> (try simp only [IntKind.wrap_i64,IntKind.wrap_u8,IntKind.wrap_u32,Go.IntKind.wrap_u64,kJ,ng]) <;> first | omega | cases hk
theorem wCL {x:Option AV} {v:AV} (hr:okV h x=some (v,h')):x=some v/\h'=h:=by
 cases x <;> cases hr;exact ⟨rfl,rfl⟩
theorem wCE {α:Type} {b:Bool} {x:Option α} {v:α} (hr:ifO b x=some v):b=true/\x=some v:=by
 cases b
 ·cases hr
 ·exact ⟨rfl,hr⟩
theorem wJU {f:Int->Int->Int} {x y v:AV} (hr:wLh f x y=some v):∃ k a b,x=.int k a/\y=.int k b/\v=.int k (f a b)/\k.wrap (f a b)=f a b:=by
 unfold wLh at hr
 split at hr
 ·rename_i k a k' b
  split at hr
  ·rename_i hk
   split at hr
   ·rename_i hi;cases hr;exact ⟨k,a,b,rfl,by rw [wCJ hk],rfl,wJz hi⟩
   ·cases hr
  ·cases hr
 ·cases hr
theorem wRD {f:Int->Int->Int} {x y v:AV} (hr:div f x y=some v):∃ k a b,x=.int k a/\y=.int k b/\v=.int k (f a b)/\k.wrap (f a b)=f a b/\b ≠ 0:=by
 unfold div at hr
 split at hr
 ·rename_i k a k' b
  split at hr
  ·rename_i hk
   split at hr
   ·cases hr
   ·rename_i hz
    split at hr
    ·rename_i hi;cases hr
     exact ⟨k,a,b,rfl,by rw [wCJ hk],rfl,wJz hi,fun e=>by rw [wMp.2 e] at hz;cases hz⟩
    ·cases hr
  ·cases hr
 ·cases hr
theorem wPV {f:Int->Int->Bool} {x y v:AV} (hr:wQt f x y=some v):∃ k a b,x=.int k a/\y=.int k b/\v=.bool (f a b):=by
 unfold wQt at hr
 split at hr
 ·rename_i k a k' b
  split at hr
  ·rename_i hk;cases hr;exact ⟨k,a,b,rfl,by rw [wCJ hk],rfl⟩
  ·cases hr
 ·cases hr
def wDS (b:BinOp) (x y:AOd):Op->Bool
 | .binOp b' _ x' y' _=>(b' == b) && (wCu x x' && wCu y y')
 | _=>false
theorem wGh {b:BinOp} {x y:AOd} {op:Op} (hc:wDS b x y op=true):∃ t x' y' t',op=.binOp b t x' y' t'/\wCu x x'=true/\wCu y y'=true:=by
 unfold wDS at hc
 split at hc
 ·rename_i b' t x' y' t'
  simp only [nA,beq_iff_eq] at hc
  obtain ⟨rfl,h1,h2⟩:=hc
  exact ⟨t,x',y',t',rfl,h1,h2⟩
 ·cases hc
theorem wMC {b:BinOp} {f:Int->Int->Int} {x y:AOd} {op:Op} (hc:wDS b x y op=true)
  (hrun:∀ (o:Oper) (σ:Env) (w:World) t x' y' t' k m n,o.op=.binOp b t x' y' t'->ev σ x'=.int k m->ev σ y'=.int k n->Runs P σ w o (.int k (k.wrap (f m n))) w) :
  OkP P op (fun σ h=>okV h (wLh f (evA σ x) (evA σ y))):=by
 intro σA h v h' hr
 obtain ⟨t,x',y',t',rfl,h1,h2⟩:=wGh hc
 obtain ⟨hr2,rfl⟩:=wCL hr
 obtain ⟨k,m,n,e1,e2,rfl,e3⟩:=wJU hr2
 refine ⟨rfl,fun μ σ hE=>⟨_,rfl,fun o w ho=>?_⟩⟩
 have g1:=wAP h1 hE;rw [e1] at g1
 have g2:=wAP h2 hE;rw [e2] at g2
 have:=hrun o σ w t x' y' t' k m n ho g1 g2
 rwa [e3] at this
theorem p_add {x y:AOd} {op:Op} (hc:wDS .add x y op=true):OkP P op (wOp x y) :=
 wMC hc fun o σ w t x' y' t' k m n ho h1 h2=>⟨by rw [ho];rfl,by simp [execOp,ho,h1,h2,binOp,eqGuard,Op.intArith]⟩
theorem p_sub {x y:AOd} {op:Op} (hc:wDS .sub x y op=true):OkP P op (wOq x y) :=
 wMC hc fun o σ w t x' y' t' k m n ho h1 h2=>⟨by rw [ho];rfl,by simp [execOp,ho,h1,h2,binOp,eqGuard,Op.intArith];rfl⟩
theorem p_mul {x y:AOd} {op:Op} (hc:wDS .mul x y op=true):OkP P op (wOr x y) :=
 wMC hc fun o σ w t x' y' t' k m n ho h1 h2=>⟨by rw [ho];rfl,by simp [execOp,ho,h1,h2,binOp,eqGuard,Op.intArith]⟩
theorem wUY {b:BinOp} {f:Int->Int->Int} {x y:AOd} {op:Op} (hc:wDS b x y op=true)
  (hrun:∀ (o:Oper) (σ:Env) (w:World) t x' y' t' k m n,o.op=.binOp b t x' y' t'->ev σ x'=.int k m->ev σ y'=.int k n->n ≠ 0->k.wrap (f m n)=f m n->Runs P σ w o (.int k (f m n)) w) :
  OkP P op (fun σ h=>okV h (div f (evA σ x) (evA σ y))):=by
 intro σA h v h' hr
 obtain ⟨t,x',y',t',rfl,h1,h2⟩:=wGh hc
 obtain ⟨hr2,rfl⟩:=wCL hr
 obtain ⟨k,m,n,e1,e2,rfl,e3,e4⟩:=wRD hr2
 refine ⟨rfl,fun μ σ hE=>⟨_,rfl,fun o w ho=>?_⟩⟩
 have g1:=wAP h1 hE;rw [e1] at g1
 have g2:=wAP h2 hE;rw [e2] at g2
 exact hrun o σ w t x' y' t' k m n ho g1 g2 e4 e3
theorem p_quo {x y:AOd} {op:Op} (hc:wDS .quo x y op=true):OkP P op (wOs x y) :=
 wUY hc fun o σ w t x' y' t' k m n ho h1 h2 h3 h4=>⟨by rw [ho];rfl,by simp [execOp,ho,h1,h2,binOp,eqGuard,Op.intDiv,h3,h4]⟩
theorem p_rem {x y:AOd} {op:Op} (hc:wDS .rem x y op=true):OkP P op (wOt x y) :=
 wUY hc fun o σ w t x' y' t' k m n ho h1 h2 h3 h4=>⟨by rw [ho];rfl,by simp [execOp,ho,h1,h2,binOp,eqGuard,Op.intDiv,h3]⟩
theorem wNl {b:BinOp} {f:Int->Int->Bool} {x y:AOd} {op:Op} (hc:wDS b x y op=true)
  (hrun:∀ (o:Oper) (σ:Env) (w:World) t x' y' t' k m n,o.op=.binOp b t x' y' t'->ev σ x'=.int k m->ev σ y'=.int k n->Runs P σ w o (.bool (f m n)) w) :
  OkP P op (fun σ h=>okV h (wQt f (evA σ x) (evA σ y))):=by
 intro σA h v h' hr
 obtain ⟨t,x',y',t',rfl,h1,h2⟩:=wGh hc
 obtain ⟨hr2,rfl⟩:=wCL hr
 obtain ⟨k,m,n,e1,e2,rfl⟩:=wPV hr2
 refine ⟨rfl,fun μ σ hE=>⟨_,rfl,fun o w ho=>?_⟩⟩
 have g1:=wAP h1 hE;rw [e1] at g1
 have g2:=wAP h2 hE;rw [e2] at g2
 exact hrun o σ w t x' y' t' k m n ho g1 g2
theorem p_lss {x y:AOd} {op:Op} (hc:wDS .lss x y op=true):OkP P op (wOu x y) :=
 wNl hc fun o σ w t x' y' t' k m n ho h1 h2=>(Runs.lss ho h1 h2).to (by rw [wIS])
theorem p_leq {x y:AOd} {op:Op} (hc:wDS .leq x y op=true):OkP P op (wOv x y) :=
 wNl hc fun o σ w t x' y' t' k m n ho h1 h2=>(Runs.leq ho h1 h2).to (by rw [wPR])
theorem p_gtr {x y:AOd} {op:Op} (hc:wDS .gtr x y op=true):OkP P op (wOw x y) :=
 wNl hc fun o σ w t x' y' t' k m n ho h1 h2=>(Runs.gtr ho h1 h2).to (by rw [wIS])
theorem p_geq {x y:AOd} {op:Op} (hc:wDS .geq x y op=true):OkP P op (wOx x y) :=
 wNl hc fun o σ w t x' y' t' k m n ho h1 h2=>(Runs.geq ho h1 h2).to (by rw [wPR])
theorem p_eql {x y:AOd} {op:Op} (hc:wDS .eql x y op=true):OkP P op (wOy x y) :=
 wNl hc fun o σ w t x' y' t' k m n ho h1 h2=>(Runs.eql ho h1 h2).to (by rw [wEv])
theorem p_neq {x y:AOd} {op:Op} (hc:wDS .neq x y op=true):OkP P op (wOz x y) :=
 wNl hc fun o σ w t x' y' t' k m n ho h1 h2=>(Runs.neq ho h1 h2).to (by rw [wEv];simp)
def wSg (x:AOd):Op->Bool
 | .unOp .neg _ y=>wCu x y
 | _=>false
theorem p_neg {x:AOd} {op:Op} (hc:wSg x op=true):OkP P op (wPA x):=by
 intro σA h v h' hr
 unfold wSg at hc
 split at hc
 ·obtain ⟨hr2,rfl⟩:=wCL hr
  obtain ⟨k,m,n,e1,e2,rfl,e3⟩:=wJU hr2
  rw [e2] at e1
  simp only at e1
  cases e1
  refine ⟨rfl,fun μ σ hE=>⟨_,rfl,fun o w ho=>?_⟩⟩
  have g2:=wAP hc hE;rw [e2] at g2
  refine ⟨by rw [ho];rfl,?_⟩
  have:ev σ _=.int k n:=g2
  simp only [execOp,ho,this,Op.unary,Op.intArith,Sem.run_bind,Sem.run_pure,Result.andThen_ok]
  rw [show (0:Int) - n=Int.sub 0 n from rfl,e3]
 ·cases hc
def wSh (x:AOd):Op->Bool
 | .unOp .not _ y=>wCu x y
 | _=>false
theorem p_not {x:AOd} {op:Op} (hc:wSh x op=true):OkP P op (wLl x):=by
 intro σA h v h' hr
 unfold wSh at hc
 split at hc
 ·unfold wLl at hr
  split at hr
  ·rename_i hb;cases hr
   refine ⟨rfl,fun μ σ hE=>⟨_,rfl,fun o w ho=>?_⟩⟩
   have g:=wAP hc hE;rw [hb] at g
   exact Runs.not ho g
  ·cases hr
 ·cases hc
def wPW:TypeDesc->Option IntKind
 | .int k=>some k
 | _=>none
def wSi (k:IntKind) (x:AOd):Op->Bool
 | .convert s t y=>wFI P s (fun d=>(wPW d).isSome) && (wFI P t (fun d=>match wPW d with | some k'=>keq k k' | none=>false) && wCu x y)
 | _=>false
theorem p_cvt {k:IntKind} {x:AOd} {op:Op} (hc:wSi (P:=P) k x op=true):OkP P op (wLm k x):=by
 intro σA h v h' hr
 unfold wSi at hc
 split at hc
 ·simp only [nA] at hc
  obtain ⟨c1,c2,c3⟩:=hc
  unfold wLm at hr
  split at hr
  ·rename_i k0 n hb
   obtain ⟨hi,hr⟩:=wCE hr
   cases hr
   refine ⟨rfl,fun μ σ hE=>⟨_,rfl,fun o w ho=>?_⟩⟩
   have g:=wAP c3 hE;rw [hb] at g
   obtain ⟨d,d1,d2⟩:=wAy c1
   obtain ⟨e,e1,e2⟩:=wAy c2
   cases d <;> first | (cases d2;done) | skip
   cases e <;> first | (cases e2;done) | skip
   have:=wCJ e2
   subst this
   have g':ev σ _=.int k0 n:=g
   exact ⟨by rw [ho];rfl,by simp [execOp,ho,g',convert,wBE d1,wBE e1,Conv.intToInt,wJz hi]⟩
  ·cases hr
 ·cases hc
def wSj (f:Pos) (fi ca:List AOd):Op->Bool
 | .makeFunc (.func g) fi' ca'=>nD f.nat (g + 1) && (wKy fi fi'.toList && wKy ca ca'.toList)
 | _=>false
theorem p_mkf {f:Pos} {fi ca:List AOd} {op:Op} (hc:wSj f fi ca op=true):OkP P op (wNg f fi ca):=by
 intro σA h v h' hr
 cases hr
 unfold wSj at hc
 split at hc
 ·simp only [nA] at hc
  obtain ⟨c1,c2,c3⟩:=hc
  refine ⟨rfl,fun μ σ hE=>⟨_,⟨_,_,wHo c2 hE,wHo c3 hE,rfl⟩,fun o w ho=>?_⟩⟩
  have e:=nB c1
  refine ⟨by rw [ho];rfl,?_⟩
  simp [execOp,ho,Instr.makeFunc,e,<- kr]
 ·cases hc
def wSk (i:Nat) (x:AOd):Op->Bool
 | .extract y j=>nD i j && wCu x y
 | _=>false
theorem p_ext {i:Nat} {x:AOd} {op:Op} (hc:wSk i x op=true):OkP P op (wLs i x):=by
 intro σA h v h' hr
 unfold wSk at hc
 split at hc
 ·simp only [nA] at hc
  have e:=nB hc.1
  subst e
  unfold wLs at hr
  split at hr
  ·rename_i l hb
   obtain ⟨hr2,rfl⟩:=wCL hr
   refine ⟨rfl,fun μ σ hE=>?_⟩
   have g:=wAP hc.2 hE;rw [hb] at g
   obtain ⟨vs,g1,g2⟩:=g
   rw [wHY] at hr2
   obtain ⟨cv,g3,g4⟩:=wGE g1 hr2
   exact ⟨cv,g4,fun o w ho=>Runs.ext ho g2 (by simpa using g3)⟩
  ·cases hr
 ·cases hc
end
end
end Go.KX
namespace Go.KX
noncomputable section
open Go.RowKit Go.KL
section
variable {C:Chk} {P:Program} {μ μ':Mu} {w w':World} {h h':AH} {σ:Env} {σA:Tr AV} {t e:TypeId} {o:Oper}
def wSl (P:Program) (ne:Bool) (x y:AOd):Op->Bool
 | .binOp b t x' y' _=>(match ne with | true=>b == .neq | false=>b == .eql) && (wFI P t (fun d=>match d with | .bool=>true | _=>false) && (wCu x x' && wCu y y'))
 | _=>false
theorem wJV (ne b:Bool):(ne != b)=(match ne with | true=>!b | false=>b):=by cases ne <;> cases b <;> rfl
theorem p_eqb {ne:Bool} {x y:AOd} {op:Op} (hc:wSl P ne x y op=true):OkP P op (wLi ne x y):=by
 intro σA h v h' hr
 unfold wSl at hc
 split at hc
 ·simp only [nA] at hc
  obtain ⟨c0,c1,c2,c3⟩:=hc
  unfold wLi at hr
  split at hr
  ·rename_i a b e1 e2
   cases hr
   refine ⟨rfl,fun μ σ hE=>⟨_,rfl,fun o w ho=>?_⟩⟩
   have g1:=wAP c2 hE;rw [e1] at g1
   have g2:=wAP c3 hE;rw [e2] at g2
   obtain ⟨d,d1,d2⟩:=wAy c1
   cases d <;> first | (cases d2;done) | skip
   cases ne
   ·have:=eq_of_beq c0;subst this
    exact (Runs.eqB ho g1 g2 (wBE d1)).to (by rw [wJV])
   ·have:=eq_of_beq c0;subst this
    exact (Runs.neB ho g1 g2 (wBE d1)).to (by rw [wJV])
  ·cases hr
 ·cases hc
def nilD (k:Nat) (d:TypeDesc):Bool:=match k,d with
 | 0,.pointer _=>true
 | 1,.slice _=>true
 | 2,.map _ _=>true
 | 3,.func _ _ _=>true
 | _,_=>false
theorem wPX {k:Nat} {d:TypeDesc} {a b:AV} {r:Bool} {x y:Value} (hu:P.underlying t=some d) (hd:nilD k d=true) (hr:wNc k a b=some r) (hx:Rv μ a x) (hy:Rv μ b y) (w:World):(Op.equal t x y).run P w=.ok r w:=by
 unfold Op.equal Op.maxDepth
 rw [show (10000:Nat)=9999 + 1 from rfl,Op.equalIn]
 unfold wNc at hr
 split at hr <;> cases hr <;> simp only [Rv] at hx hy <;> (cases d <;> first | (cases hd;done) | skip) <;>
  (try obtain ⟨_,_,_,_,_,rfl⟩:=hx) <;> (try obtain ⟨_,_,_,_,rfl⟩:=hx) <;> (try obtain ⟨_,_,_,rfl⟩:=hx) <;> (try obtain ⟨_,_,rfl⟩:=hx) <;> (try subst hx) <;>
  (try obtain ⟨_,_,_,_,_,rfl⟩:=hy) <;> (try obtain ⟨_,_,_,_,rfl⟩:=hy) <;> (try obtain ⟨_,_,_,rfl⟩:=hy) <;> (try obtain ⟨_,_,rfl⟩:=hy) <;> (try subst hy) <;>
  simp only [Sem.run_bind,wBE hu,Result.andThen_ok,Sem.run_pure] <;> rfl
theorem wMD {k:Nat} {a b:AV} {r:Bool} {x y:Value} (hr:wNc k a b=some r) (hx:Rv μ a x) (hy:Rv μ b y) (op:BinOp) (p q:Operand) (w:World):(eqGuard op t p q x y).run P w=.ok () w:=by
 unfold wNc at hr
 split at hr <;> cases hr <;> simp only [Rv] at hx hy <;>
  (try obtain ⟨_,_,_,_,_,rfl⟩:=hx) <;> (try obtain ⟨_,_,_,_,rfl⟩:=hx) <;> (try obtain ⟨_,_,_,rfl⟩:=hx) <;> (try obtain ⟨_,_,rfl⟩:=hx) <;> (try subst hx) <;>
  (try obtain ⟨_,_,_,_,_,rfl⟩:=hy) <;> (try obtain ⟨_,_,_,_,rfl⟩:=hy) <;> (try obtain ⟨_,_,_,rfl⟩:=hy) <;> (try obtain ⟨_,_,rfl⟩:=hy) <;> (try subst hy) <;>
  simp only [eqGuard] <;> (cases op <;> rfl)
def wSm (P:Program) (k:Nat) (ne:Bool) (x y:AOd):Op->Bool
 | .binOp b t x' y' _=>(match ne with | true=>b == .neq | false=>b == .eql) && (wFI P t (nilD k) && (wCu x x' && wCu y y'))
 | _=>false
theorem p_eqn {k:Nat} {ne:Bool} {x y:AOd} {op:Op} (hc:wSm P k ne x y op=true):OkP P op (wLj k ne x y):=by
 intro σA h v h' hr
 unfold wSm at hc
 split at hc
 ·rename_i b t x' y' t'
  simp only [nA] at hc
  obtain ⟨c0,c1,c2,c3⟩:=hc
  unfold wLj at hr
  split at hr
  ·rename_i r e1
   cases hr
   refine ⟨rfl,fun μ σ hE=>⟨_,rfl,fun o w ho=>?_⟩⟩
   have g1:=wAP c2 hE
   have g2:=wAP c3 hE
   obtain ⟨d,d1,d2⟩:=wAy c1
   have g3:=wPX d1 d2 e1 g1 g2
   have g4:=fun op=>wMD (P:=P) (t:=t) e1 g1 g2 op x' y'
   refine ⟨by rw [ho];rfl,?_⟩
   generalize hX:ev σ x'=X at g1 g3 g4
   generalize hY:ev σ y'=Y at g2 g3 g4
   have nint:(∀ k n,X ≠ .int k n)/\(∀ k n,X ≠ .float k n)/\(∀ k n m,X ≠ .complex k n m)/\(∀ s,X ≠ .string s):=by
    unfold wNc at e1
    split at e1 <;> cases e1 <;> rename_i e2 e3 <;> rw [e2] at g1 <;> simp only [Rv] at g1 <;>
     (try obtain ⟨_,_,_,_,_,rfl⟩:=g1) <;> (try obtain ⟨_,_,_,_,rfl⟩:=g1) <;> (try obtain ⟨_,_,_,rfl⟩:=g1) <;> (try obtain ⟨_,_,rfl⟩:=g1) <;> (try subst g1) <;>
     exact ⟨by simp,by simp,by simp,by simp⟩
   obtain ⟨n1,n2,n3,n4⟩:=nint
   cases ne
   ·have:=eq_of_beq c0;subst this
    simp only [execOp,ho,Sem.run_bind,hX,hY,g4 .eql w,Result.andThen_ok]
    have:(binOp .eql t X Y).run P w=.ok (.bool r) w:=by
     cases X <;> first | exact absurd rfl (n1 _ _) | exact absurd rfl (n2 _ _) | exact absurd rfl (n3 _ _ _) | exact absurd rfl (n4 _) | (simp only [binOp,Sem.run_bind,g3 w,Result.andThen_ok];rfl)
    rw [this]
    simp [wJV]
   ·have:=eq_of_beq c0;subst this
    simp only [execOp,ho,Sem.run_bind,hX,hY,g4 .neq w,Result.andThen_ok]
    have:(binOp .neq t X Y).run P w=.ok (.bool (!r)) w:=by
     cases X <;> first | exact absurd rfl (n1 _ _) | exact absurd rfl (n2 _ _) | exact absurd rfl (n3 _ _ _) | exact absurd rfl (n4 _) | (simp only [binOp,Sem.run_bind,g3 w,Result.andThen_ok];rfl)
    rw [this]
    simp [wJV]
  ·cases hr
 ·cases hc
mutual
def Sh.depth:Sh->Nat
 | .int=>1
 | .bool=>1
 | .str fs=>wMq fs + 1
def wMq:List (Nat × Nat × Sh)->Nat
 | []=>0
 | (_,_,s) :: fs=>Nat.max s.depth (wMq fs)
end
mutual
def wME (P:Program):Sh->TypeId->Bool
 | .int,t=>wFI P t fun d=>(wPW d).isSome
 | .bool,t=>wFI P t fun d=>match d with | .bool=>true | _=>false
 | .str fs,t=>(!P.stoodInHeld t) && wFI P t fun d=>match d with | .struct gs=>wNm P fs gs.toList | _=>false
def wNm (P:Program):List (Nat × Nat × Sh)->List Field->Bool
 | [],[]=>true
 | (off, sz, s) :: fs, g :: gs => (g.name != "_") && (nD g.offset off && (szT P g.type sz && (wME P s g.type && wNm P fs gs)))
 | _,_=>false
end
theorem wPY {s:Sh} (hc:wME P s t=true) (w:World):(isAgg t).run P w=.ok (match s with | .str _=>true | _=>false) w:=by
 cases s with
 | int =>
  obtain ⟨d,h1,h2⟩:=wAy hc
  rw [wIT h1];cases d <;> first | rfl | cases h2
 | bool =>
  obtain ⟨d,h1,h2⟩:=wAy hc
  rw [wIT h1];cases d <;> first | rfl | cases h2
 | str fs =>
  simp only [wME,nA] at hc
  obtain ⟨d,h1,h2⟩:=wAy hc.2
  rw [wIT h1];cases d <;> first | rfl | cases h2
theorem wKz {s:Sh} {l:List AV} {vs:List Value} {off sz:Nat} {a:AV} (hc:wME P s t=true) (hz:szT P t sz=true) (hp:wQu s l off sz=some a) (hl:RvL μ l vs):∃ v,Rv μ a v/\∀ w,(part t vs.toArray off).run P w=.ok v w:=by
 have hag:=wPY hc
 unfold wQu at hp
 split at hp
 ·split at hp
  ·rename_i r hs
   cases hp
   obtain ⟨h1,h2⟩:=wGF hs hl
   exact ⟨_,⟨_,h1,rfl⟩,fun w=>wJq hag (wEZ hz) rfl⟩
  ·cases hp
 ·rename_i hne
  rw [wHY] at hp
  obtain ⟨v,h1,h2⟩:=wGE hl hp
  refine ⟨v,h2,fun w=>wHy (fun w=>?_) h1⟩
  rw [hag w]
  cases s <;> first | rfl | exact absurd rfl (hne _)
mutual
theorem wMr:∀ (s:Sh) (t:TypeId) (d:Nat) (a b:AV) (x y:Value) (r:Bool),wME P s t=true->s.depth <= d->wQv s a b=some r->Rv μ a x->Rv μ b y->∀ w,(Op.equalIn d t x y).run P w=.ok r w
 | .int,t,d,a,b,x,y,r,hc,hd,hr,hx,hy,w=>by
  obtain ⟨d,rfl⟩:∃ e,d=e + 1:=⟨d - 1,by simp only [Sh.depth] at hd;omega⟩
  unfold wQv at hr
  split at hr <;> first | (cases hr;done) | skip
  all_goals (try (rename_i h0;cases h0))
  split at hr <;> cases hr
  rename_i hk
  obtain ⟨dd,d1,d2⟩:=wAy hc
  cases dd <;> first | (cases d2;done) | skip
  simp only [Rv] at hx hy
  subst hx hy
  have:=wCJ hk;subst this
  simp [Op.equalIn,wBE d1,wEv,wLa]
 | .bool,t,d,a,b,x,y,r,hc,hd,hr,hx,hy,w=>by
  obtain ⟨d,rfl⟩:∃ e,d=e + 1:=⟨d - 1,by simp only [Sh.depth] at hd;omega⟩
  unfold wQv at hr
  split at hr <;> first | (cases hr;done) | skip
  all_goals (try (rename_i h0;cases h0))
  cases hr
  obtain ⟨dd,d1,d2⟩:=wAy hc
  cases dd <;> first | (cases d2;done) | skip
  simp only [Rv] at hx hy
  subst hx hy
  simp [Op.equalIn,wBE d1]
 | .str fs,t,d,a,b,x,y,r,hc,hd,hr,hx,hy,w=>by
  simp only [Sh.depth] at hd
  obtain ⟨d,rfl⟩:∃ e,d=e + 1:=⟨d - 1,by omega⟩
  unfold wQv at hr
  split at hr <;> first | (cases hr;done) | skip
  all_goals (try (rename_i h0;cases h0))
  simp only [wME,nA,na] at hc
  obtain ⟨dd,d1,d2⟩:=wAy hc.2
  cases dd <;> first | (cases d2;done) | skip
  rename_i gs
  obtain ⟨xs,h1,rfl⟩:=hx
  obtain ⟨ys,h2,rfl⟩:=hy
  have hf:P.fieldsOf t=gs:=by unfold Program.fieldsOf;rw [d1]
  rw [run_equalIn_agg w d t _ _ (by rw [hf];exact d1) hc.1,hf]
  exact wMs fs gs.toList d _ _ xs ys r d2 (by omega) hr h1 h2 w
theorem wMs:∀ (fs:List (Nat × Nat × Sh)) (gs:List Field) (d:Nat) (l k:List AV) (xs ys:List Value) (r:Bool),wNm P fs gs=true->wMq fs <= d->wUQ fs l k=some r->RvL μ l xs->RvL μ k ys ->
  ∀ w,(Op.eqFields d xs.toArray ys.toArray gs).run P w=.ok r w
 | [],[],d,l,k,xs,ys,r,hc,hd,hr,hx,hy,w=>by
  simp only [wUQ] at hr;cases hr;rfl
 | (off,sz,s) :: fs,g :: gs,d,l,k,xs,ys,r,hc,hd,hr,hx,hy,w=>by
  simp only [wNm,nA] at hc
  obtain ⟨c1,c2,c3,c4,c5⟩:=hc
  have e:=nB c2
  subst e
  simp only [wUQ] at hr
  split at hr
  ·rename_i a b ha hb
   obtain ⟨u,u1,u2⟩:=wKz c4 c3 ha hx
   obtain ⟨v,v1,v2⟩:=wKz c4 c3 hb hy
   have hne : g.name ≠ "_" := by simpa using c1
   have hd1:s.depth <= d:=nV (Nat.le_max_left _ _) hd
   have hd2:wMq fs <= d:=nV (Nat.le_max_right _ _) hd
   cases hq:wQv s a b with
   | none=>rw [hq] at hr;cases hr
   | some q =>
    have hE:=wMr s g.type d a b u v q c4 hd1 hq u1 v1
    rw [hq] at hr
    cases q with
    | true =>
     simp only at hr
     have hF:=wMs fs gs d l k xs ys r c5 hd2 hr hx hy
     simp [Op.eqFields,hne,u2,v2,hE,hF,Result.andThen]
    | false =>
     simp only [nl] at hr
     subst hr
     simp [Op.eqFields,hne,u2,v2,hE,Result.andThen]
  ·cases hr
 | [],_ :: _,d,l,k,xs,ys,r,hc,hd,hr,hx,hy,w=>by simp [wNm] at hc
 | _ :: _,[],d,l,k,xs,ys,r,hc,hd,hr,hx,hy,w=>by simp [wNm] at hc
end
theorem wRE {fs:List (Nat × Nat × Sh)} {r:Bool}:∀ {a b:AV},wQv (.str fs) a b=some r->∃ l k,a=.agg l/\b=.agg k:=by
 intro a b h
 cases a <;> cases b <;> first | exact ⟨_,_,rfl,rfl⟩ | (simp [wQv] at h;done)
def wSn (P:Program) (ne:Bool) (s:Sh) (x y:AOd):Op->Bool
 | .binOp b t x' y' _=>(match ne with | true=>b == .neq | false=>b == .eql) && (kP s.depth 10000 && (wME P s t && ((match s with | .str _=>true | _=>false) && ((!P.eqGuardType P.depth t) && (wCu x x' && wCu y y')))))
 | _=>false
theorem p_eqs {ne:Bool} {s:Sh} {x y:AOd} {op:Op} (hc:wSn P ne s x y op=true):OkP P op (wLk ne s x y):=by
 intro σA h v h' hr
 unfold wSn at hc
 split at hc
 ·rename_i b t x' y' t'
  simp only [nA,na] at hc
  obtain ⟨c0,c1,c2,c3,c4,c5,c6⟩:=hc
  unfold wLk at hr
  split at hr
  ·rename_i r e1
   cases hr
   refine ⟨rfl,fun μ σ hE=>⟨_,rfl,fun o w ho=>?_⟩⟩
   have g1:=wAP c5 hE
   have g2:=wAP c6 hE
   have g3:∀ w,(Op.equal t (ev σ x') (ev σ y')).run P w=.ok r w:=wMr s t 10000 _ _ _ _ r c2 (nL c1) e1 g1 g2
   cases s <;> first | (cases c3;done) | skip
   obtain ⟨l,k,h1,h2⟩:=wRE e1
   rw [h1] at g1;rw [h2] at g2
   obtain ⟨xs,_,g1⟩:=g1
   obtain ⟨ys,_,g2⟩:=g2
   rw [g1,g2] at g3
   refine ⟨by rw [ho];rfl,?_⟩
   cases ne
   ·have:=eq_of_beq c0;subst this
    simp [execOp,ho,g1,g2,binOp,eqGuard,c4,g3,wJV]
   ·have:=eq_of_beq c0;subst this
    simp [execOp,ho,g1,g2,binOp,eqGuard,c4,g3,wJV]
  ·cases hr
 ·cases hc
end
end
end Go.KX
namespace Go.KX
noncomputable section
open Go.RowKit Go.KL
section
variable {C:Chk} {P:Program} {μ μ':Mu} {w w':World} {h h':AH} {σ:Env} {σA:Tr AV} {t e:TypeId} {o:Oper}
def wSo (P:Program) (off:Nat) (x:AOd):Op->Bool
 | .fieldAddr t y i=>wFI P t (fun d=>match d with
   | .struct fs=>match fs[i]? with
    | some f=>nD f.offset off && (match P.info? f.type with | some j=>nR 0 j.size | none=>false)
    | none=>false
   | _=>false) && wCu x y
 | _=>false
theorem p_fad {off:Nat} {x:AOd} {op:Op} (hc:wSo P off x op=true):OkP P op (wLo off x):=by
 intro σA h v h' hr
 unfold wSo at hc
 split at hc
 ·rename_i t y i
  simp only [nA] at hc
  obtain ⟨c1,c2⟩:=hc
  unfold wLo at hr
  split at hr
  ·rename_i b oo hb
   cases hr
   refine ⟨rfl,fun μ σ hE=>?_⟩
   have g:=wAP c2 hE;rw [hb] at g
   obtain ⟨c,g1,g2⟩:=g
   refine ⟨_,⟨c,g1,rfl⟩,fun o w ho=>?_⟩
   obtain ⟨d,d1,d2⟩:=wAy c1
   split at d2
   ·rename_i fs
    split at d2
    ·rename_i f hf
     simp only [nA] at d2
     have e:=nB d2.1
     subst e
     have d3:=d2.2
     split at d3
     ·rename_i j hj
      have hpos:0 < j.size:=by simpa [nH] using d3
      obtain ⟨n,hn⟩:∃ n,j.size=n + 1:=⟨j.size - 1,by omega⟩
      exact Runs.fa (n:=n) ho g2 (wBE d1) hf (fun w=>by rw [<- hn];simp [sizeOf,typeInfo,hj])
     ·cases d3
    ·cases d2
   ·cases d2
  ·cases hr
 ·cases hc
def wSp (P:Program) (off:Nat) (x:AOd):Op->Bool
 | .field t y i=>wFI P t (fun d=>match d with
   | .struct fs=>match fs[i]? with
    | some f=>nD f.offset off && wRC P f.type false
    | none=>false
   | _=>false) && wCu x y
 | _=>false
def wPZ (P:Program) (off n:Nat) (x:AOd):Op->Bool
 | .field t y i=>wFI P t (fun d=>match d with
   | .struct fs=>match fs[i]? with
    | some f=>nD f.offset off && (wRC P f.type true && szT P f.type n)
    | none=>false
   | _=>false) && wCu x y
 | _=>false
theorem p_fld {off:Nat} {x:AOd} {op:Op} (hc:wSp P off x op=true):OkP P op (wLp off x):=by
 intro σA h v h' hr
 unfold wSp at hc
 split at hc
 ·rename_i t y i
  simp only [nA] at hc
  obtain ⟨c1,c2⟩:=hc
  unfold wLp at hr
  split at hr
  ·rename_i l hb
   obtain ⟨hr2,rfl⟩:=wCL hr
   refine ⟨rfl,fun μ σ hE=>?_⟩
   have g:=wAP c2 hE;rw [hb] at g
   obtain ⟨vs,g1,g2⟩:=g
   rw [wHY] at hr2
   obtain ⟨cv,g3,g4⟩:=wGE g1 hr2
   refine ⟨cv,g4,fun o w ho=>?_⟩
   obtain ⟨d,d1,d2⟩:=wAy c1
   split at d2
   ·split at d2
    ·rename_i f hf
     simp only [nA] at d2
     have e:=nB d2.1
     subst e
     exact Runs.fld ho g2 (wBE d1) hf (wHy (wFR d2.2) g3)
    ·cases d2
   ·cases d2
  ·cases hr
 ·cases hc
theorem wEL {x:Option (List AV)} {v:AV} (hr:wJQ x=some v):∃ l,x=some l/\v=.agg l:=by
 cases x <;> cases hr;exact ⟨_,rfl,rfl⟩
theorem wUZ {off n:Nat} {x:AOd} {op:Op} (hc:wPZ P off n x op=true):OkP P op (wIM off n x):=by
 intro σA h v h' hr
 unfold wPZ at hc
 split at hc
 ·rename_i t y i
  simp only [nA] at hc
  obtain ⟨c1,c2⟩:=hc
  unfold wIM at hr
  split at hr
  ·rename_i l hb
   obtain ⟨hr2,rfl⟩:=wCL hr
   obtain ⟨r,hr3,rfl⟩:=wEL hr2
   refine ⟨rfl,fun μ σ hE=>?_⟩
   have g:=wAP c2 hE;rw [hb] at g
   obtain ⟨vs,g1,g2⟩:=g
   obtain ⟨g3,g4⟩:=wGF hr3 g1
   refine ⟨_,⟨_,g3,rfl⟩,fun o w ho=>?_⟩
   obtain ⟨d,d1,d2⟩:=wAy c1
   split at d2
   ·split at d2
    ·rename_i f hf
     simp only [nA] at d2
     have e:=nB d2.1
     subst e
     exact Runs.fld ho g2 (wBE d1) hf (wJq (wFR d2.2.1) (wEZ d2.2.2) rfl)
    ·cases d2
   ·cases d2
  ·cases hr
 ·cases hc
theorem wCr {a:AV} {n:Nat} (hr:wIG a=some n):a=.int .i64 n:=by
 unfold wIG at hr
 split at hr
 ·cases hr;rfl
 ·cases hr
def wSq (P:Program) (sz:Nat) (x y:AOd):Op->Bool
 | .indexAddr t x' y'=>wFI P t (fun d=>match d with
   | .slice e=>szT P e sz
   | _=>false) && (wCu x x' && wCu y y')
 | _=>false
theorem p_iad {sz:Nat} {x y:AOd} {op:Op} (hc:wSq P sz x y op=true):OkP P op (wLq sz x y):=by
 intro σA h v h' hr
 unfold wSq at hc
 split at hc
 ·rename_i t x' y'
  simp only [nA] at hc
  obtain ⟨c1,c2,c3⟩:=hc
  obtain ⟨d,d1,d2⟩:=wAy c1
  split at d2
  ·rename_i e
   unfold wLq at hr
   split at hr
   ·rename_i b off n c i hb hi
    obtain ⟨hlt,hr⟩:=wCE hr
    cases hr
    have hlt:i < n:=by simpa [nH] using hlt
    have hi:=wCr hi
    refine ⟨rfl,fun μ σ hE=>?_⟩
    have g:=wAP c2 hE;rw [hb] at g
    have k:=wAP c3 hE;rw [hi] at k
    obtain ⟨m,g1,g2,g3⟩:=g
    refine ⟨_,⟨m,g1,rfl⟩,fun o w ho=>?_⟩
    have:=Runs.ia (P:=P) (o:=o) (w:=w) (i:=(i:Int)) ho g3 k (wBE d1) (wEZ d2) (by omega) (by omega)
    simpa using this
   ·rename_i b eo co n i hb hi
    obtain ⟨hlt,hr⟩:=wCE hr
    cases hr
    have hlt:i < n:=by simpa [nH] using hlt
    have hi:=wCr hi
    refine ⟨rfl,fun μ σ hE=>?_⟩
    have g:=wAP c2 hE;rw [hb] at g
    have k:=wAP c3 hE;rw [hi] at k
    obtain ⟨m,g1,g2,g3⟩:=g
    refine ⟨_,⟨m,g1,rfl⟩,fun o w ho=>?_⟩
    have:=Runs.ia (P:=P) (o:=o) (w:=w) (i:=(i:Int)) ho g3 k (wBE d1) (wEZ d2) (by omega) (by omega)
    simpa using this
   ·cases hr
  ·cases d2
 ·cases hc
def wPa (P:Program) (sz n:Nat) (x y:AOd):Op->Bool
 | .indexAddr t x' y'=>wFI P t (fun d=>match d with
   | .array m e=>nD m n && szT P e sz
   | _=>false) && (wCu x x' && wCu y y')
 | _=>false
theorem wUa {sz n:Nat} {x y:AOd} {op:Op} (hc:wPa P sz n x y op=true):OkP P op (wIN sz n x y):=by
 intro σA h v h' hr
 unfold wPa at hc
 split at hc
 ·rename_i t x' y'
  simp only [nA] at hc
  obtain ⟨c1,c2,c3⟩:=hc
  obtain ⟨d,d1,d2⟩:=wAy c1
  split at d2
  ·rename_i m e
   simp only [nA] at d2
   have em:=nB d2.1
   subst em
   unfold wIN at hr
   split at hr
   ·rename_i b off i hb hi
    obtain ⟨hlt,hr⟩:=wCE hr
    cases hr
    have hlt:i < m:=by simpa [nH] using hlt
    have hi:=wCr hi
    refine ⟨rfl,fun μ σ hE=>?_⟩
    have g:=wAP c2 hE;rw [hb] at g
    have k:=wAP c3 hE;rw [hi] at k
    obtain ⟨q,g1,g3⟩:=g
    refine ⟨_,⟨q,g1,rfl⟩,fun o w ho=>?_⟩
    have:=Runs.iaA (P:=P) (o:=o) (w:=w) (i:=(i:Int)) ho g3 k (wBE d1) (wEZ d2.2) (by omega) (by omega)
    simpa using this
   ·cases hr
  ·cases d2
 ·cases hc
def c_ix (P:Program) (n:Nat) (x y:AOd):Op->Bool
 | .index t x' y'=>wFI P t (fun d=>match d with
   | .array m e=>nD m n && (szT P e 1 && wRC P e false)
   | _=>false) && (wCu x x' && wCu y y')
 | _=>false
theorem p_ix {n:Nat} {x y:AOd} {op:Op} (hc:c_ix P n x y op=true):OkP P op (wSc n x y):=by
 intro σA h v h' hr
 unfold c_ix at hc
 split at hc
 ·rename_i t x' y'
  simp only [nA] at hc
  obtain ⟨c1,c2,c3⟩:=hc
  obtain ⟨d,d1,d2⟩:=wAy c1
  split at d2
  ·rename_i m e
   simp only [nA] at d2
   have em:=nB d2.1
   subst em
   unfold wSc at hr
   split at hr
   ·rename_i l i hb hi
    obtain ⟨hlt,hr⟩:=wCE hr
    obtain ⟨hr2,rfl⟩:=wCL hr
    have hlt:i < m:=by simpa [nH] using hlt
    have hi:=wCr hi
    refine ⟨rfl,fun μ σ hE=>?_⟩
    have g:=wAP c2 hE;rw [hb] at g
    have k:=wAP c3 hE;rw [hi] at k
    obtain ⟨vs,g1,g2⟩:=g
    rw [wHY] at hr2
    obtain ⟨cv,g3,g4⟩:=wGE g1 hr2
    refine ⟨cv,g4,fun o w ho=>?_⟩
    exact Runs.ixA (P:=P) (o:=o) (w:=w) (i:=(i:Int)) ho g2 k (wBE d1) (wEZ d2.2.1) (by omega) (by omega) (wHy (wFR d2.2.2) (by simpa using g3))
   ·cases hr
  ·cases d2
 ·cases hc
def wSr (P:Program) (sz n:Nat) (x y:AOd):Op->Bool
 | .index t x' y'=>wFI P t (fun d=>match d with
   | .array m e=>nD m n && (szT P e sz && wRC P e true)
   | _=>false) && (wCu x x' && wCu y y')
 | _=>false
theorem p_ixA {sz n:Nat} {x y:AOd} {op:Op} (hc:wSr P sz n x y op=true):OkP P op (wLr sz n x y):=by
 intro σA h v h' hr
 unfold wSr at hc
 split at hc
 ·rename_i t x' y'
  simp only [nA] at hc
  obtain ⟨c1,c2,c3⟩:=hc
  obtain ⟨d,d1,d2⟩:=wAy c1
  split at d2
  ·rename_i m e
   simp only [nA] at d2
   have em:=nB d2.1
   subst em
   unfold wLr at hr
   split at hr
   ·rename_i l i hb hi
    obtain ⟨hlt,hr⟩:=wCE hr
    obtain ⟨hr2,rfl⟩:=wCL hr
    obtain ⟨r,hr3,rfl⟩:=wEL hr2
    have hlt:i < m:=by simpa [nH] using hlt
    have hi:=wCr hi
    refine ⟨rfl,fun μ σ hE=>?_⟩
    have g:=wAP c2 hE;rw [hb] at g
    have k:=wAP c3 hE;rw [hi] at k
    obtain ⟨vs,g1,g2⟩:=g
    obtain ⟨g3,g4⟩:=wGF hr3 g1
    refine ⟨_,⟨_,g3,rfl⟩,fun o w ho=>?_⟩
    exact Runs.ixA (P:=P) (o:=o) (w:=w) (i:=(i:Int)) ho g2 k (wBE d1) (wEZ d2.2.1) (by omega) (by omega) (wJq (wFR d2.2.2) (wEZ d2.2.1) (by simp))
   ·cases hr
  ·cases d2
 ·cases hc
def wSE:Option AOd->Option Operand->Bool
 | none,none=>true
 | some x,some y=>wCu x y
 | _,_=>false
theorem wPb {x:Option AOd} {y:Option Operand} {r:Option Nat} (hr:bnd σA x=some r) (hc:wSE x y=true) (hE:EnvR μ σA σ):(r=none/\y=none) \/ ∃ n z,r=some n/\y=some z/\ev σ z=.int .i64 n:=by
 cases x with
 | none =>
  cases y with
  | none=>cases hr;exact .inl ⟨rfl,rfl⟩
  | some _=>cases hc
 | some x =>
  cases y with
  | none=>cases hc
  | some y =>
   simp only [bnd] at hr
   split at hr
   ·rename_i n hn
    cases hr
    have:=wAP (show wCu x y=true from hc) hE
    rw [wCr hn] at this
    exact .inr ⟨n,y,rfl,rfl,this⟩
   ·cases hr
def vI (n:Nat):Value:=.int .i64 (n:Int)
theorem wIU {P:Program} {n y:Nat} {code:BoundsCode} (hle:n <= y) (w:World):(Instr.sliceBound (vI n) y code).run P w=.ok n w:=by
 have h1:(n:Int) <= y:=by omega
 simp [Instr.sliceBound,vI,asIntOf,h1]
theorem wFh {P:Program} {s:Bool} {len cap:Nat} {lo hi mx:Option Nat} {l hh m:Nat} (hm:m=mx.getD cap) (hh':hh=hi.getD len) (hl:l=lo.getD 0) (h1:l <= hh) (h2:hh <= m) (h3:m <= cap) (hmh:mx.isSome=true->hi.isSome=true) (w:World) :
  (Instr.sliceBounds s len cap (lo.map vI) (hi.map vI) (mx.map vI)).run P w=.ok (l,hh,m) w:=by
 subst hm hh' hl
 unfold Instr.sliceBounds
 cases mx <;> cases hi <;> cases lo <;> simp only [ku,kv] at h1 h2 h3 <;> (try (simp at hmh;done)) <;> simp [wIU h1,wIU h2,wIU h3]
theorem wIV {x:Option AOd} {y:Option Operand} {r:Option Nat} (hr:bnd σA x=some r) (hc:wSE x y=true) (hE:EnvR μ σA σ):y.map (ev σ)=r.map vI:=by
 rcases wPb hr hc hE with ⟨rfl,rfl⟩ | ⟨n,z,rfl,rfl,h1⟩
 ·rfl
 ·simp [h1,vI]
theorem wGH (b off n:Nat):(Addr.add ⟨b,off,none⟩ n)=⟨b,off + n,none⟩:=wEq b off n
theorem wPc {P:Program} {sz:Nat} {a v:AV} {x:Value} {lo hi mx:Option Nat} (hr0:wUR sz a (orD lo 0) hi mx=some v) (hx:Rv μ a x) (hmh:mx.isSome=true->hi.isSome=true) :
  ∃ A len cap cv l hh m,x=.slice A len cap/\Rv μ v cv/\(∀ s w,(Instr.sliceBounds s len cap (lo.map vI) (hi.map vI) (mx.map vI)).run P w=.ok (l,hh,m) w) /\
   cv=.slice (if m=l then A else A.map (·.add (l * sz))) (hh - l) (m - l):=by
 obtain ⟨l,hl,hr⟩:∃ l,lo.getD 0=l/\wUR sz a l hi mx=some v:=⟨_,rfl,by rw [<- wOo];exact hr0⟩
 clear hr0
 unfold wUR at hr
 split at hr
 ·obtain ⟨hb,hr⟩:=wCE hr
  cases hr
  simp only [nA] at hb
  obtain ⟨⟨b1,b2⟩,b3⟩:=hb
  have l0:=nB b1
  have hx:x=.slice none 0 0:=hx
  subst hx
  have h2:hi.getD 0=0:=by cases hi with | none=>rfl | some n=>exact nB b2
  have h3:mx.getD 0=0:=by cases mx with | none=>rfl | some n=>exact nB b3
  refine ⟨none,0,0,_,0,0,0,rfl,(rfl:Rv μ .snil _),fun s w=>wFh h3.symm h2.symm (by rw [hl,l0]) (nG _) (nG _) (nG _) hmh w,by simp⟩
 ·rename_i b off n c
  obtain ⟨d,g1,g2,rfl⟩:=hx
  simp only [wOo] at hr
  obtain ⟨hb,hr⟩:=wCE hr
  cases hr
  simp only [nA,nN] at hb
  obtain ⟨⟨b1,b2⟩,b3⟩:=hb
  refine ⟨_,n,c,_,l,hi.getD n,mx.getD c,rfl,⟨d,g1,by omega,rfl⟩,fun s w=>wFh rfl rfl hl.symm b1 b2 b3 hmh w,?_⟩
  by_cases e:mx.getD c=l
  ·simp [e]
  ·have:nD (mx.getD c) l=false:=by
    cases hq:nD (mx.getD c) l with
    | false=>rfl
    | true=>exact absurd (nB hq) e
   simp [e,this,wGH]
 ·rename_i b eo co n
  obtain ⟨d,g1,g2,rfl⟩:=hx
  simp only [wOo] at hr
  split at hr
  ·obtain ⟨hb,hr⟩:=wCE hr
   simp only [nA,nN] at hb
   obtain ⟨b1,b2⟩:=hb
   have fin:∀ cv,cv=kq (if d.2 - eo=l then some ⟨d.1,co,none⟩ else (some (⟨d.1,co,none⟩:Addr)).map (·.add (l * sz))) (hi.getD n - l) (d.2 - eo - l)->Rv μ v cv ->
     ∃ A len cap cv l hh m,kq (some ⟨d.1,co,none⟩) n (d.2 - eo)=.slice A len cap/\Rv μ v cv/\(∀ s w,(Instr.sliceBounds s len cap (lo.map vI) (hi.map vI) ((none:Option Nat).map vI)).run P w=.ok (l,hh,m) w) /\
      cv=.slice (if m=l then A else A.map (·.add (l * sz))) (hh - l) (m - l):=fun cv e hv =>
    ⟨_,n,d.2 - eo,cv,l,hi.getD n,d.2 - eo,rfl,hv,fun s w=>wFh rfl rfl hl.symm b1 (by simp only [ku];omega) (nG _) hmh w,e⟩
   split at hr
   ·cases hr
    refine fin _ rfl ⟨d,g1,by omega,?_⟩
    simp [Addr.add]
   ·rename_i l0
    split at hr
    ·rename_i hlt
     cases hr
     have hlt:l < n:=by simpa [nH] using hlt
     refine fin _ rfl ⟨d,g1,by omega,?_⟩
     rw [if_neg (by omega)]
     simp [wGH,Nat.sub_sub]
    ·rename_i hlt
     cases hr
     have hlt:¬ l < n:=by
      intro hq
      have:nR l n=true:=by rw [nH];exact hq
      rw [this] at hlt;cases hlt
     have e1:hi.getD n - l=0:=by omega
     refine fin _ rfl ?_
     rw [e1]
     by_cases e2:d.2 - eo=l
     ·rw [if_pos e2];exact ⟨d,g1,co,by congr 1;omega⟩
     ·rw [if_neg e2];exact ⟨d,g1,co + l * sz,by simp only [kx,wGH];congr 1;omega⟩
  ·rename_i m
   obtain ⟨hb,hr⟩:=wCE hr
   cases hr
   simp only [nA,nN] at hb
   obtain ⟨⟨b1,b2⟩,b3⟩:=hb
   refine ⟨_,n,d.2 - eo,_,l,hi.getD n,m,rfl,⟨d,g1,by omega,rfl⟩,fun s w=>wFh (mx:=some m) rfl rfl hl.symm b1 b2 (by simp only [kv];omega) hmh w,?_⟩
   by_cases e:m=l
   ·simp [e]
   ·have:nD m l=false:=by
     cases hq:nD m l with
     | false=>rfl
     | true=>exact absurd (nB hq) e
    simp [e,this,wGH]
 ·cases hr
def wSs (P:Program) (sz:Nat) (x:AOd) (lo hi mx:Option AOd):Op->Bool
 | .slice t y l m n=>wFI P t (fun d=>match d with
   | .slice e=>szT P e sz
   | _=>false) && (wCu x y && (wSE lo l && (wSE hi m && (wSE mx n && (!mx.isSome || hi.isSome)))))
 | _=>false
theorem p_slc {sz:Nat} {x:AOd} {lo hi mx:Option AOd} {op:Op} (hc:wSs P sz x lo hi mx op=true):OkP P op (wLn sz x lo hi mx):=by
 intro σA h v h' hr
 unfold wSs at hc
 split at hc
 ·rename_i t y l m n
  simp only [nA] at hc
  obtain ⟨c1,c2,c3,c4,c5,c6⟩:=hc
  obtain ⟨d,d1,d2⟩:=wAy c1
  split at d2
  ·rename_i e
   unfold wLn at hr
   split at hr
   ·rename_i rl rh rm h1 h2 h3
    obtain ⟨hr2,rfl⟩:=wCL hr
    refine ⟨rfl,fun μ σ hE=>?_⟩
    have hmh:rm.isSome=true->rh.isSome=true:=by
     intro hs
     rcases wPb h3 c5 hE with ⟨rfl,_⟩ | ⟨_,z,rfl,rfl,_⟩
     ·cases hs
     ·cases mx with
      | none=>simp [bnd] at h3
      | some _ =>
       cases hi with
       | none=>simp at c6
       | some _ =>
        rcases wPb h2 c4 hE with ⟨rfl,e0⟩ | ⟨_,_,rfl,_⟩
        ·subst e0;simp [wSE] at c4
        ·rfl
    obtain ⟨A,len,cap,cv,ll,hh,mm,e1,e2,e3,e4⟩:=wPc (P:=P) hr2 (wAP c2 hE) hmh
    refine ⟨cv,e2,fun o w ho=>⟨by rw [ho];rfl,?_⟩⟩
    have b1:=wIV h1 c3 hE
    have b2:=wIV h2 c4 hE
    have b3:=wIV h3 c5 hE
    simp [execOp,ho,Instr.sliceAt,Instr.slice,wBE d1,e1,b1,b2,b3,e3,wEZ d2,e4]
   ·cases hr
  ·cases d2
 ·cases hc
def wPd (P:Program) (sz n:Nat) (x:AOd) (lo hi:Option AOd):Op->Bool
 | .slice t y l m none=>wFI P t (fun d=>match d with
   | .array k e=>nD k n && szT P e sz
   | _=>false) && (wCu x y && (wSE lo l && wSE hi m))
 | _=>false
theorem wUb {sz n:Nat} {x:AOd} {lo hi:Option AOd} {op:Op} (hc:wPd P sz n x lo hi op=true):OkP P op (wIL sz n x lo hi):=by
 intro σA h v h' hr
 unfold wPd at hc
 split at hc
 ·rename_i t y l m
  simp only [nA] at hc
  obtain ⟨c1,c2,c3,c4⟩:=hc
  obtain ⟨d,d1,d2⟩:=wAy c1
  split at d2
  ·rename_i k e
   simp only [nA] at d2
   have ek:=nB d2.1
   subst ek
   unfold wIL at hr
   split at hr
   ·rename_i rl rh b off h1 h2 hb
    obtain ⟨hr2,rfl⟩:=wCL hr
    refine ⟨rfl,fun μ σ hE=>?_⟩
    have g:=wAP c2 hE;rw [hb] at g
    obtain ⟨c,g1,g2⟩:=g
    obtain ⟨A,len,cap,cv,ll,hh,mm,e1,e2,e3,e4⟩:=wPc (P:=P) (μ:=μ) (x:=.slice (some ⟨c.1,off,none⟩) k k) hr2 ⟨c,g1,nG _,rfl⟩ (by intro hs;cases hs)
    cases e1
    refine ⟨cv,e2,fun o w ho=>⟨by rw [ho];rfl,?_⟩⟩
    have b1:=wIV h1 c3 hE
    have b2:=wIV h2 c4 hE
    have e3':=e3 false
    simp only [Option.map_none] at e3'
    simp [execOp,ho,Instr.sliceAt,wBE d1,g2,Instr.sureAddr,b1,b2,e3',wEZ d2.2,e4]
    split <;> simp
   ·cases hr
  ·cases d2
 ·cases hc
end
end
end Go.KX
namespace Go.KX
noncomputable section
open Go.RowKit Go.KL
section
variable {C:Chk} {P:Program} {μ μ':Mu} {w w':World} {h h':AH} {σ:Env} {σA:Tr AV} {t e:TypeId} {o:Oper}
def wLA (place:Nat->Option (Nat × Nat)):List (Nat × Nat × AOd)->List (Nat × Operand)->Bool
 | [],[]=>true
 | (off,n,x) :: ps,(i,y) :: qs=>(match place i with | some (o,s)=>nD o off && nD s n | none=>false) && (wCu x y && wLA place ps qs)
 | _,_=>false
theorem wIW {place:Nat->Option (Nat × Nat)} (hE:EnvR μ σA σ):∀ {ps:List (Nat × Nat × AOd)} {qs:List (Nat × Operand)} {cs r:List AV} {CS:List Value},wJu σA cs ps=some r->wLA place ps qs=true->RvL μ cs CS ->
  ∃ R,lay place CS (qs.map fun (p:Nat × Operand)=>(p.1,ev σ p.2))=some R/\RvL μ r R/\R.length=CS.length
 | [],[],cs,r,CS,hr,_,hl=>by
  simp only [wJu] at hr;cases hr;exact ⟨CS,rfl,hl,rfl⟩
 | (off,n,x) :: ps,(i,y) :: qs,cs,r,CS,hr,hc,hl=>by
  simp only [wLA,nA] at hc
  obtain ⟨c1,c2,c3⟩:=hc
  split at c1
  ·rename_i o s hp
   simp only [nA] at c1
   have e1:=nB c1.1
   have e2:=nB c1.2
   subst e1 e2
   simp only [wJu] at hr
   split at hr
   ·rename_i hn
    have hn:=nB hn
    split at hr
    ·rename_i cs' ho
     obtain ⟨vs,v1,v2⟩:=wHn (wAP c2 hE)
     obtain ⟨g1,g2⟩:=wJx ho hl v1
     have hlen:vs.length=s:=by rw [wDl v1,<- wFQ,hn]
     obtain ⟨R,r1,r2,r3⟩:=wIW hE hr c3 g2
     refine ⟨R,?_,r2,by rw [r3,wDQ]⟩
     rw [nK,lay,hp]
     simp only [v2,km,hlen,beq_self_eq_true,Bool.true_and]
     rw [if_pos (by rw [nN];omega)]
     exact r1
    ·cases hr
   ·cases hr
  ·cases c1
 | [],_ :: _,cs,r,CS,hr,hc,hl=>by simp [wLA] at hc
 | _ :: _,[],cs,r,CS,hr,hc,hl=>by simp [wLA] at hc
def plL (P:Program):List Field->Option (List (Nat × Nat))
 | []=>some []
 | f :: fs=>match P.info? f.type,plL P fs with
  | some i,some l=>some ((f.offset,i.size) :: l)
  | _,_=>none
theorem wUc:∀ {fs:List Field} {pl:List (Nat × Nat)},plL P fs=some pl->wRx P fs.toArray pl:=by
 intro fs pl hp w
 rw [List.mapM_toArray]
 have key:∀ (fs:List Field) (pl:List (Nat × Nat)),plL P fs=some pl->((fs.mapM fun f=>do pure (f.offset,<- sizeOf f.type):Sem (List (Nat × Nat)))).run P w=.ok pl w:=by
  intro fs
  induction fs with
  | nil=>intro pl hp;cases hp;simp
  | cons f fs ih =>
   intro pl hp
   unfold plL at hp
   split at hp
   ·rename_i i l h1 h2
    cases hp
    have hs:(sizeOf f.type).run P w=.ok i.size w:=by simp [sizeOf,typeInfo,h1]
    simp only [List.mapM_cons,Sem.run_bind,hs,Result.andThen_ok,Sem.run_pure,ih l h2]
   ·cases hp
 have:=key fs pl hp
 simp only [Sem.run_map,this,Result.andThen_ok]
def wSt (P:Program) (z:List AV) (ps:List (Nat × Nat × AOd)):Op->Bool
 | .build t qs=>zT P t z && wFI P t (fun d=>match d with
   | .struct fs=>match plL P fs.toList with
    | some pl=>wLA (fun i=>pl[i]?) ps qs.toList
    | none=>false
   | .array _ e=>match P.info? e with
    | some j=>wLA (fun i=>some (i * j.size,j.size)) ps qs.toList
    | none=>false
   | _=>false)
 | _=>false
theorem p_bld {z:List AV} {ps:List (Nat × Nat × AOd)} {op:Op} (hc:wSt P z ps op=true):OkP P op (wPB z ps):=by
 intro σA h v h' hr
 unfold wSt at hc
 split at hc
 ·rename_i t qs
  simp only [nA] at hc
  obtain ⟨c1,c2⟩:=hc
  obtain ⟨hr2,rfl⟩:=wCL hr
  obtain ⟨r,hr3,rfl⟩:=wEL hr2
  obtain ⟨i,zv,z1,z2,z3⟩:=wGG c1
  obtain ⟨d,d1,d2⟩:=wAy c2
  refine ⟨rfl,fun μ σ hE=>?_⟩
  split at d2
  ·rename_i fs
   split at d2
   ·rename_i pl hpl
    obtain ⟨R,r1,r2,_⟩:=wIW hE hr3 d2 (z3 μ)
    refine ⟨_,⟨R,r2,rfl⟩,fun o w ho=>?_⟩
    exact Runs.build (P:=P) (ps:=qs.toList) (z:=zv.cells.toList) ho rfl (wEa z1 z2) ⟨fs,wBE d1,wUc hpl⟩ (by simp) r1
   ·cases d2
  ·rename_i n e
   split at d2
   ·rename_i j hj
    obtain ⟨R,r1,r2,_⟩:=wIW hE hr3 d2 (z3 μ)
    refine ⟨_,⟨R,r2,rfl⟩,fun o w ho=>?_⟩
    exact Runs.buildA (P:=P) (ps:=qs.toList) (z:=zv.cells.toList) ho rfl (wEa z1 z2) (wBE d1) (fun w=>by simp [sizeOf,typeInfo,hj]) (by simp) r1
   ·cases d2
  ·cases d2
 ·cases hc
def wNn (P:Program) (b:Builtin) (x:AOd):Op->Bool
 | .call c=>match c.callee with
  | .builtin b'=>(b' == b) && (match c.args.toList,c.argTypes.toList with
   | [y],[t]=>wFI P t (fun d=>match d with | .slice _=>true | _=>false) && wCu x y
   | _,_=>false)
  | _=>false
 | _=>false
theorem wMt {b:Builtin} {x:AOd} {op:Op} (hc:wNn P b x op=true):∃ y t e,op=.call { callee:=.builtin b,args:=#[y],argTypes:=#[t] }/\P.underlying t=some (.slice e)/\wCu x y=true:=by
 unfold wNn at hc
 split at hc
 ·rename_i c
  obtain ⟨ce,args,tys⟩:=c
  simp only at hc
  split at hc
  ·rename_i b'
   simp only [nA,beq_iff_eq] at hc
   obtain ⟨rfl,h2⟩:=hc
   split at h2
   ·rename_i y t h3 h4
    simp only [nA] at h2
    obtain ⟨d,d1,d2⟩:=wAy h2.1
    cases d <;> first | (cases d2;done) | skip
    refine ⟨y,t,_,?_,d1,h2.2⟩
    congr 2
    ·exact nJ (by simpa using h3)
    ·exact nJ (by simpa using h4)
   ·cases h2
  ·cases hc
 ·cases hc
theorem p_len {x:AOd} {op:Op} (hc:wNn P .len x op=true):OkP P op (wLt x):=by
 intro σA h v h' hr
 obtain ⟨y,t,e,rfl,d1,c2⟩:=wMt hc
 unfold wLt at hr
 split at hr <;> cases hr <;> rename_i hb
 ·refine ⟨rfl,fun μ σ hE=>⟨_,rfl,fun o w ho=>?_⟩⟩
  have g:=wAP c2 hE;rw [hb] at g
  exact Runs.len ho g (wBE d1)
 ·refine ⟨rfl,fun μ σ hE=>⟨_,rfl,fun o w ho=>?_⟩⟩
  have g:=wAP c2 hE;rw [hb] at g
  obtain ⟨c,_,_,g⟩:=g
  exact Runs.len ho g (wBE d1)
 ·refine ⟨rfl,fun μ σ hE=>⟨_,rfl,fun o w ho=>?_⟩⟩
  have g:=wAP c2 hE;rw [hb] at g
  obtain ⟨c,_,_,g⟩:=g
  exact Runs.len ho g (wBE d1)
 ·refine ⟨rfl,fun μ σ hE=>⟨_,rfl,fun o w ho=>?_⟩⟩
  have g:=wAP c2 hE;rw [hb] at g
  obtain ⟨c,_,q,g⟩:=g
  exact Runs.len ho g (wBE d1)
theorem Runs.cap {t e:TypeId} {x:Operand} {a:Option Addr} {n c:Nat} (ho:o.op=.call { callee:=.builtin .cap,args:=#[x],argTypes:=#[t] }) (hx:ev σ x=.slice a n c)
  (ht:∀ w,(underlying t).run P w=.ok (.slice e) w):Runs P σ w o (.int .i64 c) w :=
 ⟨by rw [ho];rfl,by simp [execOp,ho,resolve,invoke,builtin,Builtin.cap_,hx,ht,goInt]⟩
theorem p_cap {x:AOd} {op:Op} (hc:wNn P .cap x op=true):OkP P op (wLu x):=by
 intro σA h v h' hr
 obtain ⟨y,t,e,rfl,d1,c2⟩:=wMt hc
 unfold wLu at hr
 split at hr <;> cases hr <;> rename_i hb
 ·refine ⟨rfl,fun μ σ hE=>⟨_,rfl,fun o w ho=>?_⟩⟩
  have g:=wAP c2 hE;rw [hb] at g
  exact Runs.cap ho g (wBE d1)
 ·refine ⟨rfl,fun μ σ hE=>⟨_,rfl,fun o w ho=>?_⟩⟩
  have g:=wAP c2 hE;rw [hb] at g
  obtain ⟨c,_,_,g⟩:=g
  exact Runs.cap ho g (wBE d1)
def wUD (b:Builtin) (x y:AOd):Op->Bool
 | .call c=>match c.callee with
  | .builtin b'=>(b' == b) && (match c.args.toList with
   | [x',y']=>wCu x x' && wCu y y'
   | _=>false)
  | _=>false
 | _=>false
theorem wPe {b:Builtin} {x y:AOd} {op:Op} (hc:wUD b x y op=true):∃ x' y' tys,op=.call { callee:=.builtin b,args:=#[x',y'],argTypes:=tys }/\wCu x x'=true/\wCu y y'=true:=by
 unfold wUD at hc
 split at hc
 ·rename_i c
  obtain ⟨ce,args,tys⟩:=c
  simp only at hc
  split at hc
  ·rename_i b'
   simp only [nA,beq_iff_eq] at hc
   obtain ⟨rfl,h2⟩:=hc
   split at h2
   ·rename_i x' y' h3
    simp only [nA] at h2
    refine ⟨x',y',tys,?_,h2.1,h2.2⟩
    congr 2
    exact nJ (by simpa using h3)
   ·cases h2
  ·cases hc
 ·cases hc
theorem p_min {x y:AOd} {op:Op} (hc:wUD .min x y op=true):OkP P op (wPC x y):=by
 intro σA h v h' hr
 obtain ⟨x',y',tys,rfl,c1,c2⟩:=wPe hc
 obtain ⟨hr2,rfl⟩:=wCL hr
 split at hr2
 ·rename_i a b e1 e2
  cases hr2
  refine ⟨rfl,fun μ σ hE=>⟨_,rfl,fun o w ho=>?_⟩⟩
  have g1:=wAP c1 hE;rw [e1] at g1
  have g2:=wAP c2 hE;rw [e2] at g2
  refine (Runs.min ho g1 g2).to ?_
  have:(match zlt b a with | true=>b | false=>a)=Min.min a b:=by
   rw [wIS,Int.min_def]
   by_cases hq:b < a
   ·simp [hq,Int.not_le.2 hq]
   ·simp [hq,Int.not_lt.1 hq]
  exact congrArg (kL .i64) this.symm
 ·cases hr2
theorem p_max {x y:AOd} {op:Op} (hc:wUD .max x y op=true):OkP P op (wPD x y):=by
 intro σA h v h' hr
 obtain ⟨x',y',tys,rfl,c1,c2⟩:=wPe hc
 obtain ⟨hr2,rfl⟩:=wCL hr
 split at hr2
 ·rename_i a b e1 e2
  cases hr2
  refine ⟨rfl,fun μ σ hE=>⟨_,rfl,fun o w ho=>?_⟩⟩
  have g1:=wAP c1 hE;rw [e1] at g1
  have g2:=wAP c2 hE;rw [e2] at g2
  refine (Runs.max ho g1 g2).to ?_
  have:(match zlt a b with | true=>b | false=>a)=Max.max a b:=by
   rw [wIS,Int.max_def]
   by_cases hq:a < b
   ·simp [hq,Int.le_of_lt hq]
   ·by_cases hq2:a <= b
    ·have:a=b:=by omega
     simp [this]
    ·simp [hq,hq2]
  exact congrArg (kL .i64) this.symm
 ·cases hr2
def OkL (C:Chk) (P:Program) (op:Op) (f:Tr AV->AH->Option (AV × AH)):Prop :=
 ∀ σA h v h',f σA h=some (v,h')->h'=h/\∀ μ σ w,EnvR μ σA σ->Sim C P μ h w->∃ cv,Rv μ v cv/\∀ (o:Oper),o.op=op->wFw P σ w o cv
theorem wFi {b:Pos} {l:List AV} (hr:wEJ h b=some l) (S:Sim C P μ h w):∃ c vs,μ b=some c/\RvL μ l vs/\∀ w',Keep w w' Non->∀ j v,vs[j]?=some v->w'.cell? ⟨c.1,j,none⟩=some v:=by
 unfold wEJ at hr
 split at hr
 ·rename_i B hB
  obtain ⟨c,h1,h2⟩:=S.at_ b B hB
  cases B <;> simp only [wMj] at hr <;> first | (cases hr;done) | cases hr
  ·obtain ⟨vs,h3,h4⟩:=h2
   exact ⟨c,vs,h1,h3,fun w' K j v hv=>(h4.non K).cell hv⟩
  ·obtain ⟨vs,h3,h4⟩:=h2
   refine ⟨c,vs,h1,h3,fun w' K j v hv=>?_⟩
   obtain ⟨cur,g1,g2,g3,g4,g5⟩:=RowAt.cells h4
   have g1':=(K.block _ (wAc g1) id).trans g1
   have:cur.toList[j]?=some v:=by
    rw [<- g5,kk] at hv
    split at hv
    ·exact hv
    ·cases hv
   simp only [World.cell?,g1']
   simpa using this
 ·cases hr
def wUd (P:Program) (x:AOd):Op->Bool
 | .load t y=>wRC P t false && wCu x y
 | _=>false
theorem l_ld {x:AOd} {op:Op} (hc:wUd P x op=true):OkL C P op (wQj x):=by
 intro σA h v h' hr
 unfold wUd at hc
 split at hc
 ·simp only [nA] at hc
  unfold wQj at hr
  split at hr
  ·rename_i b off hb
   split at hr
   ·rename_i l hl
    obtain ⟨hr2,rfl⟩:=wCL hr
    refine ⟨rfl,fun μ σ w hE S=>?_⟩
    obtain ⟨c,vs,h1,h2,h3⟩:=wFi hl S
    have g:=wAP hc.2 hE;rw [hb] at g
    obtain ⟨c',g1,g2⟩:=g
    rw [h1] at g1;cases g1
    rw [wHY] at hr2
    obtain ⟨cv,g3,g4⟩:=wGE h2 hr2
    exact ⟨cv,g4,fun o ho w' K=>Runs.ld ho g2 (wFR hc.1) (h3 w' K _ _ g3)⟩
   ·cases hr
  ·cases hr
 ·cases hc
def wPf (P:Program) (n:Nat) (x:AOd):Op->Bool
 | .load t y=>(wRC P t true && szT P t n) && wCu x y
 | _=>false
theorem l_ldA {n:Nat} {x:AOd} {op:Op} (hc:wPf P n x op=true):OkL C P op (wJD n x):=by
 intro σA h v h' hr
 unfold wPf at hc
 split at hc
 ·simp only [nA] at hc
  unfold wJD at hr
  split at hr
  ·rename_i b off hb
   split at hr
   ·rename_i l hl
    obtain ⟨hr2,rfl⟩:=wCL hr
    obtain ⟨r,hr3,rfl⟩:=wEL hr2
    refine ⟨rfl,fun μ σ w hE S=>?_⟩
    obtain ⟨c,vs,h1,h2,h3⟩:=wFi hl S
    have g:=wAP hc.2 hE;rw [hb] at g
    obtain ⟨c',g1,g2⟩:=g
    rw [h1] at g1;cases g1
    obtain ⟨g3,g4⟩:=wGF hr3 h2
    refine ⟨_,⟨_,g3,rfl⟩,fun o ho w' K=>Runs.ldA ho g2 (wFR hc.1.1) (wEZ hc.1.2) (by simp;omega) fun j u hu=>?_⟩
    exact h3 w' K _ _ (wFN rfl j u hu)
   ·cases hr
  ·cases hr
 ·cases hc
def OkE (C:Chk) (P:Program) (op:Op) (f:Tr AV->AH->Option (AV × AH)):Prop :=
 ∀ σA h v h',f σA h=some (v,h')->∀ μ σ w,EnvR μ σA σ->Sim C P μ h w->∀ (o:Oper),o.op=op->∃ μ' w' cv,Ext μ h.fl.nat w μ' w'/\Sim C P μ' h' w'/\Rv μ' v cv/\h'.fl=h.fl/\Runs P σ w o cv w'
def OkU (C:Chk) (P:Program) (op:Op) (f:Tr AV->AH->Option (AV × AH)):Prop :=
 ∀ σA h v h',f σA h=some (v,h')->∀ μ σ w,EnvR μ σA σ->Sim C P μ h w->∀ (o:Oper),o.op=op->∃ μ' w',Ext μ h.fl.nat w μ' w'/\Sim C P μ' h' w'/\v=u/\h'.fl=h.fl/\Does P σ w o w'
theorem OkP.toL {op:Op} {f:Tr AV->AH->Option (AV × AH)} (hp:OkP P op f):OkL C P op f:=by
 intro σA h v h' hr
 obtain ⟨h1,h2⟩:=hp σA h v h' hr
 exact ⟨h1,fun μ σ w hE _=>let ⟨cv,g1,g2⟩:=h2 μ σ hE;⟨cv,g1,fun o ho w' _=>g2 o w' ho⟩⟩
theorem OkL.toE {op:Op} {f:Tr AV->AH->Option (AV × AH)} (hp:OkL C P op f):OkE C P op f:=by
 intro σA h v h' hr μ σ w hE S o ho
 obtain ⟨rfl,h2⟩:=hp σA h v h' hr
 obtain ⟨cv,g1,g2⟩:=h2 μ σ w hE S
 exact ⟨μ,w,cv,Ext.refl μ _ w,S,g1,rfl,g2 o ho w (Keep.refl w _)⟩
theorem wGi {T:TypeId} {z:List AV} {cs:List Value} (S:Sim C P μ h w) (hz:RvL μ z cs):∃ μ',Ext μ h.fl.nat w μ' (w.alloc (.cells cs.toArray T))/\Sim C P μ' (h.push (.cells T z)) (w.alloc (.cells cs.toArray T))/\(h.push (.cells T z)).fl=h.fl/\μ' h.nx=some ⟨w.heap.size,0,g0⟩:=by
 have hle:=Mu.add_le (c:=⟨w.heap.size,0,g0⟩) (S.nx h.nx (nG _))
 obtain ⟨h1,h2,h3,h4⟩:=S.push (w':=w.alloc (.cells cs.toArray T)) (c:=⟨w.heap.size,0,g0⟩) (B:=.cells T z) (wBF w _) (nG _) (by rw [wJM];exact Nat.lt_succ_self _) ⟨cs,hz.mono hle,wEH w cs T⟩
 exact ⟨_,h2,h1,h3,h4⟩
def wPg (P:Program) (T:Nat) (z:List AV):Op->Bool
 | .alloc t=>nD T t && zT P t z
 | _=>false
theorem e_new {T:Nat} {z:List AV} {op:Op} (hc:wPg P T z op=true):OkE C P op (wSa T z):=by
 intro σA h v h' hr μ σ w hE S o ho
 cases hr
 unfold wPg at hc
 split at hc
 ·simp only [nA] at hc
  have e:=nB hc.1
  subst e
  obtain ⟨i,zv,z1,z2,z3⟩:=wGG hc.2
  obtain ⟨μ',h1,h2,h3,h4⟩:=wGi (T:=T) S (z3 μ)
  refine ⟨μ',_,_,h1,h2,⟨_,h4,rfl⟩,h3,by rw [ho];rfl,?_⟩
  simp [execOp,ho,Instr.alloc,wEa z1 z2,newVar,newRow,newObj,Sem.run]
 ·cases hc
def wPh (T:Nat) (x:AOd):Op->Bool
 | .box t y=>nD T t && wCu x y
 | _=>false
theorem e_box {T:Nat} {x:AOd} {op:Op} (hc:wPh T x op=true):OkE C P op (wNf T x):=by
 intro σA h v h' hr μ σ w hE S o ho
 cases hr
 unfold wPh at hc
 split at hc
 ·simp only [nA] at hc
  have e:=nB hc.1
  subst e
  obtain ⟨vs,v1,v2⟩:=wHn (wAP hc.2 hE)
  obtain ⟨μ',h1,h2,h3,h4⟩:=wGi (T:=T) S v1
  refine ⟨μ',_,_,h1,h2,⟨_,h4,rfl⟩,h3,by rw [ho];rfl,?_⟩
  simp [execOp,ho,Instr.box,newVar,newRow,newObj,v2,Sem.run]
 ·cases hc
theorem wSu (S:Sim C P μ h w):∃ μ',Ext μ h.fl.nat w μ' (w.alloc (.map #[] 0))/\Sim C P μ' (h.push .map0) (w.alloc (.map #[] 0))/\(h.push .map0).fl=h.fl/\μ' h.nx=some ⟨w.heap.size,0,g0⟩:=by
 obtain ⟨h1,h2,h3,h4⟩:=S.push (w':=w.alloc (.map #[] 0)) (c:=⟨w.heap.size,0,g0⟩) (B:=.map0) (wBF w _) (nG _) (by rw [wJM];exact Nat.lt_succ_self _) ⟨0,heap_alloc_new w _⟩
 exact ⟨_,h2,h1,h3,h4⟩
def wPi:Op->Bool
 | .makeMap _ none=>true
 | _=>false
theorem e_mkm {op:Op} (hc:wPi op=true):OkE C P op wSb:=by
 intro σA h v h' hr μ σ w hE S o ho
 cases hr
 unfold wPi at hc
 split at hc
 ·obtain ⟨μ',h1,h2,h3,h4⟩:=wSu S
  refine ⟨μ',_,_,h1,h2,⟨_,h4,rfl⟩,h3,by rw [ho];rfl,?_⟩
  simp [execOp,ho,Instr.makeMap,newObj,Sem.run,Result.andThen]
 ·cases hc
theorem wGI {zc:Array Value} {n:Nat}:∀ c,((nh (c * zc.size)).map (zc[· % zc.size]!)).toList=(nI c zc.toList).flatten \/ False:=by
 intro c
 left
 induction c with
 | zero=>simp
 | succ c ih =>
  rw [kr,Array.toList_range] at ih ⊢
  rw [Nat.succ_mul,List.range_add,List.map_append,ih,List.replicate_succ',List.flatten_append]
  congr 1
  simp only [List.map_map,List.flatten_singleton]
  apply List.ext_getElem
  ·simp
  ·intro i h1 h2
   simp at h1
   simp [Nat.add_mul_mod_self_right,Nat.mod_eq_of_lt h1,Nat.add_comm (c * zc.size) i,h1]
def wPj (P:Program) (T sz by_:Nat) (z:List AV) (x y:AOd):Op->Bool
 | .makeSlice t x' y'=>wFI P t (fun d=>match d with | .slice e=>nD e T | _=>false) && (szT P T sz && (byT P T by_ && (zT P T z && (nD (len z) sz && (wCu x x' && wCu y y')))))
 | _=>false
theorem e_mks {T sz by_:Nat} {z:List AV} {x y:AOd} {op:Op} (hc:wPj P T sz by_ z x y op=true):OkE C P op (wIK T sz by_ z x y):=by
 intro σA h v h' hr μ σ w hE S o ho
 unfold wPj at hc
 split at hc
 ·rename_i t x' y'
  simp only [nA] at hc
  obtain ⟨c1,c2,c3,c4,c5,c6,c7⟩:=hc
  obtain ⟨d,d1,d2⟩:=wAy c1
  split at d2 <;> first | (cases d2;done) | skip
  have e:=nB d2
  subst e
  rename_i e
  obtain ⟨i,i1,i2⟩:=wHp c2
  obtain ⟨i',j1,j2⟩:=wHq c3
  obtain ⟨i'',zv,k1,k2,k3⟩:=wGG c4
  rw [i1] at j1 k1;cases j1;cases k1
  have hz:=nB c5
  unfold wIK at hr
  split at hr
  ·rename_i l c hl hcc
   obtain ⟨hb,hr⟩:=wCE hr
   cases hr
   simp only [nA,nN] at hb
   obtain ⟨⟨⟨b1,b2⟩,b3⟩,b4⟩:=hb
   have hx:=wAP c6 hE;rw [wCr hl] at hx
   have hy:=wAP c7 hE;rw [wCr hcc] at hy
   have hx:ev σ x'=.int .i64 (l:Int):=hx
   have hy:ev σ y'=.int .i64 (c:Int):=hy
   have zlen:zv.cells.size=sz:=by rw [<- hz,wFQ,<- wDl (k3 μ)];simp
   have hrun:=run_makeSlice (P:=P) w t e i zv d1 i1 k2 .i64 .i64 (l:Int) (c:Int) (by omega) (by omega) (by rw [i2,np];exact b2) (by rw [j2];have hb:=Int.ofNat_le.2 b3;rw [kW] at hb;exact hb) (by omega)
   simp only [np,i2] at hrun
   have hcells:(madeCells zv.cells (c * sz))=((nI c zv.cells.toList).flatten).toArray:=by
    apply nJ
    have:=wGI (zc:=zv.cells) (n:=0) c
    simp only [or_false] at this
    rw [zlen] at this
    show ((nh (c * sz)).map (zv.cells[· % zv.cells.size]!)).toList=_
    rw [zlen,this]
   rw [hcells] at hrun
   obtain ⟨μ',h1,h2,h3,h4⟩:=wGi (T:=e) S (wIR (k3 μ) c)
   refine ⟨μ',_,_,h1,h2,⟨_,h4,b1,rfl⟩,h3,by rw [ho];rfl,?_⟩
   simp [execOp,ho,hx,hy,hrun,Result.andThen]
  ·cases hr
 ·cases hc
def wLB (P:Program) (T n:Nat) (z:List AV) (ps:List (Nat × Nat × AOd)):Op->Bool
 | .buildSlice t m qs=>nD m n && (wFI P t (fun d=>match d with | .slice e=>nD e T | _=>false) && (match P.info? T with
   | some i=>kP (n * i.size) 16777216 && (wLA (fun k=>some (k * i.size,i.size)) ps qs.toList && (match i.zero with
    | some v=>wRB z ((kH (n * i.size)).map fun k=>v.cells[k % v.cells.size]!)
    | none=>false))
   | none=>false))
 | _=>false
theorem wUe {T n:Nat} {z:List AV} {ps:List (Nat × Nat × AOd)} {op:Op} (hc:wLB P T n z ps op=true):OkE C P op (wFO T n z ps):=by
 intro σA h v h' hr μ σ w hE S o ho
 unfold wLB at hc
 split at hc
 ·rename_i t m qs
  simp only [nA] at hc
  obtain ⟨c1,c2,c3⟩:=hc
  have e:=nB c1
  subst e
  obtain ⟨d,d1,d2⟩:=wAy c2
  split at d2 <;> first | (cases d2;done) | skip
  have e:=nB d2
  subst e
  rename_i e
  split at c3
  ·rename_i i hi
   simp only [nA,nN] at c3
   obtain ⟨c3,c4,c5⟩:=c3
   split at c5
   ·rename_i zv hz
    unfold wFO at hr
    split at hr
    ·rename_i r hr3
     cases hr
     obtain ⟨R,r1,r2,r3⟩:=wIW hE hr3 c4 (wHD μ c5)
     have hf:=wEI _ _ _ _ r1
     obtain ⟨μ',h1,h2,h3,h4⟩:=wGi (T:=e) S r2
     refine ⟨μ',_,_,h1,h2,⟨_,h4,nG _,rfl⟩,h3,by rw [ho];rfl,?_⟩
     have hs:∀ w,(sizeOf e).run P w=.ok i.size w:=fun w=>by simp [sizeOf,typeInfo,hi]
     have hn':¬ m * i.size > 2 ^ 24:=by omega
     have hq:(qs.map fun (p:Nat × Operand)=>(p.1,ev σ p.2)).toList=qs.toList.map fun (p:Nat × Operand)=>(p.1,ev σ p.2):=by simp
     by_cases h0:m * i.size=0
     ·rw [h0] at hf
      simp only [List.range_zero,kR] at hf
      have hr0:(nh 0).map (fun x=>(#[]:Array Value)[x % (#[]:Array Value).size]!)=#[]:=by rw [show (nh 0)=#[] from rfl,Array.map_empty]
      have hn0:¬ (0:Nat) > 2 ^ 24:=by decide
      simp only [execOp,ho,Instr.buildSlice,Sem.run_bind,wBE d1,hs,Result.andThen_ok,h0,if_neg hn0,if_true,Sem.run_pure,hq,hr0,hf]
      simp [newRow,newObj,Sem.run,Result.andThen]
     ·have hzs:(nh (m * i.size)).map (zv.cells[· % zv.cells.size]!)=((kH (m * i.size)).map fun k=>zv.cells[k % zv.cells.size]!).toArray:=by rw [<- kl,List.map_toArray]
      simp only [execOp,ho,Instr.buildSlice,Sem.run_bind,wBE d1,hs,wEa hi hz,Result.andThen_ok,if_neg hn',if_neg h0,Sem.run_pure,hq,hzs,hf]
      simp [newRow,newObj,Sem.run,Result.andThen]
    ·cases hr
   ·cases c5
  ·cases c3
 ·cases hc
end
end
end Go.KX
namespace Go.KX
noncomputable section
open Go.RowKit Go.KL
section
variable {C:Chk} {P:Program} {μ μ':Mu} {w w':World} {h h':AH} {σ:Env} {σA:Tr AV} {t e:TypeId} {o:Oper}
theorem wGj {b:Pos} {off:Nat} {vs:List AV} {VS:List Value} {c:Cl} (hr:setAt h b off vs=some h') (S:Sim C P μ h w) (hv:RvL μ vs VS) (h1:∀ v ∈ VS,one v=true) (hc:μ b=some c) :
  ∃ w',(storeCells ⟨c.1,off,none⟩ VS).run P w=.ok () w'/\Sim C P μ h' w'/\Ext μ h.fl.nat w μ w'/\h'.fl=h.fl:=by
 unfold setAt at hr
 split at hr
 ·rename_i T l hB
  split at hr
  ·rename_i l' hl
   obtain ⟨c',g1,vs0,g2,g3⟩:=S.at_ b _ hB
   rw [hc] at g1;cases g1
   obtain ⟨k1,k2⟩:=wJx hl g2 hv
   obtain ⟨w',q1,q2,q3,q4⟩:=wDs (P:=P) off VS 0 vs0 w g3 k1 h1
   obtain ⟨s1,s2,s3⟩:=S.put hr hB trivial hc q3 (B':=.cells T l') ⟨_,k2,q2⟩
   exact ⟨w',q1,s1,s2,s3⟩
  ·cases hr
 ·rename_i T sz l hB
  split at hr
  ·rename_i l' hl
   obtain ⟨c',g1,vs0,g2,g3⟩:=S.at_ b _ hB
   rw [hc] at g1;cases g1
   obtain ⟨k1,k2⟩:=wJx hl g2 hv
   obtain ⟨cur,r1,r2,r3,r4,r5⟩:=RowAt.cells g3
   have hB':Blk w c.1 T cur.toList:=by unfold Blk;rw [r1]
   have hcl:vs0.length <= cur.toList.length:=by rw [<- r5];simp;omega
   obtain ⟨w',q1,q2,q3,q4⟩:=wDs (P:=P) off VS 0 cur.toList w hB' (by omega) h1
   obtain ⟨s1,s2,s3⟩:=S.put hr hB trivial hc q3 (B':=.row T sz l') ⟨_,k2,.inr ⟨c.1,(wGa cur.toList (off + 0) VS).toArray,rfl,q2,by rw [wDQ];exact r2,r3,by simp [wDQ,r4],by
    rw [wDQ,Nat.add_zero]
    show (wGa cur.toList off VS).take vs0.length=_
    rw [wKi _ _ _ _ k1,r5]⟩⟩
   exact ⟨w',q1,s1,s2,s3⟩
  ·cases hr
 ·cases hr
def c_st (P:Program) (n:Nat) (x y:AOd):Op->Bool
 | .store t x' y'=>szT P t n && (wCu x x' && wCu y y')
 | _=>false
theorem u_st {n:Nat} {x y:AOd} {op:Op} (hc:c_st P n x y op=true):OkU C P op (wRy n x y):=by
 intro σA h v h' hr μ σ w hE S o ho
 unfold c_st at hc
 split at hc
 ·rename_i t x' y'
  simp only [nA] at hc
  obtain ⟨c1,c2,c3⟩:=hc
  unfold wRy at hr
  split at hr
  ·rename_i b off hb
   split at hr
   ·rename_i hk
    simp only [nA] at hk
    split at hr
    ·rename_i h1 hs
     cases hr
     have g:=wAP c2 hE;rw [hb] at g
     obtain ⟨c,g1,g2⟩:=g
     obtain ⟨VS,v1,v2⟩:=wHn (wAP c3 hE)
     obtain ⟨w',q1,q2,q3,q4⟩:=wGj hs S v1 (wEu v1 hk.2) g1
     have hn:=nB hk.1
     have hlen:VS.length=n:=by rw [wDl v1,<- wFQ,hn]
     refine ⟨μ,w',q3,q2,rfl,q4,by rw [ho];rfl,?_⟩
     simp [execOp,ho,Instr.storeAt,g2,Instr.sureAddr,storeVar,v2,wEZ c1,hlen,q1]
    ·cases hr
   ·cases hr
  ·cases hr
 ·cases hc
theorem wKA {sz m:Nat} {a:AV} {l:List AV} {y:Value} (hr:slice h sz a=some (m,l)) (S:Sim C P μ h w) (hy:Rv μ a y) :
  ∃ A c VS,y=.slice A m c/\RvL μ l VS/\VS.length=m * sz/\(m=0 \/ ∃ ad,A=some ad/\∀ j u,VS[j]?=some u->w.cell? (ad.add j)=some u):=by
 have key:∀ (b:Pos) (off m:Nat) (c:Cl) (l0 r:List AV),μ b=some c->wEJ h b=some l0->sub l0 off (m * sz)=some r->∃ VS,RvL μ r VS/\VS.length=m * sz/\∀ j u,VS[j]?=some u->w.cell? ((⟨c.1,off,none⟩:Addr).add j)=some u:=by
  intro b off m c l0 r hc hl hs
  obtain ⟨c',vs,h1,h2,h3⟩:=wFi hl S
  rw [hc] at h1;cases h1
  obtain ⟨g1,g2⟩:=wGF hs h2
  exact ⟨_,g1,by simp;omega,fun j u hu=>by rw [wGH];exact h3 w (Keep.refl w _) _ _ (wFN rfl j u hu)⟩
 unfold slice at hr
 split at hr
 ·cases hr
  have hy:y=.slice none 0 0:=hy
  exact ⟨none,0,[],hy,rfl,by simp,.inl rfl⟩
 ·cases hr
  obtain ⟨d,_,q,rfl⟩:=hy
  exact ⟨_,_,[],rfl,rfl,by simp,.inl rfl⟩
 ·split at hr
  ·rename_i l0 hl
   split at hr
   ·rename_i r hs
    cases hr
    obtain ⟨d,h1,_,rfl⟩:=hy
    obtain ⟨VS,v1,v2,v3⟩:=key _ _ _ _ _ _ h1 hl hs
    exact ⟨_,_,VS,rfl,v1,v2,.inr ⟨_,rfl,v3⟩⟩
   ·cases hr
  ·cases hr
 ·split at hr
  ·rename_i l0 hl
   split at hr
   ·rename_i r hs
    cases hr
    obtain ⟨d,h1,_,rfl⟩:=hy
    obtain ⟨VS,v1,v2,v3⟩:=key _ _ _ _ _ _ h1 hl hs
    exact ⟨_,_,VS,rfl,v1,v2,.inr ⟨_,rfl,v3⟩⟩
   ·cases hr
  ·cases hr
 ·cases hr
theorem wIX {A A2:Option Addr} {n c c2 ty:Nat} {inf:TypeInfo} (ht:P.underlying t=some (.slice e)) (hi:P.info? e=some inf) (hnc:n <= c):(Builtin.append_ #[t,t] ty #[.slice A n c,.slice A2 0 c2]).run P w=.ok (.slice A n c) w:=by
 have hs:∀ w,(sizeOf e).run P w=.ok inf.size w:=fun w=>by simp [sizeOf,typeInfo,hi]
 cases A <;> cases A2 <;> simp [Builtin.append_,wBE ht,hs,Builtin.lenOf,Builtin.firstCells,hnc,storeCells,loadCells,loadCellsFrom]
theorem wPk {T sz c:Nat} {l:List AV} {cs:List Value} {cur:Array Value} (S:Sim C P μ h w) (K:Keep w w' Non) (hl:RvL μ l cs) (hn:w'.heap[w.heap.size]?=some (.cells cur T (0,0))) (h1:cs.length <= c * sz) (h2:c <= maxLen) (h3:cur.size=c * sz) (h4:cur.toList.take cs.length=cs) :
  ∃ μ',Ext μ h.fl.nat w μ' w'/\Sim C P μ' (h.push (.row T sz l)) w'/\(h.push (.row T sz l)).fl=h.fl/\μ' h.nx=some ⟨w.heap.size,c,g0⟩:=by
 have hle:=Mu.add_le (c:=⟨w.heap.size,c,g0⟩) (S.nx h.nx (nG _))
 obtain ⟨q1,q2,q3,q4⟩:=S.push (w':=w') (c:=⟨w.heap.size,c,g0⟩) (B:=.row T sz l) K (nG _) (wAc hn) ⟨cs,hl.mono hle,.inr ⟨_,cur,rfl,hn,h1,h2,h3,h4⟩⟩
 exact ⟨_,q2,q1,q3,q4⟩
def wRF (P:Program) (T sz by_:Nat) (x y:AOd):Op->Bool
 | .call c=>match c.callee with
  | .builtin b=>(b == .append) && (match c.args.toList,c.argTypes.toList with
   | [x',y'],[t,t']=>nD t t' && (wFI P t (fun d=>match d with | .slice e=>nD e T | _=>false) && (wCu x x' && (wCu y y' && (szT P T sz && (byT P T by_ && (match P.info? T with
    | some i=>match i.zero with | some v=>nD v.cells.size sz && (nR 0 sz && nR 0 by_) | none=>false
    | none=>false))))))
   | _,_=>false)
  | _=>false
 | _=>false
theorem wRG {T sz by_:Nat} {x y:AOd} {op:Op} (hc:wRF P T sz by_ x y op=true) :
  ∃ x' y' t i z,op=.call { callee:=.builtin .append,args:=#[x',y'],argTypes:=#[t,t] }/\P.underlying t=some (.slice T)/\wCu x x'=true/\wCu y y'=true/\P.info? T=some i/\i.zero=some z/\i.size=sz/\i.bytes=by_/\z.cells.size=sz/\0 < sz/\0 < by_:=by
 unfold wRF at hc
 split at hc
 ·rename_i c
  obtain ⟨ce,args,tys⟩:=c
  simp only at hc
  split at hc
  ·rename_i b
   simp only [nA,beq_iff_eq] at hc
   obtain ⟨rfl,h2⟩:=hc
   split at h2
   ·rename_i x' y' t t' h3 h4
    simp only [nA] at h2
    obtain ⟨a1,a2,a3,a4,a5,a6,a7⟩:=h2
    have e:=nB a1
    subst e
    obtain ⟨d,d1,d2⟩:=wAy a2
    split at d2 <;> first | (cases d2;done) | skip
    have e:=nB d2
    subst e
    obtain ⟨i,i1,i2⟩:=wHp a5
    obtain ⟨j,j1,j2⟩:=wHq a6
    rw [i1] at j1;cases j1
    rw [i1] at a7
    simp only at a7
    split at a7
    ·rename_i z hz
     simp only [nA,nH] at a7
     refine ⟨x',y',t,i,z,?_,d1,a3,a4,i1,hz,i2,j2,nB a7.1,a7.2.1,a7.2.2⟩
     congr 2
     ·exact nJ (by simpa using h3)
     ·exact nJ (by simpa using h4)
    ·cases a7
   ·cases h2
  ·cases hc
 ·cases hc
theorem wUf (v:Value) (h1:one v=true):v.oneCell'=true:=by cases v <;> first | rfl | cases h1
theorem e_app {T sz by_:Nat} {x y:AOd} {op:Op} (hc:wRF P T sz by_ x y op=true):OkE C P op (wKn T sz by_ x y):=by
 intro σA h v h' hr μ σ w hE S o ho
 obtain ⟨x',y',t,i,z,rfl,ht,c1,c2,hi,hz,i2,j2,hzs,hsz,hby⟩:=wRG hc
 unfold wKn at hr
 split at hr
 ·rename_i m news hs
  obtain ⟨hones,hr'⟩:=wCE hr
  clear hr;have hr:=hr';clear hr'
  obtain ⟨A2,cc2,NS,e2,n1,n2,n3⟩:=wKA hs S (wAP c2 hE)
  have hx:=wAP c1 hE
  have h1:∀ u ∈ NS,u.oneCell'=true:=fun u hu=>wUf u (wEu n1 hones u hu)
  have fin:∀ {μ':Mu} {w':World} {cv:Value},Ext μ h.fl.nat w μ' w'->Sim C P μ' h' w'->Rv μ' v cv->h'.fl=h.fl->(Builtin.append_ #[t,t] o.type #[ev σ x',ev σ y']).run P w=.ok cv w' ->
    ∃ μ' w' cv,Ext μ h.fl.nat w μ' w'/\Sim C P μ' h' w'/\Rv μ' v cv/\h'.fl=h.fl/\Runs P σ w o cv w':=fun a b c d f =>
   ⟨_,_,_,a,b,c,d,by rw [ho];rfl,by simp [execOp,ho,resolve,invoke,builtin,f]⟩
  unfold app at hr
  split at hr
  ·have zero:∀ {A:Option Addr} {n c:Nat},ev σ x'=.slice A n c->n <= c->Rv μ v (.slice A n c)->h'=h->∃ μ' w' cv,Ext μ h.fl.nat w μ' w'/\Sim C P μ' h' w'/\Rv μ' v cv/\h'.fl=h.fl/\Runs P σ w o cv w':=by
    intro A n c hA hnc hv hh
    subst hh
    exact fin (Ext.refl μ _ w) S hv rfl (by rw [hA,e2];exact wIX ht hi hnc)
   split at hr <;> cases hr <;> rename_i hb <;> rw [hb] at hx
   ·have g:ev σ x'=.slice none 0 0:=hx
    exact zero g (nG _) rfl rfl
   ·obtain ⟨d,g1,g2,g3⟩:=hx
    exact zero g3 g2 ⟨d,g1,g2,rfl⟩ rfl
   ·obtain ⟨d,g1,g2,g3⟩:=hx
    exact zero g3 (by omega) ⟨d,g1,g2,rfl⟩ rfl
  ·rename_i m
   obtain ⟨ad,rfl,hcell⟩:∃ ad,A2=some ad/\∀ j u,NS[j]?=some u->w.cell? (ad.add j)=some u:=by
    rcases n3 with h0 | h0
    ·cases h0
    ·exact h0
   have maxb:(140737488355328:Nat) <= maxLen:=by decide
   have lenb:∀ n:Nat,n * by_ <= 140737488355328->n <= 140737488355328:=fun n hn=>nV (kV _ hby) hn
   split at hr
   ·rename_i hb
    rw [hb] at hx
    have hx:ev σ x'=.slice none 0 0:=hx
    obtain ⟨hble,hr'⟩:=wCE hr
    clear hr;have hr:=hr';clear hr'
    cases hr
    have hble:=nL hble
    obtain ⟨A',c',w',r1,r2,r3,r4⟩:=wDt (P:=P) (w:=w) (A:=none) (c:=0) (n:=0) (cs:=[]) (ty:=o.type) (c2:=cc2) ht hi hz i2 hzs hsz (.inl ⟨rfl,rfl,rfl⟩) (by simp) n2 (.inr ⟨ad,rfl,hcell⟩) h1 (by rw [j2,kj];exact hble) (by omega)
    rcases r2 with ⟨_,_,q⟩ | ⟨b,cur,rfl,q1,q2,q3,q4,q5⟩
    ·exfalso
     have:([] ++ NS).length=0:=by rw [q];rfl
     rw [nX,n2] at this
     have:=Nat.mul_pos (Nat.succ_pos m) hsz
     omega
    ·have hb:w.heap.size <= b:=by
      rcases r4 b rfl with q | q
      ·cases q
      ·exact q
     have K:Keep w w' Non:=r3.weak fun i _ q=>by cases q
     rw [nX] at q2 q5
     have hle:=Mu.add_le (c:=⟨b,c',g0⟩) (S.nx h.nx (nG _))
     obtain ⟨s1,s2,s3,s4⟩:=S.push (w':=w') (c:=⟨b,c',g0⟩) (B:=.row T sz news) K hb (wAc q1) ⟨NS,n1.mono hle,.inr ⟨_,cur,rfl,q1,q2,q3,q4,q5⟩⟩
     refine fin s2 s1 ⟨_,s4,?_,?_⟩ s3 (by rw [hx,e2];exact r1)
     ·rw [n2] at q2
      have:=nz q2 hsz
      simpa using this
     ·simp
   ·rename_i b off n c hb
    rw [hb] at hx
    obtain ⟨d,g1,g2,g3⟩:=hx
    split at hr
    ·rename_i hle
     have hle:=nL hle
     split at hr
     ·rename_i h1' hset
      cases hr
      obtain ⟨w',q1,q2,q3,q4⟩:=wGj hset S n1 (wEu n1 hones) g1
      refine fin q3 q2 ⟨d,g1,hle,rfl⟩ q4 ?_
      rw [g3,e2]
      have hf:=run_firstCells_some (P:=P) w i.size (m + 1) ad (m + 1) cc2 NS (by rw [i2];exact n2) hcell
      rw [i2] at hf
      simp [Builtin.append_,wBE ht,sizeOf,typeInfo,hi,Builtin.lenOf,hle,hf,wGH,i2,q1]
     ·cases hr
    ·rename_i hlt
     obtain ⟨hble,hr'⟩:=wCE hr
     clear hr;have hr:=hr';clear hr'
     have hble:=nL hble
     split at hr
     ·rename_i nn olds hold
      cases hr
      have hgt:c < n + (m + 1):=by
       rcases kD c (n + (m + 1)) with q | q
       ·exact q
       ·have q':kP (n + (m + 1)) c=true:=by rw [nN];exact q
        rw [q'] at hlt;cases hlt
      obtain ⟨A1,cc1,OS,k1,k2,k3,k4⟩:=wKA hold S (show Rv μ (.sl b off n c) _ from ⟨d,g1,g2,rfl⟩)
      cases k1
      have hlen:=lenb _ hble
      have olds':∀ j v,OS[j]?=some v->w.cell? ((⟨d.1,off,none⟩:Addr).add j)=some v:=by
       rcases k4 with q | ⟨ad',q1,q2⟩
       ·intro j v hv
        have hnil:OS=[]:=nk (by rw [k3,q];simp)
        rw [hnil] at hv
        simp at hv
       ·cases q1;exact q2
      have hr:=run_append_grow (P:=P) w t o.type T i z ht hi hz ⟨d.1,off,none⟩ n c OS (by rw [i2];exact k3) olds' ad (m + 1) cc2 NS (by rw [i2];exact n2) hcell hgt (by omega) (growslice_fits hgt (by rw [j2];exact hble))
      have hge:=grownCap_ge w (n + (m + 1)) c T
      have hcm:grownCap w (n + (m + 1)) c T <= maxLen:=grownCap_le_maxLen w (n + (m + 1)) c T (by omega)
      have hlen2:(OS ++ NS).length=(n + (m + 1)) * sz:=by rw [kM,k3,n2,kZ]
      obtain ⟨μ',s1,s2,s3,s4⟩:=wPk (T:=T) (sz:=sz) (c:=grownCap w (n + (m + 1)) c T) (w':=w.drew.alloc (.cells (OS.toArray ++ NS.toArray ++ Builtin.zeroCells z.cells (grownCap w (n + (m + 1)) c T - (n + (m + 1)))) T)) (cur:=OS.toArray ++ NS.toArray ++ Builtin.zeroCells z.cells (grownCap w (n + (m + 1)) c T - (n + (m + 1)))) S
       ((Keep.drew w).non (wBF w.drew _)) (wEt k2 n1) (heap_alloc_new w.drew _) (by rw [hlen2];exact ke _ hge) hcm
       (by
        simp only [ko,km,size_zeroCells,hzs,k3,n2,<- kZ]
        congr 1
        omega)
       (by simp only [kg,kA];rw [<- kA];exact List.take_left)
      refine fin s1 s2 ⟨_,s4,?_,?_⟩ s3 (by rw [g3,e2];exact hr)
      ·simpa using hge
      ·simp
     ·cases hr
   ·rename_i b eo co n hb
    rw [hb] at hx
    obtain ⟨d,g1,g2,g3⟩:=hx
    split at hr
    ·rename_i T' sz' l hB
     split at hr
     ·rename_i hin
      simp only [nA] at hin
      obtain ⟨p1,p2,p3,p4⟩:=hin
      have p1:=nL p1
      have p2:=nB p2
      have p3:=nB p3
      have p4:=nB p4
      subst p2 p3 p4
      split at hr
      ·rename_i h1' hset
       cases hr
       obtain ⟨d',k1,OS,k2,k3⟩:=S.at_ b _ hB
       rw [g1] at k1;cases k1
       obtain ⟨cur,r1,r2,_⟩:=RowAt.cells k3
       have hle:n + (m + 1) <= d.2:=by
        rw [wFQ,<- wDl k2] at p1
        exact nz (nV p1 r2) hsz
       obtain ⟨w',q1,q2,q3,q4⟩:=wGj hset S n1 (wEu n1 hones) g1
       refine fin q3 q2 ⟨d,g1,by omega,rfl⟩ q4 ?_
       rw [g3,e2]
       have hf:=run_firstCells_some (P:=P) w i.size (m + 1) ad (m + 1) cc2 NS (by rw [i2];exact n2) hcell
       rw [i2] at hf
       simp [Builtin.append_,wBE ht,sizeOf,typeInfo,hi,Builtin.lenOf,hle,hf,wGH,i2,q1]
      ·cases hr
     obtain ⟨hcond,hr'⟩:=wCE hr
     clear hr;have hr:=hr';clear hr'
     simp only [nA] at hcond
     obtain ⟨⟨⟨⟨⟨q1,q2⟩,q3⟩,q4⟩,q5⟩,q6⟩:=hcond
     have q1:=nB q1
     have q2:=nB q2
     have q3:=nB q3
     have q4:=nB q4
     have q5:=nB q5
     have hble:=nL q6
     subst q1 q2 q3 q4
     split at hr
     ·rename_i h1' hput
      cases hr
      obtain ⟨d',k1,OS,k2,k3⟩:=S.at_ b _ hB
      rw [g1] at k1;cases k1
      have hol:OS.length=n * sz:=by rw [wDl k2,<- wFQ,<- q5]
      obtain ⟨A',c',w',r1,r2,r3,r4⟩:=wDt (P:=P) (w:=w) (A:=some ⟨d.1,0,none⟩) (c:=d.2) (n:=n) (cs:=OS) (ty:=o.type) (c2:=cc2) ht hi hz i2 hzs hsz k3 hol n2 (.inr ⟨ad,rfl,hcell⟩) h1 (by rw [j2];exact hble) (by omega)
      rcases r2 with ⟨_,_,q⟩ | ⟨b',cur,rfl,p1,p2,p3,p4,p5⟩
      ·exfalso
       have:(OS ++ NS).length=0:=by rw [q];rfl
       rw [kM,n2] at this
       have:=Nat.mul_pos (Nat.succ_pos m) hsz
       omega
      ·have hb':b'=d.1 \/ w.heap.size <= b':=by
        rcases r4 b' rfl with q | q
        ·cases q;exact .inl rfl
        ·exact .inr q
       have K:Keep w w' (·=d.1):=r3.weak fun i _ q=>by cases q;rfl
       have hle:=Mu.add_le (c:=⟨b',c',g0⟩) (S.nx h.nx (nG _))
       have hnx:h.nx=h.nx:=rfl
       obtain ⟨s1,s2,s3,s4⟩:=S.move (w':=w') (d:=⟨b',c',g0⟩) (B':=.row T sz (l ++ news)) hput hB trivial g1 K hb' (wAc p1) ⟨OS ++ NS,(wEt k2 n1).mono hle,.inr ⟨_,cur,rfl,p1,p2,p3,p4,p5⟩⟩
       refine fin s2 s1 ⟨_,s4,?_,?_⟩ s3 (by rw [g3,e2];simpa using r1)
       ·rw [kM,hol,n2,<- kZ] at p2
        have:=nz p2 hsz
        simpa using this
       ·simp
     ·cases hr
    ·cases hr
   ·cases hr
 ·cases hr
def wSv (P:Program) (sz:Nat) (x y:AOd):Op->Bool
 | .call c=>match c.callee with
  | .builtin b=>(b == .copy) && (match c.args.toList,c.argTypes.toList with
   | [x',y'],t :: _=>wFI P t (fun d=>match d with | .slice e=>szT P e sz | _=>false) && (wCu x x' && wCu y y')
   | _,_=>false)
  | _=>false
 | _=>false
theorem e_cpy {sz:Nat} {x y:AOd} {op:Op} (hc:wSv P sz x y op=true):OkE C P op (wKo sz x y):=by
 intro σA h v h' hr μ σ w hE S o ho
 unfold wSv at hc
 split at hc
 ·rename_i c
  obtain ⟨ce,args,tys⟩:=c
  simp only at hc
  split at hc
  ·rename_i b
   simp only [nA,beq_iff_eq] at hc
   obtain ⟨rfl,h2⟩:=hc
   split at h2
   ·rename_i x' y' t ts h3 h4
    simp only [nA] at h2
    obtain ⟨a1,a2,a3⟩:=h2
    obtain ⟨d,d1,d2⟩:=wAy a1
    split at d2 <;> first | (cases d2;done) | skip
    rename_i e
    have ea:args=#[x',y']:=nJ (by simpa using h3)
    have et:tys[0]?=some t:=by rw [<- kc,h4];rfl
    unfold wKo at hr
    split at hr
    ·rename_i b off n cc m news hx hs
     split at hr
     ·rename_i vs hsub
      obtain ⟨hones,hr'⟩:=wCE hr
      clear hr;have hr:=hr';clear hr'
      split at hr
      ·rename_i h1' hset
       cases hr
       have g:=wAP a2 hE;rw [hx] at g
       obtain ⟨c0,g1,_,g3⟩:=g
       obtain ⟨A2,cc2,NS,e2,n1,n2,n3⟩:=wKA hs S (wAP a3 hE)
       generalize hk:(if kP m n=true then m else n)=k at hsub ⊢
       have hmin:Nat.min m n=k:=by
        rw [<- hk]
        by_cases q:m <= n
        ·rw [if_pos (by rw [nN];exact q)];exact Nat.min_eq_left q
        ·rw [if_neg (by rw [nN];exact q)];exact Nat.min_eq_right (by omega)
       obtain ⟨k1,k2⟩:=wGF hsub n1
       rw [List.drop_zero] at k1
       obtain ⟨w',q1,q2,q3,q4⟩:=wGj hset S k1 (wEu k1 hones) g1
       refine ⟨μ,w',_,q3,q2,rfl,q4,by rw [ho];rfl,?_⟩
       have hf:∀ (w1:World),w1=w->(Builtin.firstCells sz k (.slice A2 m cc2)).run P w1=.ok (NS.take (k * sz)).toArray w1:=by
        intro w1 hw1
        subst hw1
        cases A2 with
        | none =>
         have hm:m=0:=by
          rcases n3 with q | ⟨_,q,_⟩
          ·exact q
          ·cases q
         have hN:NS=[]:=nk (by rw [n2,hm];simp)
         subst hN
         simp [Builtin.firstCells]
        | some ad =>
         have hcell:∀ j u,(NS.take (k * sz))[j]?=some u->w1.cell? (ad.add j)=some u:=by
          intro j u hu
          rw [kk] at hu
          split at hu
          ·rcases n3 with q | ⟨ad',q,q'⟩
           ·have hN:NS=[]:=nk (by rw [n2,q];simp)
            subst hN;simp at hu
           ·cases q;exact q' j u hu
          ·cases hu
         exact run_firstCells_some (P:=P) w1 sz k ad m cc2 (NS.take (k * sz)) (by rw [List.length_take];omega) hcell
       have hs2:=wEZ d2
       simp [execOp,ho,ea,et,resolve,invoke,builtin,Builtin.copy_,wBE d1,g3,e2,Builtin.lenOf,hmin,hs2,hf w rfl,q1,goInt,Result.andThen]
      ·cases hr
     ·cases hr
    ·cases hr
   ·cases h2
  ·cases hc
 ·cases hc
def wSw (P:Program) (z:List AV) (x:AOd):Op->Bool
 | .call c=>match c.callee with
  | .builtin b=>(b == .clear) && (match c.args.toList,c.argTypes.toList with
   | [x'],[t]=>wFI P t (fun d=>match d with | .slice e=>zT P e z | _=>false) && wCu x x'
   | _,_=>false)
  | _=>false
 | _=>false
theorem wEd {zc:Array Value} (c:Nat):(Builtin.zeroCells zc c).toList=(nI c zc.toList).flatten:=by
 have:=wGI (zc:=zc) (n:=0) c
 simp only [or_false] at this
 exact this
def wSx (P:Program) (T sz by_:Nat) (z:List AV) (x y:AOd):Op->Bool
 | .call c=>match c.callee with
  | .builtin b=>(b == .append) && (match c.args.toList,c.argTypes.toList with
   | [x',y'],[t,t']=>wFI P t (fun d=>match d with | .slice e=>nD e T | _=>false) && (wFI P t' (fun d=>match d with | .int _=>true | _=>false) && (wCu x x' && (wCu y y' && (szT P T sz && (byT P T by_ && (zT P T z && (nD (len z) sz && (nR 0 sz && nR 0 by_))))))))
   | _,_=>false)
  | _=>false
 | _=>false
theorem e_apz {T sz by_:Nat} {z:List AV} {x y:AOd} {op:Op} (hc:wSx P T sz by_ z x y op=true):OkE C P op (wKs T sz by_ z x y):=by
 intro σA h v h' hr μ σ w hE S o ho
 unfold wSx at hc
 split at hc <;> first | (cases hc;done) | skip
 rename_i c
 obtain ⟨ce,args,tys⟩:=c
 simp only at hc
 split at hc <;> first | (cases hc;done) | skip
 rename_i b
 simp only [nA,beq_iff_eq] at hc
 obtain ⟨rfl,h2⟩:=hc
 split at h2 <;> first | (cases h2;done) | skip
 rename_i x' y' t t' h3 h4
 simp only [nA] at h2
 obtain ⟨a1,a2,a3,a4,a5,a6,a7,a8,a9,a10⟩:=h2
 have hargs:args=#[x',y']:=nJ (by simpa using h3)
 have htys:tys=#[t,t']:=nJ (by simpa using h4)
 subst hargs htys
 obtain ⟨d,d1,d2⟩:=wAy a1
 split at d2 <;> first | (cases d2;done) | skip
 have e:=nB d2
 subst e
 rename_i e
 obtain ⟨dn,n1,n2⟩:=wAy a2
 split at n2 <;> first | (cases n2;done) | skip
 rename_i kn
 obtain ⟨i,i1,i2⟩:=wHp a5
 obtain ⟨i',j1,j2⟩:=wHq a6
 obtain ⟨i'',zv,k1,k2,k3⟩:=wGG a7
 rw [i1] at j1 k1;cases j1;cases k1
 have hz:=nB a8
 have hsz:0 < sz:=by simpa [nH] using a9
 have hx:=wAP a3 hE
 have hy:=wAP a4 hE
 have fin:∀ {μ':Mu} {w':World} {cv:Value},Ext μ h.fl.nat w μ' w'->Sim C P μ' h' w'->Rv μ' v cv->h'.fl=h.fl->(Builtin.append_ #[t,t'] o.type #[ev σ x',ev σ y']).run P w=.ok cv w' ->
   ∃ μ' w' cv,Ext μ h.fl.nat w μ' w'/\Sim C P μ' h' w'/\Rv μ' v cv/\h'.fl=h.fl/\Runs P σ w o cv w':=fun a b c d f =>
  ⟨_,_,_,a,b,c,d,by rw [ho];rfl,by simp [execOp,ho,resolve,invoke,builtin,f]⟩
 have zlen:zv.cells.size=sz:=by rw [<- hz,wFQ,<- wDl (k3 μ)];simp
 unfold wKs at hr
 split at hr
 ·rename_i nn hxs hn
  rw [hxs] at hx
  rw [wCr hn] at hy
  have hx:ev σ x'=.slice none 0 0:=hx
  have hy:ev σ y'=.int .i64 (nn:Int):=hy
  cases nn with
  | zero =>
   cases hr
   refine fin (Ext.refl μ _ w) S rfl rfl ?_
   rw [hx,hy]
   simp [Builtin.append_,run_underlying d1,run_underlying n1,sizeOf,typeInfo,i1,asInt,asIntOf,IntKind.wrap_i64]
  | succ m =>
   obtain ⟨hble,hr⟩:=wCE hr
   have hble:=nL hble
   cases hr
   have hby:0 < by_:=by simpa [nH] using a10
   have hnb:m + 1 <= 140737488355328:=nV (kV _ hby) hble
   have hrun:=Go.Lib.run_append_nil_zeros (P:=P) w t t' o.type e i zv .i64 kn d1 n1 i1 k2 (m + 1) (by omega) (by rw [i2];exact hsz) (by omega) (by rw [j2];omega)
   have hge:=grownCap_ge w (m + 1) 0 e
   have maxb:(140737488355328:Nat) <= maxLen:=by decide
   have hcm:grownCap w (m + 1) 0 e <= maxLen:=grownCap_le_maxLen w (m + 1) 0 e (by omega)
   have hcs:((nI (m + 1) zv.cells.toList).flatten).length=(m + 1) * sz:=by rw [<- wEd];simp [size_zeroCells,zlen]
   obtain ⟨μ',s1,s2,s3,s4⟩:=wPk (T:=e) (sz:=sz) (c:=grownCap w (m + 1) 0 e) (w':=w.drew.alloc (.cells (Builtin.zeroCells zv.cells (m + 1) ++ Builtin.zeroCells zv.cells (grownCap w (m + 1) 0 e - (m + 1))) e)) (cur:=Builtin.zeroCells zv.cells (m + 1) ++ Builtin.zeroCells zv.cells (grownCap w (m + 1) 0 e - (m + 1))) S
    ((Keep.drew w).non (wBF w.drew _)) (wIR (k3 μ) (m + 1)) (heap_alloc_new w.drew _) (by rw [hcs];exact ke _ hge) hcm
    (by
     simp only [ko,size_zeroCells,zlen,<- kZ]
     congr 1
     omega)
    (by
     rw [kg,wEd]
     exact List.take_left)
   refine fin s1 s2 ⟨_,s4,?_,?_⟩ s3 (by rw [hx,hy];exact hrun)
   ·simpa using hge
   ·simp
 ·cases hr
theorem e_clr {z:List AV} {x:AOd} {op:Op} (hc:wSw P z x op=true):OkE C P op (wKp z x):=by
 intro σA h v h' hr μ σ w hE S o ho
 unfold wSw at hc
 split at hc
 ·rename_i c
  obtain ⟨ce,args,tys⟩:=c
  simp only at hc
  split at hc
  ·rename_i b
   simp only [nA,beq_iff_eq] at hc
   obtain ⟨rfl,h2⟩:=hc
   split at h2
   ·rename_i x' t h3 h4
    simp only [nA] at h2
    obtain ⟨a1,a2⟩:=h2
    obtain ⟨d,d1,d2⟩:=wAy a1
    split at d2 <;> first | (cases d2;done) | skip
    rename_i e
    have ea:args=#[x']:=nJ (by simpa using h3)
    have et:tys=#[t]:=nJ (by simpa using h4)
    subst ea et
    have hx:=wAP a2 hE
    obtain ⟨i,zv,z1,z2,z3⟩:=wGG d2
    have zero:∀ {A:Option Addr} {c:Nat},ev σ x'=.slice A 0 c->v=u->h'=h->∃ μ' w' cv,Ext μ h.fl.nat w μ' w'/\Sim C P μ' h' w'/\Rv μ' v cv/\h'.fl=h.fl/\Runs P σ w o cv w':=by
     intro A c hA hv hh
     subst hv hh
     refine ⟨μ,w,undef,Ext.refl μ _ w,S,wPQ μ,rfl,by rw [ho];rfl,?_⟩
     cases A <;> simp [execOp,ho,resolve,invoke,builtin,Builtin.clear_,hA,wBE d1,undef]
    have full:∀ {b:Pos} {c:Cl} {off n cap:Nat},μ b=some c->ev σ x'=.slice (some ⟨c.1,off,none⟩) n cap->clr h z b off n=some (v,h')->∃ μ' w' cv,Ext μ h.fl.nat w μ' w'/\Sim C P μ' h' w'/\Rv μ' v cv/\h'.fl=h.fl/\Runs P σ w o cv w':=by
     intro b c off n cap hb hA hr
     unfold clr at hr
     split at hr
     ·cases hr;exact zero hA rfl rfl
     ·rename_i n
      obtain ⟨hones,hr'⟩:=wCE hr
      split at hr'
      ·rename_i h1' hset
       cases hr'
       have k1:=wIR (z3 μ) (n + 1)
       have k2:∀ v ∈ (nI (n + 1) zv.cells.toList).flatten,one v=true:=by
        intro v hv
        simp only [List.mem_flatten,List.mem_replicate] at hv
        obtain ⟨l,⟨_,rfl⟩,hv⟩:=hv
        exact wEu (z3 μ) hones v hv
       obtain ⟨w',q1,q2,q3,q4⟩:=wGj hset S k1 k2 hb
       refine ⟨μ,w',undef,q3,q2,wPQ μ,q4,by rw [ho];rfl,?_⟩
       rw [<- wEd] at q1
       simp [execOp,ho,resolve,invoke,builtin,Builtin.clear_,hA,wBE d1,wEa z1 z2,q1,undef,Result.andThen]
      ·cases hr'
    unfold wKp at hr
    split at hr
    ·rename_i hb;rw [hb] at hx;obtain ⟨c,g1,_,g3⟩:=hx;exact full g1 g3 hr
    ·rename_i hb;rw [hb] at hx;obtain ⟨c,g1,_,g3⟩:=hx;exact full g1 g3 hr
    ·rename_i hb;rw [hb] at hx;cases hr;obtain ⟨c,g1,q,g3⟩:=hx;exact zero g3 rfl rfl
    ·rename_i hb;rw [hb] at hx;cases hr;have hx:ev σ x'=.slice none 0 0:=hx;exact zero hx rfl rfl
    ·cases hr
   ·cases h2
  ·cases hc
 ·cases hc
end
end
end Go.KX
namespace Go.KX
noncomputable section
open Go.RowKit Go.KL
section
variable {C:Chk} {P:Program} {μ μ':Mu} {w w':World} {h h':AH} {σ:Env} {σA:Tr AV} {t e:TypeId} {o:Oper} {K:Type} [DecidableEq K]
def wQn (P:Program) (two:Bool) (k:IntKind) (kt:TypeId):Bool:=match two with
 | false=>wFI P kt fun d=>match wPW d with | some k'=>keq k k' | none=>false
 | true=>(!P.stoodInHeld kt) && wFI P kt fun d=>match d with
  | .struct fs=>match fs.toList with
   | [f, g] => nD f.type g.type && (nD f.offset 0 && (nD g.offset 1 && ((f.name != "_") && ((g.name != "_") && wFI P f.type fun d => match wPW d with | some k' => keq k k' | none => false))))
   | _=>false
  | _=>false
theorem keyI {k:IntKind} {kt:TypeId} (hc:wQn P false k kt=true):KeyR P kt (fun n:Int=>kL k n):=by
 obtain ⟨d,d1,d2⟩:=wAy hc
 cases d <;> first | (cases d2;done) | skip
 have:=wCJ d2
 subst this
 exact KeyR.ofInt d1
theorem wNo {k:IntKind} {kt:TypeId} (hc:wQn P true k kt=true):KeyR P kt (mk2 k):=by
 simp only [wQn,nA,na] at hc
 obtain ⟨c0,c1⟩:=hc
 obtain ⟨d,d1,d2⟩:=wAy c1
 split at d2
 ·rename_i fs
  split at d2
  ·rename_i f g hfs
   simp only [nA] at d2
   obtain ⟨a1,a2,a3,a4,a5,a6⟩:=d2
   obtain ⟨di,i1,i2⟩:=wAy a6
   cases di <;> first | (cases i2;done) | skip
   have ek:=wCJ i2
   subst ek
   have efs:fs=#[f,g]:=nJ (by simpa using hfs)
   subst efs
   have T:Two P kt f.type f g k:=⟨d1,rfl,nB a2,by simpa using a4,(nB a1).symm,nB a3,by simpa using a5,i1,fun w=>wIT i1 w,c0⟩
   exact T.keyR (mk2 k) (·.1) (·.2) (fun _=>rfl) fun x y h1 h2=>Prod.ext h1 h2
  ·cases d2
 ·cases d2
theorem mrI {l:List (Int × AV)} {tt:List (Int × Value)} (hm:MR μ l tt) (n:Int):(wNe l n=none/\wHl tt n=none) \/ ∃ a v,wNe l n=some a/\wHl tt n=some v/\Rv μ a v:=by
 induction l generalizing tt with
 | nil=>cases tt with
  | nil=>exact .inl ⟨rfl,rfl⟩
  | cons q tt=>have:=hm.1;simp at this
 | cons p l ih =>
  cases tt with
  | nil=>have:=hm.1;simp at this
  | cons q tt =>
   obtain ⟨a,x⟩:=p
   obtain ⟨b,v⟩:=q
   obtain ⟨h1,h2⟩:=hm
   simp only [nK,nE] at h1
   obtain ⟨v',ws,g1,g2,g3⟩:=h2
   simp only [nK,nE] at g3
   obtain ⟨rfl,rfl⟩:=g3
   obtain ⟨rfl,h1⟩:=h1
   simp only [wNe,wHl]
   by_cases e:n=a
   ·right;exact ⟨x,v,by simp [wEv,e],by simp [e],g1⟩
   ·have:=ih (tt:=tt) ⟨h1,g2⟩
    simpa [wEv,e] using this
theorem wSy {l:List (Int × AV)} {tt:List (Int × Value)} (hm:MR μ l tt) (n:Int) {a:AV} {v:Value} (hv:Rv μ a v):MR μ (wOl l n a) (mput tt n v):=by
 induction l generalizing tt with
 | nil=>cases tt with
  | nil=>exact ⟨rfl,wCD hv wIQ⟩
  | cons q tt=>have:=hm.1;simp at this
 | cons p l ih =>
  cases tt with
  | nil=>have:=hm.1;simp at this
  | cons q tt =>
   obtain ⟨b,x⟩:=p
   obtain ⟨b',v0⟩:=q
   obtain ⟨h1,h2⟩:=hm
   simp only [nK,nE] at h1
   obtain ⟨v',ws,g1,g2,g3⟩:=h2
   simp only [nK,nE] at g3
   obtain ⟨rfl,rfl⟩:=g3
   obtain ⟨rfl,h1⟩:=h1
   simp only [wOl,mput,wEv]
   by_cases e:n=b
   ·simp only [e,decide_true,if_true]
    exact ⟨by simp [h1],wCD hv g2⟩
   ·have:=ih (tt:=tt) ⟨h1,g2⟩
    simp only [e,decide_false,if_false]
    exact ⟨by simp [this.1],wCD g1 this.2⟩
theorem wSz {l:List (Int × AV)} {tt:List (Int × Value)} (hm:MR μ l tt) (n:Int):MR μ (wOn l n) (mdel tt n):=by
 induction l generalizing tt with
 | nil=>cases tt with
  | nil=>exact ⟨rfl,rfl⟩
  | cons q tt=>have:=hm.1;simp at this
 | cons p l ih =>
  cases tt with
  | nil=>have:=hm.1;simp at this
  | cons q tt =>
   obtain ⟨b,x⟩:=p
   obtain ⟨b',v0⟩:=q
   obtain ⟨h1,h2⟩:=hm
   simp only [nK,nE] at h1
   obtain ⟨v',ws,g1,g2,g3⟩:=h2
   simp only [nK,nE] at g3
   obtain ⟨rfl,rfl⟩:=g3
   obtain ⟨rfl,h1⟩:=h1
   simp only [wOn,mdel,wEv]
   by_cases e:n=b
   ·simp only [e,decide_true,if_true]
    exact ⟨h1,g2⟩
   ·have:=ih (tt:=tt) ⟨h1,g2⟩
    simp only [e,decide_false,if_false]
    exact ⟨by simp [this.1],wCD g1 this.2⟩
theorem z2 (x y a b:Int):(zeq x a && zeq y b)=decide ((x,y)=(a,b)):=by
 rw [wEv,wEv]
 by_cases h1:x=a <;> by_cases h2:y=b <;> simp [h1,h2]
theorem mr2 {l:List ((Int × Int) × AV)} {tt:List ((Int × Int) × Value)} (hm:MR μ l tt) (x y:Int):(wNd l x y=none/\wHl tt (x,y)=none) \/ ∃ a v,wNd l x y=some a/\wHl tt (x,y)=some v/\Rv μ a v:=by
 induction l generalizing tt with
 | nil=>cases tt with
  | nil=>exact .inl ⟨rfl,rfl⟩
  | cons q tt=>have:=hm.1;simp at this
 | cons p l ih =>
  cases tt with
  | nil=>have:=hm.1;simp at this
  | cons q tt =>
   obtain ⟨⟨a,b⟩,x0⟩:=p
   obtain ⟨b',v⟩:=q
   obtain ⟨h1,h2⟩:=hm
   simp only [nK,nE] at h1
   obtain ⟨v',ws,g1,g2,g3⟩:=h2
   simp only [nK,nE] at g3
   obtain ⟨rfl,rfl⟩:=g3
   obtain ⟨rfl,h1⟩:=h1
   simp only [wNd,wHl,z2]
   by_cases e:(x,y)=(a,b)
   ·right;exact ⟨x0,v,by simp only [e,decide_true],by simp only [e,if_true],g1⟩
   ·have:=ih (tt:=tt) ⟨h1,g2⟩
    simp only [e,decide_false,if_false]
    exact this
theorem wTA {l:List ((Int × Int) × AV)} {tt:List ((Int × Int) × Value)} (hm:MR μ l tt) (x y:Int) {a:AV} {v:Value} (hv:Rv μ a v):MR μ (wOk l x y a) (mput tt (x,y) v):=by
 induction l generalizing tt with
 | nil=>cases tt with
  | nil=>exact ⟨rfl,wCD hv wIQ⟩
  | cons q tt=>have:=hm.1;simp at this
 | cons p l ih =>
  cases tt with
  | nil=>have:=hm.1;simp at this
  | cons q tt =>
   obtain ⟨⟨b1,b2⟩,x0⟩:=p
   obtain ⟨b',v0⟩:=q
   obtain ⟨h1,h2⟩:=hm
   simp only [nK,nE] at h1
   obtain ⟨v',ws,g1,g2,g3⟩:=h2
   simp only [nK,nE] at g3
   obtain ⟨rfl,rfl⟩:=g3
   obtain ⟨rfl,h1⟩:=h1
   simp only [wOk,mput,z2]
   by_cases e:(x,y)=(b1,b2)
   ·simp only [e,decide_true,if_true]
    exact ⟨by simp [h1],wCD hv g2⟩
   ·have:=ih (tt:=tt) ⟨h1,g2⟩
    simp only [e,decide_false,if_false]
    exact ⟨by simp [this.1],wCD g1 this.2⟩
theorem wTB {l:List ((Int × Int) × AV)} {tt:List ((Int × Int) × Value)} (hm:MR μ l tt) (x y:Int):MR μ (wOm l x y) (mdel tt (x,y)):=by
 induction l generalizing tt with
 | nil=>cases tt with
  | nil=>exact ⟨rfl,rfl⟩
  | cons q tt=>have:=hm.1;simp at this
 | cons p l ih =>
  cases tt with
  | nil=>have:=hm.1;simp at this
  | cons q tt =>
   obtain ⟨⟨b1,b2⟩,x0⟩:=p
   obtain ⟨b',v0⟩:=q
   obtain ⟨h1,h2⟩:=hm
   simp only [nK,nE] at h1
   obtain ⟨v',ws,g1,g2,g3⟩:=h2
   simp only [nK,nE] at g3
   obtain ⟨rfl,rfl⟩:=g3
   obtain ⟨rfl,h1⟩:=h1
   simp only [wOm,mdel,z2]
   by_cases e:(x,y)=(b1,b2)
   ·simp only [e,decide_true,if_true]
    exact ⟨h1,g2⟩
   ·have:=ih (tt:=tt) ⟨h1,g2⟩
    simp only [e,decide_false,if_false]
    exact ⟨by simp [this.1],wCD g1 this.2⟩
theorem wUg {mt kt et:TypeId} {m ck:Nat} {es:Array MapEntry} {mk:K->Value} {tt:List (K × Value)} {a:K} {z:Value} {ok:Bool} (hm:w.heap[m]?=some (.map es ck)) (hu:P.underlying mt=some (.map kt et)) (R:KeyR P kt mk) (hz:∀ w,(zeroValue et).run P w=.ok z w) (hh:MpR es mk id tt) :
  (Instr.lookup mt (.map (some m)) (mk a) ok).run P w=.ok (if ok then .tuple #[wCt tt a z,.bool (wSX tt a)] else wCt tt a z) w:=by
 have hf:=R.find id es.toList tt a w hh
 have hg:=wFy tt a 0
 unfold wCt wSX
 simp [Instr.lookup,run_underlying hu,MapKept.run_getObj_map hm,R.chk,hf,Result.andThen,<- hg]
 cases e:wDY tt a 0 <;> simp [hz,Result.andThen]
theorem wTC {mt kt et:TypeId} {m ck:Nat} {es:Array MapEntry} {mk:K->Value} {tt:List (K × Value)} {a:K} {v:Value} (hm:w.heap[m]?=some (.map es ck)) (hu:P.underlying mt=some (.map kt et)) (R:KeyR P kt mk) (hh:MpR es mk id tt) :
  ∃ es' ck',MpR es' mk id (mput tt a v)/\(Instr.mapUpdate mt (.map (some m)) (mk a) v).run P w=.ok () (w.putObj m (.map es' ck')):=by
 have hf:=R.find id es.toList tt a w hh
 cases e:wDY tt a 0 with
 | none =>
  obtain ⟨e1,_⟩:=wFz e v
  refine ⟨es.push { key:=mk a,val:=v,born:=ck },ck + 1,?_,?_⟩
  ·unfold MpR at hh ⊢;rw [e1];simp [hh]
  ·simp [Instr.mapUpdate,run_underlying hu,MapKept.run_getObj_map hm,R.chk,hf,e,Result.andThen,MapKept.run_setObj_map _ hm]
   rfl
 | some p =>
  obtain ⟨q,u⟩:=p
  obtain ⟨_,h2,h3,_⟩:=wGA e v
  rw [Nat.sub_zero] at h2 h3
  have hq:q < tt.length:=(nU.1 h2).1
  have hl:es.size=tt.length:=by have:=congrArg kK hh;simpa using this
  have hkq:((es[q]?).map (·.key)).getD (mk a)=mk a:=by
   have h4:(es.toList.map (fun e=>(e.key,e.val)))[q]?=some (mk a,u):=by rw [hh,nZ,h2];rfl
   rw [nZ] at h4
   cases h5:es.toList[q]? with
   | none=>rw [h5] at h4;cases h4
   | some e =>
    rw [h5] at h4
    simp only [kx,nl,Prod.mk.injEq] at h4
    have h6:es[q]?=some e:=by simpa using h5
    rw [h6];simp [h4.1]
  refine ⟨es.modify q fun e=>{ e with key:=mk a,val:=v },ck,?_,?_⟩
  ·unfold MpR at hh ⊢
   rw [h3]
   apply List.ext_getElem?
   intro n
   have hn:=congrArg (·[n]?) hh
   simp only [nZ] at hn ⊢
   rw [List.getElem?_set]
   simp only [Array.toList_modify,List.getElem?_modify]
   by_cases hqn:q=n
   ·subst hqn
    have h5:es.toList[q]?=some (es.toList[q]'(by simpa [hl] using hq)):=nj _
    simp [h5,hq]
   ·simp only [hqn,if_false]
    simpa [hqn] using hn
  ·simp [Instr.mapUpdate,run_underlying hu,MapKept.run_getObj_map hm,R.chk,hf,e,Result.andThen,MapKept.run_setObj_map _ hm,Instr.keyThatStays,hkq,R.same]
   rfl
theorem wTD {mt kt et ty:TypeId} {tys:Array TypeId} {m ck:Nat} {es:Array MapEntry} {mk:K->Value} {tt:List (K × Value)} {a:K} (hty:tys[0]?=some mt) (hm:w.heap[m]?=some (.map es ck)) (hu:P.underlying mt=some (.map kt et)) (R:KeyR P kt mk) (hh:MpR es mk id tt) :
  ∃ es' ck',MpR es' mk id (mdel tt a)/\(Builtin.delete_ tys ty #[.map (some m),mk a]).run P w=.ok (.tuple #[]) (w.putObj m (.map es' ck')):=by
 have hf:=R.find id es.toList tt a w hh
 cases e:wDY tt a 0 with
 | none =>
  obtain ⟨_,e1⟩:=wFz e (.bool true)
  refine ⟨es,ck,by rw [e1];exact hh,?_⟩
  simp [Builtin.delete_,hty,run_underlying hu,MapKept.run_getObj_map hm,R.chk,hf,e,Result.andThen,MapKept.run_setObj_map _ hm]
  rfl
 | some p =>
  obtain ⟨q,u⟩:=p
  obtain ⟨_,h2,_,h3⟩:=wGA e (.bool true)
  rw [Nat.sub_zero] at h2 h3
  refine ⟨es.eraseIdxIfInBounds q,ck,?_,?_⟩
  ·unfold MpR at hh ⊢
   rw [h3,<- wEr,<- hh,wEr]
   simp
  ·simp [Builtin.delete_,hty,run_underlying hu,MapKept.run_getObj_map hm,R.chk,hf,e,Result.andThen,MapKept.run_setObj_map _ hm]
   rfl
def wTE (C:Chk) (P:Program) (μ:Mu) (w:World) (c:Cl) (two:Bool) (k:IntKind) (kt:TypeId) (B:AB) (y:AV) (Y:Value):Prop :=
  ∃ (K:Type) (_:DecidableEq K) (mk:K->Value) (a:K) (es:Array MapEntry) (ck:Nat) (tt:List (K × Value)),Y=mk a/\w.heap[c.1]?=some (.map es ck)/\KeyR P kt mk/\MpR es mk id tt /\
   (∀ q,wIH two k B y=some q->(q=none/\wHl tt a=none) \/ ∃ x v,q=some x/\wHl tt a=some v/\Rv μ x v) /\
   (∀ x v B',wQh two k B y x=some B'->Rv μ x v->wNk B'/\∀ w' es' ck',w'.heap[c.1]?=some (.map es' ck')->MpR es' mk id (mput tt a v)->AbR C P μ w' c B') /\
   (∀ B',wQi two k B y=some B'->wNk B'/\∀ w' es' ck',w'.heap[c.1]?=some (.map es' ck')->MpR es' mk id (mdel tt a)->AbR C P μ w' c B')
theorem wPl {two:Bool} {k:IntKind} {kt:TypeId} {B:AB} {y:AV} {Y:Value} {c:Cl} (hk:wQn P two k kt=true) (hB:AbR C P μ w c B) (hY:Rv μ y Y) (hr:(wIH two k B y).isSome=true \/ (∃ v,(wQh two k B y v).isSome=true) \/ (wQi two k B y).isSome=true) :
  wTE C P μ w c two k kt B y Y/\wNk B:=by
 have caseI:two=false->∀ (n:Int) (es:Array MapEntry) (ck:Nat) (tt:List (Int × Value)) (l:List (Int × AV)),y=.int k n->w.heap[c.1]?=some (.map es ck)->MpR es (fun n:Int=>kL k n) id tt->MR μ l tt ->
   (∀ q,wIH two k B y=some q->q=wNe l n)->(∀ x B',wQh two k B y x=some B'->B'=.mapI k (wOl l n x))->(∀ B',wQi two k B y=some B'->B'=.mapI k (wOn l n) \/ (B'=.map0/\l=[]))->wTE C P μ w c two k kt B y Y:=by
  intro h2 n es ck tt l hy hm hp hM q1 q2 q3
  subst h2 hy
  have hY:Y=.int k n:=hY
  refine ⟨Int,inferInstance,fun n=>kL k n,n,es,ck,tt,hY,hm,keyI hk,hp,?_,?_,?_⟩
  ·intro q hq
   rw [q1 q hq]
   exact mrI hM n
  ·intro x v B' hB' hv
   have:=q2 x B' hB'
   subst this
   exact ⟨trivial,fun w' es' ck' g1 g2=>⟨es',ck',_,g1,g2,wSy hM n hv⟩⟩
  ·intro B' hB'
   rcases q3 B' hB' with rfl | ⟨rfl,rfl⟩
   ·exact ⟨trivial,fun w' es' ck' g1 g2=>⟨es',ck',_,g1,g2,wSz hM n⟩⟩
   ·refine ⟨trivial,fun w' es' ck' g1 g2=>⟨ck',?_⟩⟩
    cases tt with
    | cons p tt=>have:=hM.1;simp at this
    | nil =>
     have:es'=#[]:=by
      unfold MpR at g2
      simp only [mdel,kR,kh] at g2
      exact nJ (by simpa using g2)
     rw [this] at g1;exact g1
 have case2:two=true->∀ (n m:Int) (es:Array MapEntry) (ck:Nat) (tt:List ((Int × Int) × Value)) (l:List ((Int × Int) × AV)),y=.agg [.int k n,.int k m]->w.heap[c.1]?=some (.map es ck)->MpR es (mk2 k) id tt->MR μ l tt ->
   (∀ q,wIH two k B y=some q->q=wNd l n m)->(∀ x B',wQh two k B y x=some B'->B'=.map2 k (wOk l n m x))->(∀ B',wQi two k B y=some B'->B'=.map2 k (wOm l n m) \/ (B'=.map0/\l=[]))->wTE C P μ w c two k kt B y Y:=by
  intro h2 n m es ck tt l hy hm hp hM q1 q2 q3
  subst h2 hy
  have hY:Y=mk2 k (n,m):=by
   obtain ⟨vs,g1,rfl⟩:=hY
   obtain ⟨v1,ws,g2,g3,rfl⟩:=g1
   obtain ⟨v2,ws2,g4,g5,rfl⟩:=g3
   cases g5
   have g2:v1=.int k n:=g2
   have g4:v2=.int k m:=g4
   subst g2 g4
   rfl
  refine ⟨Int × Int,inferInstance,mk2 k,(n,m),es,ck,tt,hY,hm,wNo hk,hp,?_,?_,?_⟩
  ·intro q hq
   rw [q1 q hq]
   exact mr2 hM n m
  ·intro x v B' hB' hv
   have:=q2 x B' hB'
   subst this
   exact ⟨trivial,fun w' es' ck' g1 g2=>⟨es',ck',_,g1,g2,wTA hM n m hv⟩⟩
  ·intro B' hB'
   rcases q3 B' hB' with rfl | ⟨rfl,rfl⟩
   ·exact ⟨trivial,fun w' es' ck' g1 g2=>⟨es',ck',_,g1,g2,wTB hM n m⟩⟩
   ·refine ⟨trivial,fun w' es' ck' g1 g2=>⟨ck',?_⟩⟩
    cases tt with
    | cons p tt=>have:=hM.1;simp at this
    | nil =>
     have:es'=#[]:=by
      unfold MpR at g2
      simp only [mdel,kR,kh] at g2
      exact nJ (by simpa using g2)
     rw [this] at g1;exact g1
 have shape:(∃ n,two=false/\y=.int k n/\(B=.map0 \/ ∃ l,B=.mapI k l)) \/ (∃ n m,two=true/\y=.agg [.int k n,.int k m]/\(B=.map0 \/ ∃ l,B=.map2 k l)):=by
  have fI:∀ {k':IntKind} {b:Bool} {α:Type} {x:Option α},(ifO b x).isSome=true->b=true:=fun {k' b α x} hq=>by cases b <;> first | rfl | cases hq
  rcases hr with hr | ⟨v,hr⟩ | hr
  ·unfold wIH at hr
   split at hr <;> first | (cases hr;done) | skip
   ·have:=wCJ (fI (k':=k) hr);subst this;exact .inl ⟨_,rfl,rfl,.inl rfl⟩
   ·have:=fI (k':=k) hr;simp only [nA] at this
    have e1:=wCJ this.1;have e2:=wCJ this.2;subst e1 e2;exact .inr ⟨_,_,rfl,rfl,.inl rfl⟩
   ·have:=fI (k':=k) hr;simp only [nA] at this
    have e1:=wCJ this.1;have e2:=wCJ this.2;subst e1 e2;exact .inl ⟨_,rfl,rfl,.inr ⟨_,rfl⟩⟩
   ·have:=fI (k':=k) hr;simp only [nA] at this
    have e1:=wCJ this.1;have e2:=wCJ this.2.1;have e3:=wCJ this.2.2;subst e1 e2 e3;exact .inr ⟨_,_,rfl,rfl,.inr ⟨_,rfl⟩⟩
  ·unfold wQh at hr
   split at hr <;> first | (cases hr;done) | skip
   ·have:=wCJ (fI (k':=k) hr);subst this;exact .inl ⟨_,rfl,rfl,.inl rfl⟩
   ·have:=fI (k':=k) hr;simp only [nA] at this
    have e1:=wCJ this.1;have e2:=wCJ this.2;subst e1 e2;exact .inr ⟨_,_,rfl,rfl,.inl rfl⟩
   ·have:=fI (k':=k) hr;simp only [nA] at this
    have e1:=wCJ this.1;have e2:=wCJ this.2;subst e1 e2;exact .inl ⟨_,rfl,rfl,.inr ⟨_,rfl⟩⟩
   ·have:=fI (k':=k) hr;simp only [nA] at this
    have e1:=wCJ this.1;have e2:=wCJ this.2.1;have e3:=wCJ this.2.2;subst e1 e2 e3;exact .inr ⟨_,_,rfl,rfl,.inr ⟨_,rfl⟩⟩
  ·unfold wQi at hr
   split at hr <;> first | (cases hr;done) | skip
   ·have:=wCJ (fI (k':=k) hr);subst this;exact .inl ⟨_,rfl,rfl,.inl rfl⟩
   ·have:=fI (k':=k) hr;simp only [nA] at this
    have e1:=wCJ this.1;have e2:=wCJ this.2;subst e1 e2;exact .inr ⟨_,_,rfl,rfl,.inl rfl⟩
   ·have:=fI (k':=k) hr;simp only [nA] at this
    have e1:=wCJ this.1;have e2:=wCJ this.2;subst e1 e2;exact .inl ⟨_,rfl,rfl,.inr ⟨_,rfl⟩⟩
   ·have:=fI (k':=k) hr;simp only [nA] at this
    have e1:=wCJ this.1;have e2:=wCJ this.2.1;have e3:=wCJ this.2.2;subst e1 e2 e3;exact .inr ⟨_,_,rfl,rfl,.inr ⟨_,rfl⟩⟩
 have iS:∀ {b:Bool} {α:Type} {x:Option α} {v:α},ifO b x=some v->x=some v:=fun hq=>(wCE hq).2
 rcases shape with ⟨n,rfl,rfl,rfl | ⟨l,rfl⟩⟩ | ⟨n,m,rfl,rfl,rfl | ⟨l,rfl⟩⟩
 ·obtain ⟨ck,hm⟩:=hB
  refine ⟨?_,trivial⟩
  exact caseI rfl n #[] ck [] [] rfl hm rfl ⟨rfl,rfl⟩ (fun q hq=>by simp only [wIH] at hq;cases iS hq;rfl) (fun x B' hq=>by simp only [wQh] at hq;cases iS hq;rfl) (fun B' hq=>by simp only [wQi] at hq;cases iS hq;exact .inr ⟨rfl,rfl⟩)
 ·obtain ⟨es,ck,tt,hm,hp,hM⟩:=hB
  refine ⟨?_,trivial⟩
  exact caseI rfl n es ck tt l rfl hm hp hM (fun q hq=>by simp only [wIH] at hq;cases iS hq;rfl) (fun x B' hq=>by simp only [wQh] at hq;cases iS hq;rfl) (fun B' hq=>by simp only [wQi] at hq;cases iS hq;exact .inl rfl)
 ·obtain ⟨ck,hm⟩:=hB
  refine ⟨?_,trivial⟩
  exact case2 rfl n m #[] ck [] [] rfl hm rfl ⟨rfl,rfl⟩ (fun q hq=>by simp only [wIH] at hq;cases iS hq;rfl) (fun x B' hq=>by simp only [wQh] at hq;cases iS hq;rfl) (fun B' hq=>by simp only [wQi] at hq;cases iS hq;exact .inr ⟨rfl,rfl⟩)
 ·obtain ⟨es,ck,tt,hm,hp,hM⟩:=hB
  refine ⟨?_,trivial⟩
  exact case2 rfl n m es ck tt l rfl hm hp hM (fun q hq=>by simp only [wIH] at hq;cases iS hq;rfl) (fun x B' hq=>by simp only [wQh] at hq;cases iS hq;rfl) (fun B' hq=>by simp only [wQi] at hq;cases iS hq;exact .inl rfl)
def wUh (P:Program) (two:Bool) (k:IntKind) (ok:Bool) (z:AV) (x y:AOd):Op->Bool
 | .lookup t x' y' ok'=>wFI P t (fun d=>match d with
   | .map kt et=>wQn P two k kt && (match P.info? et with
    | some i=>match i.zero with | some v=>okc z v | none=>false
    | none=>false)
   | _=>false) && ((ok == ok') && (wCu x x' && wCu y y'))
 | _=>false
def lkV (ok:Bool) (z:AV) (q:Option AV):AV:=match ok with
 | true=>.tup [q.getD z,.bool q.isSome]
 | false=>q.getD z
theorem l_lk {two:Bool} {k:IntKind} {ok:Bool} {z:AV} {x y:AOd} {op:Op} (hc:wUh P two k ok z x y op=true):OkL C P op (wQk two k ok z x y):=by
 intro σA h v h' hr
 unfold wUh at hc
 split at hc
 ·rename_i t x' y' ok'
  simp only [nA,beq_iff_eq] at hc
  obtain ⟨c1,rfl,c2,c3⟩:=hc
  obtain ⟨d,d1,d2⟩:=wAy c1
  split at d2 <;> first | (cases d2;done) | skip
  rename_i kt et
  simp only [nA] at d2
  obtain ⟨k1,k2⟩:=d2
  split at k2 <;> first | (cases k2;done) | skip
  rename_i i hi
  split at k2 <;> first | (cases k2;done) | skip
  rename_i zv hz
  unfold wQk at hr
  split at hr <;> first | (cases hr;done) | skip
  rename_i b hx
  split at hr <;> first | (cases hr;done) | skip
  rename_i B hB
  have key:∀ q,wIH two k B (evA σA y)=some q->h'=h->v=lkV ok z q->h'=h/\∀ μ σ w,EnvR μ σA σ->Sim C P μ h w->∃ cv,Rv μ v cv/\∀ (o:Oper),o.op=.lookup t x' y' ok->wFw P σ w o cv:=by
   intro q hq hh hv
   subst hh hv
   refine ⟨rfl,fun μ σ w hE S=>?_⟩
   have g:=wAP c2 hE;rw [hx] at g
   obtain ⟨c,g1,g2⟩:=g
   obtain ⟨c',g3,g4⟩:=S.at_ b B hB
   rw [g1] at g3;cases g3
   obtain ⟨⟨K,_,mk,a,es,ck,tt,e1,e2,e3,e4,e5,_,_⟩,hl⟩:=wPl k1 g4 (wAP c3 hE) (.inl (by rw [hq];rfl))
   have hrun:∀ w',Keep w w' Non->∀ (o:Oper),o.op=.lookup t x' y' ok->Runs P σ w' o (if ok then .tuple #[wCt tt a zv,.bool (wSX tt a)] else wCt tt a zv) w':=by
    intro w' K o ho
    have hm:=(K.block _ (wAc e2) id).trans e2
    have:=wUg (P:=P) (ok:=ok) hm d1 e3 (wEa hi hz) e4 (a:=a)
    exact ⟨by rw [ho];rfl,by simp [execOp,ho,g2,e1,this,Result.andThen]⟩
   refine ⟨_,?_,fun o ho w' K=>hrun w' K o ho⟩
   have hval:Rv μ (q.getD z) (wCt tt a zv)/\q.isSome=wSX tt a:=by
    rcases e5 q hq with ⟨rfl,q2⟩ | ⟨x,v,rfl,q2,q3⟩
    ·unfold wCt wSX;rw [q2];exact ⟨wPS μ k2,rfl⟩
    ·unfold wCt wSX;rw [q2];exact ⟨q3,rfl⟩
   cases ok
   ·exact hval.1
   ·exact ⟨_,wCD hval.1 (wCD (v:=.bool (wSX tt a)) (by rw [<- hval.2];rfl) wIQ),rfl⟩
  split at hr
  ·rename_i q hq
   cases hr
   exact key _ hq rfl (by cases ok <;> rfl)
  ·rename_i hq
   cases hr
   exact key _ hq rfl (by cases ok <;> rfl)
  ·cases hr
 ·cases hc
def wMu (P:Program) (two:Bool) (k:IntKind) (x y z:AOd):Op->Bool
 | .mapUpdate t x' y' z' | .insert t x' y' z'=>wFI P t (fun d=>match d with
   | .map kt et=>wQn P two k kt
   | _=>false) && (wCu x x' && (wCu y y' && wCu z z'))
 | _=>false
theorem wPm {two:Bool} {k:IntKind} {x y z:AOd} {op:Op} (hc:wMu P two k x y z op=true):∃ t kt et x' y' z',(op=.mapUpdate t x' y' z' \/ op=.insert t x' y' z')/\P.underlying t=some (.map kt et)/\wQn P two k kt=true/\wCu x x'=true/\wCu y y'=true/\wCu z z'=true:=by
 have key:∀ {t:TypeId} {x' y' z':Operand},(wFI P t (fun d=>match d with | .map kt et=>wQn P two k kt | _=>false) && (wCu x x' && (wCu y y' && wCu z z')))=true->∃ kt et,P.underlying t=some (.map kt et)/\wQn P two k kt=true/\wCu x x'=true/\wCu y y'=true/\wCu z z'=true:=by
  intro t x' y' z' hq
  simp only [nA] at hq
  obtain ⟨d,d1,d2⟩:=wAy hq.1
  split at d2 <;> first | (cases d2;done) | skip
  exact ⟨_,_,d1,d2,hq.2⟩
 unfold wMu at hc
 split at hc
 ·obtain ⟨kt,et,g⟩:=key hc;exact ⟨_,kt,et,_,_,_,.inl rfl,g⟩
 ·obtain ⟨kt,et,g⟩:=key hc;exact ⟨_,kt,et,_,_,_,.inr rfl,g⟩
 ·cases hc
theorem wUi {two:Bool} {k:IntKind} {x y z:AOd} {op:Op} (hc:wMu P two k x y z op=true):OkU C P op (wHV two k x y z):=by
 intro σA h v h' hr μ σ w hE S o ho
 obtain ⟨t,kt,et,x',y',z',hop,d1,k1,c1,c2,c3⟩:=wPm hc
 unfold wHV at hr
 split at hr <;> first | (cases hr;done) | skip
 rename_i b hx
 split at hr <;> first | (cases hr;done) | skip
 rename_i B hB
 split at hr <;> first | (cases hr;done) | skip
 rename_i B' hp
 split at hr <;> first | (cases hr;done) | skip
 rename_i h1' hput
 cases hr
 have g:=wAP c1 hE;rw [hx] at g
 obtain ⟨c,g1,g2⟩:=g
 obtain ⟨c',g3,g4⟩:=S.at_ b B hB
 rw [g1] at g3;cases g3
 obtain ⟨⟨K,_,mk,a,es,ck,tt,e1,e2,e3,e4,_,e6,_⟩,hl⟩:=wPl k1 g4 (wAP c2 hE) (.inr (.inl ⟨_,by rw [hp];rfl⟩))
 obtain ⟨es',ck',r1,r2⟩:=wTC (P:=P) (v:=ev σ z') e2 d1 e3 e4 (a:=a)
 obtain ⟨l1,l2⟩:=e6 _ (ev σ z') B' hp (wAP c3 hE)
 obtain ⟨s1,s2,s3⟩:=S.put hput hB hl g1 (wCk w c.1 (.map es' ck')) (l2 _ es' ck' (wGC _ (wAc e2)) r1)
 refine ⟨μ,_,s2,s1,rfl,s3,by rw [ho];rcases hop with e | e <;> (rw [e];rfl),?_⟩
 rcases hop with e | e <;> rw [e] at ho <;> simp [execOp,ho,g2,e1,r2,Result.andThen]
def wPn (P:Program) (two:Bool) (k:IntKind) (x y:AOd):Op->Bool
 | .call c=>match c.callee with
  | .builtin b=>(b == .delete) && (match c.args.toList,c.argTypes.toList with
   | [x',y'],t :: _=>wFI P t (fun d=>match d with | .map kt _=>wQn P two k kt | _=>false) && (wCu x x' && wCu y y')
   | _,_=>false)
  | _=>false
 | _=>false
theorem wUj {two:Bool} {k:IntKind} {x y:AOd} {op:Op} (hc:wPn P two k x y op=true):OkE C P op (wHW two k x y):=by
 intro σA h v h' hr μ σ w hE S o ho
 unfold wPn at hc
 split at hc <;> first | (cases hc;done) | skip
 rename_i c
 obtain ⟨ce,args,tys⟩:=c
 simp only at hc
 split at hc <;> first | (cases hc;done) | skip
 rename_i b
 simp only [nA,beq_iff_eq] at hc
 obtain ⟨rfl,h2⟩:=hc
 split at h2 <;> first | (cases h2;done) | skip
 rename_i x' y' t ts h3 h4
 simp only [nA] at h2
 obtain ⟨a1,a2,a3⟩:=h2
 obtain ⟨d,d1,d2⟩:=wAy a1
 split at d2 <;> first | (cases d2;done) | skip
 rename_i kt et
 have ea:args=#[x',y']:=nJ (by simpa using h3)
 have et':tys[0]?=some t:=by rw [<- kc,h4];rfl
 unfold wHW at hr
 split at hr <;> first | (cases hr;done) | skip
 rename_i b hx
 split at hr <;> first | (cases hr;done) | skip
 rename_i B hB
 split at hr <;> first | (cases hr;done) | skip
 rename_i B' hp
 split at hr <;> first | (cases hr;done) | skip
 rename_i h1' hput
 cases hr
 have g:=wAP a2 hE;rw [hx] at g
 obtain ⟨c,g1,g2⟩:=g
 obtain ⟨c',g3,g4⟩:=S.at_ b B hB
 rw [g1] at g3;cases g3
 obtain ⟨⟨K,_,mk,a,es,ck,tt,e1,e2,e3,e4,_,_,e7⟩,hl⟩:=wPl d2 g4 (wAP a3 hE) (.inr (.inr (by rw [hp];rfl)))
 obtain ⟨es',ck',r1,r2⟩:=wTD (P:=P) (ty:=o.type) et' e2 d1 e3 e4 (a:=a)
 obtain ⟨l1,l2⟩:=e7 B' hp
 obtain ⟨s1,s2,s3⟩:=S.put hput hB hl g1 (wCk w c.1 (.map es' ck')) (l2 _ es' ck' (wGC _ (wAc e2)) r1)
 refine ⟨μ,_,_,s2,s1,wPQ μ,s3,by rw [ho];rfl,?_⟩
 simp [execOp,ho,ea,resolve,invoke,builtin,g2,e1,r2,undef,Result.andThen]
def wLC (P:Program) (x:AOd):Op->Bool
 | .call c=>match c.callee with
  | .builtin b=>(b == .len) && (match c.args.toList,c.argTypes.toList with
   | [x'],[t]=>wFI P t (fun d=>match d with | .map _ _=>true | _=>false) && wCu x x'
   | _,_=>false)
  | _=>false
 | _=>false
theorem wUk {x:AOd} {op:Op} (hc:wLC P x op=true):OkL C P op (wFq x):=by
 intro σA h v h' hr
 unfold wLC at hc
 split at hc <;> first | (cases hc;done) | skip
 rename_i c
 obtain ⟨ce,args,tys⟩:=c
 simp only at hc
 split at hc <;> first | (cases hc;done) | skip
 rename_i b
 simp only [nA,beq_iff_eq] at hc
 obtain ⟨rfl,h2⟩:=hc
 split at h2 <;> first | (cases h2;done) | skip
 rename_i x' t h3 h4
 simp only [nA] at h2
 obtain ⟨a1,a2⟩:=h2
 obtain ⟨d,d1,d2⟩:=wAy a1
 split at d2 <;> first | (cases d2;done) | skip
 rename_i kt et
 have ea:args=#[x']:=nJ (by simpa using h3)
 have et':tys=#[t]:=nJ (by simpa using h4)
 subst ea et'
 unfold wFq at hr
 split at hr
 ·rename_i hx
  cases hr
  refine ⟨rfl,fun μ σ w hE S=>⟨_,rfl,fun o ho w' K=>?_⟩⟩
  have g:=wAP a2 hE;rw [hx] at g
  have g:ev σ x'=.map none:=g
  exact ⟨by rw [ho];rfl,by simp [execOp,ho,resolve,invoke,builtin,Builtin.len_,g,run_underlying d1,goInt,Result.andThen]⟩
 ·rename_i b hx
  split at hr <;> first | (cases hr;done) | skip
  rename_i B hB
  split at hr <;> first | (cases hr;done) | skip
  rename_i n hn
  cases hr
  refine ⟨rfl,fun μ σ w hE S=>⟨_,rfl,fun o ho w' K=>?_⟩⟩
  have g:=wAP a2 hE;rw [hx] at g
  obtain ⟨c,g1,g2⟩:=g
  obtain ⟨c',g3,g4⟩:=S.at_ b B hB
  rw [g1] at g3;cases g3
  have hmap:∃ es ck,w.heap[c.1]?=some (.map es ck)/\es.size=n:=by
   unfold lenB at hn
   split at hn <;> first | (cases hn;done) | skip
   ·cases hn;obtain ⟨ck,q⟩:=g4;exact ⟨_,ck,q,rfl⟩
   ·cases hn
    obtain ⟨es,ck,tt,q1,q2,q3⟩:=g4
    refine ⟨es,ck,q1,?_⟩
    have e1:=congrArg kK q2
    have e2:=congrArg kK q3.1
    simp at e1 e2
    rw [wFQ];omega
   ·cases hn
    obtain ⟨es,ck,tt,q1,q2,q3⟩:=g4
    refine ⟨es,ck,q1,?_⟩
    have e1:=congrArg kK q2
    have e2:=congrArg kK q3.1
    simp at e1 e2
    rw [wFQ];omega
  obtain ⟨es,ck,q1,q2⟩:=hmap
  have hm:=(K.block _ (wAc q1) id).trans q1
  refine ⟨by rw [ho];rfl,?_⟩
  simp [execOp,ho,resolve,invoke,builtin,Builtin.len_,g2,run_underlying d1,MapKept.run_getObj_map hm,goInt,Result.andThen,q2]
 ·cases hr
end
end
end Go.KX
namespace Go.KX
noncomputable section
open Go.RowKit Go.KL
def kdA:AOp->Nat
 | .mv _ | .pick _ _ _ | .nilc _ | .add _ _ | .sub _ _ | .mul _ _ | .quo _ _ | .rem _ _ | .lss _ _ | .leq _ _ | .gtr _ _ | .geq _ _ | .eql _ _ | .neq _ _ | .eqb _ _ _ | .eqn _ _ _ _ | .eqs _ _ _ _
 | .bad | .and _ _ | .shr _ _ | .ixs _ _ | .neg _ | .not _ | .cvt _ _ | .mkf _ _ _ | .slc _ _ _ _ _ | .slcA _ _ _ _ _ | .fad _ _ | .fld _ _ | .fldA _ _ _ | .iad _ _ _ | .iadA _ _ _ _ | .ix _ _ _ | .ixA _ _ _ _ | .ext _ _ | .bld _ _ | .len _ | .cap _ | .min _ _ | .max _ _=>3
 | .ld _ | .ldA _ _ | .lk _ _ _ _ _ _ | .lenM _=>1
 | .st _ _ _ | .mput _ _ _ _ _=>4
 | .call _ _=>5
 | _=>0
def wPo (x:AOd) (l:List AOd):Op->Bool
 | .call c=>match c.callee with
  | .value f=>wCu x f && wKy l c.args.toList
  | _=>false
 | _=>false
def wUE:List UInt8->List Nat->Bool
 | [],[]=>true
 | a :: l,b :: k=>nD a.toNat b && wUE l k
 | _,_=>false
theorem wPp:∀ {l:List UInt8} {k:List Nat},wUE l k=true->l.map UInt8.toNat=k
 | [],[],_=>rfl
 | a :: l,b :: k,h=>by
  simp only [wUE,nA] at h
  rw [nK,nB h.1,wPp h.2]
 | [],_ :: _,h=>by simp [wUE] at h
 | _ :: _,[],h=>by simp [wUE] at h
def wTF (P:Program) (l:List Nat) (y:AOd):Op->Bool
 | .index t (.const (.string s)) y'=>wFI P t (fun d=>match d with | .string=>true | _=>false) && (wUE s.data.toList l && wCu y y')
 | _=>false
def wIY (P:Program) (a:AOp) (op:Op):Bool:=match a with
 | .mv x=>c_mv x op
 | .pick c x y=>wPT c x y op
 | .new T z=>wPg P T z op
 | .box T x=>wPh T x op
 | .ld x=>wUd P x op
 | .ldA n x=>wPf P n x op
 | .st n x y=>c_st P n x y op
 | .nilc x=>wPU x op
 | .add x y=>wDS .add x y op
 | .sub x y=>wDS .sub x y op
 | .mul x y=>wDS .mul x y op
 | .quo x y=>wDS .quo x y op
 | .rem x y=>wDS .rem x y op
 | .lss x y=>wDS .lss x y op
 | .leq x y=>wDS .leq x y op
 | .gtr x y=>wDS .gtr x y op
 | .geq x y=>wDS .geq x y op
 | .eql x y=>wDS .eql x y op
 | .neq x y=>wDS .neq x y op
 | .eqb ne x y=>wSl P ne x y op
 | .eqn k ne x y=>wSm P k ne x y op
 | .eqs ne s x y=>wSn P ne s x y op
 | .neg x=>wSg x op
 | .not x=>wSh x op
 | .cvt k x=>wSi (P:=P) k x op
 | .mkf f fi ca=>wSj f fi ca op
 | .mkm=>wPi op
 | .mks T sz by_ z x y=>wPj P T sz by_ z x y op
 | .slc sz x lo hi mx=>wSs P sz x lo hi mx op
 | .slcA sz n x lo hi=>wPd P sz n x lo hi op
 | .fad off x=>wSo P off x op
 | .fld off x=>wSp P off x op
 | .fldA off n x=>wPZ P off n x op
 | .iad sz x y=>wSq P sz x y op
 | .iadA sz n x y=>wPa P sz n x y op
 | .ix n x y=>c_ix P n x y op
 | .ixA sz n x y=>wSr P sz n x y op
 | .lk two k ok z x y=>wUh P two k ok z x y op
 | .mput two k x y z=>wMu P two k x y z op
 | .mdel two k x y=>wPn P two k x y op
 | .ext i x=>wSk i x op
 | .bld z ps=>wSt P z ps op
 | .blds T n z ps=>wLB P T n z ps op
 | .len x=>wNn P .len x op
 | .lenM x=>wLC P x op
 | .cap x=>wNn P .cap x op
 | .app T sz by_ x y=>wRF P T sz by_ x y op
 | .cpy sz x y=>wSv P sz x y op
 | .clr z x=>wSw P z x op
 | .min x y=>wUD .min x y op
 | .max x y=>wUD .max x y op
 | .call x l=>wPo x l op
 | .bad=>true
 | .and x y=>wDS .and x y op
 | .shr x y=>wDS .shr x y op
 | .ixs l y=>wTF P l y op
 | .apz T sz by_ z x y=>wSx P T sz by_ z x y op
section
variable {C:Chk} {P:Program} {tb:Tr AF} {ex exY:Run}
theorem p_bad {op:Op}:OkP P op (wUS):=by
 intro σA h v h' hr
 cases hr
theorem p_and {x y:AOd} {op:Op} (hc:wDS .and x y op=true):OkP P op (wPE x y):=by
 intro σA h v h' hr
 obtain ⟨t,x',y',t',rfl,h1,h2⟩:=wGh hc
 obtain ⟨hr2,rfl⟩:=wCL hr
 split at hr2
 ·rename_i k a k' b ha hb
  split at hr2
  ·rename_i hk
   cases hr2
   have hk:=wCJ hk
   subst hk
   refine ⟨rfl,fun μ σ hE=>⟨_,rfl,fun o w ho=>?_⟩⟩
   have g1:=wAP h1 hE;rw [ha] at g1
   have g2:=wAP h2 hE;rw [hb] at g2
   have g1:ev σ x'=.int k a:=g1
   have g2:ev σ y'=.int k b:=g2
   exact ⟨by rw [ho];rfl,by simp [execOp,ho,g1,g2,binOp,eqGuard,Op.intBits,andI]⟩
  ·cases hr2
 ·cases hr2
theorem p_shr {x y:AOd} {op:Op} (hc:wDS .shr x y op=true):OkP P op (wPF x y):=by
 intro σA h v h' hr
 obtain ⟨t,x',y',t',rfl,h1,h2⟩:=wGh hc
 obtain ⟨hr2,rfl⟩:=wCL hr
 split at hr2
 ·rename_i k a k' b ha hb
  cases hr2
  refine ⟨rfl,fun μ σ hE=>⟨_,rfl,fun o w ho=>?_⟩⟩
  have g1:=wAP h1 hE;rw [ha] at g1
  have g2:=wAP h2 hE;rw [hb] at g2
  have g1:ev σ x'=.int k a:=g1
  have g2:ev σ y'=.int k' (kX b):=g2
  have hn:¬ (kX b) < 0:=by simp
  exact ⟨by rw [ho];rfl,by simp [execOp,ho,g1,g2,binOp,eqGuard,Op.shift];intro hb0;omega⟩
 ·cases hr2
theorem p_ixs {l:List Nat} {y:AOd} {op:Op} (hc:wTF P l y op=true):OkP P op (wLv l y):=by
 intro σA h v h' hr
 unfold wTF at hc
 split at hc <;> first | (cases hc;done) | skip
 rename_i t s y'
 simp only [nA] at hc
 obtain ⟨c1,c2,c3⟩:=hc
 obtain ⟨d,d1,d2⟩:=wAy c1
 split at d2 <;> first | (cases d2;done) | skip
 have hl:=wPp c2
 unfold wLv at hr
 split at hr
 ·rename_i k i hy
  obtain ⟨hr2,rfl⟩:=wCL hr
  split at hr2
  ·rename_i b hb
   cases hr2
   rw [wHY,<- hl,nZ] at hb
   have hi:i < s.data.toList.length:=by
    rcases kD i s.data.toList.length with q | q
    ·exact q
    ·rw [kC q] at hb;cases hb
   have hi2:i < s.size:=by simpa using hi
   rw [nj hi] at hb
   have hb:(s.data.toList[i]).toNat=b:=by simpa using hb
   refine ⟨rfl,fun μ σ hE=>⟨_,rfl,fun o w ho=>?_⟩⟩
   have g:=wAP c3 hE;rw [hy] at g
   have g:ev σ y'=.int k (kX i):=g
   have hx:ev σ (.const (.string s))=.string s:=rfl
   have hrun:=run_index_string (P:=P) w t s k (kX i) d1
   rw [dif_pos ⟨by simp,by simpa using hi2⟩] at hrun
   have hbb:(s[(kX i).toNat]'(by simpa using hi2)).toNat=b:=by rw [<- hb];rfl
   rw [hbb] at hrun
   simp only [ng] at hrun
   exact ⟨by rw [ho];rfl,by simp only [execOp,ho,hx,g];simp [hrun]⟩
  ·cases hr2
 ·cases hr
theorem wJW {a:AOp} {op:Op} (hk:kdA a=3) (hc:wIY P a op=true):OkP P op (opY a tb ex exY):=by
 cases a <;> first
  | (simp [kdA] at hk;done)
  | exact p_bad | exact p_and hc | exact p_shr hc | exact p_ixs hc | exact p_mv hc | exact wUW hc | exact wUX hc | exact p_add hc | exact p_sub hc | exact p_mul hc | exact p_quo hc | exact p_rem hc
  | exact p_lss hc | exact p_leq hc | exact p_gtr hc | exact p_geq hc | exact p_eql hc | exact p_neq hc | exact p_eqb hc | exact p_eqn hc | exact p_eqs hc
  | exact p_neg hc | exact p_not hc | exact p_cvt hc | exact p_mkf hc | exact p_slc hc | exact wUb hc | exact p_fad hc | exact p_fld hc | exact wUZ hc
  | exact p_iad hc | exact wUa hc | exact p_ix hc | exact p_ixA hc | exact p_ext hc | exact p_bld hc | exact p_len hc | exact p_cap hc | exact p_min hc | exact p_max hc
theorem wJX {a:AOp} {op:Op} (hk:kdA a=1 \/ kdA a=3) (hc:wIY P a op=true):OkL C P op (opY a tb ex exY):=by
 rcases hk with hk | hk
 ·cases a <;> first
   | (simp [kdA] at hk;done)
   | exact l_ld hc | exact l_ldA hc | exact l_lk hc | exact wUk hc
 ·exact (wJW hk hc).toL
theorem wUl {a:AOp} {op:Op} (hk:kdA a=0 \/ kdA a=1 \/ kdA a=3) (hc:wIY P a op=true):OkE C P op (opY a tb ex exY):=by
 rcases hk with hk | hk
 ·cases a <;> first
   | (simp [kdA] at hk;done)
   | exact e_new hc | exact e_box hc | exact e_mkm hc | exact e_mks hc | exact wUj hc | exact wUe hc | exact e_app hc | exact e_apz hc | exact e_cpy hc | exact e_clr hc
 ·exact (wJX hk hc).toE
theorem wUm {a:AOp} {op:Op} (hk:kdA a=4) (hc:wIY P a op=true):OkU C P op (opY a tb ex exY):=by
 cases a <;> first
  | (simp [kdA] at hk;done)
  | exact u_st hc | exact wUi hc
def wHZ (C:Chk) (P:Program) (tb:Tr AF) (ex:Run):Prop:=∀ f args h v h',wKq tb ex f args h=some (v,h') ->
 (∀ (a:Array Value) (w:World),(callFunc (f.nat - 1) a).run P w=.ok (.enter (f.nat - 1) a) w) /\
 ∀ μ w vs,Sim C P μ h w->RvL μ args vs->Gv P (f.nat - 1) vs w fun cv w'=>∃ μ',Ext μ h.fl.nat w μ' w'/\Sim C P μ' h' w'/\Rv μ' v cv/\h'.fl=h.fl
def wGJ (C:Chk) (P:Program) (ex:Run):Prop:=∀ b args h v h',wKr ex b args h=some (v,h') ->
 ∀ μ w x c,Sim C P μ h w->RvL μ args x->μ b=some c->Yd P c.1 x w fun t w'=>∃ μ',Ext μ h.fl.nat w μ' w'/\Sim C P μ' h' w'/\v=.bool t/\h'.fl=h.fl
def wIZ (P:Program) (N:Nat) (l:List Oper) (a:AO):Bool:=match l[a.ix]? with
 | none=>false
 | some o=>wIY P a.op o.op && ((match a.dst,o.dst with
   | none,none=>true
   | some p,some d=>nD p.nat (d + 1) && nR d N
   | _,_=>false) && ((match a.grd,o.guard with
   | none,none=>true
   | some (p,b),some (j,b')=>(b == b') && (match (l[j]?).bind (·.dst) with | some d=>nD p.nat (d + 1) | none=>false)
   | _,_=>false) && ((match a.kd with
   | 3=>nD (kdA a.op) 3
   | 1=>nD (kdA a.op) 1 || nD (kdA a.op) 3
   | _=>true) && ((!Nat.beq (kdA a.op) 4 || o.dst.isNone) && !Nat.beq a.kd 1005))))
structure AOK (P:Program) (N:Nat) (l:List Oper) (a:AO) (o:Oper):Prop where
 get:l[a.ix]?=some o
 op:wIY P a.op o.op=true
 dst:(a.dst=none/\o.dst=none) \/ ∃ p d,a.dst=some p/\o.dst=some d/\d=p.nat - 1/\d < N
 grd:(a.grd=none/\o.guard=none) \/ ∃ p b j d,a.grd=some (p,b)/\o.guard=some (j,b)/\(l[j]?).bind (·.dst)=some d/\d=p.nat - 1
 k3:a.kd=3->kdA a.op=3
 k1:a.kd=1->kdA a.op=1 \/ kdA a.op=3
 un:kdA a.op=4->o.dst=none
 k5:a.kd ≠ 1005
theorem wDv {N:Nat} {l:List Oper} {a:AO} (hc:wIZ P N l a=true):∃ o,AOK P N l a o:=by
 unfold wIZ at hc
 split at hc
 ·cases hc
 ·rename_i o ho
  simp only [nA] at hc
  obtain ⟨c1,c2,c3,c4,c5,c6⟩:=hc
  refine ⟨o,ho,c1,?_,?_,?_,?_,?_,?_⟩
  ·split at c2
   ·rename_i h1 h2;exact .inl ⟨h1,h2⟩
   ·rename_i p d h1 h2
    simp only [nA,nH] at c2
    have:=nB c2.1
    exact .inr ⟨p,d,h1,h2,by rw [this];rfl,c2.2⟩
   ·cases c2
  ·split at c3
   ·rename_i h1 h2;exact .inl ⟨h1,h2⟩
   ·rename_i p b j b' h1 h2
    simp only [nA,beq_iff_eq] at c3
    obtain ⟨rfl,c3⟩:=c3
    split at c3
    ·rename_i d hd
     have:=nB c3
     exact .inr ⟨p,b,j,d,h1,h2,hd,by rw [this];rfl⟩
    ·cases c3
   ·cases c3
  ·intro hk;rw [hk] at c4;exact nB c4
  ·intro hk;rw [hk] at c4
   simp only [nO] at c4
   exact c4.imp nB nB
  ·intro hk;rw [hk] at c5
   simpa using c5
  ·intro hk;rw [hk] at c6
   simp at c6
theorem wKB {N:Nat} {l:List Oper} {a:AO} {o:Oper} {μ:Mu} {σA:Tr AV} {σ:Env} (A:AOK P N l a o) (hE:EnvR μ σA σ):wanted l σ o=wDa σA a.grd:=by
 unfold wanted
 rcases A.grd with ⟨h1,h2⟩ | ⟨p,b,j,d,h1,h2,h3,h4⟩
 ·rw [h1,h2];rfl
 ·rw [h1,h2]
  simp only [h3]
  show _=isB b (evA σA (.t p))
  have g:=hE p
  rw [<- h4] at g
  unfold isB
  cases hv:evA σA (.t p) <;> rw [hv] at g <;> simp only [Rv] at g <;>
   first | (rw [g];done) | (obtain ⟨_,_,_,_,_,g⟩:=g;rw [g];done) | (obtain ⟨_,_,_,_,g⟩:=g;rw [g];done) | (obtain ⟨_,_,_,g⟩:=g;rw [g];done) | (obtain ⟨_,_,g⟩:=g;rw [g];done) | (obtain ⟨_,g⟩:=g;rw [g];done) | rw [g]
theorem wFE {N:Nat} {l:List Oper} {a:AO} {o:Oper} {μ:Mu} {σA:Tr AV} {σ:Env} {v:AV} {cv:Value} (A:AOK P N l a o) (hE:EnvR μ σA σ) (hv:Rv μ v cv):EnvR μ (wHc a.dst σA v) (put' σ o cv):=by
 rcases A.dst with ⟨h1,h2⟩ | ⟨p,d,h1,h2,h3,_⟩
 ·rw [h1];unfold put';rw [h2];exact hE
 ·rw [h1];unfold put';rw [h2];subst h3;exact hE.put hv
theorem wJY {N:Nat} {l:List Oper} {a:AO} {o:Oper} (A:AOK P N l a o):∀ d,o.dst=some d->d < N:=by
 intro d hd
 rcases A.dst with ⟨_,h2⟩ | ⟨p,d',_,h2,_,h4⟩
 ·rw [h2] at hd;cases hd
 ·rw [h2] at hd;cases hd;exact h4
theorem wUn (HC:wHZ C P tb ex) (HY:wGJ C P exY) {N:Nat} {l:List Oper} {a:AO} {o:Oper} {μ:Mu} {σA:Tr AV} {σ:Env} {h h':AH} {v:AV} {w:World} (A:AOK P N l a o) (hw:wanted l σ o=true) (hr:opY a.op tb ex exY σA h=some (v,h')) (hE:EnvR μ σA σ) (S:Sim C P μ h w) :
  Step1 P l o σ w fun cv w'=>∃ μ',Ext μ h.fl.nat w μ' w'/\Sim C P μ' h' w'/\EnvR μ' (wHc a.dst σA v) (put' σ o cv)/\h'.fl=h.fl:=by
 have hop:=A.op
 by_cases k4:kdA a.op=4
 ·obtain ⟨μ',w',h1,h2,rfl,h4,h5⟩:=wUm (C:=C) k4 hop σA h v h' hr μ σ w hE S o rfl
  exact .inl ⟨hw,.inl ⟨A.un k4,w',h5,μ',h1,h2,wFE A (hE.mono h1.mono) (wPQ μ'),h4⟩⟩
 ·by_cases k5:kdA a.op=5
  ·cases hq:a.op <;> rw [hq] at k5 <;> first | (simp [kdA] at k5;done) | skip
   rename_i x args
   rw [hq] at hop hr
   have hop:wPo x args o.op=true:=hop
   unfold wPo at hop
   split at hop <;> first | (cases hop;done) | skip
   rename_i c hoc
   obtain ⟨ce,cargs,tys⟩:=c
   simp only at hop
   split at hop <;> first | (cases hop;done) | skip
   rename_i f
   simp only [nA] at hop
   have hx:=wAP hop.1 hE
   have ha:=wHo hop.2 hE
   have hr:wHX x args tb ex exY σA h=some (v,h'):=hr
   unfold wHX at hr
   split at hr
   ·rename_i g fi ca hg
    rw [hg] at hx
    obtain ⟨fv,cv,g1,g2,g3⟩:=hx
    obtain ⟨hcall,hgv⟩:=HC _ _ _ _ _ hr
    have G:=hgv μ w _ S (wEt g1 (wEt ha g2))
    refine .inl ⟨hw,.inr (.inr (.inl ⟨_,_,_,Enters.mk (l:=cargs.toList) hoc g3 hcall rfl (by rw [kA]),G,?_⟩))⟩
    rintro cv' w' ⟨μ',h1,h2,h3,h4⟩
    exact ⟨μ',h1,h2,wFE A (hE.mono h1.mono) h3,h4⟩
   ·rename_i b hb
    rw [hb] at hx
    obtain ⟨c,g1,g2⟩:=hx
    have hy:=HY _ _ _ _ _ hr
    have Y:=hy μ w _ c S ha g1
    have R:=Yd.rounds (σ:=σ) hoc g2 rfl Y
    refine .inl ⟨hw,.inr (.inr (.inr (R.mono ?_)))⟩
    rintro cv w' ⟨t,rfl,μ',h1,h2,rfl,h4⟩
    exact ⟨μ',h1,h2,wFE A (hE.mono h1.mono) rfl,h4⟩
   ·cases hr
  ·have hk:kdA a.op=0 \/ kdA a.op=1 \/ kdA a.op=3:=by
    cases hq:a.op <;> rw [hq] at k4 k5 <;> simp [kdA] at k4 k5 ⊢
   obtain ⟨μ',w',cv,h1,h2,h3,h4,h5⟩:=wUl (C:=C) hk hop σA h v h' hr μ σ w hE S o rfl
   exact .inl ⟨hw,.inr (.inl ⟨cv,w',h5,μ',h1,h2,wFE A (hE.mono h1.mono) h3,h4⟩)⟩
theorem wUo (HC:wHZ C P tb ex) (HY:wGJ C P exY) {N:Nat} {l:List Oper} {a:AO} {o:Oper} {μ:Mu} {σA:Tr AV} {σ:Env} {h h':AH} {v:AV} {w:World} (A:AOK P N l a o) (hw:wanted l σ o=true) (hr:opK a.kd a.op tb ex exY σA h=some (v,h')) (hE:EnvR μ σA σ) (S:Sim C P μ h w) :
  Step1 P l o σ w fun cv w'=>(a.kd=2->Keep w w' Non)/\∃ μ',Ext μ h.fl.nat w μ' w'/\Sim C P μ' h' w'/\EnvR μ' (wHc a.dst σA v) (put' σ o cv)/\h'.fl=h.fl:=by
 by_cases k2:a.kd=2
 ·have hr:wRz a.op tb ex exY σA h=some (v,h'):=by rw [k2] at hr;exact hr
  unfold wRz at hr
  split at hr
  ·rename_i v0 h0 hq
   cases hr
   refine (wUn HC HY A hw hq hE (S.floor h.nx)).mono ?_
   rintro cv w' ⟨μ',h1,h2,h3,h4⟩
   obtain ⟨g1,g2⟩:=S.non h1 h.fl.nat
   exact ⟨fun _=>g1,μ',g2,h2.floor h.fl,h3,rfl⟩
  ·cases hr
 ·have hr:opY a.op tb ex exY σA h=some (v,h'):=by
   have hb:nD a.kd 2=false:=by
    cases hb:nD a.kd 2 with
    | false=>rfl
    | true=>exact absurd (nB hb) k2
   have:opK a.kd a.op=opY a.op:=by unfold opK;rw [hb]
   rw [this] at hr;exact hr
  exact (wUn HC HY A hw hr hE S).mono fun cv w' hq=>⟨fun e=>absurd e k2,hq⟩
def flK (k:Nat):Bool:=nD k 1 || nD k 3
def wLD:List AO->Sch
 | []=>.nil
 | a :: os=>match flK a.kd with
  | true=>.fl a.ix (wLD os)
  | false=>.fx a.ix (wLD os) .stop
theorem wLE (HC:wHZ C P tb ex) (HY:wGJ C P exY) {N:Nat} {l:List Oper} {ks:List Nat} {Q:wEB} {D:List Deferred}:∀ (os:List AO) (σA:Tr AV) (h:AH) (σA':Tr AV) (h':AH),wAs tb ex exY os σA h=some (σA',h') ->
  (∀ a ∈ os,wIZ P N l a=true/\kOf ks a.ix=a.kd)->∀ (μ:Mu) (σ:Env) (w:World),Sim C P μ h w->EnvR μ σA σ ->
  (∀ μ' w' σ',Ext μ h.fl.nat w μ' w'->Sim C P μ' h' w'->EnvR μ' σA' σ'->h'.fl=h.fl->Q D .normal σ' w')->OKS N P l Q D ks (wLD os) σ w
 | [],σA,h,σA',h',hr,_,μ,σ,w,S,hE,hQ=>by
  rw [wBJ] at hr;cases hr
  exact hQ μ w σ (Ext.refl μ _ w) S hE rfl
 | a :: os,σA,h,σA',h',hr,hc,μ,σ,w,S,hE,hQ=>by
  obtain ⟨hc1,hk⟩:=hc a (by simp)
  obtain ⟨o,A⟩:=wDv hc1
  have hc2:∀ b ∈ os,wIZ P N l b=true/\kOf ks b.ix=b.kd:=fun b hb=>hc b (by simp [hb])
  rw [wBS] at hr
  have hw:=wKB A hE
  cases hwa:wDa σA a.grd with
  | false =>
   rw [hwa] at hr hw
   simp only at hr
   have IH:=wLE HC HY os _ h σA' h' hr hc2 μ (put' σ o undef) w S (wFE A hE (wPQ μ)) hQ
   unfold wLD
   split
   ·exact ⟨o,A.get,wJY A,.inr ⟨hw,IH⟩⟩
   ·exact ⟨⟨o,A.get,wJY A,.inr ⟨hw,KeepD.refl l ks _ w,IH⟩⟩,trivial⟩
  | true =>
   rw [hwa] at hr hw
   simp only at hr
   split at hr
   ·rename_i r hop
    obtain ⟨v,h1⟩:=r
    simp only at hr
    unfold wLD
    split
    ·rename_i hfl
     have hk13:a.kd=1 \/ a.kd=3:=by
      unfold flK at hfl
      simp only [nO] at hfl
      exact hfl.imp nB nB
     have hop:opY a.op tb ex exY σA h=some (v,h1):=by
      rcases hk13 with e | e <;> (rw [e] at hop;exact hop)
     have hL:kdA a.op=1 \/ kdA a.op=3:=by
      rcases hk13 with e | e
      ·exact A.k1 e
      ·exact .inr (A.k3 e)
     obtain ⟨rfl,hh⟩:=wJX (C:=C) hL A.op σA h v h1 hop
     obtain ⟨cv,g1,g2⟩:=hh μ σ w hE S
     refine ⟨o,A.get,wJY A,.inl ⟨hw,?_⟩⟩
     by_cases k3:a.kd=3
     ·obtain ⟨_,hp⟩:=wJW (tb:=tb) (ex:=ex) (exY:=exY) (A.k3 k3) A.op σA h1 v h1 hop
      obtain ⟨cv,g1,g2⟩:=hp μ σ hE
      exact ⟨cv,fun w' _=>g2 o w' rfl,⟨fun _ w'=>g2 o w' rfl,fun _ w' _=>g2 o w' rfl⟩,wLE HC HY os _ h1 σA' h' hr hc2 μ _ w S (wFE A hE g1) hQ⟩
     ·exact ⟨cv,g2 o rfl,⟨fun e=>absurd (hk ▸ e) k3,fun e=>by rw [hk] at e;rcases hk13 with q | q <;> omega⟩,wLE HC HY os _ h1 σA' h' hr hc2 μ _ w S (wFE A hE g1) hQ⟩
    ·refine ⟨⟨o,A.get,wJY A,(wUo HC HY A hw hop hE S).mono ?_⟩,trivial⟩
     rintro cv w1 ⟨q0,μ1,q1,q2,q3,q4⟩
     refine ⟨⟨fun e=>q0 (hk ▸ e),fun e=>absurd (hk ▸ e) A.k5⟩,wLE HC HY os _ h1 σA' h' hr hc2 μ1 _ w1 q2 q3 fun μ' w' σ' r1 r2 r3 r4=>?_⟩
     rw [q4] at r1 r4
     exact hQ μ' w' σ' (q1.trans r1) r2 r3 r4
   ·cases hr
end
end
end Go.KX
namespace Go.KX
open Go.RowKit Go.KL
section
variable {C:Chk} {P:Program} {tb:Tr AF} {ex exY:Run}
def OkA (C:Chk) (P:Program) (op:Op) (f:Tr AV->AH->Option (AV × AH)):Prop :=
 ∀ σA h v h',f σA h=some (v,h')->∃ (B:AB) (vf:Pos->AV),h'=h.push B/\v=vf h.nx/\(∀ h2:AH,f σA h2=some (vf h2.nx,h2.push B))/\wNk B/\∀ μ σ,EnvR μ σA σ->∀ o:Oper,o.op=op ->
  ∃ (ob:Obj) (val:Nat->Value),(∀ w:World,Runs P σ w o (val w.heap.size) (w.alloc ob)) /\
   (∀ μ' (w:World) b,μ.Le μ'->w.heap[b]?=some ob->AbR C P μ' w ⟨b,0,g0⟩ B)/\∀ μ' p b,μ' p=some ⟨b,0,g0⟩->Rv μ' (vf p) (val b)
theorem wNp {α:Type} {b:Bool} {x:Option α} (h:b=true):ifO b x=x:=by subst h;rfl
theorem a_new {T:Nat} {z:List AV} {op:Op} (hc:wPg P T z op=true):OkA C P op (wSa T z):=by
 intro σA h v h' hr
 cases hr
 unfold wPg at hc
 split at hc
 ·simp only [nA] at hc
  have e:=nB hc.1
  subst e
  obtain ⟨i,zv,z1,z2,z3⟩:=wGG hc.2
  refine ⟨.cells T z,fun p=>.ptr p 0,rfl,rfl,fun h2=>rfl,trivial,fun μ σ hE o ho=>?_⟩
  refine ⟨_,fun b=>.pointer (some ⟨b,0,none⟩),fun w=>⟨by rw [ho];rfl,?_⟩,fun μ' w b hm hb=>⟨_,z3 μ',hb⟩,fun μ' p b hp=>⟨_,hp,rfl⟩⟩
  simp [execOp,ho,Instr.alloc,wEa z1 z2,newVar,newRow,newObj,Sem.run]
 ·cases hc
theorem a_box {T:Nat} {x:AOd} {op:Op} (hc:wPh T x op=true):OkA C P op (wNf T x):=by
 intro σA h v h' hr
 cases hr
 unfold wPh at hc
 split at hc
 ·simp only [nA] at hc
  have e:=nB hc.1
  subst e
  refine ⟨.cells T _,fun p=>.ptr p 0,rfl,rfl,fun h2=>rfl,trivial,fun μ σ hE o ho=>?_⟩
  obtain ⟨vs,v1,v2⟩:=wHn (wAP hc.2 hE)
  refine ⟨.cells vs.toArray T,fun b=>.pointer (some ⟨b,0,none⟩),fun w=>⟨by rw [ho];rfl,?_⟩,fun μ' w b hm hb=>⟨vs,v1.mono hm,hb⟩,fun μ' p b hp=>⟨_,hp,rfl⟩⟩
  simp [execOp,ho,Instr.box,newVar,newRow,newObj,v2,Sem.run]
 ·cases hc
theorem a_mkm {op:Op} (hc:wPi op=true):OkA C P op wSb:=by
 intro σA h v h' hr
 cases hr
 unfold wPi at hc
 split at hc
 ·refine ⟨.map0,fun p=>.map p,rfl,rfl,fun h2=>rfl,trivial,fun μ σ hE o ho=>?_⟩
  refine ⟨.map #[] 0,fun b=>.map (some b),fun w=>⟨by rw [ho];rfl,?_⟩,fun μ' w b hm hb=>⟨0,hb⟩,fun μ' p b hp=>⟨_,hp,rfl⟩⟩
  simp [execOp,ho,Instr.makeMap,newObj,Sem.run,Result.andThen]
 ·cases hc
theorem a_mks {T sz by_:Nat} {z:List AV} {x y:AOd} {op:Op} (hc:wPj P T sz by_ z x y op=true):OkA C P op (wIK T sz by_ z x y):=by
 intro σA h v h' hr
 unfold wPj at hc
 split at hc
 ·rename_i t x' y'
  simp only [nA] at hc
  obtain ⟨c1,c2,c3,c4,c5,c6,c7⟩:=hc
  obtain ⟨d,d1,d2⟩:=wAy c1
  split at d2 <;> first | (cases d2;done) | skip
  have e:=nB d2
  subst e
  rename_i e
  obtain ⟨i,i1,i2⟩:=wHp c2
  obtain ⟨i',j1,j2⟩:=wHq c3
  obtain ⟨i'',zv,k1,k2,k3⟩:=wGG c4
  rw [i1] at j1 k1;cases j1;cases k1
  have hz:=nB c5
  unfold wIK at hr
  split at hr
  ·rename_i l c hl hcc
   obtain ⟨hb,hr⟩:=wCE hr
   cases hr
   simp only [nA,nN] at hb
   obtain ⟨⟨⟨b1,b2⟩,b3⟩,b4⟩:=hb
   refine ⟨.cells e (rep c z),fun p=>.sl p 0 l c,rfl,rfl,fun h2=>(by simp only [wIK,hl,hcc];exact wNp (by simp [b1,b2,b3,b4])),trivial,fun μ σ hE o ho=>?_⟩
   have hx:=wAP c6 hE;rw [wCr hl] at hx
   have hy:=wAP c7 hE;rw [wCr hcc] at hy
   have hx:ev σ x'=.int .i64 (l:Int):=hx
   have hy:ev σ y'=.int .i64 (c:Int):=hy
   have zlen:zv.cells.size=sz:=by rw [<- hz,wFQ,<- wDl (k3 μ)];simp
   have hcells:(madeCells zv.cells (c * sz))=((nI c zv.cells.toList).flatten).toArray:=by
    apply nJ
    have:=wGI (zc:=zv.cells) (n:=0) c
    simp only [or_false] at this
    rw [zlen] at this
    show ((nh (c * sz)).map (zv.cells[· % zv.cells.size]!)).toList=_
    rw [zlen,this]
   refine ⟨.cells ((nI c zv.cells.toList).flatten).toArray e,fun b=>.slice (some ⟨b,0,none⟩) l c,fun w=>⟨by rw [ho];rfl,?_⟩,fun μ' w b hm hb=>⟨_,wIR (k3 μ') c,hb⟩,fun μ' p b hp=>⟨_,hp,b1,rfl⟩⟩
   have hrun:=run_makeSlice (P:=P) w t e i zv d1 i1 k2 .i64 .i64 (l:Int) (c:Int) (by omega) (by omega) (by rw [i2,np];exact b2) (by rw [j2];have hb:=Int.ofNat_le.2 b3;rw [kW] at hb;exact hb) (by omega)
   simp only [np,i2] at hrun
   rw [hcells] at hrun
   simp [execOp,ho,hx,hy,hrun,Result.andThen]
  ·cases hr
 ·cases hc
theorem wUp {T n:Nat} {z:List AV} {ps:List (Nat × Nat × AOd)} {op:Op} (hc:wLB P T n z ps op=true):OkA C P op (wFO T n z ps):=by
 intro σA h v h' hr
 unfold wLB at hc
 split at hc
 ·rename_i t m qs
  simp only [nA] at hc
  obtain ⟨c1,c2,c3⟩:=hc
  have e:=nB c1
  subst e
  obtain ⟨d,d1,d2⟩:=wAy c2
  split at d2 <;> first | (cases d2;done) | skip
  have e:=nB d2
  subst e
  rename_i e
  split at c3
  ·rename_i i hi
   simp only [nA,nN] at c3
   obtain ⟨c3,c4,c5⟩:=c3
   split at c5
   ·rename_i zv hz
    unfold wFO at hr
    split at hr
    ·rename_i r hr3
     cases hr
     refine ⟨.cells e r,fun p=>.sl p 0 m m,rfl,rfl,fun h2=>by simp only [wFO,hr3],trivial,fun μ σ hE o ho=>?_⟩
     obtain ⟨R,r1,r2,r3⟩:=wIW hE hr3 c4 (wHD μ c5)
     have hf:=wEI _ _ _ _ r1
     refine ⟨.cells R.toArray e,fun b=>.slice (some ⟨b,0,none⟩) m m,fun w=>⟨by rw [ho];rfl,?_⟩,fun μ' w b hm hb=>⟨_,r2.mono hm,hb⟩,fun μ' p b hp=>⟨_,hp,nG _,rfl⟩⟩
     have hs:∀ w,(sizeOf e).run P w=.ok i.size w:=fun w=>by simp [sizeOf,typeInfo,hi]
     have hn':¬ m * i.size > 2 ^ 24:=by omega
     have hq:(qs.map fun (p:Nat × Operand)=>(p.1,ev σ p.2)).toList=qs.toList.map fun (p:Nat × Operand)=>(p.1,ev σ p.2):=by simp
     by_cases h0:m * i.size=0
     ·rw [h0] at hf
      simp only [List.range_zero,kR] at hf
      have hr0:(nh 0).map (fun x=>(#[]:Array Value)[x % (#[]:Array Value).size]!)=#[]:=by rw [show (nh 0)=#[] from rfl,Array.map_empty]
      have hn0:¬ (0:Nat) > 2 ^ 24:=by decide
      simp only [execOp,ho,Instr.buildSlice,Sem.run_bind,wBE d1,hs,Result.andThen_ok,h0,if_neg hn0,if_true,Sem.run_pure,hq,hr0,hf]
      simp [newRow,newObj,Sem.run,Result.andThen]
     ·have hzs:(nh (m * i.size)).map (zv.cells[· % zv.cells.size]!)=((kH (m * i.size)).map fun k=>zv.cells[k % zv.cells.size]!).toArray:=by rw [<- kl,List.map_toArray]
      simp only [execOp,ho,Instr.buildSlice,Sem.run_bind,wBE d1,hs,wEa hi hz,Result.andThen_ok,if_neg hn',if_neg h0,Sem.run_pure,hq,hzs,hf]
      simp [newRow,newObj,Sem.run,Result.andThen]
    ·cases hr
   ·cases c5
  ·cases c3
 ·cases hc
def wCF:AOp->List AOd
 | .mv x=>[x]
 | .pick c x y=>[c] ++ [x] ++ [y]
 | .new _ _=>[]
 | .box _ x=>[x]
 | .ld x=>[x]
 | .ldA _ x=>[x]
 | .st _ x y=>[x] ++ [y]
 | .nilc x=>[x]
 | .add x y=>[x] ++ [y]
 | .sub x y=>[x] ++ [y]
 | .mul x y=>[x] ++ [y]
 | .quo x y=>[x] ++ [y]
 | .rem x y=>[x] ++ [y]
 | .lss x y=>[x] ++ [y]
 | .leq x y=>[x] ++ [y]
 | .gtr x y=>[x] ++ [y]
 | .geq x y=>[x] ++ [y]
 | .eql x y=>[x] ++ [y]
 | .neq x y=>[x] ++ [y]
 | .eqb _ x y=>[x] ++ [y]
 | .eqn _ _ x y=>[x] ++ [y]
 | .eqs _ _ x y=>[x] ++ [y]
 | .neg x=>[x]
 | .not x=>[x]
 | .cvt _ x=>[x]
 | .mkf _ fi ca=>fi ++ ca
 | .mkm =>[]
 | .mks _ _ _ _ x y=>[x] ++ [y]
 | .slc _ x lo hi mx=>[x] ++ lo.toList ++ hi.toList ++ mx.toList
 | .slcA _ _ x lo hi=>[x] ++ lo.toList ++ hi.toList
 | .fad _ x=>[x]
 | .fld _ x=>[x]
 | .fldA _ _ x=>[x]
 | .iad _ x y=>[x] ++ [y]
 | .iadA _ _ x y=>[x] ++ [y]
 | .ix _ x y=>[x] ++ [y]
 | .ixA _ _ x y=>[x] ++ [y]
 | .lk _ _ _ _ x y=>[x] ++ [y]
 | .mput _ _ x y z=>[x] ++ [y] ++ [z]
 | .mdel _ _ x y=>[x] ++ [y]
 | .ext _ x=>[x]
 | .bld _ ps=>(ps.map fun q=>q.2.2)
 | .blds _ _ _ ps=>(ps.map fun q=>q.2.2)
 | .len x=>[x]
 | .lenM x=>[x]
 | .cap x=>[x]
 | .app _ _ _ x y=>[x] ++ [y]
 | .cpy _ x y=>[x] ++ [y]
 | .clr _ x=>[x]
 | .min x y=>[x] ++ [y]
 | .max x y=>[x] ++ [y]
 | .and x y=>[x] ++ [y]
 | .shr x y=>[x] ++ [y]
 | .ixs _ y=>[y]
 | .apz _ _ _ _ x y=>[x] ++ [y]
 | .call x l=>[x] ++ l
 | .bad=>[]
theorem wGk {σ1 σ2:Tr AV}:∀ {l:List AOd},(∀ x ∈ l,evA σ1 x=evA σ2 x)->evs σ1 l=evs σ2 l
 | [],_=>rfl
 | x :: l,h=>by
  show evA σ1 x :: evs σ1 l=evA σ2 x :: evs σ2 l
  rw [h x (by simp),wGk fun y hy=>h y (by simp [hy])]
theorem wGK {σ1 σ2:Tr AV}:∀ {ps:List (Nat × Nat × AOd)} {cs:List AV},(∀ q ∈ ps,evA σ1 q.2.2=evA σ2 q.2.2)->wJu σ1 cs ps=wJu σ2 cs ps
 | [],cs,_=>rfl
 | (off,n,x) :: ps,cs,h=>by
  have e:evA σ1 x=evA σ2 x:=h (off,n,x) (by simp)
  simp only [wJu,e]
  cases nD (len (evA σ2 x).cells) n with
  | false=>rfl
  | true =>
   cases wSY cs off (evA σ2 x).cells with
   | none=>rfl
   | some cs'=>exact wGK fun q hq=>h q (by simp [hq])
theorem wFS {σ1 σ2:Tr AV} {o:Option AOd} (h:∀ x ∈ o.toList,evA σ1 x=evA σ2 x):bnd σ1 o=bnd σ2 o:=by
 cases o with
 | none=>rfl
 | some x =>
  have e:=h x (by simp)
  simp only [bnd,e]
theorem wPq {σ1 σ2:Tr AV} (op:AOp) (h:∀ x ∈ wCF op,evA σ1 x=evA σ2 x) (hh:AH):opY op tb ex exY σ1 hh=opY op tb ex exY σ2 hh:=by
 cases op with
 | bld z ps=>exact (show wPB z ps σ1 hh=wPB z ps σ2 hh by simp only [wPB];rw [wGK fun q hq=>h q.2.2 (kQ.2 ⟨q,hq,rfl⟩)])
 | blds T n z ps=>exact (show wFO T n z ps σ1 hh=wFO T n z ps σ2 hh by simp only [wFO];rw [wGK fun q hq=>h q.2.2 (kQ.2 ⟨q,hq,rfl⟩)])
 | mkf f fi ca=>exact (show wNg f fi ca σ1 hh=wNg f fi ca σ2 hh by simp only [wNg];rw [wGk fun x hx=>h x (nu _ hx),wGk fun x hx=>h x (nq _ hx)])
 | call x l=>exact (show wHX x l tb ex exY σ1 hh=wHX x l tb ex exY σ2 hh by simp only [wHX];rw [h x (nu _ (by simp)),wGk fun y hy=>h y (nq _ hy)])
 | slc sz x lo hi mx=>exact (show wLn sz x lo hi mx σ1 hh=wLn sz x lo hi mx σ2 hh by
   simp only [wLn]
   rw [h x (by simp [wCF]),wFS fun y hy=>h y (by simp only [wCF,nM];exact .inl (.inl (.inr hy))),wFS fun y hy=>h y (by simp only [wCF,nM];exact .inl (.inr hy)),wFS fun y hy=>h y (by simp only [wCF,nM];exact .inr hy)])
 | slcA sz n x lo hi=>exact (show wIL sz n x lo hi σ1 hh=wIL sz n x lo hi σ2 hh by
   simp only [wIL]
   rw [h x (by simp [wCF]),wFS fun y hy=>h y (by simp only [wCF,nM];exact .inl (.inr hy)),wFS fun y hy=>h y (by simp only [wCF,nM];exact .inr hy)])
 | mv a_x=>exact (show wUB a_x σ1 hh=wUB a_x σ2 hh by simp only [wUB,h a_x (by simp [wCF])])
 | pick a_c a_x a_y=>exact (show wII a_c a_x a_y σ1 hh=wII a_c a_x a_y σ2 hh by simp only [wII,h a_c (by simp [wCF]),h a_x (by simp [wCF]),h a_y (by simp [wCF])])
 | new a_T a_z=>rfl
 | box a_T a_x=>exact (show wNf a_T a_x σ1 hh=wNf a_T a_x σ2 hh by simp only [wNf,h a_x (by simp [wCF])])
 | ld a_x=>exact (show wQj a_x σ1 hh=wQj a_x σ2 hh by simp only [wQj,h a_x (by simp [wCF])])
 | ldA a_n a_x=>exact (show wJD a_n a_x σ1 hh=wJD a_n a_x σ2 hh by simp only [wJD,h a_x (by simp [wCF])])
 | st a_n a_x a_y=>exact (show wRy a_n a_x a_y σ1 hh=wRy a_n a_x a_y σ2 hh by simp only [wRy,h a_x (by simp [wCF]),h a_y (by simp [wCF])])
 | nilc a_x=>exact (show wIJ a_x σ1 hh=wIJ a_x σ2 hh by simp only [wIJ,h a_x (by simp [wCF])])
 | add a_x a_y=>exact (show wOp a_x a_y σ1 hh=wOp a_x a_y σ2 hh by simp only [wOp,h a_x (by simp [wCF]),h a_y (by simp [wCF])])
 | sub a_x a_y=>exact (show wOq a_x a_y σ1 hh=wOq a_x a_y σ2 hh by simp only [wOq,h a_x (by simp [wCF]),h a_y (by simp [wCF])])
 | mul a_x a_y=>exact (show wOr a_x a_y σ1 hh=wOr a_x a_y σ2 hh by simp only [wOr,h a_x (by simp [wCF]),h a_y (by simp [wCF])])
 | quo a_x a_y=>exact (show wOs a_x a_y σ1 hh=wOs a_x a_y σ2 hh by simp only [wOs,h a_x (by simp [wCF]),h a_y (by simp [wCF])])
 | rem a_x a_y=>exact (show wOt a_x a_y σ1 hh=wOt a_x a_y σ2 hh by simp only [wOt,h a_x (by simp [wCF]),h a_y (by simp [wCF])])
 | lss a_x a_y=>exact (show wOu a_x a_y σ1 hh=wOu a_x a_y σ2 hh by simp only [wOu,h a_x (by simp [wCF]),h a_y (by simp [wCF])])
 | leq a_x a_y=>exact (show wOv a_x a_y σ1 hh=wOv a_x a_y σ2 hh by simp only [wOv,h a_x (by simp [wCF]),h a_y (by simp [wCF])])
 | gtr a_x a_y=>exact (show wOw a_x a_y σ1 hh=wOw a_x a_y σ2 hh by simp only [wOw,h a_x (by simp [wCF]),h a_y (by simp [wCF])])
 | geq a_x a_y=>exact (show wOx a_x a_y σ1 hh=wOx a_x a_y σ2 hh by simp only [wOx,h a_x (by simp [wCF]),h a_y (by simp [wCF])])
 | eql a_x a_y=>exact (show wOy a_x a_y σ1 hh=wOy a_x a_y σ2 hh by simp only [wOy,h a_x (by simp [wCF]),h a_y (by simp [wCF])])
 | neq a_x a_y=>exact (show wOz a_x a_y σ1 hh=wOz a_x a_y σ2 hh by simp only [wOz,h a_x (by simp [wCF]),h a_y (by simp [wCF])])
 | eqb a_ne a_x a_y=>exact (show wLi a_ne a_x a_y σ1 hh=wLi a_ne a_x a_y σ2 hh by simp only [wLi,h a_x (by simp [wCF]),h a_y (by simp [wCF])])
 | eqn a_k a_ne a_x a_y=>exact (show wLj a_k a_ne a_x a_y σ1 hh=wLj a_k a_ne a_x a_y σ2 hh by simp only [wLj,h a_x (by simp [wCF]),h a_y (by simp [wCF])])
 | eqs a_ne a_s a_x a_y=>exact (show wLk a_ne a_s a_x a_y σ1 hh=wLk a_ne a_s a_x a_y σ2 hh by simp only [wLk,h a_x (by simp [wCF]),h a_y (by simp [wCF])])
 | neg a_x=>exact (show wPA a_x σ1 hh=wPA a_x σ2 hh by simp only [wPA,h a_x (by simp [wCF])])
 | not a_x=>exact (show wLl a_x σ1 hh=wLl a_x σ2 hh by simp only [wLl,h a_x (by simp [wCF])])
 | cvt a_k a_x=>exact (show wLm a_k a_x σ1 hh=wLm a_k a_x σ2 hh by simp only [wLm,h a_x (by simp [wCF])])
 | mkm =>rfl
 | mks a_T a_sz a_bytes a_z a_x a_y=>exact (show wIK a_T a_sz a_bytes a_z a_x a_y σ1 hh=wIK a_T a_sz a_bytes a_z a_x a_y σ2 hh by simp only [wIK,h a_x (by simp [wCF]),h a_y (by simp [wCF])])
 | fad a_off a_x=>exact (show wLo a_off a_x σ1 hh=wLo a_off a_x σ2 hh by simp only [wLo,h a_x (by simp [wCF])])
 | fld a_off a_x=>exact (show wLp a_off a_x σ1 hh=wLp a_off a_x σ2 hh by simp only [wLp,h a_x (by simp [wCF])])
 | fldA a_off a_n a_x=>exact (show wIM a_off a_n a_x σ1 hh=wIM a_off a_n a_x σ2 hh by simp only [wIM,h a_x (by simp [wCF])])
 | iad a_sz a_x a_y=>exact (show wLq a_sz a_x a_y σ1 hh=wLq a_sz a_x a_y σ2 hh by simp only [wLq,h a_x (by simp [wCF]),h a_y (by simp [wCF])])
 | iadA a_sz a_n a_x a_y=>exact (show wIN a_sz a_n a_x a_y σ1 hh=wIN a_sz a_n a_x a_y σ2 hh by simp only [wIN,h a_x (by simp [wCF]),h a_y (by simp [wCF])])
 | ix a_n a_x a_y=>exact (show wSc a_n a_x a_y σ1 hh=wSc a_n a_x a_y σ2 hh by simp only [wSc,h a_x (by simp [wCF]),h a_y (by simp [wCF])])
 | ixA a_sz a_n a_x a_y=>exact (show wLr a_sz a_n a_x a_y σ1 hh=wLr a_sz a_n a_x a_y σ2 hh by simp only [wLr,h a_x (by simp [wCF]),h a_y (by simp [wCF])])
 | lk a_two a_k a_ok a_z a_x a_y=>exact (show wQk a_two a_k a_ok a_z a_x a_y σ1 hh=wQk a_two a_k a_ok a_z a_x a_y σ2 hh by simp only [wQk,h a_x (by simp [wCF]),h a_y (by simp [wCF])])
 | mput a_two a_k a_x a_y a_z=>exact (show wHV a_two a_k a_x a_y a_z σ1 hh=wHV a_two a_k a_x a_y a_z σ2 hh by simp only [wHV,h a_x (by simp [wCF]),h a_y (by simp [wCF]),h a_z (by simp [wCF])])
 | mdel a_two a_k a_x a_y=>exact (show wHW a_two a_k a_x a_y σ1 hh=wHW a_two a_k a_x a_y σ2 hh by simp only [wHW,h a_x (by simp [wCF]),h a_y (by simp [wCF])])
 | ext a_i a_x=>exact (show wLs a_i a_x σ1 hh=wLs a_i a_x σ2 hh by simp only [wLs,h a_x (by simp [wCF])])
 | len a_x=>exact (show wLt a_x σ1 hh=wLt a_x σ2 hh by simp only [wLt,h a_x (by simp [wCF])])
 | lenM a_x=>exact (show wFq a_x σ1 hh=wFq a_x σ2 hh by simp only [wFq,h a_x (by simp [wCF])])
 | cap a_x=>exact (show wLu a_x σ1 hh=wLu a_x σ2 hh by simp only [wLu,h a_x (by simp [wCF])])
 | app a_T a_sz a_bytes a_x a_y=>exact (show wKn a_T a_sz a_bytes a_x a_y σ1 hh=wKn a_T a_sz a_bytes a_x a_y σ2 hh by simp only [wKn,h a_x (by simp [wCF]),h a_y (by simp [wCF])])
 | cpy a_sz a_x a_y=>exact (show wKo a_sz a_x a_y σ1 hh=wKo a_sz a_x a_y σ2 hh by simp only [wKo,h a_x (by simp [wCF]),h a_y (by simp [wCF])])
 | clr a_z a_x=>exact (show wKp a_z a_x σ1 hh=wKp a_z a_x σ2 hh by simp only [wKp,h a_x (by simp [wCF])])
 | min a_x a_y=>exact (show wPC a_x a_y σ1 hh=wPC a_x a_y σ2 hh by simp only [wPC,h a_x (by simp [wCF]),h a_y (by simp [wCF])])
 | max a_x a_y=>exact (show wPD a_x a_y σ1 hh=wPD a_x a_y σ2 hh by simp only [wPD,h a_x (by simp [wCF]),h a_y (by simp [wCF])])
 | bad=>rfl
 | and a_x a_y=>exact (show wPE a_x a_y σ1 hh=wPE a_x a_y σ2 hh by simp only [wPE,h a_x (by simp [wCF]),h a_y (by simp [wCF])])
 | ixs a_l a_y=>exact (show wLv a_l a_y σ1 hh=wLv a_l a_y σ2 hh by simp only [wLv,h a_y (by simp [wCF])])
 | apz a_T a_sz a_b a_z a_x a_y=>exact (show wKs a_T a_sz a_b a_z a_x a_y σ1 hh=wKs a_T a_sz a_b a_z a_x a_y σ2 hh by simp only [wKs,h a_x (by simp [wCF]),h a_y (by simp [wCF])])
 | shr a_x a_y=>exact (show wPF a_x a_y σ1 hh=wPF a_x a_y σ2 hh by simp only [wPF,h a_x (by simp [wCF]),h a_y (by simp [wCF])])
variable {r:Option Nat} {N:Nat} {Q:wEB} {D:List Deferred} {l:List Oper}
theorem CK.anyRel {id:Nat} {σ:Env} {w:World} (hm:P.follows .mixedOrders=true) (hpr:∀ i,i < l.length->∀ j ∈ prI l i,j < i) (J:(Nat->Bool)->Env->World->Prop)
  (h0:J (fun _=>false) σ { w with drawn:=w.drawn + 1 })
  (step:∀ S i σ w,i < l.length->S i=false->(∀ j ∈ prI l i,S j=true)->(∀ k,k < l.length->S k=true->∀ j ∈ prI l k,S j=true)->(∀ k,S k=true->k < l.length)->J S σ w ->
   ∃ o,l[i]?=some o/\(∀ d,o.dst=some d->d < N)/\Step1 P l o σ w fun v w'=>J (fun k=>k == i || S k) (put' σ o v) w')
  (fin:∀ S σ w,(∀ i,i < l.length->S i=true)->J S σ w->Q D .normal σ w):CK r N P (.region id l.toArray true) Q D σ w:=by
 intro a ha
 refine wpIn_region_any hm ?_
 have prog:∀ (listed:Array Bool),listed.size=l.length->Region.ready .any l.toArray listed=[]->∀ i,i < l.length->listed.getD i false=true:=by
  intro listed hsz hnil i
  induction i using Nat.strongRecOn with
  | _ i ih =>
   intro hi
   cases hb:listed.getD i false with
   | true=>rfl
   | false =>
    have:i ∈ Region.ready .any l.toArray listed:=(wEF hsz).2 ⟨hi,hb,fun j hj=>ih j (hpr i hi j hj) (Nat.lt_trans (hpr i hi j hj) hi)⟩
    rw [hnil] at this;cases this
 have core:∀ (fuel:Nat) (listed:Array Bool) (σ:Env) (a:Act) (w:World),listed.size=l.length->Rep N D a σ->(∀ k,k < l.length->listed.getD k false=true->∀ j ∈ prI l k,listed.getD j false=true) ->
   J (fun i=>listed.getD i false) σ w->(listed.toList.filter (! ·)).length <= fuel->wpAnyIn (WF r) 0 P .any l.toArray (wJm N Q) fuel listed a w:=by
  intro fuel
  induction fuel with
  | zero =>
   intro listed σ a w hsz hr hdc hJ hf
   have hall:∀ i,i < l.length->listed.getD i false=true:=by
    intro i hi
    cases hb:listed.getD i false with
    | true=>rfl
    | false=>have:=wGf listed i (by omega) hb;omega
   refine ⟨?_,σ,D,hr,fin _ σ w hall hJ⟩
   cases hr:Region.ready .any l.toArray listed with
   | nil=>rfl
   | cons x xs =>
    have hx:x ∈ Region.ready .any l.toArray listed:=by rw [hr];simp
    obtain ⟨h1,h2,_⟩:=(wEF hsz).1 hx
    rw [hall x h1] at h2;cases h2
  | succ fuel ih =>
   intro listed σ a w hsz hr hdc hJ hf
   refine ⟨fun hnil=>⟨σ,D,hr,fin _ σ w (prog listed hsz hnil) hJ⟩,fun i hi=>?_⟩
   obtain ⟨hlt,hun,hpi⟩:=(wEF hsz).1 hi
   have hsz':(listed.setIfInBounds i true).size=l.length:=by simpa using hsz
   have hf':((listed.setIfInBounds i true).toList.filter (! ·)).length <= fuel:=by have:=wGf listed i (by omega) hun;omega
   have hS:∀ k,listed.getD k false=true->k < l.length:=by
    intro k hk
    rcases kD k l.length with h | h
    ·exact h
    ·rw [nr,Array.getElem?_eq_none (by omega)] at hk;cases hk
   obtain ⟨o,ho,hN,hst⟩:=step _ i σ w hlt hun hpi hdc hS hJ
   refine wIB ho hr hN hst ?_
   intro v w' a' hr' hJ'
   refine ih _ (KL.put' σ o v) a' w' hsz' hr' ?_ ?_ hf'
   ·intro k hk hkl j hj
    rw [wGe (by omega)] at hkl ⊢
    rcases hkl with rfl | hkl
    ·exact .inr (hpi j hj)
    ·exact .inr (hdc k hk hkl j hj)
   ·have e:(fun k=>(listed.setIfInBounds i true).getD k false)=fun k=>k == i || listed.getD k false:=by
     funext k
     rw [Bool.eq_iff_iff,wGe (by omega),nO,beq_iff_eq]
    rw [e]
    exact hJ'
 have rep:∀ k,(kY l.toArray.size false).getD k false=false:=by
  intro k
  rw [nr,kS]
  split <;> rfl
 refine core l.toArray.size (kY l.toArray.size false) σ a _ (by simp) ha ?_ ?_ ?_
 ·intro k hk hkl
  rw [rep k] at hkl
  cases hkl
 ·have e:(fun i=>(kY l.toArray.size false).getD i false)=fun _=>false:=by
   funext i
   rw [nr,kS]
   split <;> rfl
  rw [e]
  exact h0
 ·exact nV (List.length_filter_le _ _) (by simp)
end
end Go.KX
namespace Go.KX
noncomputable section
open Go.RowKit Go.KL
def wDW:List AOd->List Pos
 | []=>[]
 | .t p :: l=>p :: wDW l
 | .c _ :: l=>wDW l
def wOY:AOp->Bool
 | .new _ _ | .box _ _ | .mkm | .mks _ _ _ _ _ _ | .blds _ _ _ _=>true
 | _=>false
def wDF (a:AO):List Pos:=wDW (wCF a.op) ++ (match a.grd with | some (p,_)=>[p] | none=>[])
def Sub (a:AOp) (o:Oper):Prop:=∀ t,Operand.tmp t ∈ o.op.operands->∃ p ∈ wDW (wCF a),p.nat - 1=t
def wMv (l:List Oper) (x i:Nat):Prop:=∀ S:Nat->Bool,(∀ k,k < l.length->S k=true->∀ j ∈ prI l k,S j=true)->(∀ j ∈ prI l i,S j=true)->S x=true
def wIa (acc:List Nat):List Nat->Nat
 | []=>0
 | p :: ps=>wIa acc ps ||| (2 ^ p ||| acc.getD p 0)
def wSF (acc:List Nat):List Oper->List Nat
 | []=>acc
 | o :: r=>wSF (acc ++ [wIa acc (wNZ o)]) r
theorem wJZ {acc:List Nat} {x:Nat}:∀ {ps:List Nat},(wIa acc ps).testBit x=true->∃ p ∈ ps,x=p \/ (acc.getD p 0).testBit x=true
 | [],h=>by simp [wIa] at h
 | p :: ps,h=>by
  simp only [wIa,Nat.testBit_or,nO,Nat.testBit_two_pow,decide_eq_true_eq] at h
  rcases h with h | h | h
  ·obtain ⟨q,h1,h2⟩:=wJZ h
   exact ⟨q,by simp [h1],h2⟩
  ·exact ⟨p,by simp,.inl h.symm⟩
  ·exact ⟨p,by simp,.inr h⟩
theorem wMF {l:List Oper} (hpr:∀ i,i < l.length->∀ j ∈ prI l i,j < i):∀ (rest done:List Oper) (acc:List Nat),l=done ++ rest->acc.length=done.length->(∀ i x,(acc.getD i 0).testBit x=true->wMv l x i) ->
  ∀ i x,((wSF acc rest).getD i 0).testBit x=true->wMv l x i
 | [],done,acc,_,_,h,i,x,hx=>h i x hx
 | o :: r,done,acc,hl,hlen,h,i,x,hx=>by
  refine wMF hpr r (done ++ [o]) (acc ++ [wIa acc (wNZ o)]) (by rw [hl];simp) (by simp [hlen]) ?_ i x hx
  intro i x hx
  rcases Nat.lt_trichotomy i acc.length with hi | hi | hi
  ·rw [nY,nT hi,<- nY] at hx
   exact h i x hx
  ·rw [nY,hi,nP (nG _),Nat.sub_self] at hx
   have hx:(wIa acc (wNZ o)).testBit x=true:=hx
   have hlt:done.length < l.length:=by rw [hl];simp
   have hp:prI l done.length=wNZ o:=by
    unfold prI
    rw [hl,nP (nG _),Nat.sub_self]
    rfl
   obtain ⟨p,h1,h2⟩:=wJZ hx
   intro S hdc hS
   rw [hi,hlen] at hS
   have hSp:S p=true:=hS p (by rw [hp];exact h1)
   rcases h2 with rfl | h2
   ·exact hSp
   ·have:=hpr _ hlt p (by rw [hp];exact h1)
    exact h p x h2 S hdc (hdc p (by omega) hSp)
  ·rw [nY,kC (by simp;omega)] at hx
   simp at hx
def dne (b:AO) (p:Pos):Bool:=match b.dst with
 | none=>true
 | some q=>!Pos.beq q p
def subB (a:AOp) (o:Oper):Bool:=o.op.operands.toList.all fun
 | .tmp t=>(wDW (wCF a)).any fun p=>nD p.nat (t + 1)
 | _=>true
def kdOK (a:AO):Bool:=wCz a.kd || (a.dst.isSome && (nD a.kd 1 || (nD a.kd 3 || ((nD a.kd 6 && nD (kdA a.op) 3) || ((nD a.kd 4 && wOY a.op) || (kP 8 a.kd && nD (kdA a.op) 1))))))
def zld (m kd:Nat):Nat->List AO->Bool
 | _,[]=>true
 | n,b :: d=>(!Nat.beq b.kd 0 || (m.testBit b.ix || nR (n + 8) kd)) && zld m kd (match wCz b.kd with | true=>n + 1 | false=>n) d
def zop (m:Nat) (l:List Oper) (d:List AO) (a:AO) (t:List AO):Bool :=
 (!wCz a.kd || d.all fun b=>m.testBit b.ix) &&
 ((match a.dst with | none=>true | some p=>d.all (fun b=>dne b p) && t.all (fun b=>dne b p)) &&
 ((wDF a).all (fun p=>dne a p && (t.all (fun b=>dne b p) && d.all (fun b=>dne b p || (m.testBit b.ix && (!(nD a.kd 1 || (nD a.kd 3 || kP 8 a.kd)) || !(nD b.kd 4 || nD b.kd 6)))))) &&
 ((!Nat.beq a.kd 1 || d.all fun b=>!Nat.beq b.kd 0 || m.testBit b.ix) && (!Nat.ble 8 a.kd || zld m a.kd 0 d) &&
 (t.all (fun b=>!Nat.beq b.ix a.ix) &&
 (kdOK a && (match l[a.ix]? with | none=>false | some o=>!wCQ o && subB a.op o))))))
def zgo (an:List Nat) (l:List Oper) (d:List AO):List AO->Bool
 | []=>true
 | a :: t=>zop (an.getD a.ix 0) l d a t && zgo an l (a :: d) t
def wTG (a:AO):Bool:=nD a.kd 0 && (match a.op with | .mv _=>true | _=>false)
def wTH:List AO->List AO
 | []=>[]
 | a :: t=>match wTG a with
  | true=>[]
  | false=>a :: wTH t
def wRH:List AO->List AO
 | []=>[]
 | a :: t=>match wTG a with
  | true=>a :: t
  | false=>wRH t
theorem wSG:∀ os:List AO,os=wTH os ++ wRH os
 | []=>rfl
 | a :: t=>by
  unfold wTH wRH
  cases wTG a with
  | true=>rfl
  | false=>exact congrArg (a :: ·) (wSG t)
def ztl (an:List Nat) (l:List Oper) (os:List AO):Bool :=
 ((wRH os).all (fun a=>nR a.kd 8) && (wTH os).all fun a=>nR a.kd 8 || ((wDF a).all (fun p=>(wRH os).all fun b=>dne b p) && (match a.dst with | some p=>(wRH os).all fun b=>dne b p | none=>true))) && (zgo an l [] (wTH os) && (zgo an l [] (wRH os) && (wRH os).all fun b=>(wTH os).all fun a=>!Nat.beq a.ix b.ix && (an.getD b.ix 0).testBit a.ix))
def chkZ (l:List Oper) (os:List AO):Bool :=
 (kH l.length).all (fun i=>(prI l i).all (nR · i)) && ((kH l.length).all (fun i=>os.any fun a=>nD a.ix i) && (zgo (wSF [] l) l [] os || ztl (wSF [] l) l os))
def wQo (l:List AO):Nat:=l.countP fun b=>wCz b.kd
structure ZOK (P:Program) (N:Nat) (l:List Oper) (os:List AO):Prop where
 ao:∀ a ∈ os,wIZ P N l a=true
 one:os.Pairwise fun a b=>a.ix ≠ b.ix
 pr:∀ i,i < l.length->∀ j ∈ prI l i,j < i
 anc:∀ s a t,os=s ++ a :: t->wCz a.kd=true->∀ b ∈ s,wMv l b.ix a.ix
 wr:∀ s a t,os=s ++ a :: t->∀ p,a.dst=some p->∀ b ∈ s ++ t,b.dst ≠ some p
 rd:∀ s a t,os=s ++ a :: t->∀ p ∈ wDF a,∀ b ∈ a :: t,b.dst ≠ some p
 rdS:∀ a ∈ os,∀ p ∈ wDF a,∀ b ∈ os,b.dst=some p->wMv l b.ix a.ix
 kd:∀ a ∈ os,wCz a.kd=true \/ (a.dst ≠ none/\(a.kd=1 \/ a.kd=3 \/ (a.kd=6/\kdA a.op=3) \/ (a.kd=4/\wOY a.op=true) \/ (8 <= a.kd/\kdA a.op=1)))
 cl:∀ a ∈ os,a.kd=1 \/ a.kd=3 \/ 8 <= a.kd->∀ p ∈ wDF a,∀ b ∈ os,b.dst=some p->b.kd ≠ 4/\b.kd ≠ 6
 sel:∀ a ∈ os,∀ o,l[a.ix]?=some o->wCQ o=false
 sub:∀ a ∈ os,∀ o,l[a.ix]?=some o->Sub a.op o
 ld:∀ s a t,os=s ++ a :: t->a.kd=1->∀ b ∈ s,b.kd=0->wMv l b.ix a.ix
 ld8:∀ s a t,os=s ++ a :: t->8 <= a.kd->∀ s1 b s2,s=s1 ++ b :: s2->b.kd=0->wMv l b.ix a.ix \/ wQo s2 + 8 < a.kd
theorem wSH {m kd:Nat}:∀ (x:List AO) (b:AO) (y:List AO) (n:Nat),zld m kd n (x ++ b :: y)=true->b.kd=0->m.testBit b.ix=true \/ n + wQo x + 8 < kd
 | [],b,y,n,h,h0=>by
  rw [nX,zld,h0] at h
  simp only [nA,nO,nH] at h
  rcases h.1 with g | g | g
  ·exact absurd g (by decide)
  ·exact .inl g
  ·exact .inr g
 | c :: x,b,y,n,h,h0=>by
  rw [nw,zld] at h
  simp only [nA] at h
  have:=wSH x b y _ h.2 h0
  refine this.imp id fun h=>?_
  unfold wQo at h ⊢
  rw [List.countP_cons]
  cases hf:wCz c.kd <;> rw [hf] at h <;> simp only [if_true,if_false,nS] at h ⊢ <;> omega
theorem Pos.beq_self:∀ p:Pos,p.beq p=true
 | .H=>rfl
 | .O p=>Pos.beq_self p
 | .I p=>Pos.beq_self p
theorem wIb {b:AO} {p:Pos} (h:dne b p=true):b.dst ≠ some p:=by
 intro e
 unfold dne at h
 rw [e] at h
 simp [Pos.beq_self] at h
theorem wSI {an:List Nat} {l:List Oper}:∀ (os d:List AO),zgo an l d os=true->∀ s a t,os=s ++ a :: t->zop (an.getD a.ix 0) l (s.reverse ++ d) a t=true
 | [],d,_,s,a,t,e=>by simp at e
 | b :: os,d,h,[],a,t,e=>by
  simp only [nX,nE] at e
  obtain ⟨rfl,rfl⟩:=e
  simp only [zgo,nA] at h
  exact h.1
 | b :: os,d,h,c :: s,a,t,e=>by
  simp only [nw,nE] at e
  obtain ⟨rfl,rfl⟩:=e
  simp only [zgo,nA] at h
  have:=wSI (s ++ a :: t) (b :: d) h.2 s a t rfl
  simpa using this
theorem wUq {α:Type} {R:α->α->Prop}:∀ (l:List α),(∀ s a t,l=s ++ a :: t->∀ b ∈ t,R a b)->l.Pairwise R
 | [],_=>List.Pairwise.nil
 | a :: l,h=>List.pairwise_cons.2 ⟨fun b hb=>h [] a l rfl b hb,wUq l fun s b t e=>h (a :: s) b t (by rw [e];rfl)⟩
theorem wMw {P:Program} {N:Nat} {l:List Oper} {os:List AO} (hao:∀ a ∈ os,wIZ P N l a=true) (hpr:∀ i,i < l.length->∀ j ∈ prI l i,j < i) (hz:zgo (wSF [] l) l [] os=true):ZOK P N l os:=by
 have han:∀ i x,((wSF [] l).getD i 0).testBit x=true->wMv l x i:=wMF hpr l [] [] rfl rfl fun i x h=>by simp at h
 have key:∀ s a t,os=s ++ a :: t->zop ((wSF [] l).getD a.ix 0) l s.reverse a t=true:=fun s a t e=>by
  have:=wSI os [] hz s a t e
  rwa [List.append_nil] at this
 have wNo:∀ s a t,os=s ++ a :: t ->
   (wCz a.kd=true->∀ b ∈ s,wMv l b.ix a.ix)/\(∀ p,a.dst=some p->∀ b ∈ s ++ t,b.dst ≠ some p) /\
   (∀ p ∈ wDF a,(∀ b ∈ a :: t,b.dst ≠ some p)/\∀ b ∈ s,b.dst=some p->wMv l b.ix a.ix/\(a.kd=1 \/ a.kd=3 \/ 8 <= a.kd->b.kd ≠ 4/\b.kd ≠ 6)) /\
   ((a.kd=1->∀ b ∈ s,b.kd=0->wMv l b.ix a.ix)/\(8 <= a.kd->∀ s1 b s2,s=s1 ++ b :: s2->b.kd=0->wMv l b.ix a.ix \/ wQo s2 + 8 < a.kd))/\(∀ b ∈ t,a.ix ≠ b.ix)/\kdOK a=true/\(∀ o,l[a.ix]?=some o->wCQ o=false/\subB a.op o=true):=by
  intro s a t e
  have hk:=key s a t e
  unfold zop at hk
  simp only [nA,nW,List.mem_reverse,nO,na] at hk
  obtain ⟨k1,k2,k3,⟨k4,k8⟩,k5,k6,k7⟩:=hk
  refine ⟨fun hf b hb=>?_,fun p hp b hb=>?_,fun p hp=>⟨fun b hb=>?_,fun b hb hd=>?_⟩,⟨fun h1 b hb h0=>?_,fun h8 s1 b s2 es h0=>?_⟩,fun b hb he=>?_,k6,fun o ho=>?_⟩
  ·rcases k1 with k1 | k1
   ·rw [hf] at k1;cases k1
   ·exact han _ _ (k1 b hb)
  ·rw [hp] at k2
   simp only [nA,nW,List.mem_reverse] at k2
   rcases nM.1 hb with hb | hb
   ·exact wIb (k2.1 b hb)
   ·exact wIb (k2.2 b hb)
  ·obtain ⟨g1,g2,g3⟩:=k3 p hp
   rcases ny.1 hb with rfl | hb
   ·exact wIb g1
   ·exact wIb (g2 b hb)
  ·obtain ⟨g1,g2,g3⟩:=k3 p hp
   rcases g3 b hb with g | ⟨g,g'⟩
   ·exact absurd hd (wIb g)
   ·refine ⟨han _ _ g,fun hk=>?_⟩
    rcases g' with g' | g'
    ·rcases hk with hk | hk | hk
     ·rw [hk] at g';exact absurd g' (by decide)
     ·rw [hk] at g';exact absurd g' (by decide)
     ·simp only [Bool.or_eq_false_iff] at g'
      have h8:kP 8 a.kd=true:=by rw [nN];exact hk
      rw [g'.2.2] at h8
      cases h8
    ·constructor <;> intro h4 <;> rw [h4] at g' <;> exact absurd g' (by decide)
  ·rcases k4 with k4 | k4
   ·rw [h1] at k4;exact absurd k4 (by decide)
   ·rcases k4 b hb with g | g
    ·rw [h0] at g;exact absurd g (by decide)
    ·exact han _ _ g
  ·rcases k8 with k8 | k8
   ·rw [<- Bool.not_eq_true,nN] at k8
    exact absurd h8 k8
   ·rw [es,List.reverse_append,List.reverse_cons,kA] at k8
    rcases wSH s2.reverse b (s1.reverse) 0 (by simpa using k8) h0 with g | g
    ·exact .inl (han _ _ g)
    ·refine .inr ?_
     unfold wQo at g ⊢
     rw [List.countP_reverse] at g
     omega
  ·have:=k5 b hb
   rw [he] at this
   simp at this
  ·rw [ho] at k7
   simpa using k7
 have mem:∀ a ∈ os,∃ s t,os=s ++ a :: t:=fun a ha=>List.append_of_mem ha
 refine ⟨hao,wUq os fun s a t e=>(wNo s a t e).2.2.2.2.1,hpr,fun s a t e=>(wNo s a t e).1,fun s a t e=>(wNo s a t e).2.1,fun s a t e p hp=>((wNo s a t e).2.2.1 p hp).1,fun a ha p hp b hb hd=>?_,fun a ha=>?_,fun a ha hk p hp b hb hd=>?_,fun a ha o ho=>?_,fun a ha o ho=>?_,fun s a t e=>(wNo s a t e).2.2.2.1.1,fun s a t e=>(wNo s a t e).2.2.2.1.2⟩
 ·obtain ⟨s,t,e⟩:=mem a ha
  obtain ⟨g1,g2⟩:=(wNo s a t e).2.2.1 p hp
  rw [e] at hb
  rcases nM.1 hb with hb | hb
  ·exact (g2 b hb hd).1
  ·exact absurd hd (g1 b hb)
 ·obtain ⟨s,t,e⟩:=mem a ha
  have hk:=(wNo s a t e).2.2.2.2.2.1
  unfold kdOK at hk
  simp only [nO,nA] at hk
  rcases hk with hk | ⟨h1,hk⟩
  ·exact .inl hk
  ·refine .inr ⟨fun e=>(by rw [e] at h1;cases h1),?_⟩
   rcases hk with hk | hk | ⟨hk,h2⟩ | ⟨hk,h2⟩ | ⟨hk,h2⟩
   ·exact .inl (nB hk)
   ·exact .inr (.inl (nB hk))
   ·exact .inr (.inr (.inl ⟨nB hk,nB h2⟩))
   ·exact .inr (.inr (.inr (.inl ⟨nB hk,h2⟩)))
   ·exact .inr (.inr (.inr (.inr ⟨by rwa [nN] at hk,nB h2⟩)))
 ·obtain ⟨s,t,e⟩:=mem a ha
  obtain ⟨g1,g2⟩:=(wNo s a t e).2.2.1 p hp
  rw [e] at hb
  rcases nM.1 hb with hb | hb
  ·exact (g2 b hb hd).2 hk
  ·exact absurd hd (g1 b hb)
 ·obtain ⟨s,t,e⟩:=mem a ha
  exact ((wNo s a t e).2.2.2.2.2.2 o ho).1
 ·obtain ⟨s,t,e⟩:=mem a ha
  have h1:=((wNo s a t e).2.2.2.2.2.2 o ho).2
  unfold subB at h1
  rw [nW] at h1
  intro x hx
  have:=h1 (.tmp x) (by simpa using hx)
  simp only [List.any_eq_true] at this
  obtain ⟨p,g1,g2⟩:=this
  exact ⟨p,g1,by rw [nB g2];rfl⟩
structure ZAll (P:Program) (N:Nat) (l:List Oper) (os A B:List AO):Prop where
 eq:os=A ++ B
 za:ZOK P N l A
 zb:ZOK P N l B
 cross:∀ b ∈ B,∀ a ∈ A,a.ix ≠ b.ix/\wMv l a.ix b.ix
 low:∀ b ∈ B,b.kd < 8
 far:∀ a ∈ A,8 <= a.kd->∀ p,p ∈ wDF a \/ a.dst=some p->∀ b ∈ B,b.dst ≠ some p
 all:∀ i,i < l.length->∃ a ∈ os,a.ix=i
theorem wPr {P:Program} {N:Nat} {l:List Oper} {os:List AO} (hao:∀ a ∈ os,wIZ P N l a=true) (h:chkZ l os=true):∃ A B,ZAll P N l os A B:=by
 unfold chkZ at h
 rw [nA,nA,nO] at h
 obtain ⟨hpr0,hall0,hz⟩:=h
 simp only [nW,List.mem_range,nH,List.any_eq_true] at hpr0 hall0
 have hpr:∀ i,i < l.length->∀ j ∈ prI l i,j < i:=hpr0
 have hall:∀ i,i < l.length->∃ a ∈ os,a.ix=i:=fun i hi=>by
  obtain ⟨a,h1,h2⟩:=hall0 i hi
  exact ⟨a,h1,nB h2⟩
 have han:∀ i x,((wSF [] l).getD i 0).testBit x=true->wMv l x i:=wMF hpr l [] [] rfl rfl fun i x h=>by simp at h
 rcases hz with hz | hz
 ·exact ⟨os,[],by simp,wMw hao hpr hz,wMw (fun a ha=>by simp at ha) hpr rfl,fun b hb=>by simp at hb,fun b hb=>by simp at hb,fun a _ _ p _ b hb=>by simp at hb,hall⟩
 ·unfold ztl at hz
  simp only [nA,nW,nH,na] at hz
  obtain ⟨⟨h1,h5⟩,h2,h3,h4⟩:=hz
  have e:=wSG os
  refine ⟨wTH os,wRH os,e,wMw (fun a ha=>hao a (by rw [e];simp [ha])) hpr h2,wMw (fun a ha=>hao a (by rw [e];simp [ha])) hpr h3,fun b hb a ha=>⟨fun e=>?_,han _ _ (h4 b hb a ha).2⟩,h1,fun a ha h8 p hp b hb=>?_,hall⟩
  ·have:=(h4 b hb a ha).1
   rw [e] at this
   simp at this
  ·have h6:=h5 a ha
   simp only [nO,nA,nW,nH] at h6
   rcases h6 with h6 | ⟨h6,h7⟩
   ·omega
   ·rcases hp with hp | hp
    ·exact wIb (h6 p hp b hb)
    ·rw [hp] at h7
     simp only [nW] at h7
     exact wIb (h7 b hb)
theorem wKC {tb:Tr AF} {ex exY:Run} {σf:Tr AV} {h:AH}:∀ (x y:List AO) (n:Nat),wLY tb ex exY σf h n (x ++ y)=true->wLY tb ex exY σf h n x=true
 | [],_,_,_=>rfl
 | a :: x,y,n,hl=>by
  rw [nw,wFP] at hl
  rw [wFP]
  cases hf:wCz a.kd with
  | true =>
   rw [hf] at hl
   exact wKC x y _ hl
  | false =>
   rw [hf] at hl
   simp only [nA] at hl ⊢
   exact ⟨hl.1,wKC x y _ hl.2⟩
theorem wMG {tb:Tr AF} {ex exY:Run} {σf:Tr AV} {h:AH}:∀ (x:List AO) (a:AO) (y:List AO) (n:Nat),wLY tb ex exY σf h n (x ++ a :: y)=true->wCz a.kd=false->n + wQo x + 8 < a.kd->wJR tb ex exY σf h a=true
 | [],a,y,n,hl,hf,hn=>by
  rw [nX,wFP,hf] at hl
  simp only [nA] at hl
  have hb:nR (n + 8) a.kd=true:=by rw [nH];exact hn
  rw [hb] at hl
  exact hl.1
 | c :: x,a,y,n,hl,hf,hn=>by
  rw [nw,wFP] at hl
  unfold wQo at hn
  rw [List.countP_cons] at hn
  cases hc:wCz c.kd with
  | true =>
   rw [hc] at hl hn
   exact wMG x a y _ hl hf (by unfold wQo;simp only [if_true] at hn;omega)
  | false =>
   rw [hc] at hl hn
   simp only [nA] at hl
   exact wMG x a y _ hl.2 hf (by unfold wQo;simp only [if_false,nS] at hn;omega)
def LCK (tb:Tr AF) (ex exY:Run) (os:List AO) (σ0:Tr AV) (h0:AH) (σf:Tr AV):Prop :=
 ∀ s b t,os=s ++ b :: t->b.kd=0->∀ σ1 h1,wAs tb ex exY s σ0 h0=some (σ1,h1)->wLY tb ex exY σf h1 0 t=true
theorem wMH {tb:Tr AF} {ex exY:Run}:∀ (os:List AO) (σ:Tr AV) (h:AH) (r:Tr AV × AH),wPG tb ex exY os σ h=some r->wAs tb ex exY os σ h=some r/\LCK tb ex exY os σ h r.1
 | [],σ,h,r,hr=>by
  rw [wQw] at hr
  exact ⟨by rw [wBJ];exact hr,fun s b t e=>by simp at e⟩
 | o :: os,σ,h,r,hr=>by
  rw [wPH] at hr
  split at hr
  ·cases hr
  ·rename_i q hq
   split at hr
   ·cases hr
   ·rename_i r' hr'
    have e:r'=r:=by
     split at hr
     ·split at hr
      ·cases hr;rfl
      ·cases hr
     ·cases hr;rfl
    subst e
    obtain ⟨g1,g2⟩:=wMH os _ _ _ hr'
    have g0:∀ s,wAs tb ex exY (o :: s) σ h=wAs tb ex exY s q.1 q.2:=by
     intro s
     rw [wBS]
     unfold wSe at hq
     cases hw:wDa σ o.grd with
     | true =>
      rw [hw] at hq
      simp only at hq ⊢
      split at hq
      ·rename_i y hy
       cases hq
       rfl
      ·cases hq
     | false =>
      rw [hw] at hq
      cases hq
      rfl
    refine ⟨by rw [g0];exact g1,fun s b t e h0 σ1 h1 hs=>?_⟩
    cases s with
    | nil =>
     simp only [nX,nE] at e
     obtain ⟨rfl,rfl⟩:=e
     rw [wBJ] at hs
     cases hs
     have hb:nD o.kd 0=true:=by rw [h0];rfl
     rw [hb] at hr
     simp only at hr
     split at hr
     ·assumption
     ·cases hr
    | cons c s =>
     simp only [nw,nE] at e
     obtain ⟨rfl,rfl⟩:=e
     rw [g0] at hs
     exact g2 s b t rfl h0 σ1 h1 hs
theorem wMx {tb:Tr AF} {ex exY:Run} {os:List AO} {σ:Tr AV} {h:AH} {σf:Tr AV} (hk:∀ a ∈ os,a.kd < 8):LCK tb ex exY os σ h σf:=by
 intro s b t e _ σ1 h1 _
 have:∀ (l:List AO) (n:Nat),(∀ a ∈ l,a.kd < 8)->wLY tb ex exY σf h1 n l=true:=by
  intro l
  induction l with
  | nil=>intro n _;rfl
  | cons a l ih =>
   intro n hl
   rw [wFP]
   have ha:=hl a (by simp)
   have hb:nR (n + 8) a.kd=false:=by rw [<- Bool.not_eq_true,nH];omega
   cases wCz a.kd with
   | true=>exact ih _ fun b hb=>hl b (by simp [hb])
   | false =>
    simp only [hb,Bool.true_and]
    exact ih _ fun b hb=>hl b (by simp [hb])
 exact this t 0 fun a ha=>hk a (by rw [e];simp [ha])
end
end Go.KX
namespace Go.KX
noncomputable section
open Go.RowKit Go.KL
def kdAt (i:Nat):List AO->Nat
 | []=>0
 | a :: os=>match nD a.ix i with
  | true=>a.kd
  | false=>kdAt i os
def lazyA (os:List AO):Bool:=os.any fun a=>nR 3 a.kd
def chkR (P:Program) (N:Nat) (os:List AO) (l:List Oper) (draw:Bool):Bool :=
 let ks:=(kH l.length).map fun i=>kdAt i os
 os.all (fun a=>wIZ P N l a && nD (kOf ks a.ix) a.kd) && (match draw with
  | true=>(match lazyA os with
   | true=>os.all (fun a=>nR a.kd 8) && chkZ l os
   | false=>wOd l ks (wLD os))
  | false=>inOrder 0 (wLD os) l.length)
def wNq (N:Nat):List Pos->List Nat->Bool
 | [],[]=>true
 | t :: ts,p :: ps=>(nD t.nat (p + 1) && nR p N) && wNq N ts ps
 | _,_=>false
theorem wMy {N:Nat}:∀ {ts:List Pos} {ps:List Nat},wNq N ts ps=true->ts.map Pos.nat=ps.map (· + 1)/\∀ x ∈ ps,x < N
 | [],[],_=>by simp
 | t :: ts,p :: ps,h=>by
  simp only [wNq,nA,nH] at h
  obtain ⟨⟨h1,h2⟩,h3⟩:=h
  obtain ⟨h4,h5⟩:=wMy h3
  refine ⟨by simp [h4,nB h1],?_⟩
  intro x hx
  rcases ny.1 hx with rfl | hx
  ·exact h2
  ·exact h5 x hx
 | [],_ :: _,h=>by simp [wNq] at h
 | _ :: _,[],h=>by simp [wNq] at h
theorem wMz {μ:Mu}:∀ {ts:List Pos} {ns:List Nat} {σA σB:Tr AV} {σ:Env} {as:List AV} {vs:List Value},wSd σA ts as=some σB->ts.map Pos.nat=ns.map (· + 1)->RvL μ as vs->EnvR μ σA σ->EnvR μ σB (wQm σ ns vs)/\ns.length=vs.length
 | [],ns,σA,σB,σ,as,vs,hs,hn,hv,hE=>by
  cases ns with
  | cons _ _=>simp at hn
  | nil =>
   cases as with
   | cons _ _=>simp [wSd] at hs
   | nil=>cases hv;simp only [wSd,nl] at hs;subst hs;exact ⟨hE,rfl⟩
 | t :: ts,ns,σA,σB,σ,as,vs,hs,hn,hv,hE=>by
  cases ns with
  | nil=>simp at hn
  | cons n ns =>
   cases as with
   | nil=>simp [wSd] at hs
   | cons a as =>
    obtain ⟨v,ws,h1,h2,rfl⟩:=hv
    simp only [nK,nE] at hn
    have hp:=hE.put (p:=t) h1
    have e:t.nat - 1=n:=by omega
    rw [e] at hp
    obtain ⟨g1,g2⟩:=wMz (ts:=ts) (ns:=ns) (σA:=σA.set t a) (σ:=upd σ n v) (by simpa [wSd] using hs) hn.2 h2 hp
    exact ⟨g1,by simp [g2]⟩
def wGL (P:Program) (N:Nat):AC->Code->Bool
 | .skip,.skip=>true
 | .skip,.label _=>true
 | .rg os,.region _ ops draw=>chkR P N os ops.toList draw
 | .rl os,.region _ ops draw=>draw && (os.all (fun a=>wIZ P N ops.toList a) && chkZ ops.toList os)
 | .seq a b,.seq c d=>wGL P N a c && wGL P N b d
 | .cond x a b,.cond y c d=>wCu x y && (wGL P N a c && wGL P N b d)
 | .block i a,.block j c=>nD i j && wGL P N a c
 | .loop a,.loop c=>wGL P N a c
 | .scope a,.scope c=>wGL P N a c
 | .rf g t asg body,.rangeFunc g' ps asg' body'=>wCu g g' && (wNq N t ps.toList && (wGL P N asg asg' && wGL P N body body'))
 | .exit i,.exit j=>nD i j
 | .ret,.ret=>true
 | _,_=>false
def CC (P:Program):Chk:=fun a c N=>wGL P N a c=true
section
variable {P:Program} {tb:Tr AF} {μ μ' μ'':Mu} {w w' w'':World} {h h' h'':AH} {σ:Env} {σA:Tr AV}
def Mk (μ:Mu) (w:World) (n0:Nat) (D:List Deferred):Prop:=∃ rbs:List Nat,D=rbs.map mark/\rbs.Nodup/\∀ rb ∈ rbs,Dfr w rb/\n0 <= rb/\∀ p c,μ p=some c->c.1 ≠ rb
theorem Mk.nil (μ:Mu) (w:World) (n0:Nat):Mk μ w n0 []:=⟨[],rfl,by simp,by simp⟩
theorem Mk.ext {n0 fl:Nat} {D:List Deferred} (M:Mk μ w n0 D) (E:Ext μ fl w μ' w'):Mk μ' w' n0 D:=by
 obtain ⟨rbs,h1,h2,h3⟩:=M
 refine ⟨rbs,h1,h2,fun rb hrb=>?_⟩
 obtain ⟨g1,g2,g3⟩:=h3 rb hrb
 refine ⟨g1.keep E.keep fun ⟨p,d,q1,q2,_⟩=>g3 p d q1 q2,g2,fun p c hp=>?_⟩
 rcases E.new p c hp with q | ⟨p',d,q1,q2,_⟩ | q
 ·exact g3 p c q
 ·rw [<- q2];exact g3 p' d q1
 ·have:=g1.lt;omega
def PostX (P:Program) (μ:Mu) (fl:Pos) (w:World) (n0:Nat) (rr:Option Nat) (D:List Deferred) (e:Ex) (σA':Tr AV) (h':AH):wEB:=fun D' e' σ' w' =>
 e'=exC e/\∃ μ',Ext μ fl.nat w μ' w'/\Sim (CC P) P μ' h' w'/\EnvR μ' σA' σ'/\Mk μ' w' n0 D'/\h'.fl=fl/\(rr.isSome=true->D'=D)
def wJa (P:Program) (ex:Run) (r:Bool):Prop:=∀ c σA h e σA' h',ex c σA h=some (e,σA',h')->∀ code N,wGL P N c code=true->∀ (rr:Option Nat) (μ:Mu) (σ:Env) (w:World) (D:List Deferred) (n0:Nat),
 rr.isSome=r->Sim (CC P) P μ h w->EnvR μ σA σ->Mk μ w n0 D->n0 <= w.heap.size->CK rr N P code (PostX P μ h.fl w n0 rr D e σA' h') D σ w
def wPs (P:Program) (ex:Run) (r:Bool) (m:Nat):Prop:=∀ c σA h e σA' h',ex (.loop c) σA h=some (e,σA',h')->∀ code N,wGL P N c code=true->∀ (rr:Option Nat) (μ:Mu) (σ:Env) (w:World) (D:List Deferred) (n0:Nat),
 rr.isSome=r->Sim (CC P) P μ h w->EnvR μ σA σ->Mk μ w n0 D->n0 <= w.heap.size->∀ a,Rep N D a σ->Code.roundsIn (WF rr) 0 P code (wJm N (PostX P μ h.fl w n0 rr D e σA' h')) m a w
theorem PostX.trans {fl:Pos} {n0:Nat} {rr:Option Nat} {D D1 D':List Deferred} {e:Ex} {e':Exit} {σA':Tr AV} {σ':Env} (E:Ext μ fl.nat w μ' w') (hD:rr.isSome=true->D1=D) (hP:PostX P μ' fl w' n0 rr D1 e σA' h' D' e' σ' w''):PostX P μ fl w n0 rr D e σA' h' D' e' σ' w'':=by
 obtain ⟨h1,μ2,h2,h3,h4,h5,h6,h7⟩:=hP
 exact ⟨h1,μ2,E.trans h2,h3,h4,h5,h6,fun hr=>(h7 hr).trans (hD hr)⟩
theorem wIc {F:Fence} {n:Nat} {c:Code} {Q Q':Exit->Act->World->Prop} (hQ:∀ e a w,Q e a w->Q' e a w):∀ (m:Nat) (a:Act) (w:World),Code.roundsIn F n P c Q m a w->Code.roundsIn F n P c Q' m a w
 | 0,_,_,h=>h.elim
 | m + 1,a,w,h=>by
  rw [roundsIn_succ] at h ⊢
  refine wpIn_mono h fun e a w q=>?_
  cases e with
  | normal=>exact wIc hQ m a w q
  | _=>exact hQ _ _ _ q
theorem Ext.drew (μ:Mu) (fl:Nat) (w:World):Ext μ fl w μ { w with drawn:=w.drawn + 1 }:=⟨Mu.Le.refl μ,fun _ _ h=>.inl h,(Keep.drew w).weak fun _ _ h=>h.elim⟩
theorem Sim.keepX {C:Chk} {X:Nat->Prop} (S:Sim C P μ h w) (K:Keep w w' X) (hX:∀ p c,μ p=some c->¬ X c.1):Sim C P μ h w' :=
 ⟨S.nx,fun p c hp=>nQ (S.lt p c hp) K.size,S.inj,fun p b hb=>let ⟨c,h1,h2⟩:=S.at_ p b hb;⟨c,h1,h2.keep K (hX p c h1)⟩⟩
def wFF (P:Program):List AR->List ResultVar->Bool
 | [],[]=>true
 | .t p :: l,.tmp t :: k=>nD p.nat (t + 1) && wFF P l k
 | .c p n :: l,.cell a t :: k=>nD p.nat (a + 1) && ((match n with | none=>wRC P t false | some n=>wRC P t true && szT P t n) && wFF P l k)
 | _,_=>false
def chkF (P:Program) (k:Nat) (af:AF):Bool:=match P.funcs[k]? with
 | none=>false
 | some fn=>match fn.body with
  | none=>false
  | some c => nD fn.ntmps af.n && (wFF P af.res fn.results.toList && (!(fn.name == "runtime.NumGoroutine") && wGL P fn.ntmps af.body c))
theorem wMI {C:Chk} (hE:EnvR μ σA σ) (S:Sim C P μ h w):∀ {l:List AR} {k:List ResultVar} {vs:List AV},wFF P l k=true->wUC σA h l=some vs->∃ VS,RvL μ vs VS/\wUA P w σ k VS
 | [],[],vs,_,hr=>by simp only [wUC] at hr;cases hr;exact ⟨[],rfl,trivial⟩
 | .t p :: l,.tmp t :: k,vs,hc,hr=>by
  simp only [wFF,nA] at hc
  simp only [wUC,res1] at hr
  split at hr
  ·rename_i vs' hvs
   cases hr
   obtain ⟨VS,g1,g2⟩:=wMI hE S hc.2 hvs
   have e:=nB hc.1
   have g:=hE p
   rw [e] at g
   exact ⟨_,wCD g g1,rfl,g2⟩
  ·cases hr
 | .c p n :: l,.cell a t :: k,vs,hc,hr=>by
  simp only [wFF,nA] at hc
  obtain ⟨c1,c2,c3⟩:=hc
  have e:=nB c1
  have g:=hE p
  rw [e] at g
  rw [wUC] at hr
  split at hr
  ·rename_i v hv
   split at hr
   ·rename_i vs' hvs
    cases hr
    obtain ⟨VS,g1,g2⟩:=wMI hE S c3 hvs
    simp only [res1] at hv
    split at hv
    ·rename_i b off hb
     split at hv
     ·rename_i cl hcl
      obtain ⟨c,ws,q1,q2,q3⟩:=wFi hcl S
      rw [hb] at g
      obtain ⟨c',k1,k2⟩:=g
      rw [q1] at k1;cases k1
      have k2:σ a=.pointer (some ⟨c.1,off,none⟩):=k2
      split at hv
      ·rw [wHY] at hv
       obtain ⟨cv,r1,r2⟩:=wGE q2 hv
       refine ⟨_,wCD r2 g1,⟨_,k2,?_⟩,g2⟩
       simp [loadVar,wFR c2,load,Sem.run,q3 w (Keep.refl w _) _ _ r1]
      ·rename_i n
       simp only [nA] at c2
       obtain ⟨r,hr3,rfl⟩:=wEL hv
       obtain ⟨r1,r2⟩:=wGF hr3 q2
       refine ⟨_,wCD ⟨_,r1,rfl⟩ g1,⟨_,k2,?_⟩,g2⟩
       have:=KL.run_loadCells (P:=P) (w:=w) (b:=c.1) (off:=off) (n:=n) ((ws.drop off).take n) (by simp;omega) fun j u hu=>q3 w (Keep.refl w _) _ _ (wFN rfl j u hu)
       simp [loadVar,wFR c2.1,wEZ c2.2,this]
     ·cases hv
    ·cases hv
   ·cases hr
  ·cases hr
 | [],_ :: _,_,hc,_=>by simp [wFF] at hc
 | .t _ :: _,[],_,hc,_=>by simp [wFF] at hc
 | .c _ _ :: _,[],_,hc,_=>by simp [wFF] at hc
 | .t _ :: _,.cell _ _ :: _,_,hc,_=>by simp [wFF] at hc
 | .c _ _ :: _,.tmp _ :: _,_,hc,_=>by simp [wFF] at hc
theorem wTI {C:Chk} {l:List AR} {rs:Array ResultVar} {v:AV} (hE:EnvR μ σA σ) (S:Sim C P μ h w) (hc:wFF P l rs.toList=true) (hr:wQl σA h l=some (v,h')):h'=h/\∃ cv,Rv μ v cv/\(wDU rs σ).run P w=.ok cv w:=by
 unfold wQl at hr
 split at hr
 ·rename_i vs hvs
  cases hr
  refine ⟨rfl,?_⟩
  obtain ⟨VS,g1,g2⟩:=wMI hE S hc hvs
  have hrs:rs=rs.toList.toArray:=by simp
  unfold tupA
  split
  ·rename_i v
   obtain ⟨cv,ws,q1,q2,q3⟩:=g1
   cases q2
   subst q3
   refine ⟨cv,q1,?_⟩
   have hl:∃ r,rs=#[r]:=by
    cases hq:rs.toList with
    | nil=>rw [hq] at g2;exact g2.elim
    | cons r k =>
     cases k with
     | nil=>exact ⟨r,nJ (by simpa using hq)⟩
     | cons r' k=>rw [hq] at g2;cases r <;> cases r' <;> exact g2.2.elim
   obtain ⟨r,rfl⟩:=hl
   exact wFl g2
  ·rename_i hne
   refine ⟨_,⟨VS,g1,rfl⟩,?_⟩
   rw [hrs]
   refine wKl g2 ?_
   have hl:=wDl g1
   cases hb:VS.length == 1 with
   | false=>rfl
   | true =>
    have:vs.length=1:=by rw [<- hl];exact eq_of_beq hb
    obtain ⟨v,hv⟩:=List.length_eq_one_iff.1 this
    exact absurd hv (hne v)
 ·cases hr
def wKD (P:Program) (tb:Tr AF):Prop:=∀ p af,tb.get p=some af->chkF P (p.nat - 1) af=true
theorem wPt (T:wKD P tb) {ex:Run} (HE:wJa P ex false):wHZ (CC P) P tb ex:=by
 intro f args h v h' hr
 unfold wKq at hr
 split at hr
 ·rename_i af haf
  have hcf:=T f af haf
  unfold chkF at hcf
  split at hcf
  ·cases hcf
  ·rename_i fn hfn
   split at hcf
   ·cases hcf
   ·rename_i c hbody
    simp only [nA,na] at hcf
    obtain ⟨c1,c2,c3,c4⟩:=hcf
    refine ⟨fun a w=>?_,fun μ w vs S hv=>?_⟩
    ·have c3' : ¬ fn.name = "runtime.NumGoroutine" := by simpa using c3
     simp [callFunc,program,Sem.run,hfn,hbody,c3']
    ·split at hr
     ·rename_i hle
      have hle:=nL hle
      have e1:=nB c1
      have key:∀ e σA' h1,ex af.body (wNh args .H .e) h=some (e,σA',h1)->(e=.nrm \/ e=.ret)->wQl σA' h1 af.res=some (v,h')->Gv P (f.nat - 1) vs w fun cv w'=>∃ μ',Ext μ h.fl.nat w μ' w'/\Sim (CC P) P μ' h' w'/\Rv μ' v cv/\h'.fl=h.fl:=by
       intro e σA' h1 hx he hres
       refine Gv.ofM hfn hbody rfl rfl (by rw [wDl hv,<- wFQ,e1];exact hle) ?_
       refine (HE _ _ _ _ _ _ hx c fn.ntmps c4 none μ (wRs vs) w [] w.heap.size rfl S (wSf hv) (Mk.nil μ w _) (nG _)).mono ?_
       rintro D' e' σ' w' ⟨rfl,μ',q1,q2,q3,q4,q5,_⟩
       obtain ⟨rbs,m1,m2,m3⟩:=q4
       have fin:∃ rbs:List Nat,D'=rbs.map mark/\rbs.Nodup/\(∀ rb ∈ rbs,Dfr w' rb)/\∀ w2,Keep w' w2 (· ∈ rbs)->w2.heap.size=w'.heap.size->∃ cv,(wDU fn.results σ').run P w2=.ok cv w2/\∃ μ',Ext μ h.fl.nat w μ' w2/\Sim (CC P) P μ' h' w2/\Rv μ' v cv/\h'.fl=h.fl:=by
        refine ⟨rbs,m1,m2,fun rb hrb=>(m3 rb hrb).1,fun w2 K hs=>?_⟩
        have S2:=q2.keepX K fun p c hp hm=>(m3 _ hm).2.2 p c hp rfl
        obtain ⟨rfl,cv,r1,r2⟩:=wTI q3 S2 c2 hres
        refine ⟨cv,r2,μ',⟨q1.mono,q1.new,?_⟩,S2,r1,q5⟩
        exact q1.keep.step K fun i hi hm=>absurd (m3 i hm).2.1 (Nat.not_le.2 hi)
       rcases he with rfl | rfl
       ·exact fin
       ·exact fin
      split at hr
      ·exact key _ _ _ (by assumption) (.inl rfl) hr
      ·exact key _ _ _ (by assumption) (.inr rfl) hr
      ·cases hr
     ·cases hr
 ·cases hr
theorem wRI {ex:Run} (HE:wJa P ex true):wGJ (CC P) P ex:=by
 intro b args h v h' hr
 unfold wKr at hr
 split at hr
 ·rename_i σA t asg body hB
  intro μ w xv c S hx hc
  split at hr <;> first | (cases hr;done) | skip
  rename_i σS hset
  split at hr <;> first | (cases hr;done) | skip
  rename_i σ1 h1 hasg
  split at hr <;> first | (cases hr;done) | skip
  rename_i σx tx ax bx hB1
  split at hr <;> first | (cases hr;done) | skip
  rename_i h2 hput2
  split at hr <;> first | (cases hr;done) | skip
  rename_i e σ3 h3 hbody
  split at hr <;> first | (cases hr;done) | skip
  rename_i σy ty ay by_ hB3
  split at hr <;> first | (cases hr;done) | skip
  rename_i h4 hput4
  cases hr
  obtain ⟨c',g1,g2⟩:=S.at_ b _ hB
  rw [hc] at g1;cases g1
  have L:wNj (CC P) μ w c σA t asg body .ready:=g2
  obtain ⟨hSE,hSl⟩:=wMz hset L.ht hx L.env
  refine Yd.of L.at_ L.tN hSl fun σ0 hσ0=>?_
  have hE0:EnvR μ σS σ0:=by
   intro p
   rw [hσ0];exact hSE p
  refine (HE _ _ _ _ _ _ hasg c.g.ac c.g.N L.asg (some c.1) μ σ0 w [] 0 rfl S hE0 (Mk.nil μ w _) (Nat.zero_le _)).mono ?_
  rintro D' e' σ' w1 ⟨rfl,μ1,q1,q2,q3,q4,q5,q6⟩
  have hc1:=q1.mono b c hc
  obtain ⟨c',r1,r2⟩:=q2.at_ b _ hB1
  rw [hc1] at r1;cases r1
  have L1:wNj (CC P) μ1 w1 c σx tx ax bx .ready:=r2
  refine ⟨rfl,q6 rfl,L1.at_,fun w2 hl2 K hs=>?_⟩
  obtain ⟨s1,s2,s3⟩:=q2.put hput2 hB1 trivial hc1 K (B':=.loop σA t asg body .busy) ⟨hl2,L.env.mono q1.mono,L.ht,L.tN,L.asg,L.body⟩
  rw [q5] at s2 s3
  refine (HE _ _ _ _ _ _ hbody c.g.bc c.g.N L.body (some c.1) μ1 σ' w2 [] 0 rfl s1 q3 (Mk.nil μ1 w2 _) (Nat.zero_le _)).mono ?_
  rintro D'' e'' σ'' w3 ⟨rfl,μ3,t1,t2,t3,t4,t5,t6⟩
  rw [s3] at t1 t5
  have hc3:=t1.mono b c hc1
  obtain ⟨c',u1,u2⟩:=t2.at_ b _ hB3
  rw [hc3] at u1;cases u1
  have L3:wNj (CC P) μ3 w3 c σy ty ay by_ .busy:=u2
  have fin:∀ w4,LoopAt w4 c.1 c.g.N c.g.σ c.g.t c.g.ac c.g.bc c.g.rb c.g.fn (lsC e.done).1 (lsC e.done).2->Keep w3 w4 (·=c.1)->∃ μ',Ext μ h.fl.nat w μ' w4/\Sim (CC P) P μ' h' w4/\AV.bool e.go=.bool e.go/\h'.fl=h.fl:=by
   intro w4 hl4 K4
   obtain ⟨v1,v2,v3⟩:=t2.put hput4 hB3 trivial hc3 K4 (B':=.loop σA t asg body e.done) ⟨hl4,(L.env.mono q1.mono).mono t1.mono,L.ht,L.tN,L.asg,L.body⟩
   rw [t5] at v2 v3
   exact ⟨μ3,(q1.trans s2).trans (t1.trans v2),v1,rfl,v3⟩
  cases e with
  | nrm=>exact ⟨L3.at_,fun w4 hl K4 _=>fin w4 hl K4⟩
  | ret=>exact ⟨L3.at_,fun w4 hl K4 _=>fin w4 hl K4⟩
  | exit i=>exact ⟨L3.at_,fun w4 hl K4 _=>fin w4 hl K4⟩
 ·cases hr
end
end
end Go.KX
namespace Go.KX
open Go.RowKit Go.KL
theorem wMJ (b:AC) (exR:Run) (e:Ex) (σ:Tr AV) (h:AH):seqK b exR (e,σ,h)=(match e with | .nrm=>exR b σ h | e=>some (e,σ,h)):=by cases e <;> rfl
theorem wUF {x:R} {k:Ex × Tr AV × AH->R} {r:Ex × Tr AV × AH} (hr:Option.rec (motive:=fun _=>R) none k x=some r):∃ y,x=some y/\k y=some r:=by
 cases x with
 | none=>cases hr
 | some y=>exact ⟨y,rfl,hr⟩
structure Fr (h h':AH):Prop where
 nx:h.nx.nat <= h'.nx.nat
 fl:h'.fl=h.fl
 get:∀ p,p.nat < h.fl.nat->p.nat < h.nx.nat->h'.m.get p=h.m.get p
theorem Fr.refl (h:AH):Fr h h:=⟨nG _,rfl,fun _ _ _=>rfl⟩
theorem Fr.trans {a b c:AH} (h:Fr a b) (k:Fr b c):Fr a c :=
 ⟨nV h.nx k.nx,k.fl.trans h.fl,fun p h1 h2=>(k.get p (by rw [h.fl];exact h1) (nQ h2 h.nx)).trans (h.get p h1 h2)⟩
theorem Fr.push (h:AH) (B:AB):Fr h (h.push B):=by
 refine ⟨?_,rfl,fun p _ h2=>?_⟩
 ·show h.nx.nat <= h.nx.succ.nat
  rw [Pos.nat_succ];omega
 ·show (h.m.set h.nx B).get p=_
  rw [Tr.get_set,if_neg (fun e=>by subst e;omega)]
theorem Fr.put {h h':AH} {p:Pos} {B:AB} (hp:h.put p B=some h'):Fr h h':=by
 obtain ⟨h1,rfl⟩:=wJy hp
 refine ⟨nG _,rfl,fun q h2 _=>?_⟩
 show (h.m.set p B).get q=_
 rw [Tr.get_set,if_neg (fun e=>by subst e;omega)]
theorem Fr.setAt {h h':AH} {b:Pos} {off:Nat} {vs:List AV} (hs:KX.setAt h b off vs=some h'):Fr h h':=by
 unfold KX.setAt at hs
 split at hs
 ·split at hs
  ·exact Fr.put hs
  ·cases hs
 ·split at hs
  ·exact Fr.put hs
  ·cases hs
 ·cases hs
theorem wTJ {h h':AH} {o:Option AV} {v:AV} (hr:okV h o=some (v,h')):h'=h:=by
 cases o with
 | none=>cases hr
 | some x=>cases hr;rfl
theorem wJE {α:Type} {b:Bool} {x:Option α} {y:α} (hr:ifO b x=some y):x=some y:=by
 cases b with
 | true=>exact hr
 | false=>cases hr
section
variable {tb:Tr AF} {ex exY:Run} {σ:Tr AV} {h h':AH} {v:AV}
theorem wUr {T sz by_ m:Nat} {news:List AV} {x:AV} (hr:app h T sz by_ m news x=some (v,h')):Fr h h':=by
 unfold app at hr
 split at hr
 ·split at hr <;> first | (cases hr;exact Fr.refl _) | (cases hr;done)
 ·split at hr
  ·have hr:=wJE hr;cases hr;exact Fr.push _ _
  ·split at hr
   ·split at hr
    ·rename_i hs;cases hr;exact Fr.setAt hs
    ·cases hr
   ·have hr:=wJE hr
    split at hr
    ·cases hr;exact Fr.push _ _
    ·cases hr
  ·split at hr
   ·split at hr
    ·split at hr
     ·rename_i hs;cases hr;exact Fr.setAt hs
     ·cases hr
    ·have hr:=wJE hr
     split at hr
     ·rename_i hs;cases hr;exact (Fr.put hs).trans (Fr.push _ _)
     ·cases hr
   ·cases hr
  ·cases hr
theorem wSJ {z:List AV} {b:Pos} {off n:Nat} (hr:clr h z b off n=some (v,h')):Fr h h':=by
 unfold clr at hr
 split at hr
 ·cases hr;exact Fr.refl _
 ·have hr:=wJE hr
  split at hr
  ·rename_i hs;cases hr;exact Fr.setAt hs
  ·cases hr
def FrX (ex:Run):Prop:=∀ c σ h e σ' h',ex c σ h=some (e,σ',h')->Fr h h'
theorem wSK {l:List AR} (hr:wQl σ h l=some (v,h')):Fr h h':=by
 unfold wQl at hr
 split at hr
 ·cases hr;exact Fr.refl _
 ·cases hr
theorem wPu (HE:FrX ex) {f:Pos} {args:List AV} (hr:wKq tb ex f args h=some (v,h')):Fr h h':=by
 unfold wKq at hr
 split at hr
 ·split at hr
  ·split at hr
   ·rename_i h1;exact (HE _ _ _ _ _ _ h1).trans (wSK hr)
   ·rename_i h1;exact (HE _ _ _ _ _ _ h1).trans (wSK hr)
   ·cases hr
  ·cases hr
 ·cases hr
theorem wRJ (HY:FrX ex) {b:Pos} {args:List AV} (hr:wKr ex b args h=some (v,h')):Fr h h':=by
 unfold wKr at hr
 split at hr
 ·split at hr
  ·cases hr
  ·split at hr
   ·rename_i h1
    split at hr
    ·split at hr
     ·rename_i h2
      split at hr
      ·rename_i h3
       split at hr
       ·split at hr
        ·rename_i h4
         cases hr
         exact (HY _ _ _ _ _ _ h1).trans ((Fr.put h2).trans ((HY _ _ _ _ _ _ h3).trans (Fr.put h4)))
        ·cases hr
       ·cases hr
      ·cases hr
     ·cases hr
    ·cases hr
   ·cases hr
 ·cases hr
theorem wPv (HE:FrX ex) (HY:FrX exY) (op:AOp) (hr:opY op tb ex exY σ h=some (v,h')):Fr h h':=by
  cases op with
  | call x l =>
    have hr:wHX x l tb ex exY σ h=some (v,h'):=hr
    unfold wHX at hr
    split at hr
    · exact wPu HE hr
    · exact wRJ HY hr
    · cases hr
  | new T z=>cases hr;exact Fr.push _ _
  | box T x=>cases hr;exact Fr.push _ _
  | mkm=>cases hr;exact Fr.push _ _
  | mks T sz b z x y =>
    have hr:wIK T sz b z x y σ h=some (v,h'):=hr
    unfold wIK at hr
    split at hr
    · have hr:=wJE hr;cases hr;exact Fr.push _ _
    · cases hr
  | blds T n z ps =>
    have hr:wFO T n z ps σ h=some (v,h'):=hr
    unfold wFO at hr
    split at hr
    · cases hr;exact Fr.push _ _
    · cases hr
  | st n x y =>
    have hr:wRy n x y σ h=some (v,h'):=hr
    unfold wRy at hr
    split at hr
    · split at hr
      · split at hr
        · rename_i hs;cases hr;exact Fr.setAt hs
        · cases hr
      · cases hr
    · cases hr
  | mput two k x y z =>
    have hr:wHV two k x y z σ h=some (v,h'):=hr
    unfold wHV at hr
    split at hr
    · split at hr
      · split at hr
        · split at hr
          · rename_i hs;cases hr;exact Fr.put hs
          · cases hr
        · cases hr
      · cases hr
    · cases hr
  | mdel two k x y =>
    have hr:wHW two k x y σ h=some (v,h'):=hr
    unfold wHW at hr
    split at hr
    · split at hr
      · split at hr
        · split at hr
          · rename_i hs;cases hr;exact Fr.put hs
          · cases hr
        · cases hr
      · cases hr
    · cases hr
  | app T sz b x y =>
    have hr:wKn T sz b x y σ h=some (v,h'):=hr
    unfold wKn at hr
    split at hr
    · exact wUr (wJE hr)
    · cases hr
  | cpy sz x y =>
    have hr:wKo sz x y σ h=some (v,h'):=hr
    unfold wKo at hr
    split at hr
    · split at hr
      · have hr:=wJE hr
        split at hr
        · rename_i hs;cases hr;exact Fr.setAt hs
        · cases hr
      · cases hr
    · cases hr
  | clr z x =>
    have hr:wKp z x σ h=some (v,h'):=hr
    unfold wKp at hr
    split at hr
    · exact wSJ hr
    · exact wSJ hr
    · cases hr;exact Fr.refl _
    · cases hr;exact Fr.refl _
    · cases hr
  | bad=>cases hr
  | apz T sz b z x y =>
    have hr:wKs T sz b z x y σ h=some (v,h'):=hr
    unfold wKs at hr
    split at hr
    · split at hr
      · cases hr;exact Fr.refl _
      · have hr:=wJE hr;cases hr;exact Fr.push _ _
    · cases hr
  | _ =>
    have e:h'=h:=by
      dsimp only [opY] at hr
      first
        | exact wTJ hr
        | (simp only [wUB,wII,wQj,wJD,wIJ,wLi,wLj,wLk,wLl,wLm,wNg,wLn,wIL,wLo,wLp,wIM,wLq,wIN,wSc,wLr,wQk,wLs,wLt,wFq,wLu,wLv] at hr
           repeat' (split at hr)
           all_goals first
             | exact wTJ hr
             | (cases hr;rfl)
             | (cases hr;done)
             | exact wTJ (wJE hr)
             | (have hr2:=wJE hr;cases hr2;rfl))
    subst e
    exact Fr.refl _
theorem wSL (HE:FrX ex) (HY:FrX exY) (k:Nat) (op:AOp) (hr:opK k op tb ex exY σ h=some (v,h')):Fr h h':=by
 by_cases k2:nD k 2=true
 ·have hr:wRz op tb ex exY σ h=some (v,h'):=by
   have e:opK k op=wRz op:=by unfold opK;rw [k2]
   rw [e] at hr;exact hr
  unfold wRz at hr
  split at hr
  ·rename_i v0 h0 hq
   cases hr
   have F:=wPv HE HY op hq
   exact ⟨F.nx,rfl,fun p _ h2=>F.get p h2 h2⟩
  ·cases hr
 ·have e:opK k op=opY op:=by
   unfold opK
   cases hb:nD k 2 with
   | true=>exact absurd hb k2
   | false=>rfl
  rw [e] at hr
  exact wPv HE HY op hr
theorem wUs (HE:FrX ex) (HY:FrX exY) (op:AOp) (hr:wRz op tb ex exY σ h=some (v,h')):∀ p,p.nat < h.nx.nat->h'.m.get p=h.m.get p:=by
 unfold wRz at hr
 split at hr
 ·rename_i v0 h0 hq
  cases hr
  have F:=wPv HE HY op hq
  exact fun p h2=>F.get p h2 h2
 ·cases hr
theorem wJb (HE:FrX ex) (HY:FrX exY):∀ (l:List AO) (σ:Tr AV) (h:AH) (σ':Tr AV) (h':AH),wAs tb ex exY l σ h=some (σ',h')->Fr h h'
 | [],σ,h,σ',h',hr=>by
  rw [wBJ] at hr;cases hr;exact Fr.refl _
 | o :: os,σ,h,σ',h',hr=>by
  rw [wBS] at hr
  split at hr
  ·split at hr
   ·rename_i r hq
    exact (wSL HE HY _ _ hq).trans (wJb HE HY os _ _ _ _ hr)
   ·cases hr
  ·exact wJb HE HY os _ _ _ _ hr
theorem wPw {exR:Run} (HR:FrX exR) {b:AC} {r:Ex × Tr AV × AH} {e:Ex} {σ':Tr AV} (hr:seqK b exR r=some (e,σ',h')):Fr r.2.2 h':=by
 obtain ⟨e0,σ0,h0⟩:=r
 rw [wMJ] at hr
 cases e0 with
 | nrm=>exact HR _ _ _ _ _ _ hr
 | exit i=>cases hr;exact Fr.refl _
 | ret=>cases hr;exact Fr.refl _
theorem wTK {exR:Run} (HE:FrX ex) (HY:FrX exY) (HR:FrX exR) (c:AC) (f:Bool) {e:Ex} {σ':Tr AV} (hr:step c f tb ex exY exR σ h=some (e,σ',h')):Fr h h':=by
 cases c with
 | skip=>cases hr;exact Fr.refl _
 | rg l =>
  have hr:sRg l tb ex exY exR σ h=some (e,σ',h'):=hr
  unfold sRg at hr
  cases hq:wAs tb ex exY l σ h with
  | none=>rw [hq] at hr;cases hr
  | some y =>
   rw [hq] at hr
   cases hr
   exact wJb HE HY l _ _ _ _ hq
 | seq a b =>
  have hr:wUU a b exR σ h=some (e,σ',h'):=hr
  unfold wUU at hr
  obtain ⟨y,h1,h2⟩:=wUF hr
  exact (HR _ _ _ _ _ _ h1).trans (wPw HR h2)
 | cond c a b =>
  have hr:wPI c a b exR σ h=some (e,σ',h'):=hr
  unfold wPI at hr
  split at hr
  ·exact HR _ _ _ _ _ _ hr
  ·exact HR _ _ _ _ _ _ hr
  ·cases hr
 | block i a =>
  have hr:wMk i a exR σ h=some (e,σ',h'):=hr
  unfold wMk at hr
  obtain ⟨y,h1,h2⟩:=wUF hr
  obtain ⟨e0,σ0,h0⟩:=y
  refine (HR _ _ _ _ _ _ h1).trans ?_
  unfold wSB at h2
  cases e0 with
  | nrm=>cases h2;exact Fr.refl _
  | ret=>cases h2;exact Fr.refl _
  | exit j =>
   simp only at h2
   cases hb:nD j i with
   | true=>rw [hb] at h2;cases h2;exact Fr.refl _
   | false=>rw [hb] at h2;cases h2;exact Fr.refl _
 | loop a =>
  have hr:wPJ a exR σ h=some (e,σ',h'):=hr
  unfold wPJ at hr
  obtain ⟨y,h1,h2⟩:=wUF hr
  exact (HR _ _ _ _ _ _ h1).trans (wPw HR h2)
 | rf g t asg body =>
  have hr:sRf f g t asg body tb ex σ h=some (e,σ',h'):=hr
  unfold sRf at hr
  split at hr
  ·split at hr
   ·rename_i h1
    have F:=(Fr.push h (.loop σ t asg body .ready)).trans (wPu HE h1)
    split at hr
    ·split at hr
     ·rename_i h2;cases hr;exact F.trans (Fr.put h2)
     ·cases hr
    ·split at hr
     ·rename_i h2;cases hr;exact F.trans (Fr.put h2)
     ·cases hr
    ·cases hr
   ·cases hr
  ·cases hr
 | exit i=>cases hr;exact Fr.refl _
 | scope a=>exact HR _ _ _ _ _ _ hr
 | ret=>cases hr;exact Fr.refl _
 | rl l =>
  have hr:sRl l tb ex exY σ h=some (e,σ',h'):=hr
  rw [wSA] at hr
  split at hr
  ·rename_i y hq
   cases hr
   exact wJb HE HY l _ _ _ _ (wMH _ _ _ _ hq).1
  ·cases hr
theorem wGM (tb:Tr AF):∀ (n:Nat) (r:Bool),FrX (exec tb n r)
 | 0,r=>fun c σ h e σ' h' hr=>by cases hr
 | n + 1,r=>fun c σ h e σ' h' hr=>by
  rw [wKt] at hr
  exact wTK (wGM tb n false) (wGM tb n true) (wGM tb n r) c _ hr
end
end Go.KX
